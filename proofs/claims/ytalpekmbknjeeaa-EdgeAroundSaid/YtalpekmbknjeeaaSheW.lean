/- Sheets: what a sheet that may be is made of: its regions, in plain Lean. -/
import Derived.Test.YtalpekmbknjeeaaSheQ
set_option linter.all false
namespace Go.Proofs.YtalpekmbknjeeaaG
open Go Go.RowKit
def InR (r : TRect) (i j : Int) : Prop := r.Row ≤ i ∧ i < r.Row + r.Rows ∧ r.Col ≤ j ∧ j < r.Col + r.Cols
def Fits (s : TSheet) (r : TRect) : Prop := 0 ≤ r.Row ∧ 0 ≤ r.Col ∧ 1 ≤ r.Rows ∧ 1 ≤ r.Cols ∧ r.Row + r.Rows ≤ s.Heights.length ∧ r.Col + r.Cols ≤ s.Widths.length
structure Good (s : TSheet) : Prop where
  I : SheetI s
  hs : s.Heights.length ≤ 24
  ws : s.Widths.length ≤ 16
  ok : checkSh s = 0
  fits : ∀ r ∈ s.Merges, Fits s r
  apart : ∀ i k, k < i → i < s.Merges.length → meetS (s.Merges.getD k default) (s.Merges.getD i default) = false
  cells : ∀ c ∈ s.Cells, spotS c = cornerS (aroundS s c.Row c.Col)
theorem hasF_false {α : Type} {p : α → Bool} {l : List α} (h : hasF p l = false) : ∀ x ∈ l, p x = false := by
  rw [hasF_any] at h
  intro x hx
  have := List.any_eq_false.1 h x hx
  simpa using this
theorem range_false {p : Nat → Bool} {n : Nat} (h : (List.range n).any p = false) {i : Nat} (hi : i < n) : p i = false := by
  have := List.any_eq_false.1 h i (List.mem_range.2 hi)
  simpa using this
theorem ord_tiny {s : TSheet} (h : orderS s = true) : ∀ r ∈ s.Merges, tinyS r = false := by
  unfold orderS at h
  split at h
  · cases h
  · simp only [Bool.and_eq_true, Bool.not_eq_true'] at h
    exact hasF_false h.2
theorem meet_iff {a b : TRect} (ha : RectI a) (hb : RectI b) : meetS a b = true ↔ (1 ≤ a.Rows ∧ 1 ≤ b.Rows ∧ a.Row - b.Row < b.Rows ∧ b.Row - a.Row < a.Rows) ∧ (1 ≤ a.Cols ∧ 1 ≤ b.Cols ∧ a.Col - b.Col < b.Cols ∧ b.Col - a.Col < a.Cols) := by
  obtain ⟨a1, a2, a3, a4⟩ := ha
  obtain ⟨b1, b2, b3, b4⟩ := hb
  unfold meetS
  rw [shareS_eq a1 a3 b1 b3, shareS_eq a2 a4 b2 b4]
  simp only [Bool.and_eq_true, decide_eq_true_eq]
theorem one_I {i j : Int} (hi : I64 i) (hj : I64 j) : RectI (oneS i j) := ⟨hi, hj, by unfold I64 oneS; simp, by unfold I64 oneS; simp⟩
theorem meet_one {r : TRect} {i j : Int} (hr : RectI r) (hi : I64 i) (hj : I64 j) : meetS r (oneS i j) = true ↔ InR r i j := by
  rw [meet_iff hr (one_I hi hj)]
  unfold oneS InR
  simp only
  omega
theorem good_of {s : TSheet} (hI : SheetI s) (h : checkSh s = 0) : Good s := by
  obtain ⟨h1, h2, h3, h4, h5⟩ := chk_ok h
  obtain ⟨h6, h7, _⟩ := chk_small h
  unfold outS at h3
  rw [Bool.or_eq_false_iff] at h3
  refine ⟨hI, h6, h7, h, fun r hr => ?_, fun i k hk hi => ?_, fun c hc => ?_⟩
  · have e1 := hasF_false h3.2 r hr
    have e2 := ord_tiny h2 r hr
    obtain ⟨r1, r2, r3, r4⟩ := hI.1 r hr
    unfold I64 at *
    unfold tinyS at e2
    simp only [Bool.or_eq_false_iff, decide_eq_false_iff_not] at e2
    obtain ⟨⟨e3, e4⟩, _⟩ := e2
    unfold hasS at e1
    simp only [Bool.not_eq_false', Bool.and_eq_true, decide_eq_true_eq] at e1
    obtain ⟨⟨⟨⟨⟨e5, e6⟩, e7⟩, e8⟩, e9⟩, e10⟩ := e1
    rw [wrap_id (by omega) (by omega)] at e9 e10
    exact ⟨e5, e6, by omega, by omega, by omega, by omega⟩
  · have := range_false h4 hi
    unfold meetsS at this
    refine hasF_false this _ ?_
    rw [List.mem_take_iff_getElem]
    exact ⟨k, by omega, by simp [List.getD, show k < s.Merges.length by omega]⟩
  · obtain ⟨i, hi, rfl⟩ := List.getElem_of_mem hc
    have := range_false h5 hi
    unfold underS at this
    simpa [List.getD, hi] using this
section
variable {s : TSheet} (hg : Good s)
include hg
theorem Good.in64 {i j : Int} (hi : 0 ≤ i) (hi' : i < s.Heights.length) (hj : 0 ≤ j) (hj' : j < s.Widths.length) : I64 i ∧ I64 j := by
  have := hg.hs
  have := hg.ws
  unfold I64
  omega
theorem Good.around (i j : Int) (hi : I64 i) (hj : I64 j) : (∃ r ∈ s.Merges, InR r i j ∧ aroundS s i j = r) ∨ ((∀ r ∈ s.Merges, ¬ InR r i j) ∧ aroundS s i j = oneS i j) := by
  have e : ∀ r ∈ s.Merges, (meetS r (oneS i j) = true ↔ InR r i j) := fun r hr => meet_one (hg.I.1 r hr) hi hj
  unfold aroundS idxM
  rcases idxF_find default (fun r => meetS r (oneS i j)) s.Merges 0 with ⟨h1, h2⟩ | ⟨k, hk, h1, h2⟩
  · refine .inr ⟨fun r hr hin => ?_, by rw [h2, if_pos (by decide)]⟩
    have := List.find?_eq_none.1 h1 r hr
    exact this ((e r hr).2 hin)
  · refine .inl ⟨_, mem_getD default hk, (e _ (mem_getD default hk)).1 (List.find?_some (p := fun r => meetS r (oneS i j)) h2), ?_⟩
    rw [h1, if_neg (by omega), show ((0 : Int) + (k : Int)).toNat = k by omega]
theorem Good.one_merge {r q : TRect} (hr : r ∈ s.Merges) (hq : q ∈ s.Merges) {i j : Int} (h1 : InR r i j) (h2 : InR q i j) : r = q := by
  obtain ⟨a, ha, rfl⟩ := List.getElem_of_mem hr
  obtain ⟨b, hb, rfl⟩ := List.getElem_of_mem hq
  have key : ∀ a b (ha : a < s.Merges.length) (hb : b < s.Merges.length), a < b → InR s.Merges[a] i j → InR s.Merges[b] i j → False := fun a b ha hb hab h1 h2 => by
    have := hg.apart b a hab hb
    rw [show s.Merges.getD a default = s.Merges[a] by simp [List.getD, ha], show s.Merges.getD b default = s.Merges[b] by simp [List.getD, hb]] at this
    have e := (meet_iff (hg.I.1 _ (List.getElem_mem ha)) (hg.I.1 _ (List.getElem_mem hb))).2 (by unfold InR at h1 h2; omega)
    rw [e] at this
    cases this
  rcases Nat.lt_trichotomy a b with h | h | h
  · exact (key a b ha hb h h1 h2).elim
  · subst h; rfl
  · exact (key b a hb ha h h2 h1).elim
section
variable {i j : Int} (hi : 0 ≤ i) (hi' : i < s.Heights.length) (hj : 0 ≤ j) (hj' : j < s.Widths.length)
include hi hi' hj hj'
theorem Good.around_in : InR (aroundS s i j) i j := by
  obtain ⟨a, b⟩ := hg.in64 hi hi' hj hj'
  rcases hg.around i j a b with ⟨r, _, h1, h2⟩ | ⟨_, h2⟩
  · rw [h2]; exact h1
  · rw [h2]; unfold InR oneS; simp only; omega
theorem Good.around_fits : Fits s (aroundS s i j) := by
  obtain ⟨a, b⟩ := hg.in64 hi hi' hj hj'
  rcases hg.around i j a b with ⟨r, hr, _, h2⟩ | ⟨_, h2⟩
  · rw [h2]; exact hg.fits r hr
  · rw [h2]; unfold Fits oneS; simp only; omega
theorem Good.around_I : RectI (aroundS s i j) := by
  have := hg.around_fits hi hi' hj hj'
  have := hg.hs
  have := hg.ws
  unfold Fits at *
  refine ⟨?_, ?_, ?_, ?_⟩ <;> unfold I64 <;> omega
theorem Good.around_same {p q : Int} (h : InR (aroundS s i j) p q) : aroundS s p q = aroundS s i j := by
  have hf := hg.around_fits hi hi' hj hj'
  obtain ⟨a, b⟩ := hg.in64 hi hi' hj hj'
  obtain ⟨a', b'⟩ : I64 p ∧ I64 q := by
    unfold InR at h
    unfold Fits at hf
    exact hg.in64 (by omega) (by omega) (by omega) (by omega)
  rcases hg.around i j a b with ⟨r, hr, h1, h2⟩ | ⟨h1, h2⟩
  · rw [h2] at h ⊢
    rcases hg.around p q a' b' with ⟨r', hr', h3, h4⟩ | ⟨h3, h4⟩
    · rw [h4]; exact hg.one_merge hr' hr h3 h
    · exact absurd h (h3 r hr)
  · rw [h2] at h
    unfold InR oneS at h
    simp only at h
    obtain rfl : p = i := by omega
    obtain rfl : q = j := by omega
    rfl
theorem Good.has_one : hasS s (oneS i j) = true := by
  have := hg.hs
  have := hg.ws
  unfold hasS oneS
  simp only [Bool.and_eq_true, decide_eq_true_eq]
  rw [wrap_id (by omega) (by omega), wrap_id (by omega) (by omega)]
  omega
theorem Good.region : regionS s i j = (aroundS s i j, 0) := by
  unfold regionS
  rw [if_neg (by simp [hg.ok]), if_neg (by rw [hg.has_one hi hi' hj hj']; decide)]
theorem Good.corner_in : InR (aroundS s i j) (aroundS s i j).Row (aroundS s i j).Col ∧ (0 ≤ (aroundS s i j).Row ∧ (aroundS s i j).Row < s.Heights.length ∧ 0 ≤ (aroundS s i j).Col ∧ (aroundS s i j).Col < s.Widths.length) := by
  have := hg.around_fits hi hi' hj hj'
  unfold Fits at this
  unfold InR
  omega
theorem Good.region_corner : regionS s (aroundS s i j).Row (aroundS s i j).Col = (aroundS s i j, 0) := by
  obtain ⟨h1, h2, h3, h4, h5⟩ := hg.corner_in hi hi' hj hj'
  rw [hg.region h2 h3 h4 h5, hg.around_same hi hi' hj hj' h1]
theorem Good.get_corner : getS s (aroundS s i j).Row (aroundS s i j).Col = getS s i j := by
  unfold getS
  rw [hg.region hi hi' hj hj', hg.region_corner hi hi' hj hj']
theorem Good.get_ok : (getS s i j).2 = 0 := by
  unfold getS
  rw [hg.region hi hi' hj hj']
  simp only [ne_eq, not_true_eq_false, if_false]
  split <;> rfl
theorem Good.get_spot : (getS s i j).1.Row = (aroundS s i j).Row ∧ (getS s i j).1.Col = (aroundS s i j).Col := by
  unfold getS
  rw [hg.region hi hi' hj hj']
  simp only [ne_eq, not_true_eq_false, if_false]
  split
  · exact ⟨rfl, rfl⟩
  · rename_i h
    unfold idxC at h ⊢
    rcases idxF_find default (fun c => decide (spotS c = cornerS (aroundS s i j))) s.Cells 0 with ⟨h1, h2⟩ | ⟨k, hk, h1, h2⟩
    · rw [h2] at h
      exact absurd (by decide) h
    · rw [h1, show ((0 : Int) + (k : Int)).toNat = k by omega]
      have e := List.find?_some h2
      simp only [decide_eq_true_eq, spotS, cornerS, Ar2_Int.mk.injEq] at e
      exact e
end
theorem Good.regions : regionsS s = regUp s s.Heights.length := by
  unfold regionsS
  rw [if_neg (by simp [hg.ok])]
theorem Good.mem (x : TRect) : x ∈ regionsS s ↔ ∃ i j : Nat, i < s.Heights.length ∧ j < s.Widths.length ∧ cornerS (aroundS s i j) = ⟨i, j⟩ ∧ x = aroundS s i j := by
  rw [hg.regions]
  unfold regUp regRow regAt
  simp only [List.mem_flatMap, List.mem_range]
  constructor
  · rintro ⟨i, hi, j, hj, h⟩
    split at h
    · rename_i h1
      exact ⟨i, j, hi, hj, h1, by simpa using h⟩
    · cases h
  · rintro ⟨i, j, hi, hj, h1, rfl⟩
    exact ⟨i, hi, j, hj, by rw [if_pos h1]; simp⟩
theorem Good.mem_around {i j : Int} (hi : 0 ≤ i) (hi' : i < s.Heights.length) (hj : 0 ≤ j) (hj' : j < s.Widths.length) : aroundS s i j ∈ regionsS s := by
  rw [hg.mem]
  obtain ⟨h1, h2, h3, h4, h5⟩ := hg.corner_in hi hi' hj hj'
  refine ⟨(aroundS s i j).Row.toNat, (aroundS s i j).Col.toNat, by omega, by omega, ?_⟩
  rw [show (((aroundS s i j).Row.toNat : Nat) : Int) = (aroundS s i j).Row by omega, show (((aroundS s i j).Col.toNat : Nat) : Int) = (aroundS s i j).Col by omega, hg.around_same hi hi' hj hj' h1]
  exact ⟨rfl, rfl⟩
theorem Good.of_in {x : TRect} (hx : x ∈ regionsS s) {p q : Int} (h : InR x p q) : x = aroundS s p q := by
  obtain ⟨i, j, hi, hj, _, rfl⟩ := (hg.mem x).1 hx
  exact (hg.around_same (by omega) (by omega) (by omega) (by omega) h).symm
theorem Good.mem_fits {x : TRect} (hx : x ∈ regionsS s) : Fits s x ∧ RectI x := by
  obtain ⟨i, j, hi, hj, _, rfl⟩ := (hg.mem x).1 hx
  exact ⟨hg.around_fits (by omega) (by omega) (by omega) (by omega), hg.around_I (by omega) (by omega) (by omega) (by omega)⟩
omit hg in
theorem grid_nodup (m : Nat) : ∀ n : Nat, ((List.range n).flatMap fun (i : Nat) => (List.range m).map fun (j : Nat) => ((⟨(i : Int), (j : Int)⟩ : Ar2_Int))).Nodup
  | 0 => List.Pairwise.nil
  | n + 1 => by
    rw [List.range_succ, List.flatMap_append, List.nodup_append]
    refine ⟨grid_nodup m n, ?_, ?_⟩
    · simp only [List.flatMap_cons, List.flatMap_nil, List.append_nil]
      refine List.Pairwise.map _ ?_ (List.nodup_range (n := m))
      intro a b h e
      simp only [Ar2_Int.mk.injEq, true_and] at e
      omega
    · intro a ha b hb e
      subst e
      simp only [List.mem_flatMap, List.mem_range, List.mem_map, List.mem_singleton] at ha hb
      obtain ⟨i, hi, j, _, rfl⟩ := ha
      obtain ⟨k, rfl, j', _, e⟩ := hb
      simp only [Ar2_Int.mk.injEq] at e
      omega
omit hg in
theorem flat_sub {α β : Type} {f g : α → List β} : ∀ {l : List α}, (∀ x ∈ l, (f x).Sublist (g x)) → (l.flatMap f).Sublist (l.flatMap g)
  | [], _ => List.Sublist.refl _
  | x :: t, h => by
    rw [List.flatMap_cons, List.flatMap_cons]
    exact (h x List.mem_cons_self).append (flat_sub fun y hy => h y (List.mem_cons_of_mem _ hy))
theorem Good.nodup : (regionsS s).Nodup := by
  have h : ((regionsS s).map cornerS).Nodup := by
    rw [hg.regions]
    refine (List.Sublist.nodup ?_ (grid_nodup s.Widths.length s.Heights.length))
    unfold regUp
    rw [List.map_flatMap]
    refine flat_sub fun i _ => ?_
    unfold regRow
    rw [List.map_flatMap, List.map_eq_flatMap]
    refine flat_sub fun j _ => ?_
    unfold regAt
    split
    · rename_i h1
      simp [h1]
    · simp
  exact List.Pairwise.of_map _ (fun a b h e => h (by rw [e])) h
theorem Good.apart_regions {i k : Nat} (hk : k < i) (hi : i < (regionsS s).length) : meetS ((regionsS s).getD i default) ((regionsS s).getD k default) = false := by
  rw [Bool.eq_false_iff]
  intro h
  have h1 := mem_getD default hi
  have h2 := mem_getD (l := regionsS s) default (show k < _ by omega)
  obtain ⟨f1, i1⟩ := hg.mem_fits h1
  obtain ⟨f2, i2⟩ := hg.mem_fits h2
  rw [meet_iff i1 i2] at h
  have e1 := hg.of_in h1 (p := max ((regionsS s).getD i default).Row ((regionsS s).getD k default).Row) (q := max ((regionsS s).getD i default).Col ((regionsS s).getD k default).Col) (by unfold InR; omega)
  have e2 := hg.of_in h2 (p := max ((regionsS s).getD i default).Row ((regionsS s).getD k default).Row) (q := max ((regionsS s).getD i default).Col ((regionsS s).getD k default).Col) (by unfold InR; omega)
  have e := e1.trans e2.symm
  rw [show (regionsS s).getD i default = (regionsS s)[i] by simp [List.getD, hi], show (regionsS s).getD k default = (regionsS s)[k] by simp [List.getD, show k < (regionsS s).length by omega]] at e
  have := (List.getElem_inj hg.nodup).1 e
  omega
theorem Good.at_fits {i : Nat} (hi : i < (regionsS s).length) : Fits s ((regionsS s).getD i default) := (hg.mem_fits (mem_getD default hi)).1
theorem within_iff {r : TRect} (h : Fits s r) {i j : Int} (hi : 0 ≤ i) (hj : 0 ≤ j) : withinS r i j = true ↔ InR r i j := by
  have := hg.hs
  have := hg.ws
  unfold Fits at h
  unfold withinS InR
  rw [wrap_id (by omega) (by omega), wrap_id (by omega) (by omega)]
  simp only [Bool.and_eq_true, decide_eq_true_eq]
  omega
theorem Good.within_eq {k : Nat} (hk : k < (regionsS s).length) {i j : Int} (hi : 0 ≤ i) (hj : 0 ≤ j) (h : withinS ((regionsS s).getD k default) i j = true) : (regionsS s).getD k default = aroundS s i j :=
  hg.of_in (mem_getD default hk) ((within_iff hg (hg.at_fits hk) hi hj).1 h)
theorem Good.count {i j : Int} (hi : 0 ≤ i) (hi' : i < s.Heights.length) (hj : 0 ≤ j) (hj' : j < s.Widths.length) : (regionsS s).countP (fun r => withinS r i j) = 1 := by
  have e : (regionsS s).countP (fun r => withinS r i j) = (regionsS s).countP (fun r => r == aroundS s i j) := List.countP_congr fun r hr => by
    rw [within_iff hg (hg.mem_fits hr).1 hi hj, beq_iff_eq]
    exact ⟨fun h => hg.of_in hr h, fun h => by rw [h]; exact hg.around_in hi hi' hj hj'⟩
  rw [e]
  have := hg.nodup.count (a := aroundS s i j)
  rw [if_pos (hg.mem_around hi hi' hj hj')] at this
  exact this
end
def cntS (s : TSheet) (i j : Int) (n : Nat) : Int := ((((regionsS s).take n).countP fun r => withinS r i j : Nat) : Int)
theorem cntS_hit {s : TSheet} {i j : Int} {n : Nat} (hn : n < (regionsS s).length) (h : withinS ((regionsS s).getD n default) i j = true) : cntS s i j n + 1 = cntS s i j (n + 1) := by
  unfold cntS
  rw [List.take_succ_eq_append_getElem hn, List.countP_append, List.countP_singleton]
  rw [show (regionsS s).getD n default = (regionsS s)[n] by simp [List.getD, hn]] at h
  rw [h]
  simp
theorem cntS_miss {s : TSheet} {i j : Int} {n : Nat} (hn : n < (regionsS s).length) (h : withinS ((regionsS s).getD n default) i j = false) : cntS s i j n = cntS s i j (n + 1) := by
  unfold cntS
  rw [List.take_succ_eq_append_getElem hn, List.countP_append, List.countP_singleton]
  rw [show (regionsS s).getD n default = (regionsS s)[n] by simp [List.getD, hn]] at h
  rw [h]
  simp
theorem cntS_le (s : TSheet) (i j : Int) (n : Nat) : 0 ≤ cntS s i j n ∧ cntS s i j n ≤ n := by
  unfold cntS
  have h1 := List.countP_le_length (p := fun r => withinS r i j) (l := (regionsS s).take n)
  have := List.length_take_le n (regionsS s)
  omega
theorem cntS_end {s : TSheet} (hg : Good s) {i j : Int} (hi : 0 ≤ i) (hi' : i < s.Heights.length) (hj : 0 ≤ j) (hj' : j < s.Widths.length) {n : Nat} (hn : (regionsS s).length ≤ n) : cntS s i j n = 1 := by
  unfold cntS
  rw [List.take_of_length_le hn, hg.count hi hi' hj hj']
  rfl
end Go.Proofs.YtalpekmbknjeeaaG
