/- Sheets: the laws, in plain Lean. -/
import Derived.Test.YtalpekmbknjeeaaSheS
set_option linter.all false
namespace Go.Proofs.YtalpekmbknjeeaaG
open Go Go.RowKit
theorem shareS_f {a m b n : Int} (h : m < 1 ∨ n < 1) : false = shareS a m b n := by unfold shareS; rw [if_pos h]
theorem shareS_gt {a m b n : Int} (h : ¬ (m < 1 ∨ n < 1)) (h1 : a > b) : decide ((IntKind.wrap IntKind.u64) ((IntKind.wrap IntKind.u64) a - (IntKind.wrap IntKind.u64) b) < (IntKind.wrap IntKind.u64) n) = shareS a m b n := by unfold shareS; rw [if_neg h, if_pos h1]
theorem shareS_le {a m b n : Int} (h : ¬ (m < 1 ∨ n < 1)) (h1 : ¬ a > b) : decide ((IntKind.wrap IntKind.u64) ((IntKind.wrap IntKind.u64) b - (IntKind.wrap IntKind.u64) a) < (IntKind.wrap IntKind.u64) m) = shareS a m b n := by unfold shareS; rw [if_neg h, if_neg h1]
section
variable {s : TSheet}
theorem ck3 (h : (!limitsS s) = true) : 3 = checkSh s := by
  unfold checkSh
  rw [if_pos (by simpa using h)]
theorem ck1 (h0 : (!limitsS s) = false) (h : (!orderS s) = true) : 1 = checkSh s := by
  unfold checkSh
  rw [if_neg (by simpa using h0), if_pos (by simpa using h)]
theorem ck4 (h0 : (!limitsS s) = false) (h1 : (!orderS s) = false) (h : outS s = true) : 4 = checkSh s := by
  unfold checkSh
  rw [if_neg (by simpa using h0), if_neg (by simpa using h1), if_pos h]
theorem out_a (h : hasF (fun c : TCell => !hasS s (oneS c.Row c.Col)) s.Cells = true) : outS s = true := by
  unfold outS
  rw [h]
  rfl
theorem out_b (h : hasF (fun r => !hasS s r) s.Merges = true) : outS s = true := by
  unfold outS
  rw [h, Bool.or_true]
theorem out_n (h : hasF (fun c : TCell => !hasS s (oneS c.Row c.Col)) s.Cells = false) (h1 : hasF (fun r => !hasS s r) s.Merges = false) : outS s = false := by
  unfold outS
  rw [h, h1]
  rfl
theorem ck5 {i : Nat} (h0 : (!limitsS s) = false) (h1 : (!orderS s) = false) (h : outS s = false) (hi : i < s.Merges.length) (h2 : meetsS s i = true) : 5 = checkSh s := by
  unfold checkSh
  rw [if_neg (by simpa using h0), if_neg (by simpa using h1), if_neg (by rw [h]; decide), if_pos (range_any_hit hi h2)]
theorem ck6 {i j : Nat} (h0 : (!limitsS s) = false) (h1 : (!orderS s) = false) (h : outS s = false) (hi : s.Merges.length ≤ i) (hi' : i ≤ s.Merges.length) (h2 : (List.range i).any (meetsS s) = false) (hj : j < s.Cells.length) (h3 : underS s j = true) : 6 = checkSh s := by
  obtain rfl : i = s.Merges.length := by omega
  unfold checkSh
  rw [if_neg (by simpa using h0), if_neg (by simpa using h1), if_neg (by rw [h]; decide), if_neg (by rw [h2]; decide), if_pos (range_any_hit hj h3)]
theorem ck0 {i j : Nat} (h0 : (!limitsS s) = false) (h1 : (!orderS s) = false) (h : outS s = false) (hi : s.Merges.length ≤ i) (hi' : i ≤ s.Merges.length) (h2 : (List.range i).any (meetsS s) = false) (hj : s.Cells.length ≤ j) (hj' : j ≤ s.Cells.length) (h3 : (List.range j).any (underS s) = false) : 0 = checkSh s := by
  obtain rfl : i = s.Merges.length := by omega
  obtain rfl : j = s.Cells.length := by omega
  unfold checkSh
  rw [if_neg (by simpa using h0), if_neg (by simpa using h1), if_neg (by rw [h]; decide), if_neg (by rw [h2]; decide), if_neg (by rw [h3]; decide)]
theorem getS_bad {r c : Int} (h : ¬ (regionS s r c).2 = 0) : getS s r c = (cellZ 0 0, (regionS s r c).2) := if_pos h
theorem getS_none {r c : Int} (h : ¬ ¬ (regionS s r c).2 = 0) (h1 : idxC s (regionS s r c).1 < 0) : getS s r c = (cellZ (regionS s r c).1.Row (regionS s r c).1.Col, 0) := (if_neg h).trans (if_pos h1)
theorem getS_at {r c : Int} (h : ¬ ¬ (regionS s r c).2 = 0) (h1 : ¬ idxC s (regionS s r c).1 < 0) : getS s r c = (s.Cells.getD (idxC s (regionS s r c).1).toNat default, 0) := (if_neg h).trans (if_neg h1)
theorem hc_over (l : List Int) (m k : Int) (h : overS l m k = false) : (l.length : Int) ≤ m := by
  simp only [overS, Bool.or_eq_false_iff, decide_eq_false_iff_not] at h
  omega
theorem chk_ok (h : checkSh s = 0) : limitsS s = true ∧ orderS s = true ∧ outS s = false ∧ (List.range s.Merges.length).any (meetsS s) = false ∧ (List.range s.Cells.length).any (underS s) = false := by
  unfold checkSh at h
  split at h
  · exact absurd h (by decide)
  split at h
  · exact absurd h (by decide)
  split at h
  · exact absurd h (by decide)
  split at h
  · exact absurd h (by decide)
  split at h
  · exact absurd h (by decide)
  simp_all
theorem chk_small (h : checkSh s = 0) : s.Heights.length ≤ 24 ∧ s.Widths.length ≤ 16 ∧ s.Merges.length ≤ 12 := by
  have h1 := (chk_ok h).1
  simp only [limitsS, Bool.and_eq_true, Bool.not_eq_true', decide_eq_true_eq] at h1
  obtain ⟨⟨⟨_, h2⟩, h3⟩, h4⟩ := h1
  have := hc_over _ _ _ h2
  have := hc_over _ _ _ h3
  omega
theorem regRow_len (s : TSheet) (i : Nat) : ∀ j : Nat, (regRow s i j).length ≤ j
  | 0 => by simp [regRow]
  | j + 1 => by
    have := regRow_len s i j
    rw [regRow_next, List.length_append]
    have : (regAt s i j).length ≤ 1 := by unfold regAt; split <;> simp
    omega
theorem regUp_len (s : TSheet) (hw : s.Widths.length ≤ 16) : ∀ i : Nat, (regUp s i).length ≤ 16 * i
  | 0 => by simp [regUp]
  | i + 1 => by
    have := regUp_len s hw i
    have := regRow_len s i s.Widths.length
    rw [regUp_next, List.length_append]
    omega
/-! ### the document's loops -/
theorem inS_f {x f m : Int} (h : m < 1 ∨ x < f) : false = inS x f m := (if_pos h).symm
theorem inS_neg {x f m : Int} (h : ¬ (m < 1 ∨ x < f)) (h1 : f < 0) : decide (x < (IntKind.wrap IntKind.i64) (f + m)) = inS x f m := ((if_neg h).trans (if_pos h1)).symm
theorem inS_pos {x f m : Int} (h : ¬ (m < 1 ∨ x < f)) (h1 : ¬ f < 0) : decide ((IntKind.wrap IntKind.i64) (x - f) < m) = inS x f m := ((if_neg h).trans (if_neg h1)).symm
theorem rlim_len (h : (s.Heights.length : Int) > 24 ∨ (s.Widths.length : Int) > 16 ∨ (s.Merges.length : Int) > 12) : false = rlimitsS s := (if_pos h).symm
theorem rlim_h {i : Nat} (hi : i < s.Heights.length) (h : s.Heights.getD i 0 > 12) : false = rlimitsS s := by
  unfold rlimitsS
  rw [any_hit (p := fun n => decide (n > 12)) 0 hi (by simpa using h)]
  split <;> rfl
theorem rlim_w {i : Nat} (hi : i < s.Widths.length) (h : s.Widths.getD i 0 > 60) : false = rlimitsS s := by
  unfold rlimitsS
  rw [any_hit (p := fun n => decide (n > 60)) 0 hi (by simpa using h)]
  split <;> simp
theorem rlim_c {i : Nat} (hi : i < s.Cells.length) (h : ((s.Cells.getD i default).Text.length : Int) > 1024) : false = rlimitsS s := by
  unfold rlimitsS
  rw [any_hit (p := fun c : TCell => decide ((c.Text.length : Int) > 1024)) default hi (by simpa using h)]
  split <;> simp
theorem rlim_ok {i j k : Nat} (h : ¬ ((s.Heights.length : Int) > 24 ∨ (s.Widths.length : Int) > 16 ∨ (s.Merges.length : Int) > 12)) (hi : s.Heights.length ≤ i) (h1 : (s.Heights.take i).any (fun n => decide (n > 12)) = false)
    (hj : s.Widths.length ≤ j) (h2 : (s.Widths.take j).any (fun n => decide (n > 60)) = false) (hk : s.Cells.length ≤ k) (h3 : (s.Cells.take k).any (fun c => decide ((c.Text.length : Int) > 1024)) = false) : true = rlimitsS s := by
  unfold rlimitsS
  rw [if_neg h, any_end hi h1, any_end hj h2, any_end hk h3]
  rfl
theorem rord_top (h : (¬ s.Right = 0 ∧ ¬ s.Right = 1) ∨ (s.Widths.length : Int) = 0 ∨ (s.Heights.length : Int) = 0) : false = rorderS s := (if_pos h).symm
theorem rord_w {i : Nat} (hi : i < s.Widths.length) (h : s.Widths.getD i 0 < 1) : false = rorderS s := by
  unfold rorderS
  rw [any_hit (p := fun n => decide (n < 1)) 0 hi (by simpa using h)]
  split <;> rfl
theorem rord_h {i : Nat} (hi : i < s.Heights.length) (h : s.Heights.getD i 0 < 1) : false = rorderS s := by
  unfold rorderS
  rw [any_hit (p := fun n => decide (n < 1)) (l := s.Heights) 0 hi (by simpa using h)]
  split <;> simp
theorem rord_c {i : Nat} (hi : i < s.Cells.length) (h : rcellS s i = true) : false = rorderS s := by
  unfold rorderS
  rw [range_any_hit hi h]
  split <;> simp
theorem rord_m {i : Nat} (hi : i < s.Merges.length) (h : rmergeS s i = true) : false = rorderS s := by
  unfold rorderS
  rw [range_any_hit hi h]
  split <;> simp
theorem rord_ok {i j k l : Nat} (h : ¬ ((¬ s.Right = 0 ∧ ¬ s.Right = 1) ∨ (s.Widths.length : Int) = 0 ∨ (s.Heights.length : Int) = 0)) (hi : s.Widths.length ≤ i) (h1 : (s.Widths.take i).any (fun n => decide (n < 1)) = false)
    (hj : s.Heights.length ≤ j) (h2 : (s.Heights.take j).any (fun n => decide (n < 1)) = false) (hk : s.Cells.length ≤ k) (hk' : k ≤ s.Cells.length) (h3 : (List.range k).any (rcellS s) = false) (hl : s.Merges.length ≤ l) (hl' : l ≤ s.Merges.length) (h4 : (List.range l).any (rmergeS s) = false) : true = rorderS s := by
  obtain rfl : k = s.Cells.length := by omega
  obtain rfl : l = s.Merges.length := by omega
  unfold rorderS
  rw [if_neg h, any_end hi h1, any_end hj h2, h3, h4]
  rfl
theorem rck3 (h : (!rlimitsS s) = true) : 3 = rcheckSh s := by
  unfold rcheckSh
  rw [if_pos (by simpa using h)]
theorem rck1 (h0 : (!rlimitsS s) = false) (h : (!rorderS s) = true) : 1 = rcheckSh s := by
  unfold rcheckSh
  rw [if_neg (by simpa using h0), if_pos (by simpa using h)]
theorem rck4 {i : Nat} (h0 : (!rlimitsS s) = false) (h1 : (!rorderS s) = false) (hi : i < s.Cells.length) (h : rfarS s (s.Cells.getD i default) = true) : 4 = rcheckSh s := by
  unfold rcheckSh
  rw [if_neg (by simpa using h0), if_neg (by simpa using h1), if_pos (any_hit default hi h)]
theorem rck4m {i j : Nat} (h0 : (!rlimitsS s) = false) (h1 : (!rorderS s) = false) (hi : s.Cells.length ≤ i) (h2 : (s.Cells.take i).any (rfarS s) = false) (hj : j < s.Merges.length) (h : (!thereS s (s.Merges.getD j default)) = true) : 4 = rcheckSh s := by
  unfold rcheckSh
  rw [if_neg (by simpa using h0), if_neg (by simpa using h1), if_neg (by rw [any_end hi h2]; decide), if_pos (any_hit default hj h)]
section
variable {i j : Nat} (h0 : (!rlimitsS s) = false) (h1 : (!rorderS s) = false) (hi : s.Cells.length ≤ i) (h2 : (s.Cells.take i).any (rfarS s) = false) (hj : s.Merges.length ≤ j) (h3 : (s.Merges.take j).any (fun r => !thereS s r) = false)
include h0 h1 hi h2 hj h3
theorem rck5 {k l : Nat} (hk : k < s.Merges.length) (hl : l < k) (h : rmeetS (s.Merges.getD k default) (s.Merges.getD l default) = true) : 5 = rcheckSh s := by
  unfold rcheckSh
  rw [if_neg (by simpa using h0), if_neg (by simpa using h1), if_neg (by rw [any_end hi h2]; decide), if_neg (by rw [any_end hj h3]; decide), if_pos (range_any_hit hk (range_any_hit hl h))]
theorem rck6 {k l : Nat} (hk : s.Merges.length ≤ k) (hk' : k ≤ s.Merges.length) (h4 : (List.range k).any (rmeetsS s) = false) (hl : l < s.Cells.length) (h : runderS s (s.Cells.getD l default) = true) : 6 = rcheckSh s := by
  obtain rfl : k = s.Merges.length := by omega
  unfold rcheckSh
  rw [if_neg (by simpa using h0), if_neg (by simpa using h1), if_neg (by rw [any_end hi h2]; decide), if_neg (by rw [any_end hj h3]; decide), if_neg (by rw [h4]; decide), if_pos (any_hit default hl h)]
theorem rck0 {k l : Nat} (hk : s.Merges.length ≤ k) (hk' : k ≤ s.Merges.length) (h4 : (List.range k).any (rmeetsS s) = false) (hl : s.Cells.length ≤ l) (h : (s.Cells.take l).any (runderS s) = false) : 0 = rcheckSh s := by
  obtain rfl : k = s.Merges.length := by omega
  unfold rcheckSh
  rw [if_neg (by simpa using h0), if_neg (by simpa using h1), if_neg (by rw [any_end hi h2]; decide), if_neg (by rw [any_end hj h3]; decide), if_neg (by rw [h4]; decide), if_neg (by rw [any_end hl h]; decide)]
end
theorem raround_hit {row col : Int} {i : Nat} (hi : i < s.Merges.length) (h : s.Merges.find? (fun r => coversS r row col) = (s.Merges.drop i).find? fun r => coversS r row col) (h1 : coversS (s.Merges.getD i default) row col = true) : raroundS s row col = s.Merges.getD i default := by
  unfold raroundS
  rw [find_hit (p := fun r => coversS r row col) default hi h h1]
theorem raround_end {row col : Int} {i : Nat} (hi : s.Merges.length ≤ i) (h : s.Merges.find? (fun r => coversS r row col) = (s.Merges.drop i).find? fun r => coversS r row col) : raroundS s row col = ⟨row, col, 1, 1⟩ := by
  unfold raroundS
  rw [find_end hi h]
theorem rget_bad {r c : Int} (h : ¬ (rregionS s r c).2 = 0) : rgetS s r c = (cellZ 0 0, (rregionS s r c).2) := if_pos h
theorem rget_hit {r c : Int} {i : Nat} (h0 : ¬ ¬ (rregionS s r c).2 = 0) (hi : i < s.Cells.length) (h : s.Cells.find? (fun x => decide (x.Row = (rregionS s r c).1.Row) && decide (x.Col = (rregionS s r c).1.Col)) = (s.Cells.drop i).find? fun x => decide (x.Row = (rregionS s r c).1.Row) && decide (x.Col = (rregionS s r c).1.Col))
    (h1 : (s.Cells.getD i default).Row = (rregionS s r c).1.Row) (h2 : (s.Cells.getD i default).Col = (rregionS s r c).1.Col) : rgetS s r c = (s.Cells.getD i default, 0) := by
  refine (if_neg h0).trans ?_
  unfold rfind
  rw [find_hit (p := fun x : TCell => decide (x.Row = (rregionS s r c).1.Row) && decide (x.Col = (rregionS s r c).1.Col)) default hi h (by rw [h1, h2]; simp)]
theorem rget_end {r c : Int} {i : Nat} (h0 : ¬ ¬ (rregionS s r c).2 = 0) (hi : s.Cells.length ≤ i) (h : s.Cells.find? (fun x => decide (x.Row = (rregionS s r c).1.Row) && decide (x.Col = (rregionS s r c).1.Col)) = (s.Cells.drop i).find? fun x => decide (x.Row = (rregionS s r c).1.Row) && decide (x.Col = (rregionS s r c).1.Col)) :
    rgetS s r c = (cellZ (rregionS s r c).1.Row (rregionS s r c).1.Col, 0) := by
  refine (if_neg h0).trans ?_
  unfold rfind
  rw [find_end hi h]
theorem rreg_bad {r c : Int} (h : ¬ rcheckSh s = 0) : rregionS s r c = (⟨0, 0, 0, 0⟩, 1) := if_pos h
theorem rreg_far {r c : Int} (h : ¬ ¬ rcheckSh s = 0) (h1 : r < 0 ∨ c < 0 ∨ r ≥ (s.Heights.length : Int) ∨ c ≥ (s.Widths.length : Int)) : rregionS s r c = (⟨0, 0, 0, 0⟩, 4) := (if_neg h).trans (if_pos h1)
theorem rreg_ok {r c : Int} (h : ¬ ¬ rcheckSh s = 0) (h1 : ¬ (r < 0 ∨ c < 0 ∨ r ≥ (s.Heights.length : Int) ∨ c ≥ (s.Widths.length : Int))) : rregionS s r c = (raroundS s r c, 0) := (if_neg h).trans (if_neg h1)
theorem great_len (h : (s.Widths.length : Int) > 100 ∨ (s.Heights.length : Int) > 100 ∨ (s.Merges.length : Int) > 100 ∨ (s.Cells.length : Int) > 500) : true = greatS s := (if_pos h).symm
theorem great_c {i : Nat} (hi : i < s.Cells.length) (h : ((s.Cells.getD i default).Text.length : Int) > 2000) : true = greatS s := by
  unfold greatS
  split
  · rfl
  · exact (any_hit (p := fun c : TCell => decide ((c.Text.length : Int) > 2000)) default hi (by simpa using h)).symm
theorem great_no {i : Nat} (h : ¬ ((s.Widths.length : Int) > 100 ∨ (s.Heights.length : Int) > 100 ∨ (s.Merges.length : Int) > 100 ∨ (s.Cells.length : Int) > 500)) (hi : s.Cells.length ≤ i) (h1 : (s.Cells.take i).any (fun c : TCell => decide ((c.Text.length : Int) > 2000)) = false) : false = greatS s :=
  ((if_neg h).trans (any_end hi h1)).symm
theorem sh_yes {a b : TSheet} (h1 : a.Right = b.Right) (h2 : a.Widths = b.Widths) (h3 : a.Heights = b.Heights) (h4 : a.Cells = b.Cells) (h5 : a.Merges = b.Merges) : true = decide (a = b) := by
  cases a
  cases b
  simp at *
  exact ⟨h1, h2, h3, h4, h5⟩
end
/-! ### whether rects meet -/
def I64 (x : Int) : Prop := -9223372036854775808 ≤ x ∧ x ≤ 9223372036854775807
def RectI (r : TRect) : Prop := I64 r.Row ∧ I64 r.Col ∧ I64 r.Rows ∧ I64 r.Cols
theorem u64_mod (x : Int) : (IntKind.wrap IntKind.u64) x = x % 18446744073709551616 := rfl
theorem shareS_eq {a m b n : Int} (ha : I64 a) (hm : I64 m) (hb : I64 b) (hn : I64 n) : shareS a m b n = decide (1 ≤ m ∧ 1 ≤ n ∧ a - b < n ∧ b - a < m) := by
  unfold I64 at *
  unfold shareS
  split
  · symm; rw [decide_eq_false_iff_not]; omega
  · split
    · rw [Bool.eq_iff_iff, decide_eq_true_iff, decide_eq_true_iff, u64_mod, u64_mod, u64_mod, u64_mod]; omega
    · rw [Bool.eq_iff_iff, decide_eq_true_iff, decide_eq_true_iff, u64_mod, u64_mod, u64_mod, u64_mod]; omega
theorem inS_eq {x f m : Int} (hx : I64 x) (hf : I64 f) (hm : I64 m) : inS x f m = decide (1 ≤ m ∧ f ≤ x ∧ x - f < m) := by
  unfold I64 at *
  unfold inS
  split
  · symm; rw [decide_eq_false_iff_not]; omega
  · split
    · rw [wrap_id (by omega) (by omega), decide_eq_decide]; omega
    · rw [wrap_id (by omega) (by omega), decide_eq_decide]; omega
theorem I64.max {x y : Int} (hx : I64 x) (hy : I64 y) : I64 (max x y) := by unfold I64 at *; omega
theorem meet_law {a b : TRect} (ha : RectI a) (hb : RectI b) : meetS a b = rmeetS a b := by
  obtain ⟨a1, a2, a3, a4⟩ := ha
  obtain ⟨b1, b2, b3, b4⟩ := hb
  unfold meetS rmeetS coversS
  rw [shareS_eq a1 a3 b1 b3, shareS_eq a2 a4 b2 b4, inS_eq (a1.max b1) a1 a3, inS_eq (a2.max b2) a2 a4, inS_eq (a1.max b1) b1 b3, inS_eq (a2.max b2) b2 b4]
  rw [Bool.eq_iff_iff]
  simp only [Bool.and_eq_true, decide_eq_true_eq]
  omega
theorem meet_comm {a b : TRect} (ha : RectI a) (hb : RectI b) : meetS b a = meetS a b := by
  obtain ⟨a1, a2, a3, a4⟩ := ha
  obtain ⟨b1, b2, b3, b4⟩ := hb
  unfold meetS
  rw [shareS_eq a1 a3 b1 b3, shareS_eq a2 a4 b2 b4, shareS_eq b1 b3 a1 a3, shareS_eq b2 b4 a2 a4]
  rw [Bool.eq_iff_iff]
  simp only [Bool.and_eq_true, decide_eq_true_eq]
  omega
def cellAtS (a b : TRect) (r : Nat) (n : Nat) : Bool := (List.range n).any fun c => withinS a r c && withinS b r c
def cellS (a b : TRect) (n : Nat) : Bool := (List.range n).any fun r => cellAtS a b r 41
def Small20 (r : TRect) : Prop := (0 ≤ r.Row ∧ r.Row ≤ 20) ∧ (0 ≤ r.Col ∧ r.Col ≤ 20) ∧ (0 ≤ r.Rows ∧ r.Rows ≤ 20) ∧ (0 ≤ r.Cols ∧ r.Cols ≤ 20)
theorem within_eq {r : TRect} (h : Small20 r) (i j : Int) : withinS r i j = true ↔ r.Row ≤ i ∧ i < r.Row + r.Rows ∧ r.Col ≤ j ∧ j < r.Col + r.Cols := by
  obtain ⟨h1, h2, h3, h4⟩ := h
  unfold withinS
  rw [wrap_id (by omega) (by omega), wrap_id (by omega) (by omega)]
  simp only [Bool.and_eq_true, decide_eq_true_eq]
  omega
theorem Small20.rectI {r : TRect} (h : Small20 r) : RectI r := by
  obtain ⟨h1, h2, h3, h4⟩ := h
  refine ⟨?_, ?_, ?_, ?_⟩ <;> unfold I64 <;> omega
theorem meeting_law {a b : TRect} (ha : Small20 a) (hb : Small20 b) : meetS a b = cellS a b 41 := by
  have hI := ha.rectI
  have hJ := hb.rectI
  obtain ⟨a1, a2, a3, a4⟩ := hI
  obtain ⟨b1, b2, b3, b4⟩ := hJ
  unfold meetS
  rw [shareS_eq a1 a3 b1 b3, shareS_eq a2 a4 b2 b4, Bool.eq_iff_iff]
  simp only [Bool.and_eq_true, decide_eq_true_eq, cellS, cellAtS, List.any_eq_true, List.mem_range, within_eq ha, within_eq hb]
  obtain ⟨h1, h2, h3, h4⟩ := ha
  obtain ⟨k1, k2, k3, k4⟩ := hb
  constructor
  · intro h
    refine ⟨(max a.Row b.Row).toNat, by omega, (max a.Col b.Col).toNat, by omega, ?_⟩
    omega
  · rintro ⟨r, hr, c, hc, h⟩
    omega
theorem cellAtS_next (a b : TRect) (r n : Nat) : cellAtS a b r (n + 1) = (cellAtS a b r n || (withinS a r n && withinS b r n)) := by simp [cellAtS, List.range_succ]
theorem cellS_next (a b : TRect) (n : Nat) : cellS a b (n + 1) = (cellS a b n || cellAtS a b n 41) := by simp [cellS, List.range_succ]
def eight (a b : TRect) : List Int := [a.Row, a.Col, b.Row, b.Col, a.Rows, a.Cols, b.Rows, b.Cols]
theorem eight_small {a b : TRect} {i : Nat} (hi : 8 ≤ i) (h : ∀ k, k < i → 0 ≤ (eight a b).getD k 0 ∧ (eight a b).getD k 0 ≤ 20) : Small20 a ∧ Small20 b := by
  have h0 := h 0 (by omega)
  have h1 := h 1 (by omega)
  have h2 := h 2 (by omega)
  have h3 := h 3 (by omega)
  have h4 := h 4 (by omega)
  have h5 := h 5 (by omega)
  have h6 := h 6 (by omega)
  have h7 := h 7 (by omega)
  exact ⟨⟨h0, h1, h4, h5⟩, ⟨h2, h3, h6, h7⟩⟩
theorem eight_next {a b : TRect} {i : Nat} (h : ∀ k, k < i → 0 ≤ (eight a b).getD k 0 ∧ (eight a b).getD k 0 ≤ 20) (h1 : 0 ≤ (eight a b).getD i 0) (h2 : (eight a b).getD i 0 ≤ 20) : ∀ k, k < i + 1 → 0 ≤ (eight a b).getD k 0 ∧ (eight a b).getD k 0 ≤ 20 := fun k hk => by
  by_cases e : k = i
  · subst e; exact ⟨h1, h2⟩
  · exact h k (by omega)
end Go.Proofs.YtalpekmbknjeeaaG
