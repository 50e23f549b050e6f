/- Edges: arms go both ways, there are two at least; around a region all slots have some, and none within. -/
import Derived.Test.YtalpekmbknjeeaaEdgM
set_option linter.all false
namespace Go.Proofs.YtalpekmbknjeeaaG
open Go Go.RowKit
theorem arms_none {s : TSheet} {u v : Int} (h : ¬ (armsS s u v).2 = 0) : (armsS s u v).1 = 0 := by
  unfold armsS at h ⊢
  split
  · rfl
  · split
    · rfl
    · rename_i h1 h2
      rw [if_neg h1, if_neg h2] at h
      exact absurd rfl h
theorem arms_in {s : TSheet} {u v : Int} (h : (armsS s u v).2 = 0) : checkSh s = 0 ∧ ¬ offS s u v := by
  by_cases h1 : checkSh s = 0
  · refine ⟨h1, fun h2 => ?_⟩
    rw [arms_far (by simp [h1]) (by rw [find_out', find_out']; exact (off_iff s u v).1 h2)] at h
    exact absurd h (by decide)
  · rw [arms_bad h1] at h
    exact absurd h h1
def nbr (u v : Int) : Nat → Int × Int
  | 0 => (u + 1, v)
  | 1 => (u, v + 1)
  | 2 => (u - 1, v)
  | _ => (u, v - 1)
def sum4 (a b c d : Bool) : Int := b2i a 1 + b2i b 2 + b2i c 4 + b2i d 8
theorem sum4_bit (a b c d : Bool) : (sum4 a b c d / 2 ^ 0 % 2 == 1) = a ∧ (sum4 a b c d / 2 ^ 1 % 2 == 1) = b ∧ (sum4 a b c d / 2 ^ 2 % 2 == 1) = c ∧ (sum4 a b c d / 2 ^ 3 % 2 == 1) = d := by
  cases a <;> cases b <;> cases c <;> cases d <;> decide
section
variable {s : TSheet} (hg : Good s) {u v : Int}
include hg
theorem Good.arms_val (h : ¬ offS s u v) : armsS s u v = (sum4 (rborderS s u v && rborderS s (u + 1) v) (rborderS s u v && rborderS s u (v + 1)) (rborderS s u v && rborderS s (u - 1) v) (rborderS s u v && rborderS s u (v - 1)), 0) := by
  have hc' : rcheckSh s = 0 := by rw [← check_law hg.I]; exact hg.ok
  rw [arms_law hg.I]
  cases hb : rborderS s u v with
  | true => rw [rarms_ok (by simp [hc']) h hb]; simp [sum4]
  | false => rw [rarms_no (by simp [hc']) h hb]; simp [sum4, b2i]
theorem Good.arms_out (h : offS s u v) : armsS s u v = (0, 4) := arms_far (by simp [hg.ok]) (by rw [find_out', find_out']; exact (off_iff s u v).1 h)
theorem Good.arm_bit (h : ¬ offS s u v) {k : Nat} (hk : k < 4) : ((armsS s u v).1 / 2 ^ k % 2 == 1) = (rborderS s u v && rborderS s (nbr u v k).1 (nbr u v k).2) := by
  rw [hg.arms_val h]
  obtain ⟨h0, h1, h2, h3⟩ := sum4_bit (rborderS s u v && rborderS s (u + 1) v) (rborderS s u v && rborderS s u (v + 1)) (rborderS s u v && rborderS s (u - 1) v) (rborderS s u v && rborderS s u (v - 1))
  match k, hk with
  | 0, _ => exact h0
  | 1, _ => exact h1
  | 2, _ => exact h2
  | 3, _ => exact h3
omit hg in
theorem nbr_back (u v : Int) {k : Nat} (hk : k < 4) : nbr (nbr u v k).1 (nbr u v k).2 ((k + 2) % 4) = (u, v) := by
  match k, hk with
  | 0, _ => simp only [nbr]; rw [show u + 1 - 1 = u by omega]
  | 1, _ => simp only [nbr]; rw [show v + 1 - 1 = v by omega]
  | 2, _ => simp only [nbr]; rw [show u - 1 + 1 = u by omega]
  | 3, _ => simp only [nbr]; rw [show v - 1 + 1 = v by omega]
theorem Good.both (h : ¬ offS s u v) {k : Nat} (hk : k < 4) : (((armsS s (nbr u v k).1 (nbr u v k).2).2 == 0) && ((armsS s (nbr u v k).1 (nbr u v k).2).1 / 2 ^ ((k + 2) % 4) % 2 == 1)) = ((armsS s u v).1 / 2 ^ k % 2 == 1) := by
  rw [hg.arm_bit h hk]
  by_cases h1 : offS s (nbr u v k).1 (nbr u v k).2
  · rw [hg.arms_out h1, bord_no h1, Bool.and_false]
    rfl
  · rw [hg.arm_bit h1 (Nat.mod_lt _ (by decide)), nbr_back u v hk]
    rw [show (armsS s (nbr u v k).1 (nbr u v k).2).2 = 0 by rw [hg.arms_val h1]]
    rw [Bool.and_comm (rborderS s u v)]
    rfl
def cnt4 (a b c d : Bool) : Int := b2i a 1 + b2i b 1 + b2i c 1 + b2i d 1
omit hg in
theorem two_of {α : Type} [DecidableEq α] {a b d e : α} (h : ¬ (a = b ∧ b = d ∧ d = e)) : 2 ≤ cnt4 (decide (b ≠ d)) (decide (e ≠ d)) (decide (a ≠ e)) (decide (a ≠ b)) := by
  unfold cnt4 b2i
  by_cases h1 : a = b
  · subst h1
    by_cases h2 : a = d
    · subst h2
      have h3 : ¬ a = e := fun q => h ⟨rfl, rfl, q⟩
      have h4 : ¬ e = a := fun q => h3 q.symm
      simp [h3, h4]
    · by_cases h3 : e = d
      · subst h3; simp [h2]
      · by_cases h4 : a = e
        · subst h4; simp [h2]
        · simp [h2, h3, h4]
  · by_cases h2 : b = d
    · subst h2
      by_cases h3 : e = b
      · subst h3; simp [h1]
      · by_cases h4 : a = e
        · subst h4; simp [h1]
        · simp [h1, h3, h4]
    · have h1' : ¬ b = a := fun q => h1 q.symm
      have h2' : ¬ d = b := fun q => h2 q.symm
      by_cases h3 : e = d
      · subst h3
        by_cases h4 : a = e
        · subst h4; simp [h1, h2, h1', h2']
        · simp [h1, h2, h4, h1', h2']
      · by_cases h4 : a = e
        · subst h4; simp [h1, h2, h3, h1', h2']
        · simp [h1, h2, h3, h4, h1', h2']
theorem Good.two (h : ¬ offS s u v) (hb : rborderS s u v = true) : 2 ≤ cnt4 (rborderS s (u + 1) v) (rborderS s u (v + 1)) (rborderS s (u - 1) v) (rborderS s u (v - 1)) := by
  have ho := h
  rw [off_iff] at ho
  have pc := pos_find (l := s.Widths) (u := u) (by omega) (by omega)
  have pr := pos_find (l := s.Heights) (u := v) (by omega) (by omega)
  generalize (findS s.Widths u).1 = c at pc
  generalize (findS s.Heights v).1 = r at pr
  generalize decide ((findS s.Widths u).2 < 0) = bc at pc
  generalize decide ((findS s.Heights v).2 < 0) = br at pr
  cases bc <;> cases br
  · rw [hg.within_no h pc pr] at hb; cases hb
  · obtain ⟨h1, h2, h3, h4⟩ := hg.sides h pc pr
    rw [h1] at hb
    obtain ⟨h5, h6⟩ := h4 (of_decide_eq_true hb)
    rw [h2, h3, h5, h6]
    decide
  · obtain ⟨h1, h2, h3, h4⟩ := hg.downs h pc pr
    rw [h1] at hb
    obtain ⟨h5, h6⟩ := h4 (of_decide_eq_true hb)
    rw [h2, h3, h5, h6]
    decide
  · obtain ⟨h1, h2, h3, h4⟩ := hg.cross h pc pr
    have h5 := (hg.no_tt pc.lo (pc.bord rfl).1 pr.lo (pr.bord rfl).1).1 ((hg.border h pc pr).1 hb)
    rw [h1, h2, h3, h4]
    exact two_of h5
omit hg in
theorem sum_cnt : ∀ B a b c d : Bool, (B = true → 2 ≤ cnt4 a b c d) → (0 ≤ sum4 (B && a) (B && b) (B && c) (B && d) ∧ sum4 (B && a) (B && b) (B && c) (B && d) < 16) ∧
    ¬ (sum4 (B && a) (B && b) (B && c) (B && d) % 2 + sum4 (B && a) (B && b) (B && c) (B && d) / 2 % 2 + sum4 (B && a) (B && b) (B && c) (B && d) / 4 % 2 + sum4 (B && a) (B && b) (B && c) (B && d) / 8 % 2 = 1) ∧
    (sum4 (B && a) (B && b) (B && c) (B && d) == 0) = !B := by decide
theorem Good.some_arms (h : ¬ offS s u v) : (0 ≤ (armsS s u v).1 ∧ (armsS s u v).1 < 16) ∧ ¬ ((armsS s u v).1 % 2 + (armsS s u v).1 / 2 % 2 + (armsS s u v).1 / 4 % 2 + (armsS s u v).1 / 8 % 2 = 1) ∧ ((armsS s u v).1 == 0) = !rborderS s u v := by
  rw [hg.arms_val h]
  exact sum_cnt _ _ _ _ _ (hg.two h)
/-! ### around a region -/
theorem Good.around_arms {R : TRect} (hR : R ∈ regionsS s) {x y : Int}
    (hx : -1 ≤ x) (hx' : x ≤ (startsS s.Widths).getD (R.Col + R.Cols).toNat 0 - (startsS s.Widths).getD R.Col.toNat 0 - 1)
    (hy : -1 ≤ y) (hy' : y ≤ (startsS s.Heights).getD (R.Row + R.Rows).toNat 0 - (startsS s.Heights).getD R.Row.toNat 0 - 1) :
    ¬ offS s ((startsS s.Widths).getD R.Col.toNat 0 + x) ((startsS s.Heights).getD R.Row.toNat 0 + y) ∧
    rborderS s ((startsS s.Widths).getD R.Col.toNat 0 + x) ((startsS s.Heights).getD R.Row.toNat 0 + y) =
      !(((decide (x ≥ 0) && decide (x < (startsS s.Widths).getD (R.Col + R.Cols).toNat 0 - (startsS s.Widths).getD R.Col.toNat 0 - 1)) && decide (y ≥ 0)) && decide (y < (startsS s.Heights).getD (R.Row + R.Rows).toNat 0 - (startsS s.Heights).getD R.Row.toNat 0 - 1)) := by
  have f := (hg.mem_fits hR).1
  have f' := f
  unfold Fits at f
  have a1 := starts_le s.Widths (i := 0) (j := R.Col.toNat) (by omega) (by omega)
  have a2 := starts_le s.Widths (i := (R.Col + R.Cols).toNat) (j := s.Widths.length) (by omega) (by omega)
  have b1 := starts_le s.Heights (i := 0) (j := R.Row.toNat) (by omega) (by omega)
  have b2 := starts_le s.Heights (i := (R.Row + R.Rows).toNat) (j := s.Heights.length) (by omega) (by omega)
  rw [starts_head] at a1 b1
  have ho : ¬ offS s ((startsS s.Widths).getD R.Col.toNat 0 + x) ((startsS s.Heights).getD R.Row.toNat 0 + y) := by rw [off_iff]; omega
  refine ⟨ho, ?_⟩
  have ho' := ho
  rw [off_iff] at ho'
  have pc := pos_find (l := s.Widths) (u := (startsS s.Widths).getD R.Col.toNat 0 + x) (by omega) (by omega)
  have pr := pos_find (l := s.Heights) (u := (startsS s.Heights).getD R.Row.toNat 0 + y) (by omega) (by omega)
  generalize hc : (findS s.Widths ((startsS s.Widths).getD R.Col.toNat 0 + x)).1 = c at pc
  generalize hr : (findS s.Heights ((startsS s.Heights).getD R.Row.toNat 0 + y)).1 = r at pr
  generalize decide ((findS s.Widths ((startsS s.Widths).getD R.Col.toNat 0 + x)).2 < 0) = bc at pc
  generalize decide ((findS s.Heights ((startsS s.Heights).getD R.Row.toNat 0 + y)).2 < 0) = br at pr
  have ic := pos_in pc (C := R.Col) (n := R.Cols) (by omega) (by omega) (by omega)
  have ir := pos_in pr (C := R.Row) (n := R.Rows) (by omega) (by omega) (by omega)
  have hin : (((decide (x ≥ 0) && decide (x < (startsS s.Widths).getD (R.Col + R.Cols).toNat 0 - (startsS s.Widths).getD R.Col.toNat 0 - 1)) && decide (y ≥ 0)) && decide (y < (startsS s.Heights).getD (R.Row + R.Rows).toNat 0 - (startsS s.Heights).getD R.Row.toNat 0 - 1)) = true ↔ (inC c bc R.Col R.Cols ∧ inC r br R.Row R.Rows) := by
    rw [← ic, ← ir]
    simp only [Bool.and_eq_true, decide_eq_true_eq]
    omega
  have near : ∀ {l : List Int} {C n c : Int} {b : Bool} {x : Int}, 0 ≤ C → 1 ≤ n → C + n ≤ l.length → PosC l ((startsS l).getD C.toNat 0 + x) c b → -1 ≤ x → x ≤ (startsS l).getD (C + n).toNat 0 - (startsS l).getD C.toNat 0 - 1 →
      (b = true → C ≤ c ∧ c ≤ C + n) ∧ (b = false → C ≤ c ∧ c < C + n) := by
    intro l C n c b x h1 h2 h3 p h4 h5
    have p0 := p.lo
    constructor
    · intro hb
      obtain ⟨q1, q2⟩ := p.bord hb
      have e1 := st_lt (l := l) (i := c.toNat) (j := C.toNat) (by omega) (by omega)
      have e2 := st_lt (l := l) (i := (C + n).toNat) (j := c.toNat) (by omega) (by omega)
      omega
    · intro hb
      obtain ⟨q1, q2, q3⟩ := p.ins hb
      have e1 := st_lt (l := l) (i := C.toNat) (j := c.toNat + 1) (by omega) (by omega)
      have e2 := st_lt (l := l) (i := c.toNat) (j := (C + n).toNat) (by omega) (by omega)
      omega
  have nc := near (by omega) (by omega) (by omega) pc hx hx'
  have nr := near (by omega) (by omega) (by omega) pr hy hy'
  have hb := hg.border ho pc pr
  rw [Bool.eq_iff_iff, hb, Bool.not_eq_true', ← Bool.not_eq_true, hin]
  constructor
  · intro h1 h2
    exact h1 R hR h2
  · intro h1 R' hR' h2
    refine h1 ?_
    have : R' = R := by
      have g : ∀ {C n C' n' c : Int} {b : Bool}, 1 ≤ n → inC c b C' n' → ((b = true → C ≤ c ∧ c ≤ C + n) ∧ (b = false → C ≤ c ∧ c < C + n)) → ∃ j, C ≤ j ∧ j < C + n ∧ C' ≤ j ∧ j < C' + n' := by
        intro C n C' n' c b h0 h3 h4
        unfold inC at h3
        cases b with
        | true =>
          have h5 := h4.1 rfl
          simp only [if_true] at h3
          by_cases h6 : c < C + n
          · exact ⟨c, by omega, by omega, by omega, by omega⟩
          · exact ⟨c - 1, by omega, by omega, by omega, by omega⟩
        | false =>
          have h5 := h4.2 rfl
          simp only [Bool.false_eq_true, if_false] at h3
          exact ⟨c, by omega, by omega, by omega, by omega⟩
      obtain ⟨j, j1, j2, j3, j4⟩ := g (by omega) h2.1 nc
      obtain ⟨i, i1, i2, i3, i4⟩ := g (by omega) h2.2 nr
      exact (hg.of_in hR' (p := i) (q := j) ⟨i3, i4, j3, j4⟩).trans (hg.of_in hR (p := i) (q := j) ⟨i1, i2, j1, j2⟩).symm
    rw [← this]
    exact h2
omit hg in
theorem sumC_le {l : List Int} {m : Int} (h : ∀ x ∈ l, x ≤ m) (hm : 1 ≤ m) (i : Nat) : ∀ n : Nat, i + n ≤ l.length → sumC l i n ≤ m * n
  | 0, _ => by simp [sumC]
  | n + 1, hn => by
    have h1 := sumC_le h hm i n (by omega)
    have h2 := h _ (mem_getD 0 (show i + n < l.length by omega))
    simp only [sumC]
    unfold acutS
    rw [show m * ((n + 1 : Nat) : Int) = m * (n : Int) + m by rw [Int.natCast_add, Int.mul_add]; simp]
    omega
theorem Good.sizes_le {R : TRect} (hR : Fits s R) : (1 ≤ (startsS s.Widths).getD (R.Col + R.Cols).toNat 0 - (startsS s.Widths).getD R.Col.toNat 0 - 1 ∧ (startsS s.Widths).getD (R.Col + R.Cols).toNat 0 - (startsS s.Widths).getD R.Col.toNat 0 - 1 ≤ 1000) ∧
    (1 ≤ (startsS s.Heights).getD (R.Row + R.Rows).toNat 0 - (startsS s.Heights).getD R.Row.toNat 0 - 1 ∧ (startsS s.Heights).getD (R.Row + R.Rows).toNat 0 - (startsS s.Heights).getD R.Row.toNat 0 - 1 ≤ 400) := by
  obtain ⟨h1, _, _, _, _⟩ := chk_ok hg.ok
  have := hg.hs
  have := hg.ws
  unfold Fits at hR
  simp only [limitsS, Bool.and_eq_true, Bool.not_eq_true'] at h1
  obtain ⟨⟨⟨_, h2⟩, h3⟩, _⟩ := h1
  unfold overS at h2 h3
  simp only [Bool.or_eq_false_iff] at h2 h3
  have k2 : ∀ x ∈ s.Widths, x ≤ 60 := fun x hx => by have := hasF_false h2.2 x hx; simpa using this
  have k3 : ∀ x ∈ s.Heights, x ≤ 12 := fun x hx => by have := hasF_false h3.2 x hx; simpa using this
  have e1 := sumC_starts s.Widths R.Col.toNat R.Cols.toNat (by omega)
  have e2 := sumC_starts s.Heights R.Row.toNat R.Rows.toNat (by omega)
  have b1 := sumC_le k2 (by omega) R.Col.toNat R.Cols.toNat (by omega)
  have b2 := sumC_le k3 (by omega) R.Row.toNat R.Rows.toNat (by omega)
  have c1 := sumC_bd s.Widths R.Col.toNat R.Cols.toNat
  have c2 := sumC_bd s.Heights R.Row.toNat R.Rows.toNat
  rw [show R.Col.toNat + R.Cols.toNat = (R.Col + R.Cols).toNat by omega] at e1
  rw [show R.Row.toNat + R.Rows.toNat = (R.Row + R.Rows).toNat by omega] at e2
  omega
end
def dxL : List Int := [1, 0, -1, 0]
theorem dx_bd (k : Nat) : -1 ≤ dxL.getD k 0 ∧ dxL.getD k 0 ≤ 1 := by
  match k with
  | 0 => decide
  | 1 => decide
  | 2 => decide
  | 3 => decide
  | n + 4 => exact ⟨by simp [dxL, List.getD], by simp [dxL, List.getD]⟩
theorem bne_no {a b : Bool} (h : a = b) : (a != b) = false := by rw [h]; simp
theorem Good.both' {s : TSheet} (hg : Good s) {u v : Int} (h : ¬ offS s u v) {i : Nat} (hi : i < 4) :
    (((armsS s (u + dxL.getD i 0) (v + dxL.getD (((i : Int) + 3) % 4).toNat 0)).2 == 0) && ((armsS s (u + dxL.getD i 0) (v + dxL.getD (((i : Int) + 3) % 4).toNat 0)).1 / 2 ^ (((i : Int) + 2) % 4).toNat % 2 == 1)) = ((armsS s u v).1 / 2 ^ i % 2 == 1) := by
  match i, hi with
  | 0, _ => have := hg.both h (k := 0) (by decide); simpa [nbr, dxL, List.getD] using this
  | 1, _ => have := hg.both h (k := 1) (by decide); simpa [nbr, dxL, List.getD] using this
  | 2, _ => have := hg.both h (k := 2) (by decide); simpa [nbr, dxL, List.getD, Int.sub_eq_add_neg] using this
  | 3, _ => have := hg.both h (k := 3) (by decide); simpa [nbr, dxL, List.getD, Int.sub_eq_add_neg] using this
theorem reg_ok {s : TSheet} (hI : SheetI s) {i j : Int} (h : (regionS s i j).2 = 0) : Good s ∧ (regionS s i j).1 ∈ regionsS s ∧ Fits s (regionS s i j).1 := by
  by_cases hc : checkSh s = 0
  · have hg := good_of hI hc
    by_cases hb : 0 ≤ i ∧ i < s.Heights.length ∧ 0 ≤ j ∧ j < s.Widths.length
    · rw [hg.region hb.1 hb.2.1 hb.2.2.1 hb.2.2.2]
      exact ⟨hg, hg.mem_around hb.1 hb.2.1 hb.2.2.1 hb.2.2.2, hg.around_fits hb.1 hb.2.1 hb.2.2.1 hb.2.2.2⟩
    · rw [hg.region_out hb] at h
      exact absurd h (by decide)
  · unfold regionS at h
    rw [if_pos hc] at h
    exact absurd h (by decide)
theorem wrap_I64 (x : Int) : I64 (IntKind.i64.wrap x) := by
  unfold I64
  rw [IntKind.wrap_i64]
  omega
def SzS (s : TSheet) : Prop := s.Widths.length * 8 ≤ 140737488355328 ∧ s.Heights.length * 8 ≤ 140737488355328 ∧ s.Cells.length * 56 ≤ 140737488355328 ∧ s.Merges.length * 32 ≤ 140737488355328
theorem SheetG.I2 {s : TSheet} (h : SheetG s) (hz : SzS s) : SheetI s := ⟨h.1, h.2, by unfold SzS at hz; omega, by unfold SzS at hz; omega⟩
/-! ### signs -/
def bitsS (n : Int) : Int := n % 2 + n / 2 % 2 + n / 4 % 2 + n / 8 % 2
theorem turn_facts (a : Int) : edTurn (edTurn a) = a % 16 ∧ Go.bits .and .i64 (edTurn a) 10 = Go.bits .and .i64 (a % 16) 10 ∧ bitsS (edTurn a) = bitsS (a % 16) ∧ edTurn a / 4 % 2 = a % 16 % 2 ∧ ofS (glyphS a) = a % 16 := by
  rw [turn_mod a, show glyphS a = glyphS (a % 16) by unfold glyphS; rw [show a % 16 % 16 = a % 16 by omega]]
  exact sixteen (p := fun n => edTurn (edTurn n) = n ∧ Go.bits .and .i64 (edTurn n) 10 = Go.bits .and .i64 n 10 ∧ bitsS (edTurn n) = bitsS n ∧ edTurn n / 4 % 2 = n % 2 ∧ ofS (glyphS n) = n) (by decide +kernel) a
/-! ### the chapter's sheet -/
def esmallS : TSheet := ⟨0, [3, 2], [1, 1], [], [⟨0, 0, 1, 2⟩]⟩
def hasE (u v n : Int) : Bool := ((armsS esmallS u v).1 == n) && ((armsS esmallS u v).2 == 0)
end Go.Proofs.YtalpekmbknjeeaaG
