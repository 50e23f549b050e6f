/- Edges: the program's arms are the document's, in plain Lean. -/
import Derived.Test.YtalpekmbknjeeaaEdgP
set_option linter.all false
namespace Go.Proofs.YtalpekmbknjeeaaG
open Go Go.RowKit
theorem bs_ge {t : Int} : ∀ {l : List Int}, bsS l t < l.length → t ≤ l.getD (bsS l t) 0
  | [], h => by simp [bsS] at h
  | x :: r, h => by
    unfold bsS at h ⊢
    rw [List.takeWhile_cons] at h ⊢
    split
    · rename_i hx
      rw [if_pos hx] at h
      have := bs_ge (l := r) (t := t) (by unfold bsS; simpa using h)
      simpa [bsS] using this
    · rename_i hx
      simp at hx ⊢
      exact hx
/-- Where a slot of an axis lies: ahead of a size, or in one. -/
structure PosC (l : List Int) (u c : Int) (b : Bool) : Prop where
  lo : 0 ≤ c
  bord : b = true → c ≤ l.length ∧ ((startsS l).getD c.toNat 0) = u + 1
  ins : b = false → c < l.length ∧ ((startsS l).getD c.toNat 0) ≤ u ∧ u + 1 < ((startsS l).getD (c.toNat + 1) 0)
theorem pos_find {l : List Int} {u : Int} (h0 : 0 ≤ u) (h1 : u < ((startsS l).getD l.length 0)) : PosC l u (findS l u).1 (decide ((findS l u).2 < 0)) := by
  have h2 := find_mid (l := l) h0 h1
  have hl := starts_len l
  unfold findS
  rw [if_neg (by omega)]
  generalize hi : bsS (startsS l) (u + 1) = i at h2
  split
  · rename_i h3
    refine ⟨by simp, fun _ => ⟨by simp only; omega, by simpa using h3⟩, fun hb => (by simp at hb)⟩
  · rename_i h3
    have h4 := h2.2 h3
    have h5 := bs_lt (l := startsS l) (t := u + 1) (i - 1) (by omega)
    have h6 := bs_ge (l := startsS l) (t := u + 1) (by omega)
    rw [hi] at h6
    have h7 : ((i : Int) - 1).toNat = i - 1 := by omega
    refine ⟨by simp only; omega, fun hb => ?_, fun _ => ?_⟩
    · simp only [decide_eq_true_eq] at hb
      omega
    · simp only
      rw [h7, show i - 1 + 1 = i by omega]
      omega
theorem find_out' (l : List Int) (u : Int) : (findS l u).1 < 0 ↔ (u < 0 ∨ ((startsS l).getD l.length 0) ≤ u) := by
  constructor
  · intro h
    rcases Int.lt_or_le u 0 with h1 | h1
    · exact .inl h1
    · rcases Int.lt_or_le u (((startsS l).getD l.length 0)) with h2 | h2
      · have := (pos_find h1 h2).lo
        omega
      · exact .inr h2
  · intro h
    unfold findS
    rw [if_pos h]
    decide
def inC (c : Int) (b : Bool) (C n : Int) : Prop := (if b = true then C < c else C ≤ c) ∧ c < C + n
theorem st_lt {l : List Int} {i j : Nat} (hi : i ≤ l.length) (hj : j ≤ l.length) : ((startsS l).getD i 0) < ((startsS l).getD j 0) ↔ i < j := by
  constructor
  · intro h
    rcases Nat.lt_or_ge i j with h1 | h1
    · exact h1
    · have := starts_le l h1 hi
      omega
  · intro h
    have := starts_mono l j i h hj
    omega
theorem pos_in {l : List Int} {u c C n : Int} {b : Bool} (h : PosC l u c b) (hC : 0 ≤ C) (hn : 1 ≤ n) (hl : C + n ≤ l.length) : (((startsS l).getD C.toNat 0) ≤ u ∧ u < ((startsS l).getD (C + n).toNat 0) - 1) ↔ inC c b C n := by
  have h0 := h.lo
  unfold inC
  cases b with
  | true =>
    obtain ⟨h1, h2⟩ := h.bord rfl
    have e1 := st_lt (l := l) (i := C.toNat) (j := c.toNat) (by omega) (by omega)
    have e2 := st_lt (l := l) (i := c.toNat) (j := (C + n).toNat) (by omega) (by omega)
    simp only [if_true]
    omega
  | false =>
    obtain ⟨h1, h2, h3⟩ := h.ins rfl
    have A1 : C.toNat ≤ c.toNat → (startsS l).getD C.toNat 0 ≤ u := fun h => Int.le_trans (starts_le l h (by omega)) h2
    have A2 : c.toNat + 1 ≤ C.toNat → u + 1 < (startsS l).getD C.toNat 0 := fun h => Int.lt_of_lt_of_le h3 (starts_le l h (by omega))
    have B1 : c.toNat + 1 ≤ (C + n).toNat → u + 1 < (startsS l).getD (C + n).toNat 0 := fun h => Int.lt_of_lt_of_le h3 (starts_le l h (by omega))
    have B2 : (C + n).toNat ≤ c.toNat → (startsS l).getD (C + n).toNat 0 ≤ u := fun h => Int.le_trans (starts_le l h (by omega)) h2
    simp only [Bool.false_eq_true, if_false]
    rcases Nat.lt_or_ge c.toNat C.toNat with q1 | q1 <;> rcases Nat.lt_or_ge c.toNat (C + n).toNat with q2 | q2
    · have := A2 q1; omega
    · have := A2 q1; have := B2 q2; omega
    · have := A1 q1; have := B1 q2; omega
    · have := A1 q1; have := B2 q2; omega
theorem pos_next {l : List Int} {u c : Int} {b : Bool} (h : PosC l u c b) : (u + 1 < ((startsS l).getD l.length 0) → (b = true → PosC l (u + 1) c false) ∧ (b = false → PosC l (u + 1) c false ∨ PosC l (u + 1) (c + 1) true)) ∧ (((startsS l).getD l.length 0) ≤ u + 1 → b = true ∧ c = l.length) := by
  have h0 := h.lo
  cases b with
  | true =>
    obtain ⟨h1, h2⟩ := h.bord rfl
    constructor
    · intro hu
      refine ⟨fun _ => ⟨h0, fun e => (by cases e), fun _ => ?_⟩, fun e => (by cases e)⟩
      have e1 := st_lt (l := l) (i := c.toNat) (j := l.length) (by omega) (by omega)
      have e2 := starts_mono l (c.toNat + 1) c.toNat (by omega) (by omega)
      omega
    · intro hu
      have e1 := st_lt (l := l) (i := c.toNat) (j := l.length) (by omega) (by omega)
      exact ⟨rfl, by omega⟩
  | false =>
    obtain ⟨h1, h2, h3⟩ := h.ins rfl
    constructor
    · intro hu
      refine ⟨fun e => (by cases e), fun _ => ?_⟩
      by_cases e : u + 2 = ((startsS l).getD (c.toNat + 1) 0)
      · refine .inr ⟨by omega, fun _ => ⟨by omega, ?_⟩, fun e => (by cases e)⟩
        rw [show (c + 1).toNat = c.toNat + 1 by omega]
        omega
      · exact .inl ⟨h0, fun e => (by cases e), fun _ => by omega⟩
    · intro hu
      have e1 := starts_le l (i := c.toNat + 1) (j := l.length) (by omega) (by omega)
      omega
theorem pos_prev {l : List Int} {u c : Int} {b : Bool} (h : PosC l u c b) : (0 ≤ u - 1 → (b = true → PosC l (u - 1) (c - 1) false) ∧ (b = false → PosC l (u - 1) c false ∨ PosC l (u - 1) c true)) ∧ (u - 1 < 0 → b = true ∧ c = 0) := by
  have h0 := h.lo
  have hd := starts_head l
  cases b with
  | true =>
    obtain ⟨h1, h2⟩ := h.bord rfl
    constructor
    · intro hu
      refine ⟨fun _ => ?_, fun e => (by cases e)⟩
      have hc : c ≠ 0 := fun e => by
        subst e
        rw [show (0 : Int).toNat = 0 from rfl, hd] at h2
        omega
      have e2 := starts_mono l c.toNat (c.toNat - 1) (by omega) (by omega)
      refine ⟨by omega, fun e => (by cases e), fun _ => ?_⟩
      rw [show (c - 1).toNat = c.toNat - 1 by omega, show c.toNat - 1 + 1 = c.toNat by omega]
      omega
    · intro hu
      have e1 := st_lt (l := l) (i := 0) (j := c.toNat) (by omega) (by omega)
      rw [hd] at e1
      exact ⟨rfl, by omega⟩
  | false =>
    obtain ⟨h1, h2, h3⟩ := h.ins rfl
    constructor
    · intro hu
      refine ⟨fun e => (by cases e), fun _ => ?_⟩
      by_cases e : u = ((startsS l).getD c.toNat 0)
      · exact .inr ⟨h0, fun _ => ⟨by omega, by omega⟩, fun e => (by cases e)⟩
      · exact .inl ⟨h0, fun e => (by cases e), fun _ => by omega⟩
    · intro hu
      have e1 := starts_le l (i := 0) (j := c.toNat) (by omega) (by omega)
      rw [hd] at e1
      omega
/-- A cell's region, if there is such a cell. -/
def Reg (s : TSheet) (i j : Int) : Option TRect := if 0 ≤ i ∧ i < s.Heights.length ∧ 0 ≤ j ∧ j < s.Widths.length then some (aroundS s i j) else none
section
variable {s : TSheet} (hg : Good s)
include hg
theorem Good.pos : 1 ≤ s.Heights.length ∧ 1 ≤ s.Widths.length := by
  obtain ⟨h1, h2, h3, h4, h5⟩ := chk_ok hg.ok
  unfold orderS at h2
  split at h2
  · cases h2
  · rename_i h
    simp only [Bool.or_eq_true, not_or, Bool.not_eq_true', Bool.not_eq_false] at h
    obtain ⟨⟨⟨⟨_, h6⟩, h7⟩, _⟩, _⟩ := h
    unfold sizesS at h6 h7
    simp only [Bool.and_eq_true, decide_eq_true_eq] at h6 h7
    omega
theorem Good.region_out {i j : Int} (h : ¬ (0 ≤ i ∧ i < s.Heights.length ∧ 0 ≤ j ∧ j < s.Widths.length)) : regionS s i j = (⟨0, 0, 0, 0⟩, 4) := by
  unfold regionS
  rw [if_neg (by simp [hg.ok]), if_pos]
  rw [far_law hg.I]
  simp only [Bool.not_eq_false', Bool.or_eq_true, decide_eq_true_eq]
  omega
theorem Good.parts (i j k l : Int) : partsS s i j k l = decide (Reg s i j ≠ Reg s k l) := by
  unfold partsS Reg
  by_cases h1 : 0 ≤ i ∧ i < s.Heights.length ∧ 0 ≤ j ∧ j < s.Widths.length
  · have f1 := hg.around_fits h1.1 h1.2.1 h1.2.2.1 h1.2.2.2
    rw [hg.region h1.1 h1.2.1 h1.2.2.1 h1.2.2.2, if_pos h1]
    by_cases h2 : 0 ≤ k ∧ k < s.Heights.length ∧ 0 ≤ l ∧ l < s.Widths.length
    · rw [hg.region h2.1 h2.2.1 h2.2.2.1 h2.2.2.2, if_pos h2]
      simp
    · rw [hg.region_out h2, if_neg h2]
      have : aroundS s i j ≠ ⟨0, 0, 0, 0⟩ := fun e => by rw [e] at f1; unfold Fits at f1; simp at f1
      simp [this]
  · rw [hg.region_out h1, if_neg h1]
    by_cases h2 : 0 ≤ k ∧ k < s.Heights.length ∧ 0 ≤ l ∧ l < s.Widths.length
    · have f2 := hg.around_fits h2.1 h2.2.1 h2.2.2.1 h2.2.2.2
      rw [hg.region h2.1 h2.2.1 h2.2.2.1 h2.2.2.2, if_pos h2]
      have : (⟨0, 0, 0, 0⟩ : TRect) ≠ aroundS s k l := fun e => by rw [← e] at f2; unfold Fits at f2; simp at f2
      simp [this]
    · rw [hg.region_out h2, if_neg h2]
      simp
/-- No region holds a place. -/
def NoReg (s : TSheet) (c r : Int) (bc br : Bool) : Prop := ∀ R ∈ regionsS s, ¬ (inC c bc R.Col R.Cols ∧ inC r br R.Row R.Rows)
theorem Good.rin {R : TRect} (hR : R ∈ regionsS s) {u v c r : Int} {bc br : Bool} (hc : PosC s.Widths u c bc) (hr : PosC s.Heights v r br) : rinS s R u v = true ↔ (inC c bc R.Col R.Cols ∧ inC r br R.Row R.Rows) := by
  have f := (hg.mem_fits hR).1
  unfold Fits at f
  have e1 := sumC_starts s.Widths R.Col.toNat R.Cols.toNat (by omega)
  have e2 := sumC_starts s.Heights R.Row.toNat R.Rows.toNat (by omega)
  rw [← pos_in hc (by omega) (by omega) (by omega), ← pos_in hr (by omega) (by omega) (by omega)]
  rw [show R.Col.toNat + R.Cols.toNat = (R.Col + R.Cols).toNat by omega] at e1
  rw [show R.Row.toNat + R.Rows.toNat = (R.Row + R.Rows).toNat by omega] at e2
  unfold rinS
  simp only [Bool.and_eq_true, decide_eq_true_eq]
  omega
theorem Good.border {u v c r : Int} {bc br : Bool} (hoff : ¬ offS s u v) (hc : PosC s.Widths u c bc) (hr : PosC s.Heights v r br) : rborderS s u v = true ↔ NoReg s c r bc br := by
  unfold rborderS NoReg
  rw [if_neg hoff, rreg_law hg.I hg.ok]
  simp only [Bool.not_eq_true', List.any_eq_false]
  constructor
  · intro h R hR he
    exact h R hR ((hg.rin hR hc hr).2 he)
  · intro h R hR he
    exact h R hR ((hg.rin hR hc hr).1 he)
theorem Good.no_ff {c r : Int} (hc : 0 ≤ c) (hc' : c < s.Widths.length) (hr : 0 ≤ r) (hr' : r < s.Heights.length) : ¬ NoReg s c r false false := by
  intro h
  refine h _ (hg.mem_around hr hr' hc hc') ?_
  have := hg.around_in hr hr' hc hc'
  unfold InR at this
  unfold inC
  simp only [Bool.false_eq_true, if_false]
  omega
theorem Good.reg_eq {i j k l : Int} (h : Reg s i j = Reg s k l) (h0 : 0 ≤ i ∧ i < s.Heights.length ∧ 0 ≤ j ∧ j < s.Widths.length) : (0 ≤ k ∧ k < s.Heights.length ∧ 0 ≤ l ∧ l < s.Widths.length) ∧ aroundS s k l = aroundS s i j := by
  unfold Reg at h
  rw [if_pos h0] at h
  split at h
  · rename_i h1
    exact ⟨h1, by injection h with h; exact h.symm⟩
  · cases h
theorem Good.reg_in {R : TRect} (hR : R ∈ regionsS s) {i j : Int} (h : InR R i j) : Reg s i j = some R := by
  have f := (hg.mem_fits hR).1
  unfold Fits at f
  unfold InR at h
  unfold Reg
  rw [if_pos (by omega), ← hg.of_in hR (p := i) (q := j) (by unfold InR; omega)]
theorem Good.no_tf {c r : Int} (hc : 0 ≤ c) (hc' : c ≤ s.Widths.length) (hr : 0 ≤ r) (hr' : r < s.Heights.length) : NoReg s c r true false ↔ Reg s r (c - 1) ≠ Reg s r c := by
  have hp := hg.pos
  constructor
  · intro h e
    have h0 : 0 ≤ r ∧ r < s.Heights.length ∧ 0 ≤ c ∧ c < s.Widths.length := by
      rcases Int.lt_or_le c s.Widths.length with h1 | h1
      · exact ⟨hr, hr', hc, h1⟩
      · have := (hg.reg_eq e (by omega)).1
        omega
    obtain ⟨h1, h2⟩ := hg.reg_eq e.symm h0
    have i1 := hg.around_in h0.1 h0.2.1 h0.2.2.1 h0.2.2.2
    have i2 := hg.around_in h1.1 h1.2.1 h1.2.2.1 h1.2.2.2
    rw [h2] at i2
    refine h _ (hg.mem_around h0.1 h0.2.1 h0.2.2.1 h0.2.2.2) ?_
    unfold InR at i1 i2
    unfold inC
    simp only [if_true, Bool.false_eq_true, if_false]
    omega
  · intro h R hR he
    unfold inC at he
    simp only [if_true, Bool.false_eq_true, if_false] at he
    refine h ?_
    rw [hg.reg_in hR (i := r) (j := c - 1) (by unfold InR; omega), hg.reg_in hR (i := r) (j := c) (by unfold InR; omega)]
theorem Good.no_ft {c r : Int} (hc : 0 ≤ c) (hc' : c < s.Widths.length) (hr : 0 ≤ r) (hr' : r ≤ s.Heights.length) : NoReg s c r false true ↔ Reg s (r - 1) c ≠ Reg s r c := by
  have hp := hg.pos
  constructor
  · intro h e
    have h0 : 0 ≤ r ∧ r < s.Heights.length ∧ 0 ≤ c ∧ c < s.Widths.length := by
      rcases Int.lt_or_le r s.Heights.length with h1 | h1
      · exact ⟨hr, h1, hc, hc'⟩
      · have := (hg.reg_eq e (by omega)).1
        omega
    obtain ⟨h1, h2⟩ := hg.reg_eq e.symm h0
    have i1 := hg.around_in h0.1 h0.2.1 h0.2.2.1 h0.2.2.2
    have i2 := hg.around_in h1.1 h1.2.1 h1.2.2.1 h1.2.2.2
    rw [h2] at i2
    refine h _ (hg.mem_around h0.1 h0.2.1 h0.2.2.1 h0.2.2.2) ?_
    unfold InR at i1 i2
    unfold inC
    simp only [if_true, Bool.false_eq_true, if_false]
    omega
  · intro h R hR he
    unfold inC at he
    simp only [if_true, Bool.false_eq_true, if_false] at he
    refine h ?_
    rw [hg.reg_in hR (i := r - 1) (j := c) (by unfold InR; omega), hg.reg_in hR (i := r) (j := c) (by unfold InR; omega)]
theorem Good.no_tt {c r : Int} (hc : 0 ≤ c) (hc' : c ≤ s.Widths.length) (hr : 0 ≤ r) (hr' : r ≤ s.Heights.length) :
    NoReg s c r true true ↔ ¬ (Reg s (r - 1) (c - 1) = Reg s (r - 1) c ∧ Reg s (r - 1) c = Reg s r c ∧ Reg s r c = Reg s r (c - 1)) := by
  have hp := hg.pos
  constructor
  · rintro h ⟨e1, e2, e3⟩
    have h0 : 0 ≤ r ∧ r < s.Heights.length ∧ 0 ≤ c ∧ c < s.Widths.length := by
      rcases Int.lt_or_le r s.Heights.length with h1 | h1
      · rcases Int.lt_or_le c s.Widths.length with h2 | h2
        · exact ⟨hr, h1, hc, h2⟩
        · have := (hg.reg_eq e3.symm (by omega)).1
          omega
      · rcases Int.lt_or_le c s.Widths.length with h2 | h2
        · have := (hg.reg_eq e2 (by omega)).1
          omega
        · have := (hg.reg_eq e1 (by omega)).1
          omega
    obtain ⟨h1, h2⟩ := hg.reg_eq e3 h0
    obtain ⟨h3, h4⟩ := hg.reg_eq e2.symm h0
    have i1 := hg.around_in h0.1 h0.2.1 h0.2.2.1 h0.2.2.2
    have i2 := hg.around_in h1.1 h1.2.1 h1.2.2.1 h1.2.2.2
    have i3 := hg.around_in h3.1 h3.2.1 h3.2.2.1 h3.2.2.2
    rw [h2] at i2
    rw [h4] at i3
    refine h _ (hg.mem_around h0.1 h0.2.1 h0.2.2.1 h0.2.2.2) ?_
    unfold InR at i1 i2 i3
    unfold inC
    simp only [if_true]
    omega
  · intro h R hR he
    unfold inC at he
    simp only [if_true] at he
    refine h ?_
    rw [hg.reg_in hR (i := r - 1) (j := c - 1) (by unfold InR; omega), hg.reg_in hR (i := r - 1) (j := c) (by unfold InR; omega), hg.reg_in hR (i := r) (j := c) (by unfold InR; omega), hg.reg_in hR (i := r) (j := c - 1) (by unfold InR; omega)]
    exact ⟨rfl, rfl, rfl⟩
end
end Go.Proofs.YtalpekmbknjeeaaG
