/- Sheets: what the program says is what the document says. -/
import Derived.Test.YtalpekmbknjeeaaSheP
set_option linter.all false
namespace Go.Proofs.YtalpekmbknjeeaaG
open Go Go.RowKit
/-- A sheet's numbers are the machine's. -/
def SheetI (s : TSheet) : Prop := (∀ r ∈ s.Merges, RectI r) ∧ (∀ c ∈ s.Cells, I64 c.Row ∧ I64 c.Col) ∧ s.Heights.length ≤ 17592186044416 ∧ s.Widths.length ≤ 17592186044416
theorem any_congr {α : Type} {p q : α → Bool} {l : List α} (h : ∀ x ∈ l, p x = q x) : l.any p = l.any q := by
  induction l with
  | nil => rfl
  | cons a t ih => simp only [List.any_cons]; rw [h a List.mem_cons_self, ih fun x hx => h x (List.mem_cons_of_mem _ hx)]
theorem mem_getD {α : Type} {l : List α} {i : Nat} (d : α) (h : i < l.length) : l.getD i d ∈ l := by simp [List.getD, h]
theorem idxF_find {α : Type} (d : α) (p : α → Bool) : ∀ (l : List α) (i : Int), (l.find? p = none ∧ idxF p l i = -1) ∨ (∃ k : Nat, k < l.length ∧ idxF p l i = i + k ∧ l.find? p = some (l.getD k d))
  | [], i => .inl ⟨rfl, rfl⟩
  | x :: r, i => by
    cases hp : p x with
    | true => exact .inr ⟨0, by simp, by simp [idxF, hp], by simp [List.find?_cons, hp]⟩
    | false =>
      rcases idxF_find d p r (i + 1) with ⟨h1, h2⟩ | ⟨k, hk, h1, h2⟩
      · exact .inl ⟨by simpa [List.find?_cons, hp] using h1, by simpa [idxF, hp] using h2⟩
      · refine .inr ⟨k + 1, by simp; omega, ?_, ?_⟩
        · simp only [idxF, hp, cond_false, h1]; omega
        · rw [List.find?_cons, hp]; simpa using h2
theorem limits_law (s : TSheet) : limitsS s = rlimitsS s := by
  unfold limitsS rlimitsS overS
  simp only [hasF_any]
  split
  · rename_i h
    rw [Bool.eq_iff_iff]
    simp only [Bool.and_eq_true, Bool.not_eq_true', Bool.or_eq_false_iff, decide_eq_false_iff_not, decide_eq_true_eq, Bool.false_eq_true, iff_false]
    rintro ⟨⟨⟨_, h1, _⟩, h2, _⟩, h3⟩
    omega
  · rename_i h
    rw [decide_eq_false (show ¬ (s.Widths.length : Int) > 16 by omega), decide_eq_false (show ¬ (s.Heights.length : Int) > 24 by omega), decide_eq_true (show (s.Merges.length : Int) ≤ 12 by omega), Bool.false_or, Bool.false_or, Bool.and_true]
    generalize s.Cells.any _ = x
    generalize s.Widths.any _ = y
    generalize s.Heights.any _ = u
    cases x <;> cases y <;> cases u <;> rfl
theorem min_ge : ∀ (l : List Int) (a : Int), (1 ≤ l.foldl min a ↔ 1 ≤ a ∧ ∀ x ∈ l, 1 ≤ x)
  | [], a => by simp
  | x :: t, a => by
    rw [List.foldl_cons, min_ge t]
    simp only [List.mem_cons, forall_eq_or_imp]
    constructor
    · rintro ⟨h1, h2⟩; exact ⟨by omega, by omega, h2⟩
    · rintro ⟨h1, h2, h3⟩; exact ⟨by omega, h3⟩
theorem sizes_law (l : List Int) : sizesS l = (decide (¬ (l.length : Int) = 0) && !l.any fun n => decide (n < 1)) := by
  unfold sizesS minS
  rw [Bool.eq_iff_iff]
  simp only [Bool.and_eq_true, decide_eq_true_eq, ge_iff_le, min_ge, Bool.not_eq_true', List.any_eq_false]
  cases l with
  | nil => simp
  | cons a t =>
    simp
    omega
theorem pairs_law {α : Type} (d : α) (l : List α) (P : Nat → Bool) (E : α → Bool) :
    (List.range l.length).any (fun i => decide ((i : Int) > 0) && !P (i - 1) || E (l.getD i d)) = !((List.range (l.length - 1)).all P && !l.any E) := by
  rw [Bool.eq_iff_iff]
  simp only [List.any_eq_true, List.mem_range, Bool.or_eq_true, Bool.and_eq_true, decide_eq_true_eq, Bool.not_eq_true', Bool.and_eq_false_iff, List.all_eq_false, Bool.not_eq_false']
  constructor
  · rintro ⟨i, hi, ⟨h1, h2⟩ | h⟩
    · exact .inl ⟨i - 1, by omega, by simp [h2]⟩
    · exact .inr ⟨_, mem_getD d hi, h⟩
  · rintro (⟨j, hj, h⟩ | ⟨x, hx, h⟩)
    · exact ⟨j + 1, by omega, .inl ⟨by omega, by simpa using h⟩⟩
    · obtain ⟨i, hi, rfl⟩ := List.getElem_of_mem hx
      exact ⟨i, hi, .inr (by simpa [List.getD, hi] using h)⟩
theorem ahead_law (a b : Ar2_Int) : aheadS a b = raheadS a.e0 a.e1 b.e0 b.e1 := by
  unfold aheadS raheadS
  by_cases h1 : a.e0 < b.e0
  · simp [compS, cmpS, h1]
  · by_cases h2 : b.e0 < a.e0
    · simp [compS, cmpS, h1, h2, show ¬ a.e0 = b.e0 by omega]
    · by_cases h3 : a.e1 < b.e1
      · simp [compS, cmpS, h1, h2, h3, show a.e0 = b.e0 by omega]
      · by_cases h4 : b.e1 < a.e1
        · simp [compS, cmpS, h1, h2, h3, h4]
        · simp [compS, cmpS, h1, h2, h3, h4]
theorem styled_law (x : TStyle) : styledS x = rstyledS x := by
  unfold styledS rstyledS
  rw [Bool.eq_iff_iff]
  simp only [Bool.and_eq_true, Bool.or_eq_true, decide_eq_true_eq]
  omega
theorem empty_law (c : TCell) : emptyS c = (!rstyledS c.Style || decide (c.Text = []) && decide (c.Style.Align = 0) && decide (c.Style.Wrap = 0) && decide (c.Style.Dir = 0)) := by
  unfold emptyS
  rw [styled_law, Bool.eq_iff_iff]
  simp [and_assoc]
theorem cells_law (s : TSheet) : (List.range s.Cells.length).any (rcellS s) = !(riseS spotS default s.Cells && !hasF emptyS s.Cells) := by
  rw [hasF_any, riseS, riseU, ← pairs_law]
  refine any_congr fun i hi => ?_
  have hi' := List.mem_range.1 hi
  unfold rcellS
  simp only [ahead_law, spotS, empty_law, Bool.or_assoc]
  by_cases h : (i : Int) > 0
  · rw [show i - 1 + 1 = i from by omega]
  · simp only [decide_eq_false h, Bool.false_and, Bool.false_or]
theorem merges_law (s : TSheet) : (List.range s.Merges.length).any (rmergeS s) = !(riseS cornerS default s.Merges && !hasF tinyS s.Merges) := by
  rw [hasF_any, riseS, riseU, ← pairs_law]
  refine any_congr fun i hi => ?_
  have hi' := List.mem_range.1 hi
  unfold rmergeS tinyS
  simp only [ahead_law, cornerS, Bool.or_assoc]
  by_cases h : (i : Int) > 0
  · rw [show i - 1 + 1 = i from by omega]
  · simp only [decide_eq_false h, Bool.false_and, Bool.false_or]
theorem order_law (s : TSheet) : orderS s = rorderS s := by
  unfold orderS rorderS
  rw [cells_law, merges_law, sizes_law, sizes_law]
  generalize riseS spotS default s.Cells = a
  generalize riseS cornerS default s.Merges = b
  generalize hasF emptyS s.Cells = c
  generalize hasF tinyS s.Merges = e
  generalize s.Widths.any _ = f
  generalize s.Heights.any _ = g
  by_cases h1 : s.Right = 0 ∨ s.Right = 1
  · by_cases h2 : (s.Widths.length : Int) = 0
    · rw [if_pos (by simp [h2]), if_pos (by omega)]
    · by_cases h3 : (s.Heights.length : Int) = 0
      · rw [if_pos (by simp [h3]), if_pos (by omega)]
      · rw [if_neg (show ¬ ((¬ s.Right = 0 ∧ ¬ s.Right = 1) ∨ (s.Widths.length : Int) = 0 ∨ (s.Heights.length : Int) = 0) by omega)]
        rw [decide_eq_false (show ¬ s.Right < 0 by omega), decide_eq_false (show ¬ s.Right > 1 by omega), decide_eq_true h2, decide_eq_true h3]
        cases a <;> cases b <;> cases c <;> cases e <;> cases f <;> cases g <;> rfl
  · rw [if_pos (show (¬ s.Right = 0 ∧ ¬ s.Right = 1) ∨ (s.Widths.length : Int) = 0 ∨ (s.Heights.length : Int) = 0 by omega)]
    rw [if_pos]
    have : s.Right < 0 ∨ s.Right > 1 := by omega
    rcases this with h | h <;> simp [h]
theorem one_law {r : TRect} (h : RectI r) {row col : Int} (h1 : I64 row) (h2 : I64 col) : meetS r (oneS row col) = coversS r row col := by
  obtain ⟨a1, a2, a3, a4⟩ := h
  have h3 : I64 1 := by unfold I64; omega
  unfold meetS coversS oneS
  rw [shareS_eq a1 a3 h1 h3, shareS_eq a2 a4 h2 h3, inS_eq h1 a1 a3, inS_eq h2 a2 a4, Bool.eq_iff_iff]
  simp only [Bool.and_eq_true, decide_eq_true_eq]
  omega
theorem find_congr {α : Type} {p q : α → Bool} : ∀ {l : List α}, (∀ x ∈ l, p x = q x) → l.find? p = l.find? q
  | [], _ => rfl
  | x :: t, h => by simp only [List.find?_cons, h x List.mem_cons_self, find_congr fun y hy => h y (List.mem_cons_of_mem _ hy)]
theorem around_law {s : TSheet} (h : SheetI s) {row col : Int} (h1 : I64 row) (h2 : I64 col) : aroundS s row col = raroundS s row col := by
  unfold aroundS raroundS idxM
  rw [← find_congr (p := fun r => meetS r (oneS row col)) fun r hr => one_law (h.1 r hr) h1 h2]
  rcases idxF_find default (fun r => meetS r (oneS row col)) s.Merges 0 with ⟨h3, h4⟩ | ⟨k, hk, h3, h4⟩
  · rw [h3, h4]; rfl
  · rw [h3, h4, if_neg (by omega), show ((0 : Int) + (k : Int)).toNat = k from by omega]
theorem far_law {s : TSheet} (h : SheetI s) (row col : Int) : hasS s (oneS row col) = !(decide (row < 0) || decide (col < 0) || decide (row ≥ (s.Heights.length : Int)) || decide (col ≥ (s.Widths.length : Int))) := by
  obtain ⟨_, _, h1, h2⟩ := h
  unfold hasS oneS
  simp only
  rw [wrap_id (by omega) (by omega), wrap_id (by omega) (by omega), Bool.eq_iff_iff]
  simp only [Bool.and_eq_true, Bool.not_eq_true', Bool.or_eq_false_iff, decide_eq_false_iff_not, decide_eq_true_eq]
  omega
theorem out_law {s : TSheet} (h : SheetI s) : outS s = (s.Cells.any (rfarS s) || s.Merges.any fun r => !thereS s r) := by
  unfold outS
  rw [hasF_any, hasF_any]
  congr 1
  refine any_congr fun c hc => ?_
  rw [far_law h, Bool.not_not]
  rfl
theorem meets_law {s : TSheet} (h : SheetI s) {i : Nat} (hi : i < s.Merges.length) : meetsS s i = rmeetsS s i := by
  unfold meetsS rmeetsS
  rw [hasF_any, Bool.eq_iff_iff]
  simp only [List.any_eq_true, List.mem_range]
  have hm : ∀ q ∈ s.Merges, meetS q (s.Merges.getD i default) = rmeetS (s.Merges.getD i default) q := fun q hq => by
    rw [meet_comm (h.1 _ (mem_getD _ hi)) (h.1 q hq), meet_law (h.1 _ (mem_getD _ hi)) (h.1 q hq)]
  constructor
  · rintro ⟨q, hq, h1⟩
    obtain ⟨k, hk, rfl⟩ := List.getElem_of_mem hq
    have hk' : k < i ∧ k < s.Merges.length := by simpa [Nat.lt_min] using hk
    refine ⟨k, hk'.1, ?_⟩
    rw [← hm _ (mem_getD _ hk'.2)]
    simpa [List.getD, hk'.2] using h1
  · rintro ⟨k, hk, h1⟩
    have hk' : k < s.Merges.length := by omega
    refine ⟨s.Merges.getD k default, ?_, by rw [hm _ (mem_getD _ hk')]; exact h1⟩
    rw [List.mem_take_iff_getElem]
    exact ⟨k, by omega, by simp [List.getD, hk']⟩
theorem any_rangeD {α : Type} (d : α) (p : α → Bool) (l : List α) : (List.range l.length).any (fun i => p (l.getD i d)) = l.any p := by
  rw [Bool.eq_iff_iff]
  simp only [List.any_eq_true, List.mem_range]
  constructor
  · rintro ⟨i, hi, h⟩; exact ⟨_, mem_getD d hi, h⟩
  · rintro ⟨x, hx, h⟩
    obtain ⟨i, hi, rfl⟩ := List.getElem_of_mem hx
    exact ⟨i, hi, by simpa [List.getD, hi] using h⟩
theorem under_law {s : TSheet} (h : SheetI s) : (List.range s.Cells.length).any (underS s) = s.Cells.any (runderS s) := by
  rw [← any_rangeD default (runderS s)]
  refine any_congr fun i hi => ?_
  have hc := h.2.1 _ (mem_getD default (List.mem_range.1 hi))
  unfold underS runderS
  rw [around_law h hc.1 hc.2]
  congr 1
  rw [Bool.eq_iff_iff]
  simp only [spotS, cornerS, decide_eq_true_eq, Bool.and_eq_true, Ar2_Int.mk.injEq]
  exact ⟨fun ⟨a, b⟩ => ⟨a.symm, b.symm⟩, fun ⟨a, b⟩ => ⟨a.symm, b.symm⟩⟩
theorem check_law {s : TSheet} (h : SheetI s) : checkSh s = rcheckSh s := by
  unfold checkSh rcheckSh
  rw [limits_law, order_law, out_law h, under_law h, any_congr (p := meetsS s) (q := rmeetsS s) fun i hi => meets_law h (List.mem_range.1 hi)]
  cases s.Cells.any (rfarS s)
  · rw [Bool.false_or, if_neg (show ¬ (false = true) by decide)]
  · rw [Bool.true_or, if_pos rfl, if_pos rfl]
theorem region_law {s : TSheet} (h : SheetI s) {row col : Int} (h1 : I64 row) (h2 : I64 col) : regionS s row col = rregionS s row col := by
  unfold regionS rregionS
  rw [check_law h, around_law h h1 h2]
  split
  · rfl
  · have hf := far_law h row col
    split
    · rename_i h3
      rw [h3] at hf
      rw [if_pos]
      have := hf.symm
      simp only [Bool.not_eq_false', Bool.or_eq_true, decide_eq_true_eq] at this
      omega
    · rename_i h3
      rw [Bool.not_eq_false] at h3
      rw [h3] at hf
      rw [if_neg]
      have := hf.symm
      simp only [Bool.not_eq_true', Bool.or_eq_false_iff, decide_eq_false_iff_not] at this
      omega
theorem get_law {s : TSheet} (h : SheetI s) {row col : Int} (h1 : I64 row) (h2 : I64 col) : getS s row col = rgetS s row col := by
  unfold getS rgetS
  rw [region_law h h1 h2]
  split
  · rfl
  · unfold rfind idxC
    have e : ∀ c ∈ s.Cells, decide (spotS c = cornerS (rregionS s row col).1) = (decide (c.Row = (rregionS s row col).1.Row) && decide (c.Col = (rregionS s row col).1.Col)) := fun c _ => by
      rw [Bool.eq_iff_iff]
      simp [spotS, cornerS]
    rw [← find_congr e]
    rcases idxF_find default (fun c => decide (spotS c = cornerS (rregionS s row col).1)) s.Cells 0 with ⟨h3, h4⟩ | ⟨k, hk, h3, h4⟩
    · rw [h3, h4]; rfl
    · rw [h3, h4, if_neg (by omega), show ((0 : Int) + (k : Int)).toNat = k from by omega]
/-- What a given sheet's numbers are. -/
def SheetG (s : TSheet) : Prop := (∀ r ∈ s.Merges, RectI r) ∧ (∀ c ∈ s.Cells, I64 c.Row ∧ I64 c.Col)
theorem great_bd {s : TSheet} (h : greatS s = false) : s.Widths.length ≤ 100 ∧ s.Heights.length ≤ 100 ∧ s.Merges.length ≤ 100 ∧ s.Cells.length ≤ 500 := by
  unfold greatS at h
  split at h
  · cases h
  · omega
theorem SheetG.I {s : TSheet} (h : SheetG s) (hg : greatS s = false) : SheetI s := ⟨h.1, h.2, by have := great_bd hg; omega, by have := great_bd hg; omega⟩
end Go.Proofs.YtalpekmbknjeeaaG
