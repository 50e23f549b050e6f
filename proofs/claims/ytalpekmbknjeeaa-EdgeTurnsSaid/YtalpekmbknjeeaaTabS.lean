/- Tables: what the functions compute, in plain Lean; sheets by their methods. -/
import Derived.Test.YtalpekmbknjeeaaS5
set_option linter.all false
namespace Go.Proofs.YtalpekmbknjeeaaG
open Go Go.RowKit
abbrev Rows := List (List St)
/-! ### looking through a row -/
def idxF {α : Type} (p : α → Bool) : List α → Int → Int
  | [], _ => -1
  | x :: r, i => bif p x then i else idxF p r (i + 1)
def hasF {α : Type} (p : α → Bool) (l : List α) : Bool := decide (idxF p l 0 ≥ 0)
theorem dropD {α : Type} {l : List α} {n : Nat} (d : α) (h : n < l.length) : l.drop n = l.getD n d :: l.drop (n + 1) := by
  rw [List.drop_eq_getElem_cons h]
  simp [List.getD, h]
theorem idxF_next {α : Type} {p : α → Bool} {l : List α} {n : Nat} {d : α} {i : Int} (h : n < l.length) (hp : p (l.getD n d) = false) : idxF p (l.drop n) i = idxF p (l.drop (n + 1)) (i + 1) := by
  rw [dropD d h]
  simp only [idxF, hp, cond_false]
theorem idxF_hit {α : Type} {p : α → Bool} {l : List α} {n : Nat} {d : α} {i : Int} (h : n < l.length) (hp : p (l.getD n d) = true) : idxF p (l.drop n) i = i := by
  rw [dropD d h]
  simp only [idxF, hp, cond_true]
theorem idxF_end {α : Type} {p : α → Bool} {l : List α} {n : Nat} {i : Int} (h : l.length ≤ n) : idxF p (l.drop n) i = -1 := by
  rw [List.drop_of_length_le h]
  rfl
theorem idxF_any {α : Type} (p : α → Bool) : ∀ (l : List α) (i : Int), 0 ≤ i → (idxF p l i ≥ 0 ↔ l.any p = true) := by
  intro l
  induction l with
  | nil => intro i _; simp [idxF]
  | cons x r ih =>
    intro i hi
    cases hp : p x with
    | true => simp [idxF, hp, hi]
    | false => simp only [idxF, hp, cond_false, List.any_cons, Bool.false_or]; exact ih (i + 1) (by omega)
theorem idxF_bd {α : Type} (p : α → Bool) : ∀ (l : List α) (i : Int), idxF p l i = -1 ∨ i ≤ idxF p l i ∧ idxF p l i < i + l.length := by
  intro l
  induction l with
  | nil => intro i; exact .inl rfl
  | cons x r ih =>
    intro i
    have e : ((x :: r).length : Int) = r.length + 1 := by simp
    cases hp : p x with
    | true => right; simp only [idxF, hp, cond_true]; omega
    | false =>
      simp only [idxF, hp, cond_false]
      rcases ih (i + 1) with h | h
      · exact .inl h
      · right; omega
theorem hasF_any {α : Type} (p : α → Bool) (l : List α) : hasF p l = l.any p := by
  rw [Bool.eq_iff_iff, hasF, decide_eq_true_iff]
  exact idxF_any p l 0 (Int.le_refl _)
theorem any_all' {α : Type} {p : α → Bool} {l : List α} {i : Nat} (hi : l.length ≤ i) (h : (l.take i).any p = false) : l.any p = false := by rwa [List.take_of_length_le hi] at h
/-! ### tables -/
def widthS (l : Rows) : Int := l.foldl (fun n r => max n (r.length : Int)) 0
theorem widthS_next (l : Rows) (i : Nat) (h : i < l.length) : widthS (l.take (i + 1)) = max (widthS (l.take i)) ((l.getD i []).length : Int) := by
  unfold widthS
  rw [List.take_succ_eq_append_getElem h, List.foldl_append]
  simp [List.getD, h]
theorem widthS_all (l : Rows) (i : Nat) (h : l.length ≤ i) : widthS (l.take i) = widthS l := by rw [List.take_of_length_le h]
theorem foldl_max (l : Rows) : ∀ n : Int, n ≤ l.foldl (fun n r => max n (r.length : Int)) n ∧ (∀ r ∈ l, (r.length : Int) ≤ l.foldl (fun n r => max n (r.length : Int)) n) ∧ (l.foldl (fun n r => max n (r.length : Int)) n = n ∨ ∃ r ∈ l, l.foldl (fun n r => max n (r.length : Int)) n = r.length) := by
  induction l with
  | nil => intro n; simp
  | cons x l ih =>
    intro n
    obtain ⟨h1, h2, h3⟩ := ih (max n x.length)
    simp only [List.foldl_cons]
    refine ⟨by omega, fun r hr => ?_, ?_⟩
    · rcases List.mem_cons.1 hr with rfl | hr
      · omega
      · exact h2 r hr
    · rcases h3 with h3 | ⟨r, hr, h3⟩
      · rw [h3]
        by_cases hx : (x.length : Int) ≤ n
        · left; omega
        · right; exact ⟨x, List.mem_cons_self, by omega⟩
      · right; exact ⟨r, List.mem_cons_of_mem _ hr, h3⟩
theorem widthS_nonneg (l : Rows) : 0 ≤ widthS l := (foldl_max l 0).1
theorem widthS_ge (l : Rows) : ∀ r ∈ l, (r.length : Int) ≤ widthS l := (foldl_max l 0).2.1
theorem widthS_at (l : Rows) : widthS l = 0 ∨ ∃ r ∈ l, widthS l = r.length := (foldl_max l 0).2.2
theorem widthS_le (l : Rows) {n : Int} (h0 : 0 ≤ n) (h : ∀ r ∈ l, (r.length : Int) ≤ n) : widthS l ≤ n := by
  rcases widthS_at l with h1 | ⟨r, hr, h1⟩
  · omega
  · rw [h1]; exact h r hr
theorem getD_mem {α : Type} {l : List α} {n : Nat} (d : α) (h : n < l.length) : l.getD n d ∈ l := by simp [List.getD, h]
def longS (t : St) : Bool := decide ((t.length : Int) > 1024)
def checkS (l : Rows) : Int :=
  if widthS l = 0 then 1 else if hasF (fun r => (r.length : Int) != widthS l) l = true then 1
  else if hasF (fun t => decide ((t.length : Int) > 1024)) l.flatten = true then 3 else if (l.length : Int) > 24 then 3 else if widthS l > 16 then 3 else 0
def totS (l : Rows) : Int := (l.flatten.length : Int)
theorem flat_next (l : Rows) (i : Nat) (h : i < l.length) : (l.take (i + 1)).flatten = (l.take i).flatten ++ l.getD i [] := by
  rw [List.take_succ_eq_append_getElem h, List.flatten_append]
  congr 1
  simp [List.getD, h]
theorem totS_next (l : Rows) (i : Nat) (h : i < l.length) : totS (l.take (i + 1)) = totS (l.take i) + ((l.getD i []).length : Int) := by
  unfold totS
  rw [flat_next l i h, List.length_append]
  omega
theorem totS_bd (l : Rows) (h : widthS l ≤ 10000) (i : Nat) : 0 ≤ totS (l.take i) ∧ totS (l.take i) ≤ 10000 * (i : Int) := by
  induction i with
  | zero => simp [totS]
  | succ i ih =>
    rcases Nat.lt_or_ge i l.length with hi | hi
    · rw [totS_next l i hi]
      have := widthS_ge l _ (getD_mem (n := i) [] hi)
      omega
    · rw [List.take_of_length_le (by omega)] at *
      omega
theorem has_at {α : Type} {p : α → Bool} {l : List α} {x : α} (hx : x ∈ l) (hp : p x = true) : hasF p l = true := by
  rw [hasF_any, List.any_eq_true]
  exact ⟨x, hx, hp⟩
theorem has_not {α : Type} {p : α → Bool} {l : List α} (h : ∀ x ∈ l, p x = false) : hasF p l = false := by
  rw [hasF_any, List.any_eq_false]
  intro x hx
  rw [h x hx]
  decide
theorem chk_ne {l : Rows} {r : List St} (hr : r ∈ l) (h : ¬ (r.length : Int) = widthS l) : checkS l = 1 := by
  unfold checkS
  split
  · rfl
  · rw [if_pos (has_at hr (by simpa using h))]
theorem chk1 {l : Rows} (h : (l.length : Int) = 0 ∨ ((l.getD 0 []).length : Int) = 0) : checkS l = 1 := by
  by_cases hw : widthS l = 0
  · unfold checkS; rw [if_pos hw]
  · cases l with
    | nil => exact absurd rfl hw
    | cons r l =>
      rcases h with h | h
      · simp at h; omega
      · have h1 : (r.length : Int) = 0 := h
        exact chk_ne (r := r) List.mem_cons_self (fun h' => hw (h'.symm.trans h1))
theorem chk2 {l : Rows} {i : Nat} (hi : i < l.length) (h : ¬ ((l.getD i []).length : Int) = (l.getD 0 []).length) : checkS l = 1 := by
  by_cases h1 : ((l.getD i []).length : Int) = widthS l
  · exact chk_ne (getD_mem (n := 0) [] (by omega)) (by omega)
  · exact chk_ne (getD_mem [] hi) h1
theorem width_all {l : Rows} {n : Int} (h0 : 0 < l.length) (h : ∀ r ∈ l, (r.length : Int) = n) : widthS l = n := by
  have h1 := h _ (getD_mem (n := 0) [] h0)
  have h2 := widthS_ge l _ (getD_mem (n := 0) [] h0)
  have h3 := widthS_le l (n := n) (by omega) fun r hr => Int.le_of_eq (h r hr)
  omega
theorem eq_all {l : Rows} {i : Nat} {n : Int} (hi : l.length ≤ i) (h : (l.take i).any (fun r => (r.length : Int) != n) = false) : ∀ r ∈ l, (r.length : Int) = n := fun r hr => by
  have := any_all' hi h
  rw [List.any_eq_false] at this
  simpa using this r hr
theorem chk_eq {l : Rows} {n : Int} (h0 : 0 < l.length) (hn : ¬ n = 0) (h : ∀ r ∈ l, (r.length : Int) = n) : checkS l = if hasF (fun t => decide ((t.length : Int) > 1024)) l.flatten = true then 3 else if (l.length : Int) > 24 then 3 else if n > 16 then 3 else 0 := by
  have hw := width_all h0 h
  unfold checkS
  rw [if_neg (by omega), if_neg (by rw [has_not (fun r hr => by simp [h r hr, hw])]; decide), hw]
theorem chk3 {l : Rows} {n : Int} (h0 : 0 < l.length) (hn : ¬ n = 0) (h : ∀ r ∈ l, (r.length : Int) = n) (hb : (l.length : Int) > 24 ∨ n > 16) : checkS l = 3 := by
  rw [chk_eq h0 hn h]
  split
  · rfl
  · split
    · rfl
    · rw [if_pos (by omega)]
theorem chk4 {l : Rows} {n : Int} {i k : Nat} (hn : ¬ n = 0) (h : ∀ r ∈ l, (r.length : Int) = n) (hi : i < l.length) (hk : k < (l.getD i []).length) (hb : (((l.getD i []).getD k []).length : Int) > 1024) : checkS l = 3 := by
  rw [chk_eq (by omega) hn h, if_pos (has_at (x := (l.getD i []).getD k []) (List.mem_flatten.2 ⟨_, getD_mem [] hi, getD_mem [] hk⟩) (by simpa using hb))]
theorem chk5 {l : Rows} {n : Int} {i : Nat} (h0 : 0 < l.length) (hn : ¬ n = 0) (h : ∀ r ∈ l, (r.length : Int) = n) (hi : l.length ≤ i) (ht : (l.take i).any (fun r => r.any longS) = false) (hb : ¬ (l.length : Int) > 24) (hc : ¬ n > 16) : checkS l = 0 := by
  have := any_all' hi ht
  rw [List.any_eq_false] at this
  rw [chk_eq h0 hn h, if_neg ?_, if_neg hb, if_neg hc]
  rw [has_not]
  · decide
  · intro t ht
    obtain ⟨r, hr, htr⟩ := List.mem_flatten.1 ht
    have h1 := this r hr
    rw [Bool.not_eq_true, List.any_eq_false] at h1
    have h2 := h1 t htr
    unfold longS at h2
    simpa using h2
def laidS (rows cols : Int) (fld : Int → Int → St) : Rows := (List.range rows.toNat).map fun (r : Nat) => (List.range cols.toNat).map fun (c : Nat) => fld (r : Int) (c : Int)
theorem laidS_next {cols : Int} {fld : Int → Int → St} {i : Nat} : (List.range (i + 1)).map (fun (r : Nat) => (List.range cols.toNat).map fun (c : Nat) => fld (r : Int) (c : Int)) = (List.range i).map (fun (r : Nat) => (List.range cols.toNat).map fun (c : Nat) => fld (r : Int) (c : Int)) ++ [(List.range cols.toNat).map fun (c : Nat) => fld (i : Int) (c : Int)] := by
  rw [List.range_succ, List.map_append]
  rfl
theorem row_next {α : Type} (g : Nat → α) (i : Nat) : (List.range (i + 1)).map g = (List.range i).map g ++ [g i] := by rw [List.range_succ, List.map_append]; rfl
/-- A sheet, by what its methods answer. -/
structure ISh (P : Program) (K : Nat) (zc : Z) (v : Value) (rows cols : Int) (fld : Int → Int → St) : Prop where
  size : ∃ d g r, d ≤ K ∧ Meth P d v "parquetry/table.size" g r ∧ ∀ {w z}, zle zc z → In z w [] → Calls P g [r].toArray w fun e w' => e = .returned (.tuple #[.int .i64 rows, .int .i64 cols]) ∧ Sp (FF []) w z w' []
  field : ∃ d g r, d ≤ K ∧ Meth P d v "parquetry/table.field" g r ∧ ∀ {w z} (a b : Int), zle zc z → In z w [] → 0 ≤ a → 0 ≤ b → Calls P g [r, .int .i64 a, .int .i64 b].toArray w fun e w' => e = .returned (vstr (fld a b)) ∧ Sp (FF []) w z w' []
section
variable {P : Program} {N : Nat} {ops : Array Oper} {Q : Exit → Act → World → Prop} {o : Oper} {f : Fr} {w w0 : World} {k : Value → World → Prop} {X : Nat → Prop} {z zc : Z} {rs : List Res} {v : Value} {rows cols : Int} {fld : Int → Int → St} {K : Nat}
theorem S_ivsize (H : ISh P K zc v rows cols fld) (hS : Sp X w0 z w rs) (hz : zle zc z) (hK : K ≤ 10) (hP : 20 < P.types.size + Made.depth) {x : Operand} {ts : Array TypeId} (hg : o.guard = none)
    (ho : o.op = .call { callee := .invoke x "parquetry/table.size", args := #[], argTypes := ts }) (hxv : ev f x = some v)
    (hk : ∀ w', Sp X w0 z w' rs → k (.tuple #[.int .i64 rows, .int .i64 cols]) w') : Sv P N ops Q o f w k := by
  obtain ⟨d, g, r, h1, h2, h3⟩ := H.size
  refine S_meth (l := []) (vs := []) h2 (by omega) hg ho hxv rfl ((h3 (hz.trans (hS.zl [])) hS.out0).mono ?_)
  rintro e w' ⟨rfl, h4⟩
  exact ⟨_, rfl, hk w' (hS.call0 h4)⟩
theorem S_ivfield (H : ISh P K zc v rows cols fld) (hS : Sp X w0 z w rs) (hz : zle zc z) (hK : K ≤ 10) (hP : 20 < P.types.size + Made.depth) {x y1 y2 : Operand} {ts : Array TypeId} {a b : Int} (hg : o.guard = none)
    (ho : o.op = .call { callee := .invoke x "parquetry/table.field", args := #[y1, y2], argTypes := ts }) (hxv : ev f x = some v) (h1 : ev f y1 = some (.int .i64 a)) (h2 : ev f y2 = some (.int .i64 b)) (ha : 0 ≤ a) (hb : 0 ≤ b)
    (hk : ∀ w', Sp X w0 z w' rs → k (vstr (fld a b)) w') : Sv P N ops Q o f w k := by
  obtain ⟨d, g, r, h3, h4, h5⟩ := H.field
  refine S_meth (l := [y1, y2]) (vs := [.int .i64 a, .int .i64 b]) h4 (by omega) hg ho hxv (by simp [evs, h1, h2]) ((h5 a b (hz.trans (hS.zl [])) hS.out0 ha hb).mono ?_)
  rintro e w' ⟨rfl, h6⟩
  exact ⟨_, rfl, hk w' (hS.call0 h6)⟩
end
/-- A field of records, or none. -/
def fldS (l : Rows) (a b : Int) : St := (l.getD a.toNat []).getD b.toNat []
/-- How many rows are left when the last ones without a text are cut, but for the first one. -/
def cutS (fld : Int → Int → St) (cols : Int) : Nat → Int
  | 0 => 0
  | n + 1 => if n = 0 then 1 else if (List.range cols.toNat).any (fun (c : Nat) => decide (¬ fld (n : Int) (c : Int) = [])) then (n : Int) + 1 else cutS fld cols n
theorem fldS_a {l : Rows} {a b : Int} (h : a ≥ (l.length : Int)) : ([] : St) = fldS l a b := by
  unfold fldS
  have : l.getD a.toNat [] = [] := by simp only [List.getD]; rw [List.getElem?_eq_none (by omega)]; rfl
  rw [this]
  rfl
theorem fldS_b {l : Rows} {a b : Int} (h : b ≥ ((l.getD a.toNat []).length : Int)) : ([] : St) = fldS l a b := by
  unfold fldS
  simp only [List.getD] at h ⊢
  rw [List.getElem?_eq_none (l := l[a.toNat]?.getD []) (by omega)]
  rfl
def saysS (fld : Int → Int → St) (row cols : Int) : Bool := (List.range cols.toNat).any fun (c : Nat) => decide (¬ fld row (c : Int) = [])
theorem cutS_one (fld : Int → Int → St) (cols : Int) : cutS fld cols 1 = 1 := rfl
theorem cutS_says {fld : Int → Int → St} {cols : Int} {n : Nat} (h : 1 < n) (hs : saysS fld ((n : Int) - 1) cols = true) : cutS fld cols n = n := by
  obtain ⟨m, rfl⟩ : ∃ m, n = m + 1 := ⟨n - 1, by omega⟩
  unfold cutS
  rw [if_neg (by omega), show ((m + 1 : Nat) : Int) - 1 = m from by omega] at *
  rw [if_pos (by unfold saysS at hs; exact hs)]
  omega
theorem cutS_not {fld : Int → Int → St} {cols : Int} {n : Nat} (h : 1 < n) (hs : saysS fld ((n : Int) - 1) cols = false) : cutS fld cols n = cutS fld cols (n - 1) := by
  obtain ⟨m, rfl⟩ : ∃ m, n = m + 1 := ⟨n - 1, by omega⟩
  conv => lhs; unfold cutS
  rw [show ((m + 1 : Nat) : Int) - 1 = m from by omega] at hs
  rw [if_neg (by omega), if_neg (by unfold saysS at hs; rw [hs]; decide)]
  rfl
theorem cutS_bd (fld : Int → Int → St) (cols : Int) : ∀ n, 1 ≤ n → 1 ≤ cutS fld cols n ∧ cutS fld cols n ≤ n := by
  intro n
  induction n with
  | zero => intro h; omega
  | succ m ih =>
    intro _
    unfold cutS
    split
    · omega
    · split
      · omega
      · have := ih (by omega)
        omega
theorem any_range {fld : Int → Int → St} {row cols : Int} {j : Nat} (hj : (j : Int) < cols) (h : (!decide (fld row (j : Int) = [])) = true) : saysS fld row cols = true := by
  unfold saysS
  rw [List.any_eq_true]
  exact ⟨j, List.mem_range.2 (by omega), by simpa using h⟩
theorem any_next {p : Nat → Bool} {j : Nat} (h1 : (List.range j).any p = false) (h2 : p j = false) : (List.range (j + 1)).any p = false := by
  rw [List.range_succ, List.any_append, h1]
  simp [h2]
/-! ### what the functions answer -/
def fillS (l : Rows) : Rows := laidS (max (l.length : Int) 1) (max (widthS l) 1) (fldS l)
def turnS (l : Rows) : Rows := laidS (max (widthS l) 1) (max (l.length : Int) 1) (fun a b => fldS l b a)
def trimR (l : Rows) : Int := cutS (fldS l) (max (widthS l) 1) (max (l.length : Int) 1).toNat
def trimC (l : Rows) : Int := cutS (fun a b => fldS l b a) (trimR l) (max (widthS l) 1).toNat
def trimS (l : Rows) : Rows := laidS (trimR l) (trimC l) (fldS l)
def wrow (r : List St) : Bool := decide ((r.length : Int) > 60) || r.any (fun t => decide ((t.length : Int) > 4000))
def wideS (l : Rows) : Bool := decide ((l.length : Int) > 60) || (l.take 61).any wrow
theorem any_take {α : Type} {p : α → Bool} {l : List α} {i m : Nat} (d : α) (hi : i < l.length) (hm : i < m) (hp : p (l.getD i d) = true) : (l.take m).any p = true := by
  rw [List.any_eq_true]
  refine ⟨l.getD i d, ?_, hp⟩
  simp only [List.getD, List.getElem?_eq_getElem hi, Option.getD_some]
  rw [List.mem_take_iff_getElem]
  exact ⟨i, by omega, rfl⟩
theorem take_any {α : Type} {p : α → Bool} {l : List α} {i : Nat} (d : α) (hi : i < l.length) (h : (l.take i).any p = false) (hp : p (l.getD i d) = false) : (l.take (i + 1)).any p = false := by
  rw [List.take_succ_eq_append_getElem hi, List.any_append, h]
  simp only [List.getD, List.getElem?_eq_getElem hi, Option.getD_some] at hp
  simp [hp]
theorem any_all {α : Type} {p : α → Bool} {l : List α} {i : Nat} (hi : l.length ≤ i) (h : (l.take i).any p = false) : l.any p = false := by rwa [List.take_of_length_le hi] at h
theorem wide_row {l : Rows} {i : Nat} (hi : i < l.length) (h61 : i < 61) (h : wrow (l.getD i []) = true) : wideS l = true := by
  unfold wideS
  rw [any_take [] hi h61 h, Bool.or_true]
theorem wrow_long {r : List St} (h : (r.length : Int) > 60) : wrow r = true := by simp [wrow, h]
theorem wrow_text {r : List St} {k : Nat} (hk : k < r.length) (h : ((r.getD k []).length : Int) > 4000) : wrow r = true := by
  unfold wrow
  rw [Bool.or_eq_true]
  right
  rw [List.any_eq_true]
  exact ⟨r.getD k [], getD_mem _ hk, by simpa using h⟩
theorem wrow_not {r : List St} {k : Nat} (h1 : ¬ (r.length : Int) > 60) (hk : r.length ≤ k) (h : (r.take k).any (fun t => decide ((t.length : Int) > 4000)) = false) : wrow r = false := by
  unfold wrow
  rw [any_all hk h, decide_eq_false h1]
  rfl
theorem wide_end {l : Rows} {i : Nat} (h : (l.take i).any wrow = false) (hi : i ≤ 61) (he : l.length ≤ i ∨ 61 ≤ i) : decide ((l.length : Int) > 60) = wideS l := by
  unfold wideS
  have : (l.take 61).any wrow = false := by
    rcases he with he | he
    · rw [List.take_of_length_le (by omega)]; exact any_all he h
    · rwa [show (61 : Nat) = i from by omega]
  rw [this, Bool.or_false]
/-- Records that are gone through. -/
theorem wide_not {l : Rows} (h : wideS l = false) : l.length ≤ 60 ∧ (∀ r ∈ l, r.length ≤ 60 ∧ ∀ t ∈ r, t.length ≤ 4000) ∧ widthS l ≤ 60 := by
  unfold wideS at h
  rw [Bool.or_eq_false_iff, decide_eq_false_iff_not] at h
  obtain ⟨h1, h2⟩ := h
  rw [List.take_of_length_le (by omega), List.any_eq_false] at h2
  have h3 : ∀ r ∈ l, r.length ≤ 60 ∧ ∀ t ∈ r, t.length ≤ 4000 := fun r hr => by
    have := h2 r hr
    unfold wrow at this
    rw [Bool.not_eq_true, Bool.or_eq_false_iff, decide_eq_false_iff_not, List.any_eq_false] at this
    refine ⟨by omega, fun t ht => ?_⟩
    have := this.2 t ht
    simp at this
    omega
  exact ⟨by omega, h3, widthS_le l (by omega) fun r hr => by have := (h3 r hr).1; omega⟩
/-- Records, each of which is filled up. -/
def padS (l : Rows) : Rows := l.map fun r => r ++ List.replicate ((max (widthS l) 1) - (r.length : Int)).toNat []
def rfillS (l : Rows) : Rows := if l = [] then [[[]]] else padS l
theorem laidS_len (rows cols : Int) (fld : Int → Int → St) : (laidS rows cols fld).length = rows.toNat := by simp [laidS]
theorem laidS_row {rows cols : Int} {fld : Int → Int → St} {r : List St} (h : r ∈ laidS rows cols fld) : r.length = cols.toNat := by
  unfold laidS at h
  rw [List.mem_map] at h
  obtain ⟨i, _, rfl⟩ := h
  simp
theorem laidS_getD {rows cols : Int} {fld : Int → Int → St} {i : Nat} (h : (i : Int) < rows) : (laidS rows cols fld).getD i [] = (List.range cols.toNat).map fun (c : Nat) => fld (i : Int) (c : Int) := by
  unfold laidS
  have h1 : i < rows.toNat := by omega
  simp [List.getD, h1]
theorem map_getD {α : Type} {n j : Nat} (g : Nat → α) (d : α) (h : j < n) : ((List.range n).map g).getD j d = g j := by simp [List.getD, h]
theorem rfill_eq (l : Rows) : rfillS l = fillS l := by
  unfold rfillS
  split
  · rename_i h
    subst h
    rfl
  · rename_i h
    have hl : 1 ≤ l.length := by
      cases l with
      | nil => exact absurd rfl h
      | cons x r => simp
    unfold padS fillS laidS
    apply List.ext_getElem
    · simp
      omega
    · intro i h1 h2
      simp only [List.getElem_map, List.getElem_range]
      have hi : i < l.length := by simpa using h1
      have hw := widthS_ge l l[i] (List.getElem_mem hi)
      apply List.ext_getElem
      · simp
        omega
      · intro j h3 h4
        simp only [List.getElem_map, List.getElem_range, fldS, Int.toNat_natCast, List.getD, List.getElem?_eq_getElem hi, Option.getD_some]
        rcases Nat.lt_or_ge j l[i].length with hj | hj
        · rw [List.getElem_append_left hj, List.getElem?_eq_getElem hj]
          rfl
        · rw [List.getElem_append_right hj, List.getElem?_eq_none hj]
          simp
theorem take_snoc (l : Rows) (i : Nat) (h : i < l.length) : l.take (i + 1) = l.take i ++ [([] : List St) ++ l.getD i []] := by
  rw [List.take_succ_eq_append_getElem h]
  simp [List.getD, h]
/-! ### the document's Trim and Turn -/
def tRow (i : Nat) : List St → Nat → Int × Int → Int × Int
  | [], _, s => s
  | x :: r, k, s => tRow i r (k + 1) (if x = [] then s else (max s.1 ((i : Int) + 1), max s.2 ((k : Int) + 1)))
def tAll : Rows → Nat → Int × Int → Int × Int
  | [], _, s => s
  | r :: l, i, s => tAll l (i + 1) (tRow i r 0 s)
def rtrimS (l : Rows) : Rows := ((fillS l).take (tAll (fillS l) 0 (1, 1)).1.toNat).map fun r => r.take (tAll (fillS l) 0 (1, 1)).2.toNat
def rturnS (l : Rows) : Rows := (List.range ((fillS l).getD 0 []).length).map fun (k : Nat) => (fillS l).map fun r => r.getD k []
theorem tRow_next {i k : Nat} {r : List St} {s : Int × Int} (h : k < r.length) : tRow i (r.drop k) k s = tRow i (r.drop (k + 1)) (k + 1) (if r.getD k [] = [] then s else (max s.1 ((i : Int) + 1), max s.2 ((k : Int) + 1))) := by
  rw [dropD [] h]
  rfl
theorem tRow_end {i k : Nat} {r : List St} {s : Int × Int} (h : r.length ≤ k) : tRow i (r.drop k) k s = s := by
  rw [List.drop_of_length_le h]
  rfl
theorem tAll_next {i : Nat} {l : Rows} {s : Int × Int} (h : i < l.length) : tAll (l.drop i) i s = tAll (l.drop (i + 1)) (i + 1) (tRow i (l.getD i []) 0 s) := by
  rw [dropD [] h]
  rfl
theorem tAll_end {i : Nat} {l : Rows} {s : Int × Int} (h : l.length ≤ i) : tAll (l.drop i) i s = s := by
  rw [List.drop_of_length_le h]
  rfl
theorem fill_len (l : Rows) : ((fillS l).length : Int) = max (l.length : Int) 1 := by
  unfold fillS
  rw [laidS_len]
  omega
theorem fill_row {l : Rows} {r : List St} (h : r ∈ fillS l) : (r.length : Int) = max (widthS l) 1 := by
  have := laidS_row h
  have := widthS_nonneg l
  omega
theorem fill_at (l : Rows) {i : Nat} (h : i < (fillS l).length) : (((fillS l).getD i []).length : Int) = max (widthS l) 1 := fill_row (getD_mem [] h)
end Go.Proofs.YtalpekmbknjeeaaG
