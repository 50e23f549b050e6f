/- Quoting in plain Lean: a field as it is written, a record, records. -/
import Derived.Test.YtcjaplaifmhajaaDoorS8
import Derived.Lib.Replace
import Derived.Lib.CountLaws
import Derived.Lib.IndexBytes
import Derived.Lib.IndexAny
set_option linter.all false
namespace Go.Proofs.YtcjaplaifmhajaaDoorG
open Go Go.RowKit
def dupS (s : St) : St := s.flatMap fun b => if b = 34 then [34, 34] else [b]
def needS (s : St) : Bool := s.any fun b => b = 34 || b = 44 || b = 13 || b = 10
def fldQ (s : St) : St := if needS s then ([34] ++ dupS s) ++ [34] else s
theorem dupS_cons (b : UInt8) (l : St) : dupS (b :: l) = (if b = 34 then [34, 34] else [b]) ++ dupS l := rfl
theorem dupS_len (s : St) : (dupS s).length ≤ 2 * s.length := by
  induction s with
  | nil => simp [dupS]
  | cons b l ih => rw [dupS_cons]; simp only [List.length_append, List.length_cons]; split <;> simp <;> omega
theorem fldQ_len (s : St) : (fldQ s).length ≤ 2 * s.length + 2 := by
  have := dupS_len s
  unfold fldQ
  split
  · simp; omega
  · omega
theorem repl_dup : ∀ s : St, Lib.replaceK [34] [34, 34] (Lib.count s [34]) s = dupS s
  | [] => rfl
  | b :: l => by
    have ih := repl_dup l
    have h1 : Lib.index (b :: l) [34] = if b = 34 then 0 else if Lib.index l [34] == -1 then -1 else Lib.index l [34] + 1 := by
      rw [Lib.index]
      by_cases h : b = 34
      · subst h; simp
      · have : ([34] : List UInt8).isPrefixOf (b :: l) = false := by simp [List.isPrefixOf]; exact fun e => h e.symm
        rw [this]; simp [h]
    by_cases h : b = 34
    · subst h
      have h0 : Lib.index (34 :: l) [34] = (0 : Nat) := by rw [h1]; rfl
      rw [Lib.count_hit (by simp) h0, Nat.add_comm, Lib.replaceK_hit _ _ _ _ 0 h0]
      simp only [List.length_singleton, Nat.zero_add, List.drop_succ_cons, List.drop_zero, List.take_zero, List.nil_append]
      rw [ih, dupS_cons]
      rfl
    · rw [if_neg h] at h1
      rw [dupS_cons, if_neg h]
      by_cases hm : Lib.index l [34] = -1
      · rw [hm] at h1
        have h2 : Lib.index (b :: l) [34] = -1 := h1
        rw [Lib.count_miss h2]
        rw [Lib.count_miss hm] at ih
        rw [← ih]
        rfl
      · have hge := Lib.index_ge l [34]
        obtain ⟨j, hj⟩ : ∃ j : Nat, Lib.index l [34] = j := ⟨(Lib.index l [34]).toNat, by omega⟩
        have h2 : Lib.index (b :: l) [34] = ((j + 1 : Nat) : Int) := by rw [h1, if_neg (by rw [beq_iff_eq]; exact hm), hj]; rfl
        rw [Lib.count_hit (by simp) h2, Nat.add_comm, Lib.replaceK_hit _ _ _ _ (j + 1) h2]
        rw [Lib.count_hit (by simp) hj, Nat.add_comm, Lib.replaceK_hit _ _ _ _ j hj] at ih
        simp only [List.length_singleton, List.drop_succ_cons, List.take_succ_cons, List.cons_append] at ih ⊢
        rw [ih]
        rfl
theorem replAll_dup (s : St) : Lib.replaceAll s [34] [34, 34] = dupS s := by
  have h : Lib.replaceNum s [34] (-1) = Lib.count s [34] := by unfold Lib.replaceNum; rw [if_pos (.inl (by decide))]
  unfold Lib.replaceAll Lib.replace
  rw [h, if_neg (by decide)]
  exact repl_dup s
theorem anyQ (s : St) : (0 ≤ Lib.indexAny s [34, 44, 13, 10]) ↔ needS s = true := by
  induction s with
  | nil => simp [Lib.indexAny, needS]
  | cons b l ih =>
    have hge := Lib.indexAny_ge [34, 44, 13, 10] l
    have hc : ([34, 44, 13, 10] : List UInt8).contains b = (b = 34 || b = 44 || b = 13 || b = 10 : Bool) := by
      rw [Bool.eq_iff_iff]; simp [or_assoc]
    rw [Lib.indexAny, hc]
    have hn : needS (b :: l) = ((b = 34 || b = 44 || b = 13 || b = 10 : Bool) || needS l) := rfl
    rw [hn]
    cases hb : (b = 34 || b = 44 || b = 13 || b = 10 : Bool)
    · rw [if_neg (by simp), Bool.false_or, ← ih]
      by_cases hm : Lib.indexAny l [34, 44, 13, 10] = -1
      · rw [hm]; simp
      · rw [if_neg (by simpa using hm)]; omega
    · simp
/-- What stands one behind the other, with signs between, and signs behind each. -/
def pieces {α : Type} (bt bh : St) (f : α → St) : List α → St
  | [] => []
  | x :: r => f x ++ bh ++ r.flatMap fun y => bt ++ (f y ++ bh)
theorem pieces_snoc {α : Type} (bt bh : St) (f : α → St) (l : List α) (x : α) : pieces bt bh f (l ++ [x]) = pieces bt bh f l ++ ((if l.length = 0 then [] else bt) ++ (f x ++ bh)) := by
  cases l with
  | nil => simp [pieces]
  | cons y r => simp [pieces, List.append_assoc]
theorem pieces_take {α : Type} (bt bh : St) (f : α → St) (l : List α) (i : Nat) (x : α) (h : l[i]? = some x) : pieces bt bh f (l.take (i + 1)) = pieces bt bh f (l.take i) ++ ((if i = 0 then [] else bt) ++ (f x ++ bh)) := by
  have hi : i < l.length := (List.getElem?_eq_some_iff.1 h).1
  rw [List.take_add_one, h]
  show pieces bt bh f (l.take i ++ [x]) = _
  rw [pieces_snoc, List.length_take, Nat.min_eq_left (by omega)]
theorem pieces_mono {α : Type} (bt bh : St) (f : α → St) (l r : List α) : (pieces bt bh f l).length ≤ (pieces bt bh f (l ++ r)).length := by
  cases l with
  | nil => simp [pieces]
  | cons y t => simp [pieces, List.flatMap_append]
theorem pieces_take_le {α : Type} (bt bh : St) (f : α → St) (l : List α) (i : Nat) : (pieces bt bh f (l.take i)).length ≤ (pieces bt bh f l).length := by
  have := pieces_mono bt bh f (l.take i) (l.drop i)
  rwa [List.take_append_drop] at this
/-- A record as it is written; records, each with its end. -/
def recQ (r : List St) : St := pieces [44] [] fldQ r
def tabQ (t : List (List St)) : St := pieces [] [13, 10] recQ t
def allT (t : List (List St)) : Bool := t.all fun r => decide (0 < r.length)
def fin2 (b : Bool) (t : List (List St)) : Bool := b && allT t
def fineT (t : List (List St)) : Bool := fin2 (decide (0 < t.length)) t
def FitR (r : List St) : Prop := r.length ≤ 1000000 ∧ (recQ r).length ≤ 70368744177664 ∧ ∀ t ∈ r, t.length ≤ 1000000000
theorem flat_len {α : Type} (g : α → St) (k : Nat) : ∀ l : List α, (∀ x ∈ l, (g x).length ≤ k) → (l.flatMap g).length ≤ k * l.length
  | [], _ => by simp
  | x :: l, h => by
    have := flat_len g k l fun y hy => h y (by simp [hy])
    have h1 := h x (by simp)
    rw [List.flatMap_cons, List.length_append, List.length_cons, Nat.mul_succ]
    omega
theorem pieces_len {α : Type} (bt bh : St) (f : α → St) (k : Nat) (l : List α) (h : ∀ x ∈ l, (f x).length ≤ k) : (pieces bt bh f l).length ≤ (k + bt.length + bh.length) * l.length := by
  cases l with
  | nil => simp [pieces]
  | cons x r =>
    have h1 := h x (by simp)
    have h2 := flat_len (fun y => bt ++ (f y ++ bh)) (k + bt.length + bh.length) r fun y hy => by have := h y (by simp [hy]); simp only [List.length_append]; omega
    simp only [pieces, List.length_append, List.length_cons, Nat.mul_succ]
    omega
end Go.Proofs.YtcjaplaifmhajaaDoorG
