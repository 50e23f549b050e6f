/- What the document's answer for quoting and the laws' guard compute, in plain Lean. -/
import Derived.Test.YtcjaplaifmhajaaDoorQuP
set_option linter.all false
namespace Go.Proofs.YtcjaplaifmhajaaDoorG
open Go Go.RowKit
def rtidyQ (s : St) : St × Int × Int := if 0 ≤ (refS s).2 then ([], (refS s).2, 2) else ((printQ (refS s).1).1, 0, (printQ (refS s).1).2)
theorem qgd {α : Type} {l : List α} {n : Nat} (d : α) (h : n < l.length) : l.getD n d = l[n] := by simp [List.getD, List.getElem?_eq_getElem h]
theorem qgetD_mem {α : Type} {l : List α} {n : Nat} (d : α) (h : n < l.length) : l.getD n d ∈ l := by
  rw [qgd d h]
  exact List.getElem_mem h
theorem qtake_snoc {α : Type} (l : List α) (n : Nat) {d : α} (h : n < l.length) : l.take (n + 1) = l.take n ++ [l.getD n d] := by
  rw [qgd d h, List.take_succ_eq_append_getElem h]
def nb1 (r : List St) : Int := (r.map fun t => (t.length : Int)).sum
def nb (l : List (List St)) : Int := (l.map nb1).sum
def nf (l : List (List St)) : Int := (l.map fun r => (r.length : Int)).sum
def wideS (l : List (List St)) : Bool := decide (100 < (l.length : Int) ∨ 100 < nf l ∨ 3000 < nb l)
theorem nb1_nn (r : List St) : 0 ≤ nb1 r := by
  induction r with
  | nil => simp [nb1]
  | cons t l ih => simp only [nb1, List.map_cons, List.sum_cons] at *; omega
theorem nb_nn (l : List (List St)) : 0 ≤ nb l := by
  induction l with
  | nil => simp [nb]
  | cons t r ih => simp only [nb, List.map_cons, List.sum_cons] at *; have := nb1_nn t; omega
theorem nf_nn (l : List (List St)) : 0 ≤ nf l := by
  induction l with
  | nil => simp [nf]
  | cons t r ih => simp only [nf, List.map_cons, List.sum_cons] at *; omega
theorem nf_app (a b : List (List St)) : nf (a ++ b) = nf a + nf b := by simp [nf]
theorem nb_app (a b : List (List St)) : nb (a ++ b) = nb a + nb b := by simp [nb]
theorem nb1_app (a b : List St) : nb1 (a ++ b) = nb1 a + nb1 b := by simp [nb1]
theorem nf_next (l : List (List St)) (i : Nat) (h : i < l.length) : nf (l.take (i + 1)) = nf (l.take i) + ((l.getD i []).length : Int) ∧ nb (l.take (i + 1)) = nb (l.take i) + nb1 (l.getD i []) := by
  rw [qtake_snoc l i (d := []) h, nf_app, nb_app]
  simp [nf, nb]
theorem nb1_next (r : List St) (k : Nat) (h : k < r.length) : nb1 (r.take (k + 1)) = nb1 (r.take k) + ((r.getD k []).length : Int) := by
  rw [qtake_snoc r k (d := []) h, nb1_app]
  simp [nb1]
theorem nf_le (l : List (List St)) (i : Nat) : nf (l.take i) ≤ nf l ∧ nb (l.take i) ≤ nb l := by
  have h1 := nf_app (l.take i) (l.drop i)
  have h2 := nb_app (l.take i) (l.drop i)
  rw [List.take_append_drop] at h1 h2
  have := nf_nn (l.drop i)
  have := nb_nn (l.drop i)
  omega
theorem nb1_le (r : List St) (k : Nat) : nb1 (r.take k) ≤ nb1 r := by
  have h1 := nb1_app (r.take k) (r.drop k)
  rw [List.take_append_drop] at h1
  have := nb1_nn (r.drop k)
  omega
theorem wide_1 {l : List (List St)} (h : (l.length : Int) > 100) : wideS l = true := by simp [wideS]; omega
theorem wide_2 {l : List (List St)} {i : Nat} (hi : i < l.length) (h : nf (l.take i) + ((l.getD i []).length : Int) > 100) : wideS l = true := by
  have := nf_next l i hi
  have := nf_le l (i + 1)
  simp only [wideS, decide_eq_true_eq]
  omega
theorem wide_3 {l : List (List St)} {i k : Nat} (hi : i < l.length) (hk : k < (l.getD i []).length) (h : (((l.getD i []).getD k []).length : Int) > 3000) : wideS l = true := by
  have h1 := nf_next l i hi
  have h2 := nf_le l (i + 1)
  have h3 := nb1_next (l.getD i []) k hk
  have h4 := nb1_le (l.getD i []) (k + 1)
  have h5 := nb1_nn ((l.getD i []).take k)
  have h6 := nb_nn (l.take i)
  simp only [wideS, decide_eq_true_eq]
  omega
theorem wide_end {l : List (List St)} {i : Nat} (hi : l.length ≤ i) (hl : (l.length : Int) ≤ 100) (h : nf (l.take i) ≤ 100) : decide (3000 - nb (l.take i) < 0) = wideS l := by
  rw [List.take_of_length_le hi] at *
  rw [Bool.eq_iff_iff]
  simp only [wideS, decide_eq_true_eq]
  omega
theorem all_next {t : List (List St)} {i : Nat} (h : allT (t.take i) = true) (hi : i < t.length) (hn : ¬ ((t.getD i []).length : Int) = 0) : allT (t.take (i + 1)) = true := by
  rw [qtake_snoc t i (d := []) hi]
  unfold allT at *
  rw [List.all_append, h, Bool.true_and, List.all_cons, List.all_nil, Bool.and_true, decide_eq_true_eq]
  omega
theorem qu8 (b c : UInt8) : (((b.toNat : Nat) : Int) == ((c.toNat : Nat) : Int)) = decide (b = c) := by
  rw [Bool.eq_iff_iff, beq_iff_eq, decide_eq_true_eq]
  constructor
  · intro h; exact UInt8.toNat_inj.1 (by omega)
  · rintro rfl; rfl
theorem need_next {s : St} {n : Nat} (h : n < s.length) : (((((needS (s.take n)) || (((s.getD n 0).toNat : Int) == 34)) || (((s.getD n 0).toNat : Int) == 44)) || (((s.getD n 0).toNat : Int) == 13)) || (((s.getD n 0).toNat : Int) == 10)) = needS (s.take (n + 1)) := by
  rw [qtake_snoc s n (d := 0) h]
  have e : ∀ l : St, ∀ b, needS (l ++ [b]) = (needS l || (b = 34 || b = 44 || b = 13 || b = 10 : Bool)) := fun l b => by simp [needS]
  rw [e]
  generalize s.getD n 0 = b
  have h1 := qu8 b 34
  have h2 := qu8 b 44
  have h3 := qu8 b 13
  have h4 := qu8 b 10
  rw [show (((34 : UInt8).toNat : Nat) : Int) = 34 from rfl] at h1
  rw [show (((44 : UInt8).toNat : Nat) : Int) = 44 from rfl] at h2
  rw [show (((13 : UInt8).toNat : Nat) : Int) = 13 from rfl] at h3
  rw [show (((10 : UInt8).toNat : Nat) : Int) = 10 from rfl] at h4
  rw [h1, h2, h3, h4]
  simp [Bool.or_assoc]
theorem dup_snoc (l : St) (b : UInt8) : dupS (l ++ [b]) = dupS l ++ (if b = 34 then [34, 34] else [b]) := by simp [dupS]
theorem drop_one {s : St} {n : Nat} (h : n < s.length) : (s.drop n).take ((n + 1) - n) = [s.getD n 0] := by
  rw [qgd 0 h, show n + 1 - n = 1 by omega, List.drop_eq_getElem_cons h]
  rfl
theorem dup_34 {s : St} {n : Nat} (h : n < s.length) (hc : ((s.getD n 0).toNat : Int) = 34) : (([34] ++ dupS (s.take n)) ++ ((s.drop n).take ((n + 1) - n))) ++ [34] = [34] ++ dupS (s.take (n + 1)) := by
  rw [drop_one h, qtake_snoc s n (d := 0) h, dup_snoc, if_pos (UInt8.toNat_inj.1 (by show _ = 34; omega)), show s.getD n 0 = 34 from UInt8.toNat_inj.1 (by show _ = 34; omega)]
  simp
theorem dup_no {s : St} {n : Nat} (h : n < s.length) (hc : ¬ ((s.getD n 0).toNat : Int) = 34) : ([34] ++ dupS (s.take n)) ++ ((s.drop n).take ((n + 1) - n)) = [34] ++ dupS (s.take (n + 1)) := by
  rw [drop_one h, qtake_snoc s n (d := 0) h, dup_snoc, if_neg (fun e => hc (by rw [e]; rfl))]
  simp
theorem dup_take {s : St} (n : Nat) : (dupS (s.take n)).length ≤ 2 * s.length := by
  have h1 := dupS_len (s.take n)
  have h2 : (s.take n).length ≤ s.length := List.length_take_le' n s
  omega
theorem rec_more {r : List St} {k : Nat} (hk : k < r.length) : recQ (r.take (k + 1)) = recQ (r.take k) ++ ((if k = 0 then [] else [44]) ++ fldQ (r.getD k [])) := by
  have := pieces_take [44] [] fldQ r k (r.getD k []) (by rw [qgd [] hk]; exact List.getElem?_eq_getElem hk)
  rw [List.append_nil] at this
  exact this
theorem ub44 : ub [44] = [44] := rfl
theorem ubcr : ub [13, 10] = [13, 10] := rfl
theorem rec_next {u : St} {r : List St} {k : Nat} (hk : k < r.length) (h0 : (k : Int) > 0) : (ub (u ++ recQ (r.take k)) ++ ([44] : List Int)) ++ ub (fldQ (r.getD k ([] : St))) = ub (u ++ recQ (r.take (k + 1))) := by
  rw [rec_more hk, if_neg (by omega), ← ub44, ub_append, ub_append]
  simp
theorem rec_next0 {u : St} {r : List St} {k : Nat} (hk : k < r.length) (h0 : ¬ (k : Int) > 0) : ub (u ++ recQ (r.take k)) ++ ub (fldQ (r.getD k ([] : St))) = ub (u ++ recQ (r.take (k + 1))) := by
  rw [rec_more hk, if_pos (by omega), ub_append]
  simp
theorem tab_more {t : List (List St)} {j : Nat} (hj : j < t.length) : tabQ (t.take (j + 1)) = tabQ (t.take j) ++ (recQ (t.getD j []) ++ [13, 10]) := by
  have := pieces_take [] [13, 10] recQ t j (t.getD j []) (by rw [qgd [] hj]; exact List.getElem?_eq_getElem hj)
  rw [show (if j = 0 then ([] : St) else []) = [] by split <;> rfl, List.nil_append] at this
  exact this
theorem tab_next {t : List (List St)} {j k : Nat} (hj : j < t.length) (hk : (t.getD j []).length ≤ k) : ub (tabQ (t.take j) ++ recQ ((t.getD j []).take k)) ++ ([13, 10] : List Int) = ub (tabQ (t.take (j + 1))) := by
  rw [tab_more hj, ← ubcr, ub_append, List.take_of_length_le hk]
  simp
theorem fine_e0 {t : List (List St)} (h : (t.length : Int) = 0) : printQ t = ([], 1) := printQ_1 (by simp [fineT, fin2]; intro h2; omega)
theorem fine_e1 {t : List (List St)} {i : Nat} (hi : i < t.length) (h : ((t.getD i []).length : Int) = 0) : printQ t = ([], 1) := printQ_1 (by
  have : allT t = false := by
    rw [Bool.eq_false_iff]
    intro ha
    have := List.all_eq_true.1 ha _ (qgetD_mem [] hi)
    rw [decide_eq_true_eq] at this
    omega
  simp [fineT, fin2, this])
theorem fine_ok {t : List (List St)} {i : Nat} (h0 : ¬ (t.length : Int) = 0) (hi : t.length ≤ i) (ha : allT (t.take i) = true) : fineT t = true := by
  rw [List.take_of_length_le hi] at ha
  simp [fineT, fin2, ha]
  omega
theorem fine_e3 {t : List (List St)} {i j : Nat} (h0 : ¬ (t.length : Int) = 0) (hi : t.length ≤ i) (ha : allT (t.take i) = true) (hj : t.length ≤ j) (hb : ((ub (tabQ (t.take j))).length : Int) > 65536) : printQ t = ([], 3) := by
  rw [List.take_of_length_le hj, ub_len] at hb
  exact printQ_3 (fine_ok h0 hi ha) hb
theorem fine_e4 {t : List (List St)} {i j : Nat} (h0 : ¬ (t.length : Int) = 0) (hi : t.length ≤ i) (ha : allT (t.take i) = true) (hj : t.length ≤ j) (hb : ¬ ((ub (tabQ (t.take j))).length : Int) > 65536) : printQ t = (tabQ (t.take j), 0) := by
  rw [List.take_of_length_le hj, ub_len] at hb
  rw [List.take_of_length_le hj]
  exact printQ_0 (fine_ok h0 hi ha) (by unfold tabQ at hb; omega)
theorem rec_le (r : List St) (k : Nat) : (recQ (r.take k)).length ≤ (recQ r).length := pieces_take_le [44] [] fldQ r k
theorem tab_le (t : List (List St)) (j : Nat) : (tabQ (t.take j)).length ≤ (tabQ t).length := pieces_take_le [] [13, 10] recQ t j
theorem tab_room {t : List (List St)} {j k : Nat} (hj : j < t.length) (hk : k < (t.getD j []).length) : (ub (tabQ (t.take j) ++ recQ ((t.getD j []).take k))).length + (fldQ ((t.getD j []).getD k [])).length + 2 ≤ (tabQ t).length := by
  have h1 := tab_le t (j + 1)
  have h2 := rec_le (t.getD j []) (k + 1)
  rw [tab_more hj] at h1
  rw [rec_more hk] at h2
  rw [ub_len]
  simp only [List.length_append, List.length_cons, List.length_nil] at *
  omega
theorem tab_room2 {t : List (List St)} {j k : Nat} (hj : j < t.length) : (ub (tabQ (t.take j) ++ recQ ((t.getD j []).take k))).length + 2 ≤ (tabQ t).length := by
  have h1 := tab_le t (j + 1)
  have h2 := rec_le (t.getD j []) k
  rw [tab_more hj] at h1
  rw [ub_len]
  simp only [List.length_append, List.length_cons, List.length_nil] at *
  omega
end Go.Proofs.YtcjaplaifmhajaaDoorG
