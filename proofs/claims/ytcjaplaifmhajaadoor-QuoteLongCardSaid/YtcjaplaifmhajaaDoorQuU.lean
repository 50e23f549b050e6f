/- Quoting and parsing, back and forth, in plain Lean. -/
import Derived.Test.YtcjaplaifmhajaaDoorQuT
set_option linter.all false
namespace Go.Proofs.YtcjaplaifmhajaaDoorG
open Go Go.RowKit
theorem recQ_cons2 (x y : St) (r : List St) : recQ (x :: y :: r) = fldQ x ++ 44 :: recQ (y :: r) := by simp [recQ, pieces]
theorem tabQ_cons (r : List St) (t : List (List St)) : tabQ (r :: t) = recQ r ++ ([13, 10] ++ tabQ t) := by
  cases t with
  | nil => simp [tabQ, pieces]
  | cons y t => simp [tabQ, pieces]
theorem recQ_snoc (r : List St) (x : St) : recQ (r ++ [x]) = recQ r ++ ((if r.length = 0 then [] else [44]) ++ (fldQ x ++ [])) := pieces_snoc [44] [] fldQ r x
theorem tabQ_snoc (t : List (List St)) (r : List St) : tabQ (t ++ [r]) = tabQ t ++ (recQ r ++ [13, 10]) := by
  have := pieces_snoc [] [13, 10] recQ t r
  rw [show (if t.length = 0 then ([] : St) else []) = [] by split <;> rfl, List.nil_append] at this
  exact this
/-! ### how long -/
theorem recQ_le (r : List St) : ((recQ r).length : Int) ≤ 2 * nb1 r + 3 * r.length := by
  have h : ∀ r : List St, ∀ x, ((recQ (x :: r)).length : Int) ≤ 2 * nb1 (x :: r) + 3 * (x :: r).length := by
    intro r
    induction r with
    | nil => intro x; have := fldQ_len x; simp [recQ, pieces, nb1]; omega
    | cons y r ih =>
      intro x
      have h1 := ih y
      have h2 := fldQ_len x
      rw [recQ_cons2]
      simp only [List.length_append, List.length_cons, nb1, List.map_cons, List.sum_cons] at *
      omega
  cases r with
  | nil => simp [recQ, pieces, nb1]
  | cons x r => exact h r x
theorem tabQ_le (t : List (List St)) : ((tabQ t).length : Int) ≤ 2 * nb t + 3 * nf t + 2 * t.length := by
  induction t with
  | nil => simp [tabQ, pieces, nb, nf]
  | cons r t ih =>
    have := recQ_le r
    rw [tabQ_cons]
    simp only [List.length_append, List.length_cons, List.length_nil, nb, nf, List.map_cons, List.sum_cons] at *
    omega
theorem dup_ge (s : St) : s.length ≤ (dupS s).length := by
  induction s with
  | nil => simp
  | cons b l ih => rw [dupS_cons]; simp only [List.length_append, List.length_cons]; split <;> simp <;> omega
theorem fld_ge (s : St) : s.length ≤ (fldQ s).length := by
  have := dup_ge s
  unfold fldQ
  split
  · simp; omega
  · omega
theorem rec_ge : ∀ r : List St, r.length ≤ (recQ r).length + 1 ∧ ∀ t ∈ r, t.length ≤ (recQ r).length
  | [] => ⟨by simp, by simp⟩
  | [x] => by
    have := fld_ge x
    refine ⟨by simp, fun t ht => ?_⟩
    rw [List.mem_singleton.1 ht]
    simp [recQ, pieces]
    exact this
  | x :: y :: r => by
    obtain ⟨h1, h2⟩ := rec_ge (y :: r)
    have h3 := fld_ge x
    rw [recQ_cons2]
    simp only [List.length_append, List.length_cons] at *
    refine ⟨by omega, fun t ht => ?_⟩
    rcases List.mem_cons.1 ht with rfl | ht
    · omega
    · have := h2 t ht; omega
theorem tab_ge : ∀ t : List (List St), 2 * t.length ≤ (tabQ t).length ∧ ∀ r ∈ t, (recQ r).length ≤ (tabQ t).length
  | [] => ⟨by simp, by simp⟩
  | r :: t => by
    obtain ⟨h1, h2⟩ := tab_ge t
    rw [tabQ_cons]
    simp only [List.length_append, List.length_cons, List.length_nil]
    refine ⟨by omega, fun q hq => ?_⟩
    rcases List.mem_cons.1 hq with rfl | hq
    · omega
    · have := h2 q hq; omega
theorem fit_of {t : List (List St)} (h : (tabQ t).length ≤ 900000) : FitT t := by
  obtain ⟨h1, h2⟩ := tab_ge t
  refine ⟨by omega, by omega, fun r hr => ?_⟩
  have h3 := h2 r hr
  obtain ⟨h4, h5⟩ := rec_ge r
  exact ⟨by omega, by omega, fun t ht => by have := h5 t ht; omega⟩
def wt (h : Tells) : Nat := (h.map fun x => 2 * x.1.length + 5).sum
theorem wt_run : ∀ (l : St) (m : Md) (n : Nat) (t : St), wt (run m l n t).1 ≤ 7 * l.length + 2 * t.length + 5 := by
  intro l
  induction l with
  | nil => intro m n t; cases m <;> simp [run, wt]
  | cons c r ih =>
    intro m n t
    have hr := fun m t => ih m (n + 1) t
    have h1 := hr .F []; have h2 := hr .Q []; have h3 := hr .R []; have h4 := hr .B [c]; have h5 := hr .R t; have h6 := hr .B (t ++ [c]); have h7 := hr .P t; have h8 := hr .Q (t ++ [c]); have h9 := hr .Q (t ++ [34])
    clear ih hr
    simp only [wt, List.length_append, List.length_cons, List.length_nil] at *
    cases m <;> unfold run <;> (repeat' split) <;> (try simp only [List.map_cons, List.map_nil, List.sum_cons, List.sum_nil, List.length_nil]) <;> omega
theorem tab_wt (h : Tells) : (tabQ (recs h).1).length + (recQ (recs h).2).length ≤ wt h := by
  refine snoc_ind (P := fun h => (tabQ (recs h).1).length + (recQ (recs h).2).length ≤ wt h) (by simp [recs, tabQ, recQ, pieces, wt]) (fun h x ih => ?_) h
  have hw : wt (h ++ [x]) = wt h + (2 * x.1.length + 5) := by simp [wt]
  have hf := fldQ_len x.1
  have hs : (recQ ((recs h).2 ++ [x.1])).length ≤ (recQ (recs h).2).length + 1 + (fldQ x.1).length := by
    rw [recQ_snoc]
    simp only [List.length_append, List.length_nil]
    split <;> simp <;> omega
  rw [recs_snoc, hw]
  split
  · rw [tabQ_snoc]
    have h0 : (recQ []).length = 0 := rfl
    simp only [List.length_append, List.length_cons, List.length_nil, h0]
    omega
  · simp only
    omega
theorem tab_run (s : St) (h : s.length ≤ 65536) : (tabQ (recs (run .F s 0 []).1).1).length ≤ 7 * s.length + 5 := by
  have h1 := tab_wt (run .F s 0 []).1
  have h2 := wt_run s .F 0 []
  simp only [List.length_nil] at h2
  omega
theorem tab_parse (s : St) : (tabQ (parseS s).1).length ≤ 7 * s.length + 5 ∧ (tabQ (parseS s).1).length ≤ 458757 := by
  unfold parseS
  split
  · simp [tabQ, pieces]
  · split
    · simp [tabQ, pieces]
    · have := tab_run s (by omega)
      simp only
      omega
theorem fit_parse (s : St) : FitT (parseS s).1 := fit_of (by have := tab_parse s; omega)
theorem fit_ref {s : St} (h : s.length ≤ 65536) (hr : ¬ 0 ≤ (refS s).2) : FitT (refS s).1 := fit_of (by
  rw [ref_ok (by have := mt ref_sign.2 hr; omega)]
  have := tab_run s h
  simp only
  omega)
theorem wide_bd {t : List (List St)} (h : ¬ wideS t = true) : t.length ≤ 100 ∧ nf t ≤ 100 ∧ nb t ≤ 3000 := by
  simp only [wideS, decide_eq_true_eq] at h
  omega
theorem fit_wide {t : List (List St)} (h : ¬ wideS t = true) : FitT t ∧ t.length ≤ 10000 ∧ (∀ r ∈ t, r.length ≤ 10000) ∧ (tabQ t).length ≤ 65536 := by
  obtain ⟨h1, h2, h3⟩ := wide_bd h
  have h4 := tabQ_le t
  have h5 : (tabQ t).length ≤ 65536 := by omega
  obtain ⟨h6, h7⟩ := tab_ge t
  exact ⟨fit_of (by omega), by omega, fun r hr => by have := h7 r hr; have := (rec_ge r).1; omega, h5⟩
/-! ### parsed, what was written -/
theorem run_Q : ∀ (x t : St) (n : Nat) (rest : St), ∃ n', run .Q (dupS x ++ rest) n t = run .Q rest n' (t ++ x)
  | [], t, n, rest => ⟨n, by simp [dupS]⟩
  | b :: x, t, n, rest => by
    rw [dupS_cons]
    by_cases h : b = 34
    · subst h
      obtain ⟨n', h'⟩ := run_Q x (t ++ [34]) (n + 2) rest
      refine ⟨n', ?_⟩
      rw [if_pos rfl, List.append_assoc]
      show run .Q (34 :: 34 :: (dupS x ++ rest)) n t = _
      rw [show run .Q (34 :: 34 :: (dupS x ++ rest)) n t = run .Q (dupS x ++ rest) (n + 2) (t ++ [34]) by simp [run], h', List.append_assoc]
      rfl
    · obtain ⟨n', h'⟩ := run_Q x (t ++ [b]) (n + 1) rest
      refine ⟨n', ?_⟩
      rw [if_neg h, List.append_assoc]
      show run .Q (b :: (dupS x ++ rest)) n t = _
      rw [show run .Q (b :: (dupS x ++ rest)) n t = run .Q (dupS x ++ rest) (n + 1) (t ++ [b]) by simp [run, h], h', List.append_assoc]
      rfl
theorem run_B : ∀ (x t : St) (n : Nat) (rest : St), needS x = false → ∃ n', run .B (x ++ rest) n t = run .B rest n' (t ++ x)
  | [], t, n, rest, _ => ⟨n, by simp⟩
  | b :: x, t, n, rest, h => by
    simp only [needS, List.any_cons, Bool.or_eq_false_iff, decide_eq_false_iff_not] at h
    obtain ⟨⟨⟨⟨h1, h2⟩, h3⟩, h4⟩, h5⟩ := h
    obtain ⟨n', h'⟩ := run_B x (t ++ [b]) (n + 1) rest h5
    refine ⟨n', ?_⟩
    rw [show run .B (b :: x ++ rest) n t = run .B (x ++ rest) (n + 1) (t ++ [b]) by simp [run, h1, h2, h3, h4], h', List.append_assoc]
    rfl
theorem run_fld (x : St) (n : Nat) (rest : St) : ∃ n' m', run .F (fldQ x ++ rest) n [] = run m' rest n' x ∧ (m' = .F ∧ x = [] ∨ m' = .B ∨ m' = .P) := by
  unfold fldQ
  by_cases h : needS x = true
  · rw [if_pos h]
    obtain ⟨n', h'⟩ := run_Q x [] (n + 1) (34 :: rest)
    refine ⟨n' + 1, .P, ?_, .inr (.inr rfl)⟩
    rw [show ([34] ++ dupS x ++ [34]) ++ rest = 34 :: (dupS x ++ 34 :: rest) by simp]
    rw [show run .F (34 :: (dupS x ++ 34 :: rest)) n [] = run .Q (dupS x ++ 34 :: rest) (n + 1) [] by simp [run], h']
    simp [run]
  · rw [if_neg h]
    have h0 : needS x = false := by simpa using h
    cases x with
    | nil => exact ⟨n, .F, rfl, .inl ⟨rfl, rfl⟩⟩
    | cons b x =>
      simp only [needS, List.any_cons, Bool.or_eq_false_iff, decide_eq_false_iff_not] at h0
      obtain ⟨⟨⟨⟨h1, h2⟩, h3⟩, h4⟩, h5⟩ := h0
      obtain ⟨n', h'⟩ := run_B x [b] (n + 1) rest h5
      refine ⟨n', .B, ?_, .inr (.inl rfl)⟩
      rw [show run .F (b :: x ++ rest) n [] = run .B (x ++ rest) (n + 1) [b] by simp [run, h1, h2, h3, h4], h']
      rfl
theorem run_44 (x : St) (n : Nat) (rest : St) : ∃ n', run .F (fldQ x ++ 44 :: rest) n [] = ((x, false) :: (run .F rest n' []).1, (run .F rest n' []).2) := by
  obtain ⟨n', m', h, hm⟩ := run_fld x n (44 :: rest)
  refine ⟨n' + 1, ?_⟩
  rw [h]
  rcases hm with ⟨rfl, rfl⟩ | rfl | rfl <;> simp [run]
theorem run_13 (x : St) (n : Nat) (rest : St) : ∃ n', run .F (fldQ x ++ 13 :: 10 :: rest) n [] = if rest = [] then ([(x, true)], -1) else ((x, true) :: (run .F rest n' []).1, (run .F rest n' []).2) := by
  obtain ⟨n', m', h, hm⟩ := run_fld x n (13 :: 10 :: rest)
  refine ⟨n' + 1 + 1, ?_⟩
  rw [h, ← run_crlf]
  rcases hm with ⟨rfl, rfl⟩ | rfl | rfl <;> simp [run]
def marks : List St → Tells
  | [] => []
  | [x] => [(x, true)]
  | x :: y :: r => (x, false) :: marks (y :: r)
theorem run_rec : ∀ (r : List St) (n : Nat) (rest : St), r ≠ [] → ∃ n', run .F (recQ r ++ ([13, 10] ++ rest)) n [] = if rest = [] then (marks r, -1) else (marks r ++ (run .F rest n' []).1, (run .F rest n' []).2)
  | [], _, _, h => absurd rfl h
  | [x], n, rest, _ => by
    obtain ⟨n', h⟩ := run_13 x n rest
    refine ⟨n', ?_⟩
    rw [show recQ [x] ++ ([13, 10] ++ rest) = fldQ x ++ 13 :: 10 :: rest by simp [recQ, pieces], h]
    rfl
  | x :: y :: r, n, rest, _ => by
    obtain ⟨n1, h1⟩ := run_44 x n (recQ (y :: r) ++ ([13, 10] ++ rest))
    obtain ⟨n2, h2⟩ := run_rec (y :: r) n1 rest (by simp)
    refine ⟨n2, ?_⟩
    rw [recQ_cons2, show (fldQ x ++ 44 :: recQ (y :: r)) ++ ([13, 10] ++ rest) = fldQ x ++ 44 :: (recQ (y :: r) ++ ([13, 10] ++ rest)) by simp, h1, h2]
    split <;> rfl
theorem tabQ_nil {t : List (List St)} : tabQ t = [] ↔ t = [] := by
  cases t with
  | nil => simp [tabQ, pieces]
  | cons r t => rw [tabQ_cons]; simp
theorem run_tab : ∀ (t : List (List St)) (n : Nat), t ≠ [] → (∀ r ∈ t, r ≠ []) → run .F (tabQ t) n [] = (t.flatMap marks, -1)
  | [], _, h, _ => absurd rfl h
  | r :: t, n, _, hr => by
    obtain ⟨n', h⟩ := run_rec r n (tabQ t) (hr r (by simp))
    rw [tabQ_cons, h]
    by_cases ht : t = []
    · subst ht
      simp [tabQ, pieces]
    · rw [if_neg (by rw [tabQ_nil]; exact ht), run_tab t n' ht fun q hq => hr q (by simp [hq])]
      rfl
abbrev stepM (p : List (List St) × List St) (x : St × Bool) : List (List St) × List St := if x.2 then (p.1 ++ [p.2 ++ [x.1]], []) else (p.1, p.2 ++ [x.1])
theorem fold_marks : ∀ (r : List St) (p : List (List St)) (q : List St), r ≠ [] → (marks r).foldl stepM (p, q) = (p ++ [q ++ r], [])
  | [], _, _, h => absurd rfl h
  | [x], p, q, _ => by simp [marks, stepM]
  | x :: y :: r, p, q, _ => by
    have := fold_marks (y :: r) p (q ++ [x]) (by simp)
    rw [List.append_assoc] at this
    exact this
theorem fold_tab : ∀ (t p : List (List St)), (∀ r ∈ t, r ≠ []) → (t.flatMap marks).foldl stepM (p, []) = (p ++ t, [])
  | [], p, _ => by simp
  | r :: t, p, h => by
    rw [List.flatMap_cons, List.foldl_append, fold_marks r p [] (h r (by simp)), fold_tab t (p ++ [[] ++ r]) fun q hq => h q (by simp [hq])]
    simp
theorem fine_iff {t : List (List St)} : fineT t = true ↔ t ≠ [] ∧ ∀ r ∈ t, r ≠ [] := by
  unfold fineT fin2 allT
  rw [Bool.and_eq_true, decide_eq_true_eq, List.all_eq_true, List.length_pos_iff]
  refine and_congr Iff.rfl (forall_congr' fun r => forall_congr' fun _ => ?_)
  rw [decide_eq_true_eq, List.length_pos_iff]
theorem parse_tab {t : List (List St)} (hf : fineT t = true) (hl : (tabQ t).length ≤ 65536) : parseS (tabQ t) = (t, 0, 0) := by
  obtain ⟨h1, h2⟩ := fine_iff.1 hf
  have hr := run_tab t 0 h1 h2
  rw [parse_ok hl (by rw [hr]; show (-1 : Int) < 0; decide), hr]
  have := fold_tab t [] h2
  have h3 : recs (t.flatMap marks) = ([] ++ t, []) := this
  show ((recs (t.flatMap marks)).1, (0 : Int), (0 : Int)) = _
  rw [h3]
  simp
end Go.Proofs.YtcjaplaifmhajaaDoorG
