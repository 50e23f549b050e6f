/- What the laws of quoting ask, in plain Lean. -/
import Derived.Test.YtcjaplaifmhajaaDoorQuU
set_option linter.all false
namespace Go.Proofs.YtcjaplaifmhajaaDoorG
open Go Go.RowKit
theorem tidy_long {s : St} (h : (s.length : Int) > 65536) : tidyQ s = ([], 0, 3) := by
  unfold tidyQ
  rw [parse_long h]
  rfl
theorem tidy_eq {s : St} (h : s.length ≤ 65536) : tidyQ s = rtidyQ s := by
  unfold tidyQ rtidyQ
  rcases Int.lt_or_le (run .F s 0 []).2 0 with h1 | h1
  · rw [parse_ok h h1, ref_ok h1]
    rfl
  · rw [parse_bad h h1, ref_bad h1, if_pos h1]
    rfl
theorem recs_ne (h : Tells) : ∀ r ∈ (recs h).1, r ≠ [] := by
  refine snoc_ind (P := fun h => ∀ r ∈ (recs h).1, r ≠ []) (by simp [recs]) (fun h x ih => ?_) h
  rw [recs_snoc]
  split
  · intro r hr
    rcases List.mem_append.1 hr with hr | hr
    · exact ih r hr
    · rw [List.mem_singleton.1 hr]; simp
  · exact ih
theorem fine_parse {s : St} (h : s.length ≤ 65536) (hr : (run .F s 0 []).2 < 0) : fineT (parseS s).1 = true := by
  have h1 := (parse_cases (s := s) h)
  rw [parse_ok h hr] at h1 ⊢
  refine fine_iff.2 ⟨fun h0 => ?_, recs_ne _⟩
  simp only at h0
  rcases h1 with h1 | h1
  · have := h1.2
    simp only [h0] at this
    simp at this
  · have := h1.1
    simp at this
theorem print_ok {t : List (List St)} (h : (printQ t).2 = 0) : fineT t = true ∧ (tabQ t).length ≤ 65536 ∧ printQ t = (tabQ t, 0) := by
  unfold printQ at *
  split at h
  · simp at h
  · split at h
    · simp at h
    · rename_i h1 h2
      refine ⟨by simpa using h1, by omega, ?_⟩
      rw [if_neg h1, if_neg h2]
theorem print_no {t : List (List St)} (h : ¬ (printQ t).2 = 0) : (printQ t).1 = [] := by
  unfold printQ at *
  split
  · rfl
  · split
    · rfl
    · rename_i h1 h2
      rw [if_neg h1, if_neg h2] at h
      exact absurd rfl h
theorem print_back {t : List (List St)} (h : (printQ t).2 = 0) : parseS (printQ t).1 = (t, 0, 0) := by
  obtain ⟨h1, h2, h3⟩ := print_ok h
  rw [h3]
  exact parse_tab h1 h2
theorem print_two {t u : List (List St)} (h : (printQ t).2 = 0) (k : (printQ u).2 = 0) : (decide ((printQ t).1 = (printQ u).1)) = decide (t = u) := by
  rw [Bool.eq_iff_iff, decide_eq_true_eq, decide_eq_true_eq]
  constructor
  · intro e
    have h1 := print_back h
    have h2 := print_back k
    rw [e, h2] at h1
    exact (congrArg Prod.fst h1).symm
  · rintro rfl; rfl
theorem stays {s : St} (h : s.length ≤ 3000) : (tidyQ s).2.2 = (parseS s).2.2 ∧ (tidyQ s).2.1 = (parseS s).2.1 ∧ (¬ (tidyQ s).2.2 = 0 → (tidyQ s).1 = []) ∧ ((tidyQ s).2.2 = 0 → tidyQ (tidyQ s).1 = ((tidyQ s).1, 0, 0) ∧ parseS (tidyQ s).1 = ((parseS s).1, 0, 0)) := by
  rcases Int.lt_or_le (run .F s 0 []).2 0 with h1 | h1
  · have hf := fine_parse (by omega) h1
    have hl := (tab_parse s).1
    have hp0 := parse_ok (by omega) h1
    have he : (parseS s).2.2 = 0 := by rw [hp0]
    have ha : (parseS s).2.1 = 0 := by rw [hp0]
    have hp : printQ (parseS s).1 = (tabQ (parseS s).1, 0) := printQ_0 hf (by unfold tabQ at hl; omega)
    have ht : tidyQ s = (tabQ (parseS s).1, 0, 0) := by
      unfold tidyQ
      rw [if_neg (by simpa using he), hp]
    have hb : parseS (tabQ (parseS s).1) = ((parseS s).1, 0, 0) := parse_tab hf (by omega)
    rw [ht]
    refine ⟨he.symm, ha.symm, fun h => absurd rfl h, fun _ => ⟨?_, hb⟩⟩
    show tidyQ (tabQ (parseS s).1) = _
    unfold tidyQ
    rw [hb]
    simp only
    rw [hp]
    rfl
  · have hp := parse_bad (s := s) (by omega) h1
    have ht : tidyQ s = ([], (parseS s).2.1, (parseS s).2.2) := by
      unfold tidyQ
      rw [if_pos (by rw [hp]; simp)]
    rw [ht]
    exact ⟨rfl, rfl, fun _ => rfl, fun h0 => by rw [hp] at h0; simp at h0⟩
def longN (s : St) (more : Bool) : Nat := 65536 / (s.length + 2) + if more then 1 else 0
theorem recQ_one {s : St} (h : fldQ s = s) : recQ [s] = s := by simp [recQ, pieces, h]
theorem long_len {s : St} (h : fldQ s = s) : ∀ i : Nat, (tabQ (List.replicate i [s])).length = i * (s.length + 2)
  | 0 => by simp [tabQ, pieces]
  | i + 1 => by
    rw [List.replicate_succ, tabQ_cons, recQ_one h]
    simp only [List.length_append, List.length_cons, List.length_nil, long_len h i, Nat.succ_mul]
    omega
theorem longN_le {s : St} {m : Bool} (h : 20 ≤ s.length) : longN s m ≤ 2980 := by
  have : 65536 / (s.length + 2) ≤ 65536 / 22 := Nat.div_le_div_left (by omega) (by decide)
  unfold longN
  split <;> omega
theorem fit_long {s : St} {i : Nat} (h1 : s.length ≤ 1000) (hi : i ≤ 2980) (h : fldQ s = s) : FitT (List.replicate i [s]) := by
  have hl := long_len h i
  have h2 : i * (s.length + 2) ≤ 2980 * 1002 := Nat.mul_le_mul hi (by omega)
  have h3 : (List.replicate i [s]).length = i := List.length_replicate
  obtain ⟨h6, h7⟩ := tab_ge (List.replicate i [s])
  refine ⟨by omega, by omega, fun r hr => ?_⟩
  have h8 := h7 r hr
  obtain ⟨h4, h5⟩ := rec_ge r
  exact ⟨by rw [List.eq_of_mem_replicate hr]; simp, by omega, fun t ht => by have := h5 t ht; omega⟩
theorem long_fine {s : St} {i : Nat} (hi : 0 < i) : fineT (List.replicate i [s]) = true := fine_iff.2 ⟨by cases i with | zero => omega | succ i => simp [List.replicate_succ], fun r hr => by rw [List.eq_of_mem_replicate hr]; simp⟩
theorem long_t {s : St} {i : Nat} (h : fldQ s = s) (h1 : 20 ≤ s.length) (hi : i = longN s true) : printQ (List.replicate i [s]) = ([], 3) := by
  have hl := long_len h i
  have : 65536 < i * (s.length + 2) := by
    subst hi
    have := Nat.div_add_mod 65536 (s.length + 2)
    have h2 := Nat.mod_lt 65536 (show 0 < s.length + 2 by omega)
    have h3 : longN s true * (s.length + 2) = (s.length + 2) * (65536 / (s.length + 2)) + (s.length + 2) := by
      unfold longN
      rw [if_pos rfl, Nat.mul_comm, Nat.mul_add, Nat.mul_one]
    omega
  exact printQ_3 (long_fine (by subst hi; unfold longN; simp)) (by unfold tabQ at hl; omega)
theorem long_f {s : St} {i : Nat} (h : fldQ s = s) (h1 : 20 ≤ s.length) (h2 : s.length ≤ 1000) (hi : i = longN s false) : printQ (List.replicate i [s]) = (tabQ (List.replicate i [s]), 0) ∧ ((tabQ (List.replicate i [s])).length : Int) = (longN s false : Nat) * ((s.length : Int) + 2) := by
  have hl := long_len h i
  have h0 : i = 65536 / (s.length + 2) := by rw [hi]; unfold longN; simp
  have h4 : i * (s.length + 2) ≤ 65536 := by rw [h0]; exact Nat.div_mul_le_self _ _
  have h5 : 0 < i := by rw [h0]; exact Nat.div_pos (by omega) (by omega)
  refine ⟨printQ_0 (long_fine h5) (by unfold tabQ at hl; omega), ?_⟩
  rw [hl, ← hi]
  rw [Int.natCast_mul, Int.natCast_add]
  rfl
theorem longN_q {s : St} : 0 ≤ (65536 : Int) / ((s.length : Int) + 2) ∧ (65536 : Int) / ((s.length : Int) + 2) ≤ 65536 := ⟨Int.ediv_nonneg (by decide) (by omega), Int.ediv_le_self _ (by decide)⟩
theorem longN_a {s : St} {m : Bool} (h : m = true) : (65536 : Int) / ((s.length : Int) + 2) + 1 = ((longN s m : Nat) : Int) := by
  subst h
  unfold longN
  rw [if_pos rfl, Int.natCast_add, Int.natCast_ediv]
  rfl
theorem longN_b {s : St} {m : Bool} (h : m = false) : (65536 : Int) / ((s.length : Int) + 2) = ((longN s m : Nat) : Int) := by
  subst h
  unfold longN
  rw [if_neg (by simp), Int.natCast_add, Int.natCast_ediv]
  exact (Int.add_zero _).symm
theorem long_t' {s : St} {i : Nat} {m : Bool} (hm : m = true) (h : fldQ s = s) (h1 : 20 ≤ s.length) (h2 : longN s m ≤ i) (h3 : i ≤ longN s m) : printQ (List.replicate i [s]) = ([], 3) := by
  subst hm
  exact long_t h h1 (by omega)
theorem long_f' {s : St} {i : Nat} {m : Bool} (hm : m = false) (h : fldQ s = s) (h1 : 20 ≤ s.length) (h4 : s.length ≤ 1000) (h2 : longN s m ≤ i) (h3 : i ≤ longN s m) :
    (printQ (List.replicate i [s])).2 = 0 ∧ (((printQ (List.replicate i [s])).1.length : Nat) : Int) = ((longN s m : Nat) : Int) * ((s.length : Int) + 2) ∧ 0 ≤ ((longN s m : Nat) : Int) * ((s.length : Int) + 2) ∧ ((longN s m : Nat) : Int) * ((s.length : Int) + 2) ≤ 65536 := by
  subst hm
  obtain ⟨h5, h6⟩ := long_f h h1 h4 (show i = longN s false by omega)
  have h7 := (print_ok (t := List.replicate i [s]) (by rw [h5])).2.1
  rw [h5]
  exact ⟨rfl, h6, by omega, by omega⟩
end Go.Proofs.YtcjaplaifmhajaaDoorG
