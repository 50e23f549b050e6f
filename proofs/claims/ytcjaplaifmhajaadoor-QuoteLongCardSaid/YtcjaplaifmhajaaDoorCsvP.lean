/- CSV: what the laws say of the reading, in plain Lean. -/
import Derived.Test.YtcjaplaifmhajaaDoorCsvS
set_option linter.all false
namespace Go.Proofs.YtcjaplaifmhajaaDoorG
open Go
def isS (s : St) (want : List (List St)) : Bool := decide ((parseS s).2.2 = 0 ∧ (parseS s).2.1 = 0 ∧ (parseS s).1 = want)
def spoS (s : St) (at_ : Int) : Bool := decide ((parseS s).2.2 = 2 ∧ (parseS s).2.1 = at_ ∧ (parseS s).1.length = 0)
def parsesS (s : St) : Bool := decide ((parseS s).2.2 = 0)
/-- One byte is read: the reading goes on, a field ends, the text is spoilt; or a record ends. -/
theorem step_cases (m : Md) (c : UInt8) (t : St) : (∃ m' t', (m' = .R → c = 13) ∧ ∀ r n, run m (c :: r) n t = run m' r (n + 1) t') ∨ (∃ y, ∀ r n, run m (c :: r) n t = ((y, false) :: (run .F r (n + 1) []).1, (run .F r (n + 1) []).2)) ∨
    (∀ r n, run m (c :: r) n t = ([], (n : Int))) ∨ (m = .R ∧ c = 10) := by
  cases m
  · by_cases h1 : c = 34
    · exact .inl ⟨.Q, [], (fun h => by cases h), fun r n => by simp only [run, h1, if_true]⟩
    · by_cases h2 : c = 44
      · exact .inr (.inl ⟨[], fun r n => by simp only [run]; rw [if_neg h1, if_pos h2]⟩)
      · by_cases h3 : c = 13
        · exact .inl ⟨.R, [], (fun _ => h3), fun r n => by simp only [run]; rw [if_neg h1, if_neg h2, if_pos h3]⟩
        · by_cases h4 : c = 10
          · exact .inr (.inr (.inl fun r n => by simp only [run]; rw [if_neg h1, if_neg h2, if_neg h3, if_pos h4]))
          · exact .inl ⟨.B, [c], (fun h => by cases h), fun r n => by simp only [run]; rw [if_neg h1, if_neg h2, if_neg h3, if_neg h4]⟩
  · by_cases h2 : c = 44
    · exact .inr (.inl ⟨t, fun r n => by simp only [run]; rw [if_pos h2]⟩)
    · by_cases h3 : c = 13
      · exact .inl ⟨.R, t, (fun _ => h3), fun r n => by simp only [run]; rw [if_neg h2, if_pos h3]⟩
      · by_cases h4 : c = 10 ∨ c = 34
        · exact .inr (.inr (.inl fun r n => by simp only [run]; rw [if_neg h2, if_neg h3, if_pos h4]))
        · exact .inl ⟨.B, t ++ [c], (fun h => by cases h), fun r n => by simp only [run]; rw [if_neg h2, if_neg h3, if_neg h4]⟩
  · by_cases h1 : c = 34
    · exact .inl ⟨.P, t, (fun h => by cases h), fun r n => by simp only [run]; rw [if_pos h1]⟩
    · exact .inl ⟨.Q, t ++ [c], (fun h => by cases h), fun r n => by simp only [run]; rw [if_neg h1]⟩
  · by_cases h1 : c = 34
    · exact .inl ⟨.Q, t ++ [34], (fun h => by cases h), fun r n => by simp only [run]; rw [if_pos h1]⟩
    · by_cases h2 : c = 44
      · exact .inr (.inl ⟨t, fun r n => by simp only [run]; rw [if_neg h1, if_pos h2]⟩)
      · by_cases h3 : c = 13
        · exact .inl ⟨.R, t, (fun _ => h3), fun r n => by simp only [run]; rw [if_neg h1, if_neg h2, if_pos h3]⟩
        · exact .inr (.inr (.inl fun r n => by simp only [run]; rw [if_neg h1, if_neg h2, if_neg h3]))
  · by_cases h4 : c = 10
    · exact .inr (.inr (.inr ⟨rfl, h4⟩))
    · exact .inr (.inr (.inl fun r n => by simp only [run]; rw [if_neg h4]))
theorem run_R10 (r : St) (n : Nat) (t : St) (h : r ≠ []) : run .R (10 :: r) n t = ((t, true) :: (run .F r (n + 1) []).1, (run .F r (n + 1) []).2) := by
  cases r with
  | nil => exact absurd rfl h
  | cons a b => rfl
theorem run_R10n (n : Nat) (t : St) : run .R [10] n t = ([(t, true)], -1) := rfl
theorem run_lo : ∀ (l : St) (m : Md) (n : Nat) (t : St), (run m l n t).2 = -1 ∨ (n : Int) ≤ (run m l n t).2 := by
  intro l
  induction l with
  | nil => intro m n t; cases m <;> simp [run]
  | cons c r ih =>
    intro m n t
    have hr : ∀ m t, (run m r (n + 1) t).2 = -1 ∨ (n : Int) ≤ (run m r (n + 1) t).2 := fun m t => (ih m (n + 1) t).imp id (fun h => by omega)
    rcases step_cases m c t with ⟨m', t', _, h⟩ | ⟨y, h⟩ | h | ⟨rfl, rfl⟩
    · rw [h]; exact hr _ _
    · rw [h]; exact hr _ _
    · rw [h]; exact .inr (Int.le_refl _)
    · by_cases hn : r = []
      · subst hn; exact .inl rfl
      · rw [run_R10 _ _ _ hn]; exact hr _ _
theorem not_at {l : St} {m : Md} {n : Nat} {t : St} : ¬ (run m l (n + 1) t).2 = (n : Int) := fun h => by
  rcases run_lo l m (n + 1) t with h1 | h1 <;> omega
/-- What stands behind the byte at which a text is spoilt does not count. -/
theorem spoilt_behind {c : UInt8} : ∀ (l1 : St) (m : Md) (n : Nat) (t l2 l3 : St), (run m (l1 ++ c :: l2) n t).2 = (n : Int) + l1.length → (run m (l1 ++ c :: l3) n t).2 = (n : Int) + l1.length := by
  intro l1
  induction l1 with
  | nil =>
    intro m n t l2 l3 h
    simp only [List.nil_append, List.length_nil] at h ⊢
    have h' : (run m (c :: l2) n t).2 = (n : Int) := by rw [h]; omega
    rcases step_cases m c t with ⟨m', t', _, e⟩ | ⟨y, e⟩ | e | ⟨rfl, rfl⟩
    · rw [e] at h'; exact absurd h' not_at
    · rw [e] at h'; exact absurd h' not_at
    · rw [e]; simp
    · by_cases hn : l2 = []
      · subst hn
        rw [run_R10n] at h'
        simp only at h'
        omega
      · rw [run_R10 _ _ _ hn] at h'; exact absurd h' not_at
  | cons d l1 ih =>
    intro m n t l2 l3 h
    have e : ((d :: l1).length : Int) = l1.length + 1 := by simp
    rw [e] at h ⊢
    have hr : ∀ m t, (run m (l1 ++ c :: l2) (n + 1) t).2 = (n : Int) + (l1.length + 1) → (run m (l1 ++ c :: l3) (n + 1) t).2 = (n : Int) + (l1.length + 1) := fun m t h => by
      have := ih m (n + 1) t l2 l3 (by rw [h]; omega)
      rw [this]; omega
    rw [List.cons_append] at h ⊢
    rcases step_cases m d t with ⟨m', t', _, e⟩ | ⟨y, e⟩ | e | ⟨rfl, rfl⟩
    · rw [e] at h ⊢; exact hr _ _ h
    · rw [e] at h ⊢; exact hr _ _ h
    · rw [e] at h; simp only at h; omega
    · rw [run_R10 _ _ _ (by simp)] at h ⊢; exact hr _ _ h
/-- Ahead of the place at which it is spoilt a text can go on. -/
theorem goes_on : ∀ (l1 : St) (m : Md) (n : Nat) (t l2 : St), (run m (l1 ++ l2) n t).2 = (n : Int) + l1.length → ∃ x, (x = [] ∨ x = [34] ∨ x = [10]) ∧ (run m (l1 ++ x) n t).2 < 0 := by
  intro l1
  induction l1 with
  | nil =>
    intro m n t l2 _
    cases m
    · exact ⟨[], .inl rfl, by show (-1 : Int) < 0; decide⟩
    · exact ⟨[], .inl rfl, by show (-1 : Int) < 0; decide⟩
    · exact ⟨[34], .inr (.inl rfl), by show (-1 : Int) < 0; decide⟩
    · exact ⟨[], .inl rfl, by show (-1 : Int) < 0; decide⟩
    · exact ⟨[10], .inr (.inr rfl), by show (-1 : Int) < 0; decide⟩
  | cons d l1 ih =>
    intro m n t l2 h
    have e : ((d :: l1).length : Int) = l1.length + 1 := by simp
    rw [e] at h
    have hr : ∀ m t, (run m (l1 ++ l2) (n + 1) t).2 = (n : Int) + (l1.length + 1) → ∃ x, (x = [] ∨ x = [34] ∨ x = [10]) ∧ (run m (l1 ++ x) (n + 1) t).2 < 0 := fun m t h => ih m (n + 1) t l2 (by rw [h]; omega)
    simp only [List.cons_append] at h ⊢
    rcases step_cases m d t with ⟨m', t', _, e⟩ | ⟨y, e⟩ | e | ⟨rfl, rfl⟩
    · rw [e] at h
      obtain ⟨x, hx, hx'⟩ := hr _ _ h
      exact ⟨x, hx, by rw [e]; exact hx'⟩
    · rw [e] at h
      obtain ⟨x, hx, hx'⟩ := hr _ _ h
      exact ⟨x, hx, by rw [e]; exact hx'⟩
    · rw [e] at h; simp only at h; omega
    · by_cases hn : l1 ++ l2 = []
      · rw [hn, run_R10n] at h; simp only at h; omega
      · rw [run_R10 _ _ _ hn] at h
        obtain ⟨x, hx, hx'⟩ := hr _ _ h
        refine ⟨x, hx, ?_⟩
        by_cases hm : l1 ++ x = []
        · rw [hm]; show (-1 : Int) < 0; decide
        · rw [run_R10 _ _ _ hm]; exact hx'
theorem shift : ∀ (l : St) (m : Md) (n n' : Nat) (t : St), (run m l n t).1 = (run m l n' t).1 ∧ ((run m l n t).2 < 0 ↔ (run m l n' t).2 < 0) := by
  intro l
  induction l with
  | nil => intro m n n' t; cases m <;> simp [run] <;> omega
  | cons c r ih =>
    intro m n n' t
    have hr := fun m t => ih m (n + 1) (n' + 1) t
    rcases step_cases m c t with ⟨m', t', _, e⟩ | ⟨y, e⟩ | e | ⟨rfl, rfl⟩
    · rw [e, e]; exact hr _ _
    · rw [e, e]; exact ⟨by rw [(hr _ _).1], (hr _ _).2⟩
    · rw [e, e]; exact ⟨rfl, by simp only; omega⟩
    · by_cases hn : r = []
      · subst hn; exact ⟨rfl, Iff.rfl⟩
      · rw [run_R10 _ _ _ hn, run_R10 _ _ _ hn]; exact ⟨by rw [(hr _ _).1], (hr _ _).2⟩
/-- Does a text, in a state of the reading, end with CR LF? -/
def EndsB (m : Md) (l : St) : Prop := (m = .R ∧ l = [10]) ∨ ∃ l0, l = l0 ++ [13, 10]
theorem EndsB.tail {m m' : Md} {c : UInt8} {r : St} (h : ¬ EndsB m (c :: r)) (hm : m' = .R → c = 13) : ¬ EndsB m' r := fun h' => by
  rcases h' with ⟨h1, h2⟩ | ⟨l0, h2⟩
  · exact h (.inr ⟨[], by rw [h2, hm h1]; rfl⟩)
  · exact h (.inr ⟨c :: l0, by rw [h2]; rfl⟩)
theorem run_crlf (b : St) (n : Nat) (t : St) : run .R (10 :: b) n t = if b = [] then ([(t, true)], -1) else ((t, true) :: (run .F b (n + 1) []).1, (run .F b (n + 1) []).2) := by
  by_cases hn : b = []
  · subst hn; rfl
  · rw [run_R10 _ _ _ hn, if_neg hn]
theorem joins : ∀ (l : St) (m : Md) (n : Nat) (t b : St), (run m l n t).2 < 0 → ¬ EndsB m l → ∃ n', run m (l ++ 13 :: 10 :: b) n t = if b = [] then run m l n t else ((run m l n t).1 ++ (run .F b n' []).1, (run .F b n' []).2) := by
  intro l
  induction l with
  | nil =>
    intro m n t b h _
    refine ⟨n + 1 + 1, ?_⟩
    cases m
    · show run .R (10 :: b) (n + 1) [] = _
      rw [run_crlf]
      rfl
    · show run .R (10 :: b) (n + 1) t = _
      rw [run_crlf]
      rfl
    · exfalso
      have h' : (n : Int) < 0 := h
      omega
    · show run .R (10 :: b) (n + 1) t = _
      rw [run_crlf]
      rfl
    · exfalso
      have h' : (n : Int) < 0 := h
      omega
  | cons c r ih =>
    intro m n t b h hb
    have hr : ∀ m' t, (run m' r (n + 1) t).2 < 0 → (m' = .R → c = 13) → ∃ n', run m' (r ++ 13 :: 10 :: b) (n + 1) t = if b = [] then run m' r (n + 1) t else ((run m' r (n + 1) t).1 ++ (run .F b n' []).1, (run .F b n' []).2) := fun m' t h1 h2 => ih m' (n + 1) t b h1 (EndsB.tail hb h2)
    rw [List.cons_append]
    rcases step_cases m c t with ⟨m', t', hm, e⟩ | ⟨y, e⟩ | e | ⟨rfl, rfl⟩
    · rw [e] at h ⊢
      rw [e]
      exact hr _ _ h hm
    · rw [e] at h ⊢
      rw [e]
      obtain ⟨n', h2⟩ := hr .F [] h (fun h => by cases h)
      refine ⟨n', ?_⟩
      rw [h2]
      split <;> rfl
    · exfalso
      rw [e] at h
      have h' : (n : Int) < 0 := h
      omega
    · by_cases hn : r = []
      · subst hn; exact absurd (.inl ⟨rfl, rfl⟩) hb
      · rw [run_R10 _ _ _ hn] at h ⊢
        rw [run_R10 _ _ _ (by simp)]
        obtain ⟨n', h2⟩ := hr .F [] h (fun h => by cases h)
        refine ⟨n', ?_⟩
        rw [h2]
        split <;> rfl
/-- A text of records closes its last one. -/
theorem run_last : ∀ (l : St) (m : Md) (n : Nat) (t : St), (run m l n t).2 < 0 → ∃ h0 x, (run m l n t).1 = h0 ++ [(x, true)] := by
  intro l
  induction l with
  | nil =>
    intro m n t h
    cases m
    · exact ⟨[], [], rfl⟩
    · exact ⟨[], t, rfl⟩
    · have h' : (n : Int) < 0 := h
      omega
    · exact ⟨[], t, rfl⟩
    · have h' : (n : Int) < 0 := h
      omega
  | cons c r ih =>
    intro m n t h
    have hF : ∀ y, (run .F r (n + 1) []).2 < 0 → ∃ h0 x, y :: (run .F r (n + 1) []).1 = h0 ++ [(x, true)] := fun y h => by
      obtain ⟨h0, x, h1⟩ := ih .F (n + 1) [] h
      exact ⟨y :: h0, x, by rw [h1]; rfl⟩
    rcases step_cases m c t with ⟨m', t', _, e⟩ | ⟨y, e⟩ | e | ⟨rfl, rfl⟩
    · rw [e] at h ⊢; exact ih _ _ _ h
    · rw [e] at h ⊢; exact hF _ h
    · rw [e] at h
      have h' : (n : Int) < 0 := h
      omega
    · by_cases hn : r = []
      · subst hn; exact ⟨[], t, rfl⟩
      · rw [run_R10 _ _ _ hn] at h ⊢; exact hF _ h
theorem recs_closed {h : Tells} {h0 : Tells} {x : St} (e : h = h0 ++ [(x, true)]) : (recs h).2 = [] ∧ 0 < (recs h).1.length := by
  subst e
  rw [recs_snoc]
  simp
theorem recs_append (h g : Tells) (hc : (recs h).2 = []) : (recs (h ++ g)).1 = (recs h).1 ++ (recs g).1 := by
  have key : ∀ g : Tells, recs (h ++ g) = ((recs h).1 ++ (recs g).1, (recs g).2) := fun g => by
    refine snoc_ind (P := fun g => recs (h ++ g) = ((recs h).1 ++ (recs g).1, (recs g).2)) ?_ (fun g x ih => ?_) g
    · simp only [List.append_nil]
      show recs h = ((recs h).1 ++ [], [])
      rw [List.append_nil, ← hc]
    · rw [← List.append_assoc, recs_snoc, ih, recs_snoc]
      split <;> simp
  rw [key g]
def tot (l : List (List St)) : Int := (l.map (fun r => (r.length : Int))).sum
theorem tot_append (l m : List (List St)) : tot (l ++ m) = tot l + tot m := by simp [tot]
theorem tot_nonneg (l : List (List St)) : 0 ≤ tot l := by
  induction l with
  | nil => simp [tot]
  | cons r l ih =>
    have : tot (r :: l) = r.length + tot l := by simp [tot]
    omega
theorem tot_take (l : List (List St)) (i : Nat) : tot (l.take i) ≤ tot l := by
  have h1 := tot_append (l.take i) (l.drop i)
  rw [List.take_append_drop] at h1
  have h2 := tot_nonneg (l.drop i)
  omega
theorem tot_next (l : List (List St)) (i : Nat) (h : i < l.length) : tot (l.take (i + 1)) = tot (l.take i) + (l.getD i []).length := by
  rw [List.take_succ_eq_append_getElem h, tot_append]
  simp [tot, List.getD, h]
theorem recs_nums (h : Tells) : (nums h).1 = (recs h).1.length ∧ (nums h).2 = tot (recs h).1 + (recs h).2.length := by
  refine snoc_ind (P := fun h => (nums h).1 = (recs h).1.length ∧ (nums h).2 = tot (recs h).1 + (recs h).2.length) (by simp [nums, recs, tot]) (fun h x ih => ?_) h
  rw [nums_snoc, recs_snoc]
  obtain ⟨h1, h2⟩ := ih
  simp only
  split
  · rw [tot_append]
    simp [tot] at h2 ⊢
    omega
  · simp
    omega
section
variable {s : St}
theorem parse_long (h : (s.length : Int) > 65536) : parseS s = ([], 0, 3) := by unfold parseS; rw [if_pos h]
theorem count_long (h : (s.length : Int) > 65536) : countS s = (0, 0) := by unfold countS; rw [if_pos h]
theorem parse_bad (h : s.length ≤ 65536) (hr : 0 ≤ (run .F s 0 []).2) : parseS s = ([], (run .F s 0 []).2, 2) := by unfold parseS; rw [if_neg (by omega), if_pos hr]
theorem count_bad (h : s.length ≤ 65536) (hr : 0 ≤ (run .F s 0 []).2) : countS s = (0, 0) := by unfold countS; rw [if_neg (by omega), if_pos hr]
theorem parse_ok (h : s.length ≤ 65536) (hr : (run .F s 0 []).2 < 0) : parseS s = ((recs (run .F s 0 []).1).1, 0, 0) := by unfold parseS; rw [if_neg (by omega), if_neg (by omega)]
theorem count_ok (h : s.length ≤ 65536) (hr : (run .F s 0 []).2 < 0) : countS s = (((recs (run .F s 0 []).1).1.length : Int), tot (recs (run .F s 0 []).1).1) := by
  unfold countS
  rw [if_neg (by omega), if_neg (by omega)]
  obtain ⟨h0, x, h1⟩ := run_last s .F 0 [] hr
  obtain ⟨h2, h3⟩ := recs_nums (run .F s 0 []).1
  rw [(recs_closed h1).1] at h3
  ext1
  · exact h2
  · simpa using h3
theorem ref_bad (hr : 0 ≤ (run .F s 0 []).2) : refS s = ([], (run .F s 0 []).2) := by unfold refS; rw [if_pos hr]
theorem ref_ok (hr : (run .F s 0 []).2 < 0) : refS s = ((recs (run .F s 0 []).1).1, -1) := by unfold refS; rw [if_neg (by omega)]
theorem ref_sign : 0 ≤ (refS s).2 ↔ 0 ≤ (run .F s 0 []).2 := by
  rcases Int.lt_or_le (run .F s 0 []).2 0 with h | h
  · rw [ref_ok h]; simp; omega
  · rw [ref_bad h]
theorem parses_iff (h : s.length ≤ 65536) : (parseS s).2.2 = 0 ↔ (run .F s 0 []).2 < 0 := by
  rcases Int.lt_or_le (run .F s 0 []).2 0 with h1 | h1
  · rw [parse_ok h h1]; simpa using h1
  · rw [parse_bad h h1]; simp; omega
/-- What Parse answers, of a text that is not too long. -/
theorem parse_cases (h : s.length ≤ 65536) : (parseS s).2.2 = 0 ∧ 0 < (parseS s).1.length ∨ (parseS s).2.2 = 2 ∧ 0 ≤ (parseS s).2.1 ∧ (parseS s).2.1 ≤ s.length ∧ (parseS s).2.1 = (run .F s 0 []).2 := by
  rcases Int.lt_or_le (run .F s 0 []).2 0 with h1 | h1
  · rw [parse_ok h h1]
    obtain ⟨h0, x, h2⟩ := run_last s .F 0 [] h1
    exact .inl ⟨rfl, (recs_closed h2).2⟩
  · rw [parse_bad h h1]
    exact .inr ⟨rfl, h1, (run_le s).2, rfl⟩
theorem first_on (h : s.length ≤ 65000) (he : (parseS s).2.2 = 2) : parsesS (s.take (parseS s).2.1.toNat) = true ∨ parsesS (s.take (parseS s).2.1.toNat ++ [34]) = true ∨ parsesS (s.take (parseS s).2.1.toNat ++ [10]) = true := by
  rcases parse_cases (s := s) (by omega) with h1 | ⟨_, h2, h3, h4⟩
  · omega
  · have e : s.take (parseS s).2.1.toNat ++ s.drop (parseS s).2.1.toNat = s := List.take_append_drop _ _
    have hl : (s.take (parseS s).2.1.toNat).length = (parseS s).2.1.toNat := by rw [List.length_take]; omega
    obtain ⟨x, hx, hx'⟩ := goes_on (s.take (parseS s).2.1.toNat) .F 0 [] (s.drop (parseS s).2.1.toNat) (by rw [e, hl, ← h4]; omega)
    have key : ∀ y : St, y.length ≤ 1 → (run .F (s.take (parseS s).2.1.toNat ++ y) 0 []).2 < 0 → parsesS (s.take (parseS s).2.1.toNat ++ y) = true := fun y hy hr => by
      unfold parsesS
      rw [decide_eq_true_iff, parses_iff (by rw [List.length_append, hl]; omega)]
      exact hr
    rcases hx with rfl | rfl | rfl
    · left
      have := key [] (by simp) hx'
      rwa [List.append_nil] at this
    · exact .inr (.inl (key _ (by simp) hx'))
    · exact .inr (.inr (key _ (by simp) hx'))
theorem first_behind (more : St) (h : s.length ≤ 30000) (hm : more.length ≤ 30000) (he : (parseS s).2.2 = 2) (hn : (parseS s).2.1 < s.length) : spoS (s.take ((parseS s).2.1 + 1).toNat ++ more) (parseS s).2.1 = true := by
  rcases parse_cases (s := s) (by omega) with h1 | ⟨_, h2, h3, h4⟩
  · omega
  · generalize hp : (parseS s).2.1 = p at *
    have e1 : (p + 1).toNat = p.toNat + 1 := by omega
    have hlt : p.toNat < s.length := by omega
    have hl : (s.take p.toNat).length = p.toNat := by rw [List.length_take]; omega
    have e2 : s.take (p.toNat + 1) ++ more = s.take p.toNat ++ s[p.toNat] :: more := by rw [List.take_succ_eq_append_getElem hlt, List.append_assoc]; rfl
    have e3 : s.take p.toNat ++ s[p.toNat] :: s.drop (p.toNat + 1) = s := by rw [← List.drop_eq_getElem_cons hlt, List.take_append_drop]
    have h5 := spoilt_behind (s.take p.toNat) .F 0 [] (s.drop (p.toNat + 1)) more (c := s[p.toNat]) (by rw [e3, hl, ← h4]; omega)
    rw [e1, e2]
    have h6 : (s.take p.toNat ++ s[p.toNat] :: more).length ≤ 65536 := by simp; omega
    rw [hl] at h5
    have h7 : (run .F (s.take p.toNat ++ s[p.toNat] :: more) 0 []).2 = p := by rw [h5]; omega
    unfold spoS
    rw [parse_bad h6 (by omega), h7]
    simp
theorem joins_all {a b : St} (ha : a.length ≤ 30000) (hb : b.length ≤ 30000) (ea : (parseS a).2.2 = 0) (eb : (parseS b).2.2 = 0) (hn : b ≠ []) (hx : ¬ ∃ l0, a = l0 ++ [13, 10]) :
    parseS (a ++ [13, 10] ++ b) = ((parseS a).1 ++ (parseS b).1, 0, 0) ∧ parseS (a ++ [13, 10]) = ((parseS a).1, 0, 0) := by
  rw [parses_iff (by omega)] at ea eb
  have hE : ¬ EndsB .F a := fun h => by
    rcases h with ⟨h, _⟩ | h
    · cases h
    · exact hx h
  obtain ⟨n1, h1⟩ := joins a .F 0 [] b ea hE
  obtain ⟨n2, h2⟩ := joins a .F 0 [] [] ea hE
  rw [if_neg hn] at h1
  rw [if_pos rfl] at h2
  obtain ⟨s1, s2⟩ := shift b .F 0 n1 []
  obtain ⟨h0, x, hl⟩ := run_last a .F 0 [] ea
  have e1 : a ++ [13, 10] ++ b = a ++ 13 :: 10 :: b := by simp
  constructor
  · rw [e1, parse_ok (by simp; omega) (by rw [h1]; exact s2.1 eb), h1, parse_ok (by omega) ea, parse_ok (by omega) eb]
    simp only
    rw [recs_append _ _ (recs_closed hl).1, ← s1]
  · rw [parse_ok (by simp; omega) (by rw [h2]; exact ea), h2, parse_ok (by omega) ea]
end
theorem run_count : ∀ (l : St) (m : Md) (n : Nat) (t : St), (run m l n t).1.length ≤ l.length + 1 := by
  intro l
  induction l with
  | nil => intro m n t; cases m <;> simp [run]
  | cons c r ih =>
    intro m n t
    have hr := fun m t => ih m (n + 1) t
    rw [List.length_cons]
    rcases step_cases m c t with ⟨m', t', _, e⟩ | ⟨y, e⟩ | e | ⟨rfl, rfl⟩
    · rw [e]; have := hr m' t'; omega
    · rw [e]; have := hr .F []; simp only [List.length_cons]; omega
    · rw [e]; simp
    · by_cases hn : r = []
      · subst hn; rw [run_R10n]; simp
      · rw [run_R10 _ _ _ hn]; have := hr .F []; simp only [List.length_cons]; omega
theorem parse_len (s : St) : (parseS s).1.length ≤ 65537 := by
  unfold parseS
  split
  · simp
  · split
    · simp
    · have h1 := run_count s .F 0 []
      have h2 := recs_len (run .F s 0 []).1
      simp only
      omega
theorem tot_bd {s : St} (h : s.length ≤ 65536) (hr : (run .F s 0 []).2 < 0) : tot (refS s).1 ≤ 65537 := by
  rw [ref_ok hr]
  have h1 := run_count s .F 0 []
  have h2 := nums_le (run .F s 0 []).1
  have h3 := recs_nums (run .F s 0 []).1
  simp only
  omega
theorem first_behind0 {s : St} (h : s.length ≤ 30000) (he : (parseS s).2.2 = 2) (hn : (parseS s).2.1 < s.length) : spoS (s.take ((parseS s).2.1 + 1).toNat) (parseS s).2.1 = true := by
  have := first_behind [] h (by simp) he hn
  rwa [List.append_nil] at this
theorem joins_law {a b : St} (ha : a.length ≤ 30000) (hb : b.length ≤ 30000) (hn : ¬ (b.length : Int) = 0) (ea : (parseS a).2.2 = 0) (eb : (parseS b).2.2 = 0) (hx : ¬ (a.length : Int) > 1 ∨ ¬ a.drop ((a.length : Int) - 2).toNat = [13, 10]) :
    parseS (a ++ [13, 10] ++ b) = ((parseS a).1 ++ (parseS b).1, 0, 0) ∧ parseS (a ++ [13, 10]) = ((parseS a).1, 0, 0) := by
  refine joins_all ha hb ea eb (fun h => hn (by rw [h]; rfl)) ?_
  rintro ⟨l0, rfl⟩
  rcases hx with hx | hx
  · simp at hx; omega
  · refine hx ?_
    have : (((l0 ++ [13, 10] : St).length : Int) - 2).toNat = l0.length := by rw [List.length_append]; simp only [List.length_cons, List.length_nil]; omega
    rw [this]
    simp
end Go.Proofs.YtcjaplaifmhajaaDoorG
