/- CSV: what the functions compute, in plain Lean. -/
import Derived.Test.YtcjaplaifmhajaaDoorS3
set_option linter.all false
namespace Go.Proofs.YtcjaplaifmhajaaDoorG
open Go
/-- Where in a record the reading is: at a field's begin, in a bare field, in a quoted one, behind a quote in one, behind CR. -/
inductive Md where
  | F | B | Q | P | R
  deriving DecidableEq, Inhabited
abbrev Tells := List (St × Bool)
/-- The reading of a text from a place on: the fields, each with whether its record ends; and where the text is spoilt, or -1. -/
def run : Md → St → Nat → St → Tells × Int
  | .F, [], _, _ => ([([], true)], -1)
  | .F, c :: r, at_, _ =>
    if c = 34 then run .Q r (at_ + 1) []
    else if c = 44 then (([], false) :: (run .F r (at_ + 1) []).1, (run .F r (at_ + 1) []).2)
    else if c = 13 then run .R r (at_ + 1) []
    else if c = 10 then ([], at_)
    else run .B r (at_ + 1) [c]
  | .B, [], _, t => ([(t, true)], -1)
  | .B, c :: r, at_, t =>
    if c = 44 then ((t, false) :: (run .F r (at_ + 1) []).1, (run .F r (at_ + 1) []).2)
    else if c = 13 then run .R r (at_ + 1) t
    else if c = 10 ∨ c = 34 then ([], at_)
    else run .B r (at_ + 1) (t ++ [c])
  | .Q, [], at_, _ => ([], at_)
  | .Q, c :: r, at_, t => if c = 34 then run .P r (at_ + 1) t else run .Q r (at_ + 1) (t ++ [c])
  | .P, [], _, t => ([(t, true)], -1)
  | .P, c :: r, at_, t =>
    if c = 34 then run .Q r (at_ + 1) (t ++ [34])
    else if c = 44 then ((t, false) :: (run .F r (at_ + 1) []).1, (run .F r (at_ + 1) []).2)
    else if c = 13 then run .R r (at_ + 1) t
    else ([], at_)
  | .R, [], at_, _ => ([], at_)
  | .R, c :: r, at_, t =>
    if c = 10 then (match r with
      | [] => ([(t, true)], -1)
      | _ :: _ => ((t, true) :: (run .F r (at_ + 1) []).1, (run .F r (at_ + 1) []).2))
    else ([], at_)
theorem drop_at {α : Type} (l : List α) (n : Nat) (d : α) (h : n < l.length) : l.drop n = l.getD n d :: l.drop (n + 1) := by
  rw [List.drop_eq_getElem_cons h]
  simp [List.getD, h]
theorem drop_end {α : Type} {l : List α} {n : Nat} (h : l.length ≤ n) : l.drop n = [] := List.drop_of_length_le h
theorem u8i {c : UInt8} {k : Nat} (hk : k < 256) : ((c.toNat : Int) = (k : Int)) ↔ c = UInt8.ofNat k := by
  constructor
  · intro h
    have h1 : c.toNat = k := by omega
    apply UInt8.toNat_inj.1
    rw [h1]
    simp [Nat.mod_eq_of_lt hk]
  · intro h
    subst h
    simp [Nat.mod_eq_of_lt hk]
theorem u34 {c : UInt8} : ((c.toNat : Int) = 34) ↔ c = 34 := u8i (k := 34) (by decide)
theorem u44 {c : UInt8} : ((c.toNat : Int) = 44) ↔ c = 44 := u8i (k := 44) (by decide)
theorem u13 {c : UInt8} : ((c.toNat : Int) = 13) ↔ c = 13 := u8i (k := 13) (by decide)
theorem u10 {c : UInt8} : ((c.toNat : Int) = 10) ↔ c = 10 := u8i (k := 10) (by decide)
/-- What is still to come, in a state of the reading: together with what was told it is the whole. -/
def Left (s : St) (m : Md) (n : Nat) (t : St) (h : Tells) : Prop := (h ++ (run m (s.drop n) n t).1, (run m (s.drop n) n t).2) = run .F s 0 []
section
variable {s : St} {n : Nat} {t : St} {h : Tells}
theorem Left.F_quote (hl : Left s .F n t h) (hn : n < s.length) (hc : s.getD n 0 = 34) : Left s .Q (n + 1) [] h := by
  unfold Left at *
  rw [drop_at s n 0 hn, hc] at hl
  simpa [run] using hl
theorem Left.F_bare (hl : Left s .F n t h) (hc : n < s.length → ¬ s.getD n 0 = 34) : Left s .B n [] h := by
  unfold Left at *
  rcases Nat.lt_or_ge n s.length with hn | hn
  · rw [drop_at s n 0 hn] at *
    rw [← hl]
    have h1 := hc hn
    simp only [run]
    rw [if_neg h1]
    by_cases h2 : s.getD n 0 = 44
    · simp only [h2, if_true]
    · by_cases h3 : s.getD n 0 = 13
      · simp only [h3]; rfl
      · by_cases h4 : s.getD n 0 = 10
        · simp only [h4]; rfl
        · simp only [h1, h2, h3, h4, if_false, or_self, List.nil_append]
  · rw [drop_end hn] at *
    rw [← hl]
    rfl
theorem Left.B_end (hl : Left s .B n t h) (hn : s.length ≤ n) : (h ++ [(t, true)], (-1 : Int)) = run .F s 0 [] := by
  unfold Left at *
  rw [drop_end hn] at hl
  exact hl
theorem Left.B_P (hl : Left s .B n t h) (hn : n < s.length) (hc : s.getD n 0 = 44 ∨ s.getD n 0 = 13) : Left s .P n t h := by
  unfold Left at *
  rw [drop_at s n 0 hn] at *
  rw [← hl]
  rcases hc with hc | hc <;> (rw [hc]; rfl)
theorem Left.B_bad (hl : Left s .B n t h) (hn : n < s.length) (hc : s.getD n 0 = 10 ∨ s.getD n 0 = 34) : (h, (n : Int)) = run .F s 0 [] := by
  unfold Left at *
  rw [drop_at s n 0 hn] at *
  rw [← hl]
  rcases hc with hc | hc <;> (rw [hc]; simp [run])
theorem Left.B_next (hl : Left s .B n t h) (hn : n < s.length) (h1 : ¬ s.getD n 0 = 44) (h2 : ¬ s.getD n 0 = 13) (h3 : ¬ s.getD n 0 = 10) (h4 : ¬ s.getD n 0 = 34) : Left s .B (n + 1) (t ++ [s.getD n 0]) h := by
  unfold Left at *
  rw [drop_at s n 0 hn] at hl
  rw [← hl]
  simp only [run, h1, h2, h3, h4, if_false, or_self]
theorem Left.Q_end (hl : Left s .Q n t h) (hn : s.length ≤ n) : (h, (n : Int)) = run .F s 0 [] := by
  unfold Left at *
  rw [drop_end hn] at hl
  rw [← hl]
  simp [run]
theorem Left.Q_next (hl : Left s .Q n t h) (hn : n < s.length) (h1 : ¬ s.getD n 0 = 34) : Left s .Q (n + 1) (t ++ [s.getD n 0]) h := by
  unfold Left at *
  rw [drop_at s n 0 hn] at hl
  rw [← hl]
  simp only [run, h1, if_false]
theorem Left.Q_quote (hl : Left s .Q n t h) (hn : n < s.length) (h1 : s.getD n 0 = 34) : Left s .P (n + 1) t h := by
  unfold Left at *
  rw [drop_at s n 0 hn] at hl
  rw [← hl]
  simp only [run, h1, if_true]
theorem Left.P_quote (hl : Left s .P n t h) (hn : n < s.length) (h1 : s.getD n 0 = 34) : Left s .Q (n + 1) (t ++ [34]) h := by
  unfold Left at *
  rw [drop_at s n 0 hn] at hl
  rw [← hl]
  simp only [run, h1, if_true]
theorem Left.P_end (hl : Left s .P n t h) (hn : s.length ≤ n) : (h ++ [(t, true)], (-1 : Int)) = run .F s 0 [] := by
  unfold Left at *
  rw [drop_end hn] at hl
  exact hl
theorem Left.P_comma (hl : Left s .P n t h) (hn : n < s.length) (h1 : s.getD n 0 = 44) : Left s .F (n + 1) [] (h ++ [(t, false)]) := by
  unfold Left at *
  rw [drop_at s n 0 hn, h1] at hl
  rw [← hl]
  simp [run]
theorem Left.P_bad (hl : Left s .P n t h) (hn : n < s.length) (h1 : ¬ s.getD n 0 = 34) (h2 : ¬ s.getD n 0 = 44) (h3 : ¬ s.getD n 0 = 13) : (h, (n : Int)) = run .F s 0 [] := by
  unfold Left at *
  rw [drop_at s n 0 hn] at hl
  rw [← hl]
  simp only [run, h1, h2, h3, if_false, List.append_nil]
theorem Left.P_cr (hl : Left s .P n t h) (hn : n < s.length) (h1 : s.getD n 0 = 13) : Left s .R (n + 1) t h := by
  unfold Left at *
  rw [drop_at s n 0 hn, h1] at hl
  rw [← hl]
  simp [run]
theorem Left.R_bad (hl : Left s .R n t h) (h1 : n < s.length → ¬ s.getD n 0 = 10) : (h, (n : Int)) = run .F s 0 [] := by
  unfold Left at *
  rcases Nat.lt_or_ge n s.length with hn | hn
  · rw [drop_at s n 0 hn] at hl
    rw [← hl]
    simp only [run, h1 hn, if_false, List.append_nil]
  · rw [drop_end hn] at hl
    rw [← hl]
    simp [run]
theorem Left.R_more (hl : Left s .R n t h) (hn : n + 1 < s.length) (h1 : s.getD n 0 = 10) : Left s .F (n + 1) [] (h ++ [(t, true)]) := by
  unfold Left at *
  rw [drop_at s n 0 (by omega), drop_at s (n + 1) 0 hn, h1] at hl
  rw [← hl, drop_at s (n + 1) 0 hn]
  simp [run]
theorem Left.R_end (hl : Left s .R n t h) (hn : n + 1 = s.length) (h1 : s.getD n 0 = 10) : (h ++ [(t, true)], (-1 : Int)) = run .F s 0 [] := by
  unfold Left at *
  rw [drop_at s n 0 (by omega), drop_end (show s.length ≤ n + 1 by omega), h1] at hl
  rw [← hl]
  simp [run]
end
theorem snoc_ind {α : Type} {P : List α → Prop} (h0 : P []) (hs : ∀ l x, P l → P (l ++ [x])) (l : List α) : P l := by
  have h : ∀ l : List α, P l.reverse := fun l => by
    induction l with
    | nil => exact h0
    | cons x l ih => rw [List.reverse_cons]; exact hs _ _ ih
  simpa using h l.reverse
/-! ### the records that were told -/
def recs : Tells → List (List St) × List St
  | h => h.foldl (fun p x => if x.2 then (p.1 ++ [p.2 ++ [x.1]], []) else (p.1, p.2 ++ [x.1])) ([], [])
def nums : Tells → Int × Int
  | h => h.foldl (fun p x => (if x.2 then p.1 + 1 else p.1, p.2 + 1)) (0, 0)
theorem recs_snoc (h : Tells) (x : St × Bool) : recs (h ++ [x]) = if x.2 then ((recs h).1 ++ [(recs h).2 ++ [x.1]], []) else ((recs h).1, (recs h).2 ++ [x.1]) := by simp [recs, List.foldl_append]
theorem nums_snoc (h : Tells) (x : St × Bool) : nums (h ++ [x]) = (if x.2 then (nums h).1 + 1 else (nums h).1, (nums h).2 + 1) := by simp [nums, List.foldl_append]
theorem recs_len (h : Tells) : (recs h).1.length ≤ h.length ∧ (recs h).2.length ≤ h.length := by
  refine snoc_ind (P := fun h => (recs h).1.length ≤ h.length ∧ (recs h).2.length ≤ h.length) (by simp [recs]) (fun h x ih => ?_) h
  rw [recs_snoc, List.length_append]
  split <;> simp <;> omega
theorem nums_le (h : Tells) : 0 ≤ (nums h).1 ∧ (nums h).1 ≤ h.length ∧ 0 ≤ (nums h).2 ∧ (nums h).2 ≤ h.length := by
  refine snoc_ind (P := fun h => 0 ≤ (nums h).1 ∧ (nums h).1 ≤ h.length ∧ 0 ≤ (nums h).2 ∧ (nums h).2 ≤ h.length) (by simp [nums]) (fun h x ih => ?_) h
  rw [nums_snoc, List.length_append]
  simp only
  split <;> simp <;> omega
/-- What Parse answers: the records, the place, the error's number. -/
def parseS (s : St) : List (List St) × Int × Int :=
  if (s.length : Int) > 65536 then ([], 0, 3) else if (run .F s 0 []).2 ≥ 0 then ([], (run .F s 0 []).2, 2) else ((recs (run .F s 0 []).1).1, 0, 0)
def countS (s : St) : Int × Int :=
  if (s.length : Int) > 65536 then (0, 0) else if (run .F s 0 []).2 ≥ 0 then (0, 0) else nums (run .F s 0 []).1
/-! ### the document's answer -/
def isBare (c : UInt8) : Bool := decide (¬ (c.toNat : Int) = 34 ∧ ¬ (c.toNat : Int) = 44 ∧ ¬ (c.toNat : Int) = 13 ∧ ¬ (c.toNat : Int) = 10)
def bareS : St → Nat → St → St × Nat
  | [], at_, t => (t, at_)
  | c :: r, at_, t => if isBare c then bareS r (at_ + 1) (t ++ [c]) else (t, at_)
def quotS : St → Nat → St → St × Int
  | [], at_, _ => ([], -(at_ : Int) - 1)
  | c :: r, at_, t => if ¬ c = 34 then quotS r (at_ + 1) (t ++ [c]) else match r with
    | [] => (t, (at_ : Int) + 1)
    | c' :: r' => if c' = 34 then quotS r' (at_ + 2) (t ++ [34]) else (t, (at_ : Int) + 1)
def fieldS (s : St) (n : Nat) : St × Int := if s.length ≤ n ∨ ¬ s.getD n 0 = 34 then ((bareS (s.drop n) n []).1, ((bareS (s.drop n) n []).2 : Int)) else quotS (s.drop (n + 1)) (n + 1) []
theorem take_one (l : St) (n : Nat) (h : n < l.length) : (l.drop n).take (n + 1 - n) = [l.getD n 0] := by
  rw [show n + 1 - n = 1 from by omega, drop_at l n 0 h]
  rfl
theorem bareS_next {s : St} {n : Nat} {t : St} (h : n < s.length) (hb : isBare (s.getD n 0) = true) : bareS (s.drop n) n t = bareS (s.drop (n + 1)) (n + 1) (t ++ [s.getD n 0]) := by
  rw [drop_at s n 0 h]
  show (if isBare (s.getD n 0) = true then _ else _) = _
  rw [if_pos hb]
theorem bareS_end {s : St} {n : Nat} {t : St} (h : n < s.length → isBare (s.getD n 0) = false) : bareS (s.drop n) n t = (t, n) := by
  rcases Nat.lt_or_ge n s.length with hn | hn
  · rw [drop_at s n 0 hn]
    show (if isBare (s.getD n 0) = true then _ else _) = _
    rw [if_neg (by rw [h hn]; decide)]
  · rw [drop_end hn]
    rfl
theorem quotS_end {s : St} {n : Nat} {t : St} (h : s.length ≤ n) : quotS (s.drop n) n t = ([], -(n : Int) - 1) := by
  rw [drop_end h]
  rfl
theorem quotS_next {s : St} {n : Nat} {t : St} (h : n < s.length) (hb : ¬ s.getD n 0 = 34) : quotS (s.drop n) n t = quotS (s.drop (n + 1)) (n + 1) (t ++ [s.getD n 0]) := by
  rw [drop_at s n 0 h]
  conv => lhs; unfold quotS
  simp only [hb, not_false_iff, if_true]
theorem quotS_two {s : St} {n : Nat} {t : St} (h : n + 1 < s.length) (hb : s.getD n 0 = 34) (hc : s.getD (n + 1) 0 = 34) : quotS (s.drop n) n t = quotS (s.drop (n + 2)) (n + 2) (t ++ [34]) := by
  rw [drop_at s n 0 (by omega), drop_at s (n + 1) 0 h, hb, hc]
  simp [quotS]
theorem quotS_out {s : St} {n : Nat} {t : St} (h : n < s.length) (hb : s.getD n 0 = 34) (hc : n + 1 < s.length → ¬ s.getD (n + 1) 0 = 34) : quotS (s.drop n) n t = (t, (n : Int) + 1) := by
  rw [drop_at s n 0 (by omega), hb]
  rcases Nat.lt_or_ge (n + 1) s.length with hn | hn
  · rw [drop_at s (n + 1) 0 hn]
    have := hc hn
    simp only [quotS, not_true, if_false]
    rw [if_neg this]
  · rw [drop_end hn]
    simp [quotS]
/-- Behind a field. -/
def Beh (s : St) (e : Nat) (t : St) (h : Tells) : Prop := (Left s .B e t h ∧ (e < s.length → isBare (s.getD e 0) = false)) ∨ (Left s .P e t h ∧ (e < s.length → ¬ s.getD e 0 = 34))
theorem isBare_not {c : UInt8} (h : isBare c = false) : c = 34 ∨ c = 44 ∨ c = 13 ∨ c = 10 := by
  unfold isBare at h
  rw [decide_eq_false_iff_not, u34, u44, u13, u10] at h
  by_cases h1 : c = 34
  · exact .inl h1
  · by_cases h2 : c = 44
    · exact .inr (.inl h2)
    · by_cases h3 : c = 13
      · exact .inr (.inr (.inl h3))
      · by_cases h4 : c = 10
        · exact .inr (.inr (.inr h4))
        · exact absurd ⟨h1, h2, h3, h4⟩ h
theorem isBare_yes {c : UInt8} (h : isBare c = true) : ¬ c = 34 ∧ ¬ c = 44 ∧ ¬ c = 13 ∧ ¬ c = 10 := by
  unfold isBare at h
  rw [decide_eq_true_iff, u34, u44, u13, u10] at h
  exact h
theorem bare_left {s : St} {h : Tells} : ∀ (k n : Nat) (t : St), s.length - n = k → n ≤ s.length → t.length ≤ n → Left s .B n t h → ∃ e t', bareS (s.drop n) n t = (t', e) ∧ n ≤ e ∧ e ≤ s.length ∧ t'.length ≤ e ∧ Beh s e t' h := by
  intro k
  induction k with
  | zero =>
    intro n t hk hn ht hl
    exact ⟨n, t, bareS_end (fun h => by omega), Nat.le_refl _, hn, ht, .inl ⟨hl, fun h => by omega⟩⟩
  | succ k ih =>
    intro n t hk hn ht hl
    cases hb : isBare (s.getD n 0) with
    | false => exact ⟨n, t, bareS_end (fun _ => hb), Nat.le_refl _, hn, ht, .inl ⟨hl, fun _ => hb⟩⟩
    | true =>
      obtain ⟨h1, h2, h3, h4⟩ := isBare_yes hb
      obtain ⟨e, t', h5, h6, h7, h8, h9⟩ := ih (n + 1) (t ++ [s.getD n 0]) (by omega) (by omega) (by simp; omega) (hl.B_next (by omega) h2 h3 h4 h1)
      exact ⟨e, t', (bareS_next (by omega) hb).trans h5, by omega, h7, h8, h9⟩
theorem quot_left {s : St} {h : Tells} : ∀ (k n : Nat) (t : St), s.length - n ≤ k → n ≤ s.length → t.length ≤ n → Left s .Q n t h → ((quotS (s.drop n) n t).2 < 0 → (h, -(quotS (s.drop n) n t).2 - 1) = run .F s 0 []) ∧
    (0 ≤ (quotS (s.drop n) n t).2 → ∃ e : Nat, (quotS (s.drop n) n t).2 = e ∧ n ≤ e ∧ e ≤ s.length ∧ (quotS (s.drop n) n t).1.length ≤ e ∧ Beh s e (quotS (s.drop n) n t).1 h) := by
  intro k
  induction k using Nat.strongRecOn with
  | _ k ih =>
    intro n t hk hn ht hl
    rcases Nat.lt_or_ge n s.length with hlt | hge
    · by_cases h1 : s.getD n 0 = 34
      · by_cases h2 : n + 1 < s.length ∧ s.getD (n + 1) 0 = 34
        · rw [quotS_two h2.1 h1 h2.2]
          obtain ⟨g1, g2⟩ := ih (k - 2) (by omega) (n + 2) (t ++ [34]) (by omega) (by omega) (by simp; omega) ((hl.Q_quote hlt h1).P_quote h2.1 h2.2)
          exact ⟨g1, fun h => by obtain ⟨e, a, b, c⟩ := g2 h; exact ⟨e, a, by omega, c⟩⟩
        · have h3 : n + 1 < s.length → ¬ s.getD (n + 1) 0 = 34 := fun h4 h5 => h2 ⟨h4, h5⟩
          rw [quotS_out hlt h1 h3]
          exact ⟨fun h => by omega, fun _ => ⟨n + 1, by simp, by omega, by omega, by simp; omega, .inr ⟨hl.Q_quote hlt h1, h3⟩⟩⟩
      · rw [quotS_next hlt h1]
        obtain ⟨g1, g2⟩ := ih (k - 1) (by omega) (n + 1) (t ++ [s.getD n 0]) (by omega) (by omega) (by simp; omega) (hl.Q_next hlt h1)
        exact ⟨g1, fun h => by obtain ⟨e, a, b, c⟩ := g2 h; exact ⟨e, a, by omega, c⟩⟩
    · rw [quotS_end hge]
      have := hl.Q_end hge
      refine ⟨fun _ => ?_, fun h => by simp only at h; omega⟩
      rw [← this]
      simp only [Prod.mk.injEq, true_and]
      omega
theorem field_left {s : St} {n : Nat} {h : Tells} (hl : Left s .F n [] h) (hn : n ≤ s.length) : ((fieldS s n).2 < 0 → (h, -(fieldS s n).2 - 1) = run .F s 0 []) ∧
    (0 ≤ (fieldS s n).2 → ∃ e : Nat, (fieldS s n).2 = e ∧ n ≤ e ∧ e ≤ s.length ∧ (fieldS s n).1.length ≤ e ∧ Beh s e (fieldS s n).1 h) := by
  unfold fieldS
  split
  · rename_i hc
    have h1 : n < s.length → ¬ s.getD n 0 = 34 := fun hlt => hc.resolve_left (by omega)
    obtain ⟨e, t', h5, h6, h7, h8, h9⟩ := bare_left (s.length - n) n [] rfl hn (by simp) (hl.F_bare h1)
    rw [h5]
    exact ⟨fun h => by simp only at h; omega, fun _ => ⟨e, rfl, h6, h7, h8, h9⟩⟩
  · rename_i hc
    rw [not_or, Decidable.not_not] at hc
    obtain ⟨g1, g2⟩ := quot_left (s.length - (n + 1)) (n + 1) [] (Nat.le_refl _) (by omega) (by simp) (hl.F_quote (by omega) hc.2)
    exact ⟨g1, fun h => by obtain ⟨e, a, b, c⟩ := g2 h; exact ⟨e, a, by omega, c⟩⟩
section
variable {s : St} {e : Nat} {t : St} {h : Tells}
theorem Beh.fin (hb : Beh s e t h) (he : s.length ≤ e) : (h ++ [(t, true)], (-1 : Int)) = run .F s 0 [] := by
  rcases hb with ⟨hl, _⟩ | ⟨hl, _⟩
  · exact hl.B_end he
  · exact hl.P_end he
theorem Beh.comma (hb : Beh s e t h) (he : e < s.length) (hc : s.getD e 0 = 44) : Left s .F (e + 1) [] (h ++ [(t, false)]) := by
  rcases hb with ⟨hl, _⟩ | ⟨hl, _⟩
  · exact (hl.B_P he (.inl hc)).P_comma he hc
  · exact hl.P_comma he hc
theorem Beh.cr (hb : Beh s e t h) (he : e < s.length) (hc : s.getD e 0 = 13) : Left s .R (e + 1) t h := by
  rcases hb with ⟨hl, _⟩ | ⟨hl, _⟩
  · exact (hl.B_P he (.inr hc)).P_cr he hc
  · exact hl.P_cr he hc
theorem Beh.bad (hb : Beh s e t h) (he : e < s.length) (h1 : ¬ s.getD e 0 = 44) (h2 : ¬ s.getD e 0 = 13) : (h, (e : Int)) = run .F s 0 [] := by
  rcases hb with ⟨hl, hn⟩ | ⟨hl, hn⟩
  · rcases isBare_not (hn he) with h3 | h3 | h3 | h3
    · exact hl.B_bad he (.inr h3)
    · exact absurd h3 h1
    · exact absurd h3 h2
    · exact hl.B_bad he (.inl h3)
  · exact hl.P_bad he (hn he) h1 h2
end
/-- What the document's Parse answers. -/
def refS (s : St) : List (List St) × Int := if (run .F s 0 []).2 ≥ 0 then ([], (run .F s 0 []).2) else ((recs (run .F s 0 []).1).1, -1)
theorem refS_bad {s : St} {h : Tells} {n : Int} (hr : (h, n) = run .F s 0 []) (hn : 0 ≤ n) : refS s = ([], n) := by
  unfold refS
  rw [← hr, if_pos hn]
theorem refS_ok {s : St} {h : Tells} (hr : (h, (-1 : Int)) = run .F s 0 []) : refS s = ((recs h).1, -1) := by
  unfold refS
  rw [← hr]
  simp
theorem field_bare {s : St} {m n : Nat} {t : St} (hc : s.length ≤ m ∨ ¬ s.getD m 0 = 34) (hi : bareS (s.drop n) n t = bareS (s.drop m) m []) (he : n < s.length → isBare (s.getD n 0) = false) : (t, (n : Int)) = fieldS s m := by
  unfold fieldS
  rw [if_pos hc, ← hi, bareS_end he]
theorem field_quot {s : St} {m n : Nat} {t : St} {r : St × Int} (hm : m < s.length) (hc : s.getD m 0 = 34) (hi : quotS (s.drop n) n t = quotS (s.drop (m + 1)) (m + 1) []) (hr : quotS (s.drop n) n t = r) : r = fieldS s m := by
  unfold fieldS
  rw [if_neg (by rw [not_or, Decidable.not_not]; exact ⟨by omega, hc⟩), ← hi, hr]
theorem run_bd : ∀ (k : Nat) (l : St) (m : Md) (n : Nat) (t : St), l.length ≤ k → -1 ≤ (run m l n t).2 ∧ (run m l n t).2 ≤ n + l.length := by
  intro k
  induction k with
  | zero =>
    intro l m n t hl
    obtain rfl : l = [] := List.length_eq_zero_iff.1 (by omega)
    cases m <;> simp [run] <;> omega
  | succ k ih =>
    intro l m n t hl
    cases l with
    | nil => cases m <;> simp [run] <;> omega
    | cons c r =>
      have hr : ∀ m t, -1 ≤ (run m r (n + 1) t).2 ∧ (run m r (n + 1) t).2 ≤ (n : Int) + (r.length + 1) := fun m t => by
        have := ih r m (n + 1) t (by simp at hl; omega)
        omega
      have h0 : (-1 : Int) ≤ n ∧ (n : Int) ≤ n + (r.length + 1) := by omega
      have e : ((c :: r).length : Int) = r.length + 1 := by simp
      rw [e]
      cases m <;> unfold run
      · split
        · exact hr _ _
        · split
          · exact hr _ _
          · split
            · exact hr _ _
            · split
              · exact h0
              · exact hr _ _
      · split
        · exact hr _ _
        · split
          · exact hr _ _
          · split
            · exact h0
            · exact hr _ _
      · split
        · exact hr _ _
        · exact hr _ _
      · split
        · exact hr _ _
        · split
          · exact hr _ _
          · split
            · exact hr _ _
            · exact h0
      · split
        · split
          · simp
            omega
          · exact hr _ _
        · exact h0
theorem run_le (s : St) : -1 ≤ (run .F s 0 []).2 ∧ (run .F s 0 []).2 ≤ s.length := by
  have := run_bd s.length s .F 0 [] (Nat.le_refl _)
  omega
theorem field_bd {s : St} {n : Nat} {h : Tells} (hl : Left s .F n [] h) (hn : n ≤ s.length) : -(s.length : Int) - 1 ≤ (fieldS s n).2 ∧ (fieldS s n).2 ≤ s.length := by
  obtain ⟨h1, h2⟩ := field_left hl hn
  have h3 := run_le s
  rcases Int.lt_or_le (fieldS s n).2 0 with h4 | h4
  · have h5 := h1 h4
    rw [← h5] at h3
    simp only at h3
    omega
  · obtain ⟨e, h5, _, h6, _⟩ := h2 h4
    omega
end Go.Proofs.YtcjaplaifmhajaaDoorG
