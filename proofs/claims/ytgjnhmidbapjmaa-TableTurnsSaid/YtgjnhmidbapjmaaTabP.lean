/- Tables: what the laws say, in plain Lean. -/
import Derived.Test.YtgjnhmidbapjmaaTabS
set_option linter.all false
namespace Go.Proofs.YtgjnhmidbapjmaaG
open Go
section
variable {m n : Int} {f g : Int → Int → St}
theorem laidS_congr (h : ∀ a b : Int, 0 ≤ a → a < m → 0 ≤ b → b < n → f a b = g a b) : laidS m n f = laidS m n g := by
  unfold laidS
  apply List.map_congr_left
  intro r hr
  apply List.map_congr_left
  intro c hc
  rw [List.mem_range] at hr hc
  exact h r c (by omega) (by omega) (by omega) (by omega)
theorem fldS_laid {a b : Int} (h0 : 0 ≤ a) (h1 : a < m) (h2 : 0 ≤ b) (h3 : b < n) : fldS (laidS m n f) a b = f a b := by
  unfold fldS
  rw [laidS_getD (i := a.toNat) (by omega), map_getD _ _ (by omega)]
  congr 1 <;> omega
theorem fldS_out {a b : Int} (h0 : 0 ≤ a) (h2 : 0 ≤ b) (h : m ≤ a ∨ n ≤ b) : fldS (laidS m n f) a b = [] := by
  rcases h with h | h
  · exact (fldS_a (by rw [laidS_len]; omega)).symm
  · by_cases ha : m ≤ a
    · exact (fldS_a (by rw [laidS_len]; omega)).symm
    · refine (fldS_b ?_).symm
      rw [laidS_getD (i := a.toNat) (by omega)]
      simp
      omega
theorem width_laid (hm : 1 ≤ m) (hn : 0 ≤ n) : widthS (laidS m n f) = n := by
  refine width_all (by rw [laidS_len]; omega) fun r hr => ?_
  rw [laidS_row hr]
  omega
theorem len_laid (hm : 0 ≤ m) : ((laidS m n f).length : Int) = m := by rw [laidS_len]; omega
theorem fill_laid (hm : 1 ≤ m) (hn : 1 ≤ n) : fillS (laidS m n f) = laidS m n f := by
  unfold fillS
  rw [width_laid hm (by omega), len_laid (by omega), show max m 1 = m from by omega, show max n 1 = n from by omega]
  exact laidS_congr fun a b h0 h1 h2 h3 => fldS_laid h0 h1 h2 h3
theorem turn_laid (hm : 1 ≤ m) (hn : 1 ≤ n) : turnS (laidS m n f) = laidS n m (fun a b => f b a) := by
  unfold turnS
  rw [width_laid hm (by omega), len_laid (by omega), show max m 1 = m from by omega, show max n 1 = n from by omega]
  exact laidS_congr fun a b h0 h1 h2 h3 => fldS_laid h2 h3 h0 h1
theorem says_iff {row cols : Int} : saysS f row cols = true ↔ ∃ c : Int, 0 ≤ c ∧ c < cols ∧ ¬ f row c = [] := by
  unfold saysS
  rw [List.any_eq_true]
  constructor
  · rintro ⟨c, h1, h2⟩
    rw [List.mem_range] at h1
    exact ⟨c, by omega, by omega, by simpa using h2⟩
  · rintro ⟨c, h1, h2, h3⟩
    refine ⟨c.toNat, List.mem_range.2 (by omega), ?_⟩
    rw [show ((c.toNat : Nat) : Int) = c from by omega]
    simpa using h3
/-- What the cut is. -/
structure CutAt (f : Int → Int → St) (cols : Int) (n : Nat) (r : Int) : Prop where
  lo : 1 ≤ r
  hi : r ≤ n
  says : r = 1 ∨ ∃ c : Int, 0 ≤ c ∧ c < cols ∧ ¬ f (r - 1) c = []
  not : ∀ i c : Int, r ≤ i → i < n → 0 ≤ c → c < cols → f i c = []
theorem cut_at (f : Int → Int → St) (cols : Int) : ∀ n : Nat, 1 ≤ n → CutAt f cols n (cutS f cols n) := by
  intro n
  induction n with
  | zero => intro h; omega
  | succ k ih =>
    intro _
    by_cases hk : k = 0
    · subst hk
      rw [Nat.zero_add, cutS_one]
      exact ⟨by decide, by decide, .inl rfl, fun i c h1 h2 _ _ => by omega⟩
    · cases hs : saysS f (((k + 1 : Nat) : Int) - 1) cols with
      | true =>
        rw [cutS_says (by omega) hs]
        rw [says_iff] at hs
        exact ⟨by omega, by omega, .inr hs, fun i c h1 h2 _ _ => by omega⟩
      | false =>
        rw [cutS_not (by omega) hs, Nat.add_sub_cancel]
        obtain ⟨h1, h2, h3, h4⟩ := ih (by omega)
        refine ⟨h1, by omega, h3, fun i c h5 h6 h7 h8 => ?_⟩
        by_cases hi : i < k
        · exact h4 i c h5 hi h7 h8
        · have hi' : i = (k : Int) := by omega
          by_cases he : f i c = []
          · exact he
          · exfalso
            have : saysS f (((k + 1 : Nat) : Int) - 1) cols = true := says_iff.2 ⟨c, h7, h8, by rw [show ((k + 1 : Nat) : Int) - 1 = i from by omega]; exact he⟩
            rw [this] at hs
            cases hs
theorem CutAt.uniq {cols : Int} {n : Nat} {r s : Int} (h : CutAt f cols n r) (k : CutAt f cols n s) : r = s := by
  have key : ∀ {r s : Int}, CutAt f cols n r → CutAt f cols n s → ¬ r < s := fun {r s} h k hlt => by
    rcases k.says with h1 | ⟨c, h1, h2, h3⟩
    · have := h.lo; omega
    · exact h3 (h.not (s - 1) c (by omega) (by have := k.hi; omega) h1 h2)
  have := key h k
  have := key k h
  omega
end
/-- The two cuts of records. -/
theorem trim_cuts (l : Rows) : CutAt (fldS l) (max (widthS l) 1) (max (l.length : Int) 1).toNat (trimR l) ∧ CutAt (fun a b => fldS l b a) (trimR l) (max (widthS l) 1).toNat (trimC l) :=
  ⟨cut_at _ _ _ (by omega), cut_at _ _ _ (by omega)⟩
theorem trim_of (l : Rows) {R C : Int} (h1 : CutAt (fldS l) (max (widthS l) 1) (max (l.length : Int) 1).toNat R) (h2 : CutAt (fun a b => fldS l b a) R (max (widthS l) 1).toNat C) : trimR l = R ∧ trimC l = C := by
  obtain ⟨k1, k2⟩ := trim_cuts l
  have e1 := k1.uniq h1
  rw [e1] at k2
  exact ⟨e1, k2.uniq h2⟩
theorem fld_of_fill (l : Rows) {a b : Int} (h0 : 0 ≤ a) (h1 : 0 ≤ b) : fldS (fillS l) a b = fldS l a b := by
  unfold fillS
  by_cases ha : a < max (l.length : Int) 1
  · by_cases hb : b < max (widthS l) 1
    · exact fldS_laid h0 ha h1 hb
    · rw [fldS_out h0 h1 (.inr (by omega))]
      by_cases hl : a < l.length
      · refine fldS_b ?_
        have := widthS_ge l _ (getD_mem (n := a.toNat) [] (by omega))
        omega
      · exact fldS_a (by omega)
  · rw [fldS_out h0 h1 (.inl (by omega))]
    exact fldS_a (by omega)
theorem fill_w (l : Rows) : widthS (fillS l) = max (widthS l) 1 ∧ ((fillS l).length : Int) = max (l.length : Int) 1 := ⟨width_laid (by omega) (by omega), fill_len l⟩
theorem trim_w (l : Rows) : widthS (trimS l) = trimC l ∧ ((trimS l).length : Int) = trimR l := by
  obtain ⟨k1, k2⟩ := trim_cuts l
  exact ⟨width_laid k1.lo (by have := k2.lo; omega), len_laid (by have := k1.lo; omega)⟩
theorem turn_w (l : Rows) : widthS (turnS l) = max (l.length : Int) 1 ∧ ((turnS l).length : Int) = max (widthS l) 1 := ⟨width_laid (by omega) (by omega), len_laid (by omega)⟩
theorem fill_fill (l : Rows) : fillS (fillS l) = fillS l := fill_laid (by omega) (by omega)
theorem trim_fill (l : Rows) : trimS (fillS l) = trimS l := by
  obtain ⟨k1, k2⟩ := trim_cuts l
  obtain ⟨w1, w2⟩ := fill_w l
  have h1 : CutAt (fldS (fillS l)) (max (widthS (fillS l)) 1) (max ((fillS l).length : Int) 1).toNat (trimR l) := by
    rw [w1, w2]
    refine ⟨k1.lo, by have := k1.hi; omega, k1.says.imp id ?_, fun i c h3 h4 h5 h6 => ?_⟩
    · rintro ⟨c, h3, h4, h5⟩
      exact ⟨c, h3, by omega, by rw [fld_of_fill l (by have := k1.lo; omega) h3]; exact h5⟩
    · rw [fld_of_fill l (by have := k1.lo; omega) h5]
      exact k1.not i c h3 (by omega) h5 (by omega)
  have h2 : CutAt (fun a b => fldS (fillS l) b a) (trimR l) (max (widthS (fillS l)) 1).toNat (trimC l) := by
    rw [w1]
    refine ⟨k2.lo, by have := k2.hi; omega, k2.says.imp id ?_, fun i c h3 h4 h5 h6 => ?_⟩
    · rintro ⟨c, h3, h4, h5⟩
      exact ⟨c, h3, h4, by rw [fld_of_fill l h3 (by have := k2.lo; omega)]; exact h5⟩
    · rw [fld_of_fill l h5 (by have := k2.lo; omega)]
      exact k2.not i c h3 (by omega) h5 h6
  obtain ⟨e1, e2⟩ := trim_of (fillS l) h1 h2
  unfold trimS
  rw [e1, e2]
  exact laidS_congr fun a b h0 _ h2 _ => fld_of_fill l h0 h2
/-- What stands in the last row, and in the last column, of what is trimmed. -/
theorem trim_says (l : Rows) : (trimR l = 1 ∨ ∃ c : Int, 0 ≤ c ∧ c < trimC l ∧ ¬ fldS l (trimR l - 1) c = []) ∧ (trimC l = 1 ∨ ∃ r : Int, 0 ≤ r ∧ r < trimR l ∧ ¬ fldS l r (trimC l - 1) = []) := by
  obtain ⟨k1, k2⟩ := trim_cuts l
  refine ⟨k1.says.imp id ?_, k2.says⟩
  rintro ⟨c, h1, h2, h3⟩
  refine ⟨c, h1, ?_, h3⟩
  by_cases hc : c < trimC l
  · exact hc
  · exact absurd (k2.not c (trimR l - 1) (by omega) (by omega) (by have := k1.lo; omega) (by omega)) h3
theorem trim_trim (l : Rows) : trimS (trimS l) = trimS l := by
  obtain ⟨k1, k2⟩ := trim_cuts l
  obtain ⟨w1, w2⟩ := trim_w l
  obtain ⟨s1, s2⟩ := trim_says l
  have hr := k1.lo
  have hc := k2.lo
  have h1 : CutAt (fldS (trimS l)) (max (widthS (trimS l)) 1) (max ((trimS l).length : Int) 1).toNat (trimR l) := by
    rw [w1, w2]
    refine ⟨k1.lo, by omega, s1.imp id ?_, fun i c h3 h4 h5 h6 => by omega⟩
    rintro ⟨c, h3, h4, h5⟩
    exact ⟨c, h3, by omega, by unfold trimS; rw [fldS_laid (by omega) (by omega) h3 h4]; exact h5⟩
  have h2 : CutAt (fun a b => fldS (trimS l) b a) (trimR l) (max (widthS (trimS l)) 1).toNat (trimC l) := by
    rw [w1]
    refine ⟨k2.lo, by omega, s2.imp id ?_, fun i c h3 h4 h5 h6 => by omega⟩
    rintro ⟨c, h3, h4, h5⟩
    exact ⟨c, h3, h4, by unfold trimS; rw [fldS_laid h3 h4 (by omega) (by omega)]; exact h5⟩
  obtain ⟨e1, e2⟩ := trim_of (trimS l) h1 h2
  have e3 : trimS (trimS l) = laidS (trimR (trimS l)) (trimC (trimS l)) (fldS (trimS l)) := rfl
  rw [e3, e1, e2]
  exact laidS_congr fun a b h0 h1 h2 h3 => fldS_laid h0 h1 h2 h3
theorem turn_turn (l : Rows) : turnS (turnS l) = fillS l := turn_laid (by omega) (by omega)
theorem chk_laid {m n : Int} {f : Int → Int → St} (hm : 1 ≤ m) (hn : 1 ≤ n) : ¬ checkS (laidS m n f) = 1 := by
  rw [chk_eq (n := n) (by rw [laidS_len]; omega) (by omega) (fun r hr => by rw [laidS_row hr]; omega)]
  split
  · decide
  · split
    · decide
    · split <;> decide
theorem chk_fill (l : Rows) : ¬ checkS (fillS l) = 1 := chk_laid (by omega) (by omega)
theorem chk_turn (l : Rows) : ¬ checkS (turnS l) = 1 := chk_laid (by omega) (by omega)
theorem chk_trim (l : Rows) : ¬ checkS (trimS l) = 1 := chk_laid (trim_cuts l).1.lo (trim_cuts l).2.lo
theorem fill_same {l : Rows} (h : ¬ checkS l = 1) : fillS l = l := by
  have hw : ¬ widthS l = 0 := fun hw => h (by unfold checkS; rw [if_pos hw])
  have he : ∀ r ∈ l, (r.length : Int) = widthS l := fun r hr => by
    by_cases h1 : (r.length : Int) = widthS l
    · exact h1
    · exact absurd (chk_ne hr h1) h
  rw [← rfill_eq]
  unfold rfillS
  split
  · rename_i hn
    subst hn
    exact absurd rfl hw
  · unfold padS
    have : ∀ r ∈ l, (fun r : List St => r ++ List.replicate ((max (widthS l) 1) - (r.length : Int)).toNat ([] : St)) r = r := fun r hr => by
      have h1 := he r hr
      have h2 := widthS_nonneg l
      have h3 : (max (widthS l) 1 - (r.length : Int)).toNat = 0 := by omega
      simp only [h3, List.replicate_zero, List.append_nil]
    exact (List.map_congr_left this).trans (List.map_id l)
/-! ### the document's answers -/
/-- What has been seen of texts so far: one more than the greatest row and column. -/
structure Seen (P : Int → Int → Prop) (s : Int × Int) : Prop where
  r1 : 1 ≤ s.1
  c1 : 1 ≤ s.2
  r : s.1 = 1 ∨ ∃ a b : Int, P a b ∧ s.1 = a + 1
  c : s.2 = 1 ∨ ∃ a b : Int, P a b ∧ s.2 = b + 1
  all : ∀ a b : Int, P a b → a < s.1 ∧ b < s.2
theorem Seen.add {P : Int → Int → Prop} {s : Int × Int} (h : Seen P s) (i k : Int) (hi : 0 ≤ i) (hk : 0 ≤ k) : Seen (fun a b => P a b ∨ (a = i ∧ b = k)) (max s.1 (i + 1), max s.2 (k + 1)) := by
  obtain ⟨h1, h2, h3, h4, h5⟩ := h
  refine ⟨by simp only; omega, by simp only; omega, ?_, ?_, ?_⟩
  · by_cases hc : s.1 ≤ i + 1
    · right; exact ⟨i, k, .inr ⟨rfl, rfl⟩, by simp only; omega⟩
    · rcases h3 with h3 | ⟨a, b, h3, h6⟩
      · left; simp only; omega
      · right; exact ⟨a, b, .inl h3, by simp only; omega⟩
  · by_cases hc : s.2 ≤ k + 1
    · right; exact ⟨i, k, .inr ⟨rfl, rfl⟩, by simp only; omega⟩
    · rcases h4 with h4 | ⟨a, b, h4, h6⟩
      · left; simp only; omega
      · right; exact ⟨a, b, .inl h4, by simp only; omega⟩
  · rintro a b (h6 | ⟨rfl, rfl⟩)
    · have := h5 a b h6
      simp only
      omega
    · simp only
      omega
theorem Seen.of {P Q : Int → Int → Prop} {s : Int × Int} (h : Seen P s) (hPQ : ∀ a b, P a b ↔ Q a b) : Seen Q s := by
  have : P = Q := funext fun a => funext fun b => propext (hPQ a b)
  rwa [← this]
theorem seen_row (i : Nat) : ∀ (row : List St) (k : Nat) (s : Int × Int) (P : Int → Int → Prop), Seen P s → Seen (fun a b => P a b ∨ (a = (i : Int) ∧ ∃ j : Nat, b = ((k + j : Nat) : Int) ∧ ∃ t, row[j]? = some t ∧ ¬ t = [])) (tRow i row k s) := by
  intro row
  induction row with
  | nil =>
    intro k s P h
    exact h.of fun a b => ⟨.inl, fun h => h.elim id (fun ⟨_, j, _, t, ht, _⟩ => by simp at ht)⟩
  | cons x r ih =>
    intro k s P h
    unfold tRow
    by_cases hx : x = []
    · rw [if_pos hx]
      refine (ih (k + 1) s P h).of fun a b => or_congr Iff.rfl (and_congr Iff.rfl ?_)
      constructor
      · rintro ⟨j, rfl, t, ht, hne⟩
        exact ⟨j + 1, by congr 1; omega, t, by simpa using ht, hne⟩
      · rintro ⟨j, rfl, t, ht, hne⟩
        cases j with
        | zero =>
          simp at ht
          exact absurd (ht ▸ hx) hne
        | succ j => exact ⟨j, by congr 1; omega, t, by simpa using ht, hne⟩
    · rw [if_neg hx]
      refine (ih (k + 1) _ _ (h.add i k (by omega) (by omega))).of fun a b => ?_
      constructor
      · rintro ((h1 | ⟨rfl, rfl⟩) | ⟨rfl, j, rfl, t, ht, hne⟩)
        · exact .inl h1
        · exact .inr ⟨rfl, 0, by simp, x, by simp, hx⟩
        · exact .inr ⟨rfl, j + 1, by congr 1; omega, t, by simpa using ht, hne⟩
      · rintro (h1 | ⟨rfl, j, rfl, t, ht, hne⟩)
        · exact .inl (.inl h1)
        · cases j with
          | zero => exact .inl (.inr ⟨rfl, by simp⟩)
          | succ j => exact .inr ⟨rfl, j, by congr 1; omega, t, by simpa using ht, hne⟩
theorem seen_all : ∀ (l : Rows) (i : Nat) (s : Int × Int) (P : Int → Int → Prop), Seen P s → Seen (fun a b => P a b ∨ ∃ m j : Nat, a = ((i + m : Nat) : Int) ∧ b = (j : Int) ∧ ∃ row t, l[m]? = some row ∧ row[j]? = some t ∧ ¬ t = []) (tAll l i s) := by
  intro l
  induction l with
  | nil =>
    intro i s P h
    exact h.of fun a b => ⟨.inl, fun h => h.elim id (fun ⟨m, j, _, _, row, t, hr, _⟩ => by simp at hr)⟩
  | cons x l ih =>
    intro i s P h
    unfold tAll
    refine (ih (i + 1) _ _ (seen_row i x 0 s P h)).of fun a b => ?_
    constructor
    · rintro ((h1 | ⟨rfl, j, rfl, t, ht, hne⟩) | ⟨m, j, rfl, rfl, row, t, hr, ht, hne⟩)
      · exact .inl h1
      · exact .inr ⟨0, j, by simp, by simp, x, t, by simp, ht, hne⟩
      · exact .inr ⟨m + 1, j, by congr 1; omega, rfl, row, t, by simpa using hr, ht, hne⟩
    · rintro (h1 | ⟨m, j, rfl, rfl, row, t, hr, ht, hne⟩)
      · exact .inl (.inl h1)
      · cases m with
        | zero =>
          obtain rfl : x = row := by simpa using hr
          exact .inl (.inr ⟨by simp, j, by simp, t, ht, hne⟩)
        | succ m => exact .inr ⟨m, j, by congr 1; omega, rfl, row, t, by simpa using hr, ht, hne⟩
theorem fld_get {l : Rows} {a b : Int} (h0 : 0 ≤ a) (h1 : 0 ≤ b) : ¬ fldS l a b = [] ↔ ∃ m j : Nat, a = (m : Int) ∧ b = (j : Int) ∧ ∃ row t, l[m]? = some row ∧ row[j]? = some t ∧ ¬ t = [] := by
  unfold fldS
  constructor
  · intro h
    refine ⟨a.toNat, b.toNat, by omega, by omega, ?_⟩
    simp only [List.getD] at h
    cases hr : l[a.toNat]? with
    | none => rw [hr] at h; simp at h
    | some row =>
      rw [hr] at h
      simp only [Option.getD_some] at h
      cases ht : row[b.toNat]? with
      | none => rw [ht] at h; simp at h
      | some t => rw [ht] at h; exact ⟨row, t, rfl, ht, by simpa using h⟩
  · rintro ⟨m, j, rfl, rfl, row, t, hr, ht, hne⟩
    simpa [List.getD, hr, ht] using hne
theorem get2 (L : Rows) (i j : Nat) (hi : i < L.length) (hj : j < L[i].length) : L[i][j] = (L.getD i []).getD j [] := by simp [List.getD, hi, hj]
theorem rtrim_eq (l : Rows) : rtrimS l = trimS l := by
  obtain ⟨w1, w2⟩ := fill_w l
  have hs : Seen (fun a b => 0 ≤ a ∧ 0 ≤ b ∧ ¬ fldS l a b = []) (tAll (fillS l) 0 (1, 1)) := by
    refine (seen_all (fillS l) 0 (1, 1) (fun _ _ => False) ⟨by decide, by decide, .inl rfl, .inl rfl, fun _ _ h => h.elim⟩).of fun a b => ?_
    constructor
    · rintro (h | ⟨m, j, h1, h2, h3⟩)
      · exact h.elim
      · have e1 : a = (m : Int) := by rw [h1]; simp
        have h4 : ¬ fldS (fillS l) a b = [] := (fld_get (by omega) (by omega)).2 ⟨m, j, e1, h2, h3⟩
        rw [fld_of_fill l (by omega) (by omega)] at h4
        exact ⟨by omega, by omega, h4⟩
    · rintro ⟨h1, h2, h3⟩
      rw [← fld_of_fill l h1 h2] at h3
      obtain ⟨m, j, e1, e2, h4⟩ := (fld_get h1 h2).1 h3
      exact .inr ⟨m, j, by simpa using e1, e2, h4⟩
  generalize hst : tAll (fillS l) 0 (1, 1) = st at hs
  obtain ⟨R, C⟩ := st
  obtain ⟨h1, h2, h3, h4, h5⟩ := hs
  simp only at h1 h2 h3 h4 h5
  have hin : ∀ a b : Int, 0 ≤ a → 0 ≤ b → ¬ fldS l a b = [] → a < max (l.length : Int) 1 ∧ b < max (widthS l) 1 := fun a b ha hb hne => by
    rw [← fld_of_fill l ha hb] at hne
    constructor
    · by_cases hh : a < max (l.length : Int) 1
      · exact hh
      · exact absurd (by unfold fillS; exact fldS_out ha hb (.inl (by omega))) hne
    · by_cases hh : b < max (widthS l) 1
      · exact hh
      · exact absurd (by unfold fillS; exact fldS_out ha hb (.inr (by omega))) hne
  have hR : CutAt (fldS l) (max (widthS l) 1) (max (l.length : Int) 1).toNat R := by
    refine ⟨h1, ?_, ?_, fun i c g1 g2 g3 g4 => ?_⟩
    · rcases h3 with h3 | ⟨a, b, ⟨g1, g2, g3⟩, h3⟩
      · omega
      · have := hin a b g1 g2 g3; omega
    · refine h3.imp id ?_
      rintro ⟨a, b, ⟨g1, g2, g3⟩, h3⟩
      exact ⟨b, g2, (hin a b g1 g2 g3).2, by rw [show R - 1 = a from by omega]; exact g3⟩
    · by_cases he : fldS l i c = []
      · exact he
      · have := h5 i c ⟨by omega, g3, he⟩; omega
  have hC : CutAt (fun a b => fldS l b a) R (max (widthS l) 1).toNat C := by
    refine ⟨h2, ?_, ?_, fun i c g1 g2 g3 g4 => ?_⟩
    · rcases h4 with h4 | ⟨a, b, ⟨g1, g2, g3⟩, h4⟩
      · omega
      · have := hin a b g1 g2 g3; omega
    · refine h4.imp id ?_
      rintro ⟨a, b, ⟨g1, g2, g3⟩, h4⟩
      exact ⟨a, g1, (h5 a b ⟨g1, g2, g3⟩).1, by rw [show C - 1 = b from by omega]; exact g3⟩
    · by_cases he : fldS l c i = []
      · exact he
      · have := h5 c i ⟨g3, by omega, he⟩; omega
  obtain ⟨e1, e2⟩ := trim_of l hR hC
  unfold rtrimS trimS
  rw [hst, e1, e2]
  simp only
  have gR := hR.hi
  have gC := hC.hi
  apply List.ext_getElem
  · rw [List.length_map, List.length_take, laidS_len]
    omega
  · intro i g1 g2
    rw [laidS_len] at g2
    have hi : i < (fillS l).length := by omega
    apply List.ext_getElem
    · rw [List.getElem_map, List.getElem_take, List.length_take, laidS_row (List.getElem_mem _)]
      have := fill_row (List.getElem_mem hi)
      omega
    · intro j g3 g4
      have hj : j < C.toNat := by rw [laidS_row (List.getElem_mem _)] at g4; exact g4
      have hf := fill_row (List.getElem_mem hi)
      have e3 : ((fillS l)[i])[j]'(by omega) = fldS l (i : Int) (j : Int) := by
        rw [← fld_of_fill l (by omega) (by omega)]
        unfold fldS
        simp [List.getD, hi, (show j < ((fillS l)[i]).length by omega)]
      have e4 : ((laidS R C (fldS l))[i]'(by rw [laidS_len]; exact g2))[j]'g4 = fldS l (i : Int) (j : Int) := by
        rw [← fldS_laid (m := R) (n := C) (f := fldS l) (a := (i : Int)) (b := (j : Int)) (by omega) (by omega) (by omega) (by omega)]
        show _ = ((laidS R C (fldS l)).getD (i : Int).toNat []).getD (j : Int).toNat []
        exact get2 (laidS R C (fldS l)) i j (by rw [laidS_len]; exact g2) g4
      rw [e4, ← e3]
      simp
theorem rturn_eq (l : Rows) : rturnS l = turnS l := by
  obtain ⟨w1, w2⟩ := fill_w l
  have h0 := fill_at l (i := 0) (by omega)
  unfold rturnS turnS laidS
  rw [show ((fillS l).getD 0 []).length = (max (widthS l) 1).toNat from by omega]
  apply List.map_congr_left
  intro k hk
  rw [List.mem_range] at hk
  apply List.ext_getElem
  · simp
    omega
  · intro i g1 g2
    have hi : i < (fillS l).length := by simpa using g1
    simp only [List.getElem_map, List.getElem_range]
    rw [← fld_of_fill l (by omega) (by omega)]
    unfold fldS
    simp [List.getD, hi]
theorem turn_at {l : Rows} {i k : Nat} (hi : i < l.length) (hk : k < (l.getD i []).length) : k < (turnS l).length ∧ i < ((turnS l).getD k []).length ∧ ((turnS l).getD k []).getD i [] = (l.getD i []).getD k [] := by
  have hw := widthS_ge l _ (getD_mem [] hi)
  obtain ⟨w1, w2⟩ := turn_w l
  have e : (turnS l).getD k [] = (List.range (max (l.length : Int) 1).toNat).map fun (c : Nat) => fldS l (c : Int) (k : Int) := by
    unfold turnS
    exact laidS_getD (by omega)
  refine ⟨by omega, ?_, ?_⟩
  · rw [e]
    simp
    omega
  · rw [e, map_getD _ _ (by omega)]
    rfl
/-- The last row and the last column of what is trimmed have a text, where there are several. -/
theorem trim_last (l : Rows) : ((trimS l).length = 1 ∨ ∃ c, c < ((trimS l).getD ((trimS l).length - 1) []).length ∧ ¬ ((trimS l).getD ((trimS l).length - 1) []).getD c [] = []) ∧
    (((trimS l).getD 0 []).length = 1 ∨ ∃ r, r < (trimS l).length ∧ ¬ ((trimS l).getD r []).getD (((trimS l).getD r []).length - 1) [] = []) := by
  obtain ⟨k1, k2⟩ := trim_cuts l
  obtain ⟨s1, s2⟩ := trim_says l
  obtain ⟨w1, w2⟩ := trim_w l
  have hr := k1.lo
  have hc := k2.lo
  have hrow : ∀ i : Nat, i < (trimS l).length → (trimS l).getD i [] = (List.range (trimC l).toNat).map fun (c : Nat) => fldS l (i : Int) (c : Int) := fun i hi => laidS_getD (by omega)
  constructor
  · rcases s1 with s1 | ⟨c, g1, g2, g3⟩
    · left; omega
    · right
      rw [hrow _ (by omega)]
      refine ⟨c.toNat, by simp; omega, ?_⟩
      rw [map_getD _ _ (by omega), show (((trimS l).length - 1 : Nat) : Int) = trimR l - 1 from by omega, show ((c.toNat : Nat) : Int) = c from by omega]
      exact g3
  · rcases s2 with s2 | ⟨r, g1, g2, g3⟩
    · left
      rw [hrow 0 (by omega)]
      simp
      omega
    · right
      refine ⟨r.toNat, by omega, ?_⟩
      rw [hrow _ (by omega)]
      simp only [List.length_map, List.length_range]
      rw [map_getD _ _ (by omega), show (((trimC l).toNat - 1 : Nat) : Int) = trimC l - 1 from by omega, show ((r.toNat : Nat) : Int) = r from by omega]
      exact g3
theorem trim_size (l : Rows) : (trimS l).length ≤ max l.length 1 ∧ widthS (trimS l) ≤ max (widthS l) 1 ∧ 1 ≤ (trimS l).length ∧ ∀ i, i < (trimS l).length → (((trimS l).getD i []).length : Int) = trimC l ∧ 1 ≤ trimC l := by
  obtain ⟨k1, k2⟩ := trim_cuts l
  obtain ⟨w1, w2⟩ := trim_w l
  have h1 := k1.lo
  have h2 := k1.hi
  have h3 := k2.lo
  have h4 := k2.hi
  refine ⟨by omega, by omega, by omega, fun i hi => ⟨?_, h3⟩⟩
  have h5 := laidS_row (show (trimS l).getD i [] ∈ laidS (trimR l) (trimC l) (fldS l) from getD_mem [] hi)
  omega
end Go.Proofs.YtgjnhmidbapjmaaG
