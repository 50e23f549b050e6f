/- Axes: what the functions compute, in plain Lean. -/
import Derived.Test.YtalpekmbknjeeaaTy2
set_option linter.all false
namespace Go.Proofs.YtalpekmbknjeeaaG
open Go
def acutS (n : Int) : Int := min (max n 1) 60
theorem acut_bd (n : Int) : 1 ≤ acutS n ∧ acutS n ≤ 60 := by unfold acutS; omega
def cpt (a b : Int) : Cx := ⟨Fl.ofInt a, Fl.ofInt b⟩
def Cx.sub (x y : Cx) : Cx := ⟨x.re.sub y.re, x.im.sub y.im⟩
def Cx.add (x y : Cx) : Cx := ⟨x.re.add y.re, x.im.add y.im⟩
def mirC (p : Cx) (across : Int) : Cx := (cpt (across - 1) 0).sub ⟨p.re, p.im.opp⟩
def scrC (at_ scroll : Cx) (across right : Int) : Cx := if right = 1 then mirC (at_.sub scroll) across else at_.sub scroll
def bckC (on scroll : Cx) (across right : Int) : Cx := if right = 1 then (mirC on across).add scroll else on.add scroll
def rscr (at_ scroll across right : Int) : Int := if right = 1 then across - 1 - (at_ - scroll) else at_ - scroll
def rbck (on scroll across right : Int) : Int := if right = 1 then across - 1 - on + scroll else on + scroll
def insideS (cols rows : Int) (r : TRect) : Bool := decide (0 ≤ r.Row ∧ 0 ≤ r.Col ∧ 1 ≤ r.Rows ∧ 1 ≤ r.Cols ∧ r.Row < rows ∧ r.Col < cols ∧ r.Rows ≤ rows - r.Row ∧ r.Cols ≤ cols - r.Col)
/-! ### starts -/
def startsFrom (s : Int) : List Int → List Int
  | [] => [s]
  | x :: r => s :: startsFrom (s + acutS x + 1) r
def startsS (l : List Int) : List Int := startsFrom 1 l
theorem startsFrom_len : ∀ (l : List Int) (s : Int), (startsFrom s l).length = l.length + 1
  | [], _ => rfl
  | x :: r, s => by simp [startsFrom, startsFrom_len r]
theorem starts_len (l : List Int) : (startsS l).length = l.length + 1 := startsFrom_len l 1
theorem startsFrom_head : ∀ (l : List Int) (s : Int), (startsFrom s l).getD 0 0 = s
  | [], _ => rfl
  | _ :: _, _ => rfl
theorem startsFrom_step : ∀ (l : List Int) (s : Int) (i : Nat), i < l.length → (startsFrom s l).getD (i + 1) 0 = (startsFrom s l).getD i 0 + acutS (l.getD i 0) + 1
  | [], _, _, h => by simp at h
  | x :: r, s, 0, _ => by
    have := startsFrom_head r (s + acutS x + 1)
    simpa [startsFrom] using this
  | x :: r, s, i + 1, h => by
    have := startsFrom_step r (s + acutS x + 1) i (by simpa using h)
    simpa [startsFrom] using this
theorem starts_step (l : List Int) (i : Nat) (h : i < l.length) : (startsS l).getD (i + 1) 0 = (startsS l).getD i 0 + acutS (l.getD i 0) + 1 := startsFrom_step l 1 i h
theorem starts_bd (l : List Int) : ∀ i, i ≤ l.length → 1 ≤ (startsS l).getD i 0 ∧ (startsS l).getD i 0 ≤ 1 + 61 * i
  | 0, _ => by unfold startsS; rw [startsFrom_head]; omega
  | i + 1, h => by
    have h1 := starts_bd l i (by omega)
    have h2 := starts_step l i (by omega)
    have h3 := acut_bd (l.getD i 0)
    omega
theorem atake_snoc {α : Type} (l : List α) (i : Nat) (d : α) (h : i < l.length) : l.take i ++ [l.getD i d] = l.take (i + 1) := by
  rw [List.take_succ_eq_append_getElem h]
  simp [List.getD, h]
theorem starts_take (l : List Int) (i : Nat) (h : i < l.length) : (startsS l).take (i + 1) ++ [((startsS l).take (i + 1)).getD i 0 + acutS (l.getD i 0) + 1] = (startsS l).take (i + 2) := by
  have h1 := starts_len l
  have h2 := starts_step l i h
  have h3 : ((startsS l).take (i + 1)).getD i 0 = (startsS l).getD i 0 := by simp [List.getD]
  rw [h3, ← h2]
  exact atake_snoc _ _ _ (by omega)
theorem starts_mono (l : List Int) : ∀ (j i : Nat), i < j → j ≤ l.length → (startsS l).getD i 0 + 2 ≤ (startsS l).getD j 0
  | 0, i, h, _ => by omega
  | j + 1, i, h, hj => by
    have h2 := starts_step l j (by omega)
    have h3 := acut_bd (l.getD j 0)
    by_cases hij : i = j
    · subst hij; omega
    · have := starts_mono l j i (by omega) (by omega)
      omega
/-! ### slots -/
def slotsFrom (i : Int) : List Int → List Int
  | [] => []
  | x :: r => List.replicate (acutS x).toNat i ++ [-1] ++ slotsFrom (i + 1) r
def slotsS (l : List Int) : List Int := -1 :: slotsFrom 0 l
theorem slotsFrom_snoc : ∀ (l : List Int) (x i : Int), slotsFrom i (l ++ [x]) = slotsFrom i l ++ (List.replicate (acutS x).toNat (i + l.length) ++ [-1])
  | [], x, i => by simp [slotsFrom]
  | y :: r, x, i => by
    simp only [List.cons_append, slotsFrom, slotsFrom_snoc r x (i + 1), List.append_assoc, List.length_cons]
    have : i + 1 + (r.length : Int) = i + ((r.length + 1 : Nat) : Int) := by omega
    rw [this]
theorem slots_snoc (l : List Int) (i : Nat) (h : i < l.length) : slotsS (l.take (i + 1)) = slotsS (l.take i) ++ List.replicate (acutS (l.getD i 0)).toNat (i : Int) ++ [-1] := by
  rw [← atake_snoc l i 0 h]
  unfold slotsS
  rw [slotsFrom_snoc]
  simp [List.length_take, Nat.min_eq_left (Nat.le_of_lt h)]
theorem slotsFrom_len : ∀ (l : List Int) (i : Int), (slotsFrom i l).length ≤ 61 * l.length
  | [], _ => by simp [slotsFrom]
  | x :: r, i => by
    have := slotsFrom_len r (i + 1)
    have := acut_bd x
    simp [slotsFrom]
    omega
theorem slots_len (l : List Int) : (slotsS l).length ≤ 61 * l.length + 1 := by
  have := slotsFrom_len l 0
  simp [slotsS]
  omega
/-! ### the place of a number in a rising list -/
def bsS (l : List Int) (t : Int) : Nat := (l.takeWhile (fun x => decide (x < t))).length
theorem bs_of {l : List Int} {t : Int} {i : Nat} (hi : i ≤ l.length) (h1 : ∀ q, q < i → l.getD q 0 < t) (h2 : i < l.length → t ≤ l.getD i 0) : bsS l t = i := by
  induction l generalizing i with
  | nil => simp at hi; subst hi; rfl
  | cons x r ih =>
    unfold bsS
    cases i with
    | zero =>
      have := h2 (by simp)
      simp at this
      rw [List.takeWhile_cons_of_neg (by simp; omega)]
      rfl
    | succ i =>
      have h0 := h1 0 (by omega)
      simp at h0
      rw [List.takeWhile_cons_of_pos (by simpa using h0), List.length_cons]
      have := ih (i := i) (by simpa using hi) (fun q hq => by have := h1 (q + 1) (by omega); simpa using this) (fun hh => by have := h2 (by simpa using hh); simpa using this)
      unfold bsS at this
      omega
def findS (l : List Int) (at_ : Int) : Int × Int :=
  if at_ < 0 ∨ (startsS l).getD l.length 0 ≤ at_ then (-1, -1)
  else if (startsS l).getD (bsS (startsS l) (at_ + 1)) 0 = at_ + 1 then (bsS (startsS l) (at_ + 1), -1)
  else ((bsS (startsS l) (at_ + 1) : Int) - 1, at_ - (startsS l).getD (bsS (startsS l) (at_ + 1) - 1) 0)
theorem slots_next (l : List Int) (i k : Nat) (h : i < l.length) (hk : (k : Int) = acutS (l.getD i 0)) : (slotsS (l.take i) ++ List.replicate k (i : Int)) ++ [-1] = slotsS (l.take (i + 1)) := by
  rw [slots_snoc l i h, ← hk, Int.toNat_natCast]
/-! ### two rows of numbers -/
theorem same_end {a b : List Int} {i : Nat} (hl : a.length = b.length) (hi : i = a.length) (h : ∀ q, q < i → a.getD q 0 = b.getD q 0) : true = decide (a = b) := by
  subst hi
  rw [eq_comm, decide_eq_true_eq]
  refine List.ext_getElem hl fun q h1 h2 => ?_
  have := h q h1
  simpa [List.getD, h1, h2] using this
theorem same_ne {a b : List Int} {i : Nat} (h : ¬ a.getD i 0 = b.getD i 0) : false = decide (a = b) := by
  rw [eq_comm, decide_eq_false_iff_not]
  rintro rfl
  exact h rfl
theorem same_len {a b : List Int} (h : ¬ (a.length : Int) = (b.length : Int)) : false = decide (a = b) := by
  rw [eq_comm, decide_eq_false_iff_not]
  rintro rfl
  exact h rfl
theorem same_next {a b : List Int} {i : Nat} (h : ∀ q, q < i → a.getD q 0 = b.getD q 0) (h1 : a.getD i 0 = b.getD i 0) : ∀ q, q < i + 1 → a.getD q 0 = b.getD q 0 := by
  intro q hq
  by_cases hqi : q = i
  · subst hqi; exact h1
  · exact h q (by omega)
/-! ### starts and slots -/
theorem startsFrom_snoc : ∀ (l : List Int) (x s : Int), startsFrom s (l ++ [x]) = startsFrom s l ++ [(startsFrom s l).getD l.length 0 + acutS x + 1]
  | [], x, s => by simp [startsFrom]
  | y :: r, x, s => by
    have := startsFrom_snoc r x (s + acutS y + 1)
    simp only [List.cons_append, startsFrom, this, List.length_cons, List.getD_cons_succ]
theorem starts_snoc (l : List Int) (x : Int) : startsS (l ++ [x]) = startsS l ++ [(startsS l).getD l.length 0 + acutS x + 1] := startsFrom_snoc l x 1
theorem slots_snoc' (l : List Int) (x : Int) : slotsS (l ++ [x]) = slotsS l ++ (List.replicate (acutS x).toNat (l.length : Int) ++ [-1]) := by
  unfold slotsS
  rw [slotsFrom_snoc]
  simp
theorem snoc_ind {P : List Int → Prop} (h0 : P []) (h1 : ∀ l x, P l → P (l ++ [x])) (l : List Int) : P l := by
  have : ∀ (n : Nat) (l : List Int), l.length = n → P l := by
    intro n
    induction n with
    | zero => intro l hl; rw [List.eq_nil_of_length_eq_zero hl]; exact h0
    | succ n ih =>
      intro l hl
      have hne : l ≠ [] := by intro h; rw [h] at hl; simp at hl
      have := h1 l.dropLast (l.getLast hne) (ih _ (by simp [hl]))
      rwa [List.dropLast_concat_getLast] at this
  exact this _ l rfl
theorem slots_starts (l : List Int) : ((slotsS l).length : Int) = (startsS l).getD l.length 0 := by
  refine snoc_ind (P := fun l => ((slotsS l).length : Int) = (startsS l).getD l.length 0) rfl ?_ l
  intro l x ih
  have h1 := starts_len l
  have h2 := acut_bd x
  rw [slots_snoc', starts_snoc]
  have : (startsS l ++ [(startsS l).getD l.length 0 + acutS x + 1]).getD (l ++ [x]).length 0 = (startsS l).getD l.length 0 + acutS x + 1 := by
    simp [List.getD, h1]
  rw [this, ← ih]
  simp
  omega
/-- Where the sizes begin, found in the slots. -/
def scanN (L : List Int) : Nat → List Int
  | 0 => []
  | i + 1 => if 1 ≤ i ∧ L.getD (i - 1) 0 < 0 ∧ 0 ≤ L.getD i 0 then scanN L i ++ [(i : Int)] else scanN L i
theorem scan_len (L : List Int) : ∀ i, (scanN L i).length ≤ i
  | 0 => Nat.le_refl _
  | i + 1 => by
    have := scan_len L i
    simp only [scanN]
    split
    · simp; omega
    · omega
theorem scanN_append (A B : List Int) : ∀ i, i ≤ A.length → scanN (A ++ B) i = scanN A i
  | 0, _ => rfl
  | i + 1, h => by
    have h1 : (A ++ B).getD i 0 = A.getD i 0 := by simp [List.getD, List.getElem?_append_left (show i < A.length by omega)]
    have h2 : (A ++ B).getD (i - 1) 0 = A.getD (i - 1) 0 := by simp [List.getD, List.getElem?_append_left (show i - 1 < A.length by omega)]
    simp only [scanN, h1, h2, scanN_append A B i (by omega)]
theorem slots_last (l : List Int) : (slotsS l).getD ((slotsS l).length - 1) 0 = -1 ∧ 1 ≤ (slotsS l).length := by
  refine snoc_ind (P := fun l => (slotsS l).getD ((slotsS l).length - 1) 0 = -1 ∧ 1 ≤ (slotsS l).length) ⟨rfl, by decide⟩ ?_ l
  intro l x _
  rw [slots_snoc', ← List.append_assoc]
  refine ⟨?_, by simp; omega⟩
  simp [List.getD]
theorem scan_starts (l : List Int) : scanN (slotsS l) (slotsS l).length ++ [((slotsS l).length : Int)] = startsS l := by
  refine snoc_ind (P := fun l => scanN (slotsS l) (slotsS l).length ++ [((slotsS l).length : Int)] = startsS l) (by decide) ?_ l
  intro l x ih
  have hl := slots_last l
  have hs := slots_starts l
  have hc := acut_bd x
  rw [starts_snoc, ← ih]
  have e : slotsS (l ++ [x]) = slotsS l ++ (List.replicate (acutS x).toNat (l.length : Int) ++ [-1]) := slots_snoc' l x
  generalize hA : slotsS l = A at *
  generalize hcx : (acutS x).toNat = c at *
  have hc1 : 1 ≤ c := by omega
  have hcv : acutS x = (c : Int) := by omega
  have get : ∀ j, j < c → (A ++ (List.replicate c (l.length : Int) ++ [-1])).getD (A.length + j) 0 = (l.length : Int) := by
    intro j hj
    simp [List.getD, List.getElem?_append_right, List.getElem?_append_left, hj]
  have getl : (A ++ (List.replicate c (l.length : Int) ++ [-1])).getD (A.length + c) 0 = -1 := by
    simp [List.getD, List.getElem?_append_right]
  have getp : (A ++ (List.replicate c (l.length : Int) ++ [-1])).getD (A.length - 1) 0 = -1 := by
    rw [← hl.1]
    simp [List.getD, List.getElem?_append_left (show A.length - 1 < A.length by omega)]
  have step : ∀ j, j < c → scanN (A ++ (List.replicate c (l.length : Int) ++ [-1])) (A.length + j + 1) = scanN A A.length ++ [(A.length : Int)] := by
    intro j
    induction j with
    | zero =>
      intro hj
      have g0 := get 0 hj
      simp only [Nat.add_zero] at g0
      simp only [scanN, Nat.add_zero, getp, g0]
      rw [if_pos ⟨hl.2, by omega, by omega⟩, scanN_append _ _ _ (Nat.le_refl _)]
    | succ j ihj =>
      intro hj
      have g1 := get j (by omega)
      rw [← ihj (by omega)]
      rw [show A.length + (j + 1) + 1 = (A.length + j + 1) + 1 from by omega]
      simp only [scanN, Nat.add_sub_cancel, g1]
      rw [if_neg (by omega)]
  have hlen : (A ++ (List.replicate c (l.length : Int) ++ [-1])).length = (A.length + (c - 1) + 1) + 1 := by simp; omega
  have hst := step (c - 1) (by omega)
  rw [e, hlen]
  have hfin : scanN (A ++ (List.replicate c (l.length : Int) ++ [-1])) ((A.length + (c - 1) + 1) + 1) = scanN A A.length ++ [(A.length : Int)] := by
    rw [show scanN (A ++ (List.replicate c (l.length : Int) ++ [-1])) ((A.length + (c - 1) + 1) + 1) = scanN (A ++ (List.replicate c (l.length : Int) ++ [-1])) (A.length + (c - 1) + 1) from ?_]
    · exact hst
    · simp only [scanN, Nat.add_sub_cancel, show A.length + (c - 1) + 1 = A.length + c from by omega, getl]
      rw [if_neg (by omega)]
  rw [hfin, ih, ← hs, hcv]
  congr 2
  omega
theorem scan_done (l : List Int) (i : Nat) (h1 : i = (slotsS l).length) : scanN (slotsS l) i ++ [((slotsS l).length : Int)] = startsS l := by
  subst h1; exact scan_starts l
theorem scan_yes {L : List Int} {i : Nat} (h0 : 1 ≤ i) (h1 : L.getD (i - 1) 0 < 0) (h2 : 0 ≤ L.getD i 0) : scanN L i ++ [(i : Int)] = scanN L (i + 1) := by
  simp only [scanN]; rw [if_pos ⟨h0, h1, h2⟩]
theorem scan_no {L : List Int} {i : Nat} (h : ¬ (L.getD (i - 1) 0 < 0 ∧ 0 ≤ L.getD i 0)) : scanN L i = scanN L (i + 1) := by
  simp only [scanN]; rw [if_neg (fun hh => h hh.2)]
theorem scan_yes' {L : List Int} {i : Nat} (h0 : 1 ≤ i) (h1 : L.getD ((i : Int) - 1).toNat 0 < 0) (h2 : L.getD i 0 ≥ 0) : scanN L i ++ [(i : Int)] = scanN L (i + 1) :=
  scan_yes h0 (by rw [show i - 1 = ((i : Int) - 1).toNat from by omega]; exact h1) h2
theorem scan_no' {L : List Int} {i : Nat} (h : ¬ (L.getD ((i : Int) - 1).toNat 0 < 0) ∨ ¬ (L.getD i 0 ≥ 0)) : scanN L i = scanN L (i + 1) :=
  scan_no (by rw [show i - 1 = ((i : Int) - 1).toNat from by omega]; omega)
/-! ### what stands at a slot -/
/-- Borders so far, and slots since the last one. -/
def bst (L : List Int) : Nat → Int × Int
  | 0 => (0, 0)
  | i + 1 => if L.getD i 0 < 0 then ((bst L i).1 + 1, 0) else ((bst L i).1, (bst L i).2 + 1)
def rfindS (l : List Int) (at_ : Int) : Int × Int :=
  if at_ < 0 ∨ ((slotsS l).length : Int) ≤ at_ then (-1, -1)
  else if (slotsS l).getD at_.toNat 0 < 0 then ((bst (slotsS l) at_.toNat).1, -1)
  else ((slotsS l).getD at_.toNat 0, (bst (slotsS l) at_.toNat).2)
theorem bst_append (A B : List Int) : ∀ i, i ≤ A.length → bst (A ++ B) i = bst A i
  | 0, _ => rfl
  | i + 1, h => by
    have h1 : (A ++ B).getD i 0 = A.getD i 0 := by simp [List.getD, List.getElem?_append_left (show i < A.length by omega)]
    simp only [bst, h1, bst_append A B i (by omega)]
/-- A slot is a border, or lies in a size. -/
theorem slot_cases (l : List Int) : (bst (slotsS l) (slotsS l).length = ((l.length : Int) + 1, 0)) ∧ ∀ a, a < (slotsS l).length →
    (∃ i, i ≤ l.length ∧ (a : Int) + 1 = (startsS l).getD i 0 ∧ (slotsS l).getD a 0 = -1 ∧ (bst (slotsS l) a).1 = i) ∨
    (∃ i k : Nat, i < l.length ∧ (k : Int) < acutS (l.getD i 0) ∧ (a : Int) = (startsS l).getD i 0 + k ∧ (slotsS l).getD a 0 = i ∧ (bst (slotsS l) a).2 = k) := by
  refine snoc_ind (P := fun l => (bst (slotsS l) (slotsS l).length = ((l.length : Int) + 1, 0)) ∧ ∀ a, a < (slotsS l).length →
    (∃ i, i ≤ l.length ∧ (a : Int) + 1 = (startsS l).getD i 0 ∧ (slotsS l).getD a 0 = -1 ∧ (bst (slotsS l) a).1 = i) ∨
    (∃ i k : Nat, i < l.length ∧ (k : Int) < acutS (l.getD i 0) ∧ (a : Int) = (startsS l).getD i 0 + k ∧ (slotsS l).getD a 0 = i ∧ (bst (slotsS l) a).2 = k)) ?_ ?_ l
  · refine ⟨rfl, fun a ha => .inl ⟨0, Nat.le_refl _, ?_⟩⟩
    have : a = 0 := by simp [slotsS, slotsFrom] at ha; exact ha
    subst this
    exact ⟨rfl, rfl, rfl⟩
  · intro l x ⟨ih0, ih⟩
    have hs := slots_starts l
    have hc := acut_bd x
    have hsl := starts_len l
    have e : slotsS (l ++ [x]) = slotsS l ++ (List.replicate (acutS x).toNat (l.length : Int) ++ [-1]) := slots_snoc' l x
    have e2 : startsS (l ++ [x]) = startsS l ++ [(startsS l).getD l.length 0 + acutS x + 1] := starts_snoc l x
    have e3 : ∀ i, i ≤ l.length → (startsS (l ++ [x])).getD i 0 = (startsS l).getD i 0 := by
      intro i hi
      rw [e2]
      simp [List.getD, List.getElem?_append_left (show i < (startsS l).length by omega)]
    have e4 : ∀ i, i < l.length → (l ++ [x]).getD i 0 = l.getD i 0 := by
      intro i hi
      simp [List.getD, List.getElem?_append_left hi]
    generalize hA : slotsS l = A at *
    generalize hcx : (acutS x).toNat = c at *
    have hcv : acutS x = (c : Int) := by omega
    have get : ∀ j, j < c → (A ++ (List.replicate c (l.length : Int) ++ [-1])).getD (A.length + j) 0 = (l.length : Int) := by
      intro j hj
      simp [List.getD, List.getElem?_append_right, List.getElem?_append_left, hj]
    have getl : (A ++ (List.replicate c (l.length : Int) ++ [-1])).getD (A.length + c) 0 = -1 := by
      simp [List.getD, List.getElem?_append_right]
    have hb : ∀ j, j ≤ c → bst (A ++ (List.replicate c (l.length : Int) ++ [-1])) (A.length + j) = ((l.length : Int) + 1, (j : Int)) := by
      intro j
      induction j with
      | zero => intro _; rw [Nat.add_zero, bst_append _ _ _ (Nat.le_refl _), ih0]; rfl
      | succ j ihj =>
        intro hj
        rw [← Nat.add_assoc]
        simp only [bst, get j (by omega), ihj (by omega)]
        rw [if_neg (by omega)]
        simp
    have hlen : (A ++ (List.replicate c (l.length : Int) ++ [-1])).length = A.length + c + 1 := by simp; omega
    rw [e]
    refine ⟨?_, fun a ha => ?_⟩
    · rw [hlen]
      simp only [bst, getl, hb c (Nat.le_refl _)]
      simp
    · rw [hlen] at ha
      by_cases h1 : a < A.length
      · have hg : (A ++ (List.replicate c (l.length : Int) ++ [-1])).getD a 0 = A.getD a 0 := by simp [List.getD, List.getElem?_append_left h1]
        rw [hg, bst_append _ _ _ (by omega)]
        rcases ih a h1 with ⟨i, h2, h3, h4, h5⟩ | ⟨i, k, h2, h3, h4, h5, h6⟩
        · exact .inl ⟨i, by simp; omega, by rw [e3 i h2]; exact h3, h4, h5⟩
        · exact .inr ⟨i, k, by simp; omega, by rw [e4 i h2]; exact h3, by rw [e3 i (by omega)]; exact h4, h5, h6⟩
      · obtain ⟨j, rfl⟩ : ∃ j, a = A.length + j := ⟨a - A.length, by omega⟩
        rw [hb j (by omega)]
        by_cases h2 : j < c
        · refine .inr ⟨l.length, j, by simp, ?_, ?_, get j h2, rfl⟩
          · simp [List.getD]; omega
          · rw [e3 _ (Nat.le_refl _), ← hs]; omega
        · obtain rfl : j = c := by omega
          refine .inl ⟨l.length + 1, by simp, ?_, getl, rfl⟩
          rw [e2]
          generalize hY : (startsS l).getD l.length 0 + acutS x + 1 = Y
          have e5 : (startsS l ++ [Y]).getD (l.length + 1) 0 = Y := by simp [List.getD, hsl]
          rw [e5, ← hY, ← hs]
          push_cast
          omega
theorem bst_bd (L : List Int) : ∀ i, 0 ≤ (bst L i).1 ∧ (bst L i).1 ≤ i ∧ 0 ≤ (bst L i).2 ∧ (bst L i).2 ≤ i
  | 0 => by simp [bst]
  | i + 1 => by
    have := bst_bd L i
    simp only [bst]
    split <;> simp <;> omega
theorem bst_neg {L : List Int} {i : Nat} (h : L.getD i 0 < 0) : bst L (i + 1) = ((bst L i).1 + 1, 0) := by simp only [bst]; rw [if_pos h]
theorem bst_pos {L : List Int} {i : Nat} (h : ¬ L.getD i 0 < 0) : bst L (i + 1) = ((bst L i).1, (bst L i).2 + 1) := by simp only [bst]; rw [if_neg h]
theorem starts_le (l : List Int) {i j : Nat} (h : i ≤ j) (hj : j ≤ l.length) : (startsS l).getD i 0 ≤ (startsS l).getD j 0 := by
  by_cases hij : i = j
  · subst hij; omega
  · have := starts_mono l j i (by omega) hj
    omega
theorem starts_sorted (l : List Int) (p q : Nat) (h : p ≤ q) (hq : q < (startsS l).length) : (startsS l).getD p 0 ≤ (startsS l).getD q 0 := starts_le l h (by have := starts_len l; omega)
theorem starts_bd' (l : List Int) (p : Nat) (h : p < (startsS l).length) : 1 ≤ (startsS l).getD p 0 ∧ (startsS l).getD p 0 ≤ 1 + 61 * p := starts_bd l p (by have := starts_len l; omega)
theorem bs_le (l : List Int) (t : Int) : bsS l t ≤ l.length := by
  unfold bsS
  exact (List.takeWhile_sublist _).length_le
theorem bs_lt {t : Int} : ∀ {l : List Int} (q : Nat), q < bsS l t → l.getD q 0 < t
  | [], q, h => by simp [bsS] at h
  | x :: r, q, h => by
    by_cases hx : x < t
    · cases q with
      | zero => simpa using hx
      | succ q =>
        have : q < bsS r t := by
          unfold bsS at h ⊢
          rw [List.takeWhile_cons_of_pos (by simpa using hx), List.length_cons] at h
          omega
        simpa using bs_lt q this
    · unfold bsS at h
      rw [List.takeWhile_cons_of_neg (by simpa using hx)] at h
      simp at h
/-- Where 'at' is found: the place of at + 1 among the starts is one of a size's begin, or behind one. -/
theorem find_mid {l : List Int} {a : Int} (h0 : 0 ≤ a) (h1 : a < (startsS l).getD l.length 0) : bsS (startsS l) (a + 1) ≤ l.length ∧ (¬ (startsS l).getD (bsS (startsS l) (a + 1)) 0 = a + 1 → 1 ≤ bsS (startsS l) (a + 1)) := by
  have hl := starts_len l
  constructor
  · rcases Nat.lt_or_ge l.length (bsS (startsS l) (a + 1)) with h | h
    · have := bs_lt (l := startsS l) (t := a + 1) l.length h
      omega
    · exact h
  · intro hne
    rcases Nat.eq_zero_or_pos (bsS (startsS l) (a + 1)) with h | h
    · rw [h] at hne
      have h2 : (startsS l).getD 0 0 = 1 := startsFrom_head l 1
      rw [h2] at hne
      by_cases ha : a + 1 ≤ 1
      · omega
      · have h3 := bs_of (l := startsS l) (t := a + 1) (i := 0)
        exfalso
        unfold bsS at h
        cases hs : startsS l with
        | nil => rw [hs] at hl; simp at hl
        | cons x r =>
          rw [hs] at h h2
          simp at h2
          rw [List.takeWhile_cons_of_pos (by simp; omega)] at h
          simp at h
    · exact h
theorem find_rfind (l : List Int) (at_ : Int) : findS l at_ = rfindS l at_ := by
  have hs := slots_starts l
  have hl := starts_len l
  unfold findS rfindS
  by_cases h : at_ < 0 ∨ (startsS l).getD l.length 0 ≤ at_
  · have h' : at_ < 0 ∨ ((slotsS l).length : Int) ≤ at_ := by rw [hs]; exact h
    rw [if_pos h, if_pos h']
  · have h' : ¬ (at_ < 0 ∨ ((slotsS l).length : Int) ≤ at_) := by rw [hs]; exact h
    rw [if_neg h, if_neg h']
    obtain ⟨a, rfl⟩ := Int.eq_ofNat_of_zero_le (show 0 ≤ at_ by omega)
    have ha : a < (slotsS l).length := by omega
    simp only [Int.toNat_natCast]
    rcases (slot_cases l).2 a ha with ⟨i, h1, h2, h3, h4⟩ | ⟨i, k, h1, h2, h3, h4, h5⟩
    · have hb : bsS (startsS l) ((a : Int) + 1) = i := by
        refine bs_of (by omega) (fun q hq => ?_) (fun _ => by omega)
        have := starts_mono l i q hq h1
        omega
      rw [hb, if_pos h2.symm, if_pos (by rw [h3]; decide), h4]
    · have hst := starts_step l i h1
      have hb : bsS (startsS l) ((a : Int) + 1) = i + 1 := by
        refine bs_of (by omega) (fun q hq => ?_) (fun hq => by omega)
        have := starts_le l (show q ≤ i by omega) (by omega)
        omega
      rw [hb, if_neg (by omega), if_neg (by rw [h4]; omega), h4, h5]
      simp only [Nat.add_sub_cancel]
      rw [h3]
      congr 1 <;> omega
/-! ### boxes -/
theorem inside_of {c r : Int} {x : TRect} (h : insideS c r x = true) : 0 ≤ x.Row ∧ 0 ≤ x.Col ∧ 1 ≤ x.Rows ∧ 1 ≤ x.Cols ∧ x.Row < r ∧ x.Col < c ∧ x.Rows ≤ r - x.Row ∧ x.Cols ≤ c - x.Col := of_decide_eq_true h
def cx0 : Cx := ⟨Fl.ofInt 0, Fl.ofInt 0⟩
def acornerS (ws hs : List Int) (r : TRect) : Cx × Int := if insideS ws.length hs.length r = true then (cpt ((startsS ws).getD r.Col.toNat 0) ((startsS hs).getD r.Row.toNat 0), 0) else (cx0, 4)
theorem corner_in {ws hs : List Int} {r : TRect} (h : insideS ws.length hs.length r = true) : acornerS ws hs r = (cpt ((startsS ws).getD r.Col.toNat 0) ((startsS hs).getD r.Row.toNat 0), 0) := if_pos h
theorem corner_out {ws hs : List Int} {r : TRect} (h : insideS ws.length hs.length r = false) : acornerS ws hs r = (cx0, 4) := if_neg (by rw [h]; simp)
theorem corner_ok {ws hs : List Int} {r : TRect} (h : (acornerS ws hs r).2 = 0) : insideS ws.length hs.length r = true := by
  cases hi : insideS ws.length hs.length r with
  | true => rfl
  | false => rw [corner_out hi] at h; exact absurd h (by simp)
theorem corner_no {ws hs : List Int} {r : TRect} (h : ¬ (acornerS ws hs r).2 = 0) : insideS ws.length hs.length r = false := by
  cases hi : insideS ws.length hs.length r with
  | false => rfl
  | true => rw [corner_in hi] at h; exact absurd rfl h
def asizeS (ws hs : List Int) (r : TRect) : Cx × Int :=
  if insideS ws.length hs.length r = true then (((cpt ((startsS ws).getD (r.Col + r.Cols).toNat 0) ((startsS hs).getD (r.Row + r.Rows).toNat 0)).sub (acornerS ws hs r).1).sub (cpt 1 1), 0) else (cx0, 4)
theorem size_in {ws hs : List Int} {r : TRect} (h : insideS ws.length hs.length r = true) : asizeS ws hs r = (((cpt ((startsS ws).getD (r.Col + r.Cols).toNat 0) ((startsS hs).getD (r.Row + r.Rows).toNat 0)).sub (acornerS ws hs r).1).sub (cpt 1 1), 0) := if_pos h
theorem size_out {ws hs : List Int} {r : TRect} (h : insideS ws.length hs.length r = false) : asizeS ws hs r = (cx0, 4) := if_neg (by rw [h]; simp)
def sumC (l : List Int) (i : Nat) : Nat → Int
  | 0 => 0
  | n + 1 => sumC l i n + acutS (l.getD (i + n) 0)
theorem sumC_bd (l : List Int) (i : Nat) : ∀ n : Nat, (n : Int) ≤ sumC l i n ∧ sumC l i n ≤ 60 * n
  | 0 => by simp [sumC]
  | n + 1 => by
    have h1 := sumC_bd l i n
    have h2 := acut_bd (l.getD (i + n) 0)
    simp only [sumC]
    omega
theorem sumC_starts (l : List Int) (i : Nat) : ∀ n, i + n ≤ l.length → (startsS l).getD (i + n) 0 = (startsS l).getD i 0 + sumC l i n + n
  | 0, _ => by simp [sumC]
  | n + 1, h => by
    have h1 := sumC_starts l i n (by omega)
    have h2 := starts_step l (i + n) (by omega)
    simp only [sumC]
    rw [show i + (n + 1) = i + n + 1 from rfl]
    omega
/-! ### the laws -/
def partS (n : Int) : Int := n % 2147483648 - 1073741824
theorem part_bd (n : Int) : -1073741824 ≤ partS n ∧ partS n ≤ 1073741823 := by unfold partS; omega
theorem starts_top (l : List Int) (i k : Nat) (h : i + k ≤ l.length) : (startsS l).getD (i + k) 0 = (startsS l).getD i 0 + sumC l i k + k := sumC_starts l i k h
theorem find_at {l : List Int} {i : Nat} (h : i < l.length) {k : Int} (h1 : -1 ≤ k) (h2 : k < acutS (l.getD i 0)) : findS l ((startsS l).getD i 0 + k) = ((i : Int), k) := by
  have hst := starts_step l i h
  have hl := starts_len l
  have hb := starts_bd l i (by omega)
  have hm := starts_sorted l (i + 1) l.length (by omega) (by omega)
  have hc := acut_bd (l.getD i 0)
  unfold findS
  rw [if_neg (by omega)]
  by_cases hk : k = -1
  · have hbs : bsS (startsS l) ((startsS l).getD i 0 + k + 1) = i := bs_of (by omega) (fun q hq => by
      have h3 := starts_sorted l (q + 1) i (by omega) (by omega)
      have h4 := starts_step l q (by omega)
      have h5 := acut_bd (l.getD q 0)
      omega) (fun _ => by omega)
    rw [hbs, if_pos (by omega), hk]
  · have hbs : bsS (startsS l) ((startsS l).getD i 0 + k + 1) = i + 1 := bs_of (by omega) (fun q hq => by
      have h3 := starts_sorted l q i (by omega) (by omega)
      omega) (fun _ => by omega)
    rw [hbs, if_neg (by omega)]
    simp only [Nat.add_sub_cancel]
    rw [Prod.mk.injEq]
    omega
theorem find_last (l : List Int) : findS l ((startsS l).getD l.length 0 - 1) = ((l.length : Int), -1) := by
  have hl := starts_len l
  have hb := starts_bd l l.length (Nat.le_refl _)
  unfold findS
  rw [if_neg (by omega)]
  have hbs : bsS (startsS l) ((startsS l).getD l.length 0 - 1 + 1) = l.length := bs_of (by omega) (fun q hq => by
    have h3 := starts_sorted l (q + 1) l.length (by omega) (by omega)
    have h4 := starts_step l q (by omega)
    have h5 := acut_bd (l.getD q 0)
    omega) (fun _ => by omega)
  rw [hbs, if_pos (by omega)]
theorem find_out (l : List Int) : findS l ((startsS l).getD l.length 0) = (-1, -1) := by
  unfold findS
  rw [if_pos (by omega)]
theorem starts_head (l : List Int) : (startsS l).getD 0 0 = 1 := startsFrom_head l 1
theorem size_ok {ws hs : List Int} {r : TRect} (h : (asizeS ws hs r).2 = 0) : insideS ws.length hs.length r = true := by
  cases hi : insideS ws.length hs.length r with
  | true => rfl
  | false => rw [size_out hi] at h; exact absurd h (by simp)
theorem inside_mk {c r : Int} {a b d e : Int} (h : 0 ≤ a ∧ 0 ≤ b ∧ 1 ≤ d ∧ 1 ≤ e ∧ a < r ∧ b < c ∧ d ≤ r - a ∧ e ≤ c - b) : insideS c r ⟨a, b, d, e⟩ = true := decide_eq_true h
end Go.Proofs.YtalpekmbknjeeaaG
