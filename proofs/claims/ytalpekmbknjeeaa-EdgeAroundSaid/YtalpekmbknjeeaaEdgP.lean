/- Edges: the laws, in plain Lean. -/
import Derived.Test.YtalpekmbknjeeaaEdgS
set_option linter.all false
namespace Go.Proofs.YtalpekmbknjeeaaG
open Go Go.RowKit
theorem find_bd (l : List Int) (a : Int) : -1 ≤ (findS l a).1 ∧ (findS l a).1 ≤ l.length := by
  unfold findS
  split
  · constructor <;> simp only <;> omega
  · rename_i h
    have h1 := find_mid (l := l) (a := a) (by omega) (by omega)
    split
    · constructor <;> simp only <;> omega
    · constructor <;> simp only <;> omega
theorem mir_bd (i : Nat) : (mirW (wayN i)).re.n.natAbs ≤ 1 ∧ (mirW (wayN i)).im.n.natAbs ≤ 1 := by
  have := way_bd i
  unfold mirW Fl.opp
  simp only
  omega
theorem way_all : ∀ x ∈ ([wayA.e0, wayA.e1, wayA.e2, wayA.e3] : List Cx), x.re.n.natAbs ≤ 1 ∧ x.im.n.natAbs ≤ 1 := by decide
theorem way_ix {i : Nat} (h : i < 4) : 0 ≤ wayIx (mirW (wayN i)) ∧ wayIx (mirW (wayN i)) ≤ 3 ∧ (1 : Int) ≤ 2 ^ (wayIx (mirW (wayN i))).toNat ∧ (2 : Int) ^ (wayIx (mirW (wayN i))).toNat ≤ 8 := by
  match i, h with
  | 0, _ => decide
  | 1, _ => decide
  | 2, _ => decide
  | 3, _ => decide
theorem turn_on {a : Int} {i : Nat} (h : a / 2 ^ i % 2 = 1) : Go.bits .or .i64 (turnN a i) (1 * 2 ^ (wayIx (mirW (wayN i))).toNat) = turnN a (i + 1) := by
  simp only [turnN]
  rw [if_pos h]
theorem turn_off {a : Int} {i : Nat} (h : ¬ a / 2 ^ i % 2 = 1) : turnN a i = turnN a (i + 1) := by
  simp only [turnN]
  rw [if_neg h]
theorem idxF_ge {α : Type} (p : α → Bool) : ∀ (l : List α) (i : Int), idxF p l i = -1 ∨ i ≤ idxF p l i
  | [], i => .inl rfl
  | x :: r, i => by
    unfold idxF
    cases p x with
    | true => exact .inr (Int.le_refl _)
    | false =>
      rcases idxF_ge p r (i + 1) with h | h
      · exact .inl h
      · exact .inr (by simp only [cond_false]; omega)
theorem of_hit {c : Int} {i : Nat} (hi : i < 16) (h : idxF (fun x => decide (x = c)) (signL.drop i) i = idxF (fun x => decide (x = c)) signL 0) (h1 : signL.getD i 0 = c) : (i : Int) = ofS c := by
  have e : idxF (fun x => decide (x = c)) (signL.drop i) i = i := idxF_hit (d := 0) (show i < signL.length from hi) (decide_eq_true h1)
  unfold ofS
  rw [← h, e, if_neg (by omega)]
theorem of_end {c : Int} {i : Nat} (hi : 16 ≤ i) (h : idxF (fun x => decide (x = c)) (signL.drop i) i = idxF (fun x => decide (x = c)) signL 0) : 0 = ofS c := by
  have e : idxF (fun x => decide (x = c)) (signL.drop i) i = -1 := idxF_end (show signL.length ≤ i from hi)
  unfold ofS
  rw [← h, e, if_pos (by decide)]
theorem of_next {c : Int} {i : Nat} (hi : i < 16) (h : idxF (fun x => decide (x = c)) (signL.drop i) i = idxF (fun x => decide (x = c)) signL 0) (h1 : ¬ signL.getD i 0 = c) : idxF (fun x => decide (x = c)) (signL.drop (i + 1)) ((i + 1 : Nat) : Int) = idxF (fun x => decide (x = c)) signL 0 := by
  rw [← h, idxF_next (n := i) (d := 0) (show i < signL.length from hi) (decide_eq_false h1)]
  rfl
theorem rof_hit {c : Int} {i : Nat} (h0 : 1 ≤ i) (hi : i < 16) (h : idxF (fun x => decide (x = c)) (signL.drop i) i = idxF (fun x => decide (x = c)) (signL.drop 1) 1) (h1 : signL.getD i 0 = c) : (i : Int) = rofS c := by
  have e : idxF (fun x => decide (x = c)) (signL.drop i) i = i := idxF_hit (d := 0) (show i < signL.length from hi) (decide_eq_true h1)
  unfold rofS
  rw [← h, e, if_neg (by omega)]
theorem rof_end {c : Int} {i : Nat} (hi : 16 ≤ i) (h : idxF (fun x => decide (x = c)) (signL.drop i) i = idxF (fun x => decide (x = c)) (signL.drop 1) 1) : 0 = rofS c := by
  have e : idxF (fun x => decide (x = c)) (signL.drop i) i = -1 := idxF_end (show signL.length ≤ i from hi)
  unfold rofS
  rw [← h, e, if_pos (by decide)]
theorem rof_next {c : Int} {i : Nat} (hi : i < 16) (h : idxF (fun x => decide (x = c)) (signL.drop i) i = idxF (fun x => decide (x = c)) (signL.drop 1) 1) (h1 : ¬ signL.getD i 0 = c) : idxF (fun x => decide (x = c)) (signL.drop (i + 1)) ((i + 1 : Nat) : Int) = idxF (fun x => decide (x = c)) (signL.drop 1) 1 := by
  rw [← h, idxF_next (n := i) (d := 0) (show i < signL.length from hi) (decide_eq_false h1)]
  rfl
theorem of_law (c : Int) : ofS c = rofS c := by
  unfold ofS rofS
  have e : idxF (fun x => decide (x = c)) signL 0 = bif decide (0 = c) then 0 else idxF (fun x => decide (x = c)) (signL.drop 1) 1 := rfl
  rw [e]
  by_cases h : 0 = c
  · subst h
    decide
  · rw [decide_eq_false h]
    rfl
theorem turn_mod (a : Int) : edTurn a = edTurn (a % 16) := by
  have h (i : Nat) (hi : i < 4) : a / 2 ^ i % 2 = a % 16 / 2 ^ i % 2 := by
    match i, hi with
    | 0, _ => simp only [Int.pow_zero]; omega
    | 1, _ => simp only [Int.pow_succ, Int.pow_zero]; omega
    | 2, _ => simp only [Int.pow_succ, Int.pow_zero]; omega
    | 3, _ => simp only [Int.pow_succ, Int.pow_zero]; omega
  unfold edTurn
  simp only [turnN]
  rw [h 0 (by decide), h 1 (by decide), h 2 (by decide), h 3 (by decide)]
theorem sixteen {p : Int → Prop} (h : ∀ n : Nat, n < 16 → p (n : Int)) (a : Int) : p (a % 16) := by
  have := h (a % 16).toNat (by omega)
  rwa [show (((a % 16).toNat : Nat) : Int) = a % 16 by omega] at this
theorem turn_law (a : Int) : edTurn a = redTurn a := by
  rw [turn_mod]
  have e : redTurn a = redTurn (a % 16) := by unfold redTurn; rw [show a % 16 % 16 = a % 16 by omega]
  rw [e]
  exact sixteen (p := fun n => edTurn n = redTurn n) (by decide +kernel) a
section
variable {s : TSheet} {u v : Int}
theorem rbord_off (h : offS s u v) : false = rborderS s u v := (if_pos h).symm
theorem rbord_hit {i : Nat} (h : ¬ offS s u v) (hi : i < (rregionsS s).length) (h1 : rinS s ((rregionsS s).getD i default) u v = true) : false = rborderS s u v := by
  unfold rborderS
  rw [if_neg h, any_hit (p := fun r => rinS s r u v) default hi h1]
  rfl
theorem rbord_end {i : Nat} (h : ¬ offS s u v) (hi : (rregionsS s).length ≤ i) (h1 : ((rregionsS s).take i).any (fun r => rinS s r u v) = false) : true = rborderS s u v := by
  unfold rborderS
  rw [if_neg h, any_end hi h1]
  rfl
theorem rarms_bad (h : ¬ rcheckSh s = 0) : rarmsS s u v = (0, rcheckSh s) := if_pos h
theorem rarms_far (h : ¬ ¬ rcheckSh s = 0) (h1 : offS s u v) : rarmsS s u v = (0, 4) := (if_neg h).trans (if_pos h1)
theorem rarms_no (h : ¬ ¬ rcheckSh s = 0) (h1 : ¬ offS s u v) (h2 : rborderS s u v = false) : rarmsS s u v = (0, 0) := (if_neg h).trans ((if_neg h1).trans (if_pos h2))
theorem rarms_ok (h : ¬ ¬ rcheckSh s = 0) (h1 : ¬ offS s u v) (h2 : rborderS s u v = true) : rarmsS s u v = (b2i (rborderS s (u + 1) v) 1 + b2i (rborderS s u (v + 1)) 2 + b2i (rborderS s (u - 1) v) 4 + b2i (rborderS s u (v - 1)) 8, 0) :=
  (if_neg h).trans ((if_neg h1).trans (if_neg (by rw [h2]; decide)))
end
theorem sign_bd (k : Nat) : 0 ≤ signL.getD k 0 ∧ signL.getD k 0 ≤ 10000 := by
  rcases Nat.lt_or_ge k 16 with h | h
  · have : ∀ k : Nat, k < 16 → 0 ≤ signL.getD k 0 ∧ signL.getD k 0 ≤ 10000 := by decide
    exact this k h
  · simp only [List.getD, signL]
    rw [List.getElem?_eq_none (by simpa using h)]
    decide
/-! ### regions, both ways -/
theorem rreg_law {s : TSheet} (h : SheetI s) (hc : checkSh s = 0) : rregionsS s = regionsS s := by
  have hg := good_of h hc
  unfold rregionsS regionsS
  rw [← check_law h, if_neg (by simp [hc]), if_neg (by simp [hc])]
  unfold rregUp regUp rregRow regRow
  have key : ∀ i j : Nat, i < s.Heights.length → j < s.Widths.length → rregAt s i j = regAt s i j := fun i j hi hj => by
    have := hg.hs
    have := hg.ws
    unfold rregAt regAt
    rw [← around_law h (row := (i : Int)) (col := (j : Int)) (by unfold I64; omega) (by unfold I64; omega)]
    simp [cornerS]
  have h2 : ∀ {l : List Nat} {f g : Nat → List TRect}, (∀ x ∈ l, f x = g x) → l.flatMap f = l.flatMap g := fun {l f g} hh => by
    induction l with
    | nil => rfl
    | cons a t ih => rw [List.flatMap_cons, List.flatMap_cons, hh a List.mem_cons_self, ih fun x hx => hh x (List.mem_cons_of_mem _ hx)]
  exact h2 fun i hi => h2 fun j hj => key i j (List.mem_range.1 hi) (List.mem_range.1 hj)
theorem fits_inside {s : TSheet} {r : TRect} (h : Fits s r) : insideS s.Widths.length s.Heights.length r = true := by
  unfold Fits at h
  exact inside_mk (by omega)
theorem rreg_inside {s : TSheet} (h : SheetI s) (hc : rcheckSh s = 0) {i : Nat} (hi : i < (rregionsS s).length) : insideS s.Widths.length s.Heights.length ((rregionsS s).getD i default) = true := by
  have hc' : checkSh s = 0 := by rw [check_law h]; exact hc
  rw [rreg_law h hc'] at hi ⊢
  exact fits_inside ((good_of h hc').at_fits hi)
end Go.Proofs.YtalpekmbknjeeaaG
