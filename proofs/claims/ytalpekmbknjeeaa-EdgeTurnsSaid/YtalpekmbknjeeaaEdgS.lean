/- Edges: what the functions compute, in plain Lean. -/
import Derived.Test.YtalpekmbknjeeaaSheW
import Derived.Test.YtalpekmbknjeeaaAxS
set_option linter.all false
namespace Go.Proofs.YtalpekmbknjeeaaG
open Go Go.RowKit
/-! ### the program's -/
def wayA : Ar4_Cx := ⟨⟨Fl.ofInt 1, Fl.ofInt 0⟩, ⟨Fl.ofInt 0, Fl.ofInt 1⟩, ⟨Fl.ofInt (-1), Fl.ofInt 0⟩, ⟨Fl.ofInt 0, Fl.ofInt (-1)⟩⟩
def wayN (i : Nat) : Cx := ([wayA.e0, wayA.e1, wayA.e2, wayA.e3] : List Cx).getD i default
theorem way_bd (i : Nat) : (wayN i).re.n.natAbs ≤ 1 ∧ (wayN i).im.n.natAbs ≤ 1 := by
  match i with
  | 0 => decide
  | 1 => decide
  | 2 => decide
  | 3 => decide
  | n + 4 => exact ⟨by simp [wayN, List.getD]; decide, by simp [wayN, List.getD]; decide⟩
def partsS (s : TSheet) (row col r c : Int) : Bool := (decide ((regionS s row col).2 = 0) || decide ((regionS s r c).2 = 0)) && !decide ((regionS s row col).1 = (regionS s r c).1)
def armS (x : TSpot) (way : Cx) : Bool :=
  if ¬ way.re.n = 0 ∧ x.across = true then x.down && partsS x.s (x.row - 1) (x.col + min way.re.n 0) x.row (x.col + min way.re.n 0)
  else if ¬ way.re.n = 0 then x.down && partsS x.s (x.row - 1) x.col x.row x.col
  else if x.down = true then x.across && partsS x.s (x.row + min way.im.n 0) (x.col - 1) (x.row + min way.im.n 0) x.col
  else x.across && partsS x.s x.row (x.col - 1) x.row x.col
def bitsN (f : Nat → Bool) : Nat → Int
  | 0 => 0
  | n + 1 => bitsN f n + if f n = true then 2 ^ n else 0
theorem bits_on {f : Nat → Bool} {i : Nat} (h : i < 4) (hf : f i = true) : Go.bits .or .i64 (bitsN f i) (1 * 2 ^ i) = bitsN f (i + 1) := by
  match i, h with
  | 0, _ => simp only [bitsN, hf]; decide
  | 1, _ => simp only [bitsN, hf]; cases f 0 <;> decide
  | 2, _ => simp only [bitsN, hf]; cases f 0 <;> cases f 1 <;> decide
  | 3, _ => simp only [bitsN, hf]; cases f 0 <;> cases f 1 <;> cases f 2 <;> decide
theorem bits_off {f : Nat → Bool} {i : Nat} (hf : f i = false) : bitsN f i = bitsN f (i + 1) := by simp [bitsN, hf]
theorem bits_bd {f : Nat → Bool} {i : Nat} (h : i ≤ 4) : 0 ≤ bitsN f i ∧ bitsN f i ≤ 15 := by
  match i, h with
  | 0, _ => simp [bitsN]
  | 1, _ => simp only [bitsN]; cases f 0 <;> decide
  | 2, _ => simp only [bitsN]; cases f 0 <;> cases f 1 <;> decide
  | 3, _ => simp only [bitsN]; cases f 0 <;> cases f 1 <;> cases f 2 <;> decide
  | 4, _ => simp only [bitsN]; cases f 0 <;> cases f 1 <;> cases f 2 <;> cases f 3 <;> decide
theorem pow_bd {i : Nat} (h : i < 4) : (1 : Int) ≤ 2 ^ i ∧ (2 : Int) ^ i ≤ 8 := by
  match i, h with
  | 0, _ => decide
  | 1, _ => decide
  | 2, _ => decide
  | 3, _ => decide
def spotO (s : TSheet) (u v : Int) : TSpot := ⟨s, (findS s.Widths u).1, (findS s.Heights v).1, decide ((findS s.Widths u).2 < 0), decide ((findS s.Heights v).2 < 0)⟩
def armsS (s : TSheet) (u v : Int) : Int × Int :=
  if ¬ checkSh s = 0 then (0, checkSh s) else if (findS s.Widths u).1 < 0 ∨ (findS s.Heights v).1 < 0 then (0, 4) else (bitsN (fun i => armS (spotO s u v) (wayN i)) 4, 0)
theorem arms_bad {s : TSheet} {u v : Int} (h : ¬ checkSh s = 0) : armsS s u v = (0, checkSh s) := if_pos h
theorem arms_far {s : TSheet} {u v : Int} (h : ¬ ¬ checkSh s = 0) (h1 : (findS s.Widths u).1 < 0 ∨ (findS s.Heights v).1 < 0) : armsS s u v = (0, 4) := (if_neg h).trans (if_pos h1)
theorem arms_ok {s : TSheet} {u v : Int} (h : ¬ ¬ checkSh s = 0) (h1 : ¬ ((findS s.Widths u).1 < 0 ∨ (findS s.Heights v).1 < 0)) {i : Nat} (hi : 4 ≤ i) (hi' : i ≤ 4) : armsS s u v = (bitsN (fun i => armS (spotO s u v) (wayN i)) i, 0) := by
  obtain rfl : i = 4 := by omega
  exact (if_neg h).trans (if_neg h1)
/-- A direction's place among the four. -/
def wayIx (w : Cx) : Int := idxF (fun x : Cx => ((w.re.n == x.re.n) && (w.im.n == x.im.n))) [wayA.e0, wayA.e1, wayA.e2, wayA.e3] 0
def mirW (w : Cx) : Cx := ⟨w.re.opp, w.im⟩
def turnN (a : Int) : Nat → Int
  | 0 => 0
  | n + 1 => if a / 2 ^ n % 2 = 1 then Go.bits .or .i64 (turnN a n) (1 * 2 ^ (wayIx (mirW (wayN n))).toNat) else turnN a n
def edTurn (a : Int) : Int := turnN a 4
def signL : List Int := [0, 9590, 9591, 9484, 9588, 9472, 9488, 9516, 9589, 9492, 9474, 9500, 9496, 9524, 9508, 9532]
def signA : Ar16_Int := ⟨0, 9590, 9591, 9484, 9588, 9472, 9488, 9516, 9589, 9492, 9474, 9500, 9496, 9524, 9508, 9532⟩
def glyphS (a : Int) : Int := signL.getD (a % 16).toNat 0
def ofS (c : Int) : Int := if idxF (fun x => decide (x = c)) signL 0 < 0 then 0 else idxF (fun x => decide (x = c)) signL 0
/-! ### the document's -/
def rregAt (s : TSheet) (i j : Nat) : List TRect := if (raroundS s i j).Row = i ∧ (raroundS s i j).Col = j then [raroundS s i j] else []
def rregRow (s : TSheet) (i n : Nat) : List TRect := (List.range n).flatMap (rregAt s i)
def rregUp (s : TSheet) (n : Nat) : List TRect := (List.range n).flatMap fun i => rregRow s i s.Widths.length
def rregionsS (s : TSheet) : List TRect := if rcheckSh s ≠ 0 then [] else rregUp s s.Heights.length
theorem rregUp_next (s : TSheet) (n : Nat) : rregUp s (n + 1) = rregUp s n ++ rregRow s n s.Widths.length := by simp [rregUp, List.range_succ]
theorem rregRow_next (s : TSheet) (i n : Nat) : rregRow s i (n + 1) = rregRow s i n ++ rregAt s i n := by simp [rregRow, List.range_succ]
theorem rregRow_len (s : TSheet) (i : Nat) : ∀ j : Nat, (rregRow s i j).length ≤ j
  | 0 => by simp [rregRow]
  | j + 1 => by
    have := rregRow_len s i j
    rw [rregRow_next, List.length_append]
    have : (rregAt s i j).length ≤ 1 := by unfold rregAt; split <;> simp
    omega
theorem rregUp_len (s : TSheet) (hw : s.Widths.length ≤ 16) : ∀ i : Nat, (rregUp s i).length ≤ 16 * i
  | 0 => by simp [rregUp]
  | i + 1 => by
    have := rregUp_len s hw i
    have := rregRow_len s i s.Widths.length
    rw [rregUp_next, List.length_append]
    omega
theorem rchk_small {s : TSheet} (h : rcheckSh s = 0) : s.Heights.length ≤ 24 ∧ s.Widths.length ≤ 16 ∧ s.Merges.length ≤ 12 := by
  unfold rcheckSh at h
  split at h
  · cases h
  · rename_i h1
    rw [Bool.not_eq_false] at h1
    unfold rlimitsS at h1
    split at h1
    · cases h1
    · omega
def slotsW (s : TSheet) : Int := ((slotsS s.Widths).length : Int)
def slotsH (s : TSheet) : Int := ((slotsS s.Heights).length : Int)
def rinS (s : TSheet) (r : TRect) (u v : Int) : Bool :=
  let a := (startsS s.Widths).getD r.Col.toNat 0; let b := (startsS s.Heights).getD r.Row.toNat 0
  decide (u ≥ a) && decide (u < a + (r.Cols - 1 + sumC s.Widths r.Col.toNat r.Cols.toNat)) && decide (v ≥ b) && decide (v < b + (r.Rows - 1 + sumC s.Heights r.Row.toNat r.Rows.toNat))
def offS (s : TSheet) (u v : Int) : Prop := u < 0 ∨ v < 0 ∨ u ≥ slotsW s ∨ v ≥ slotsH s
instance (s : TSheet) (u v : Int) : Decidable (offS s u v) := by unfold offS; infer_instance
def rborderS (s : TSheet) (u v : Int) : Bool := if offS s u v then false else !(rregionsS s).any fun r => rinS s r u v
def b2i (b : Bool) (n : Int) : Int := if b = true then n else 0
def rarmsS (s : TSheet) (u v : Int) : Int × Int :=
  if ¬ rcheckSh s = 0 then (0, rcheckSh s) else if offS s u v then (0, 4) else if rborderS s u v = false then (0, 0)
  else (b2i (rborderS s (u + 1) v) 1 + b2i (rborderS s u (v + 1)) 2 + b2i (rborderS s (u - 1) v) 4 + b2i (rborderS s u (v - 1)) 8, 0)
def redTurn (a : Int) : Int := if Go.bits .and .i64 (a % 16) 5 = 1 ∨ Go.bits .and .i64 (a % 16) 5 = 4 then Go.bits .xor .i64 (a % 16) 5 else a % 16
def rofS (c : Int) : Int := if idxF (fun x => decide (x = c)) (signL.drop 1) 1 < 0 then 0 else idxF (fun x => decide (x = c)) (signL.drop 1) 1
end Go.Proofs.YtalpekmbknjeeaaG
