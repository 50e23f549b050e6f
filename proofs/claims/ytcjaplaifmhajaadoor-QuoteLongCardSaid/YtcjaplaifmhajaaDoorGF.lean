/- Floating point at whole numbers below 2^52 in size: exact. -/
import Derived.Test.YtcjaplaifmhajaaDoorG3
import Derived.Laws.Cover2
import Derived.Laws.Cover3
set_option linter.all false
namespace Go.Proofs.YtcjaplaifmhajaaDoorG
open Go Ieee
/-- A whole number as a float; neg: the zero is the negative one. -/
structure Fl where
  n : Int
  neg : Bool
  deriving DecidableEq, Inhabited
def Fl.sgn (x : Fl) : Bool := if x.n = 0 then x.neg else decide (x.n < 0)
/-- The rung of a natural number. -/
def rungN (n : Nat) : Nat := if n = 0 then 0 else (n.log2 + 1022) * 2 ^ 52 + n * 2 ^ (52 - n.log2)
def Fl.bits (x : Fl) : Nat := Ieee.double.word x.sgn (rungN x.n.natAbs)
def lim52 : Int := 4503599627370496

theorem log2_mul_pow {n : Nat} (hn : n ≠ 0) (t : Nat) : (n * 2 ^ t).log2 = n.log2 + t := by
  rw [Nat.log2_eq_iff (by have := Nat.two_pow_pos t; exact Nat.mul_ne_zero hn (by omega))]
  have h1 := Nat.log2_self_le hn
  have h2 := Nat.lt_log2_self (n := n)
  refine ⟨?_, ?_⟩
  · rw [Nat.pow_add]; exact Nat.mul_le_mul_right _ h1
  · rw [show n.log2 + t + 1 = (n.log2 + 1) + t from by omega, Nat.pow_add]
    exact Nat.mul_lt_mul_of_pos_right h2 (Nat.two_pow_pos t)
theorem log2_lt52 {n : Nat} (h : n < 4503599627370496) : n.log2 < 52 := by
  by_cases hn : n = 0
  · subst hn; decide
  · rw [Nat.log2_lt hn]; simpa using h
theorem norm_ge {n : Nat} (hn : n ≠ 0) (h : n < 4503599627370496) : 2 ^ 52 ≤ n * 2 ^ (52 - n.log2) := by
  have h1 := Nat.log2_self_le hn
  have h2 := log2_lt52 h
  calc 2 ^ 52 = 2 ^ n.log2 * 2 ^ (52 - n.log2) := by rw [← Nat.pow_add]; congr 1; omega
    _ ≤ _ := Nat.mul_le_mul_right _ h1
theorem norm_lt {n : Nat} (h : n < 4503599627370496) : n * 2 ^ (52 - n.log2) < 2 ^ 53 := by
  have h1 := Nat.lt_log2_self (n := n)
  have h2 := log2_lt52 h
  calc n * 2 ^ (52 - n.log2) < 2 ^ (n.log2 + 1) * 2 ^ (52 - n.log2) := Nat.mul_lt_mul_of_pos_right h1 (Nat.two_pow_pos _)
    _ = 2 ^ 53 := by rw [← Nat.pow_add]; congr 1; omega
theorem cut_exact (neg : Bool) (m d : Nat) : Toward.even.cut neg (m * 2 ^ d) d = m := by
  by_cases hm : m = 0
  · subst hm
    simp [Toward.cut]
  · have hlog := log2_mul_pow hm d
    have hmin : min d ((m * 2 ^ d).log2 + 2) = d := by omega
    unfold Toward.cut
    rw [hmin]
    simp only [Nat.one_shiftLeft]
    rw [Nat.mul_div_cancel _ (Nat.two_pow_pos d), Nat.mul_mod_left]
    have : 0 < 2 ^ d := Nat.two_pow_pos d
    simp
theorem cut_zero (neg : Bool) (m : Nat) : Toward.even.cut neg m 0 = m := by simpa using cut_exact neg m 0
theorem rung_le {n : Nat} (h : n < 4503599627370496) : rungN n ≤ Ieee.double.infRung := by
  have h3 : Ieee.double.infRung = 9218868437227405312 := by decide
  unfold rungN
  split
  · exact Nat.zero_le _
  · have h1 : n * 2 ^ (52 - n.log2) < 9007199254740992 := norm_lt h
    have h2 := log2_lt52 h
    have h4 : (n.log2 + 1022) * 2 ^ 52 ≤ 4832362400168542208 := Nat.mul_le_mul_right (k := 2 ^ 52) (m := 1073) (by omega)
    generalize n * 2 ^ (52 - n.log2) = q at *
    generalize (n.log2 + 1022) * 2 ^ 52 = r at *
    omega
/-- What is exact is written exactly. -/
theorem nearest_exact (neg : Bool) (n t : Nat) (h : n < 4503599627370496) : Ieee.double.nearest neg (n * 2 ^ t) (-(t : Int)) = Ieee.double.word neg (rungN n) := by
  unfold Format.nearest
  by_cases hn : n = 0
  · subst hn; simp [rungN]
  · have hb := log2_lt52 h
    have hm : n * 2 ^ t ≠ 0 := Nat.mul_ne_zero hn (by have := Nat.two_pow_pos t; omega)
    rw [if_neg hm]
    have hlog := log2_mul_pow hn t
    have hlast : max (-(t : Int) + ((n * 2 ^ t).log2 : Nat) - (Ieee.double.fractionBits : Nat)) Ieee.double.leastPlace = (n.log2 : Int) - 52 := by
      rw [hlog]
      have h1 : Ieee.double.leastPlace = -1074 := by decide
      have h2 : Ieee.double.fractionBits = 52 := rfl
      rw [h1, h2]
      omega
    simp only [hlast]
    have hkept : Toward.even.cut neg ((n * 2 ^ t) <<< (-(t : Int) - ((n.log2 : Int) - 52)).toNat) (((n.log2 : Int) - 52) - -(t : Int)).toNat = n * 2 ^ (52 - n.log2) := by
      by_cases hc : t + n.log2 ≤ 52
      · rw [show (((n.log2 : Int) - 52) - -(t : Int)).toNat = 0 from by omega, cut_zero, show (-(t : Int) - ((n.log2 : Int) - 52)).toNat = 52 - n.log2 - t from by omega, Nat.shiftLeft_eq, Nat.mul_assoc, ← Nat.pow_add]
        congr 2
        omega
      · rw [show (-(t : Int) - ((n.log2 : Int) - 52)).toNat = 0 from by omega, show (((n.log2 : Int) - 52) - -(t : Int)).toNat = t + n.log2 - 52 from by omega, Nat.shiftLeft_zero]
        have : n * 2 ^ t = (n * 2 ^ (52 - n.log2)) * 2 ^ (t + n.log2 - 52) := by
          rw [Nat.mul_assoc, ← Nat.pow_add]
          congr 2
          omega
        rw [this, cut_exact]
    rw [hkept]
    have hl : Ieee.double.leastPlace = -1074 := by decide
    have hr : (((n.log2 : Int) - 52) - Ieee.double.leastPlace).toNat * Ieee.double.binade + n * 2 ^ (52 - n.log2) = rungN n := by
      have e0 : ∀ (a b c d e : Nat), a = c → b = d → a * b + e = c * d + e := fun a b c d e h1 h2 => by rw [h1, h2]
      have e1 : (((n.log2 : Int) - 52) - Ieee.double.leastPlace).toNat = n.log2 + 1022 := by rw [hl]; omega
      have e2 : Ieee.double.binade = 2 ^ 52 := by decide
      have e3 : rungN n = (n.log2 + 1022) * 2 ^ 52 + n * 2 ^ (52 - n.log2) := by unfold rungN; rw [if_neg hn]
      rw [e3]
      exact e0 _ _ _ _ _ e1 e2
    rw [hr]
    rw [Nat.min_eq_left (rung_le h)]
/-- What was written is read. -/
def Fl.place (x : Fl) : Int := if x.n = 0 then -1074 else (x.n.natAbs.log2 : Int) - 52
def Fl.datum (x : Fl) : Datum := .number x.sgn (x.n.natAbs * 2 ^ (-x.place).toNat) x.place
theorem read_word (neg : Bool) (r : Nat) (h : r < Ieee.double.infRung) : Ieee.double.read (Ieee.double.word neg r) = if r < Ieee.double.binade then .number neg r Ieee.double.leastPlace else
    .number neg (Ieee.double.binade + r % Ieee.double.binade) (Ieee.double.leastPlace + (r / Ieee.double.binade - 1 : Nat)) := by
  have h1 : Ieee.double.infRung = 9218868437227405312 := by decide
  have h2 : Ieee.double.signWeight = 9223372036854775808 := by decide
  have h3 : (Ieee.double.word neg r / Ieee.double.signWeight % 2 == 1) = neg := by
    unfold Format.word
    cases neg
    · simp only [Bool.false_eq_true, if_false]; rw [h2, Nat.div_eq_of_lt (by omega)]; rfl
    · simp only [if_true]; rw [h2, show (9223372036854775808 + r) / 9223372036854775808 = 1 from by omega]; rfl
  have h4 : Ieee.double.word neg r % Ieee.double.signWeight = r := by
    unfold Format.word
    cases neg
    · simp only [Bool.false_eq_true, if_false]; rw [h2]; omega
    · simp only [if_true]; rw [h2]; omega
  unfold Format.read
  simp only [h3, h4]
  by_cases hb : r < Ieee.double.binade
  · rw [if_pos hb, if_pos hb]
  · rw [if_neg hb, if_neg hb, if_pos h]
theorem read_bits (x : Fl) (h : x.n.natAbs < 4503599627370496) : Ieee.double.read x.bits = x.datum := by
  have hbin : Ieee.double.binade = 2 ^ 52 := by decide
  have hl : Ieee.double.leastPlace = -1074 := by decide
  have hinf : Ieee.double.infRung = 2047 * 2 ^ 52 := by decide
  unfold Fl.bits Fl.datum Fl.place
  by_cases hn : x.n = 0
  · have h0 : rungN x.n.natAbs = 0 := by rw [hn]; rfl
    rw [h0, read_word _ _ (by rw [hinf]; decide), hbin, if_pos (by decide), hl, if_pos hn, hn]
    rw [Int.natAbs_zero, Nat.zero_mul]
  · have hna : x.n.natAbs ≠ 0 := by omega
    have h1 := norm_ge hna h
    have h2 := norm_lt h
    have h3 := log2_lt52 h
    have hr : rungN x.n.natAbs = (x.n.natAbs.log2 + 1022) * 2 ^ 52 + x.n.natAbs * 2 ^ (52 - x.n.natAbs.log2) := by unfold rungN; rw [if_neg hna]
    have hge : 2 ^ 52 ≤ rungN x.n.natAbs := by rw [hr]; omega
    have h4 : (x.n.natAbs.log2 + 1022) * 2 ^ 52 ≤ 1073 * 2 ^ 52 := Nat.mul_le_mul_right _ (by omega)
    have hlt : rungN x.n.natAbs < Ieee.double.infRung := by rw [hr, hinf]; omega
    rw [read_word _ _ hlt, hbin, if_neg (by omega), if_neg hn, hl]
    have hdiv : rungN x.n.natAbs / 2 ^ 52 = x.n.natAbs.log2 + 1023 := by rw [hr]; omega
    have hmod : rungN x.n.natAbs % 2 ^ 52 = x.n.natAbs * 2 ^ (52 - x.n.natAbs.log2) - 2 ^ 52 := by rw [hr]; omega
    rw [hdiv, hmod, show (-((x.n.natAbs.log2 : Int) - 52)).toNat = 52 - x.n.natAbs.log2 from by omega, show 2 ^ 52 + (x.n.natAbs * 2 ^ (52 - x.n.natAbs.log2) - 2 ^ 52) = x.n.natAbs * 2 ^ (52 - x.n.natAbs.log2) from by omega,
      show (-1074 : Int) + ((x.n.natAbs.log2 + 1023 - 1 : Nat) : Int) = (x.n.natAbs.log2 : Int) - 52 from by omega]
theorem place_le (x : Fl) (h : x.n.natAbs < 4503599627370496) : x.place ≤ 0 := by
  have := log2_lt52 h
  unfold Fl.place
  split <;> omega
theorem signed_sgn (x : Fl) (u : Nat) : Ieee.signed x.sgn (x.n.natAbs * 2 ^ u) 0 = x.n * 2 ^ u := by
  unfold Ieee.signed Fl.sgn
  rw [Nat.shiftLeft_zero]
  by_cases h0 : x.n = 0
  · rw [h0]; simp
  · rw [if_neg h0]
    by_cases hneg : x.n < 0
    · rw [if_pos (by simpa using hneg)]
      push_cast
      rw [show ((x.n.natAbs : Nat) : Int) = -x.n from by omega]
      rw [Int.neg_mul, Int.neg_neg]
    · rw [if_neg (by simpa using hneg)]
      push_cast
      rw [show ((x.n.natAbs : Nat) : Int) = x.n from by omega]
theorem signed_at (x : Fl) (base : Int) (hp : x.place ≤ 0) (hb : base ≤ x.place) : Ieee.signed x.sgn (x.n.natAbs * 2 ^ (-x.place).toNat) (x.place - base).toNat = x.n * 2 ^ (-base).toNat := by
  have h1 := signed_sgn x (-base).toNat
  rw [← h1]
  unfold Ieee.signed
  rw [Nat.shiftLeft_eq, Nat.shiftLeft_zero, Nat.mul_assoc, ← Nat.pow_add, show (-x.place).toNat + (x.place - base).toNat = (-base).toNat from by omega]
def Fl.add (x y : Fl) : Fl := ⟨x.n + y.n, x.sgn && y.sgn⟩
def Fl.opp (x : Fl) : Fl := ⟨-x.n, !x.neg⟩
def Fl.sub (x y : Fl) : Fl := x.add y.opp
def Fl.ofInt (n : Int) : Fl := ⟨n, false⟩
theorem opp_sgn (x : Fl) : x.opp.sgn = !x.sgn := by
  unfold Fl.opp Fl.sgn
  by_cases h : x.n = 0
  · simp [h]
  · have : ¬ -x.n = 0 := by omega
    simp only [h, this, if_false]
    by_cases h2 : x.n < 0
    · simp [h2]; omega
    · simp [h2]; omega
theorem opp_datum (x : Fl) : x.opp.datum = x.datum.opposite := by
  unfold Fl.datum Datum.opposite
  simp only [opp_sgn]
  have h1 : x.opp.n.natAbs = x.n.natAbs := by simp [Fl.opp]
  have h2 : x.opp.place = x.place := by
    unfold Fl.place
    rw [h1]
    have : x.opp.n = 0 ↔ x.n = 0 := by simp only [Fl.opp]; omega
    by_cases h : x.n = 0
    · rw [if_pos h, if_pos (this.2 h)]
    · rw [if_neg h, if_neg (fun hh => h (this.1 hh))]
  rw [h1, h2]
theorem write_value (s : Bool) (v : Int) (t : Nat) (h : v.natAbs < 4503599627370496) : Ieee.double.write (.number s (v * 2 ^ t).natAbs (-(t : Int))) = Ieee.double.word s (rungN v.natAbs) := by
  unfold Format.write
  rw [Int.natAbs_mul, show ((2 : Int) ^ t).natAbs = 2 ^ t from by rw [Int.natAbs_pow]; rfl]
  exact nearest_exact s v.natAbs t h
theorem sum_datum (x y : Fl) (hx : x.n.natAbs < 4503599627370496) (hy : y.n.natAbs < 4503599627370496) (hs : (x.n + y.n).natAbs < 4503599627370496) :
    (x.datum.sum y.datum).map Ieee.double.write = some (x.add y).bits := by
  have hxp := place_le x hx
  have hyp := place_le y hy
  unfold Fl.datum Datum.sum
  simp only [Option.map_some]
  rw [signed_at x (min x.place y.place) hxp (by omega), signed_at y (min x.place y.place) hyp (by omega), ← Int.add_mul]
  have hb : (min x.place y.place) = -(((-(min x.place y.place)).toNat : Nat) : Int) := by omega
  generalize ht : (-(min x.place y.place)).toNat = t at *
  rw [hb, write_value _ _ _ hs]
  unfold Fl.bits
  have hpow : (2 : Int) ^ t > 0 := Int.pow_pos (by decide)
  have h0 : (x.n + y.n) * 2 ^ t = 0 ↔ x.n + y.n = 0 := by
    constructor
    · intro h
      rcases Int.mul_eq_zero.1 h with h | h
      · exact h
      · omega
    · intro h; rw [h]; simp
  congr 2
  unfold Fl.add
  show _ = Fl.sgn ⟨x.n + y.n, x.sgn && y.sgn⟩
  by_cases hz : x.n + y.n = 0
  · rw [if_pos (h0.2 hz)]; simp [Fl.sgn, hz]
  · rw [if_neg (fun h => hz (h0.1 h))]
    simp only [Fl.sgn, hz, if_false]
    by_cases hneg : x.n + y.n < 0
    · simp [hneg, Int.mul_neg_of_neg_of_pos hneg hpow]
    · have := Int.mul_nonneg (show 0 ≤ x.n + y.n by omega) (Int.le_of_lt hpow)
      simp only [hneg, decide_false]
      simp; omega
theorem add_bits (x y : Fl) (hx : x.n.natAbs < 4503599627370496) (hy : y.n.natAbs < 4503599627370496) (hs : (x.n + y.n).natAbs < 4503599627370496) : Ieee.double.add x.bits y.bits = some (x.add y).bits := by
  unfold Format.add
  rw [read_bits x hx, read_bits y hy]
  exact sum_datum x y hx hy hs
theorem sub_bits (x y : Fl) (hx : x.n.natAbs < 4503599627370496) (hy : y.n.natAbs < 4503599627370496) (hs : (x.n - y.n).natAbs < 4503599627370496) : Ieee.double.sub x.bits y.bits = some (x.sub y).bits := by
  unfold Format.sub
  rw [read_bits x hx, read_bits y hy, ← opp_datum]
  exact sum_datum x y.opp hx (by simpa [Fl.opp] using hy) (by simpa [Fl.opp, Int.sub_eq_add_neg] using hs)
theorem order_bits (x y : Fl) (hx : x.n.natAbs < 4503599627370496) (hy : y.n.natAbs < 4503599627370496) : Ieee.double.order x.bits y.bits = some (compare x.n y.n) := by
  have hxp := place_le x hx
  have hyp := place_le y hy
  unfold Format.order
  rw [read_bits x hx, read_bits y hy]
  unfold Fl.datum Datum.order
  simp only
  rw [signed_at x (min x.place y.place) hxp (by omega), signed_at y (min x.place y.place) hyp (by omega)]
  have hpow : (2 : Int) ^ (-(min x.place y.place)).toNat > 0 := Int.pow_pos (by decide)
  generalize (2 : Int) ^ (-(min x.place y.place)).toNat = p at *
  congr 1
  unfold compare instOrdInt compareOfLessAndEq
  have e1 : x.n * p < y.n * p ↔ x.n < y.n := Int.mul_lt_mul_right hpow
  have e2 : x.n * p = y.n * p ↔ x.n = y.n := by
    constructor
    · intro h
      exact Int.eq_of_mul_eq_mul_right (by omega) h
    · intro h; rw [h]
  simp only [e1, e2]
theorem eq_bits (x y : Fl) (hx : x.n.natAbs < 4503599627370496) (hy : y.n.natAbs < 4503599627370496) : (Ieee.double.order x.bits y.bits == some .eq) = (x.n == y.n) := by
  rw [order_bits x y hx hy, Bool.eq_iff_iff]
  simp
theorem ofInt_bits (n : Int) (h : n.natAbs < 4503599627370496) : FloatKind.f64.nearest n = (Fl.ofInt n).bits := by
  unfold FloatKind.nearest FloatKind.encode FloatKind.format
  have := nearest_exact (decide (n < 0)) n.natAbs 0 h
  simp only [Format.write]
  simp at this
  rw [this]
  unfold Fl.bits Fl.sgn Fl.ofInt
  by_cases h0 : n = 0
  · subst h0; rfl
  · simp [h0]
theorem toInt_datum (x : Fl) (hx : x.n.natAbs < 4503599627370496) : x.datum.toInt .zero = some x.n := by
  have hp := place_le x hx
  unfold Fl.datum Datum.toInt Datum.integral
  simp only
  rw [show x.place.toNat = 0 from by omega, Nat.shiftLeft_zero]
  have : Toward.zero.cut x.sgn (x.n.natAbs * 2 ^ (-x.place).toNat) (-x.place).toNat = x.n.natAbs := by
    generalize (-x.place).toNat = d
    by_cases hm : x.n.natAbs = 0
    · rw [hm]; simp [Toward.cut]
    · have hlog := log2_mul_pow hm d
      unfold Toward.cut
      rw [show min d ((x.n.natAbs * 2 ^ d).log2 + 2) = d from by omega]
      simp only [Nat.one_shiftLeft]
      rw [Nat.mul_div_cancel _ (Nat.two_pow_pos d)]
      simp
  rw [this]
  have h2 := signed_sgn x 0
  simp at h2
  rw [h2]
end Go.Proofs.YtcjaplaifmhajaaDoorG
