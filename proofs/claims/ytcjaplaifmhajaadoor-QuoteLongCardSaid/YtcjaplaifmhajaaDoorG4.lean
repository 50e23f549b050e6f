/- Small steps for printed walks. -/
import Derived.Test.YtcjaplaifmhajaaDoorGF
import Derived.Laws.Entries
import Derived.Laws.Small
import Derived.Laws.FloatArith
set_option linter.all false
namespace Go.Proofs.YtcjaplaifmhajaaDoorG
open Go Go.RowKit
section
variable {P : Program} {N : Nat} {ops : Array Oper} {Q : Exit → Act → World → Prop} {o : Oper} {f : Fr} {w : World} {k : Value → World → Prop}
theorem C_ite {x y : Code} {c : Operand} {b : Bool} (hev : ev f c = some (.bool b)) (h1 : b = true → C P N Q x f w) (h2 : b = false → C P N Q y f w) : C P N Q (.cond c x y) f w := by
  cases b with
  | true => exact C_if hev rfl (h1 rfl)
  | false => exact C_else hev rfl (h2 rfl)
theorem C_fr (g : Fr) {c : Code} (hg : sub (g.map (·.1)) f = g) (h : C P N Q c g w) : C P N Q c f w := C_sub (g.map (·.1)) (by rw [hg]; exact h)
theorem W_split {t : Nat} {b : Bool} {l : List Oper} (hev : look f t = some (.bool b)) (h1 : b = true → W P N ops Q l f w) (h2 : b = false → W P N ops Q l f w) : W P N ops Q l f w := by
  cases b with
  | true => exact h1 rfl
  | false => exact h2 rfl
theorem R_pick_t {c x y : Operand} {b : Bool} {v : Value} (ho : o.op = .pick c x y) (hc : ev f c = some (.bool b)) (hb : b = true) (hx : ev f x = some v) : Runs P o f w v w := R_pick (u := v) ho hc (fun _ => hx) (fun h => by rw [hb] at h; cases h)
theorem R_pick_f {c x y : Operand} {b : Bool} {v : Value} (ho : o.op = .pick c x y) (hc : ev f c = some (.bool b)) (hb : b = false) (hy : ev f y = some v) : Runs P o f w v w := R_pick (u := v) ho hc (fun h => by rw [hb] at h; cases h) (fun _ => hy)
theorem Sv_gt {j t : Nat} {b b' : Bool} (hg : o.guard = some (j, b)) (hj : (ops[j]?).bind (·.dst) = some t) (ht : look f t = some (.bool b')) (hb : b' = b)
    (h : Sv P N ops Q { o with guard := none } f w k) : Sv P N ops Q o f w k := by
  intro a ha
  have h1 := h a ha
  subst hb
  unfold Op1 at *
  rw [if_pos (by simp [Region.wanted])] at h1
  rw [if_pos (by simp [Region.wanted, hg, yielded_of ha hj ht])]
  exact h1
theorem Sv_on_call {j t g : Nat} {b b' : Bool} {l : List Operand} {ts : Array TypeId} {vs : List Value} (hg : o.guard = some (j, b)) (hj : (ops[j]?).bind (·.dst) = some t) (ht : look f t = some (.bool b')) (hb : b' = b)
    (ho : o.op = .call { callee := .value (.func g), args := l.toArray, argTypes := ts }) (hx : evs f l = some vs) (hf : ∀ args w, (callFunc g args).run P w = .ok (.enter g args) w)
    (h : Calls P g vs.toArray w fun e w' => ∃ v, e = .returned v ∧ k v w') : Sv P N ops Q o f w k := Sv_on hg hj ht hb (wp_call ho hx hf h)
/-! ### numbers -/
theorem wrap_id {n : Int} (h1 : -9223372036854775808 ≤ n) (h2 : n ≤ 9223372036854775807) : IntKind.i64.wrap n = n := by
  rw [IntKind.wrap_i64]; omega
theorem and_mask64 (n : Int) (k : Nat) (m : Int) (hk : k < 63) (hm : m = ((2 ^ k - 1 : Nat) : Int)) : Go.bits .and .i64 n m = n % ((2 ^ k : Nat) : Int) := by
  have hp : (2 : Nat) ^ k ≤ 2 ^ 62 := Nat.pow_le_pow_right (by decide) (by omega)
  have hp0 : 0 < (2 : Nat) ^ k := Nat.pow_pos (by decide)
  have hp2 : (2 : Nat) ^ 62 = 4611686018427387904 := by decide
  have hd : ((2 ^ k : Nat) : Int) ∣ (18446744073709551616 : Int) := by
    have : (2 : Nat) ^ k ∣ 2 ^ 64 := Nat.pow_dvd_pow 2 (by omega)
    have h3 := Int.natCast_dvd_natCast.2 this
    simpa using h3
  have h1 : (BitVec.ofInt 64 n &&& BitVec.ofInt 64 m).toNat = (n % ((2 ^ k : Nat) : Int)).toNat := by
    rw [BitVec.toNat_and, BitVec.toNat_ofInt, BitVec.toNat_ofInt, hm]
    have h2 : ((((2 ^ k - 1 : Nat) : Int)) % ((2 ^ 64 : Nat) : Int)).toNat = 2 ^ k - 1 := by
      have : ((2 ^ 64 : Nat) : Int) = 18446744073709551616 := by decide
      rw [this, Int.emod_eq_of_lt (by omega) (by omega)]
      omega
    rw [h2, Nat.and_two_pow_sub_one_eq_mod]
    have h3 : ((2 ^ 64 : Nat) : Int) = 18446744073709551616 := by decide
    rw [h3]
    have h4 := Int.emod_emod_of_dvd n hd
    have h5 : 0 ≤ n % (18446744073709551616 : Int) := Int.emod_nonneg _ (by decide)
    apply Int.ofNat.inj
    show (((n % 18446744073709551616).toNat % 2 ^ k : Nat) : Int) = ((n % ((2 ^ k : Nat) : Int)).toNat : Int)
    rw [Int.natCast_emod, Int.toNat_of_nonneg h5, Int.toNat_of_nonneg (Int.emod_nonneg _ (by omega)), h4]
  have h6 : 0 ≤ n % ((2 ^ k : Nat) : Int) := Int.emod_nonneg _ (by omega)
  have h7 : n % ((2 ^ k : Nat) : Int) < ((2 ^ k : Nat) : Int) := Int.emod_lt_of_pos _ (by omega)
  show IntKind.i64.wrap ((BitVec.ofInt 64 n &&& BitVec.ofInt 64 m).toNat : Int) = _
  rw [h1, Int.toNat_of_nonneg h6]
  exact wrap_id (by omega) (by omega)
theorem R_add64 {T T' : TypeId} {x y : Operand} {m n : Int} (ho : o.op = .binOp .add T x y T') (hx : ev f x = some (.int .i64 m)) (hy : ev f y = some (.int .i64 n)) (h1 : -9223372036854775808 ≤ m + n) (h2 : m + n ≤ 9223372036854775807) : Runs P o f w (.int .i64 (m + n)) w := by
  have := R_bin (P := P) (o := o) (f := f) (w := w) (r := .int .i64 (IntKind.i64.wrap (m + n))) ho hx hy rfl rfl
  rwa [wrap_id h1 h2] at this
theorem R_sub64 {T T' : TypeId} {x y : Operand} {m n : Int} (ho : o.op = .binOp .sub T x y T') (hx : ev f x = some (.int .i64 m)) (hy : ev f y = some (.int .i64 n)) (h1 : -9223372036854775808 ≤ m - n) (h2 : m - n ≤ 9223372036854775807) : Runs P o f w (.int .i64 (m - n)) w := by
  have := R_bin (P := P) (o := o) (f := f) (w := w) (r := .int .i64 (IntKind.i64.wrap (m - n))) ho hx hy rfl rfl
  rwa [wrap_id h1 h2] at this
theorem R_mul64 {T T' : TypeId} {x y : Operand} {m n : Int} (ho : o.op = .binOp .mul T x y T') (hx : ev f x = some (.int .i64 m)) (hy : ev f y = some (.int .i64 n)) (h1 : -9223372036854775808 ≤ m * n) (h2 : m * n ≤ 9223372036854775807) : Runs P o f w (.int .i64 (m * n)) w := by
  have := R_bin (P := P) (o := o) (f := f) (w := w) (r := .int .i64 (IntKind.i64.wrap (m * n))) ho hx hy rfl rfl
  rwa [wrap_id h1 h2] at this
theorem R_neg64 {T : TypeId} {x : Operand} {m : Int} (ho : o.op = .unOp .neg T x) (hx : ev f x = some (.int .i64 m)) (h1 : -9223372036854775807 ≤ m ∧ m ≤ 9223372036854775807) : Runs P o f w (.int .i64 (-m)) w := by
  have := R_un (P := P) (o := o) (f := f) (w := w) (r := .int .i64 (IntKind.i64.wrap (0 - m))) ho hx rfl
  rwa [wrap_id (by omega) (by omega), Int.zero_sub] at this
theorem tdiv_pos {m n : Int} (h0 : 0 ≤ m) : m.tdiv n = m / n := Int.tdiv_eq_ediv_of_nonneg h0
theorem R_quo64 {T T' : TypeId} {x y : Operand} {m n : Int} (ho : o.op = .binOp .quo T x y T') (hx : ev f x = some (.int .i64 m)) (hy : ev f y = some (.int .i64 n)) (h0 : 0 ≤ m) (h1 : 0 < n) (h2 : m ≤ 9223372036854775807) : Runs P o f w (.int .i64 (m / n)) w := by
  have hd : (binOp .quo T (.int .i64 m) (.int .i64 n)).run P w = .ok (.int .i64 (m / n)) w := by
    have hne : n ≠ 0 := by omega
    have h4 : 0 ≤ m / n := Int.ediv_nonneg h0 (by omega)
    have h5 : m / n ≤ m := Int.ediv_le_self n h0
    simp [binOp, Op.intDiv, hne, tdiv_pos h0, wrap_id (n := m / n) (by omega) (by omega)]
  exact R_bin ho hx hy rfl hd
theorem R_rem64 {T T' : TypeId} {x y : Operand} {m n : Int} (ho : o.op = .binOp .rem T x y T') (hx : ev f x = some (.int .i64 m)) (hy : ev f y = some (.int .i64 n)) (h0 : 0 ≤ m) (h1 : 0 < n) (_h2 : m ≤ 9223372036854775807) : Runs P o f w (.int .i64 (m % n)) w := by
  have hd : (binOp .rem T (.int .i64 m) (.int .i64 n)).run P w = .ok (.int .i64 (m % n)) w := by
    have hne : n ≠ 0 := by omega
    simp [binOp, Op.intDiv, hne, Int.tmod_eq_emod_of_nonneg h0]
  exact R_bin ho hx hy rfl hd
theorem R_min {ts : Array TypeId} {x y : Operand} {q : IntKind} {m n : Int} (ho : o.op = .call { callee := .builtin .min, args := #[x, y], argTypes := ts }) (hx : evs f [x, y] = some [.int q m, .int q n]) : Runs P o f w (.int q (min m n)) w := by
  have h := R_builtin (P := P) (o := o) (f := f) (w := w) (w' := w) (l := [x, y]) (r := .int q (if n < m then n else m)) ho hx rfl
  have e : (if n < m then n else m) = min m n := by split <;> omega
  rwa [e] at h
theorem R_max {ts : Array TypeId} {x y : Operand} {q : IntKind} {m n : Int} (ho : o.op = .call { callee := .builtin .max, args := #[x, y], argTypes := ts }) (hx : evs f [x, y] = some [.int q m, .int q n]) : Runs P o f w (.int q (max m n)) w := by
  have h := R_builtin (P := P) (o := o) (f := f) (w := w) (w' := w) (l := [x, y]) (r := .int q (if n > m then n else m)) ho hx rfl
  have e : (if n > m then n else m) = max m n := by split <;> omega
  rwa [e] at h
theorem R_len {T : TypeId} {x : Operand} {d : Option TypeDesc} {A : Option Addr} {n c : Nat} (ho : o.op = .call { callee := .builtin .len, args := #[x], argTypes := #[T] }) (hx : evs f [x] = some [.slice A n c]) (hT : P.underlying T = d) {e : TypeId} (hd : d = some (.slice e) := by rfl) : Runs P o f w (.int .i64 (n : Int)) w := by
  subst hd
  refine R_builtin (l := [x]) ho hx ?_
  simp [builtin, Builtin.len_, run_underlying hT]
  rfl
theorem R_strlen {T : TypeId} {x : Operand} {d : Option TypeDesc} {s : St} (ho : o.op = .call { callee := .builtin .len, args := #[x], argTypes := #[T] }) (hx : evs f [x] = some [vstr s]) (hT : P.underlying T = d) (hd : d = some .string := by rfl) : Runs P o f w (.int .i64 (s.length : Int)) w := by
  subst hd
  refine R_builtin (l := [x]) ho hx ?_
  have h := run_len_string (P := P) (w := w) T o.type ⟨s.toArray⟩ hT
  unfold builtin
  simp only [Sem.run_bind]
  show ((Builtin.len_ #[T] o.type #[.string ⟨s.toArray⟩]).run P w).andThen _ = _
  rw [h]
  rfl
theorem wrap_u64 {n : Int} (h1 : 0 ≤ n) (h2 : n < 18446744073709551616) : IntKind.u64.wrap n = n := by
  unfold IntKind.wrap
  simp [IntKind.signed, IntKind.bits]
  omega
theorem wrap_u8 {n : Int} (h1 : 0 ≤ n) (h2 : n < 256) : IntKind.u8.wrap n = n := by
  unfold IntKind.wrap
  simp [IntKind.signed, IntKind.bits]
  omega
theorem R_convi {s d : TypeId} {x : Operand} {a b : Option TypeDesc} {q r : IntKind} {n : Int} (ho : o.op = .convert s d x) (hx : ev f x = some (.int q n)) (hS : P.underlying s = a) (hT : P.underlying d = b) (hw : r.wrap n = n) (ha : a.isSome = true := by rfl) (hb : b = some (.int r) := by rfl) : Runs P o f w (.int r n) w := by
  subst hb
  subst hS
  refine R_conv ho hx ?_
  obtain ⟨d', hd⟩ := Option.isSome_iff_exists.1 ha
  cases d' <;> simp [convert, run_underlying hd, run_underlying hT, Conv.intToInt, hw]
theorem R_shr {T T' : TypeId} {x y : Operand} {q r : IntKind} {m n : Int} (ho : o.op = .binOp .shr T x y T') (hx : ev f x = some (.int q m)) (hy : ev f y = some (.int r n)) (h0 : 0 ≤ n) (h1 : n.toNat ≤ q.bits) : Runs P o f w (.int q (m / 2 ^ n.toNat)) w := by
  refine R_bin ho hx hy rfl ?_
  have hn : ¬ n < 0 := by omega
  have hp : (0 : Int) ≤ 2 ^ n.toNat := Int.pow_nonneg (by decide)
  simp [binOp, Op.shift, hn, Nat.min_eq_left h1, Int.fdiv_eq_ediv_of_nonneg m hp]
theorem R_shl {T T' : TypeId} {x y : Operand} {q r : IntKind} {m n : Int} (ho : o.op = .binOp .shl T x y T') (hx : ev f x = some (.int q m)) (hy : ev f y = some (.int r n)) (h0 : 0 ≤ n) (h1 : n.toNat ≤ q.bits) (hw : q.wrap (m * 2 ^ n.toNat) = m * 2 ^ n.toNat) : Runs P o f w (.int q (m * 2 ^ n.toNat)) w := by
  refine R_bin ho hx hy rfl ?_
  have hn : ¬ n < 0 := by omega
  simp [binOp, Op.shift, hn, Nat.min_eq_left h1, hw]
/-! ### strings -/
theorem R_stridx {T : TypeId} {x i : Operand} {d : Option TypeDesc} {s : St} {q : IntKind} {iv : Int} (ho : o.op = .index T x i) (hx : ev f x = some (vstr s)) (hi : ev f i = some (.int q iv)) (hT : P.underlying T = d) (h0 : 0 ≤ iv) (h1 : iv < s.length) (hd : d = some .string := by rfl) :
    Runs P o f w (.int .u8 ((s.getD iv.toNat 0).toNat : Int)) w := by
  subst hd
  intro e he
  have hlt : iv.toNat < s.length := by omega
  have h2 : 0 ≤ iv ∧ iv < ((⟨s.toArray⟩ : ByteArray).size : Int) := ⟨h0, h1⟩
  have h := run_index_string (P := P) (w := w) T ⟨s.toArray⟩ q iv hT
  rw [dif_pos h2] at h
  have h3 : (⟨s.toArray⟩ : ByteArray)[iv.toNat]'(by have := h2.2; omega) = s.getD iv.toNat 0 := by
    show s.toArray[iv.toNat]'(by simpa using hlt) = _
    simp [List.getD, hlt]
  rw [h3] at h
  simp [execOp, ho, he x _ hx, he i _ hi, h]
theorem ba_eq {a b : St} : ((⟨a.toArray⟩ : ByteArray) = ⟨b.toArray⟩) ↔ a = b := by simp
theorem R_streql {T T' : TypeId} {x y : Operand} {a b : St} (ho : o.op = .binOp .eql T x y T') (hx : ev f x = some (vstr a)) (hy : ev f y = some (vstr b)) : Runs P o f w (.bool (decide (a = b))) w := by
  refine R_bin ho hx hy rfl ?_
  show Result.ok _ _ = _
  congr 2
  rw [Bool.eq_iff_iff]
  simp
theorem R_strneq {T T' : TypeId} {x y : Operand} {a b : St} (ho : o.op = .binOp .neq T x y T') (hx : ev f x = some (vstr a)) (hy : ev f y = some (vstr b)) : Runs P o f w (.bool (!decide (a = b))) w := by
  refine R_bin ho hx hy rfl ?_
  show Result.ok _ _ = _
  congr 2
  rw [Bool.eq_iff_iff]
  simp
/-! ### floats -/
structure Cx where
  re : Fl
  im : Fl
  deriving DecidableEq, Inhabited
theorem R_cx {ts : Array TypeId} {x y : Operand} {a b : Fl} (ho : o.op = .call { callee := .builtin .complex, args := #[x, y], argTypes := ts }) (hx : evs f [x, y] = some [.float .f64 a.bits, .float .f64 b.bits]) : Runs P o f w (.complex .f64 a.bits b.bits) w :=
  R_builtin (l := [x, y]) ho hx rfl
theorem R_real {ts : Array TypeId} {x : Operand} {a b : Nat} (ho : o.op = .call { callee := .builtin .real, args := #[x], argTypes := ts }) (hx : evs f [x] = some [.complex .f64 a b]) : Runs P o f w (.float .f64 a) w :=
  R_builtin (l := [x]) ho hx rfl
theorem R_imag {ts : Array TypeId} {x : Operand} {a b : Nat} (ho : o.op = .call { callee := .builtin .imag, args := #[x], argTypes := ts }) (hx : evs f [x] = some [.complex .f64 a b]) : Runs P o f w (.float .f64 b) w :=
  R_builtin (l := [x]) ho hx rfl
/-- Small enough to be exact. -/
def Fl.ok (x : Fl) : Prop := x.n.natAbs < 4503599627370496
def Cx.ok (x : Cx) : Prop := x.re.ok ∧ x.im.ok
theorem floatArith_some {op : BinOp} {x y r : Nat} (h : (match op with | .add => some (Ieee.double.add x y) | .sub => some (Ieee.double.sub x y) | _ => none) = some (some r)) : (Op.floatArith op .f64 x y).run P w = .ok (.float .f64 r) w := by
  unfold Op.floatArith
  cases op <;> simp at h <;> simp [FloatKind.format, h]
theorem floatAdd {x y : Fl} (hx : x.ok) (hy : y.ok) (hs : (x.add y).ok) : (Op.floatArith .add .f64 x.bits y.bits).run P w = .ok (.float .f64 (x.add y).bits) w :=
  floatArith_some (by rw [add_bits x y hx hy hs])
theorem floatSub {x y : Fl} (hx : x.ok) (hy : y.ok) (hs : (x.sub y).ok) : (Op.floatArith .sub .f64 x.bits y.bits).run P w = .ok (.float .f64 (x.sub y).bits) w :=
  floatArith_some (by rw [sub_bits x y hx hy (by simpa [Fl.ok, Fl.sub, Fl.add, Fl.opp, Int.sub_eq_add_neg] using hs)])
theorem R_cxadd {T T' : TypeId} {x y : Operand} {a b c d : Fl} (ho : o.op = .binOp .add T x y T') (hx : ev f x = some (.complex .f64 a.bits b.bits)) (hy : ev f y = some (.complex .f64 c.bits d.bits))
    (h1 : a.ok ∧ c.ok ∧ (a.add c).ok) (h2 : b.ok ∧ d.ok ∧ (b.add d).ok) : Runs P o f w (.complex .f64 (a.add c).bits (b.add d).bits) w := by
  refine R_bin ho hx hy rfl ?_
  simp [binOp, Op.complexOp, Op.Complex.arith, floatAdd h1.1 h1.2.1 h1.2.2, floatAdd h2.1 h2.2.1 h2.2.2]
theorem R_cxsub {T T' : TypeId} {x y : Operand} {a b c d : Fl} (ho : o.op = .binOp .sub T x y T') (hx : ev f x = some (.complex .f64 a.bits b.bits)) (hy : ev f y = some (.complex .f64 c.bits d.bits))
    (h1 : a.ok ∧ c.ok ∧ (a.sub c).ok) (h2 : b.ok ∧ d.ok ∧ (b.sub d).ok) : Runs P o f w (.complex .f64 (a.sub c).bits (b.sub d).bits) w := by
  refine R_bin ho hx hy rfl ?_
  simp [binOp, Op.complexOp, Op.Complex.arith, floatSub h1.1 h1.2.1 h1.2.2, floatSub h2.1 h2.2.1 h2.2.2]
theorem R_cxeql {T T' : TypeId} {x y : Operand} {a b c d : Fl} (ho : o.op = .binOp .eql T x y T') (hx : ev f x = some (.complex .f64 a.bits b.bits)) (hy : ev f y = some (.complex .f64 c.bits d.bits))
    (h : (a.ok ∧ c.ok) ∧ (b.ok ∧ d.ok)) : Runs P o f w (.bool ((a.n == c.n) && (b.n == d.n))) w := by
  refine R_bin ho hx hy rfl ?_
  have e1 := eq_bits a c h.1.1 h.1.2
  have e2 := eq_bits b d h.2.1 h.2.2
  rw [run_eql_complex]
  simp only [FloatKind.format, e1, e2]
theorem R_cxneq {T T' : TypeId} {x y : Operand} {a b c d : Fl} (ho : o.op = .binOp .neq T x y T') (hx : ev f x = some (.complex .f64 a.bits b.bits)) (hy : ev f y = some (.complex .f64 c.bits d.bits))
    (h : (a.ok ∧ c.ok) ∧ (b.ok ∧ d.ok)) : Runs P o f w (.bool (!((a.n == c.n) && (b.n == d.n)))) w := by
  refine R_bin ho hx hy rfl ?_
  have e1 := eq_bits a c h.1.1 h.1.2
  have e2 := eq_bits b d h.2.1 h.2.2
  rw [run_neq_complex]
  simp only [FloatKind.format, e1, e2]
theorem neg_bits (x : Fl) (h : x.ok) : (Op.unary .neg (.float .f64 x.bits)).run P w = .ok (.float .f64 x.opp.bits) w := by
  have h1 : Ieee.double.signWeight = 9223372036854775808 := by decide
  have h2 : rungN x.n.natAbs ≤ Ieee.double.infRung := rung_le h
  have h3 : Ieee.double.infRung = 9218868437227405312 := by decide
  rw [h3] at h2
  have h4 : x.opp.bits = if x.sgn then rungN x.n.natAbs else 9223372036854775808 + rungN x.n.natAbs := by
    unfold Fl.bits Ieee.Format.word
    rw [opp_sgn, show x.opp.n.natAbs = x.n.natAbs from by simp [Fl.opp], h1]
    cases x.sgn <;> simp
  have h5 : x.bits = if x.sgn then 9223372036854775808 + rungN x.n.natAbs else rungN x.n.natAbs := by
    unfold Fl.bits Ieee.Format.word
    rw [h1]
  rw [h4, h5]
  generalize rungN x.n.natAbs = r at *
  have hx : r ^^^ 9223372036854775808 = 9223372036854775808 + r := by
    have h6 : (9223372036854775808 : Nat) = 2 ^ 63 := by decide
    rw [h6]
    have h7 := Nat.two_pow_add_eq_or_of_lt (i := 63) (b := r) (by omega) 1
    rw [Nat.mul_one] at h7
    rw [h7]
    apply Nat.eq_of_testBit_eq
    intro i
    rw [Nat.testBit_xor, Nat.testBit_or, Nat.testBit_two_pow]
    by_cases hi : 63 = i
    · subst hi
      rw [Nat.testBit_lt_two_pow (by omega)]
      rfl
    · simp [hi]
  show Result.ok (Value.float .f64 (Op.negFloat .f64 _)) w = _
  unfold Op.negFloat
  have h8 : 2 ^ (FloatKind.f64.format.exponentBits + FloatKind.f64.format.fractionBits) = 9223372036854775808 := by decide
  rw [h8]
  cases x.sgn with
  | true => simp only [if_true]; rw [← hx, Nat.xor_assoc, Nat.xor_self, Nat.xor_zero]
  | false => simp only [Bool.false_eq_true, if_false]; rw [hx]
theorem R_negf {T : TypeId} {x : Operand} {a : Fl} (ho : o.op = .unOp .neg T x) (hx : ev f x = some (.float .f64 a.bits)) (h : a.ok) : Runs P o f w (.float .f64 a.opp.bits) w := R_un ho hx (neg_bits a h)
theorem R_convf {S T : TypeId} {x : Operand} {n : Int} {d e : Option TypeDesc} (ho : o.op = .convert S T x) (hx : ev f x = some (.int .i64 n)) (hS : P.underlying S = d) (hT : P.underlying T = e) (h : n.natAbs < 4503599627370496) (hd : d.isSome = true := by rfl) (he : e = some (.float .f64) := by rfl) :
    Runs P o f w (.float .f64 (Fl.ofInt n).bits) w := by
  subst he
  subst hS
  obtain ⟨d, hd⟩ := Option.isSome_iff_exists.1 hd
  refine R_conv ho hx ?_
  rw [← ofInt_bits n h]
  cases d <;> simp [convert, run_underlying hd, run_underlying hT, Conv.intToFloat]
theorem R_fladd {T T' : TypeId} {x y : Operand} {a c : Fl} (ho : o.op = .binOp .add T x y T') (hx : ev f x = some (.float .f64 a.bits)) (hy : ev f y = some (.float .f64 c.bits))
    (h1 : a.ok ∧ c.ok ∧ (a.add c).ok) : Runs P o f w (.float .f64 (a.add c).bits) w := by
  refine R_bin ho hx hy rfl ?_
  simp [binOp, floatAdd h1.1 h1.2.1 h1.2.2]
theorem R_flsub {T T' : TypeId} {x y : Operand} {a c : Fl} (ho : o.op = .binOp .sub T x y T') (hx : ev f x = some (.float .f64 a.bits)) (hy : ev f y = some (.float .f64 c.bits))
    (h1 : a.ok ∧ c.ok ∧ (a.sub c).ok) : Runs P o f w (.float .f64 (a.sub c).bits) w := by
  refine R_bin ho hx hy rfl ?_
  simp [binOp, floatSub h1.1 h1.2.1 h1.2.2]
theorem R_fleql {T T' : TypeId} {x y : Operand} {a c : Fl} (ho : o.op = .binOp .eql T x y T') (hx : ev f x = some (.float .f64 a.bits)) (hy : ev f y = some (.float .f64 c.bits))
    (h : a.ok ∧ c.ok) : Runs P o f w (.bool (a.n == c.n)) w := by
  refine R_bin ho hx hy rfl ?_
  have e1 := eq_bits a c h.1 h.2
  have h2 : (binOp .eql T (.float .f64 a.bits) (.float .f64 c.bits)).run P w = .ok (.bool (Ieee.double.order a.bits c.bits == some .eq)) w := rfl
  rw [h2, e1]
theorem R_flneq {T T' : TypeId} {x y : Operand} {a c : Fl} (ho : o.op = .binOp .neq T x y T') (hx : ev f x = some (.float .f64 a.bits)) (hy : ev f y = some (.float .f64 c.bits))
    (h : a.ok ∧ c.ok) : Runs P o f w (.bool (!(a.n == c.n))) w := by
  refine R_bin ho hx hy rfl ?_
  have e1 := eq_bits a c h.1 h.2
  have h2 : (binOp .neq T (.float .f64 a.bits) (.float .f64 c.bits)).run P w = .ok (.bool (!(Ieee.double.order a.bits c.bits == some .eq))) w := rfl
  rw [h2, e1]
theorem R_convfi {S T : TypeId} {x : Operand} {a : Fl} {d e : Option TypeDesc} (ho : o.op = .convert S T x) (hx : ev f x = some (.float .f64 a.bits)) (hS : P.underlying S = d) (hT : P.underlying T = e) (h : a.ok) (hd : d.isSome = true := by rfl) (he : e = some (.int .i64) := by rfl) :
    Runs P o f w (.int .i64 a.n) w := by
  subst he
  subst hS
  refine R_conv ho hx ?_
  refine run_convert_float_int w S T .f64 .i64 a.bits a.n hd hT ?_
  have h3 : FloatKind.f64.decode a.bits = a.datum := read_bits a h
  unfold floatToIntVal
  rw [h3, toInt_datum a h]
  unfold Fl.ok at h
  have h4 : IntKind.i64.min = -9223372036854775808 := by decide
  have h5 : IntKind.i64.max = 9223372036854775807 := by decide
  simp only
  rw [h4, h5, if_pos (by omega)]
theorem R_bleql {T T' : TypeId} {x y : Operand} {a b : Bool} (ho : o.op = .binOp .eql T x y T') (hx : ev f x = some (.bool a)) (hy : ev f y = some (.bool b)) (hT : P.underlying T = some .bool) : Runs P o f w (.bool (a == b)) w := R_bin ho hx hy rfl (run_eql_bool w T a b hT)
theorem R_blneq {T T' : TypeId} {x y : Operand} {a b : Bool} (ho : o.op = .binOp .neq T x y T') (hx : ev f x = some (.bool a)) (hy : ev f y = some (.bool b)) (hT : P.underlying T = some .bool) : Runs P o f w (.bool (a != b)) w := R_bin ho hx hy rfl (run_neq_bool w T a b hT)
theorem R_and64 {T T' : TypeId} {x y : Operand} {n m : Int} (k : Nat) (M : Int) (ho : o.op = .binOp .and T x y T') (hx : ev f x = some (.int .i64 n)) (hy : ev f y = some (.int .i64 m)) (hk : k < 63) (hm : m = ((2 ^ k - 1 : Nat) : Int)) (hM : M = ((2 ^ k : Nat) : Int)) : Runs P o f w (.int .i64 (n % M)) w := by
  rw [hM, ← and_mask64 n k m hk hm]
  exact R_bin ho hx hy rfl rfl
end
/-! ### the end of a walk -/
theorem Lret1 {v u : Value} (h : v = u) : Ending.returned v = .returned u := by rw [h]
theorem Lret2 {v u x y : Value} (h : v = u) (k : x = y) : Ending.returned (.tuple #[v, x]) = .returned (.tuple #[u, y]) := by rw [h, k]
theorem Lint {k : IntKind} {a b : Int} (h : a = b) : Value.int k a = .int k b := by rw [h]
theorem Lbool {a b : Bool} (h : a = b) : Value.bool a = .bool b := by rw [h]
theorem Lstr {a b : St} (h : a = b) : vstr a = vstr b := by rw [h]
theorem Lslice {α : Type} {A : Option Addr} {c : Nat} {a b : List α} (h : a = b) : Value.slice A a.length c = .slice A b.length c := by rw [h]
/-! ### bounds on where things lie -/
theorem fresh_z {z : Z} {w : World} (h : Sub z w) {X : List Nat} (hb : ∀ k ∈ X, w.heap.size ≤ k) : ∀ k ∈ X, z k = none := fun k hk => by
  cases hz : z k with
  | none => rfl
  | some c => have := h.lt (b := k) (by rw [hz]; simp); have := hb k hk; omega
theorem frozen_z {z z' : Z} {X : List Nat} {B : Option Addr} (hA : ∀ k ∈ X, z k = none) (hd : ∀ k ∈ X, k ∉ blk B) (hn : ∀ b, b ∉ blk B → z' b = z b) : ∀ k ∈ X, z' k = none := fun k hk => (hn k (hd k hk)).trans (hA k hk)
theorem disj_new {w : World} {X Y : List Nat} (hA : ∀ k ∈ X, k < w.heap.size) (hB : ∀ k ∈ Y, w.heap.size ≤ k) : ∀ k ∈ X, k ∉ Y := fun k hk hb => by
  have := hA k hk
  have := hB k hb
  omega
theorem disj_grown {w : World} {X Y Y' : List Nat} (hXY : ∀ k ∈ X, k ∉ Y) (hX : ∀ k ∈ X, k < w.heap.size) (hk : ∀ q ∈ Y', q ∈ Y ∨ w.heap.size ≤ q) : ∀ k ∈ X, k ∉ Y' := fun k h1 h2 => by
  rcases hk k h2 with h3 | h3
  · exact hXY k h1 h3
  · have := hX k h1; omega
theorem disj_sym {X Y : List Nat} (h : ∀ k ∈ X, k ∉ Y) : ∀ k ∈ Y, k ∉ X := fun k hk ha => h k ha hk
theorem boxlt {w : World} {b T : Nat} {cs : List Value} (h : Box w b T cs) : ∀ k ∈ [b], k < w.heap.size := fun k hk => by
  rw [List.mem_singleton] at hk
  subst hk
  exact Box.lt h
theorem boxbase {w : World} {b : Nat} (h : w.heap.size ≤ b) : ∀ k ∈ [b], w.heap.size ≤ k := fun k hk => by
  rw [List.mem_singleton] at hk
  omega
theorem zle_none {z z' : Z} {X : List Nat} (h : zle z z') (hn : ∀ k ∈ X, z' k = none) : ∀ k ∈ X, z k = none := fun k hk => by
  cases hz : z k with
  | none => rfl
  | some c => have := h k c hz; rw [hn k hk] at this; cases this
theorem Sub.down {z z' : Z} {w : World} (h : Sub z' w) (hl : zle z z') : Sub z w := fun b c hb => h b c (hl b c hb)
theorem Reps.to {α : Type} {d : Kd α} {z z' : Z} (hk : ∀ x cs, d.K z x cs → d.K z' x cs) : ∀ {xs : List α} {cs : List Value}, Reps d z xs cs → Reps d z' xs cs
  | [], cs, h => h
  | x :: xs, cs, h => by
    obtain ⟨c, r, rfl, h1, h2⟩ := h
    exact ⟨c, r, rfl, hk _ _ h1, h2.to hk⟩
theorem newC {w0 w : World} {X : List Nat} (h : ∀ k ∈ X, w.heap.size ≤ k) (hs : w0.heap.size ≤ w.heap.size) : ∀ k ∈ X, w0.heap.size ≤ k := fun k hk => Nat.le_trans hs (h k hk)
theorem fresh_z' {z : Z} {w : World} (h : Sub z w) {A : Option Addr} (hb : ∀ k ∈ blk A, k ∈ blk none ∨ w.heap.size ≤ k) : ∀ k ∈ blk A, z k = none := fresh_z h fun k hk => (hb k hk).elim (fun h => by simp [blk] at h) id
theorem grown_z {z : Z} {w : World} (h : Sub z w) {A B : Option Addr} (hA : ∀ k ∈ blk A, z k = none) (hb : ∀ k ∈ blk B, k ∈ blk A ∨ w.heap.size ≤ k) : ∀ k ∈ blk B, z k = none := fun k hk => by
  rcases hb k hk with h1 | h1
  · exact hA k h1
  · cases hz : z k with
    | none => rfl
    | some c => have := h.lt (b := k) (by rw [hz]; simp); omega
theorem boxcells {w : World} {b : Nat} {T : TypeId} {cs ds : List Value} (h : Box w b T cs) (off : Nat) (hd : (cs.drop off).take ds.length = ds) : ∀ j u, ds[j]? = some u → w.cell? ((⟨b, off, none⟩ : Addr).add j) = some u := fun j u hu => by
  have : cs[off + j]? = some u := by
    rw [← hd, List.getElem?_take] at hu
    split at hu
    · rwa [List.getElem?_drop] at hu
    · cases hu
  have e : (⟨b, off, none⟩ : Addr).add j = ⟨b, off + j, none⟩ := by
    unfold Addr.add
    by_cases hj : j = 0
    · subst hj; rfl
    · simp [hj]
  rw [e]
  exact h.cell this
theorem cell_add {w : World} {a : Addr} {m n : Nat} {u : Value} (h : w.cell? (a.add (m + n)) = some u) : w.cell? ((a.add m).add n) = some u := by rw [add_add]; exact h
theorem boxown {α : Type} {d : Kd α} {e : TypeId} {B : Nat} {z : Z} {w : World} {A : Option Addr} {c : Nat} {xs : List α} {b T : Nat} {cs : List Value} (h : Own d e B z w A c xs) (hb : Box w b T cs) (hne : e ≠ T) : ∀ k ∈ blk A, k ∉ [b] := fun k hk hkb => by
  rw [List.mem_singleton] at hkb
  subst hkb
  obtain ⟨inner, ⟨_, h2⟩, _⟩ := h
  rcases h2 with ⟨he, _⟩ | ⟨g, cap, cur, he, hg, hh, _⟩
  · injection he with h4; subst h4; simp [blk] at hk
  · injection he with h4
    subst h4
    simp [blk] at hk
    subst hk
    unfold Box at hb
    rw [hh] at hb
    simp at hb
    exact hne hb.2
theorem Cap.nil_ : Cap none 0 0 where
  le := Nat.le_refl _
  nil := fun _ => rfl
  mx := by omega
end Go.Proofs.YtcjaplaifmhajaaDoorG
