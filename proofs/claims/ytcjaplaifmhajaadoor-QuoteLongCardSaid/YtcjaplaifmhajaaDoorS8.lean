/- Guards that are not known: what a guarded operation yields, told by its guard. -/
import Derived.Test.YtcjaplaifmhajaaDoorS7
set_option linter.all false
namespace Go.Proofs.YtcjaplaifmhajaaDoorG
open Go Go.RowKit
def gv (b : Bool) (v : Value) : Value := bif b then v else undef
theorem gv_t {b : Bool} {v : Value} (h : b = true) : gv b v = v := by rw [h]; rfl
theorem ga {a b : Bool} (h : (a && b) = true) : a = true := by cases a <;> simp_all
theorem gb {a b : Bool} (h : (a && b) = true) : b = true := by cases a <;> simp_all
theorem gl {f : Fr} {i : Nat} {b : Bool} {v : Value} (h : look f i = some (gv b v)) (hb : b = true) : look f i = some v := by rw [h, gv_t hb]
theorem gl2 {f : Fr} {i : Nat} {a b : Bool} {v : Value} (h : look f i = some (gv (a && b) v)) (ha : a = true) : look f i = some (gv b v) := by subst ha; simpa using h
theorem Agree.at_ {f : Fr} {e : Operand → Value} {i : Nat} {u : Value} (he : Agree f e) (hi : look f i = some u) : Agree ((i, u) :: f) e := by
  intro x v hx
  cases x with
  | tmp t =>
    refine he (.tmp t) v ?_
    simp only [ev] at hx ⊢
    rw [look_cons] at hx
    by_cases h : i = t
    · subst h; rw [if_pos rfl] at hx; rw [hi]; exact hx
    · rw [if_neg h] at hx; exact hx
  | const c => exact he (.const c) v hx
  | global g => exact he (.global g) v hx
  | func g => exact he (.func g) v hx
section
variable {P : Program} {N : Nat} {ops : Array Oper} {Q : Exit → Act → World → Prop} {o : Oper} {f : Fr} {w w' w0 : World} {v : Value} {k : Value → World → Prop} {X : Nat → Prop} {z : Z} {rs : List Res}
theorem Runs.at_ {i : Nat} {u : Value} (hi : look f i = some u) (h : Runs P o ((i, u) :: f) w v w') : Runs P o f w v w' := fun e he => h e (he.at_ hi)
theorem Sv.at_ {i : Nat} {u : Value} (hi : look f i = some u) (h : Sv P N ops Q o ((i, u) :: f) w k) : Sv P N ops Q o f w k := Sv.le (fun j v hj => by
  rw [look_cons] at hj
  by_cases e : i = j
  · subst e; rw [if_pos rfl] at hj; rw [hi]; exact hj
  · rw [if_neg e] at hj; exact hj) h
/-- What a guard says: whether an operation is carried out. -/
def Gd (N : Nat) (ops : Array Oper) (o : Oper) (f : Fr) (B : Bool) : Prop := ∀ a, Holds N f a → Region.wanted o (yielded ops a.tmps) = B
theorem yielded_undef {a : Act} (ha : Holds N f a) {j t : Nat} (hj : (ops[j]?).bind (·.dst) = some t) (ht : look f t = some undef) : yielded ops a.tmps j = none := by
  unfold yielded
  rw [hj]
  simp [ha.at_ t _ ht, undef]
theorem Gd.on {j t : Nat} {b : Bool} (hg : o.guard = some (j, true)) (hj : (ops[j]?).bind (·.dst) = some t) (ht : look f t = some (.bool b)) : Gd N ops o f b := fun a ha => by
  simp [Region.wanted, hg, yielded_of ha hj ht]
theorem Gd.no {j t : Nat} {b : Bool} (hg : o.guard = some (j, false)) (hj : (ops[j]?).bind (·.dst) = some t) (ht : look f t = some (.bool b)) : Gd N ops o f (!b) := fun a ha => by
  simp [Region.wanted, hg, yielded_of ha hj ht]
  try (cases b <;> rfl)
theorem Gd.gon {j t : Nat} {b c : Bool} (hg : o.guard = some (j, true)) (hj : (ops[j]?).bind (·.dst) = some t) (ht : look f t = some (gv c (.bool b))) : Gd N ops o f (c && b) := fun a ha => by
  cases c with
  | true => simp [Region.wanted, hg, yielded_of ha hj (show look f t = some (.bool b) from ht)]
  | false => simp [Region.wanted, hg, yielded_undef ha hj (show look f t = some undef from ht)]
theorem Gd.gno {j t : Nat} {b c : Bool} (hg : o.guard = some (j, false)) (hj : (ops[j]?).bind (·.dst) = some t) (ht : look f t = some (gv c (.bool b))) : Gd N ops o f (c && !b) := fun a ha => by
  cases c with
  | true => simp [Region.wanted, hg, yielded_of ha hj (show look f t = some (.bool b) from ht)]; try (cases b <;> rfl)
  | false => simp [Region.wanted, hg, yielded_undef ha hj (show look f t = some undef from ht)]
theorem Sv_gpure {B : Bool} (hG : Gd N ops o f B) (hr : B = true → Runs P o f w v w) (h : k (gv B v) w) : Sv P N ops Q o f w k := by
  intro a ha
  unfold Op1
  rw [hG a ha]
  cases B with
  | true =>
    rw [if_pos rfl]
    refine .inl ?_
    unfold Oper.wp
    rw [hr rfl _ ha.agree]
    exact ⟨v, rfl, h⟩
  | false =>
    rw [if_neg (by decide)]
    exact ⟨undef, rfl, h⟩
theorem Sv_gcall {B : Bool} (hG : Gd N ops o f B) (hS : Sp X w0 z w rs) (hr : B = true → Sv P N ops Q { o with guard := none } f w (fun v' w' => v' = v ∧ Sp X w0 z w' rs)) (h : ∀ w', Sp X w0 z w' rs → k (gv B v) w') : Sv P N ops Q o f w k := by
  intro a ha
  unfold Op1
  rw [hG a ha]
  cases B with
  | true =>
    rw [if_pos rfl]
    have h1 := hr rfl a ha
    unfold Op1 at h1
    rw [if_pos (by simp [Region.wanted])] at h1
    have h2 : o.wp P a w (fun a' w' => ∃ v', a' = a.put o.dst v' ∧ v' = v ∧ Sp X w0 z w' rs) Q ∨ (o.asks P a w ∧ LetsOut Q) := h1
    refine h2.imp (Oper.wp_mono fun a' w' h3 => ?_) id
    obtain ⟨v', rfl, rfl, h4⟩ := h3
    exact ⟨_, rfl, h w' h4⟩
  | false =>
    rw [if_neg (by decide)]
    exact ⟨undef, rfl, h w hS⟩
theorem R_pick_and {c x y : Operand} {b x' : Bool} (ho : o.op = .pick c x y) (hc : ev f c = some (.bool b)) (hx : ev f x = some (gv b (.bool x'))) (hy : ev f y = some (.bool false)) : Runs P o f w (.bool (b && x')) w :=
  R_pick (u := .bool false) ho hc (fun h => by rw [hx]; subst h; rfl) (fun h => by rw [hy]; subst h; rfl)
theorem R_pick_or {c x y : Operand} {b y' : Bool} (ho : o.op = .pick c x y) (hc : ev f c = some (.bool b)) (hx : ev f x = some (.bool true)) (hy : ev f y = some (gv (!b) (.bool y'))) : Runs P o f w (.bool (b || y')) w :=
  R_pick (u := .bool false) ho hc (fun h => by rw [hx]; subst h; rfl) (fun h => by rw [hy]; subst h; rfl)
/-- A step of a list of operations, in few words. -/
theorem wv {rest : List Oper} {d : Nat} (hd : o.dst = some d) (hN : Nat.blt d N = true) (hg : o.guard = none) (hr : Runs P o f w v w) (h : W P N ops Q rest ((d, v) :: f) w) : W P N ops Q (o :: rest) f w :=
  W_cons hd (Nat.le_of_ble_eq_true hN) (Sv_val hg hr h)
theorem wg {rest : List Oper} {d : Nat} {B : Bool} (hd : o.dst = some d) (hN : Nat.blt d N = true) (hG : Gd N ops o f B) (hr : B = true → Runs P o f w v w) (h : W P N ops Q rest ((d, gv B v) :: f) w) : W P N ops Q (o :: rest) f w :=
  W_cons hd (Nat.le_of_ble_eq_true hN) (Sv_gpure hG hr h)
end
end Go.Proofs.YtcjaplaifmhajaaDoorG
