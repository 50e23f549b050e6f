/- What == answers of structs and arrays, told by contents. -/
import Derived.Test.YtcjaplaifmhajaaDoorS5
import Derived.Laws.StructEq
set_option linter.all false
namespace Go.Proofs.YtcjaplaifmhajaaDoorG
open Go Go.RowKit
section
variable {P : Program} {K : Nat}
/-- What == answers of two values of a type. -/
def EqV (P : Program) (t : TypeId) (K : Nat) (a b : Value) (r : Bool) : Prop := ∀ d w, (Op.equalIn (d + K) t a b).run P w = .ok r w
/-- .. of the fields that are left. -/
def EqF (P : Program) (K : Nat) (xs ys : Array Value) (fs : List Field) (r : Bool) : Prop := ∀ d w, (Op.eqFields (d + K) xs ys fs).run P w = .ok r w
theorem EqV.up {t : TypeId} {a b : Value} {r : Bool} (n : Nat) (h : EqV P t K a b r) : EqV P t (K + n) a b r := fun d w => by
  have := h (d + n) w
  rwa [show d + n + K = d + (K + n) from by omega] at this
theorem EqV.int {t : TypeId} {q : IntKind} {a b : Int} (h : P.underlying t = some (.int q)) : EqV P t 1 (.int q a) (.int q b) (decide (a = b)) := fun d w => by
  rw [run_equalIn_int w d t q q a b h]
  congr 1
theorem EqV.bool {t : TypeId} {a b : Bool} (h : P.underlying t = some .bool) : EqV P t 1 (.bool a) (.bool b) (decide (a = b)) := fun d w => by
  rw [run_equalIn_bool' w d t a b h]
  cases a <;> cases b <;> rfl
theorem EqV.str {t : TypeId} {a b : St} (h : P.underlying t = some .string) : EqV P t 1 (vstr a) (vstr b) (decide (a = b)) := fun d w => by
  refine (run_equalIn_string w d t _ _ h).trans ?_
  congr 1
  rw [ByteArray.toList_eq, ByteArray.toList_eq]
  rw [Bool.eq_iff_iff]
  simp
theorem EqF.nil {xs ys : Array Value} : EqF P K xs ys [] true := fun d w => by simp [Op.eqFields]
theorem EqF.cons {xs ys : Array Value} {f : Field} {fs : List Field} {a b : Value} {r R : Bool} (hn : f.name ≠ "_") (ha : ∀ w, (part f.type xs f.offset).run P w = .ok a w) (hb : ∀ w, (part f.type ys f.offset).run P w = .ok b w)
    (h1 : EqV P f.type K a b r) (h2 : EqF P K xs ys fs R) : EqF P K xs ys (f :: fs) (r && R) := fun d w => by
  have h3 := h1 d w
  have h4 := h2 d w
  cases r <;> simp [Op.eqFields, hn, ha, hb, h3, h4]
theorem EqV.struct {t : TypeId} {fs : Array Field} {xs ys : Array Value} {r : Bool} (ht : P.underlying t = some (.struct fs)) (hp : P.stoodInHeld t = false) (h : EqF P K xs ys fs.toList r) : EqV P t (K + 1) (.agg xs) (.agg ys) r := fun d w => by
  have h1 : P.fieldsOf t = fs := by simp [Program.fieldsOf, ht]
  exact (run_equalIn_struct w (d + K) t xs ys (by rw [h1]; exact ht) hp).trans (by rw [h1]; exact h d w)
/-- .. of an array's elements that are left. -/
def EqE (P : Program) (K : Nat) (e : TypeId) (n : Nat) (xs ys : Array Value) (is : List Nat) (r : Bool) : Prop :=
  ∀ d w, (forIn (m := Sem) is ((none, ()) : Option Bool × Unit) fun i r_ => do
    let a_ ← part e xs (i * n)
    let b_ ← part e ys (i * n)
    let c_ ← Op.equalIn (d + K) e a_ b_
    if (!c_) = true then pure (ForInStep.done (some false, ())) else pure (ForInStep.yield (none, ()))).run P w = .ok (if r then (none, ()) else (some false, ())) w
theorem EqE.nil {e : TypeId} {n : Nat} {xs ys : Array Value} : EqE P K e n xs ys [] true := fun d w => by simp
theorem EqE.cons {e : TypeId} {n i : Nat} {xs ys : Array Value} {is : List Nat} {a b : Value} {r R : Bool} (ha : ∀ w, (part e xs (i * n)).run P w = .ok a w) (hb : ∀ w, (part e ys (i * n)).run P w = .ok b w)
    (h1 : EqV P e K a b r) (h2 : EqE P K e n xs ys is R) : EqE P K e n xs ys (i :: is) (r && R) := fun d w => by
  have h3 := h1 d w
  have h4 := h2 d w
  cases r
  · simp [ha, hb, h3]
  · simp only [List.forIn_cons, Sem.run_bind, ha, hb, h3, Result.andThen_ok, Bool.not_true, Bool.false_eq_true, if_false, Sem.run_pure, Bool.true_and]
    exact h4
theorem EqV.array {t e : TypeId} {len n : Nat} {xs ys : Array Value} {r : Bool} (ht : P.underlying t = some (.array len e)) (hs : ∀ w, (sizeOf e).run P w = .ok n w) (h : EqE P K e n xs ys (List.range' 0 len) r) : EqV P t (K + 1) (.agg xs) (.agg ys) r := fun d w => by
  have h1 := h d w
  show (Op.equalIn (d + K + 1) t (.agg xs) (.agg ys)).run P w = .ok r w
  simp only [Op.equalIn, Sem.run_bind, run_underlying ht, Result.andThen_ok, hs]
  rw [Std.Legacy.Range.forIn_eq_forIn_range']
  simp only [Std.Legacy.Range.size, Nat.sub_zero, Nat.add_sub_cancel, Nat.div_one]
  rw [h1]
  cases r <;> simp
theorem R_eqv {o : Oper} {f : Fr} {w : World} {T T' : TypeId} {x y : Operand} {xs ys : Array Value} {r : Bool} (ho : o.op = .binOp .eql T x y T') (hx : ev f x = some (.agg xs)) (hy : ev f y = some (.agg ys)) (hg : P.eqGuardType P.depth T = false) (h : EqV P T 4 (.agg xs) (.agg ys) r) : Runs P o f w (.bool r) w :=
  R_bin ho hx hy (run_eqGuard_agg w _ _ _ _ _ _ hg) (by
    have h1 := h 9996 w
    rw [run_eql_struct]
    rw [show (10000 : Nat) = 9996 + 4 from rfl, h1]
    rfl)
theorem R_neqv {o : Oper} {f : Fr} {w : World} {T T' : TypeId} {x y : Operand} {xs ys : Array Value} {r : Bool} (ho : o.op = .binOp .neq T x y T') (hx : ev f x = some (.agg xs)) (hy : ev f y = some (.agg ys)) (hg : P.eqGuardType P.depth T = false) (h : EqV P T 4 (.agg xs) (.agg ys) r) : Runs P o f w (.bool (!r)) w :=
  R_bin ho hx hy (run_eqGuard_agg w _ _ _ _ _ _ hg) (by
    have h1 := h 9996 w
    rw [run_neq_struct]
    rw [show (10000 : Nat) = 9996 + 4 from rfl, h1]
    rfl)
/-- A call of a function's value that holds nothing. -/
theorem Sv_callv {N g : Nat} {ops : Array Oper} {Q : Exit → Act → World → Prop} {o : Oper} {f : Fr} {w : World} {k : Value → World → Prop} {x : Operand} {l : List Operand} {ts : Array TypeId} {vs : List Value} (hg : o.guard = none)
    (ho : o.op = .call { callee := .value x, args := l.toArray, argTypes := ts }) (hxv : ev f x = some (.func (.func g) #[] ([] : List Value).toArray)) (hx : evs f l = some vs) (hf : ∀ args w, (callFunc g args).run P w = .ok (.enter g args) w)
    (h : Calls P g vs.toArray w fun e w' => ∃ v, e = .returned v ∧ k v w') : Sv P N ops Q o f w k := by
  refine Sv_of_wp hg (wp_callv ho hxv hx hf ?_)
  rwa [List.append_nil]
/-- An array's element. -/
theorem R_aridx {o : Oper} {f : Fr} {w : World} {T e : TypeId} {len : Nat} {x i : Operand} {xs : List Int} {q q' : IntKind} {iv : Int} (ho : o.op = .index T x i) (hx : ev f x = some (.agg (xs.map (Value.int q')).toArray)) (hi : ev f i = some (.int q iv))
    (hT : P.underlying T = some (.array len e)) (hag : ∀ w, (isAgg e).run P w = .ok false w) (hs : ∀ w, (sizeOf e).run P w = .ok 1 w) (hl : xs.length = len) (h0 : 0 ≤ iv) (h1 : iv < xs.length) : Runs P o f w (.int q' (xs.getD iv.toNat 0)) w := by
  intro ρ he
  subst hl
  have h2 : iv.toNat < xs.length := by omega
  simp [execOp, ho, he x _ hx, he i _ hi, Instr.index, asIntOf, run_underlying hT, h0, h1, part, hag, hs, h2, List.getD]
/-- A row of the call's own is cleared, and not looked at any more. -/
theorem S_clear_own {N : Nat} {ops : Array Oper} {Q : Exit → Act → World → Prop} {o : Oper} {f : Fr} {w w0 : World} {k : Value → World → Prop} {X : Nat → Prop} {z : Z} {rs : List Res} {α : Type} {d : Kd α} {t e e' : TypeId} {q : Z} {x : Operand} {A : Option Addr} {c : Nat} {xs : List α} {zv : Value}
    (hS : Sp X w0 z w rs) (i : Nat) (hi : nth rs i = some (oR d e' q A c xs)) (hg : o.guard = none) (ho : o.op = .call { callee := .builtin .clear, args := #[x], argTypes := #[t] }) (ht : P.underlying t = some (.slice e)) (hz : ∀ w, (zeroValue e).run P w = .ok zv w)
    (hzs : zv.cells.size = d.sz) (h1 : ∀ u ∈ zv.cells.toList, u.oneCell' = true) (hx : ev f x = some (.slice A xs.length c)) (h : ∀ w', Sp X w0 z w' (upd rs i (allR [])) → k (.tuple #[]) w') : Sv P N ops Q o f w k := by
  have hO : Own d e' 0 q w A c xs := hS.at_ i hi
  have key : ∃ w', (Builtin.clear_ #[t] o.type #[.slice A xs.length c]).run P w = .ok (.tuple #[]) w' ∧ Chp (fun b => b ∈ blk A) w w' := by
    obtain ⟨inner, ⟨hl, ho'⟩, hr⟩ := hO
    rcases ho' with ⟨he, hn⟩ | ⟨g, cap, cur, he, _, hb, hc, hm, hsz, htk⟩
    · exact ⟨w, run_clear ht (hz w) w (fun _ => rfl) (fun a ha hne => absurd hn hne), Chp.refl _ _⟩
    · obtain ⟨rfl, rfl⟩ : A = some ⟨g, 0, none⟩ ∧ c = cap := by
        injection he with h2 h3 h4
        exact ⟨h2, h4⟩
      have hzl : ∀ u ∈ (Builtin.zeroCells zv.cells xs.length).toList, u.oneCell' = true := fun u hu => h1 u (zero_list zv.cells xs.length zv.cells.toList (by simp) u hu)
      have hlen : (Builtin.zeroCells zv.cells xs.length).toList.length = xs.length * d.sz := by rw [Array.length_toList, size_zeroCells, hzs]
      obtain ⟨w', h2, h3, _⟩ := storeSeq (P := P) (Builtin.zeroCells zv.cells xs.length).toList ⟨g, 0, none⟩ 0 w hzl ⟨cur, e', hb⟩ (fun j hj => by
        rw [hlen] at hj
        have hlt : j < cur.size := by
          rw [hsz]
          exact Nat.lt_of_lt_of_le hj (Nat.mul_le_mul_right _ hc)
        refine ⟨cur[j], ?_⟩
        rcases Nat.eq_zero_or_pos j with h0 | h0
        · subst h0; simp [World.cell?, Addr.add, hb, hlt]
        · simp [World.cell?, Addr.add, hb, hlt, show ¬ j = 0 by omega])
      refine ⟨w', run_clear ht (hz w) w' (fun hn => ?_) (fun a ha _ => ?_), h3.mono fun b hb' => .inl (by subst hb'; simp [blk])⟩
      · rcases hn with hn | hn
        · have h0 : (Builtin.zeroCells zv.cells xs.length).toList = [] := List.length_eq_zero_iff.1 (by rw [hlen, hn, Nat.zero_mul])
          rw [h0] at h2
          simp [storeCells] at h2
          exact h2.symm
        · cases hn
      · obtain rfl := Option.some.inj ha
        exact h2
  obtain ⟨w', hrun, hchp⟩ := key
  refine Sv_of_wp hg fun ac ha => ?_
  unfold Oper.wp execOp
  simp only [ho, resolve, invoke, builtin, Sem.run_bind, Sem.run_pure, Result.andThen_ok, List.map_toArray, List.map_cons, List.map_nil, ha.agree x _ hx, hrun]
  exact ⟨_, rfl, h w' (hS.set i hi hchp ⟨by simp, List.Pairwise.nil⟩ fun b ⟨r, hr, _⟩ => by cases hr)⟩
end
end Go.Proofs.YtcjaplaifmhajaaDoorG
