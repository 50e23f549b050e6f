/- Frames as association lists; steps of code and of operations over them. -/
import Derived.WalkKit
import Derived.OrdersHeld
import Derived.Deep.LoopGhost
set_option linter.all false
namespace Go.Proofs.YtcjaplaifmhajaaDoorG
open Go

abbrev Fr := List (Nat × Value)
def look : Fr → Nat → Option Value
  | [], _ => none
  | (i, v) :: r, j => match Nat.beq i j with
    | true => some v
    | false => look r j
theorem look_hit {i : Nat} {v : Value} {r : Fr} : look ((i, v) :: r) i = some v := by simp [look]
theorem look_cons {i j : Nat} {v : Value} {r : Fr} : look ((i, v) :: r) j = if i = j then some v else look r j := by
  by_cases h : i = j
  · subst h; simp [look]
  · have : Nat.beq i j = false := by cases hb : Nat.beq i j with
      | false => rfl
      | true => exact absurd (Nat.eq_of_beq_eq_true hb) h
    simp [look, this, h]
structure Holds (N : Nat) (f : Fr) (a : Act) : Prop where
  defers : a.defers = []
  size : a.tmps.size = N
  at_ : ∀ i v, look f i = some v → a.tmps[i]? = some v
theorem Holds.put {N d : Nat} {f : Fr} {a : Act} (h : Holds N f a) (hd : d < N) (v : Value) : Holds N ((d, v) :: f) (a.put (some d) v) := by
  refine ⟨h.defers, by simp [Act.put, h.size], fun i u hu => ?_⟩
  rw [look_cons] at hu
  simp only [Act.put]
  by_cases hi : d = i
  · subst hi
    rw [if_pos rfl] at hu
    obtain rfl := Option.some.inj hu
    rw [Array.getElem?_setIfInBounds, if_pos rfl, if_pos (by rw [h.size]; exact hd)]
  · rw [if_neg hi] at hu
    rw [Array.getElem?_setIfInBounds, if_neg hi]
    exact h.at_ i u hu
/-- Some slots of a frame. -/
def sub : List Nat → Fr → Fr
  | [], _ => []
  | i :: r, f => match look f i with
    | some v => (i, v) :: sub r f
    | none => sub r f
theorem look_sub {l : List Nat} {f : Fr} {i : Nat} {v : Value} (h : look (sub l f) i = some v) : look f i = some v := by
  induction l with
  | nil => simp [sub, look] at h
  | cons j r ih =>
    unfold sub at h
    split at h
    · rename_i u hu
      rw [look_cons] at h
      by_cases hj : j = i
      · subst hj; rw [if_pos rfl] at h; rw [hu]; exact h
      · rw [if_neg hj] at h; exact ih h
    · exact ih h
theorem Holds.sub {N : Nat} {f : Fr} {a : Act} (h : Holds N f a) (l : List Nat) : Holds N (sub l f) a :=
  ⟨h.defers, h.size, fun i v hv => h.at_ i v (look_sub hv)⟩
def fr0 : Nat → List Value → Fr
  | _, [] => []
  | i, v :: r => (i, v) :: fr0 (i + 1) r
theorem look_fr0 {vs : List Value} : ∀ {k i : Nat} {v : Value}, look (fr0 k vs) i = some v → k ≤ i ∧ vs[i - k]? = some v := by
  induction vs with
  | nil => intro k i v h; simp [fr0, look] at h
  | cons u r ih =>
    intro k i v h
    unfold fr0 at h
    rw [look_cons] at h
    by_cases hk : k = i
    · subst hk; rw [if_pos rfl] at h; simp [h]
    · rw [if_neg hk] at h
      obtain ⟨h1, h2⟩ := ih h
      refine ⟨by omega, ?_⟩
      have : i - k = (i - (k + 1)) + 1 := by omega
      rw [this]
      simpa using h2

def ev (f : Fr) : Operand → Option Value
  | .tmp t => look f t
  | .const v => some v
  | .global g => some (.pointer (some ⟨g, 0, none⟩))
  | .func g => some (.func (.func g) #[] #[])
def evs (f : Fr) : List Operand → Option (List Value)
  | [] => some []
  | x :: r => match ev f x, evs f r with
    | some v, some vs => some (v :: vs)
    | _, _ => none
def Agree (f : Fr) (e : Operand → Value) : Prop := ∀ x v, ev f x = some v → e x = v
theorem Holds.agree {N : Nat} {f : Fr} {a : Act} (h : Holds N f a) : Agree f a.eval := by
  intro x v hv
  cases x with
  | tmp t =>
    have := h.at_ t v hv
    simp [Act.eval, this]
  | const u => simpa [ev, Act.eval] using hv
  | global g => simpa [ev, Act.eval] using hv
  | func g => simpa [ev, Act.eval] using hv
theorem Agree.evs_ {f : Fr} {e : Operand → Value} (h : Agree f e) : ∀ {l : List Operand} {vs : List Value}, evs f l = some vs → l.map e = vs
  | [], vs, hv => by simp [evs] at hv; simp [hv]
  | x :: r, vs, hv => by
    unfold evs at hv
    split at hv
    · rename_i v us h1 h2
      obtain rfl := Option.some.inj hv
      simp [h x v h1, Agree.evs_ h h2]
    · cases hv

section
variable (P : Program) (N : Nat) (ops : Array Oper) (Q : Exit → Act → World → Prop)
/-- One operation. -/
def Op1 (o : Oper) (a : Act) (w : World) (K : Act → World → Prop) : Prop :=
  if Region.wanted o (yielded ops a.tmps) then o.wp P a w K Q ∨ (o.asks P a w ∧ LetsOut Q) else K (a.put o.dst undef) w
def W (l : List Oper) (f : Fr) (w : World) : Prop := ∀ a, Holds N f a → wpList P ops Q l a w
def C (c : Code) (f : Fr) (w : World) : Prop := ∀ a, Holds N f a → c.wp P Q a w
def E (e : Exit) (f : Fr) (w : World) : Prop := ∀ a, Holds N f a → Q e a w
/-- One operation in a frame: what it yields, and the world behind it. -/
def Sv (o : Oper) (f : Fr) (w : World) (k : Value → World → Prop) : Prop :=
  ∀ a, Holds N f a → Op1 P ops Q o a w (fun a' w' => ∃ v, a' = a.put o.dst v ∧ k v w')
end

section
variable {P : Program} {N : Nat} {ops : Array Oper} {Q : Exit → Act → World → Prop}
theorem Op1.mono {o : Oper} {a : Act} {w : World} {K K' : Act → World → Prop} (h : ∀ a w, K a w → K' a w) (hh : Op1 P ops Q o a w K) : Op1 P ops Q o a w K' := by
  unfold Op1 at *
  split at hh
  · rename_i hw; rw [if_pos hw]; exact hh.imp (Oper.wp_mono h) id
  · rename_i hw; rw [if_neg hw]; exact h _ _ hh
theorem Sv.mono {o : Oper} {f : Fr} {w : World} {k k' : Value → World → Prop} (h : ∀ v w, k v w → k' v w) (hh : Sv P N ops Q o f w k) : Sv P N ops Q o f w k' :=
  fun a ha => (hh a ha).mono fun _ _ ⟨v, h1, h2⟩ => ⟨v, h1, h _ _ h2⟩
theorem Holds.le {N : Nat} {f g : Fr} {a : Act} (h : Holds N f a) (hg : ∀ i v, look g i = some v → look f i = some v) : Holds N g a := ⟨h.defers, h.size, fun i v hv => h.at_ i v (hg i v hv)⟩
theorem Sv.le {o : Oper} {f g : Fr} {w : World} {k : Value → World → Prop} (hg : ∀ i v, look g i = some v → look f i = some v) (hh : Sv P N ops Q o g w k) : Sv P N ops Q o f w k := fun a ha => hh a (ha.le hg)
theorem W_cons {o : Oper} {rest : List Oper} {f : Fr} {w : World} {d : Nat} (hd : o.dst = some d) (hN : d < N) (h : Sv P N ops Q o f w (fun v w' => W P N ops Q rest ((d, v) :: f) w')) : W P N ops Q (o :: rest) f w := by
  intro a ha
  have := h a ha
  unfold Op1 at this
  unfold wpList
  split at this
  · rename_i hw; rw [if_pos hw]
    exact this.imp (Oper.wp_mono fun a' w' ⟨v, h1, h2⟩ => h1 ▸ h2 _ (hd ▸ ha.put hN v)) id
  · rename_i hw; rw [if_neg hw]
    obtain ⟨v, h1, h2⟩ := this
    exact h1 ▸ h2 _ (hd ▸ ha.put hN v)
theorem W_cons0 {o : Oper} {rest : List Oper} {f : Fr} {w : World} (hd : o.dst = none) (h : Sv P N ops Q o f w (fun _ w' => W P N ops Q rest f w')) : W P N ops Q (o :: rest) f w := by
  intro a ha
  have := h a ha
  unfold Op1 at this
  unfold wpList
  split at this
  · rename_i hw; rw [if_pos hw]
    exact this.imp (Oper.wp_mono fun a' w' ⟨v, h1, h2⟩ => h1 ▸ h2 _ (hd ▸ ha)) id
  · rename_i hw; rw [if_neg hw]
    obtain ⟨v, h1, h2⟩ := this
    exact h1 ▸ h2 _ (hd ▸ ha)
theorem W_nil {f : Fr} {w : World} (h : E N Q .normal f w) : W P N ops Q [] f w := fun a ha => h a ha
theorem W_sub (l : List Nat) {os : List Oper} {f : Fr} {w : World} (h : W P N ops Q os (sub l f) w) : W P N ops Q os f w := fun a ha => h a (ha.sub l)
theorem C_sub (l : List Nat) {c : Code} {f : Fr} {w : World} (h : C P N Q c (sub l f) w) : C P N Q c f w := fun a ha => h a (ha.sub l)
theorem E_sub (l : List Nat) {e : Exit} {f : Fr} {w : World} (h : E N Q e (sub l f) w) : E N Q e f w := fun a ha => h a (ha.sub l)
theorem C_seq {x y : Code} {f : Fr} {w : World} (h : C P N (Exit.then (y.wp P Q) Q) x f w) : C P N Q (.seq x y) f w := fun a ha => wp_seq (h a ha)
theorem E_then {y : Code} {f : Fr} {w : World} (h : C P N Q y f w) : E N (Exit.then (y.wp P Q) Q) .normal f w := fun a ha => h a ha
theorem E_then_ret {k : Act → World → Prop} {f : Fr} {w : World} (h : E N Q .ret f w) : E N (Exit.then k Q) .ret f w := fun a ha => h a ha
theorem E_then_exit {k : Act → World → Prop} {i : Nat} {f : Fr} {w : World} (h : E N Q (.exit i) f w) : E N (Exit.then k Q) (.exit i) f w := fun a ha => h a ha
theorem E_then_goto {k : Act → World → Prop} {i : Nat} {f : Fr} {w : World} (h : E N Q (.goto i) f w) : E N (Exit.then k Q) (.goto i) f w := fun a ha => h a ha
theorem C_region {id : Nat} {l : List Oper} {f : Fr} {w : World} (h : W P N l.toArray Q l f w) : C P N Q (.region id l.toArray false) f w := fun a ha => wp_region_lit (h a ha)
theorem C_skip {f : Fr} {w : World} (h : E N Q .normal f w) : C P N Q .skip f w := fun a ha => wp_skip (h a ha)
theorem C_ret {f : Fr} {w : World} (h : E N Q .ret f w) : C P N Q .ret f w := fun a ha => wp_ret (h a ha)
theorem C_exit {i : Nat} {f : Fr} {w : World} (h : E N Q (.exit i) f w) : C P N Q (.exit i) f w := fun a ha => wp_exit (h a ha)
theorem C_if {x y : Code} {c : Operand} {b : Bool} {f : Fr} {w : World} (hev : ev f c = some (.bool b)) (hb : b = true) (h : C P N Q x f w) : C P N Q (.cond c x y) f w :=
  fun a ha => wp_cond_true (by rw [ha.agree c _ hev, hb]) (h a ha)
theorem C_else {x y : Code} {c : Operand} {b : Bool} {f : Fr} {w : World} (hev : ev f c = some (.bool b)) (hb : b = false) (h : C P N Q y f w) : C P N Q (.cond c x y) f w :=
  fun a ha => wp_cond_false (by rw [ha.agree c _ hev, hb]) (h a ha)
theorem C_block {i : Nat} {c : Code} {f : Fr} {w : World} (h : C P N (Exit.inBlock i Q) c f w) : C P N Q (.block i c) f w := fun a ha => wp_block (h a ha)
theorem E_block_normal {i : Nat} {f : Fr} {w : World} (h : E N Q .normal f w) : E N (Exit.inBlock i Q) .normal f w := fun a ha => by simpa [Exit.inBlock] using h a ha
theorem E_block_hit {i : Nat} {f : Fr} {w : World} (h : E N Q .normal f w) : E N (Exit.inBlock i Q) (.exit i) f w := fun a ha => by simpa [Exit.inBlock] using h a ha
theorem E_block_miss {i j : Nat} {f : Fr} {w : World} (hij : (j == i) = false) (h : E N Q (.exit j) f w) : E N (Exit.inBlock i Q) (.exit j) f w := fun a ha => by
  have hne : j ≠ i := by simpa using hij
  have := h a ha
  simp only [Exit.inBlock]
  split <;> simp_all
theorem E_block_ret {i : Nat} {f : Fr} {w : World} (h : E N Q .ret f w) : E N (Exit.inBlock i Q) .ret f w := fun a ha => by simpa [Exit.inBlock] using h a ha
/-- A loop with a number of rounds left. -/
theorem C_loop {c : Code} {f : Fr} {w : World} (I : Nat → Fr → World → Prop) (k : Nat) (h0 : I k f w)
    (round : ∀ k f w, I k f w → C P N (Exit.then (fun a w => ∃ k' f', k' < k ∧ Holds N f' a ∧ I k' f' w) Q) c f w) : C P N Q (.loop c) f w := by
  intro a ha
  refine wp_loop_ghost (fun n a w => ∃ f, Holds N f a ∧ I n f w) k ⟨f, ha, h0⟩ ?_
  rintro n a w ⟨f, hf, hi⟩
  refine wp_mono (round n f w hi a hf) ?_
  intro e a' w' hq
  cases e <;> first
    | exact hq
    | (obtain ⟨k', f', h1, h2, h3⟩ := hq; exact ⟨k', h1, f', h2, h3⟩)
theorem E_round {k k' : Nat} {I : Nat → Fr → World → Prop} {f : Fr} {w : World} (l : List Nat) (hk : k' < k) (h : I k' (sub l f) w) :
    E N (Exit.then (fun a w => ∃ k' f', k' < k ∧ Holds N f' a ∧ I k' f' w) Q) .normal f w := fun _ ha => ⟨k', _, hk, ha.sub l, h⟩
/-- A piece of code that several ways come to: what holds there is told once. -/
theorem C_cut {x y : Code} {f : Fr} {w : World} (J : Fr → World → Prop) (h : C P N (Exit.then (fun a w => ∃ f', Holds N f' a ∧ J f' w) Q) x f w)
    (rest : ∀ f w, J f w → C P N Q y f w) : C P N Q (.seq x y) f w := fun a ha => wp_seq (wp_mono (h a ha) fun e a' w' hq => by
  cases e <;> first
    | exact hq
    | (obtain ⟨f', h1, h2⟩ := hq; exact rest f' w' h2 a' h1))
theorem E_cut {J : Fr → World → Prop} {f : Fr} {w : World} (l : List Nat) (h : J (sub l f) w) : E N (Exit.then (fun a w => ∃ f', Holds N f' a ∧ J f' w) Q) .normal f w :=
  fun _ ha => ⟨_, ha.sub l, h⟩
end

/-! ### a call -/
theorem Calls_of {P : Program} {g N : Nat} {fn : Func} {c : Code} {vs : List Value} {w : World} {R : Ending → World → Prop} (hf : P.funcs[g]? = some fn) (hb : fn.body = some c)
    (hN : fn.ntmps = N) (hl : vs.length ≤ N) (h : C P N (bodyPost P fn R) c (fr0 0 vs) w) : Calls P g vs.toArray w R := by
  refine calls_of_wp hf hb (h _ ⟨rfl, ?_, ?_⟩)
  · simp [hN]; omega
  · intro i v hv
    obtain ⟨_, h2⟩ := look_fr0 hv
    have h3 : i < vs.length := by
      rcases Nat.lt_or_ge i vs.length with h | h
      · exact h
      · rw [List.getElem?_eq_none (by omega)] at h2; cases h2
    rw [Array.getElem?_append_left (by simpa using h3)]
    simpa using h2
section
variable {P : Program} {N : Nat} {fn : Func} {R : Ending → World → Prop} {f : Fr} {w : World}
theorem E_ret0 (hr : fn.results = #[]) (h : R (.returned (.tuple #[])) w) : E N (bodyPost P fn R) .ret f w := fun _ ha => ⟨ha.defers, _, results_none hr _ _ _, h⟩
theorem E_ret1 {t : Nat} {v : Value} (hr : fn.results = #[.tmp t]) (hv : look f t = some v) (h : R (.returned v) w) : E N (bodyPost P fn R) .ret f w := fun a ha =>
  ⟨ha.defers, v, by have := ha.at_ t v hv; rw [results_tmp hr]; simp [this], h⟩
theorem E_ret2 {t u : Nat} {v x : Value} (hr : fn.results = #[.tmp t, .tmp u]) (hv : look f t = some v) (hx : look f u = some x) (h : R (.returned (.tuple #[v, x])) w) : E N (bodyPost P fn R) .ret f w := fun a ha =>
  ⟨ha.defers, _, by have h1 := ha.at_ t v hv; have h2 := ha.at_ u x hx; rw [results_tmp2 hr]; simp [h1, h2], h⟩
theorem E_end_normal {f : Fr} (h : E N (bodyPost P fn R) .ret f w) : E N (bodyPost P fn R) .normal f w := fun a ha => h a ha
end

/-! ### operations -/
section
variable {P : Program} {N : Nat} {ops : Array Oper} {Q : Exit → Act → World → Prop} {o : Oper} {f : Fr} {w : World} {k : Value → World → Prop}
/-- An operation that yields a value; the world may turn. -/
def Runs (P : Program) (o : Oper) (f : Fr) (w : World) (v : Value) (w' : World) : Prop := ∀ e, Agree f e → (execOp e o).run P w = .ok (.value v) w'
theorem wanted_none {y : Nat → Option Bool} (hg : o.guard = none) : Region.wanted o y = true := by simp [Region.wanted, hg]
theorem Sv_val {v : Value} {w' : World} (hg : o.guard = none) (hr : Runs P o f w v w') (h : k v w') : Sv P N ops Q o f w k := by
  intro a ha
  unfold Op1
  rw [if_pos (wanted_none hg)]
  refine .inl ?_
  unfold Oper.wp
  rw [hr _ ha.agree]
  exact ⟨v, rfl, h⟩
theorem Sv_skip {w' : World} (hg : o.guard = none) (hr : ∀ e, Agree f e → (execOp e o).run P w = .ok .skip w') (h : k undef w') : Sv P N ops Q o f w k := by
  intro a ha
  unfold Op1
  rw [if_pos (wanted_none hg)]
  refine .inl ?_
  unfold Oper.wp
  rw [hr _ ha.agree]
  exact ⟨undef, rfl, h⟩
theorem yielded_of {a : Act} (ha : Holds N f a) {j t : Nat} {b : Bool} (hj : (ops[j]?).bind (·.dst) = some t) (ht : look f t = some (.bool b)) : yielded ops a.tmps j = some b := by
  unfold yielded
  rw [hj]
  simp [ha.at_ t _ ht]
/-- A guarded operation that is carried out: as one without a guard. -/
theorem Sv_on {j t : Nat} {b b' : Bool} (hg : o.guard = some (j, b)) (hj : (ops[j]?).bind (·.dst) = some t) (ht : look f t = some (.bool b')) (hb : b' = b)
    (h : ∀ a, Holds N f a → o.wp P a w (fun a' w' => ∃ v, a' = a.put o.dst v ∧ k v w') Q) : Sv P N ops Q o f w k := by
  intro a ha
  unfold Op1
  subst hb
  rw [if_pos (by simp [Region.wanted, hg, yielded_of ha hj ht])]
  exact .inl (h a ha)
theorem Sv_on_val {j t : Nat} {b b' : Bool} {v : Value} {w' : World} (hg : o.guard = some (j, b)) (hj : (ops[j]?).bind (·.dst) = some t) (ht : look f t = some (.bool b')) (hb : b' = b)
    (hr : Runs P o f w v w') (h : k v w') : Sv P N ops Q o f w k := by
  refine Sv_on hg hj ht hb fun a ha => ?_
  unfold Oper.wp
  rw [hr _ ha.agree]
  exact ⟨v, rfl, h⟩
/-- A guarded one that is not. -/
theorem Sv_off {j t : Nat} {b b' : Bool} (hg : o.guard = some (j, b)) (hj : (ops[j]?).bind (·.dst) = some t) (ht : look f t = some (.bool b')) (hb : (b' == b) = false)
    (h : k undef w) : Sv P N ops Q o f w k := by
  intro a ha
  unfold Op1
  have hb' : b' ≠ b := by simpa using hb
  rw [if_neg (by simp [Region.wanted, hg, yielded_of ha hj ht, hb'])]
  exact ⟨undef, rfl, h⟩
theorem Sv_offu {j t : Nat} {b : Bool} (hg : o.guard = some (j, b)) (hj : (ops[j]?).bind (·.dst) = some t) (ht : look f t = some undef) (h : k undef w) : Sv P N ops Q o f w k := by
  intro a ha
  unfold Op1
  have hy : yielded ops a.tmps j = none := by
    unfold yielded
    rw [hj]
    simp [ha.at_ t _ ht, undef]
  rw [if_neg (by simp [Region.wanted, hg, hy])]
  exact ⟨undef, rfl, h⟩
theorem R_move {x : Operand} {v : Value} (ho : o.op = .move x) (hx : ev f x = some v) : Runs P o f w v w := fun e he => by simp [execOp, ho, he x v hx]
theorem R_assign {x : Operand} {v : Value} (ho : o.op = .assign x) (hx : ev f x = some v) : Runs P o f w v w := fun e he => by simp [execOp, ho, he x v hx]
theorem R_pick {c x y : Operand} {b : Bool} {u v : Value} (ho : o.op = .pick c x y) (hc : ev f c = some (.bool b)) (hx : b = true → ev f x = some v) (hy : b = false → ev f y = some v) : Runs P o f w v w := fun e he => by
  cases b with
  | true => simp [execOp, ho, he c _ hc, he x v (hx rfl), asBool]
  | false => simp [execOp, ho, he c _ hc, he y v (hy rfl), asBool]
theorem R_bin {b : BinOp} {T T' : TypeId} {x y : Operand} {u v r : Value} (ho : o.op = .binOp b T x y T') (hx : ev f x = some u) (hy : ev f y = some v)
    (hg : (eqGuard b T x y u v).run P w = .ok () w) (hr : (binOp b T u v).run P w = .ok r w) : Runs P o f w r w := fun e he => by
  simp [execOp, ho, he x u hx, he y v hy, hg, hr]
theorem R_un {q : UnOp} {T : TypeId} {x : Operand} {v r : Value} (ho : o.op = .unOp q T x) (hx : ev f x = some v) (hr : (Op.unary q v).run P w = .ok r w) : Runs P o f w r w := fun e he => by
  simp [execOp, ho, he x v hx, hr]
theorem R_conv {s d : TypeId} {x : Operand} {v r : Value} {w' : World} (ho : o.op = .convert s d x) (hx : ev f x = some v) (hr : (convert s d v).run P w = .ok r w') : Runs P o f w r w' := fun e he => by
  simp [execOp, ho, he x v hx, hr]
theorem R_extract {x : Operand} {i : Nat} {vs : Array Value} {v : Value} (ho : o.op = .extract x i) (hx : ev f x = some (.tuple vs)) (hv : vs[i]? = some v) : Runs P o f w v w := fun e he => by
  simp [execOp, ho, he x _ hx, Instr.extract, hv]
theorem R_builtin {b : Builtin} {l : List Operand} {ts : Array TypeId} {vs : List Value} {r : Value} {w' : World} (ho : o.op = .call { callee := .builtin b, args := l.toArray, argTypes := ts }) (hx : evs f l = some vs)
    (hr : (builtin b ts o.type (l.toArray.map fun | .const _ => true | _ => false) vs.toArray).run P w = .ok (.value r) w') : Runs P o f w r w' := fun e he => by
  have h1 : l.toArray.map e = vs.toArray := by simp [he.evs_ hx]
  simp only [execOp, ho, resolve, h1, invoke, Sem.run_bind, Sem.run_pure, Result.andThen_ok]
  exact hr
/-- Entering a function. -/
theorem wp_call {g : Nat} {l : List Operand} {ts : Array TypeId} {vs : List Value} (ho : o.op = .call { callee := .value (.func g), args := l.toArray, argTypes := ts }) (hx : evs f l = some vs)
    (hf : ∀ args w, (callFunc g args).run P w = .ok (.enter g args) w) (h : Calls P g vs.toArray w fun e w' => ∃ v, e = .returned v ∧ k v w') :
    ∀ a, Holds N f a → o.wp P a w (fun a' w' => ∃ v, a' = a.put o.dst v ∧ k v w') Q := by
  intro a ha
  have h1 : l.toArray.map a.eval = vs.toArray := by simp [ha.agree.evs_ hx]
  have hrun : (execOp a.eval o).run P w = .ok (.enter g vs.toArray) w := by
    unfold execOp
    simp [ho, resolve, Deferred.ofValue, invoke, Act.eval, hf]
    simpa using h1
  unfold Oper.wp
  rw [hrun, Oper.upon_enter]
  refine h.mono fun e w'' hh => ?_
  obtain ⟨v, rfl, hk⟩ := hh
  exact ⟨v, rfl, hk⟩
theorem Sv_call {g : Nat} {l : List Operand} {ts : Array TypeId} {vs : List Value} (hg : o.guard = none)
    (ho : o.op = .call { callee := .value (.func g), args := l.toArray, argTypes := ts }) (hx : evs f l = some vs) (hf : ∀ args w, (callFunc g args).run P w = .ok (.enter g args) w)
    (h : Calls P g vs.toArray w fun e w' => ∃ v, e = .returned v ∧ k v w') : Sv P N ops Q o f w k := by
  intro a ha
  unfold Op1
  rw [if_pos (wanted_none hg)]
  exact .inl (wp_call ho hx hf h a ha)
/-- Entering a function by its value. -/
theorem wp_callv {g : Nat} {x : Operand} {l : List Operand} {ts : Array TypeId} {vs caps : List Value} (ho : o.op = .call { callee := .value x, args := l.toArray, argTypes := ts }) (hxv : ev f x = some (.func (.func g) #[] caps.toArray)) (hx : evs f l = some vs)
    (hf : ∀ args w, (callFunc g args).run P w = .ok (.enter g args) w) (h : Calls P g (vs ++ caps).toArray w fun e w' => ∃ v, e = .returned v ∧ k v w') :
    ∀ a, Holds N f a → o.wp P a w (fun a' w' => ∃ v, a' = a.put o.dst v ∧ k v w') Q := by
  intro a ha
  have h1 : l.map a.eval = vs := ha.agree.evs_ hx
  have hrun : (execOp a.eval o).run P w = .ok (.enter g (vs ++ caps).toArray) w := by
    unfold execOp
    simp [ho, resolve, Deferred.ofValue, ha.agree x _ hxv, invoke, hf, h1]
  unfold Oper.wp
  rw [hrun, Oper.upon_enter]
  refine h.mono fun e w'' hh => ?_
  obtain ⟨v, rfl, hk⟩ := hh
  exact ⟨v, rfl, hk⟩
theorem Sv_of_wp (hg : o.guard = none) (h : ∀ a, Holds N f a → o.wp P a w (fun a' w' => ∃ v, a' = a.put o.dst v ∧ k v w') Q) : Sv P N ops Q o f w k := by
  intro a ha
  unfold Op1
  rw [if_pos (wanted_none hg)]
  exact .inl (h a ha)
end
theorem enters {P : Program} {g : FuncId} {fn : Func} (hf : P.funcs[g]? = some fn) (hname : (fn.name == "runtime.NumGoroutine") = false) (hb : fn.body.isSome = true) (args : Array Value) (w : World) : (callFunc g args).run P w = .ok (.enter g args) w := by
  have h1 : fn.name ≠ "runtime.NumGoroutine" := by simpa using hname
  obtain ⟨c, hc⟩ := Option.isSome_iff_exists.1 hb
  simp [callFunc, hf, h1, hc]
end Go.Proofs.YtcjaplaifmhajaaDoorG
