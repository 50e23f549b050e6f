/- Walks and laws of this program: part 1. -/
import Derived.Below
import Derived.Deep.LoopGhost
import Derived.Laws.Append
import Derived.Laws.AppendOwn
import Derived.Laws.AppendOwnNone
import Derived.Laws.Concat
import Derived.Laws.CopyRow
import Derived.Laws.Cover2
import Derived.Laws.Cover3
import Derived.Laws.Entries
import Derived.Laws.FloatArith
import Derived.Laws.IdiomStrings
import Derived.Laws.MakeOwn
import Derived.Laws.PanicsMore
import Derived.Laws.Slices
import Derived.Laws.Small
import Derived.Laws.Strings
import Derived.Laws.StructEq
import Derived.Maps.AppendAt
import Derived.OrdersHeld
import Derived.OrdersIn
import Derived.RangeFuncLeaves
import Derived.RangeFuncRecord
import Derived.Scope
import Derived.TacticsIn
import Derived.WalkKit
set_option linter.all false
namespace Go.Proofs.YtaljccgfnmfhnaaGreatDoorG
open Go
abbrev Fr := List (Nat × Value)
def look : Fr → Nat → Option Value
  | [], _ => none
  | (i, v) :: r, j => match Nat.beq i j with
    | true => some v
    | false => look r j
theorem look_hit {i : Nat} {v : Value} {r : Fr} : look ((i, v) :: r) i = some v := by simp [look]
theorem look_cons {i j : Nat} {v : Value} {r : Fr} : look ((i, v) :: r) j = if i = j then some v else look r j := by
  by_cases h : i = j
  · subst h; simp [look]
  · have : Nat.beq i j = false := by cases hb : Nat.beq i j with
      | false => rfl
      | true => exact absurd (Nat.eq_of_beq_eq_true hb) h
    simp [look, this, h]
structure Sz where
  n : Nat
  ms : List Nat := []
  ro : Option Nat := none
instance (k : Nat) : OfNat Sz k := ⟨⟨k, [], none⟩⟩
def Sz.F (N : Sz) : Fence := { Fence.wide with round := N.ro }
def mark (D : Nat) : Deferred := { target := .collected D, args := #[] }
structure Holds (N : Sz) (f : Fr) (a : Act) : Prop where
  defers : a.defers = N.ms.map mark
  size : a.tmps.size = N.n
  at_ : ∀ i v, look f i = some v → a.tmps[i]? = some v
theorem Holds.put {N : Sz} {d : Nat} {f : Fr} {a : Act} (h : Holds N f a) (hd : d < N.n) (v : Value) : Holds N ((d, v) :: f) (a.put (some d) v) := by
  refine ⟨h.defers, by simp [Act.put, h.size], fun i u hu => ?_⟩
  rw [look_cons] at hu
  simp only [Act.put]
  by_cases hi : d = i
  · subst hi
    rw [if_pos rfl] at hu
    obtain rfl := Option.some.inj hu
    rw [Array.getElem?_setIfInBounds, if_pos rfl, if_pos (by rw [h.size]; exact hd)]
  · rw [if_neg hi] at hu
    rw [Array.getElem?_setIfInBounds, if_neg hi]
    exact h.at_ i u hu
def sub : List Nat → Fr → Fr
  | [], _ => []
  | i :: r, f => match look f i with
    | some v => (i, v) :: sub r f
    | none => sub r f
theorem look_sub {l : List Nat} {f : Fr} {i : Nat} {v : Value} (h : look (sub l f) i = some v) : look f i = some v := by
  induction l with
  | nil => simp [sub, look] at h
  | cons j r ih =>
    unfold sub at h
    split at h
    · rename_i u hu
      rw [look_cons] at h
      by_cases hj : j = i
      · subst hj; rw [if_pos rfl] at h; rw [hu]; exact h
      · rw [if_neg hj] at h; exact ih h
    · exact ih h
theorem Holds.sub {N : Sz} {f : Fr} {a : Act} (h : Holds N f a) (l : List Nat) : Holds N (sub l f) a :=
  ⟨h.defers, h.size, fun i v hv => h.at_ i v (look_sub hv)⟩
def fr0 : Nat → List Value → Fr
  | _, [] => []
  | i, v :: r => (i, v) :: fr0 (i + 1) r
theorem look_fr0 {vs : List Value} : ∀ {k i : Nat} {v : Value}, look (fr0 k vs) i = some v → k ≤ i ∧ vs[i - k]? = some v := by
  induction vs with
  | nil => intro k i v h; simp [fr0, look] at h
  | cons u r ih =>
    intro k i v h
    unfold fr0 at h
    rw [look_cons] at h
    by_cases hk : k = i
    · subst hk; rw [if_pos rfl] at h; simp [h]
    · rw [if_neg hk] at h
      obtain ⟨h1, h2⟩ := ih h
      refine ⟨by omega, ?_⟩
      have : i - k = (i - (k + 1)) + 1 := by omega
      rw [this]
      simpa using h2
def ev (f : Fr) : Operand → Option Value
  | .tmp t => look f t
  | .const v => some v
  | .global g => some (.pointer (some ⟨g, 0, none⟩))
  | .func g => some (.func (.func g) #[] #[])
def evs (f : Fr) : List Operand → Option (List Value)
  | [] => some []
  | x :: r => match ev f x, evs f r with
    | some v, some vs => some (v :: vs)
    | _, _ => none
def Agree (f : Fr) (e : Operand → Value) : Prop := ∀ x v, ev f x = some v → e x = v
theorem Holds.agree {N : Sz} {f : Fr} {a : Act} (h : Holds N f a) : Agree f a.eval := by
  intro x v hv
  cases x with
  | tmp t =>
    have := h.at_ t v hv
    simp [Act.eval, this]
  | const u => simpa [ev, Act.eval] using hv
  | global g => simpa [ev, Act.eval] using hv
  | func g => simpa [ev, Act.eval] using hv
theorem Agree.evs_ {f : Fr} {e : Operand → Value} (h : Agree f e) : ∀ {l : List Operand} {vs : List Value}, evs f l = some vs → l.map e = vs
  | [], vs, hv => by simp [evs] at hv; simp [hv]
  | x :: r, vs, hv => by
    unfold evs at hv
    split at hv
    · rename_i v us h1 h2
      obtain rfl := Option.some.inj hv
      simp [h x v h1, Agree.evs_ h h2]
    · cases hv
section
variable (P : Program) (N : Sz) (ops : Array Oper) (Q : Exit → Act → World → Prop)
def Op1 (o : Oper) (a : Act) (w : World) (K : Act → World → Prop) : Prop :=
  if Region.wanted o (yielded ops a.tmps) then o.wpIn N.F 0 P a w K Q else K (a.put o.dst undef) w
def W (l : List Oper) (f : Fr) (w : World) : Prop := ∀ a, Holds N f a → wpListIn N.F 0 P ops Q l a w
def C (c : Code) (f : Fr) (w : World) : Prop := ∀ a, Holds N f a → c.wpIn N.F 0 P Q a w
def E (e : Exit) (f : Fr) (w : World) : Prop := ∀ a, Holds N f a → Q e a w
def Sv (o : Oper) (f : Fr) (w : World) (k : Value → World → Prop) : Prop :=
  ∀ a, Holds N f a → Op1 P N ops Q o a w (fun a' w' => ∃ v, a' = a.put o.dst v ∧ k v w')
end
section
variable {P : Program} {N : Sz} {ops : Array Oper} {Q : Exit → Act → World → Prop}
theorem Op1.mono {o : Oper} {a : Act} {w : World} {K K' : Act → World → Prop} (h : ∀ a w, K a w → K' a w) (hh : Op1 P N ops Q o a w K) : Op1 P N ops Q o a w K' := by
  unfold Op1 at *
  split at hh
  · rename_i hw; rw [if_pos hw]; exact Oper.wpIn_mono h hh
  · rename_i hw; rw [if_neg hw]; exact h _ _ hh
theorem Sv.mono {o : Oper} {f : Fr} {w : World} {k k' : Value → World → Prop} (h : ∀ v w, k v w → k' v w) (hh : Sv P N ops Q o f w k) : Sv P N ops Q o f w k' :=
  fun a ha => (hh a ha).mono fun _ _ ⟨v, h1, h2⟩ => ⟨v, h1, h _ _ h2⟩
theorem Holds.le {N : Sz} {f g : Fr} {a : Act} (h : Holds N f a) (hg : ∀ i v, look g i = some v → look f i = some v) : Holds N g a := ⟨h.defers, h.size, fun i v hv => h.at_ i v (hg i v hv)⟩
theorem Sv.le {o : Oper} {f g : Fr} {w : World} {k : Value → World → Prop} (hg : ∀ i v, look g i = some v → look f i = some v) (hh : Sv P N ops Q o g w k) : Sv P N ops Q o f w k := fun a ha => hh a (ha.le hg)
theorem W_cons {o : Oper} {rest : List Oper} {f : Fr} {w : World} {d : Nat} (hd : o.dst = some d) (hN : d < N.n) (h : Sv P N ops Q o f w (fun v w' => W P N ops Q rest ((d, v) :: f) w')) : W P N ops Q (o :: rest) f w := by
  intro a ha
  have := h a ha
  unfold Op1 at this
  unfold wpListIn
  split at this
  · rename_i hw; rw [if_pos hw]
    exact Oper.wpIn_mono (fun a' w' ⟨v, h1, h2⟩ => h1 ▸ h2 _ (hd ▸ ha.put hN v)) this
  · rename_i hw; rw [if_neg hw]
    obtain ⟨v, h1, h2⟩ := this
    exact ⟨fun _ _ => trivial, h1 ▸ h2 _ (hd ▸ ha.put hN v)⟩
theorem W_cons0 {o : Oper} {rest : List Oper} {f : Fr} {w : World} (hd : o.dst = none) (h : Sv P N ops Q o f w (fun _ w' => W P N ops Q rest f w')) : W P N ops Q (o :: rest) f w := by
  intro a ha
  have := h a ha
  unfold Op1 at this
  unfold wpListIn
  split at this
  · rename_i hw; rw [if_pos hw]
    exact Oper.wpIn_mono (fun a' w' ⟨v, h1, h2⟩ => h1 ▸ h2 _ (hd ▸ ha)) this
  · rename_i hw; rw [if_neg hw]
    obtain ⟨v, h1, h2⟩ := this
    exact ⟨fun _ _ => trivial, h1 ▸ h2 _ (hd ▸ ha)⟩
theorem W_nil {f : Fr} {w : World} (h : E N Q .normal f w) : W P N ops Q [] f w := fun a ha => h a ha
theorem C_sub (l : List Nat) {c : Code} {f : Fr} {w : World} (h : C P N Q c (sub l f) w) : C P N Q c f w := fun a ha => h a (ha.sub l)
theorem C_seq {x y : Code} {f : Fr} {w : World} (h : C P N (Exit.then (y.wpIn N.F 0 P Q) Q) x f w) : C P N Q (.seq x y) f w := fun a ha => wpIn_seq (h a ha)
theorem E_then {y : Code} {f : Fr} {w : World} (h : C P N Q y f w) : E N (Exit.then (y.wpIn N.F 0 P Q) Q) .normal f w := fun a ha => h a ha
theorem E_then_ret {k : Act → World → Prop} {f : Fr} {w : World} (h : E N Q .ret f w) : E N (Exit.then k Q) .ret f w := fun a ha => h a ha
theorem E_then_exit {k : Act → World → Prop} {i : Nat} {f : Fr} {w : World} (h : E N Q (.exit i) f w) : E N (Exit.then k Q) (.exit i) f w := fun a ha => h a ha
theorem E_then_goto {k : Act → World → Prop} {i : Nat} {f : Fr} {w : World} (h : E N Q (.goto i) f w) : E N (Exit.then k Q) (.goto i) f w := fun a ha => h a ha
theorem C_region {id : Nat} {l : List Oper} {f : Fr} {w : World} (h : W P N l.toArray Q l f w) : C P N Q (.region id l.toArray false) f w := fun a ha => wpIn_region_lit (h a ha)
theorem C_skip {f : Fr} {w : World} (h : E N Q .normal f w) : C P N Q .skip f w := fun a ha => wpIn_skip (h a ha)
theorem C_ret {f : Fr} {w : World} (h : E N Q .ret f w) : C P N Q .ret f w := fun a ha => wpIn_ret (h a ha)
theorem C_exit {i : Nat} {f : Fr} {w : World} (h : E N Q (.exit i) f w) : C P N Q (.exit i) f w := fun a ha => wpIn_exit (h a ha)
theorem C_if {x y : Code} {c : Operand} {b : Bool} {f : Fr} {w : World} (hev : ev f c = some (.bool b)) (hb : b = true) (h : C P N Q x f w) : C P N Q (.cond c x y) f w :=
  fun a ha => wpIn_cond_true (by rw [ha.agree c _ hev, hb]) (h a ha)
theorem C_else {x y : Code} {c : Operand} {b : Bool} {f : Fr} {w : World} (hev : ev f c = some (.bool b)) (hb : b = false) (h : C P N Q y f w) : C P N Q (.cond c x y) f w :=
  fun a ha => wpIn_cond_false (by rw [ha.agree c _ hev, hb]) (h a ha)
theorem C_block {i : Nat} {c : Code} {f : Fr} {w : World} (h : C P N (Exit.inBlock i Q) c f w) : C P N Q (.block i c) f w := fun a ha => wpIn_block (h a ha)
theorem E_block_normal {i : Nat} {f : Fr} {w : World} (h : E N Q .normal f w) : E N (Exit.inBlock i Q) .normal f w := fun a ha => by simpa [Exit.inBlock] using h a ha
theorem E_block_hit {i : Nat} {f : Fr} {w : World} (h : E N Q .normal f w) : E N (Exit.inBlock i Q) (.exit i) f w := fun a ha => by simpa [Exit.inBlock] using h a ha
theorem E_block_miss {i j : Nat} {f : Fr} {w : World} (hij : (j == i) = false) (h : E N Q (.exit j) f w) : E N (Exit.inBlock i Q) (.exit j) f w := fun a ha => by
  have hne : j ≠ i := by simpa using hij
  have := h a ha
  simp only [Exit.inBlock]
  split <;> simp_all
theorem E_block_ret {i : Nat} {f : Fr} {w : World} (h : E N Q .ret f w) : E N (Exit.inBlock i Q) .ret f w := fun a ha => by simpa [Exit.inBlock] using h a ha
theorem C_loop {c : Code} {f : Fr} {w : World} (I : Nat → Fr → World → Prop) (k : Nat) (h0 : I k f w)
    (round : ∀ k f w, I k f w → C P N (Exit.then (fun a w => ∃ k' f', k' < k ∧ Holds N f' a ∧ I k' f' w) Q) c f w) : C P N Q (.loop c) f w := by
  intro a ha
  refine wpIn_loop (fun a w => ∃ n, ∃ f, Holds N f a ∧ I n f w) (fun a w => leastOf fun n => ∃ f, Holds N f a ∧ I n f w) ⟨k, f, ha, h0⟩ ?_
  intro a w hI
  obtain ⟨f, hf, hi⟩ := (leastOf_spec hI).1
  refine wpIn_mono (round _ f w hi a hf) ?_
  intro e a' w' hq
  cases e <;> first
    | exact hq
    | (obtain ⟨k', f', h1, h2, h3⟩ := hq; exact ⟨⟨k', f', h2, h3⟩, Nat.lt_of_le_of_lt ((leastOf_spec (p := fun n => ∃ f, Holds N f a' ∧ I n f w') ⟨k', f', h2, h3⟩).2 k' ⟨f', h2, h3⟩) h1⟩)
theorem E_round {k k' : Nat} {I : Nat → Fr → World → Prop} {f : Fr} {w : World} (l : List Nat) (hk : k' < k) (h : I k' (sub l f) w) :
    E N (Exit.then (fun a w => ∃ k' f', k' < k ∧ Holds N f' a ∧ I k' f' w) Q) .normal f w := fun _ ha => ⟨k', _, hk, ha.sub l, h⟩
end
abbrev bodyP (P : Program) (fn : Func) (R : Ending → World → Prop) := bodyPostM Fence.wide 0 P fn R
theorem Calls_of {P : Program} {g N : Nat} {fn : Func} {c : Code} {vs : List Value} {w : World} {R : Ending → World → Prop} (hf : P.funcs[g]? = some fn) (hb : fn.body = some c)
    (hN : fn.ntmps = N) (hl : vs.length ≤ N) (h : C P ⟨N, [], none⟩ (bodyP P fn R) c (fr0 0 vs) w) : Calls P g vs.toArray w R := by
  refine callsIn_wide.1 (callsIn_of_wp_marks (F := Fence.wide) (n := 0) hf hb trivial (h _ ⟨rfl, ?_, ?_⟩))
  · simp [hN]; omega
  · intro i v hv
    obtain ⟨_, h2⟩ := look_fr0 hv
    have h3 : i < vs.length := by
      rcases Nat.lt_or_ge i vs.length with h | h
      · exact h
      · rw [List.getElem?_eq_none (by omega)] at h2; cases h2
    rw [Array.getElem?_append_left (by simpa using h3)]
    simpa using h2
section
variable {P : Program} {N : Sz} {n : Nat} {fn : Func} {R : Ending → World → Prop} {f : Fr} {w : World}
theorem Holds.noms {ro : Option Nat} {a : Act} (h : Holds ⟨n, [], ro⟩ f a) : a.defers = [] := h.defers
theorem E_ret0 (hr : fn.results = #[]) (h : R (.returned (.tuple #[])) w) : E ⟨n, [], none⟩ (bodyP P fn R) .ret f w := fun a ha => by
  show LeavesInM Fence.wide 0 P fn a.tmps R a.defers .returning w
  rw [ha.noms]; exact ⟨_, results_none hr _ _ _, h⟩
theorem E_ret1 {t : Nat} {v : Value} (hr : fn.results = #[.tmp t]) (hv : look f t = some v) (h : R (.returned v) w) : E ⟨n, [], none⟩ (bodyP P fn R) .ret f w := fun a ha => by
  show LeavesInM Fence.wide 0 P fn a.tmps R a.defers .returning w
  rw [ha.noms]; exact ⟨v, by have := ha.at_ t v hv; rw [results_tmp hr]; simp [this], h⟩
theorem E_ret2 {t u : Nat} {v x : Value} (hr : fn.results = #[.tmp t, .tmp u]) (hv : look f t = some v) (hx : look f u = some x) (h : R (.returned (.tuple #[v, x])) w) : E ⟨n, [], none⟩ (bodyP P fn R) .ret f w := fun a ha => by
  show LeavesInM Fence.wide 0 P fn a.tmps R a.defers .returning w
  rw [ha.noms]; exact ⟨_, by have h1 := ha.at_ t v hv; have h2 := ha.at_ u x hx; rw [results_tmp2 hr]; simp [h1, h2], h⟩
theorem E_end_normal {f : Fr} (h : E N (bodyP P fn R) .ret f w) : E N (bodyP P fn R) .normal f w := fun a ha => h a ha
theorem E_mark {D : Nat} {ms : List Nat} {ro : Option Nat} (hD : w.heap[D]? = some (.deferred (some []))) (h : E ⟨n, ms, ro⟩ (bodyP P fn R) .ret f (w.putObj D (.deferred none))) : E ⟨n, D :: ms, ro⟩ (bodyP P fn R) .ret f w := fun a ha => by
  show LeavesInM Fence.wide 0 P fn a.tmps R a.defers .returning w
  rw [ha.defers]
  refine ⟨by simp, .inl ⟨D, _, rfl, run_takeDeferred hD, ?_⟩⟩
  exact h { a with defers := ms.map mark } ⟨rfl, ha.size, ha.at_⟩
end
section
variable {P : Program} {N : Sz} {ops : Array Oper} {Q : Exit → Act → World → Prop} {o : Oper} {f : Fr} {w : World} {k : Value → World → Prop}
def Runs (P : Program) (o : Oper) (f : Fr) (w : World) (v : Value) (w' : World) : Prop := ∀ e, Agree f e → (execOp e o).run P w = .ok (.value v) w'
theorem semAt_ok {ro : Option Nat} {e : Operand → Value} {x : Next} {w' : World} (h : (execOp e o).run P w = .ok x w') (hx : ∀ d, x ≠ .defer d) : (o.semAt ro e).run P w = .ok x w' := by
  rw [Oper.semAt_eq _ _ _ (fun c hc => ?_)]
  · exact h
  · unfold execOp at h
    rw [hc] at h
    simp only [Sem.run_bind] at h
    cases h1 : (resolve e c o.type).run P w with
    | ok d w1 => rw [h1] at h; simp [Result.andThen] at h; exact hx d h.1.symm
    | halt y w1 => rw [h1] at h; simp [Result.andThen] at h
theorem owp_val {a : Act} {K : Act → World → Prop} {v : Value} {w' : World} (hr : (execOp a.eval o).run P w = .ok (.value v) w') (h : K (a.put o.dst v) w') : o.wpIn N.F 0 P a w K Q := by
  refine ⟨fun _ _ => trivial, ?_⟩
  rw [semAt_ok hr (by intro d h; cases h)]
  exact h
theorem owp_skip {a : Act} {K : Act → World → Prop} {w' : World} (hr : (execOp a.eval o).run P w = .ok .skip w') (h : K (a.put o.dst undef) w') : o.wpIn N.F 0 P a w K Q := by
  refine ⟨fun _ _ => trivial, ?_⟩
  rw [semAt_ok hr (by intro d h; cases h)]
  exact h
theorem owp_of {a : Act} {K : Act → World → Prop} (hd : ∀ c, o.op ≠ .defer c) (h : o.wp P a w K Q) : o.wpIn N.F 0 P a w K Q := by
  refine ⟨fun _ _ => trivial, ?_⟩
  rw [Oper.semAt_eq _ _ _ hd]
  unfold Oper.wp at h
  revert h
  generalize (execOp a.eval o).run P w = r
  intro h
  cases r with
  | ok x w' =>
    cases x with
    | enter f args => exact ⟨fun h => (by cases h), (callsIn_wide (n := 0)).2 h⟩
    | row r args => exact ⟨fun h => (by cases h), fun c cs _ => by obtain ⟨v, w', h1, h2⟩ := h c cs; exact ⟨v, w', h1, stepsIn_wide.2 h2⟩⟩
    | round l f tmps a b => exact h.elim
    | _ => exact h
  | halt x w' => cases x <;> exact h
theorem wanted_none {y : Nat → Option Bool} (hg : o.guard = none) : Region.wanted o y = true := by simp [Region.wanted, hg]
theorem Sv_val {v : Value} {w' : World} (hg : o.guard = none) (hr : Runs P o f w v w') (h : k v w') : Sv P N ops Q o f w k := by
  intro a ha
  unfold Op1
  rw [if_pos (wanted_none hg)]
  exact owp_val (hr _ ha.agree) ⟨v, rfl, h⟩
theorem Sv_skip {w' : World} (hg : o.guard = none) (hr : ∀ e, Agree f e → (execOp e o).run P w = .ok .skip w') (h : k undef w') : Sv P N ops Q o f w k := by
  intro a ha
  unfold Op1
  rw [if_pos (wanted_none hg)]
  exact owp_skip (hr _ ha.agree) ⟨undef, rfl, h⟩
theorem yielded_of {a : Act} (ha : Holds N f a) {j t : Nat} {b : Bool} (hj : (ops[j]?).bind (·.dst) = some t) (ht : look f t = some (.bool b)) : yielded ops a.tmps j = some b := by
  unfold yielded
  rw [hj]
  simp [ha.at_ t _ ht]
theorem Sv_off {j t : Nat} {b b' : Bool} (hg : o.guard = some (j, b)) (hj : (ops[j]?).bind (·.dst) = some t) (ht : look f t = some (.bool b')) (hb : (b' == b) = false)
    (h : k undef w) : Sv P N ops Q o f w k := by
  intro a ha
  unfold Op1
  have hb' : b' ≠ b := by simpa using hb
  rw [if_neg (by simp [Region.wanted, hg, yielded_of ha hj ht, hb'])]
  exact ⟨undef, rfl, h⟩
theorem R_move {x : Operand} {v : Value} (ho : o.op = .move x) (hx : ev f x = some v) : Runs P o f w v w := fun e he => by simp [execOp, ho, he x v hx]
theorem R_assign {x : Operand} {v : Value} (ho : o.op = .assign x) (hx : ev f x = some v) : Runs P o f w v w := fun e he => by simp [execOp, ho, he x v hx]
theorem R_pick {c x y : Operand} {b : Bool} {u v : Value} (ho : o.op = .pick c x y) (hc : ev f c = some (.bool b)) (hx : b = true → ev f x = some v) (hy : b = false → ev f y = some v) : Runs P o f w v w := fun e he => by
  cases b with
  | true => simp [execOp, ho, he c _ hc, he x v (hx rfl), asBool]
  | false => simp [execOp, ho, he c _ hc, he y v (hy rfl), asBool]
theorem R_bin {b : BinOp} {T T' : TypeId} {x y : Operand} {u v r : Value} (ho : o.op = .binOp b T x y T') (hx : ev f x = some u) (hy : ev f y = some v)
    (hg : (eqGuard b T x y u v).run P w = .ok () w) (hr : (binOp b T u v).run P w = .ok r w) : Runs P o f w r w := fun e he => by
  simp [execOp, ho, he x u hx, he y v hy, hg, hr]
theorem R_un {q : UnOp} {T : TypeId} {x : Operand} {v r : Value} (ho : o.op = .unOp q T x) (hx : ev f x = some v) (hr : (Op.unary q v).run P w = .ok r w) : Runs P o f w r w := fun e he => by
  simp [execOp, ho, he x v hx, hr]
theorem R_conv {s d : TypeId} {x : Operand} {v r : Value} {w' : World} (ho : o.op = .convert s d x) (hx : ev f x = some v) (hr : (convert s d v).run P w = .ok r w') : Runs P o f w r w' := fun e he => by
  simp [execOp, ho, he x v hx, hr]
theorem R_extract {x : Operand} {i : Nat} {vs : Array Value} {v : Value} (ho : o.op = .extract x i) (hx : ev f x = some (.tuple vs)) (hv : vs[i]? = some v) : Runs P o f w v w := fun e he => by
  simp [execOp, ho, he x _ hx, Instr.extract, hv]
theorem R_builtin {b : Builtin} {l : List Operand} {ts : Array TypeId} {vs : List Value} {r : Value} {w' : World} (ho : o.op = .call { callee := .builtin b, args := l.toArray, argTypes := ts }) (hx : evs f l = some vs)
    (hr : (builtin b ts o.type (l.toArray.map fun | .const _ => true | _ => false) vs.toArray).run P w = .ok (.value r) w') : Runs P o f w r w' := fun e he => by
  have h1 : l.toArray.map e = vs.toArray := by simp [he.evs_ hx]
  simp only [execOp, ho, resolve, h1, invoke, Sem.run_bind, Sem.run_pure, Result.andThen_ok]
  exact hr
theorem wp_call {g : Nat} {l : List Operand} {ts : Array TypeId} {vs : List Value} (ho : o.op = .call { callee := .value (.func g), args := l.toArray, argTypes := ts }) (hx : evs f l = some vs)
    (hf : ∀ args w, (callFunc g args).run P w = .ok (.enter g args) w) (h : Calls P g vs.toArray w fun e w' => ∃ v, e = .returned v ∧ k v w') :
    ∀ a, Holds N f a → o.wp P a w (fun a' w' => ∃ v, a' = a.put o.dst v ∧ k v w') Q := by
  intro a ha
  have h1 : l.toArray.map a.eval = vs.toArray := by simp [ha.agree.evs_ hx]
  have hrun : (execOp a.eval o).run P w = .ok (.enter g vs.toArray) w := by
    unfold execOp
    simp [ho, resolve, Deferred.ofValue, invoke, Act.eval, hf]
    simpa using h1
  unfold Oper.wp
  rw [hrun, Oper.upon_enter]
  refine h.mono fun e w'' hh => ?_
  obtain ⟨v, rfl, hk⟩ := hh
  exact ⟨v, rfl, hk⟩
theorem Sv_call {g : Nat} {l : List Operand} {ts : Array TypeId} {vs : List Value} (hg : o.guard = none)
    (ho : o.op = .call { callee := .value (.func g), args := l.toArray, argTypes := ts }) (hx : evs f l = some vs) (hf : ∀ args w, (callFunc g args).run P w = .ok (.enter g args) w)
    (h : Calls P g vs.toArray w fun e w' => ∃ v, e = .returned v ∧ k v w') : Sv P N ops Q o f w k := by
  intro a ha
  unfold Op1
  rw [if_pos (wanted_none hg)]
  exact owp_of (by simp [ho]) (wp_call ho hx hf h a ha)
theorem wp_callv {g : Nat} {x : Operand} {l : List Operand} {ts : Array TypeId} {vs caps : List Value} (ho : o.op = .call { callee := .value x, args := l.toArray, argTypes := ts }) (hxv : ev f x = some (.func (.func g) #[] caps.toArray)) (hx : evs f l = some vs)
    (hf : ∀ args w, (callFunc g args).run P w = .ok (.enter g args) w) (h : Calls P g (vs ++ caps).toArray w fun e w' => ∃ v, e = .returned v ∧ k v w') :
    ∀ a, Holds N f a → o.wp P a w (fun a' w' => ∃ v, a' = a.put o.dst v ∧ k v w') Q := by
  intro a ha
  have h1 : l.map a.eval = vs := ha.agree.evs_ hx
  have hrun : (execOp a.eval o).run P w = .ok (.enter g (vs ++ caps).toArray) w := by
    unfold execOp
    simp [ho, resolve, Deferred.ofValue, ha.agree x _ hxv, invoke, hf, h1]
  unfold Oper.wp
  rw [hrun, Oper.upon_enter]
  refine h.mono fun e w'' hh => ?_
  obtain ⟨v, rfl, hk⟩ := hh
  exact ⟨v, rfl, hk⟩
theorem Sv_of_wp (hg : o.guard = none) (hd : ∀ c, o.op ≠ .defer c) (h : ∀ a, Holds N f a → o.wp P a w (fun a' w' => ∃ v, a' = a.put o.dst v ∧ k v w') Q) : Sv P N ops Q o f w k := by
  intro a ha
  unfold Op1
  rw [if_pos (wanted_none hg)]
  exact owp_of hd (h a ha)
end
theorem enters {P : Program} {g : FuncId} {fn : Func} (hf : P.funcs[g]? = some fn) (hname : (fn.name == "runtime.NumGoroutine") = false) (hb : fn.body.isSome = true) (args : Array Value) (w : World) : (callFunc g args).run P w = .ok (.enter g args) w := by
  have h1 : fn.name ≠ "runtime.NumGoroutine" := by simpa using hname
  obtain ⟨c, hc⟩ := Option.isSome_iff_exists.1 hb
  simp [callFunc, hf, h1, hc]
end Go.Proofs.YtaljccgfnmfhnaaGreatDoorG
set_option linter.all false
namespace Go.Proofs.YtaljccgfnmfhnaaGreatDoorG
open Go Go.RowKit
structure Chg (X : List Nat) (w w' : World) : Prop where
  os : w'.os = w.os
  tape : w'.tape = w.tape
  output : w'.output = w.output
  size : w.heap.size ≤ w'.heap.size
  block : ∀ k, k < w.heap.size → k ∉ X → w'.heap[k]? = w.heap[k]?
theorem Chg.refl (X : List Nat) (w : World) : Chg X w w := ⟨rfl, rfl, rfl, Nat.le_refl _, fun _ _ _ => rfl⟩
theorem Chg.trans {X Y : List Nat} {a b c : World} (h : Chg X a b) (k : Chg Y b c) : Chg (X ++ Y) a c :=
  ⟨k.os.trans h.os, k.tape.trans h.tape, k.output.trans h.output, Nat.le_trans h.size k.size, fun i hi hn => by
    rw [List.mem_append, not_or] at hn
    exact (k.block i (Nat.lt_of_lt_of_le hi h.size) hn.2).trans (h.block i hi hn.1)⟩
theorem Chg.mono {X Y : List Nat} {a b : World} (h : Chg X a b) (hs : ∀ k ∈ X, k ∈ Y ∨ a.heap.size ≤ k) : Chg Y a b :=
  ⟨h.os, h.tape, h.output, h.size, fun i hi hn => h.block i hi fun hx => (hs i hx).elim hn (fun _ => by omega)⟩
theorem Chg.then {X Y : List Nat} {a b c : World} (h : Chg X a b) (k : Chg Y b c) (hs : ∀ i ∈ Y, i ∈ X ∨ a.heap.size ≤ i) : Chg X a c :=
  (h.trans k).mono fun i hi => by
    rcases List.mem_append.1 hi with h1 | h1
    · exact .inl h1
    · exact hs i h1
theorem Chg.below {w w' : World} (h : Chg [] w w') : Below w.heap.size w w' := ⟨h.os, h.tape, h.output, h.size, fun k hk => h.block k hk (by simp)⟩
theorem Chg.alloc (w : World) (o : Obj) : Chg [] w (w.alloc o) := ⟨rfl, rfl, rfl, by simp, fun k hk _ => Below.heap_alloc _ _ _ hk⟩
theorem Chg.drew (w : World) : Chg [] w { w with drawn := w.drawn + 1 } := ⟨rfl, rfl, rfl, Nat.le_refl _, fun _ _ _ => rfl⟩
theorem Chg.setCell (w : World) (a : Addr) (v : Value) : Chg [a.block] w (w.setCell a v) :=
  ⟨rfl, rfl, rfl, by simp [World.setCell], fun k _ hn => Below.heap_setCell _ _ _ _ (by simpa using hn)⟩
theorem Chg.grown {w w' : World} {r : Option Nat} (h : w.grownBy w' r) : Chg r.toList w w' := ⟨h.os, h.tape, h.output, h.size, fun k hk hn => h.block k hk (by
  rintro rfl
  simp at hn)⟩
abbrev Z := Nat → Option (Array Value)
def cellsAt (w : World) (b : Nat) : Option (Array Value) := match w.heap[b]? with
  | some (.cells c _ _) => some c
  | _ => none
def zE : Z := fun _ => none
def Sub (z : Z) (w : World) : Prop := ∀ b c, z b = some c → cellsAt w b = some c
def zle (z z' : Z) : Prop := ∀ b c, z b = some c → z' b = some c
def zor (z z' : Z) : Z := fun b => (z b).or (z' b)
def cz (z : Z) (a : Addr) : Option Value := if a.spot.isSome then none else (z a.block).bind (fun c => c[a.off]?)
theorem zle.refl (z : Z) : zle z z := fun _ _ h => h
theorem zle.trans {a b c : Z} (h : zle a b) (k : zle b c) : zle a c := fun i x hx => k i x (h i x hx)
theorem zle_E (z : Z) : zle zE z := fun _ _ h => by simp [zE] at h
theorem zle_or (z z' : Z) : zle z (zor z z') := fun _ _ h => by simp [zor, h]
theorem cz_mono {z z' : Z} (h : zle z z') {a : Addr} {v : Value} (hc : cz z a = some v) : cz z' a = some v := by
  unfold cz at *
  split at hc
  · cases hc
  · rename_i hs
    rw [if_neg hs]
    cases hz : z a.block with
    | none => rw [hz] at hc; cases hc
    | some c => rw [hz] at hc; rw [h _ _ hz]; exact hc
theorem cell_of {w : World} {a : Addr} {c : Array Value} {v : Value} (hs : a.spot.isSome = false) (hb : cellsAt w a.block = some c) (hv : c[a.off]? = some v) : w.cell? a = some v := by
  unfold cellsAt at hb
  unfold World.cell?
  split at hb
  · rename_i c' e fr hh
    obtain rfl := Option.some.inj hb
    rw [hh]
    simp [hs, hv]
  · cases hb
theorem Sub.cell {z : Z} {w : World} (h : Sub z w) {a : Addr} {v : Value} (hc : cz z a = some v) : w.cell? a = some v := by
  unfold cz at hc
  split at hc
  · cases hc
  · rename_i hs
    cases hz : z a.block with
    | none => rw [hz] at hc; cases hc
    | some c => rw [hz] at hc; exact cell_of (by simpa using hs) (h _ _ hz) hc
theorem Sub.self (w : World) : Sub (cellsAt w) w := fun _ _ h => h
theorem Sub.lt {z : Z} {w : World} (h : Sub z w) {b : Nat} (hb : z b ≠ none) : b < w.heap.size := by
  cases hz : z b with
  | none => exact absurd hz hb
  | some c =>
    have := h b c hz
    unfold cellsAt at this
    split at this
    · rename_i hh; exact (Array.getElem?_eq_some_iff.1 hh).1
    · cases this
theorem cellsAt_congr {w w' : World} {b : Nat} (h : w'.heap[b]? = w.heap[b]?) : cellsAt w' b = cellsAt w b := by simp [cellsAt, h]
theorem Sub.chg {z : Z} {X : List Nat} {w w' : World} (h : Sub z w) (hc : Chg X w w') (hX : ∀ k ∈ X, z k = none) : Sub z w' := fun b c hz => by
  rw [cellsAt_congr (hc.block b (h.lt (by rw [hz]; simp)) (fun hm => by rw [hX b hm] at hz; cases hz))]
  exact h b c hz
theorem Sub.chg0 {z : Z} {w w' : World} (h : Sub z w) (hc : Chg [] w w') : Sub z w' := h.chg hc (by simp)
theorem Sub.or {z z' : Z} {w : World} (h : Sub z w) (h' : Sub z' w) : Sub (zor z z') w := fun b c hz => by
  unfold zor at hz
  cases hb : z b with
  | none => rw [hb] at hz; exact h' b c (by simpa using hz)
  | some d => rw [hb] at hz; simp at hz; subst hz; exact h b d hb
theorem Sub.E (w : World) : Sub zE w := fun _ _ h => by simp [zE] at h
structure Kd (α : Type) where
  sz : Nat
  K : Z → α → List Value → Prop
  mono : ∀ {z z' x cs}, zle z z' → K z x cs → K z' x cs
  len : ∀ {z x cs}, K z x cs → cs.length = sz
  one : ∀ {z x cs}, K z x cs → ∀ u ∈ cs, u.oneCell' = true
def flat {α : Type} (n : Nat) (enc : α → List Value) (hl : ∀ x, (enc x).length = n) (h1 : ∀ x, ∀ u ∈ enc x, u.oneCell' = true) : Kd α where
  sz := n
  K := fun _ x cs => cs = enc x
  mono := fun _ h => h
  len := fun h => by rw [h]; exact hl _
  one := fun h => by rw [h]; exact h1 _
theorem one1 {v : Value} (h : v.oneCell' = true) : ∀ u ∈ [v], u.oneCell' = true := fun u hu => by rw [List.mem_singleton.1 hu]; exact h
def kint (k : IntKind) : Kd Int := flat 1 (fun n => [.int k n]) (fun _ => rfl) (fun _ => one1 rfl)
def kbool : Kd Bool := flat 1 (fun b => [.bool b]) (fun _ => rfl) (fun _ => one1 rfl)
abbrev St := List UInt8
abbrev vstr (s : St) : Value := .string ⟨s.toArray⟩
def kstr : Kd St := flat 1 (fun s => [vstr s]) (fun _ => rfl) (fun _ => one1 rfl)
def Rd {α : Type} (d : Kd α) (z : Z) (A : Option Addr) (xs : List α) : Prop :=
  ∀ i x, xs[i]? = some x → ∃ a cs, A = some a ∧ d.K z x cs ∧ ∀ j u, cs[j]? = some u → cz z (a.add (i * d.sz + j)) = some u
theorem Rd.mono {α : Type} {d : Kd α} {z z' : Z} {A : Option Addr} {xs : List α} (h : Rd d z A xs) (hz : zle z z') : Rd d z' A xs := fun i x hx => by
  obtain ⟨a, cs, h1, h2, h3⟩ := h i x hx
  exact ⟨a, cs, h1, d.mono hz h2, fun j u hu => cz_mono hz (h3 j u hu)⟩
theorem Rd.nil {α : Type} (d : Kd α) (z : Z) (A : Option Addr) : Rd d z A [] := fun i x hx => by simp at hx
theorem add_add (a : Addr) (m n : Nat) : (a.add m).add n = a.add (m + n) := by
  unfold Addr.add
  by_cases hm : m = 0
  · subst hm; simp
  · by_cases hn : n = 0
    · subst hn; simp [hm]
    · simp [hm, hn]; omega
theorem add_at (g n : Nat) : (⟨g, 0, none⟩ : Addr).add n = ⟨g, n, none⟩ := by
  unfold Addr.add
  by_cases h : n = 0
  · subst h; rfl
  · simp [h]
theorem add_zero (a : Addr) : a.add 0 = a := by simp [Addr.add]
theorem Rd.cut {α : Type} {d : Kd α} {z : Z} {A : Option Addr} {xs : List α} (h : Rd d z A xs) (lo hi : Nat) : Rd d z (A.map (·.add (lo * d.sz))) ((xs.take hi).drop lo) := fun i x hx => by
  rw [List.getElem?_drop, List.getElem?_take] at hx
  split at hx
  · obtain ⟨a, cs, h1, h2, h3⟩ := h (lo + i) x hx
    refine ⟨a.add (lo * d.sz), cs, by rw [h1]; rfl, h2, fun j u hu => ?_⟩
    rw [add_add, ← h3 j u hu, Nat.add_mul]
    congr 2
    omega
  · cases hx
structure Cap (A : Option Addr) (n c : Nat) : Prop where
  le : n ≤ c
  nil : A = none → c = 0
  mx : c ≤ 9223372036854775807
def kslice {α : Type} (d : Kd α) : Kd (List α) where
  sz := 1
  K := fun z xs cs => ∃ A c, cs = [.slice A xs.length c] ∧ Cap A xs.length c ∧ Rd d z A xs
  mono := by
    rintro z z' xs cs hz ⟨A, c, h1, h2, h3⟩
    exact ⟨A, c, h1, h2, h3.mono hz⟩
  len := by
    rintro z x cs ⟨A, c, rfl, _⟩
    rfl
  one := by
    rintro z x cs ⟨A, c, rfl, _⟩
    exact one1 rfl
theorem Rd.at_ {α : Type} {d : Kd α} {z : Z} {A : Option Addr} {xs : List α} (h : Rd d z A xs) (df : α) {i : Int} (h0 : 0 ≤ i) (h1 : i < xs.length) :
    ∃ a cs, A = some a ∧ d.K z (xs.getD i.toNat df) cs ∧ ∀ j u, cs[j]? = some u → cz z (a.add (i.toNat * d.sz + j)) = some u := by
  have hi : i.toNat < xs.length := by omega
  have : xs[i.toNat]? = some (xs.getD i.toNat df) := by simp [List.getD, List.getElem?_eq_getElem hi]
  exact h _ _ this
def Reps {α : Type} (d : Kd α) (z : Z) : List α → List Value → Prop
  | [], cs => cs = []
  | x :: xs, cs => ∃ c r, cs = c ++ r ∧ d.K z x c ∧ Reps d z xs r
theorem Reps.len {α : Type} {d : Kd α} {z : Z} : ∀ {xs : List α} {cs : List Value}, Reps d z xs cs → cs.length = xs.length * d.sz
  | [], cs, h => by simp [Reps] at h; simp [h]
  | x :: xs, cs, h => by
    obtain ⟨c, r, rfl, h1, h2⟩ := h
    rw [List.length_append, d.len h1, h2.len, List.length_cons, Nat.add_mul]
    omega
theorem Reps.mono {α : Type} {d : Kd α} {z z' : Z} (hz : zle z z') : ∀ {xs : List α} {cs : List Value}, Reps d z xs cs → Reps d z' xs cs
  | [], cs, h => h
  | x :: xs, cs, h => by
    obtain ⟨c, r, rfl, h1, h2⟩ := h
    exact ⟨c, r, rfl, d.mono hz h1, h2.mono hz⟩
theorem Reps.append {α : Type} {d : Kd α} {z : Z} : ∀ {xs ys : List α} {cs cs' : List Value}, Reps d z xs cs → Reps d z ys cs' → Reps d z (xs ++ ys) (cs ++ cs')
  | [], ys, cs, cs', h, h' => by simp [Reps] at h; subst h; simpa using h'
  | x :: xs, ys, cs, cs', h, h' => by
    obtain ⟨c, r, rfl, h1, h2⟩ := h
    exact ⟨c, r ++ cs', by simp, h1, h2.append h'⟩
theorem Reps.one {α : Type} {d : Kd α} {z : Z} : ∀ {xs : List α} {cs : List Value}, Reps d z xs cs → ∀ u ∈ cs, u.oneCell' = true
  | [], cs, h => by simp [Reps] at h; subst h; simp
  | x :: xs, cs, h => by
    obtain ⟨c, r, rfl, h1, h2⟩ := h
    intro u hu
    rcases List.mem_append.1 hu with hu | hu
    · exact d.one h1 u hu
    · exact h2.one u hu
theorem Reps.get {α : Type} {d : Kd α} {z : Z} : ∀ {xs : List α} {cs : List Value} {i : Nat} {x : α}, Reps d z xs cs → xs[i]? = some x → ∃ c, d.K z x c ∧ ∀ j u, c[j]? = some u → cs[i * d.sz + j]? = some u
  | [], cs, i, x, h, hx => by simp at hx
  | y :: xs, cs, 0, x, h, hx => by
    obtain ⟨c, r, rfl, h1, h2⟩ := h
    simp at hx
    subst hx
    refine ⟨c, h1, fun j u hu => ?_⟩
    rw [Nat.zero_mul, Nat.zero_add, List.getElem?_append_left (List.getElem?_eq_some_iff.1 hu).1]
    exact hu
  | y :: xs, cs, i + 1, x, h, hx => by
    obtain ⟨c, r, rfl, h1, h2⟩ := h
    simp at hx
    obtain ⟨c', h3, h4⟩ := h2.get hx
    refine ⟨c', h3, fun j u hu => ?_⟩
    have hl := d.len h1
    rw [List.getElem?_append_right (by rw [hl, Nat.add_mul]; omega), hl, show (i + 1) * d.sz + j - d.sz = i * d.sz + j from by rw [Nat.add_mul]; omega]
    exact h4 j u hu
def Own {α : Type} (d : Kd α) (e : TypeId) (B : Nat) (z : Z) (w : World) (A : Option Addr) (c : Nat) (xs : List α) : Prop :=
  ∃ inner, w.ownsRow B e d.sz (.slice A xs.length c) xs.length inner ∧ Reps d z xs inner
def blk (A : Option Addr) : List Nat := (A.map (·.block)).toList
section
variable {α : Type} {d : Kd α} {e : TypeId} {B : Nat} {z z' : Z} {w w' : World} {A : Option Addr} {c : Nat} {xs : List α}
theorem Own.cap (h : Own d e B z w A c xs) : Cap A xs.length c := by
  obtain ⟨inner, ⟨h1, h2⟩, _⟩ := h
  rcases h2 with ⟨he, hn⟩ | ⟨g, cap, cur, he, _, _, hc, hm, _⟩
  · injection he with h1 _ h3; exact ⟨by omega, fun _ => h3, by omega⟩
  · injection he with h1 _ h3; exact ⟨by omega, fun h => (by rw [h] at h1; cases h1), by simp only [maxLen] at hm; omega⟩
theorem Own.mono (h : Own d e B z w A c xs) (hz : zle z z') : Own d e B z' w A c xs := by
  obtain ⟨inner, h1, h2⟩ := h
  exact ⟨inner, h1, h2.mono hz⟩
theorem Own.lower {B' : Nat} (h : Own d e B z w A c xs) (hB : B' ≤ B) : Own d e B' z w A c xs := by
  obtain ⟨inner, ⟨h1, h2⟩, h3⟩ := h
  refine ⟨inner, ⟨h1, ?_⟩, h3⟩
  rcases h2 with h2 | ⟨g, cap, cur, he, hg, r⟩
  · exact .inl h2
  · exact .inr ⟨g, cap, cur, he, by omega, r⟩
theorem Own.base (h : Own d e B z w A c xs) : ∀ k ∈ blk A, B ≤ k := by
  obtain ⟨inner, ⟨h1, h2⟩, h3⟩ := h
  rcases h2 with ⟨he, hn⟩ | ⟨g, cap, cur, he, hg, r⟩
  · injection he with h4; subst h4; simp [blk]
  · injection he with h4; subst h4; simp [blk]; exact hg
theorem Own.lt (h : Own d e B z w A c xs) : ∀ k ∈ blk A, k < w.heap.size := by
  obtain ⟨inner, ⟨h1, h2⟩, h3⟩ := h
  rcases h2 with ⟨he, hn⟩ | ⟨g, cap, cur, he, hg, hh, r⟩
  · injection he with h4; subst h4; simp [blk]
  · injection he with h4; subst h4; simp [blk]; exact (Array.getElem?_eq_some_iff.1 hh).1
theorem Own.chg {X : List Nat} (h : Own d e B z w A c xs) (hc : Chg X w w') (hX : ∀ k ∈ blk A, k ∉ X) : Own d e B z w' A c xs := by
  have hlt := h.lt
  obtain ⟨inner, ⟨h1, h2⟩, h3⟩ := h
  refine ⟨inner, ⟨h1, ?_⟩, h3⟩
  rcases h2 with h2 | ⟨g, cap, cur, he, hg, hh, r⟩
  · exact .inl h2
  · refine .inr ⟨g, cap, cur, he, hg, ?_, r⟩
    injection he with h4
    subst h4
    rw [hc.block g (hlt g (by simp [blk])) (hX g (by simp [blk]))]
    exact hh
theorem Own.chg0 (h : Own d e B z w A c xs) (hc : Chg [] w w') : Own d e B z w' A c xs := h.chg hc (by simp)
theorem Own.nil (d : Kd α) (e : TypeId) (B : Nat) (z : Z) (w : World) : Own d e B z w none 0 [] := ⟨[], ⟨by simp, .inl ⟨rfl, rfl⟩⟩, rfl⟩
def zAt (w : World) (A : Option Addr) : Z := fun b => if b ∈ blk A then cellsAt w b else none
theorem Sub.at_ (w : World) (A : Option Addr) : Sub (zAt w A) w := fun b c h => by
  unfold zAt at h
  split at h
  · exact h
  · cases h
theorem Own.lend (h : Own d e B z w A c xs) (hs : Sub z w) (hz : ∀ k ∈ blk A, z k = none) : Sub (zor z (zAt w A)) w ∧ zle z (zor z (zAt w A)) ∧ Rd d (zor z (zAt w A)) A xs := by
  refine ⟨hs.or (Sub.at_ w A), zle_or _ _, fun i x hx => ?_⟩
  obtain ⟨inner, ⟨h1, h2⟩, h3⟩ := h
  obtain ⟨cs, h4, h5⟩ := h3.get hx
  have hlt : i < xs.length := (List.getElem?_eq_some_iff.1 hx).1
  rcases h2 with ⟨he, hn⟩ | ⟨g, cap, cur, he, hg, hh, hcap, hmax, hsz, htk⟩
  · omega
  · injection he with h6 h7 h8
    subst h6
    refine ⟨_, cs, rfl, d.mono (zle_or _ _) h4, fun j u hu => ?_⟩
    have h9 := h5 j u hu
    have hzg : z g = none := hz g (by simp [blk])
    have hz' : zor z (zAt w (some ⟨g, 0, none⟩)) g = some cur := by simp [zor, hzg, zAt, blk, cellsAt, hh]
    have hget : cur[i * d.sz + j]? = some u := by
      rw [← htk, List.getElem?_take] at h9
      split at h9
      · simpa using h9
      · cases h9
    rw [add_at]
    unfold cz
    simp [hz', hget]
end
theorem heap_new (w : World) (o : Obj) : (w.alloc o).heap[w.heap.size]? = some o := by
  show (w.heap.push o)[w.heap.size]? = some o
  simp
theorem Own.new {α : Type} {d : Kd α} {e : TypeId} {z : Z} {w : World} {xs : List α} {cs : List Value} (hr : Reps d z xs cs) (hl : xs.length ≤ maxLen) (B : Nat) (hB : B ≤ w.heap.size) :
    Own d e B z (w.alloc (.cells cs.toArray e)) (some ⟨w.heap.size, 0, none⟩) xs.length xs := by
  have h1 := hr.len
  exact ⟨cs, ⟨h1, .inr ⟨w.heap.size, xs.length, cs.toArray, rfl, hB, heap_new w _, Nat.le_refl _, hl, by simpa using h1, by simp [← h1]⟩⟩, hr⟩
def Box (w : World) (b : Nat) (T : TypeId) (cs : List Value) : Prop := w.heap[b]? = some (.cells cs.toArray T (0, 0))
theorem Box.lt {w : World} {b : Nat} {T : TypeId} {cs : List Value} (h : Box w b T cs) : b < w.heap.size := (Array.getElem?_eq_some_iff.1 h).1
theorem Box.chg {w w' : World} {b : Nat} {T : TypeId} {cs : List Value} {X : List Nat} (h : Box w b T cs) (hc : Chg X w w') (hX : b ∉ X) : Box w' b T cs := by
  unfold Box
  rw [hc.block b h.lt hX]
  exact h
theorem Box.chg0 {w w' : World} {b : Nat} {T : TypeId} {cs : List Value} (h : Box w b T cs) (hc : Chg [] w w') : Box w' b T cs := h.chg hc (by simp)
theorem Box.new (w : World) (T : TypeId) (cs : List Value) : Box (w.alloc (.cells cs.toArray T)) w.heap.size T cs := heap_new w _
theorem Box.cell {w : World} {b : Nat} {T : TypeId} {cs : List Value} (h : Box w b T cs) {j : Nat} {v : Value} (hv : cs[j]? = some v) : w.cell? ⟨b, j, none⟩ = some v := by
  unfold Box at h
  simp [World.cell?, h, hv]
theorem Box.frozen {w : World} {b : Nat} {T : TypeId} {cs : List Value} (h : Box w b T cs) (j : Nat) : w.frozen? ⟨b, j, none⟩ = false := by
  unfold Box at h
  simp [World.frozen?, h]
theorem Box.set {w : World} {b : Nat} {T : TypeId} {cs : List Value} (h : Box w b T cs) (j : Nat) (v : Value) : Box (w.setCell ⟨b, j, none⟩ v) b T (cs.set j v) := by
  unfold Box at *
  simp [World.setCell, Array.getElem?_modify, h]
end Go.Proofs.YtaljccgfnmfhnaaGreatDoorG
set_option linter.all false
namespace Go.Proofs.YtaljccgfnmfhnaaGreatDoorG
open Go Go.RowKit
section
variable {P : Program} {N : Sz} {ops : Array Oper} {Q : Exit → Act → World → Prop} {o : Oper} {f : Fr} {w : World} {k : Value → World → Prop}
theorem R_idx {T e : TypeId} {sz : Nat} {x i : Operand} {A : Option Addr} {a : Addr} {n c : Nat} {q : IntKind} {iv : Int} (ho : o.op = .indexAddr T x i) (hx : ev f x = some (.slice A n c)) (hA : A = some a) (hi : ev f i = some (.int q iv))
    (hT : P.underlying T = some (.slice e)) (hs : ∀ w, (sizeOf e).run P w = .ok sz w) (h0 : 0 ≤ iv) (h1 : iv < n) : Runs P o f w (.pointer (some (a.add (iv.toNat * sz)))) w := fun e he => by
  subst hA
  simp [execOp, ho, he x _ hx, he i _ hi, Instr.indexAt, asIntOf, run_underlying hT, h0, h1, hs]
theorem R_fld {T : TypeId} {x : Operand} {a : Addr} {j n : Nat} (ho : o.op = .fieldAddr T x j) (hx : ev f x = some (.pointer (some a)))
    (hr : ∀ a w, (Instr.fieldAt T (.pointer (some a)) j).run P w = .ok (.pointer (some (a.add n))) w) : Runs P o f w (.pointer (some (a.add n))) w := fun e he => by
  simp [execOp, ho, he x _ hx, hr]
theorem R_load1 {T : TypeId} {x : Operand} {a : Addr} {v : Value} (ho : o.op = .load T x) (hx : ev f x = some (.pointer (some a))) (hag : ∀ w, (isAgg T).run P w = .ok false w) (hc : w.cell? a = some v) : Runs P o f w v w := fun e he => by
  simp [execOp, ho, he x _ hx, Instr.loadAt, Instr.sureAddr, loadVar, hag, hc]
theorem run_loadCells {w : World} {a : Addr} : ∀ (cs : List Value) (i : Nat) (acc : Array Value), (∀ j u, cs[j]? = some u → w.cell? (a.add (i + j)) = some u) → (loadCellsFrom a i cs.length acc).run P w = .ok (acc ++ cs.toArray) w
  | [], i, acc, h => by simp [loadCellsFrom]
  | v :: cs, i, acc, h => by
    have h0 : w.cell? (a.add i) = some v := h 0 v rfl
    have ih := run_loadCells cs (i + 1) (acc.push v) (fun j u hu => by have := h (j + 1) u (by simpa using hu); rw [show i + 1 + j = i + (j + 1) from by omega]; exact this)
    simp [loadCellsFrom, h0, ih]
theorem R_loadN {T : TypeId} {x : Operand} {a : Addr} {n : Nat} {cs : List Value} (ho : o.op = .load T x) (hx : ev f x = some (.pointer (some a))) (hag : ∀ w, (isAgg T).run P w = .ok true w) (hs : ∀ w, (sizeOf T).run P w = .ok n w)
    (hn : cs.length = n) (hc : ∀ j u, cs[j]? = some u → w.cell? (a.add j) = some u) : Runs P o f w (.agg cs.toArray) w := fun e he => by
  subst hn
  have := run_loadCells (P := P) (w := w) (a := a) cs 0 #[] (fun j u hu => by rw [Nat.zero_add]; exact hc j u hu)
  simp [execOp, ho, he x _ hx, Instr.loadAt, Instr.sureAddr, loadVar, hag, hs, loadCells, this]
theorem Sv_box {T : TypeId} {cs : List Value} (hg : o.guard = none) (hr : Runs P o f w (.pointer (some ⟨w.heap.size, 0, none⟩)) (w.alloc (.cells cs.toArray T)))
    (h : ∀ b w', Chg [] w w' → w.heap.size ≤ b → Box w' b T cs → k (.pointer (some ⟨b, 0, none⟩)) w') : Sv P N ops Q o f w k :=
  Sv_val hg hr (h _ _ (Chg.alloc w _) (Nat.le_refl _) (Box.new w T cs))
theorem R_box {T : TypeId} {x : Operand} {v : Value} {cs : List Value} (ho : o.op = .box T x) (hx : ev f x = some v) (hv : v.cells = cs.toArray) : Runs P o f w (.pointer (some ⟨w.heap.size, 0, none⟩)) (w.alloc (.cells cs.toArray T)) := fun e he => by
  have : (Instr.box T v).run P w = .ok (.pointer (some ⟨w.heap.size, 0, none⟩)) (w.alloc (.cells v.cells T)) := rfl
  simp [execOp, ho, he x _ hx, this, hv]
theorem R_alloc {T : TypeId} {cs : List Value} (ho : o.op = .alloc T) (hr : ∀ w, (Instr.alloc T true (.tuple #[])).run P w = .ok (.pointer (some ⟨w.heap.size, 0, none⟩)) (w.alloc (.cells cs.toArray T))) : Runs P o f w (.pointer (some ⟨w.heap.size, 0, none⟩)) (w.alloc (.cells cs.toArray T)) := fun e _ => by
  simp [execOp, ho, hr]
theorem Sv_row {α : Type} {d : Kd α} {e : TypeId} {z : Z} {cs : List Value} {n : Nat} (xs : List α) (hg : o.guard = none) (hr : Runs P o f w (.slice (some ⟨w.heap.size, 0, none⟩) n n) (w.alloc (.cells cs.toArray e)))
    (hp : Reps d z xs cs) (hn : xs.length = n) (hm : n ≤ maxLen) (h : ∀ g w', Chg [] w w' → w.heap.size ≤ g → Own d e g z w' (some ⟨g, 0, none⟩) n xs → k (.slice (some ⟨g, 0, none⟩) xs.length n) w') : Sv P N ops Q o f w k := by
  subst hn
  exact Sv_val hg hr (h _ _ (Chg.alloc w _) (Nat.le_refl _) (Own.new hp hm _ (Nat.le_refl _)))
theorem R_buildSlice {t : TypeId} {n : Nat} {ps : List (Nat × Operand)} {xs : List Operand} {vs : List Value} {r : Value} {w' : World} (ho : o.op = .buildSlice t n ps.toArray) (hxs : ps.map (·.2) = xs) (hx : evs f xs = some vs)
    (hr : (Instr.buildSlice t n ((ps.map (·.1)).zip vs).toArray).run P w = .ok r w') : Runs P o f w r w' := fun e he => by
  have h1 : ps.map (fun p => (p.1, e p.2)) = (ps.map (·.1)).zip vs := by
    have := he.evs_ hx
    rw [← this, ← hxs]
    clear hxs ho hx hr this
    induction ps with
    | nil => rfl
    | cons p r ih => simp [ih]
  simp [execOp, ho, h1, hr]
theorem R_build {t : TypeId} {ps : List (Nat × Operand)} {xs : List Operand} {vs : List Value} {r : Value} {w' : World} (ho : o.op = .build t ps.toArray) (hxs : ps.map (·.2) = xs) (hx : evs f xs = some vs)
    (hr : (Instr.build t ((ps.map (·.1)).zip vs).toArray).run P w = .ok r w') : Runs P o f w r w' := fun e he => by
  have h1 : ps.map (fun p => (p.1, e p.2)) = (ps.map (·.1)).zip vs := by
    have := he.evs_ hx
    rw [← this, ← hxs]
    clear hxs ho hx hr this
    induction ps with
    | nil => rfl
    | cons p r ih => simp [ih]
  simp [execOp, ho, h1, hr]
def setFrom (cs : List Value) : Nat → List Value → List Value
  | _, [] => cs
  | j, v :: r => setFrom (cs.set j v) (j + 1) r
theorem run_storeBox {b : Nat} {T : TypeId} : ∀ (vs cs : List Value) (i : Nat) (w : World), Box w b T cs → (∀ u ∈ vs, u.oneCell' = true) → (∀ (a : Addr) (j : Nat), a.block = b → a.spot = none → a.off + i + vs.length ≤ cs.length → a.off = j →
    ∃ w', (storeCells a vs i).run P w = .ok () w' ∧ Chg [b] w w' ∧ Box w' b T (setFrom cs (j + i) vs))
  | [], cs, i, w, hb, h1, a, j, ha, hs, hl, hj => ⟨w, by simp [storeCells], Chg.refl _ _, by simpa [setFrom] using hb⟩
  | v :: vs, cs, i, w, hb, h1, a, j, ha, hs, hl, hj => by
    subst hj
    have hadd : a.add i = ⟨b, a.off + i, none⟩ := by
      cases a with
      | mk bb off spot =>
        simp at ha hs
        subst ha; subst hs
        unfold Addr.add
        by_cases hi : i = 0
        · subst hi; rfl
        · simp [hi]
    have hlt : a.off + i < cs.length := by simp at hl; omega
    have hcell : w.cell? (a.add i) = some cs[a.off + i] := by rw [hadd]; exact hb.cell (by simp [hlt])
    have hfr : w.frozen? (a.add i) = false := by rw [hadd]; exact hb.frozen _
    obtain ⟨w', h2, h3, h4⟩ := run_storeBox vs (cs.set (a.off + i) v) (i + 1) (w.setCell (a.add i) v) (by rw [hadd]; exact hb.set _ _) (fun u hu => h1 u (List.mem_cons_of_mem _ hu)) a a.off ha hs (by simp at hl ⊢; omega) rfl
    refine ⟨w', ?_, ?_, ?_⟩
    · simp [storeCells, run_store P w (a.add i) v _ (h1 v List.mem_cons_self), hcell, hfr, h2]
    · have h5 : Chg [b] w (w.setCell (a.add i) v) := by have := Chg.setCell w (a.add i) v; rw [hadd] at this ⊢; exact this
      exact (h5.trans h3).mono (fun k hk => .inl (by simpa using hk))
    · rw [show a.off + (i + 1) = a.off + i + 1 from by omega] at h4
      exact h4
theorem Sv_store {T T' : TypeId} {x y : Operand} {b j : Nat} {v : Value} {cs : List Value} (hg : o.guard = none) (ho : o.op = .store T x y) (hx : ev f x = some (.pointer (some ⟨b, j, none⟩))) (hy : ev f y = some v)
    (hs : ∀ w, (sizeOf T).run P w = .ok v.cells.size w) (h1 : ∀ u ∈ v.cells.toList, u.oneCell' = true) (hb : Box w b T' cs) (hl : j + v.cells.size ≤ cs.length)
    (h : ∀ w', Chg [b] w w' → Box w' b T' (setFrom cs j v.cells.toList) → k undef w') : Sv P N ops Q o f w k := by
  obtain ⟨w', h2, h3, h4⟩ := run_storeBox (P := P) v.cells.toList cs 0 w hb h1 ⟨b, j, none⟩ j rfl rfl (by simpa using hl) rfl
  refine Sv_skip hg (w' := w') (fun e he => ?_) (h w' h3 (by simpa using h4))
  simp [execOp, ho, he x _ hx, he y _ hy, Instr.storeAt, Instr.sureAddr, storeVar, hs, h2]
structure ElemInfo (P : Program) (t e : TypeId) (sz bytes : Nat) : Prop where
  ht : P.underlying t = some (.slice e)
  hi : ∃ i z, P.info? e = some i ∧ i.zero = some z ∧ i.size = sz ∧ i.bytes = bytes ∧ z.cells.size = sz
  pos : 0 < sz
theorem ElemInfo.of {P : Program} {t e : TypeId} {sz bytes : Nat} {z : Value} (ht : P.underlying t = some (.slice e)) (hi : (P.info? e).map (fun i => (i.zero, i.size, i.bytes)) = some (some z, sz, bytes)) (hz : z.cells.size = sz) (pos : 0 < sz) : ElemInfo P t e sz bytes := by
  obtain ⟨i, h1, h2⟩ := Option.map_eq_some_iff.1 hi
  simp only [Prod.mk.injEq] at h2
  exact ⟨ht, ⟨i, z, h1, h2.1, h2.2.1, h2.2.2, hz⟩, pos⟩
theorem Sv_append {α : Type} {d : Kd α} {t e : TypeId} {bytes B : Nat} {z : Z} {s x : Operand} {A A2 : Option Addr} {c c2 : Nat} {xs ys : List α} {news : List Value} (hg : o.guard = none)
    (ho : o.op = .call { callee := .builtin .append, args := #[s, x], argTypes := #[t, t] }) (I : ElemInfo P t e d.sz bytes) (hs : ev f s = some (.slice A xs.length c)) (hO : Own d e B z w A c xs)
    (hx : ev f x = some (.slice A2 ys.length c2)) (hA2 : A2 = none → c2 = 0) (hr : Reps d z ys news) (hc : ∀ j u, news[j]? = some u → ∃ ad, A2 = some ad ∧ w.cell? (ad.add j) = some u)
    (hb : (xs.length + ys.length) * bytes ≤ 140737488355328) (hl : xs.length + ys.length ≤ maxLen) (hB : B ≤ w.heap.size)
    (h : ∀ A' c' w', Own d e B z w' A' c' (xs ++ ys) → Chg (blk A) w w' → (∀ q ∈ blk A', q ∈ blk A ∨ w.heap.size ≤ q) → k (.slice A' (xs ++ ys).length c') w') : Sv P N ops Q o f w k := by
  refine Sv_of_wp hg (by simp [ho]) fun a ha => ?_
  obtain ⟨i, zv, h1, h2, h3, h4, h5⟩ := I.hi
  obtain ⟨inner, h6, h7⟩ := hO
  have hnl := hr.len
  cases A2 with
  | none =>
    have hys : ys = [] := by
      cases ys with
      | nil => rfl
      | cons y r =>
        have hp := I.pos
        have : 0 < news.length := by rw [hnl, List.length_cons]; exact Nat.lt_of_lt_of_le hp (Nat.le_mul_of_pos_left _ (by omega))
        obtain ⟨ad, h8, _⟩ := hc 0 news[0] (by simp [this])
        cases h8
    subst hys
    obtain rfl := hA2 rfl
    have hrun := run_append_owned_none (P := P) (w := w) B t o.type e i d.sz I.ht h1 _ _ inner h6
    unfold Oper.wp
    simp [execOp, ho, resolve, invoke, builtin, ha.agree s _ hs, ha.agree x _ hx, hrun, Result.andThen]
    refine ⟨_, rfl, ?_⟩
    have := h A c w (by simpa using ⟨inner, h6, h7⟩) (Chg.refl _ _) (fun q hq => .inl hq)
    simpa using this
  | some ad =>
    obtain ⟨v', w', hrun, h8, h9, _, h11⟩ := run_append_own_at (P := P) (w := w) B t o.type e i zv d.sz bytes I.ht h1 h2 h3 h4 h5 I.pos _ _ inner h6 ad ys.length c2 news hnl
      (fun j u hu => by obtain ⟨ad', h12, h13⟩ := hc j u hu; injection h12 with h12; subst h12; exact h13) hr.one hl hb hB
    unfold Oper.wp execOp
    simp only [ho, resolve, invoke, builtin, Sem.run_bind, Sem.run_pure, Result.andThen_ok, List.map_toArray, List.map_cons, List.map_nil, ha.agree s _ hs, ha.agree x _ hx, hrun]
    have hv : ∃ A' c', v' = .slice A' (xs ++ ys).length c' := by
      rw [List.length_append]
      rcases h8.2 with ⟨rfl, h12⟩ | ⟨g, cap, cur, rfl, _⟩
      · exact ⟨none, 0, by rw [h12]⟩
      · exact ⟨_, _, rfl⟩
    obtain ⟨A', c', rfl⟩ := hv
    refine ⟨_, rfl, h A' c' w' ⟨inner ++ news, by rw [List.length_append] at h8 ⊢; exact h8, h7.append hr⟩ ?_ ?_⟩
    · have := Chg.grown h9
      cases A <;> simpa [blk, Value.ownBlock] using this
    · intro q hq
      cases A' with
      | none => simp [blk] at hq
      | some a' =>
        simp [blk] at hq
        subst hq
        rcases h11 with h11 | h11
        · left
          cases A with
          | none => simp [Value.ownBlock] at h11
          | some a0 => simp [Value.ownBlock] at h11; simp [blk, h11]
        · right
          simp [Value.ownBlock] at h11
          omega
theorem Own.cells {α : Type} {d : Kd α} {e : TypeId} {B : Nat} {z : Z} {A : Option Addr} {c : Nat} {xs : List α} (h : Own d e B z w A c xs) :
    ∃ news, Reps d z xs news ∧ ∀ j u, news[j]? = some u → ∃ ad, A = some ad ∧ w.cell? (ad.add j) = some u := by
  obtain ⟨inner, ⟨h1, h2⟩, h3⟩ := h
  refine ⟨inner, h3, fun j u hu => ?_⟩
  rcases h2 with ⟨he, hn⟩ | ⟨g, cap, cur, he, hg, hh, hcap, hmax, hsz, htk⟩
  · have := (List.getElem?_eq_some_iff.1 hu).1
    rw [h1, hn, Nat.zero_mul] at this
    omega
  · injection he with h6
    subst h6
    refine ⟨_, rfl, ?_⟩
    rw [add_at]
    refine cell_of rfl (c := cur) (by simp [cellsAt, hh]) ?_
    rw [← htk, List.getElem?_take] at hu
    split at hu
    · simpa using hu
    · cases hu
theorem Rd.cells {α : Type} {d : Kd α} {z : Z} : ∀ {A : Option Addr} {xs : List α}, Rd d z A xs → Sub z w → ∃ news, Reps d z xs news ∧ ∀ j u, news[j]? = some u → ∃ ad, A = some ad ∧ w.cell? (ad.add j) = some u
  | A, [], h, hs => ⟨[], rfl, fun j u hu => by simp at hu⟩
  | A, x :: xs, h, hs => by
    obtain ⟨a, cs, hA, h1, h2⟩ := h 0 x rfl
    subst hA
    have hcut : Rd d z (some (a.add d.sz)) xs := by
      have := h.cut 1 (xs.length + 1)
      simpa [List.take_of_length_le] using this
    obtain ⟨news, h3, h4⟩ := Rd.cells hcut hs
    refine ⟨cs ++ news, ⟨cs, news, rfl, h1, h3⟩, fun j u hu => ⟨a, rfl, ?_⟩⟩
    have hl := d.len h1
    rw [List.getElem?_append] at hu
    split at hu
    · have := h2 j u hu
      rw [Nat.zero_mul, Nat.zero_add] at this
      exact hs.cell this
    · rename_i hge
      obtain ⟨ad, h5, h6⟩ := h4 _ u hu
      injection h5 with h5
      subst h5
      rw [add_add] at h6
      rw [show j = d.sz + (j - cs.length) from by omega]
      exact h6
end
def needs (o : Oper) : List Nat := (o.after.toList.filter (fun e => Region.binds .any e)).map (·.on)
def firstB (ops : Array Oper) (m : Nat) : Bool :=
  decide (m ≤ ops.size) && (List.range ops.size).all fun j => match ops[j]? with
    | none => true
    | some o => if j < m then (needs o).all (fun i => decide (i < j)) else
        (needs o).any (fun i => decide (m ≤ i) && decide (i < ops.size)) || (List.range m).all (fun i => (needs o).contains i || (List.range m).any fun i' => decide (i < i') && match ops[i']? with
          | none => false
          | some o' => (needs o').contains i)
section
variable {P : Program} {N : Sz} {ops : Array Oper} {Q : Exit → Act → World → Prop} {w : World}
def An (P : Program) (N : Sz) (ops : Array Oper) (Q : Exit → Act → World → Prop) (n : Nat) (l : Array Bool) (f : Fr) (w : World) : Prop := ∀ a, Holds N f a → wpAnyIn N.F 0 P .any ops Q n l a w
theorem ready_iff {l : Array Bool} {j : Nat} : j ∈ Region.ready .any ops l ↔ ∃ o, ops[j]? = some o ∧ l.getD j true = false ∧ ∀ i ∈ needs o, l.getD i false = true := by
  unfold Region.ready
  rw [List.mem_filter, List.mem_range]
  constructor
  · rintro ⟨h1, h2⟩
    simp only [Bool.and_eq_true, Bool.not_eq_true'] at h2
    obtain ⟨h2, h3⟩ := h2
    have ho : ops[j]? = some ops[j] := by simp [h1]
    refine ⟨_, ho, h2, fun i hi => ?_⟩
    rw [ho] at h3
    simp only [Option.map_some, Option.getD_some, Array.all_eq_true] at h3
    unfold needs at hi
    rw [List.mem_map] at hi
    obtain ⟨e, he, rfl⟩ := hi
    rw [List.mem_filter] at he
    obtain ⟨n, hn, hne⟩ := List.getElem_of_mem he.1
    have := h3 n (by simpa using hn)
    simp only [Array.getElem_toList] at hne
    rw [hne] at this
    simpa [he.2] using this
  · rintro ⟨o, ho, h2, h3⟩
    refine ⟨(Array.getElem?_eq_some_iff.1 ho).1, ?_⟩
    rw [ho, h2]
    simp only [Bool.not_false, Option.map_some, Option.getD_some, Bool.true_and, Array.all_eq_true]
    intro n hn
    cases hb : Region.binds .any o.after[n] with
    | false => simp
    | true =>
      simp only [Bool.not_true, Bool.false_or]
      refine h3 _ ?_
      unfold needs
      rw [List.mem_map]
      exact ⟨o.after[n], List.mem_filter.2 ⟨by simp, hb⟩, rfl⟩
def slots (d : Nat → Nat) (V : Nat → Value) : List Nat → Fr → Fr
  | [], f => f
  | i :: r, f => (d i, V i) :: slots d V r f
theorem look_slots {d : Nat → Nat} {V : Nat → Value} {f : Fr} {s : Nat} {v : Value} : ∀ {l : List Nat}, look (slots d V l f) s = some v → (∃ i ∈ l, d i = s ∧ V i = v) ∨ look f s = some v
  | [], h => .inr h
  | i :: r, h => by
    unfold slots at h
    rw [look_cons] at h
    by_cases hi : d i = s
    · rw [if_pos hi] at h
      exact .inl ⟨i, List.mem_cons_self, hi, Option.some.inj h⟩
    · rw [if_neg hi] at h
      rcases look_slots h with ⟨j, h1, h2⟩ | h1
      · exact .inl ⟨j, List.mem_cons_of_mem _ h1, h2⟩
      · exact .inr h1
def doneArr (n m : Nat) : Array Bool := ((List.range n).map fun i => decide (i < m)).toArray
theorem C_draw {id : Nat} {f : Fr} (m n : Nat) (d : Nat → Nat) (hm : P.follows .mixedOrders = true) (hn : ops.size = n) (hB : firstB ops m = true)
    (hd : ∀ i, i < m → (ops[i]?).map (·.dst) = some (some (d i))) (hdd : ∀ i j, i < m → j < m → d i = d j → i = j) (hdf : ∀ i, i < m → look f (d i) = none) (hdN : ∀ i, i < m → d i < N.n)
    (Φ : Nat → Value → World → Prop) (mono : ∀ i v w w', Φ i v w → Chg [] w w' → Φ i v w')
    (step : ∀ i, i < m → ∀ o, ops[i]? = some o → ∀ (V : Nat → Value) w', Chg [] w w' → (∀ j ∈ needs o, Φ j (V j) w') → Sv P N ops Q o (slots d V (needs o) f) w' (fun v w'' => Chg [] w' w'' ∧ Φ i v w''))
    (rest : ∀ (V : Nat → Value) w', Chg [] w w' → (∀ i, i < m → Φ i (V i) w') → An P N ops Q (n - m) (doneArr n m) (slots d V (List.range m) f) w') :
    C P N Q (.region id ops true) f w := by
  subst hn
  intro a ha
  simp only [firstB, Bool.and_eq_true, decide_eq_true_eq, List.all_eq_true] at hB
  obtain ⟨hms, hB⟩ := hB
  have hlow : ∀ j o, ops[j]? = some o → j < m → ∀ i ∈ needs o, i < j := by
    intro j o ho hj i hi
    have h1 := hB j (List.mem_range.2 (Array.getElem?_eq_some_iff.1 ho).1)
    rw [ho] at h1
    simp only [if_pos hj, List.all_eq_true, decide_eq_true_eq] at h1
    exact h1 i hi
  refine wpIn_region_any hm ?_
  have key : ∀ (c : Nat) (l : Array Bool) (a : Act) (w' : World), l.size = ops.size → (∀ j, m ≤ j → j < ops.size → l.getD j true = false) →
      ((List.range m).filter (fun i => !l.getD i true)).length = c →
      (∀ j o, ops[j]? = some o → j < m → l.getD j false = true → ∀ i ∈ needs o, l.getD i false = true) →
      Chg [] w w' → Holds N f a → (∀ i, i < m → l.getD i false = true → ∃ v, a.tmps[d i]? = some v ∧ Φ i v w') →
      wpAnyIn N.F 0 P .any ops Q (c + (ops.size - m)) l a w' := by
    intro c
    induction c with
    | zero =>
      intro l a w' hls hrest hc hcl hchg hh hall
      have hdone : ∀ i, i < m → l.getD i false = true := by
        intro i hi
        have : i ∉ (List.range m).filter (fun i => !l.getD i true) := by rw [List.eq_nil_of_length_eq_zero hc]; simp
        simp only [List.mem_filter, List.mem_range, Bool.not_eq_true', not_and, Bool.not_eq_false] at this
        have h1 := this hi
        have h2 : i < l.size := by omega
        simp [h2] at h1 ⊢
        exact h1
      have hl : l = doneArr ops.size m := by
        apply Array.ext
        · simp [doneArr, hls]
        · intro i h1 h2
          simp only [doneArr, List.getElem_toArray, List.getElem_map, List.getElem_range]
          by_cases him : i < m
          · have := hdone i him
            simp [h1] at this
            simp [this, him]
          · have := hrest i (by omega) (by omega)
            simp [h1] at this
            simp [this, him]
      rw [Nat.zero_add]
      let V : Nat → Value := fun i => a.tmps.getD (d i) undef
      have hV : ∀ i, i < m → a.tmps[d i]? = some (V i) ∧ Φ i (V i) w' := by
        intro i hi
        obtain ⟨v, h1, h2⟩ := hall i hi (hdone i hi)
        have : V i = v := by simp [V, h1]
        rw [this]
        exact ⟨h1, h2⟩
      have := rest V w' hchg (fun i hi => (hV i hi).2) a ⟨hh.defers, hh.size, fun s v hs => by
        rcases look_slots hs with ⟨i, h1, rfl, rfl⟩ | h1
        · exact (hV i (List.mem_range.1 h1)).1
        · exact hh.at_ s v h1⟩
      rw [hl]
      exact this
    | succ c ih =>
      intro l a w' hls hrest hc hcl hchg hh hall
      -- one of the first is not up yet
      have hex : ∃ i, i < m ∧ l.getD i true = false := by
        cases hq : (List.range m).filter (fun i => !l.getD i true) with
        | nil => rw [hq] at hc; simp at hc
        | cons i r =>
          have : i ∈ (List.range m).filter (fun i => !l.getD i true) := by rw [hq]; exact List.mem_cons_self
          simp only [List.mem_filter, List.mem_range, Bool.not_eq_true'] at this
          exact ⟨i, this⟩
      have hfin : ∀ i, i < m → l.getD i true = false → l.getD i false = false := by
        intro i hi h
        have h2 : i < l.size := by omega
        simp [h2] at h ⊢
        exact h
      have htf : ∀ i, i < m → l.getD i true ≠ false → l.getD i false = true := by
        intro i hi h
        have h2 : i < l.size := by omega
        simp [h2] at h ⊢
        exact h
      -- the least of them is ready
      have hready : ∀ i, i < m → l.getD i true = false → ∃ j, j ∈ Region.ready .any ops l := by
        intro i
        induction i using Nat.strongRecOn with
        | ind i ihi =>
          intro hi hu
          have ho : ops[i]? = some ops[i] := by simp
          by_cases hb : ∃ q ∈ needs ops[i], l.getD q false ≠ true
          · obtain ⟨q, hq, hne⟩ := hb
            have hqi := hlow i _ ho hi q hq
            refine ihi q hqi (by omega) ?_
            cases hqq : l.getD q true with
            | false => rfl
            | true => exact absurd (htf q (by omega) (by rw [hqq]; simp)) hne
          · refine ⟨i, ready_iff.2 ⟨_, ho, hu, fun q hq => ?_⟩⟩
            by_cases hqq : l.getD q false = true
            · exact hqq
            · exact absurd ⟨q, hq, hqq⟩ hb
      -- whatever is ready is one of the first
      have hfirst : ∀ j, j ∈ Region.ready .any ops l → j < m := by
        intro j hj
        obtain ⟨o, ho, hu, hn⟩ := ready_iff.1 hj
        rcases Nat.lt_or_ge j m with h | h
        · exact h
        · exfalso
          have hjs := (Array.getElem?_eq_some_iff.1 ho).1
          have h1 := hB j (List.mem_range.2 hjs)
          rw [ho] at h1
          simp only [if_neg (show ¬ j < m by omega), Bool.or_eq_true, List.any_eq_true, Bool.and_eq_true, decide_eq_true_eq, List.all_eq_true] at h1
          rcases h1 with ⟨q, hq, hmq, hqs⟩ | h1
          · have h2 := hn q hq
            have h3 := hrest q hmq hqs
            have h4 : q < l.size := by omega
            simp [h4] at h2 h3
            rw [h2] at h3
            cases h3
          · -- an unlisted one: walk up to one that j waits for
            obtain ⟨i, hi, hu'⟩ := hex
            have up : ∀ (t i : Nat), m - i = t → i < m → l.getD i true = false → False := by
              intro t
              induction t using Nat.strongRecOn with
              | ind t iht =>
                intro i ht hi hu'
                rcases h1 i (List.mem_range.2 hi) with h2 | ⟨i', hi', h2, h3⟩
                · have := hn i (by simpa using h2)
                  rw [hfin i hi hu'] at this
                  cases this
                · have him' := List.mem_range.1 hi'
                  cases ho' : ops[i']? with
                  | none => rw [ho'] at h3; cases h3
                  | some o' =>
                    rw [ho'] at h3
                    refine iht (m - i') (by omega) i' rfl him' ?_
                    cases hq : l.getD i' true with
                    | false => rfl
                    | true =>
                      have h4 := htf i' him' (by rw [hq]; simp)
                      have h5 := hcl i' o' ho' him' h4 i (by simpa using h3)
                      rw [hfin i hi hu'] at h5
                      cases h5
            exact up _ i rfl hi hu'
      rw [show c + 1 + (ops.size - m) = c + (ops.size - m) + 1 from by omega]
      refine ⟨fun h0 => ?_, fun i hi => ?_⟩
      · obtain ⟨i, h1, h2⟩ := hex
        obtain ⟨j, hj⟩ := hready i h1 h2
        rw [h0] at hj
        cases hj
      · have him := hfirst i hi
        obtain ⟨o, ho, hu, hn⟩ := ready_iff.1 hi
        let V : Nat → Value := fun j => a.tmps.getD (d j) undef
        have hV : ∀ j, j < m → l.getD j false = true → a.tmps[d j]? = some (V j) ∧ Φ j (V j) w' := by
          intro j hj hl
          obtain ⟨v, h1, h2⟩ := hall j hj hl
          have : V j = v := by simp [V, h1]
          rw [this]
          exact ⟨h1, h2⟩
        have hs := step i him o ho V w' hchg (fun j hj => (hV j (by have := hlow i o ho him j hj; omega) (hn j hj)).2)
        have hs' := hs a ⟨hh.defers, hh.size, fun s v hs => by
          rcases look_slots hs with ⟨j, h1, rfl, rfl⟩ | h1
          · exact (hV j (by have := hlow i o ho him j h1; omega) (hn j h1)).1
          · exact hh.at_ s v h1⟩
        unfold wpOpIn
        rw [ho]
        unfold Op1 at hs'
        have hdi : o.dst = some (d i) := by
          have := hd i him
          rw [ho] at this
          simpa using this
        have fin : ∀ a' w'', (∃ v, a' = a.put o.dst v ∧ Chg [] w' w'' ∧ Φ i v w'') → wpAnyIn N.F 0 P .any ops Q (c + (ops.size - m)) (l.setIfInBounds i true) a' w'' := by
          rintro a' w'' ⟨v, rfl, h1, h2⟩
          have hilt : i < l.size := by omega
          have hget : ∀ j, j ≠ i → ∀ b, (l.setIfInBounds i true).getD j b = l.getD j b := fun j hj b => getD_set_ne b (Ne.symm hj)
          have hgi : ∀ b, (l.setIfInBounds i true).getD i b = true := by
            intro b
            simp [hilt]
          rw [hdi]
          refine ih _ _ w'' (by simp [hls]) ?_ ?_ ?_ (hchg.then h1 (by simp)) ?_ ?_
          · intro j h3 h4
            rw [hget j (by omega)]
            exact hrest j h3 h4
          · have hc2 : ((List.range m).filter (fun q => !l.getD q true)) = (List.range m).filter (fun q => !l.getD q true) := rfl
            have hnd : ((List.range m).filter (fun q => !l.getD q true)).Nodup := List.Pairwise.filter _ List.nodup_range
            have hmem : i ∈ (List.range m).filter (fun q => !l.getD q true) := by simp only [List.mem_filter, List.mem_range, Bool.not_eq_true']; exact ⟨him, hu⟩
            have heq : (List.range m).filter (fun q => !(l.setIfInBounds i true).getD q true) = ((List.range m).filter (fun q => !l.getD q true)).erase i := by
              rw [hnd.erase_eq_filter, List.filter_filter]
              refine List.filter_congr fun q _ => ?_
              by_cases hq : q = i
              · subst hq; simp [hgi]
              · simp [hget q hq, hq]
            rw [heq, List.length_erase_of_mem hmem, hc]
            rfl
          · intro j o' ho' hj hl' q hq
            by_cases hji : j = i
            · subst hji
              rw [ho] at ho'
              obtain rfl := Option.some.inj ho'
              have hqn : q ≠ j := by have := hlow j o ho hj q hq; omega
              rw [hget q hqn]
              exact hn q hq
            · rw [hget j hji] at hl'
              by_cases hqi : q = i
              · subst hqi; exact hgi _
              · rw [hget q hqi]
                exact hcl j o' ho' hj hl' q hq
          · have h3 := hh.put (hdN i him) v
            refine h3.le fun s u hs => ?_
            rw [look_cons]
            by_cases hsd : d i = s
            · subst hsd; rw [hdf i him] at hs; cases hs
            · rw [if_neg hsd]; exact hs
          · intro j hj hl'
            by_cases hji : j = i
            · subst hji
              refine ⟨v, ?_, h2⟩
              have := (hh.put (hdN j hj) v).at_ (d j) v look_hit
              exact this
            · rw [hget j hji] at hl'
              obtain ⟨u, h3, h4⟩ := hall j hj hl'
              refine ⟨u, ?_, mono _ _ _ _ h4 h1⟩
              have hne : d i ≠ d j := fun h => hji (hdd i j him hj h).symm
              simp only [Act.put, Array.getElem?_setIfInBounds, if_neg hne]
              exact h3
        split at hs'
        · rename_i hwant
          simp only [hwant, if_true]
          exact Oper.wpIn_mono (fun a' w'' h => fin a' w'' h) hs'
        · rename_i hwant
          simp only [hwant, Bool.false_eq_true, if_false]
          exact ⟨fun _ _ => trivial, fin _ _ hs'⟩
  have hinit := key m (Array.replicate ops.size false) a { w with drawn := w.drawn + 1 } (by simp)
    (fun j _ hj => by simp [hj]) (by
      rw [List.filter_eq_self.2]
      · simp
      · intro i hi
        have : i < ops.size := by have := List.mem_range.1 hi; omega
        simp [this])
    (fun j o ho hj h => by
      have : j < ops.size := by omega
      simp [this] at h)
    (Chg.drew w) ha (fun i hi h => by
      have : i < ops.size := by omega
      simp [this] at h)
  rw [show m + (ops.size - m) = ops.size from by omega] at hinit
  exact hinit
def allN (Φ : List (Value → World → Prop)) (V : Nat → Value) (w : World) : List Nat → Prop
  | [] => True
  | i :: r => Φ.getD i (fun _ _ => False) (V i) w ∧ allN Φ V w r
theorem allN_of {Φ : List (Value → World → Prop)} {V : Nat → Value} {w : World} : ∀ {l : List Nat}, (∀ i ∈ l, Φ.getD i (fun _ _ => False) (V i) w) → allN Φ V w l
  | [], _ => trivial
  | i :: r, h => ⟨h i List.mem_cons_self, allN_of fun j hj => h j (List.mem_cons_of_mem _ hj)⟩
def drawSteps (P : Program) (N : Sz) (ops : Array Oper) (Q : Exit → Act → World → Prop) (d : Nat → Nat) (f : Fr) (w : World) (Φ : List (Value → World → Prop)) : Nat → List (List Nat) → List Oper → Prop
  | _, [], _ => True
  | _, _ :: _, [] => False
  | i, ds :: r, o :: os => (∀ (V : Nat → Value) w', Chg [] w w' → allN Φ V w' ds → Sv P N ops Q o (slots d V ds f) w' (fun v w'' => Chg [] w' w'' ∧ Φ.getD i (fun _ _ => False) v w'')) ∧ drawSteps P N ops Q d f w Φ (i + 1) r os
theorem drawSteps_at {d : Nat → Nat} {f : Fr} {Φ : List (Value → World → Prop)} : ∀ {r : List (List Nat)} {os : List Oper} {i : Nat}, drawSteps P N ops Q d f w Φ i r os → ∀ (j : Nat) (ds : List Nat) (o : Oper), r[j]? = some ds → os[j]? = some o →
    (∀ (V : Nat → Value) w', Chg [] w w' → allN Φ V w' ds → Sv P N ops Q o (slots d V ds f) w' (fun v w'' => Chg [] w' w'' ∧ Φ.getD (i + j) (fun _ _ => False) v w''))
  | [], _, _, _, _, _, _, h1, _ => by simp at h1
  | _ :: _, [], _, h, _, _, _, _, _ => by simp [drawSteps] at h
  | ds0 :: r, o0 :: os, i, h, 0, ds, o, h1, h2 => by
    simp at h1 h2
    subst h1
    subst h2
    exact h.1
  | ds0 :: r, o0 :: os, i, h, j + 1, ds, o, h1, h2 => by
    have := drawSteps_at h.2 j ds o (by simpa using h1) (by simpa using h2)
    rw [show i + (j + 1) = i + 1 + j from by omega]
    exact this
def monoAll : List (Value → World → Prop) → Prop
  | [] => True
  | φ :: r => (∀ v w w', φ v w → Chg [] w w' → φ v w') ∧ monoAll r
theorem monoAll_at : ∀ {Φ : List (Value → World → Prop)}, monoAll Φ → ∀ i v w w', Φ.getD i (fun _ _ => False) v w → Chg [] w w' → Φ.getD i (fun _ _ => False) v w'
  | [], _, i, v, w, w', h, _ => by simp at h
  | φ :: r, hm, 0, v, w, w', h, hc => hm.1 v w w' h hc
  | φ :: r, hm, i + 1, v, w, w', h, hc => by
    simp only [List.getD_cons_succ] at h ⊢
    exact monoAll_at hm.2 i v w w' h hc
theorem look_none {q : Nat} : ∀ {f : Fr}, (f.map (·.1)).contains q = false → look f q = none
  | [], _ => rfl
  | p :: r, h => by
    simp at h
    rw [look_cons, if_neg (fun h' => h.1 h'.symm)]
    exact look_none (by simpa using h.2)
def drawB (N : Sz) (n : Nat) (ops : Array Oper) (f : List Nat) (ds : List (List Nat)) (dst : List Nat) : Bool :=
  (ops.size == n) && firstB ops ds.length && (dst.length == ds.length) && ((List.range ds.length).all fun i => match ops[i]? with
    | none => false
    | some o => (o.dst == some (dst.getD i 0)) && (needs o == ds.getD i []) && decide (dst.getD i 0 < N.n) && !f.contains (dst.getD i 0)) && decide dst.Nodup
theorem C_drawL {id : Nat} {f : Fr} (n : Nat) (ds : List (List Nat)) (dst : List Nat) (hm : P.follows .mixedOrders = true) (hB : drawB N n ops (f.map (·.1)) ds dst = true)
    (Φ : List (Value → World → Prop)) (mono : monoAll Φ) (step : drawSteps P N ops Q (fun i => dst.getD i 0) f w Φ 0 ds ops.toList)
    (rest : ∀ (V : Nat → Value) w', Chg [] w w' → allN Φ V w' (List.range ds.length) → An P N ops Q (n - ds.length) (doneArr n ds.length) (slots (fun i => dst.getD i 0) V (List.range ds.length) f) w') :
    C P N Q (.region id ops true) f w := by
  simp only [drawB, Bool.and_eq_true, beq_iff_eq, List.all_eq_true, decide_eq_true_eq] at hB
  obtain ⟨⟨⟨⟨h1, h2⟩, h3⟩, h4⟩, h5⟩ := hB
  have hat : ∀ i, i < ds.length → ∃ o, ops[i]? = some o ∧ o.dst = some (dst.getD i 0) ∧ needs o = ds.getD i [] ∧ dst.getD i 0 < N.n ∧ look f (dst.getD i 0) = none := by
    intro i hi
    have := h4 i (List.mem_range.2 hi)
    cases ho : ops[i]? with
    | none => rw [ho] at this; cases this
    | some o =>
      rw [ho] at this
      simp only [Bool.and_eq_true, beq_iff_eq, decide_eq_true_eq, Bool.not_eq_true'] at this
      obtain ⟨⟨⟨g1, g2⟩, g3⟩, g4⟩ := this
      refine ⟨o, rfl, g1, g2, g3, ?_⟩
      exact look_none g4
  refine C_draw ds.length n (fun i => dst.getD i 0) hm h1 h2 ?_ ?_ ?_ ?_ (fun i => Φ.getD i (fun _ _ => False)) (fun i v w w' => monoAll_at mono i v w w') ?_ ?_
  · intro i hi
    obtain ⟨o, ho, hd, _⟩ := hat i hi
    rw [ho]
    simp [hd]
  · intro i j hi hj he
    have hi' : i < dst.length := by omega
    have hj' : j < dst.length := by omega
    simp only [List.getD_eq_getElem?_getD, List.getElem?_eq_getElem hi', List.getElem?_eq_getElem hj', Option.getD_some] at he
    exact (List.getElem_inj h5).1 he
  · intro i hi
    obtain ⟨o, _, _, _, _, h⟩ := hat i hi
    exact h
  · intro i hi
    obtain ⟨o, _, _, _, h, _⟩ := hat i hi
    exact h
  · intro i hi o ho V w' hc hn
    obtain ⟨o', ho', _, hne, _⟩ := hat i hi
    rw [ho] at ho'
    obtain rfl := Option.some.inj ho'
    have := drawSteps_at step i (ds.getD i []) o (by simp [List.getD, hi]) (by simpa using ho) V w' hc (allN_of (by rw [← hne]; exact hn))
    rw [hne]
    simpa using this
  · intro V w' hc hn
    exact rest V w' hc (allN_of fun i hi => hn i (List.mem_range.1 hi))
def stepN (Φ : List (Value → World → Prop)) (w : World) (d : Nat → Nat) (f : Fr) : List Nat → (Fr → Prop) → Prop
  | [], G => G f
  | i :: r, G => ∀ v, Φ.getD i (fun _ _ => False) v w → stepN Φ w d f r (fun g => G ((d i, v) :: g))
theorem stepN_at {Φ : List (Value → World → Prop)} {w : World} {d : Nat → Nat} {f : Fr} {V : Nat → Value} : ∀ {l : List Nat} {G : Fr → Prop}, stepN Φ w d f l G → allN Φ V w l → G (slots d V l f)
  | [], G, h, _ => h
  | i :: r, G, h, hn => stepN_at (G := fun g => G ((d i, V i) :: g)) (h (V i) hn.1) hn.2
def drawS (P : Program) (N : Sz) (ops : Array Oper) (Q : Exit → Act → World → Prop) (d : Nat → Nat) (f : Fr) (w : World) (Φ : List (Value → World → Prop)) : Nat → List (List Nat) → List Oper → Prop
  | _, [], _ => True
  | _, _ :: _, [] => False
  | i, ds :: r, o :: os => (∀ w', Chg [] w w' → stepN Φ w' d f ds (fun g => Sv P N ops Q o g w' (fun v w'' => Chg [] w' w'' ∧ Φ.getD i (fun _ _ => False) v w''))) ∧ drawS P N ops Q d f w Φ (i + 1) r os
theorem drawS_steps {d : Nat → Nat} {f : Fr} {Φ : List (Value → World → Prop)} : ∀ {r : List (List Nat)} {os : List Oper} {i : Nat}, drawS P N ops Q d f w Φ i r os → drawSteps P N ops Q d f w Φ i r os
  | [], _, _, _ => trivial
  | _ :: _, [], _, h => h.elim
  | _ :: _, _ :: _, _, h => ⟨fun _ w' hc hn => stepN_at (h.1 w' hc) hn, drawS_steps h.2⟩
theorem C_drawn {id : Nat} {f : Fr} (n : Nat) (ds : List (List Nat)) (dst fs : List Nat) (hf : f.map (·.1) = fs) (hm : P.follows .mixedOrders = true) (hB : drawB N n ops fs ds dst = true)
    (Φ : List (Value → World → Prop)) (mono : monoAll Φ) (step : drawS P N ops Q (fun i => dst.getD i 0) f w Φ 0 ds ops.toList)
    (rest : ∀ w', Chg [] w w' → stepN Φ w' (fun i => dst.getD i 0) f (List.range ds.length) (fun g => An P N ops Q (n - ds.length) (doneArr n ds.length) g w')) :
    C P N Q (.region id ops true) f w :=
  C_drawL n ds dst hm (hf ▸ hB) Φ mono (drawS_steps step) fun _ w' hc hn => stepN_at (rest w' hc) hn
theorem An_fr (g : Fr) {n : Nat} {l : Array Bool} {f : Fr} (hg : sub (g.map (·.1)) f = g) (h : An P N ops Q n l g w) : An P N ops Q n l f w := fun a ha => h a (by have := ha.sub (g.map (·.1)); rwa [hg] at this)
theorem An_one {n i d : Nat} {l : Array Bool} {o : Oper} {f : Fr} (hr : Region.ready .any ops l = [i]) (ho : ops[i]? = some o) (hd : o.dst = some d) (hN : d < N.n)
    (h : Sv P N ops Q o f w (fun v w' => An P N ops Q n (l.setIfInBounds i true) ((d, v) :: f) w')) : An P N ops Q (n + 1) l f w := by
  intro a ha
  refine wpAnyIn_all hr (by simp) fun j hj => ?_
  rw [List.mem_singleton.1 hj]
  have := h a ha
  unfold wpOpIn
  rw [ho]
  unfold Op1 at this
  split at this
  · rename_i hw; simp only [hw, if_true]
    exact Oper.wpIn_mono (fun a' w' ⟨v, h1, h2⟩ => h1 ▸ h2 _ (hd ▸ ha.put hN v)) this
  · rename_i hw; simp only [hw]
    obtain ⟨v, h1, h2⟩ := this
    simp only [Bool.false_eq_true, if_false]
    exact ⟨fun _ _ => trivial, h1 ▸ h2 _ (hd ▸ ha.put hN v)⟩
theorem An_one0 {n i : Nat} {l : Array Bool} {o : Oper} {f : Fr} (hr : Region.ready .any ops l = [i]) (ho : ops[i]? = some o) (hd : o.dst = none)
    (h : Sv P N ops Q o f w (fun _ w' => An P N ops Q n (l.setIfInBounds i true) f w')) : An P N ops Q (n + 1) l f w := by
  intro a ha
  refine wpAnyIn_all hr (by simp) fun j hj => ?_
  rw [List.mem_singleton.1 hj]
  have := h a ha
  unfold wpOpIn
  rw [ho]
  unfold Op1 at this
  split at this
  · rename_i hw; simp only [hw, if_true]
    exact Oper.wpIn_mono (fun a' w' ⟨v, h1, h2⟩ => h1 ▸ h2 _ (hd ▸ ha)) this
  · rename_i hw; simp only [hw]
    obtain ⟨v, h1, h2⟩ := this
    simp only [Bool.false_eq_true, if_false]
    exact ⟨fun _ _ => trivial, h1 ▸ h2 _ (hd ▸ ha)⟩
theorem An_done {n : Nat} {l : Array Bool} {f : Fr} (hr : Region.ready .any ops l = []) (h : E N Q .normal f w) : An P N ops Q n l f w := fun a ha => wpAnyIn_done hr (h a ha) n
end
end Go.Proofs.YtaljccgfnmfhnaaGreatDoorG
set_option linter.all false
namespace Go.Proofs.YtaljccgfnmfhnaaGreatDoorG
open Go Ieee
structure Fl where
  n : Int
  neg : Bool
  deriving DecidableEq, Inhabited
def Fl.sgn (x : Fl) : Bool := if x.n = 0 then x.neg else decide (x.n < 0)
def rungN (n : Nat) : Nat := if n = 0 then 0 else (n.log2 + 1022) * 2 ^ 52 + n * 2 ^ (52 - n.log2)
def Fl.bits (x : Fl) : Nat := Ieee.double.word x.sgn (rungN x.n.natAbs)
def Fl.add (x y : Fl) : Fl := ⟨x.n + y.n, x.sgn && y.sgn⟩
def Fl.opp (x : Fl) : Fl := ⟨-x.n, !x.neg⟩
def Fl.sub (x y : Fl) : Fl := x.add y.opp
def Fl.ofInt (n : Int) : Fl := ⟨n, false⟩
end Go.Proofs.YtaljccgfnmfhnaaGreatDoorG
set_option linter.all false
namespace Go.Proofs.YtaljccgfnmfhnaaGreatDoorG
open Go Go.RowKit
section
variable {P : Program} {N : Sz} {ops : Array Oper} {Q : Exit → Act → World → Prop} {o : Oper} {f : Fr} {w : World} {k : Value → World → Prop}
theorem C_ite {x y : Code} {c : Operand} {b : Bool} (hev : ev f c = some (.bool b)) (h1 : b = true → C P N Q x f w) (h2 : b = false → C P N Q y f w) : C P N Q (.cond c x y) f w := by
  cases b with
  | true => exact C_if hev rfl (h1 rfl)
  | false => exact C_else hev rfl (h2 rfl)
theorem C_fr (g : Fr) {c : Code} (hg : sub (g.map (·.1)) f = g) (h : C P N Q c g w) : C P N Q c f w := C_sub (g.map (·.1)) (by rw [hg]; exact h)
theorem W_split {t : Nat} {b : Bool} {l : List Oper} (hev : look f t = some (.bool b)) (h1 : b = true → W P N ops Q l f w) (h2 : b = false → W P N ops Q l f w) : W P N ops Q l f w := by
  cases b with
  | true => exact h1 rfl
  | false => exact h2 rfl
theorem R_pick_t {c x y : Operand} {b : Bool} {v : Value} (ho : o.op = .pick c x y) (hc : ev f c = some (.bool b)) (hb : b = true) (hx : ev f x = some v) : Runs P o f w v w := R_pick (u := v) ho hc (fun _ => hx) (fun h => by rw [hb] at h; cases h)
theorem R_pick_f {c x y : Operand} {b : Bool} {v : Value} (ho : o.op = .pick c x y) (hc : ev f c = some (.bool b)) (hb : b = false) (hy : ev f y = some v) : Runs P o f w v w := R_pick (u := v) ho hc (fun h => by rw [hb] at h; cases h) (fun _ => hy)
theorem Sv_gt {j t : Nat} {b b' : Bool} (hg : o.guard = some (j, b)) (hj : (ops[j]?).bind (·.dst) = some t) (ht : look f t = some (.bool b')) (hb : b' = b)
    (h : Sv P N ops Q { o with guard := none } f w k) : Sv P N ops Q o f w k := by
  intro a ha
  have h1 := h a ha
  subst hb
  unfold Op1 at *
  rw [if_pos (by simp [Region.wanted])] at h1
  rw [if_pos (by simp [Region.wanted, hg, yielded_of ha hj ht])]
  exact h1
theorem wrap_id {n : Int} (h1 : -9223372036854775808 ≤ n) (h2 : n ≤ 9223372036854775807) : IntKind.i64.wrap n = n := by
  rw [IntKind.wrap_i64]; omega
theorem and_mask64 (n : Int) (k : Nat) (m : Int) (hk : k < 63) (hm : m = ((2 ^ k - 1 : Nat) : Int)) : Go.bits .and .i64 n m = n % ((2 ^ k : Nat) : Int) := by
  have hp : (2 : Nat) ^ k ≤ 2 ^ 62 := Nat.pow_le_pow_right (by decide) (by omega)
  have hp0 : 0 < (2 : Nat) ^ k := Nat.pow_pos (by decide)
  have hp2 : (2 : Nat) ^ 62 = 4611686018427387904 := by decide
  have hd : ((2 ^ k : Nat) : Int) ∣ (18446744073709551616 : Int) := by
    have : (2 : Nat) ^ k ∣ 2 ^ 64 := Nat.pow_dvd_pow 2 (by omega)
    have h3 := Int.natCast_dvd_natCast.2 this
    simpa using h3
  have h1 : (BitVec.ofInt 64 n &&& BitVec.ofInt 64 m).toNat = (n % ((2 ^ k : Nat) : Int)).toNat := by
    rw [BitVec.toNat_and, BitVec.toNat_ofInt, BitVec.toNat_ofInt, hm]
    have h2 : ((((2 ^ k - 1 : Nat) : Int)) % ((2 ^ 64 : Nat) : Int)).toNat = 2 ^ k - 1 := by
      have : ((2 ^ 64 : Nat) : Int) = 18446744073709551616 := by decide
      rw [this, Int.emod_eq_of_lt (by omega) (by omega)]
      omega
    rw [h2, Nat.and_two_pow_sub_one_eq_mod]
    have h3 : ((2 ^ 64 : Nat) : Int) = 18446744073709551616 := by decide
    rw [h3]
    have h4 := Int.emod_emod_of_dvd n hd
    have h5 : 0 ≤ n % (18446744073709551616 : Int) := Int.emod_nonneg _ (by decide)
    apply Int.ofNat.inj
    show (((n % 18446744073709551616).toNat % 2 ^ k : Nat) : Int) = ((n % ((2 ^ k : Nat) : Int)).toNat : Int)
    rw [Int.natCast_emod, Int.toNat_of_nonneg h5, Int.toNat_of_nonneg (Int.emod_nonneg _ (by omega)), h4]
  have h6 : 0 ≤ n % ((2 ^ k : Nat) : Int) := Int.emod_nonneg _ (by omega)
  have h7 : n % ((2 ^ k : Nat) : Int) < ((2 ^ k : Nat) : Int) := Int.emod_lt_of_pos _ (by omega)
  show IntKind.i64.wrap ((BitVec.ofInt 64 n &&& BitVec.ofInt 64 m).toNat : Int) = _
  rw [h1, Int.toNat_of_nonneg h6]
  exact wrap_id (by omega) (by omega)
theorem R_add64 {T T' : TypeId} {x y : Operand} {m n : Int} (ho : o.op = .binOp .add T x y T') (hx : ev f x = some (.int .i64 m)) (hy : ev f y = some (.int .i64 n)) (h1 : -9223372036854775808 ≤ m + n) (h2 : m + n ≤ 9223372036854775807) : Runs P o f w (.int .i64 (m + n)) w := by
  have := R_bin (P := P) (o := o) (f := f) (w := w) (r := .int .i64 (IntKind.i64.wrap (m + n))) ho hx hy rfl rfl
  rwa [wrap_id h1 h2] at this
theorem R_sub64 {T T' : TypeId} {x y : Operand} {m n : Int} (ho : o.op = .binOp .sub T x y T') (hx : ev f x = some (.int .i64 m)) (hy : ev f y = some (.int .i64 n)) (h1 : -9223372036854775808 ≤ m - n) (h2 : m - n ≤ 9223372036854775807) : Runs P o f w (.int .i64 (m - n)) w := by
  have := R_bin (P := P) (o := o) (f := f) (w := w) (r := .int .i64 (IntKind.i64.wrap (m - n))) ho hx hy rfl rfl
  rwa [wrap_id h1 h2] at this
theorem R_neg64 {T : TypeId} {x : Operand} {m : Int} (ho : o.op = .unOp .neg T x) (hx : ev f x = some (.int .i64 m)) (h1 : -9223372036854775807 ≤ m ∧ m ≤ 9223372036854775807) : Runs P o f w (.int .i64 (-m)) w := by
  have := R_un (P := P) (o := o) (f := f) (w := w) (r := .int .i64 (IntKind.i64.wrap (0 - m))) ho hx rfl
  rwa [wrap_id (by omega) (by omega), Int.zero_sub] at this
theorem R_min {ts : Array TypeId} {x y : Operand} {q : IntKind} {m n : Int} (ho : o.op = .call { callee := .builtin .min, args := #[x, y], argTypes := ts }) (hx : evs f [x, y] = some [.int q m, .int q n]) : Runs P o f w (.int q (min m n)) w := by
  have h := R_builtin (P := P) (o := o) (f := f) (w := w) (w' := w) (l := [x, y]) (r := .int q (if n < m then n else m)) ho hx rfl
  have e : (if n < m then n else m) = min m n := by split <;> omega
  rwa [e] at h
theorem R_max {ts : Array TypeId} {x y : Operand} {q : IntKind} {m n : Int} (ho : o.op = .call { callee := .builtin .max, args := #[x, y], argTypes := ts }) (hx : evs f [x, y] = some [.int q m, .int q n]) : Runs P o f w (.int q (max m n)) w := by
  have h := R_builtin (P := P) (o := o) (f := f) (w := w) (w' := w) (l := [x, y]) (r := .int q (if n > m then n else m)) ho hx rfl
  have e : (if n > m then n else m) = max m n := by split <;> omega
  rwa [e] at h
theorem R_len {T : TypeId} {x : Operand} {d : Option TypeDesc} {A : Option Addr} {n c : Nat} (ho : o.op = .call { callee := .builtin .len, args := #[x], argTypes := #[T] }) (hx : evs f [x] = some [.slice A n c]) (hT : P.underlying T = d) {e : TypeId} (hd : d = some (.slice e) := by rfl) : Runs P o f w (.int .i64 (n : Int)) w := by
  subst hd
  refine R_builtin (l := [x]) ho hx ?_
  simp [builtin, Builtin.len_, run_underlying hT]
  rfl
theorem R_strlen {T : TypeId} {x : Operand} {d : Option TypeDesc} {s : St} (ho : o.op = .call { callee := .builtin .len, args := #[x], argTypes := #[T] }) (hx : evs f [x] = some [vstr s]) (hT : P.underlying T = d) (hd : d = some .string := by rfl) : Runs P o f w (.int .i64 (s.length : Int)) w := by
  subst hd
  refine R_builtin (l := [x]) ho hx ?_
  have h := run_len_string (P := P) (w := w) T o.type ⟨s.toArray⟩ hT
  unfold builtin
  simp only [Sem.run_bind]
  show ((Builtin.len_ #[T] o.type #[.string ⟨s.toArray⟩]).run P w).andThen _ = _
  rw [h]
  rfl
theorem wrap_u64 {n : Int} (h1 : 0 ≤ n) (h2 : n < 18446744073709551616) : IntKind.u64.wrap n = n := by
  unfold IntKind.wrap
  simp [IntKind.signed, IntKind.bits]
  omega
theorem R_convi {s d : TypeId} {x : Operand} {a b : Option TypeDesc} {q r : IntKind} {n : Int} (ho : o.op = .convert s d x) (hx : ev f x = some (.int q n)) (hS : P.underlying s = a) (hT : P.underlying d = b) (hw : r.wrap n = n) (ha : a.isSome = true := by rfl) (hb : b = some (.int r) := by rfl) : Runs P o f w (.int r n) w := by
  subst hb
  subst hS
  refine R_conv ho hx ?_
  obtain ⟨d', hd⟩ := Option.isSome_iff_exists.1 ha
  cases d' <;> simp [convert, run_underlying hd, run_underlying hT, Conv.intToInt, hw]
theorem R_shr {T T' : TypeId} {x y : Operand} {q r : IntKind} {m n : Int} (ho : o.op = .binOp .shr T x y T') (hx : ev f x = some (.int q m)) (hy : ev f y = some (.int r n)) (h0 : 0 ≤ n) (h1 : n.toNat ≤ q.bits) : Runs P o f w (.int q (m / 2 ^ n.toNat)) w := by
  refine R_bin ho hx hy rfl ?_
  have hn : ¬ n < 0 := by omega
  have hp : (0 : Int) ≤ 2 ^ n.toNat := Int.pow_nonneg (by decide)
  simp [binOp, Op.shift, hn, Nat.min_eq_left h1, Int.fdiv_eq_ediv_of_nonneg m hp]
theorem R_stridx {T : TypeId} {x i : Operand} {d : Option TypeDesc} {s : St} {q : IntKind} {iv : Int} (ho : o.op = .index T x i) (hx : ev f x = some (vstr s)) (hi : ev f i = some (.int q iv)) (hT : P.underlying T = d) (h0 : 0 ≤ iv) (h1 : iv < s.length) (hd : d = some .string := by rfl) :
    Runs P o f w (.int .u8 ((s.getD iv.toNat 0).toNat : Int)) w := by
  subst hd
  intro e he
  have hlt : iv.toNat < s.length := by omega
  have h2 : 0 ≤ iv ∧ iv < ((⟨s.toArray⟩ : ByteArray).size : Int) := ⟨h0, h1⟩
  have h := run_index_string (P := P) (w := w) T ⟨s.toArray⟩ q iv hT
  rw [dif_pos h2] at h
  have h3 : (⟨s.toArray⟩ : ByteArray)[iv.toNat]'(by have := h2.2; omega) = s.getD iv.toNat 0 := by
    show s.toArray[iv.toNat]'(by simpa using hlt) = _
    simp [List.getD, hlt]
  rw [h3] at h
  simp [execOp, ho, he x _ hx, he i _ hi, h]
theorem R_streql {T T' : TypeId} {x y : Operand} {a b : St} (ho : o.op = .binOp .eql T x y T') (hx : ev f x = some (vstr a)) (hy : ev f y = some (vstr b)) : Runs P o f w (.bool (decide (a = b))) w := by
  refine R_bin ho hx hy rfl ?_
  show Result.ok _ _ = _
  congr 2
  rw [Bool.eq_iff_iff]
  simp
theorem R_strneq {T T' : TypeId} {x y : Operand} {a b : St} (ho : o.op = .binOp .neq T x y T') (hx : ev f x = some (vstr a)) (hy : ev f y = some (vstr b)) : Runs P o f w (.bool (!decide (a = b))) w := by
  refine R_bin ho hx hy rfl ?_
  show Result.ok _ _ = _
  congr 2
  rw [Bool.eq_iff_iff]
  simp
structure Cx where
  re : Fl
  im : Fl
  deriving DecidableEq, Inhabited
def Fl.ok (x : Fl) : Prop := x.n.natAbs < 4503599627370496
def Cx.ok (x : Cx) : Prop := x.re.ok ∧ x.im.ok
end
theorem Lret1 {v u : Value} (h : v = u) : Ending.returned v = .returned u := by rw [h]
theorem Lret2 {v u x y : Value} (h : v = u) (k : x = y) : Ending.returned (.tuple #[v, x]) = .returned (.tuple #[u, y]) := by rw [h, k]
theorem Lint {k : IntKind} {a b : Int} (h : a = b) : Value.int k a = .int k b := by rw [h]
theorem Lbool {a b : Bool} (h : a = b) : Value.bool a = .bool b := by rw [h]
theorem Lstr {a b : St} (h : a = b) : vstr a = vstr b := by rw [h]
theorem Lslice {α : Type} {A : Option Addr} {c : Nat} {a b : List α} (h : a = b) : Value.slice A a.length c = .slice A b.length c := by rw [h]
theorem Reps.to {α : Type} {d : Kd α} {z z' : Z} (hk : ∀ x cs, d.K z x cs → d.K z' x cs) : ∀ {xs : List α} {cs : List Value}, Reps d z xs cs → Reps d z' xs cs
  | [], cs, h => h
  | x :: xs, cs, h => by
    obtain ⟨c, r, rfl, h1, h2⟩ := h
    exact ⟨c, r, rfl, hk _ _ h1, h2.to hk⟩
theorem boxcells {w : World} {b : Nat} {T : TypeId} {cs ds : List Value} (h : Box w b T cs) (off : Nat) (hd : (cs.drop off).take ds.length = ds) : ∀ j u, ds[j]? = some u → w.cell? ((⟨b, off, none⟩ : Addr).add j) = some u := fun j u hu => by
  have : cs[off + j]? = some u := by
    rw [← hd, List.getElem?_take] at hu
    split at hu
    · rwa [List.getElem?_drop] at hu
    · cases hu
  have e : (⟨b, off, none⟩ : Addr).add j = ⟨b, off + j, none⟩ := by
    unfold Addr.add
    by_cases hj : j = 0
    · subst hj; rfl
    · simp [hj]
  rw [e]
  exact h.cell this
theorem cell_add {w : World} {a : Addr} {m n : Nat} {u : Value} (h : w.cell? (a.add (m + n)) = some u) : w.cell? ((a.add m).add n) = some u := by rw [add_add]; exact h
theorem Cap.nil_ : Cap none 0 0 where
  le := Nat.le_refl _
  nil := fun _ => rfl
  mx := by omega
end Go.Proofs.YtaljccgfnmfhnaaGreatDoorG
set_option linter.all false
namespace Go.Proofs.YtaljccgfnmfhnaaGreatDoorG
open Go Go.RowKit
def addO (d : Option Nat) (v : Value) (f : Fr) : Fr := match d with
  | some s => (s, v) :: f
  | none => f
def slotsX (d : Nat → Option Nat) (V : Nat → Value) : List Nat → Fr → Fr
  | [], f => f
  | i :: r, f => addO (d i) (V i) (slotsX d V r f)
theorem look_slotsX {d : Nat → Option Nat} {V : Nat → Value} {f : Fr} {s : Nat} {v : Value} : ∀ {l : List Nat}, look (slotsX d V l f) s = some v → (∃ i ∈ l, d i = some s ∧ V i = v) ∨ look f s = some v
  | [], h => .inr h
  | i :: r, h => by
    unfold slotsX addO at h
    cases hd : d i with
    | none =>
      rw [hd] at h
      rcases look_slotsX h with ⟨j, h1, h2⟩ | h1
      · exact .inl ⟨j, List.mem_cons_of_mem _ h1, h2⟩
      · exact .inr h1
    | some t =>
      rw [hd] at h
      simp only at h
      rw [look_cons] at h
      by_cases hi : t = s
      · rw [if_pos hi] at h
        exact .inl ⟨i, List.mem_cons_self, by rw [hd, hi], Option.some.inj h⟩
      · rw [if_neg hi] at h
        rcases look_slotsX h with ⟨j, h1, h2⟩ | h1
        · exact .inl ⟨j, List.mem_cons_of_mem _ h1, h2⟩
        · exact .inr h1
section
variable {P : Program} {N : Sz} {ops : Array Oper} {Q : Exit → Act → World → Prop} {w : World}
theorem Sv.imp {o : Oper} {f : Fr} {k k' : Value → World → Prop} (h : Sv P N ops Q o f w k) (hk : ∀ v w', k v w' → k' v w') : Sv P N ops Q o f w k' := fun a ha => by
  have h1 := h a ha
  unfold Op1 at *
  split at h1
  · rename_i hw
    rw [if_pos hw]
    exact Oper.wpIn_mono (fun a' w' ⟨v, h2, h3⟩ => ⟨v, h2, hk v w' h3⟩) h1
  · rename_i hw
    rw [if_neg hw]
    obtain ⟨v, h2, h3⟩ := h1
    exact ⟨v, h2, hk v w h3⟩
end
theorem one_cons {v : Value} {L : List Value} (h : v.oneCell' = true) (hL : ∀ u ∈ L, u.oneCell' = true) : ∀ u ∈ v :: L, u.oneCell' = true := fun u hu => by
  rcases List.mem_cons.1 hu with rfl | hu
  · exact h
  · exact hL u hu
theorem one_nil : ∀ u ∈ ([] : List Value), u.oneCell' = true := fun u hu => by cases hu
end Go.Proofs.YtaljccgfnmfhnaaGreatDoorG
set_option linter.all false
namespace Go.Proofs.YtaljccgfnmfhnaaGreatDoorG
open Go Go.RowKit
section
variable {P : Program} {N : Sz} {Q : Exit → Act → World → Prop}
def scopeQ (ls : List Nat) (N : Sz) (J : Nat → Nat → Fr → World → Prop) (b : Option Nat) (Q : Exit → Act → World → Prop) : Exit → Act → World → Prop
  | .goto l, a, w => ∃ m f, (∀ b', b = some b' → m < b') ∧ l ∈ ls ∧ Holds N f a ∧ J l m f w
  | e, a, w => Q e a w
theorem Sz.wideF (N : Sz) (h : N.ro = none) : N.F = Fence.wide := by cases N; simp at h; subst h; rfl
theorem C_scope (hro : N.ro = none) {c : Code} {f : Fr} {w : World} (ls : List Nat) (J : Nat → Nat → Fr → World → Prop) (first : C P N (scopeQ ls N J none Q) c f w)
    (pass : ∀ l ∈ ls, ∃ rest, findLabel c l = some rest ∧ ∀ m f w, J l m f w → C P N (scopeQ ls N J (some m) Q) rest f w) : C P N Q (.scope c) f w := by
  intro a ha
  rw [N.wideF hro]
  refine wpIn_wide.2 fun b k cs => ?_
  have key : ∀ m l f a w, l ∈ ls → Holds N f a → J l m f w → ∀ rest, findLabel c l = some rest → ∃ e a' w', Q e a' w' ∧ Arrives P (lone (b.at a (.code rest :: .inScope c :: k)) cs w) b k cs e a' w' := by
    intro m
    induction m using Nat.strongRecOn with
    | _ m ih =>
      intro l f a w hl ha hJ rest hr
      obtain ⟨rest', hr', hp⟩ := pass l hl
      rw [hr] at hr'
      obtain rfl := Option.some.inj hr'
      obtain ⟨e, a₁, w₁, hq, harr⟩ := (wpIn_wide (n := 0)).1 (N.wideF hro ▸ hp m f w hJ a ha) b (.inScope c :: k) cs
      cases e with
      | normal => exact ⟨.normal, a₁, w₁, hq, Steps.trans harr (.one step_inScope)⟩
      | exit id => exact ⟨.exit id, a₁, w₁, hq, fun k' hk => harr k' (by simp [exitTo, hk])⟩
      | goto l' =>
        obtain ⟨m', f', hlt, hl', hf', hJ'⟩ := hq
        obtain ⟨rest₂, hr₂, _⟩ := pass l' hl'
        obtain ⟨e₂, a₂, w₂, hq₂, harr₂⟩ := ih m' (hlt m rfl) l' f' a₁ w₁ hl' hf' hJ' rest₂ hr₂
        exact ⟨e₂, a₂, w₂, hq₂, .of_steps (harr _ (by simp [gotoIn, hr₂])) harr₂⟩
      | ret => exact ⟨_, a₁, w₁, hq, harr⟩
      | panic ch => exact ⟨_, a₁, w₁, hq, harr⟩
      | outgrown => exact ⟨_, a₁, w₁, hq, harr⟩
  obtain ⟨e, a₁, w₁, hq, harr⟩ := (wpIn_wide (n := 0)).1 (N.wideF hro ▸ first a ha) b (.inScope c :: k) cs
  cases e with
  | normal => exact ⟨.normal, a₁, w₁, hq, .head step_scope (Steps.trans harr (.one step_inScope))⟩
  | exit id => exact ⟨.exit id, a₁, w₁, hq, fun k' hk => .head step_scope (harr k' (by simp [exitTo, hk]))⟩
  | goto l' =>
    obtain ⟨m', f', _, hl', hf', hJ'⟩ := hq
    obtain ⟨rest₂, hr₂, _⟩ := pass l' hl'
    obtain ⟨e₂, a₂, w₂, hq₂, harr₂⟩ := key m' l' f' a₁ w₁ hl' hf' hJ' rest₂ hr₂
    exact ⟨e₂, a₂, w₂, hq₂, .of_steps (.head step_scope (harr _ (by simp [gotoIn, hr₂]))) harr₂⟩
  | ret => exact ⟨_, a₁, w₁, hq, .of_steps (.one step_scope) harr⟩
  | panic ch => exact ⟨_, a₁, w₁, hq, .of_steps (.one step_scope) harr⟩
  | outgrown => exact ⟨_, a₁, w₁, hq, .of_steps (.one step_scope) harr⟩
variable {ls : List Nat} {J : Nat → Nat → Fr → World → Prop} {b : Option Nat} {f : Fr} {w : World}
theorem C_label {l : Nat} (h : E N Q .normal f w) : C P N Q (.label l) f w := fun a ha => wpIn_label (h a ha)
theorem C_goto {l : Nat} (h : E N Q (.goto l) f w) : C P N Q (.goto l) f w := fun a ha => wpIn_goto (h a ha)
theorem E_block_goto {i l : Nat} (h : E N Q (.goto l) f w) : E N (Exit.inBlock i Q) (.goto l) f w := fun a ha => by simpa [Exit.inBlock] using h a ha
theorem E_scope_ret (h : E N Q .ret f w) : E N (scopeQ ls N J b Q) .ret f w := fun a ha => h a ha
theorem E_jump {l m : Nat} (s : List Nat) (hl : l ∈ ls) (hb : ∀ b', b = some b' → m < b') (h : J l m (sub s f) w) : E N (scopeQ ls N J b Q) (.goto l) f w := fun a ha => ⟨m, _, hb, hl, ha.sub s, h⟩
end
structure CB (P : Program) (g : Nat) (caps : List Value) {α : Type} (enc : α → List Value) (T : (Nat → Prop) → List α → World → Prop) : Prop where
  hf : ∀ args w, (callFunc g args).run P w = .ok (.enter g args) w
  st : ∀ {F l w w' Y}, T F l w → Chg Y w w' → (∀ k ∈ Y, ¬ F k) → T F l w'
  lt : ∀ {F l w}, T F l w → ∀ k, F k → k < w.heap.size
  call : ∀ {F l w} (x : α), T F l w → Calls P g (enc x ++ caps).toArray w fun e w' => e = .returned (.tuple #[]) ∧ ∃ F' X, T F' (l ++ [x]) w' ∧ Chg X w w' ∧ (∀ k ∈ X, F k) ∧ ∀ k, F' k → F k ∨ w.heap.size ≤ k
section
variable {P : Program} {N : Sz} {ops : Array Oper} {Q : Exit → Act → World → Prop} {o : Oper} {f : Fr} {w : World} {k : Value → World → Prop} {α : Type} {enc : α → List Value} {T : (Nat → Prop) → List α → World → Prop} {g : Nat} {caps : List Value}
end
end Go.Proofs.YtaljccgfnmfhnaaGreatDoorG
set_option linter.all false
namespace Go.Proofs.YtaljccgfnmfhnaaGreatDoorG
open Go Go.RowKit
section
variable {P : Program} {N : Sz} {ops : Array Oper} {Q : Exit → Act → World → Prop} {o : Oper} {f : Fr} {w : World} {k : Value → World → Prop}
theorem bytes_append (x y : St) : (⟨x.toArray⟩ : ByteArray) ++ (⟨y.toArray⟩ : ByteArray) = ⟨(x ++ y).toArray⟩ := by
  apply ByteArray.ext
  simp [ByteArray.data_append]
theorem R_stradd {T T' : TypeId} {x y : Operand} {a b : St} (ho : o.op = .binOp .add T x y T') (hx : ev f x = some (vstr a)) (hy : ev f y = some (vstr b)) (h : a.length + b.length ≤ 9223372036854775807) : Runs P o f w (vstr (a ++ b)) w := by
  refine R_bin ho hx hy rfl ?_
  have h1 := run_string_add_sum (P := P) (w := w) ⟨a.toArray⟩ ⟨b.toArray⟩ (by simpa [ByteArray.size] using h)
  rw [bytes_append] at h1
  simpa [binOp] using h1
theorem bytes_extract (x : St) (lo hi : Nat) : (⟨x.toArray⟩ : ByteArray).extract lo hi = ⟨((x.drop lo).take (hi - lo)).toArray⟩ := ByteArray.extract_mk x lo hi
theorem bytes_size (x : St) : (⟨x.toArray⟩ : ByteArray).size = x.length := by simp [ByteArray.size]
theorem R_strslice {T : TypeId} {x lo hi : Operand} {a : St} {i j : Int} (ho : o.op = .slice T x (some lo) (some hi) none) (hx : ev f x = some (vstr a)) (hl : ev f lo = some (.int .i64 i)) (hh : ev f hi = some (.int .i64 j)) (hT : P.underlying T = some .string) (h0 : 0 ≤ i) (h1 : i ≤ j) (h2 : j ≤ a.length) :
    Runs P o f w (vstr ((a.drop i.toNat).take (j.toNat - i.toNat))) w := fun e he => by
  have eh : (j.toNat : Int) = j := Int.toNat_of_nonneg (by omega)
  simp [execOp, ho, he x _ hx, he lo _ hl, he hi _ hh, run_sliceAt_string, hT, Instr.slice, run_underlying hT, Instr.sliceBounds, run_sliceBound, bytes_size, bytes_extract, eh, h0, h1, h2, (by omega : 0 ≤ j)]
def ub (t : St) : List Int := t.map (fun b => (b.toNat : Int))
theorem ub_len (t : St) : (ub t).length = t.length := by simp [ub]
theorem R_bytestr {S T e : TypeId} {x : Operand} {A : Option Addr} {c : Nat} {t : St} {z : Z} (ho : o.op = .convert S T x) (hx : ev f x = some (.slice A (ub t).length c)) (hS : P.underlying S = some (.slice e)) (he : P.underlying e = some (.int .u8)) (hT : P.underlying T = some .string)
    (hr : Rd (kint .u8) z A (ub t)) (hz : Sub z w) (hc : Cap A (ub t).length c) : Runs P o f w (vstr t) w := by
  refine R_conv ho hx ?_
  rw [ub_len]
  cases A with
  | none =>
    have h0 := hc.nil rfl
    have h1 := hc.le
    rw [ub_len] at h1
    have : t = [] := List.length_eq_zero_iff.1 (by omega)
    subst this
    subst h0
    rw [run_convert_bytes_string w S T e none _ _ hS he hT]
    rfl
  | some a =>
    refine run_convert_bytes_back w S T e a c t hS he hT (fun j hj => ?_)
    have hj' : j < (ub t).length := by rw [ub_len]; exact hj
    obtain ⟨a', cs, h1, h2, h3⟩ := hr j _ (List.getElem?_eq_getElem hj')
    obtain rfl := Option.some.inj h1
    obtain rfl : cs = [.int .u8 (ub t)[j]] := h2
    have h4 := hz.cell (h3 0 _ rfl)
    have h5 : (kint .u8).sz = 1 := rfl
    rw [h5, Nat.mul_one, Nat.add_zero] at h4
    rw [h4]
    simp [ub]
theorem R_slice0 {T : TypeId} {x hi mx : Operand} {A : Option Addr} {n c : Nat} (ho : o.op = .slice T x none (some hi) (some mx)) (hx : ev f x = some (.slice A n c)) (hh : ev f hi = some (.int .i64 0)) (hm : ev f mx = some (.int .i64 0)) (hT : P.underlying T = some (.slice (P.elem T))) (hs : ∃ s, (sizeOf (P.elem T)).run P w = .ok s w) :
    Runs P o f w (.slice A 0 0) w := fun e he => by
  obtain ⟨s, hs⟩ := hs
  have h1 := run_slice_hm (P := P) (w := w) T A n c hT .i64 .i64 0 0 (by omega) (by omega) (by omega)
  simp [execOp, ho, he x _ hx, he hi _ hh, he mx _ hm, run_sliceAt_slice, hT, h1, hs, sliced]
theorem append0_eq {t ty e : TypeId} {sz bytes : Nat} (I : ElemInfo P t e sz bytes) {b ad : Addr} {n c : Nat} {news : List Value} (hl : news.length = n * sz) (hnews : ∀ j v, news[j]? = some v → w.cell? (ad.add j) = some v)
    (h0 : 0 < n) (h63 : n ≤ maxLen) (hb : n * bytes ≤ 140737488355328) :
    (Builtin.append_ #[t, t] ty #[.slice (some b) 0 0, .slice (some ad) n c]).run P w = (Builtin.append_ #[t, t] ty #[.slice none 0 0, .slice (some ad) n c]).run P w := by
  obtain ⟨i, z, h1, h2, rfl, rfl, h5⟩ := I.hi
  simp only [maxLen] at h63
  rw [run_append_nil w t ty e i z I.ht h1 h2 ad n c news hl hnews h0 (by omega) (by omega),
    run_append_grow w t ty e i z I.ht h1 h2 b 0 0 [] (by simp) (by simp) ad n c news hl hnews (by omega) (by omega) (by rw [Nat.zero_add, nextslicecap_zero h0]; omega)]
  simp
theorem Sv_append0 {α : Type} {d : Kd α} {t e : TypeId} {bytes B : Nat} {z : Z} {s x : Operand} {A A2 : Option Addr} {c2 : Nat} {ys : List α} {news : List Value} (hg : o.guard = none)
    (ho : o.op = .call { callee := .builtin .append, args := #[s, x], argTypes := #[t, t] }) (I : ElemInfo P t e d.sz bytes) (hs : ev f s = some (.slice A 0 0))
    (hx : ev f x = some (.slice A2 ys.length c2)) (hA2 : A2 = none → c2 = 0) (hr : Reps d z ys news) (hc : ∀ j u, news[j]? = some u → ∃ ad, A2 = some ad ∧ w.cell? (ad.add j) = some u) (hn : 0 < ys.length)
    (hb : ys.length * bytes ≤ 140737488355328) (hl : ys.length ≤ maxLen) (hB : B ≤ w.heap.size)
    (h : ∀ A' c' w', Own d e B z w' A' c' ys → Chg [] w w' → (∀ q ∈ blk A', w.heap.size ≤ q) → k (.slice A' ys.length c') w') : Sv P N ops Q o f w k := by
  have hnl := hr.len
  have hne : ∃ ad, A2 = some ad := by
    cases news with
    | nil =>
      exfalso
      have h1 := Nat.mul_pos hn I.pos
      rw [← hnl] at h1
      simp at h1
    | cons v r =>
      obtain ⟨ad, h1, _⟩ := hc 0 v rfl
      exact ⟨ad, h1⟩
  obtain ⟨ad, rfl⟩ := hne
  have hcell : ∀ j u, news[j]? = some u → w.cell? (ad.add j) = some u := fun j u hu => by
    obtain ⟨ad', h1, h2⟩ := hc j u hu
    obtain rfl := Option.some.inj h1
    exact h2
  have heq : (Builtin.append_ #[t, t] o.type #[.slice A 0 0, .slice (some ad) ys.length c2]).run P w = (Builtin.append_ #[t, t] o.type #[.slice none 0 0, .slice (some ad) ys.length c2]).run P w := by
    cases A with
    | none => rfl
    | some b => exact append0_eq I hnl hcell hn hl hb
  refine Sv_of_wp hg (by simp [ho]) fun a ha => ?_
  obtain ⟨i, zv, h1, h2, h3, h4, h5⟩ := I.hi
  obtain ⟨inner, h6, h7⟩ := Own.nil d e B z w
  obtain ⟨v', w', hrun, h8, h9, _, h11⟩ := run_append_own_at (P := P) (w := w) B t o.type e i zv d.sz bytes I.ht h1 h2 h3 h4 h5 I.pos _ _ inner h6 ad ys.length c2 news hnl hcell hr.one (by simpa using hl) (by simpa using hb) hB
  simp only [List.length_nil, Nat.zero_add] at hrun h8
  rw [← heq] at hrun
  unfold Oper.wp execOp
  simp only [ho, resolve, invoke, builtin, Sem.run_bind, Sem.run_pure, Result.andThen_ok, List.map_toArray, List.map_cons, List.map_nil, ha.agree s _ hs, ha.agree x _ hx, hrun]
  have hv : ∃ A' c', v' = .slice A' ys.length c' := by
    rcases h8.2 with ⟨rfl, h12⟩ | ⟨g, cap, cur, rfl, _⟩
    · exact ⟨none, 0, by rw [h12]⟩
    · exact ⟨_, _, rfl⟩
  obtain ⟨A', c', rfl⟩ := hv
  have h7' : inner = [] := h7
  subst h7'
  refine ⟨_, rfl, h A' c' w' ⟨news, by simpa using h8, hr⟩ ?_ ?_⟩
  · have := Chg.grown h9
    simpa [Value.ownBlock] using this
  · intro q hq
    cases A' with
    | none => simp [blk] at hq
    | some a' =>
      simp [blk] at hq
      subst hq
      rcases h11 with h11 | h11
      · simp [Value.ownBlock] at h11
      · simp [Value.ownBlock] at h11
        omega
end
def OwnZ {α : Type} (d : Kd α) (e : TypeId) (B : Nat) (z : Z) (w : World) (A : Option Addr) (c : Nat) (xs : List α) (L : List Nat) : Prop :=
  (L = blk A ∧ Own d e B z w A c xs) ∨ (L = [] ∧ xs = [] ∧ c = 0)
section
variable {α : Type} {d : Kd α} {e : TypeId} {B : Nat} {z z' : Z} {w w' : World} {A : Option Addr} {c : Nat} {xs : List α} {L : List Nat}
theorem Own.toZ (h : Own d e B z w A c xs) : OwnZ d e B z w A c xs (blk A) := .inl ⟨rfl, h⟩
theorem OwnZ.zero (d : Kd α) (e : TypeId) (B : Nat) (z : Z) (w : World) (A : Option Addr) : OwnZ d e B z w A 0 [] [] := .inr ⟨rfl, rfl, rfl⟩
theorem OwnZ.lt (h : OwnZ d e B z w A c xs L) : ∀ k ∈ L, k < w.heap.size := by
  rcases h with ⟨rfl, h⟩ | ⟨rfl, _⟩
  · exact h.lt
  · intro k hk; cases hk
theorem OwnZ.base (h : OwnZ d e B z w A c xs L) : ∀ k ∈ L, B ≤ k := by
  rcases h with ⟨rfl, h⟩ | ⟨rfl, _⟩
  · exact h.base
  · intro k hk; cases hk
theorem OwnZ.le (h : OwnZ d e B z w A c xs L) : xs.length ≤ c := by
  rcases h with ⟨rfl, h⟩ | ⟨rfl, rfl, rfl⟩
  · exact h.cap.le
  · exact Nat.le_refl _
theorem OwnZ.mx (h : OwnZ d e B z w A c xs L) : c ≤ 9223372036854775807 := by
  rcases h with ⟨rfl, h⟩ | ⟨rfl, rfl, rfl⟩
  · exact h.cap.mx
  · decide
theorem OwnZ.chg {X : List Nat} (h : OwnZ d e B z w A c xs L) (hc : Chg X w w') (hX : ∀ k ∈ L, k ∉ X) : OwnZ d e B z w' A c xs L := by
  rcases h with ⟨rfl, h⟩ | h
  · exact .inl ⟨rfl, h.chg hc hX⟩
  · exact .inr h
theorem OwnZ.chg0 (h : OwnZ d e B z w A c xs L) (hc : Chg [] w w') : OwnZ d e B z w' A c xs L := h.chg hc (by simp)
theorem OwnZ.lower {B' : Nat} (h : OwnZ d e B z w A c xs L) (hB : B' ≤ B) : OwnZ d e B' z w A c xs L := by
  rcases h with ⟨rfl, h⟩ | h
  · exact .inl ⟨rfl, h.lower hB⟩
  · exact .inr h
end
section
variable {P : Program} {N : Sz} {ops : Array Oper} {Q : Exit → Act → World → Prop} {o : Oper} {f : Fr} {w : World} {k : Value → World → Prop}
theorem Sv_appendZ {α : Type} {d : Kd α} {t e : TypeId} {bytes B : Nat} {z : Z} {s x : Operand} {A A2 : Option Addr} {c c2 : Nat} {xs ys : List α} {news : List Value} {L : List Nat} (hg : o.guard = none)
    (ho : o.op = .call { callee := .builtin .append, args := #[s, x], argTypes := #[t, t] }) (I : ElemInfo P t e d.sz bytes) (hs : ev f s = some (.slice A xs.length c)) (hO : OwnZ d e B z w A c xs L)
    (hx : ev f x = some (.slice A2 ys.length c2)) (hA2 : A2 = none → c2 = 0) (hr : Reps d z ys news) (hc : ∀ j u, news[j]? = some u → ∃ ad, A2 = some ad ∧ w.cell? (ad.add j) = some u) (hn : 0 < ys.length)
    (hb : (xs.length + ys.length) * bytes ≤ 140737488355328) (hl : xs.length + ys.length ≤ maxLen) (hB : B ≤ w.heap.size)
    (h : ∀ A' c' w', Own d e B z w' A' c' (xs ++ ys) → Chg L w w' → (∀ q ∈ blk A', q ∈ L ∨ w.heap.size ≤ q) → k (.slice A' (xs ++ ys).length c') w') : Sv P N ops Q o f w k := by
  rcases hO with ⟨rfl, hO⟩ | ⟨rfl, rfl, rfl⟩
  · exact Sv_append hg ho I hs hO hx hA2 hr hc hb hl hB h
  · refine Sv_append0 hg ho I hs hx hA2 hr hc hn (by simpa using hb) (by simpa using hl) hB (fun A' c' w' h1 h2 h3 => ?_)
    exact h A' c' w' h1 h2 (fun q hq => .inr (h3 q hq))
theorem R_bytestrZ {S T e e' : TypeId} {x : Operand} {A : Option Addr} {c B : Nat} {t : St} {L : List Nat} (ho : o.op = .convert S T x) (hx : ev f x = some (.slice A (ub t).length c)) (hS : P.underlying S = some (.slice e)) (he : P.underlying e = some (.int .u8)) (hT : P.underlying T = some .string)
    (hO : OwnZ (kint .u8) e' B zE w A c (ub t) L) : Runs P o f w (vstr t) w := by
  rcases hO with ⟨rfl, hO⟩ | ⟨rfl, h1, rfl⟩
  · obtain ⟨h1, _, h2⟩ := hO.lend (Sub.E w) (fun _ _ => rfl)
    exact R_bytestr ho hx hS he hT h2 h1 hO.cap
  · have h2 : t = [] := by simpa [ub] using h1
    subst h2
    cases A with
    | none => exact R_bytestr (z := zE) ho hx hS he hT (Rd.nil _ _ _) (Sub.E w) ⟨Nat.le_refl _, fun _ => rfl, by decide⟩
    | some a => exact R_bytestr (z := zE) ho hx hS he hT (Rd.nil _ _ _) (Sub.E w) ⟨Nat.le_refl _, fun _ => rfl, by decide⟩
end
section
variable {P : Program} {g : Nat} {caps : List Value} {α : Type} {enc : α → List Value} {T : (Nat → Prop) → List α → World → Prop} {F F' : Nat → Prop} {l : List α} {w w' w0 : World} {X L L' : List Nat}
theorem CB.fresh (h : CB P g caps enc T) (hT : T F l w) (hb : ∀ k ∈ L, w.heap.size ≤ k) : ∀ k ∈ L, ¬ F k := fun k hk hf => by
  have := h.lt hT k hf
  have := hb k hk
  omega
theorem CB.grown (h : CB P g caps enc T) (hT : T F l w) (hL : ∀ k ∈ L, ¬ F k) (hk : ∀ q ∈ L', q ∈ L ∨ w.heap.size ≤ q) : ∀ k ∈ L', ¬ F k := fun k hk' hf => by
  rcases hk k hk' with h1 | h1
  · exact hL k h1 hf
  · have := h.lt hT k hf
    omega
def ChgF (F : Nat → Prop) (w w' : World) : Prop := ∃ X, (∀ k ∈ X, F k) ∧ Chg X w w'
theorem ChgF.refl (F : Nat → Prop) (w : World) : ChgF F w w := ⟨[], by simp, Chg.refl _ _⟩
theorem ChgF.size (h : ChgF F w w') : w.heap.size ≤ w'.heap.size := by obtain ⟨X, _, h⟩ := h; exact h.size
theorem ChgF.then (h : ChgF F w0 w) (hc : Chg X w w') (hX : ∀ k ∈ X, F k ∨ w0.heap.size ≤ k) : ChgF F w0 w' := by
  obtain ⟨Y, h1, h2⟩ := h
  refine ⟨Y ++ X.filter (fun k => decide (k < w0.heap.size)), fun k hk => ?_, (h2.trans hc).mono fun k hk => ?_⟩
  · rcases List.mem_append.1 hk with hk | hk
    · exact h1 k hk
    · obtain ⟨h3, h4⟩ := List.mem_filter.1 hk
      rcases hX k h3 with h5 | h5
      · exact h5
      · simp at h4; omega
  · rcases List.mem_append.1 hk with hk | hk
    · exact .inl (List.mem_append_left _ hk)
    · rcases Nat.lt_or_ge k w0.heap.size with h3 | h3
      · exact .inl (List.mem_append_right _ (List.mem_filter.2 ⟨hk, by simpa using h3⟩))
      · exact .inr h3
end
end Go.Proofs.YtaljccgfnmfhnaaGreatDoorG
set_option linter.all false
namespace Go.Proofs.YtaljccgfnmfhnaaGreatDoorG
open Go Go.RowKit
structure Chp (X : Nat → Prop) (w w' : World) : Prop where
  os : w'.os = w.os
  tape : w'.tape = w.tape
  output : w'.output = w.output
  size : w.heap.size ≤ w'.heap.size
  block : ∀ k, k < w.heap.size → ¬ X k → w'.heap[k]? = w.heap[k]?
section
variable {X Y : Nat → Prop} {w w' a b c : World}
theorem Chp.refl (X : Nat → Prop) (w : World) : Chp X w w := ⟨rfl, rfl, rfl, Nat.le_refl _, fun _ _ _ => rfl⟩
theorem Chp.trans (h : Chp X a b) (k : Chp Y b c) (hY : ∀ i, Y i → X i ∨ a.heap.size ≤ i) : Chp X a c :=
  ⟨k.os.trans h.os, k.tape.trans h.tape, k.output.trans h.output, Nat.le_trans h.size k.size, fun i hi hn =>
    (k.block i (Nat.lt_of_lt_of_le hi h.size) (fun hy => (hY i hy).elim hn (fun h' => by omega))).trans (h.block i hi hn)⟩
theorem Chp.mono (h : Chp X a b) (hY : ∀ i, X i → Y i ∨ a.heap.size ≤ i) : Chp Y a b :=
  ⟨h.os, h.tape, h.output, h.size, fun i hi hn => h.block i hi (fun hx => (hY i hx).elim hn (fun h' => by omega))⟩
theorem Chg.chp {L : List Nat} (h : Chg L w w') : Chp (· ∈ L) w w' := ⟨h.os, h.tape, h.output, h.size, h.block⟩
theorem Chg.chp0 (h : Chg [] w w') : Chp X w w' := ⟨h.os, h.tape, h.output, h.size, fun k hk _ => h.block k hk (by simp)⟩
theorem Chp.below (h : Chp X w w') (hX : ∀ k, ¬ X k) : Below w.heap.size w w' := ⟨h.os, h.tape, h.output, h.size, fun k hk => h.block k hk (hX k)⟩
end
structure Res where
  F : Nat → Prop
  P : World → Prop
  st : ∀ {w w'}, P w → (∀ k, k < w.heap.size → F k → w'.heap[k]? = w.heap[k]?) → P w'
  lt : ∀ {w k}, P w → F k → k < w.heap.size
def Wr (q : Z) (w : World) : Prop := ∀ b, q b ≠ none → ∃ c e, w.heap[b]? = some (.cells c e (0, 0))
def zR (q : Z) : Res where
  F := fun k => q k ≠ none
  P := fun w => Sub q w ∧ Wr q w
  st := fun {w w'} h hc => ⟨fun b c hb => by
    rw [cellsAt_congr (hc b (h.1.lt (by rw [hb]; simp)) (by rw [hb]; simp))]
    exact h.1 b c hb, fun b hb => by
    rw [hc b (h.1.lt hb) hb]
    exact h.2 b hb⟩
  lt := fun h hk => h.1.lt hk
theorem Own.cong {α : Type} {d : Kd α} {e : TypeId} {B : Nat} {z : Z} {w w' : World} {A : Option Addr} {c : Nat} {xs : List α} (h : Own d e B z w A c xs) (hc : ∀ k ∈ blk A, w'.heap[k]? = w.heap[k]?) : Own d e B z w' A c xs := by
  obtain ⟨inner, ⟨h1, h2⟩, h3⟩ := h
  refine ⟨inner, ⟨h1, ?_⟩, h3⟩
  rcases h2 with h2 | ⟨g, cap, cur, he, hg, hh, r⟩
  · exact .inl h2
  · refine .inr ⟨g, cap, cur, he, hg, ?_, r⟩
    injection he with h4
    subst h4
    rw [hc g (by simp [blk])]
    exact hh
def oR {α : Type} (d : Kd α) (e : TypeId) (q : Z) (A : Option Addr) (c : Nat) (xs : List α) : Res where
  F := fun k => k ∈ blk A
  P := fun w => Own d e 0 q w A c xs
  st := fun {w w'} h hc => h.cong fun k hk => hc k (h.lt k hk) hk
  lt := fun {w k} h hk => h.lt k hk
def oZ {α : Type} (d : Kd α) (e : TypeId) (q : Z) (A : Option Addr) (c : Nat) (xs : List α) (L : List Nat) : Res where
  F := fun k => k ∈ L
  P := fun w => OwnZ d e 0 q w A c xs L
  st := fun {w w'} h hc => by
    have hlt := h.lt
    rcases h with ⟨rfl, h⟩ | h
    · exact .inl ⟨rfl, h.cong fun k hk => hc k (hlt k hk) hk⟩
    · exact .inr h
  lt := fun {w k} h hk => h.lt k hk
def bR (b : Nat) (T : TypeId) (cs : List Value) : Res where
  F := fun k => k = b
  P := fun w => Box w b T cs
  st := fun {w w'} h hc => by
    show w'.heap[b]? = _
    rw [hc b h.lt rfl]
    exact h
  lt := fun {w k} h hk => by rw [hk]; exact h.lt
def nth : List Res → Nat → Option Res
  | [], _ => none
  | r :: _, 0 => some r
  | _ :: l, i + 1 => nth l i
def upd : List Res → Nat → Res → List Res
  | [], _, _ => []
  | _ :: l, 0, r => r :: l
  | q :: l, i + 1, r => q :: upd l i r
def del : List Res → Nat → List Res
  | [], _ => []
  | _ :: l, 0 => l
  | q :: l, i + 1 => q :: del l i
def pick (rs : List Res) : List Nat → List Res
  | [] => []
  | i :: l => match nth rs i with
    | some r => r :: pick rs l
    | none => pick rs l
def rest : List Res → Nat → List Nat → List Res
  | [], _, _ => []
  | r :: rs, i, l => bif l.contains i then rest rs (i + 1) l else r :: rest rs (i + 1) l
def FF (rs : List Res) (k : Nat) : Prop := ∃ r ∈ rs, r.F k
def Ap (r q : Res) : Prop := ∀ k, r.F k → ¬ q.F k
theorem Ap.symm {r q : Res} (h : Ap r q) : Ap q r := fun k hk hr => h k hr hk
structure In (z : Z) (w : World) (rs : List Res) : Prop where
  sub : Sub z w
  all : ∀ r ∈ rs, r.P w
  sep : rs.Pairwise Ap
  dz : ∀ k, FF rs k → z k = none
structure Sp (X : Nat → Prop) (w0 : World) (z : Z) (w : World) (rs : List Res) : Prop where
  z0 : Sub z w0
  dz : ∀ k, X k → z k = none
  chg : Chp X w0 w
  all : ∀ r ∈ rs, r.P w
  new : ∀ r ∈ rs, ∀ k, r.F k → X k ∨ w0.heap.size ≤ k
  sep : rs.Pairwise Ap
theorem In.sp {z : Z} {w : World} {rs : List Res} (h : In z w rs) : Sp (FF rs) w z w rs :=
  ⟨h.sub, h.dz, Chp.refl _ _, h.all, fun r hr k hk => .inl ⟨r, hr, hk⟩, h.sep⟩
theorem In.nil {z : Z} {w : World} (h : Sub z w) : In z w [] := ⟨h, (fun _ h => by cases h), List.Pairwise.nil, fun k ⟨_, h, _⟩ => by cases h⟩
theorem FF_nil (k : Nat) : ¬ FF [] k := fun ⟨_, h, _⟩ => by cases h
theorem nth_mem {r : Res} : ∀ {rs : List Res} {i : Nat}, nth rs i = some r → r ∈ rs
  | [], _, h => by cases h
  | q :: l, 0, h => by obtain rfl := Option.some.inj h; exact List.mem_cons_self
  | q :: l, i + 1, h => List.mem_cons_of_mem _ (nth_mem (i := i) h)
theorem del_sub {r : Res} : ∀ {rs : List Res} {i : Nat}, r ∈ del rs i → r ∈ rs
  | [], _, h => h
  | q :: l, 0, h => List.mem_cons_of_mem _ h
  | q :: l, i + 1, h => by
    rcases List.mem_cons.1 h with rfl | h
    · exact List.mem_cons_self
    · exact List.mem_cons_of_mem _ (del_sub h)
theorem upd_mem {q r : Res} : ∀ {rs : List Res} {i : Nat}, q ∈ upd rs i r → q = r ∨ q ∈ del rs i
  | [], _, h => by cases h
  | p :: l, 0, h => by
    rcases List.mem_cons.1 h with rfl | h
    · exact .inl rfl
    · exact .inr h
  | p :: l, i + 1, h => by
    rcases List.mem_cons.1 h with rfl | h
    · exact .inr List.mem_cons_self
    · exact (upd_mem h).imp id (List.mem_cons_of_mem _)
theorem sep_nth {r q : Res} : ∀ {rs : List Res} {i : Nat}, rs.Pairwise Ap → nth rs i = some r → q ∈ del rs i → Ap r q
  | [], _, _, h, _ => by cases h
  | p :: l, 0, hs, h, hq => by
    obtain rfl := Option.some.inj h
    exact (List.pairwise_cons.1 hs).1 q hq
  | p :: l, i + 1, hs, h, hq => by
    obtain ⟨h1, h2⟩ := List.pairwise_cons.1 hs
    rcases List.mem_cons.1 hq with rfl | hq
    · exact (h1 r (nth_mem (i := i) h)).symm
    · exact sep_nth h2 (show nth l i = some r from h) hq
theorem sep_upd {r' : Res} : ∀ {rs : List Res} {i : Nat}, rs.Pairwise Ap → (∀ q ∈ del rs i, Ap r' q) → (upd rs i r').Pairwise Ap
  | [], _, h, _ => h
  | q :: l, 0, h, hr => List.pairwise_cons.2 ⟨hr, (List.pairwise_cons.1 h).2⟩
  | q :: l, i + 1, h, hr => by
    obtain ⟨h1, h2⟩ := List.pairwise_cons.1 h
    refine List.pairwise_cons.2 ⟨fun r hm => ?_, sep_upd h2 (fun q' hq' => hr q' (List.mem_cons_of_mem _ hq'))⟩
    rcases upd_mem hm with rfl | hm
    · exact (hr q List.mem_cons_self).symm
    · exact h1 r (del_sub hm)
theorem nth_ap {r q : Res} : ∀ {rs : List Res} {i j : Nat}, rs.Pairwise Ap → nth rs i = some r → nth rs j = some q → i ≠ j → Ap r q
  | [], _, _, _, h, _, _ => by cases h
  | p :: l, 0, 0, _, _, _, h => absurd rfl h
  | p :: l, 0, j + 1, hs, h, hq, _ => by
    obtain rfl := Option.some.inj h
    exact (List.pairwise_cons.1 hs).1 q (nth_mem (i := j) hq)
  | p :: l, i + 1, 0, hs, h, hq, _ => by
    obtain rfl := Option.some.inj hq
    exact ((List.pairwise_cons.1 hs).1 r (nth_mem (i := i) h)).symm
  | p :: l, i + 1, j + 1, hs, h, hq, hn => nth_ap (List.pairwise_cons.1 hs).2 (show nth l i = some r from h) (show nth l j = some q from hq) (by omega)
section
variable {X : Nat → Prop} {w0 w w' : World} {z : Z} {rs : List Res} {r r' : Res} {i j : Nat}
theorem Sp.at_ (h : Sp X w0 z w rs) (i : Nat) (hi : nth rs i = some r) : r.P w := h.all r (nth_mem hi)
theorem Sp.sub (h : Sp X w0 z w rs) : Sub z w := fun b c hb => by
  have hlt := h.z0.lt (b := b) (by rw [hb]; simp)
  rw [cellsAt_congr (h.chg.block b hlt (fun hx => by rw [h.dz b hx] at hb; cases hb))]
  exact h.z0 b c hb
theorem Sp.zn (h : Sp X w0 z w rs) (hr : r ∈ rs) {k : Nat} (hk : r.F k) : z k = none := by
  rcases h.new r hr k hk with hx | hx
  · exact h.dz k hx
  · cases hz : z k with
    | none => rfl
    | some c =>
      have := h.z0.lt (b := k) (by rw [hz]; simp)
      omega
theorem Sp.set (h : Sp X w0 z w rs) (i : Nat) (hi : nth rs i = some r) (hc : Chp r.F w w') (hP : r'.P w') (hF : ∀ k, r'.F k → r.F k ∨ w.heap.size ≤ k) : Sp X w0 z w' (upd rs i r') := by
  have hm := nth_mem hi
  have hold : ∀ q ∈ del rs i, q.P w' := fun q hq => q.st (h.all q (del_sub hq)) fun k hlt hk => hc.block k hlt (fun hr => sep_nth h.sep hi hq k hr hk)
  refine ⟨h.z0, h.dz, h.chg.trans hc (h.new r hm), fun q hq => ?_, fun q hq k hk => ?_, sep_upd h.sep fun q hq k hk hqk => ?_⟩
  · rcases upd_mem hq with rfl | hq
    · exact hP
    · exact hold q hq
  · rcases upd_mem hq with rfl | hq
    · rcases hF k hk with h1 | h1
      · exact h.new r hm k h1
      · exact .inr (Nat.le_trans h.chg.size h1)
    · exact h.new q (del_sub hq) k hk
  · rcases hF k hk with h1 | h1
    · exact sep_nth h.sep hi hq k h1 hqk
    · have := q.lt (h.all q (del_sub hq)) hqk
      omega
theorem Sp.push (h : Sp X w0 z w rs) (hc : Chg [] w w') (hP : r'.P w') (hF : ∀ k, r'.F k → w.heap.size ≤ k) : Sp X w0 z w' (r' :: rs) := by
  have hc' : Chp (fun _ => False) w w' := hc.chp0
  refine ⟨h.z0, h.dz, h.chg.trans hc' (fun i hi => hi.elim), fun q hq => ?_, fun q hq k hk => ?_, List.pairwise_cons.2 ⟨fun q hq k hk hqk => ?_, h.sep⟩⟩
  · rcases List.mem_cons.1 hq with rfl | hq
    · exact hP
    · exact q.st (h.all q hq) fun k hlt _ => hc'.block k hlt id
  · rcases List.mem_cons.1 hq with rfl | hq
    · exact .inr (Nat.le_trans h.chg.size (hF k hk))
    · exact h.new q hq k hk
  · have := hF k hk
    have := q.lt (h.all q hq) hqk
    omega
theorem Sp.chg0 (h : Sp X w0 z w rs) (hc : Chg [] w w') : Sp X w0 z w' rs := by
  have hc' : Chp (fun _ => False) w w' := hc.chp0
  exact ⟨h.z0, h.dz, h.chg.trans hc' (fun i hi => hi.elim), fun q hq => q.st (h.all q hq) fun k hlt _ => hc'.block k hlt id, h.new, h.sep⟩
theorem Sp.as (h : Sp X w0 z w rs) (i : Nat) (hi : nth rs i = some r) (hP : r.P w → r'.P w) (hF : ∀ k, r'.F k → r.F k) : Sp X w0 z w (upd rs i r') :=
  h.set i hi (Chp.refl _ _) (hP (h.at_ i hi)) fun k hk => .inl (hF k hk)
theorem Sp.cons (h : Sp X w0 z w rs) (hP : r'.P w) (hF : ∀ k, ¬ r'.F k) : Sp X w0 z w (r' :: rs) :=
  h.push (Chg.refl _ _) hP (fun k hk => absurd hk (hF k))
theorem pick_mem {l : List Nat} {q : Res} (h : q ∈ pick rs l) : ∃ i ∈ l, nth rs i = some q := by
  induction l with
  | nil => cases h
  | cons i l ih =>
    unfold pick at h
    split at h
    · rename_i r hr
      rcases List.mem_cons.1 h with rfl | h
      · exact ⟨i, List.mem_cons_self, hr⟩
      · obtain ⟨j, hj, hq⟩ := ih h
        exact ⟨j, List.mem_cons_of_mem _ hj, hq⟩
    · obtain ⟨j, hj, hq⟩ := ih h
      exact ⟨j, List.mem_cons_of_mem _ hj, hq⟩
theorem sep_pick (hs : rs.Pairwise Ap) : ∀ {l : List Nat}, l.Nodup → (pick rs l).Pairwise Ap
  | [], _ => List.Pairwise.nil
  | i :: l, hl => by
    obtain ⟨h1, h2⟩ := List.nodup_cons.1 hl
    unfold pick
    split
    · rename_i r hr
      refine List.pairwise_cons.2 ⟨fun q hq => ?_, sep_pick hs h2⟩
      obtain ⟨j, hj, hqj⟩ := pick_mem hq
      exact nth_ap hs hr hqj (fun e => h1 (e ▸ hj))
    · exact sep_pick hs h2
theorem Sp.sel (h : Sp X w0 z w rs) (l : List Nat) (hl : l.Nodup) : Sp X w0 z w (pick rs l) :=
  ⟨h.z0, h.dz, h.chg, fun q hq => by obtain ⟨i, _, hi⟩ := pick_mem hq; exact h.all q (nth_mem hi), fun q hq => by obtain ⟨i, _, hi⟩ := pick_mem hq; exact h.new q (nth_mem hi), sep_pick h.sep hl⟩
noncomputable def zB (w : World) (F : Nat → Prop) : Z := fun b => open Classical in if F b then none else cellsAt w b
theorem zB_sub (w : World) (F : Nat → Prop) : Sub (zB w F) w := fun b c h => by
  unfold zB at h
  split at h
  · cases h
  · exact h
theorem zB_none {w : World} {F : Nat → Prop} {k : Nat} (h : F k) : zB w F k = none := by simp [zB, h]
theorem zB_of {w : World} {F : Nat → Prop} {k : Nat} (h : ¬ F k) : zB w F k = cellsAt w k := by simp [zB, h]
theorem Sp.out (h : Sp X w0 z w rs) (l : List Nat) (hl : l.Nodup) : In (zB w (FF (pick rs l))) w (pick rs l) :=
  ⟨zB_sub _ _, (h.sel l hl).all, (h.sel l hl).sep, fun k hk => zB_none hk⟩
theorem Sp.out0 (h : Sp X w0 z w rs) : In (zB w (FF [])) w [] := In.nil (zB_sub _ _)
theorem Sp.zl (h : Sp X w0 z w rs) (l : List Nat) : zle z (zB w (FF (pick rs l))) := fun b c hb => by
  rw [zB_of (fun ⟨q, hq, hk⟩ => by obtain ⟨i, _, hi⟩ := pick_mem hq; rw [h.zn (nth_mem hi) hk] at hb; cases hb)]
  exact h.sub b c hb
theorem Sp.zq {q : Z} (h : Sp X w0 z w rs) (l : List Nat) (i : Nat) (hi : nth rs i = some (zR q)) (hl : l.contains i = false) : zle q (zB w (FF (pick rs l))) := fun b c hb => by
  rw [zB_of (fun ⟨p, hp, hk⟩ => by
    obtain ⟨j, hj, hpj⟩ := pick_mem hp
    have hne : i ≠ j := fun e => by subst e; simp at hl; exact hl hj
    exact nth_ap h.sep hi hpj hne b (show q b ≠ none by rw [hb]; simp) hk)]
  exact (h.at_ i hi : (zR q).P w).1 b c hb
theorem Own.rd {α : Type} {d : Kd α} {e : TypeId} {B : Nat} {q z : Z} {w : World} {A : Option Addr} {c : Nat} {xs : List α} (h : Own d e B q w A c xs) (hq : zle q z) (hb : ∀ k ∈ blk A, z k = cellsAt w k) : Rd d z A xs := fun i x hx => by
  obtain ⟨inner, ⟨h1, h2⟩, h3⟩ := h
  obtain ⟨cs, h4, h5⟩ := h3.get hx
  have hlt : i < xs.length := (List.getElem?_eq_some_iff.1 hx).1
  rcases h2 with ⟨he, hn⟩ | ⟨g, cap, cur, he, hg, hh, hcap, hmax, hsz, htk⟩
  · omega
  · injection he with h6 h7 h8
    subst h6
    refine ⟨_, cs, rfl, d.mono hq h4, fun j u hu => ?_⟩
    have h9 := h5 j u hu
    have hz' : z g = some cur := by rw [hb g (by simp [blk])]; simp [cellsAt, hh]
    have hget : cur[i * d.sz + j]? = some u := by
      rw [← htk, List.getElem?_take] at h9
      split at h9
      · simpa using h9
      · cases h9
    rw [add_at]
    unfold cz
    simp [hz', hget]
theorem Sp.ow {α : Type} {d : Kd α} {e : TypeId} {q : Z} {A : Option Addr} {c : Nat} {xs : List α} (h : Sp X w0 z w rs) (l : List Nat) (i : Nat) (hi : nth rs i = some (oR d e q A c xs)) (hl : l.contains i = false) (hq : zle q (zB w (FF (pick rs l)))) : Rd d (zB w (FF (pick rs l))) A xs :=
  (h.at_ i hi : Own d e 0 q w A c xs).rd hq fun k hk => zB_of fun ⟨p, hp, hpk⟩ => by
    obtain ⟨j, hj, hpj⟩ := pick_mem hp
    have hne : i ≠ j := fun e => by subst e; simp at hl; exact hl hj
    exact nth_ap h.sep hi hpj hne k hk hpk
end
end Go.Proofs.YtaljccgfnmfhnaaGreatDoorG
set_option linter.all false
namespace Go.Proofs.YtaljccgfnmfhnaaGreatDoorG
open Go Go.RowKit
theorem rest_mem {q : Res} {l : List Nat} : ∀ {rs : List Res} {n : Nat}, q ∈ rest rs n l → ∃ k, nth rs k = some q ∧ l.contains (n + k) = false
  | [], _, h => by cases h
  | r :: rs, n, h => by
    unfold rest at h
    cases hb : l.contains n with
    | true =>
      rw [hb] at h
      obtain ⟨k, h1, h2⟩ := rest_mem (rs := rs) h
      exact ⟨k + 1, h1, by rw [show n + (k + 1) = n + 1 + k from by omega]; exact h2⟩
    | false =>
      rw [hb] at h
      rcases List.mem_cons.1 h with rfl | h
      · exact ⟨0, rfl, by simpa using hb⟩
      · obtain ⟨k, h1, h2⟩ := rest_mem (rs := rs) h
        exact ⟨k + 1, h1, by rw [show n + (k + 1) = n + 1 + k from by omega]; exact h2⟩
theorem rest_sub {q : Res} {l : List Nat} {rs : List Res} {n : Nat} (h : q ∈ rest rs n l) : q ∈ rs := by
  obtain ⟨k, hk, _⟩ := rest_mem h
  exact nth_mem hk
theorem sep_rest {l : List Nat} : ∀ {rs : List Res} {n : Nat}, rs.Pairwise Ap → (rest rs n l).Pairwise Ap
  | [], _, h => h
  | r :: rs, n, h => by
    obtain ⟨h1, h2⟩ := List.pairwise_cons.1 h
    unfold rest
    cases l.contains n with
    | true => exact sep_rest h2
    | false => exact List.pairwise_cons.2 ⟨fun q hq => h1 q (rest_sub hq), sep_rest h2⟩
theorem ap_rest {rs : List Res} {i : Nat} {l : List Nat} {r q : Res} (hs : rs.Pairwise Ap) (hi : nth rs i = some r) (hil : l.contains i = true) (hq : q ∈ rest rs 0 l) : Ap r q := by
  obtain ⟨k, h1, h2⟩ := rest_mem hq
  exact nth_ap hs hi h1 (fun e => by subst e; rw [Nat.zero_add] at h2; rw [h2] at hil; cases hil)
section
variable {X : Nat → Prop} {w0 w w' : World} {z : Z} {rs out : List Res} {r r1 r2 r' : Res} {i j : Nat}
theorem Sp.call (h : Sp X w0 z w rs) (l : List Nat) (hl : l.Nodup) (hc : Sp (FF (pick rs l)) w (zB w (FF (pick rs l))) w' out) : Sp X w0 z w' (out ++ rest rs 0 l) := by
  have hX : ∀ k, FF (pick rs l) k → X k ∨ w0.heap.size ≤ k := fun k ⟨q, hq, hk⟩ => by
    obtain ⟨i, _, hi⟩ := pick_mem hq
    exact h.new q (nth_mem hi) k hk
  have hap : ∀ q ∈ rest rs 0 l, ∀ k, q.F k → ¬ FF (pick rs l) k := fun q hq k hk ⟨p, hp, hpk⟩ => by
    obtain ⟨i, hil, hi⟩ := pick_mem hp
    exact ap_rest h.sep hi (List.contains_iff_mem.2 hil) hq k hpk hk
  refine ⟨h.z0, h.dz, h.chg.trans hc.chg hX, fun q hq => ?_, fun q hq k hk => ?_, ?_⟩
  · rcases List.mem_append.1 hq with hq | hq
    · exact hc.all q hq
    · exact q.st (h.all q (rest_sub hq)) fun k hlt hk => hc.chg.block k hlt (hap q hq k hk)
  · rcases List.mem_append.1 hq with hq | hq
    · rcases hc.new q hq k hk with h1 | h1
      · exact hX k h1
      · exact .inr (Nat.le_trans h.chg.size h1)
    · exact h.new q (rest_sub hq) k hk
  · refine List.pairwise_append.2 ⟨hc.sep, sep_rest h.sep, fun p hp q hq k hpk hqk => ?_⟩
    rcases hc.new p hp k hpk with h1 | h1
    · exact hap q hq k hqk h1
    · have := q.lt (h.all q (rest_sub hq)) hqk
      omega
theorem rest_nil : ∀ {rs : List Res} {n : Nat}, rest rs n [] = rs
  | [], _ => rfl
  | r :: rs, n => by unfold rest; simp [rest_nil]
theorem Sp.call0 (h : Sp X w0 z w rs) (hc : Sp (FF []) w (zB w (FF [])) w' out) : Sp X w0 z w' (out ++ rs) := by
  have := h.call [] List.nodup_nil hc
  rwa [rest_nil] at this
theorem Sp.join (h : Sp X w0 z w rs) (i j : Nat) (hi : nth rs i = some r1) (hj : nth rs j = some r2) (hP : r'.P w) (hF : ∀ k, r'.F k → r1.F k ∨ r2.F k) : Sp X w0 z w (r' :: rest rs 0 [i, j]) := by
  refine ⟨h.z0, h.dz, h.chg, fun q hq => ?_, fun q hq k hk => ?_, List.pairwise_cons.2 ⟨fun q hq k hk hqk => ?_, sep_rest h.sep⟩⟩
  · rcases List.mem_cons.1 hq with rfl | hq
    · exact hP
    · exact h.all q (rest_sub hq)
  · rcases List.mem_cons.1 hq with rfl | hq
    · rcases hF k hk with h1 | h1
      · exact h.new r1 (nth_mem hi) k h1
      · exact h.new r2 (nth_mem hj) k h1
    · exact h.new q (rest_sub hq) k hk
  · rcases hF k hk with h1 | h1
    · exact ap_rest h.sep hi (by simp) hq k h1 hqk
    · exact ap_rest h.sep hj (by simp) hq k h1 hqk
theorem zE_none (k : Nat) : ¬ (zR zE).F k := fun h => h rfl
theorem Sp.fam (h : Sp X w0 z w rs) : Sp X w0 z w (zR zE :: rs) := h.cons ⟨Sub.E _, fun b hb => absurd rfl hb⟩ zE_none
theorem Own.wr {α : Type} {d : Kd α} {e : TypeId} {B : Nat} {q : Z} {w : World} {A : Option Addr} {c : Nat} {xs : List α} (h : Own d e B q w A c xs) (b : Nat) (hb : b ∈ blk A) : ∃ c e, w.heap[b]? = some (.cells c e (0, 0)) := by
  obtain ⟨inner, ⟨h1, h2⟩, h3⟩ := h
  rcases h2 with ⟨he, hn⟩ | ⟨g, cap, cur, he, hg, hh, r⟩
  · injection he with h4; subst h4; simp [blk] at hb
  · injection he with h4; subst h4
    have : b = g := by simpa [blk] using hb
    rw [this]
    exact ⟨_, _, hh⟩
theorem Sp.fz {α : Type} {d : Kd α} {e : TypeId} {q q' : Z} {A : Option Addr} {c : Nat} {xs : List α} (h : Sp X w0 z w rs) (i j : Nat) (hi : nth rs i = some (oR d e q A c xs)) (hj : nth rs j = some (zR q')) (hij : i ≠ j) (hq : zle q q') :
    ∃ q'', zle q' q'' ∧ Rd d q'' A xs ∧ Sp X w0 z w (zR q'' :: rest rs 0 [i, j]) := by
  have hO : Own d e 0 q w A c xs := h.at_ i hi
  have hZ : Sub q' w := (h.at_ j hj : (zR q').P w).1
  have hW : Wr q' w := (h.at_ j hj : (zR q').P w).2
  have hn : ∀ k ∈ blk A, q' k = none := fun k hk => by
    have := nth_ap h.sep hi hj hij k hk
    simpa [zR] using this
  obtain ⟨h1, h2, h3⟩ := (hO.mono hq).lend hZ hn
  refine ⟨_, h2, h3, h.join i j hi hj ⟨h1, fun b hb => ?_⟩ fun k hk => ?_⟩
  · by_cases hbq : q' b = none
    · have h4 : zAt w A b ≠ none := by simpa [zor, hbq] using hb
      have h5 : b ∈ blk A := by
        unfold zAt at h4
        split at h4
        · assumption
        · exact absurd rfl h4
      exact hO.wr b h5
    · exact hW b hbq
  by_cases hb : k ∈ blk A
  · exact .inl hb
  · right
    have : zor q' (zAt w A) k = q' k := by simp [zor, zAt, hb]
    intro hh
    exact hk (this.trans hh)
theorem Sp.lift {α : Type} {d : Kd α} {e : TypeId} {q q' : Z} {A : Option Addr} {c : Nat} {xs : List α} (h : Sp X w0 z w rs) (i : Nat) (hi : nth rs i = some (oR d e q A c xs)) (hq : zle q q') : Sp X w0 z w (upd rs i (oR d e q' A c xs)) :=
  h.as i hi (fun h => Own.mono h hq) (fun _ h => h)
theorem Sp.fin (h : Sp X w0 z w rs) (l : List Nat) (hl : l.Nodup) (hp : pick rs l = out) : Sp X w0 z w out := hp ▸ h.sel l hl
end
section
variable {α : Type} {d : Kd α} {e : TypeId} {B : Nat} {q : Z} {w : World} {A : Option Addr} {c : Nat} {xs : List α}
theorem Own.el (h : Own d e B q w A c xs) (df : α) {i : Int} (h0 : 0 ≤ i) (h1 : i < xs.length) :
    ∃ a cs, A = some a ∧ d.K q (xs.getD i.toNat df) cs ∧ ∀ j u, cs[j]? = some u → w.cell? (a.add (i.toNat * d.sz + j)) = some u := by
  have hi : i.toNat < xs.length := by omega
  have hx : xs[i.toNat]? = some (xs.getD i.toNat df) := by simp [List.getD, List.getElem?_eq_getElem hi]
  obtain ⟨inner, ⟨h2, h3⟩, h4⟩ := h
  obtain ⟨cs, h5, h6⟩ := h4.get hx
  rcases h3 with ⟨he, hn⟩ | ⟨g, cap, cur, he, hg, hh, hcap, hmax, hsz, htk⟩
  · omega
  · injection he with h7
    subst h7
    refine ⟨_, cs, rfl, h5, fun j u hu => ?_⟩
    have h9 := h6 j u hu
    rw [← htk, List.getElem?_take] at h9
    split at h9
    · rw [add_at]
      exact cell_of rfl (c := cur) (by simp [cellsAt, hh]) (by simpa using h9)
    · cases h9
theorem Own.ix (h : Own d e B q w A c xs) (df : α) {i : Int} (h0 : 0 ≤ i) (h1 : i < xs.length) : ∃ a, A = some a ∧ xs[i.toNat]? = some (xs.getD i.toNat df) := by
  obtain ⟨a, _, h2, _⟩ := h.el df h0 h1
  have hi : i.toNat < xs.length := by omega
  exact ⟨a, h2, by simp [List.getD, List.getElem?_eq_getElem hi]⟩
theorem Own.cellAt {a : Addr} {i : Nat} {x : α} {es : List Value} (h : Own d e B q w A c xs) (hA : A = some a) (hx : xs[i]? = some x) (hk : ∀ cs, d.K q x cs → cs = es) (j : Nat) (u : Value) (hu : es[j]? = some u) : w.cell? (a.add (i * d.sz + j)) = some u := by
  have hi : i < xs.length := (List.getElem?_eq_some_iff.1 hx).1
  obtain ⟨a', cs, h2, h3, h4⟩ := h.el x (i := (i : Int)) (by omega) (by omega)
  rw [hA] at h2
  obtain rfl := Option.some.inj h2
  have h5 : xs.getD i x = x := by simp [List.getD, hx]
  simp only [Int.toNat_natCast] at h3 h4
  rw [h5] at h3
  rw [hk cs h3] at h4
  exact h4 j u hu
end
def Src {α : Type} (w : World) (d : Kd α) (q : Z) (A : Option Addr) (c : Nat) (ys : List α) : Prop :=
  (A = none → c = 0) ∧ ∃ news, Reps d q ys news ∧ ∀ j u, news[j]? = some u → ∃ ad, A = some ad ∧ w.cell? (ad.add j) = some u
section
variable {α : Type} {d : Kd α} {e : TypeId} {q q' : Z} {A : Option Addr} {c : Nat} {ys : List α} {X : Nat → Prop} {w0 w : World} {z : Z} {rs : List Res}
theorem Sp.srd (h : Sub z w) (hr : Rd d z A ys) (hc : Cap A ys.length c) (hk : ∀ x cs, d.K z x cs → d.K q x cs) : Src w d q A c ys := by
  obtain ⟨news, h1, h2⟩ := hr.cells h
  exact ⟨hc.nil, news, Reps.to hk h1, h2⟩
theorem Sp.sow (h : Sp X w0 z w rs) (i : Nat) (hi : nth rs i = some (oR d e q' A c ys)) (hk : ∀ x cs, d.K q' x cs → d.K q x cs) : Src w d q A c ys := by
  have hO : Own d e 0 q' w A c ys := h.at_ i hi
  obtain ⟨news, h1, h2⟩ := hO.cells
  exact ⟨hO.cap.nil, news, Reps.to hk h1, h2⟩
end
section
variable {P : Program} {N : Sz} {ops : Array Oper} {Q : Exit → Act → World → Prop} {o : Oper} {f : Fr} {w w0 : World} {k : Value → World → Prop} {X : Nat → Prop} {z : Z} {rs : List Res}
theorem S_box {T : TypeId} {cs : List Value} (hS : Sp X w0 z w rs) (hg : o.guard = none) (hr : Runs P o f w (.pointer (some ⟨w.heap.size, 0, none⟩)) (w.alloc (.cells cs.toArray T)))
    (h : ∀ b w', Sp X w0 z w' (bR b T cs :: rs) → k (.pointer (some ⟨b, 0, none⟩)) w') : Sv P N ops Q o f w k :=
  Sv_box hg hr fun b w' hc hn hB => h b w' (hS.push hc hB fun j hj => by
    have : j = b := hj
    rw [this]; exact hn)
theorem S_row {α : Type} {d : Kd α} {e : TypeId} {q : Z} {cs : List Value} {n : Nat} (hS : Sp X w0 z w rs) (xs : List α) (hg : o.guard = none) (hr : Runs P o f w (.slice (some ⟨w.heap.size, 0, none⟩) n n) (w.alloc (.cells cs.toArray e)))
    (hp : Reps d q xs cs) (hn : xs.length = n) (hm : n ≤ maxLen) (h : ∀ g w', Sp X w0 z w' (oR d e q (some ⟨g, 0, none⟩) n xs :: rs) → k (.slice (some ⟨g, 0, none⟩) xs.length n) w') : Sv P N ops Q o f w k :=
  Sv_row xs hg hr hp hn hm fun g w' hc hg' hO => h g w' (hS.push hc (r' := oR d e q (some ⟨g, 0, none⟩) n xs) (hO.lower (Nat.zero_le _)) fun j hj => by
    have : j = g := by simpa [oR, blk] using hj
    rw [this]; exact hg')
theorem S_store {T T' : TypeId} {x y : Operand} {b j : Nat} {v : Value} {cs : List Value} (hS : Sp X w0 z w rs) (i : Nat) (hi : nth rs i = some (bR b T' cs)) (hg : o.guard = none) (ho : o.op = .store T x y) (hx : ev f x = some (.pointer (some ⟨b, j, none⟩))) (hy : ev f y = some v)
    (hs : ∀ w, (sizeOf T).run P w = .ok v.cells.size w) (h1 : ∀ u ∈ v.cells.toList, u.oneCell' = true) (hl : j + v.cells.size ≤ cs.length)
    (h : ∀ w', Sp X w0 z w' (upd rs i (bR b T' (setFrom cs j v.cells.toList))) → k undef w') : Sv P N ops Q o f w k :=
  Sv_store hg ho hx hy hs h1 (hS.at_ i hi) hl fun w' hc hB => h w' (hS.set i hi (hc.chp.mono fun k hk => .inl (show k = b by simpa using hk)) hB fun k hk => .inl hk)
theorem S_append {α : Type} {d : Kd α} {t e : TypeId} {bytes : Nat} {q : Z} {s x : Operand} {A A2 : Option Addr} {c c2 : Nat} {xs ys : List α} (hS : Sp X w0 z w rs) (i : Nat) (hi : nth rs i = some (oR d e q A c xs)) (hg : o.guard = none)
    (ho : o.op = .call { callee := .builtin .append, args := #[s, x], argTypes := #[t, t] }) (I : ElemInfo P t e d.sz bytes) (hs : ev f s = some (.slice A xs.length c))
    (hx : ev f x = some (.slice A2 ys.length c2)) (hy : Src w d q A2 c2 ys) (hb : (xs.length + ys.length) * bytes ≤ 140737488355328) (hl : xs.length + ys.length ≤ maxLen)
    (h : ∀ A' c' w', Sp X w0 z w' (upd rs i (oR d e q A' c' (xs ++ ys))) → k (.slice A' (xs ++ ys).length c') w') : Sv P N ops Q o f w k := by
  obtain ⟨h1, news, h2, h3⟩ := hy
  refine Sv_append hg ho I hs (hS.at_ i hi) hx h1 h2 h3 hb hl (Nat.zero_le _) fun A' c' w' hO hc hk => h A' c' w' ?_
  exact hS.set i hi hc.chp hO hk
theorem S_appendZ {α : Type} {d : Kd α} {t e : TypeId} {bytes : Nat} {q : Z} {s x : Operand} {A A2 : Option Addr} {c c2 : Nat} {xs ys : List α} {L : List Nat} (hS : Sp X w0 z w rs) (i : Nat) (hi : nth rs i = some (oZ d e q A c xs L)) (hg : o.guard = none)
    (ho : o.op = .call { callee := .builtin .append, args := #[s, x], argTypes := #[t, t] }) (I : ElemInfo P t e d.sz bytes) (hs : ev f s = some (.slice A xs.length c))
    (hx : ev f x = some (.slice A2 ys.length c2)) (hy : Src w d q A2 c2 ys) (hn : 0 < ys.length) (hb : (xs.length + ys.length) * bytes ≤ 140737488355328) (hl : xs.length + ys.length ≤ maxLen)
    (h : ∀ A' c' w', Sp X w0 z w' (upd rs i (oR d e q A' c' (xs ++ ys))) → k (.slice A' (xs ++ ys).length c') w') : Sv P N ops Q o f w k := by
  obtain ⟨h1, news, h2, h3⟩ := hy
  refine Sv_appendZ hg ho I hs (hS.at_ i hi) hx h1 h2 h3 hn hb hl (Nat.zero_le _) fun A' c' w' hO hc hk => h A' c' w' ?_
  exact hS.set i hi hc.chp hO hk
theorem S_append0 {α : Type} {d : Kd α} {t e : TypeId} {bytes : Nat} (q : Z) {s x : Operand} {A A2 : Option Addr} {c2 : Nat} {ys : List α} (hS : Sp X w0 z w rs) (hg : o.guard = none)
    (ho : o.op = .call { callee := .builtin .append, args := #[s, x], argTypes := #[t, t] }) (I : ElemInfo P t e d.sz bytes) (hs : ev f s = some (.slice A 0 0))
    (hx : ev f x = some (.slice A2 ys.length c2)) (hy : Src w d q A2 c2 ys) (hn : 0 < ys.length) (hb : ys.length * bytes ≤ 140737488355328) (hl : ys.length ≤ maxLen)
    (h : ∀ A' c' w', Sp X w0 z w' (oR d e q A' c' ys :: rs) → k (.slice A' ys.length c') w') : Sv P N ops Q o f w k := by
  obtain ⟨h1, news, h2, h3⟩ := hy
  exact Sv_append0 (B := 0) hg ho I hs hx h1 h2 h3 hn hb hl (Nat.zero_le _) fun A' c' w' hO hc hk => h A' c' w' (hS.push hc hO hk)
theorem S_bytestrZ {S T e e' : TypeId} {x : Operand} {A : Option Addr} {c : Nat} {t : St} {L : List Nat} (hS : Sp X w0 z w rs) (i : Nat) (hi : nth rs i = some (oZ (kint .u8) e' zE A c (ub t) L)) (ho : o.op = .convert S T x) (hx : ev f x = some (.slice A (ub t).length c)) (hS' : P.underlying S = some (.slice e)) (he : P.underlying e = some (.int .u8)) (hT : P.underlying T = some .string) : Runs P o f w (vstr t) w :=
  R_bytestrZ ho hx hS' he hT (hS.at_ i hi)
theorem Cap.of {α : Type} {d : Kd α} {e : TypeId} {q : Z} {A : Option Addr} {c : Nat} {xs : List α} (hS : Sp X w0 z w rs) (i : Nat) (hi : nth rs i = some (oR d e q A c xs)) : Cap A xs.length c := (hS.at_ i hi : Own d e 0 q w A c xs).cap
end
structure FV (P : Program) (zc : Z) (g : FuncId) (caps : List Value) {α σ γ : Type} (Arg : Z → α → List Value → Prop) (R : σ → γ → Res) (ok : σ → α → Prop) (step : σ → α → σ) (ret : σ → α → Value) : Prop where
  hf : ∀ args w, (callFunc g args).run P w = .ok (.enter g args) w
  call : ∀ {s y x vs w z}, zle zc z → In z w [R s y] → ok s x → Arg z x vs → Calls P g (vs ++ caps).toArray w fun e w' => e = .returned (ret s x) ∧ ∃ y', Sp (FF [R s y]) w z w' [R (step s x) y']
section
variable {P : Program} {N : Sz} {ops : Array Oper} {Q : Exit → Act → World → Prop} {o : Oper} {f : Fr} {w w0 : World} {k : Value → World → Prop} {X : Nat → Prop} {z zc : Z} {rs : List Res} {g : FuncId} {caps : List Value} {α σ γ : Type} {Arg : Z → α → List Value → Prop} {R : σ → γ → Res} {ok : σ → α → Prop} {step : σ → α → σ} {ret : σ → α → Value}
theorem S_cb (H : FV P zc g caps Arg R ok step ret) (hS : Sp X w0 z w rs) (i : Nat) {s : σ} {y : γ} (hi : nth rs i = some (R s y)) (hz : zle zc z) (x : α) (hok : ok s x) {fx : Operand} {l : List Operand} {ts : Array TypeId} {vs : List Value} (hg : o.guard = none)
    (ho : o.op = .call { callee := .value fx, args := l.toArray, argTypes := ts }) (hxv : ev f fx = some (.func (.func g) #[] caps.toArray)) (hx : evs f l = some vs) (hA : Arg (zB w (FF [R s y])) x vs)
    (hk : ∀ y' w', Sp X w0 z w' (upd rs i (R (step s x) y')) → k (ret s x) w') : Sv P N ops Q o f w k := by
  have hp : pick rs [i] = [R s y] := by simp [pick, hi]
  have h1 := hS.out [i] (by simp)
  have h2 := hS.zl [i]
  rw [hp] at h1 h2
  refine Sv_of_wp hg (by simp [ho]) (wp_callv ho hxv hx H.hf ((H.call (hz.trans h2) h1 hok hA).mono ?_))
  rintro e w' ⟨rfl, y', h3⟩
  refine ⟨_, rfl, hk y' w' (hS.set i hi (h3.chg.mono fun j hj => .inl ?_) (h3.at_ 0 rfl) fun j hj => ?_)⟩
  · obtain ⟨q, hq, hqj⟩ := hj
    rw [List.mem_singleton.1 hq] at hqj
    exact hqj
  · rcases h3.new (R (step s x) y') List.mem_cons_self j hj with h4 | h4
    · obtain ⟨q, hq, hqj⟩ := h4
      rw [List.mem_singleton.1 hq] at hqj
      exact .inl hqj
    · exact .inr h4
end
end Go.Proofs.YtaljccgfnmfhnaaGreatDoorG
set_option linter.all false
namespace Go.Proofs.YtaljccgfnmfhnaaGreatDoorG
open Go Go.RowKit
section
variable {P : Program} {N : Sz} {fn : Func} {R : Ending → World → Prop} {f : Fr} {w : World}
def rvS (tmps : Array Value) (r : ResultVar) : Sem Value := match r with
  | .tmp t => pure (tmps.getD t undef)
  | .cell ad t => do loadVar t (← asAddr (tmps.getD ad undef))
theorem results_eq (fn : Func) (tmps : Array Value) : results fn tmps = (do
    let vs ← fn.results.mapM (rvS tmps)
    pure (if h : vs.size = 1 then vs[0] else .tuple vs)) := by
  unfold results
  congr 1
def RV (P : Program) (N : Sz) (f : Fr) (w : World) (r : ResultVar) (v : Value) : Prop := ∀ a, Holds N f a → (rvS a.tmps r).run P w = .ok v w
theorem RV_tmp {t : Nat} {v : Value} (h : look f t = some v) : RV P N f w (.tmp t) v := fun a ha => by
  have := ha.at_ t v h
  simp [rvS, this]
theorem RV_cell {t : Nat} {T : TypeId} {ad : Addr} {v : Value} (h : look f t = some (.pointer (some ad))) (hag : ∀ w, (isAgg T).run P w = .ok false w) (hc : w.cell? ad = some v) : RV P N f w (.cell t T) v := fun a ha => by
  have := ha.at_ t _ h
  simp [rvS, this, asAddr, loadVar, hag, hc]
theorem RV_cellN {t : Nat} {T : TypeId} {ad : Addr} {n : Nat} {cs : List Value} (h : look f t = some (.pointer (some ad))) (hag : ∀ w, (isAgg T).run P w = .ok true w) (hs : ∀ w, (sizeOf T).run P w = .ok n w) (hn : cs.length = n) (hc : ∀ j u, cs[j]? = some u → w.cell? (ad.add j) = some u) : RV P N f w (.cell t T) (.agg cs.toArray) := fun a ha => by
  subst hn
  have h1 := ha.at_ t _ h
  have h2 := run_loadCells (P := P) (w := w) (a := ad) cs 0 #[] (fun j u hu => by rw [Nat.zero_add]; exact hc j u hu)
  simp [rvS, h1, asAddr, loadVar, hag, hs, loadCells, h2]
theorem E_rv1 {n : Nat} {r : ResultVar} {v : Value} (hr : fn.results = #[r]) (h1 : RV P ⟨n, [], none⟩ f w r v) (h : R (.returned v) w) : E ⟨n, [], none⟩ (bodyP P fn R) .ret f w := fun a ha => by
  show LeavesInM Fence.wide 0 P fn a.tmps R a.defers .returning w
  rw [ha.noms]
  refine ⟨v, ?_, h⟩
  have h1' := h1 a ha
  rw [results_eq]
  simp [hr, h1']
theorem E_rv2 {n : Nat} {r1 r2 : ResultVar} {v1 v2 : Value} (hr : fn.results = #[r1, r2]) (h1 : RV P ⟨n, [], none⟩ f w r1 v1) (h2 : RV P ⟨n, [], none⟩ f w r2 v2) (h : R (.returned (.tuple #[v1, v2])) w) : E ⟨n, [], none⟩ (bodyP P fn R) .ret f w := fun a ha => by
  show LeavesInM Fence.wide 0 P fn a.tmps R a.defers .returning w
  rw [ha.noms]
  refine ⟨_, ?_, h⟩
  have h1' := h1 a ha
  have h2' := h2 a ha
  rw [results_eq]
  simp [hr, h1', h2']
theorem E_rv3 {n : Nat} {r1 r2 r3 : ResultVar} {v1 v2 v3 : Value} (hr : fn.results = #[r1, r2, r3]) (h1 : RV P ⟨n, [], none⟩ f w r1 v1) (h2 : RV P ⟨n, [], none⟩ f w r2 v2) (h3 : RV P ⟨n, [], none⟩ f w r3 v3) (h : R (.returned (.tuple #[v1, v2, v3])) w) : E ⟨n, [], none⟩ (bodyP P fn R) .ret f w := fun a ha => by
  show LeavesInM Fence.wide 0 P fn a.tmps R a.defers .returning w
  rw [ha.noms]
  refine ⟨_, ?_, h⟩
  have h1' := h1 a ha
  have h2' := h2 a ha
  have h3' := h3 a ha
  rw [results_eq]
  simp [hr, h1', h2', h3']
end
theorem R_makeFunc {P : Program} {o : Oper} {f : Fr} {w : World} {g : Nat} {l : List Operand} {vs : List Value} (ho : o.op = .makeFunc (.func g) #[] l.toArray) (hx : evs f l = some vs) : Runs P o f w (.func (.func g) #[] vs.toArray) w := fun e he => by
  have h1 : l.map e = vs := he.evs_ hx
  simp [execOp, ho, h1, Instr.makeFunc]
theorem Lret0 : Ending.returned (.tuple #[]) = .returned (.tuple #[]) := rfl
theorem Lret3 {v u x y s t : Value} (h : v = u) (k : x = y) (l : s = t) : Ending.returned (.tuple #[v, x, s]) = .returned (.tuple #[u, y, t]) := by rw [h, k, l]
section
variable {X : Nat → Prop} {w0 w : World} {z : Z} {rs : List Res}
theorem Sp.re {α : Type} {d : Kd α} {e : TypeId} {q : Z} {A : Option Addr} {c : Nat} {xs ys : List α} (h : Sp X w0 z w rs) (i : Nat) (hi : nth rs i = some (oR d e q A c xs)) (hx : xs = ys) : Sp X w0 z w (upd rs i (oR d e q A c ys)) :=
  h.as i hi (fun h => hx ▸ h) (fun _ h => h)
theorem Sp.nilrow {α : Type} (h : Sp X w0 z w rs) (d : Kd α) (e : TypeId) (q : Z) : Sp X w0 z w (oR d e q none 0 ([] : List α) :: rs) := h.cons (Own.nil d e 0 q w) (fun k hk => by simp [oR, blk] at hk)
theorem Sp.famx (h : Sp X w0 z w rs) : ∃ q, Sp X w0 z w (zR q :: rs) := ⟨_, h.fam⟩
theorem Sp.reZ {α : Type} {d : Kd α} {e : TypeId} {q : Z} {A : Option Addr} {c : Nat} {xs ys : List α} {L : List Nat} (h : Sp X w0 z w rs) (i : Nat) (hi : nth rs i = some (oZ d e q A c xs L)) (hx : xs = ys) : Sp X w0 z w (upd rs i (oZ d e q A c ys L)) :=
  h.as i hi (fun h => hx ▸ h) (fun _ h => h)
theorem Sp.zrow {α : Type} (h : Sp X w0 z w rs) (d : Kd α) (e : TypeId) (A : Option Addr) : Sp X w0 z w (oZ d e zE A 0 ([] : List α) [] :: rs) := h.cons (OwnZ.zero d e 0 zE w A) (fun k hk => by cases hk)
theorem Sp.toZ {α : Type} {d : Kd α} {e : TypeId} {A : Option Addr} {c : Nat} {xs : List α} (h : Sp X w0 z w rs) (i : Nat) (hi : nth rs i = some (oR d e zE A c xs)) : Sp X w0 z w (upd rs i (oZ d e zE A c xs (blk A))) := h.as i hi (fun h => .inl ⟨rfl, h⟩) (fun _ h => h)
theorem Sp.cbr {σ γ : Type} (R : σ → γ → Res) {s s' : σ} {y : γ} (h : Sp X w0 z w rs) (i : Nat) (hi : nth rs i = some (R s y)) (hs : s = s') : Sp X w0 z w (upd rs i (R s' y)) := h.as i hi (fun h => hs ▸ h) (fun _ h => hs ▸ h)
theorem Sp.bx {b : Nat} {T : TypeId} {cs : List Value} (h : Sp X w0 z w rs) (i : Nat) (hi : nth rs i = some (bR b T cs)) : Box w b T cs := h.at_ i hi
theorem Sp.rw {α : Type} {d : Kd α} {e : TypeId} {q : Z} {A : Option Addr} {c : Nat} {xs : List α} (h : Sp X w0 z w rs) (i : Nat) (hi : nth rs i = some (oR d e q A c xs)) : Own d e 0 q w A c xs := h.at_ i hi
theorem Sp.zs {q : Z} (h : Sp X w0 z w rs) (i : Nat) (hi : nth rs i = some (zR q)) : Sub q w := (h.at_ i hi : (zR q).P w).1
theorem Sp.cap {α : Type} {d : Kd α} {e : TypeId} {q : Z} {A : Option Addr} {c : Nat} {xs : List α} (h : Sp X w0 z w rs) (i : Nat) (hi : nth rs i = some (oR d e q A c xs)) : Cap A xs.length c := (h.rw i hi).cap
theorem Sp.lez {α : Type} {d : Kd α} {e : TypeId} {q : Z} {A : Option Addr} {c : Nat} {xs : List α} {L : List Nat} (h : Sp X w0 z w rs) (i : Nat) (hi : nth rs i = some (oZ d e q A c xs L)) : xs.length ≤ c ∧ c ≤ 9223372036854775807 := ⟨(h.at_ i hi : OwnZ d e 0 q w A c xs L).le, (h.at_ i hi : OwnZ d e 0 q w A c xs L).mx⟩
def allR (l : List Res) : Res where
  F := FF l
  P := fun w => (∀ r ∈ l, r.P w) ∧ l.Pairwise Ap
  st := fun {w w'} h hc => ⟨fun r hr => r.st (h.1 r hr) fun k hlt hk => hc k hlt ⟨r, hr, hk⟩, h.2⟩
  lt := fun {w k} h ⟨r, hr, hk⟩ => r.lt (h.1 r hr) hk
theorem FF_all {l : List Res} {k : Nat} : FF [allR l] k ↔ FF l k := ⟨fun ⟨r, hr, hk⟩ => by rw [List.mem_singleton.1 hr] at hk; exact hk, fun h => ⟨allR l, List.mem_cons_self, h⟩⟩
theorem FF_all' {l : List Res} : FF [allR l] = FF l := funext fun k => propext FF_all
theorem Sp.bun (h : Sp X w0 z w rs) (l : List Nat) (hl : l.Nodup) : Sp X w0 z w (allR (pick rs l) :: rest rs 0 l) := by
  refine ⟨h.z0, h.dz, h.chg, fun q hq => ?_, fun q hq k hk => ?_, List.pairwise_cons.2 ⟨fun q hq k hk hqk => ?_, sep_rest h.sep⟩⟩
  · rcases List.mem_cons.1 hq with rfl | hq
    · exact ⟨(h.sel l hl).all, (h.sel l hl).sep⟩
    · exact h.all q (rest_sub hq)
  · rcases List.mem_cons.1 hq with rfl | hq
    · obtain ⟨r, hr, hk⟩ := hk
      exact (h.sel l hl).new r hr k hk
    · exact h.new q (rest_sub hq) k hk
  · obtain ⟨r, hr, hk⟩ := hk
    obtain ⟨i, hil, hi⟩ := pick_mem hr
    exact ap_rest h.sep hi (List.contains_iff_mem.2 hil) hq k hk hqk
theorem Sp.unb {l : List Res} (h : Sp X w0 z w (allR l :: rs)) : Sp X w0 z w (l ++ rs) := by
  have h1 : (allR l).P w := h.all _ List.mem_cons_self
  obtain ⟨h2, h3⟩ := List.pairwise_cons.1 h.sep
  refine ⟨h.z0, h.dz, h.chg, fun q hq => ?_, fun q hq k hk => ?_, List.pairwise_append.2 ⟨h1.2, h3, fun r hr q hq k hk hqk => h2 q hq k ⟨r, hr, hk⟩ hqk⟩⟩
  · rcases List.mem_append.1 hq with hq | hq
    · exact h1.1 q hq
    · exact h.all q (List.mem_cons_of_mem _ hq)
  · rcases List.mem_append.1 hq with hq | hq
    · exact h.new _ List.mem_cons_self k ⟨q, hq, hk⟩
    · exact h.new q (List.mem_cons_of_mem _ hq) k hk
theorem In.unb {l : List Res} (h : In z w [allR l]) : In z w l := by
  have h1 : (allR l).P w := h.all _ List.mem_cons_self
  exact ⟨h.sub, h1.1, h1.2, fun k hk => h.dz k (FF_all.2 hk)⟩
theorem Sp.bun1 {l out : List Res} (h : Sp (FF l) w0 z w out) : Sp (FF [allR l]) w0 z w [allR out] := by
  rw [FF_all']
  refine ⟨h.z0, h.dz, h.chg, fun q hq => ?_, fun q hq k hk => ?_, List.pairwise_singleton _ _⟩
  · rw [List.mem_singleton.1 hq]; exact ⟨h.all, h.sep⟩
  · rw [List.mem_singleton.1 hq] at hk
    obtain ⟨r, hr, hk⟩ := hk
    exact h.new r hr k hk
end
theorem take_more {α : Type} {a b : List α} {i : Nat} {d : α} (ha : i < a.length) (hb : i < b.length) (h : a.take i = b.take i) (hx : a.getD i d = b.getD i d) : a.take (i + 1) = b.take (i + 1) := by
  rw [List.take_succ_eq_append_getElem ha, List.take_succ_eq_append_getElem hb, h]
  simp only [List.getD, List.getElem?_eq_getElem ha, List.getElem?_eq_getElem hb, Option.getD_some] at hx
  rw [hx]
theorem take_all {α : Type} {a b : List α} {i : Nat} (ha : a.length ≤ i) (hl : a.length = b.length) (h : a.take i = b.take i) : a = b := by
  rwa [List.take_of_length_le ha, List.take_of_length_le (by omega)] at h
end Go.Proofs.YtaljccgfnmfhnaaGreatDoorG
set_option linter.all false
namespace Go.Proofs.YtaljccgfnmfhnaaGreatDoorG
open Go Go.RowKit
section
variable {P : Program} {N : Sz} {ops : Array Oper} {Q : Exit → Act → World → Prop} {o : Oper} {f : Fr} {w w0 : World} {k : Value → World → Prop} {X : Nat → Prop} {z : Z} {rs : List Res}
theorem Rd.take {α : Type} {d : Kd α} {z : Z} {A : Option Addr} {xs : List α} (h : Rd d z A xs) (n : Nat) : Rd d z A (xs.take n) := fun i x hx => by
  rw [List.getElem?_take] at hx
  split at hx
  · exact h i x hx
  · cases hx
theorem Cap.take {α : Type} {A : Option Addr} {c : Nat} {xs : List α} (h : Cap A xs.length c) (n : Nat) : Cap A (xs.take n).length c := ⟨Nat.le_trans (by rw [List.length_take]; omega) h.le, h.nil, h.mx⟩
theorem R_cuth {α : Type} {T : TypeId} {x hi : Operand} {A : Option Addr} {c sz : Nat} {xs : List α} {j : Int} (ho : o.op = .slice T x none (some hi) none) (hx : ev f x = some (.slice A xs.length c)) (hh : ev f hi = some (.int .i64 j))
    (hT : P.underlying T = some (.slice (P.elem T))) (hs : (sizeOf (P.elem T)).run P w = .ok sz w) (hc : Cap A xs.length c) (h0 : 0 ≤ j) (h1 : j ≤ xs.length) : Runs P o f w (.slice A (xs.take j.toNat).length c) w := fun e he => by
  have h2 := hc.le
  have h3 := run_slice_h (P := P) (w := w) T A xs.length c hT .i64 j h0 (by omega)
  have h4 : (xs.take j.toNat).length = j.toNat := by rw [List.length_take]; omega
  simp [execOp, ho, he x _ hx, he hi _ hh, run_sliceAt_slice, hT, h3, hs, sliced]
  constructor
  · cases A <;> simp [Addr.add]
  · omega
theorem R_cutnil {T : TypeId} {x hi : Operand} {sz : Nat} (ho : o.op = .slice T x none (some hi) none) (hx : ev f x = some (.slice none 0 0)) (hh : ev f hi = some (.int .i64 0))
    (hT : P.underlying T = some (.slice (P.elem T))) (hs : (sizeOf (P.elem T)).run P w = .ok sz w) : Runs P o f w (.slice none 0 0) w := fun e he => by
  have h3 := run_slice_h (P := P) (w := w) T none 0 0 hT .i64 0 (by omega) (by omega)
  simp [execOp, ho, he x _ hx, he hi _ hh, run_sliceAt_slice, hT, h3, hs, sliced]
theorem R_cut0 {T : TypeId} {x hi : Operand} {g n c sz : Nat} (ho : o.op = .slice T x none (some hi) none) (hx : ev f x = some (.slice (some ⟨g, 0, none⟩) n c)) (hh : ev f hi = some (.int .i64 0))
    (hT : P.underlying T = some (.slice (P.elem T))) (hs : (sizeOf (P.elem T)).run P w = .ok sz w) : Runs P o f w (.slice (some ⟨g, 0, none⟩) 0 c) w := fun e he => by
  have h3 := run_slice_h (P := P) (w := w) T (some ⟨g, 0, none⟩) n c hT .i64 0 (by omega) (by omega)
  simp [execOp, ho, he x _ hx, he hi _ hh, run_sliceAt_slice, hT, h3, hs, sliced, Addr.add]
theorem R_cap {T : TypeId} {x : Operand} {A : Option Addr} {n c : Nat} (ho : o.op = .call { callee := .builtin .cap, args := #[x], argTypes := #[T] }) (hx : evs f [x] = some [.slice A n c]) (hT : P.underlying T = some (.slice (P.elem T))) : Runs P o f w (.int .i64 (c : Int)) w :=
  R_builtin (l := [x]) ho hx (by
    have := run_cap_slice (P := P) (w := w) T o.type A n c hT
    simp [builtin, this, goInt])
theorem R_iface {T : TypeId} {x : Operand} {v : Value} (ho : o.op = .makeInterface T x) (hx : ev f x = some v) (hT : P.concrete T = true) : Runs P o f w (.iface T v) w := fun e he => by
  simp [execOp, ho, he x _ hx, run_makeInterface w T v hT]
theorem S_grow {α : Type} {d : Kd α} {t u e : TypeId} {bytes : Nat} (q : Z) {s x : Operand} {j : Int} {r : IntKind} (hS : Sp X w0 z w rs) (hg : o.guard = none)
    (ho : o.op = .call { callee := .builtin .append, args := #[s, x], argTypes := #[t, u] }) (I : ElemInfo P t e d.sz bytes) (hu : P.underlying u = some (.int r)) (hs : ev f s = some (.slice none 0 0))
    (hx : ev f x = some (.int .i64 j)) (h0 : 0 < j) (hb : j.toNat * bytes ≤ 140737488355328) (hl : j.toNat ≤ maxLen)
    (h : ∀ g c w', Sp X w0 z w' (oR d e q (some ⟨g, 0, none⟩) c ([] : List α) :: rs) → k (.slice (some ⟨g, 0, none⟩) j.toNat c) w') : Sv P N ops Q o f w k := by
  obtain ⟨i, zv, h1, h2, h3, h4, h5⟩ := I.hi
  have hp := I.pos
  have hj : j ≤ 9223372036854775807 := by simp only [maxLen] at hl; omega
  have hw : IntKind.i64.wrap j = j := wrap_id (by omega) hj
  have hn : ¬ (j.toNat * i.size = 0) := by
    intro h
    rcases Nat.mul_eq_zero.1 h with h | h
    · omega
    · omega
  have hn0 : ¬ (j.toNat = 0) := by omega
  have h48' : ¬ (281474976710656 < Builtin.nextslicecap j.toNat 0 * i.bytes) := by rw [nextslicecap_zero (by omega), h4]; omega
  have h48 : ¬ (281474976710656 < j * (i.bytes : Int)) := by
    rw [h4]
    have : ((j.toNat * bytes : Nat) : Int) = j * bytes := by rw [Int.natCast_mul, Int.toNat_of_nonneg (by omega)]
    omega
  have h63' : ¬ (9223372036854775807 < (j.toNat : Int)) := by omega
  have h63'' : ¬ (9223372036854775807 < j) := by omega
  have hneg : ¬ (j < 0) := by omega
  have hle0 : ¬ (j ≤ 0) := by omega
  have hmax : max j 0 = j := by omega
  have hrun : (Builtin.append_ #[t, u] o.type #[.slice none 0 0, .int .i64 j]).run P w = .ok (.slice (some ⟨w.heap.size, 0, none⟩) j.toNat (grownCap w j.toNat 0 e)) (w.drew.alloc (.cells (Builtin.zeroCells zv.cells j.toNat ++ Builtin.zeroCells zv.cells (grownCap w j.toNat 0 e - j.toNat)) e)) := by
    simp [Builtin.append_, run_underlying I.ht, run_underlying hu, sizeOf, typeInfo, zeroValue, h1, h2, hw, asInt, asIntOf, hneg, hle0, hmax, h63'', h48, hn, hn0, h63', h63'', h48', Question.forced, run_firstCells_none, newRow, grownCap]
  refine Sv_of_wp hg (by simp [ho]) fun a ha => ?_
  unfold Oper.wp execOp
  simp only [ho, resolve, invoke, builtin, Sem.run_bind, Sem.run_pure, Result.andThen_ok, List.map_toArray, List.map_cons, List.map_nil, ha.agree s _ hs, ha.agree x _ hx, hrun]
  have hc : Chg [] w (w.drew.alloc (.cells (Builtin.zeroCells zv.cells j.toNat ++ Builtin.zeroCells zv.cells (grownCap w j.toNat 0 e - j.toNat)) e)) := by
    have h6 : Chg [] w w.drew := Chg.drew w
    exact h6.then (Chg.alloc _ _) (by simp)
  have hge := grownCap_ge w j.toNat 0 e
  refine ⟨_, rfl, h w.heap.size (grownCap w j.toNat 0 e) _ (hS.push hc (r' := oR d e q (some ⟨w.heap.size, 0, none⟩) (grownCap w j.toNat 0 e) []) ?_ fun b hb => ?_)⟩
  · refine ⟨[], ⟨by simp, .inr ⟨w.heap.size, grownCap w j.toNat 0 e, _, rfl, Nat.zero_le _, heap_new w.drew _, Nat.zero_le _, grownCap_le_maxLen w _ _ _ hl, ?_, by simp⟩⟩, rfl⟩
    simp only [Array.size_append, size_zeroCells, h5, ← Nat.add_mul]
    congr 1
    omega
  · have : b = w.heap.size := by simpa [oR, blk] using hb
    omega
theorem R_conviw {s d : TypeId} {x : Operand} {a b : Option TypeDesc} {q r : IntKind} {n : Int} (ho : o.op = .convert s d x) (hx : ev f x = some (.int q n)) (hS : P.underlying s = a) (hT : P.underlying d = b) (ha : a.isSome = true := by rfl) (hb : b = some (.int r) := by rfl) : Runs P o f w (.int r (r.wrap n)) w := by
  subst hS
  subst hb
  refine R_conv ho hx ?_
  cases hs : P.underlying s with
  | none => rw [hs] at ha; cases ha
  | some ds => cases ds <;> simp [convert, run_underlying hs, run_underlying hT, Conv.intToInt]
theorem R_cutarr {T : TypeId} {x : Operand} {b n sz : Nat} (ho : o.op = .slice T x none none none) (hx : ev f x = some (.pointer (some ⟨b, 0, none⟩))) (hT : P.underlying T = some (.array (P.arrayLen T) (P.elem T))) (hn : P.arrayLen T = n) (hs : (sizeOf (P.elem T)).run P w = .ok sz w) :
    Runs P o f w (.slice (some ⟨b, 0, none⟩) n n) w := fun e he => by
  subst hn
  have h1 := run_sliceAt_array_all (P := P) w T ⟨b, 0, none⟩ hT
  simp [execOp, ho, he x _ hx, h1, hs, slicedAt, Addr.add]
theorem Sp.brd {α : Type} {d : Kd α} {q : Z} {b : Nat} {T : TypeId} {cs : List Value} {xs : List α} (h : Sp X w0 z w rs) (l : List Nat) (i : Nat) (hi : nth rs i = some (bR b T cs)) (hl : l.contains i = false) (hr : Reps d q xs cs) (hk : ∀ x cs, d.K q x cs → d.K (zB w (FF (pick rs l))) x cs := by exact fun _ _ h => h) : Rd d (zB w (FF (pick rs l))) (some ⟨b, 0, none⟩) xs := fun m x hx => by
  obtain ⟨c, h1, h2⟩ := hr.get hx
  refine ⟨_, c, rfl, hk x c h1, fun j u hu => ?_⟩
  have hb : Box w b T cs := h.bx i hi
  have hz : zB w (FF (pick rs l)) b = cellsAt w b := zB_of fun ⟨p, hp, hpk⟩ => by
    obtain ⟨j, hj, hpj⟩ := pick_mem hp
    have hne : i ≠ j := fun e => by subst e; simp at hl; exact hl hj
    exact nth_ap h.sep hi hpj hne b rfl hpk
  rw [add_at]
  unfold cz
  unfold Box at hb
  simp [hz, cellsAt, hb, h2 j u hu]
end
def Meth (P : Program) (d : Nat) (v : Value) (name : String) (g : FuncId) (r : Value) : Prop :=
  ∃ t u, v = .iface t u ∧ (∀ fuel w, d ≤ fuel → (method (fuel + 1) t u name).run P w = .ok (g, r) w) ∧ ∀ args w, (callFunc g args).run P w = .ok (.enter g args) w
section
variable {P : Program} {N : Sz} {ops : Array Oper} {Q : Exit → Act → World → Prop} {o : Oper} {f : Fr} {w : World} {k : Value → World → Prop}
theorem S_meth {d : Nat} {v r : Value} {name : String} {g : FuncId} {x : Operand} {l : List Operand} {ts : Array TypeId} {vs : List Value} (hm : Meth P d v name g r) (hd : d < P.types.size + Made.depth) (hg : o.guard = none)
    (ho : o.op = .call { callee := .invoke x name, args := l.toArray, argTypes := ts }) (hxv : ev f x = some v) (hx : evs f l = some vs) (h : Calls P g (r :: vs).toArray w fun e w' => ∃ u, e = .returned u ∧ k u w') : Sv P N ops Q o f w k := by
  obtain ⟨t, u, rfl, h1, h2⟩ := hm
  refine Sv_of_wp hg (by simp [ho]) fun a ha => ?_
  have h3 : l.map a.eval = vs := ha.agree.evs_ hx
  have h4 : a.eval x = .iface t u := ha.agree x _ hxv
  have h5 : P.types.size + Made.depth = (P.types.size + Made.depth - 1) + 1 := by omega
  have h6 : (#[Value.iface t u] ++ vs.toArray : Array Value).extract 1 (#[Value.iface t u] ++ vs.toArray : Array Value).size = vs.toArray := by
    simp
  have hrun : (execOp a.eval o).run P w = .ok (.enter g (r :: vs).toArray) w := by
    have hmm := h1 (P.types.size + Made.depth - 1) w (by omega)
    rw [← h5] at hmm
    simp only [execOp, ho, resolve, Sem.run_bind, Sem.run_pure, Result.andThen_ok, List.map_toArray, h3, h4]
    unfold invoke
    simp only [Sem.run_bind, Sem.run_pure, Result.andThen_ok]
    simp [callMethod, hmm, h2]
  unfold Oper.wp
  rw [hrun, Oper.upon_enter]
  refine h.mono fun e w'' hh => ?_
  obtain ⟨u, rfl, hk⟩ := hh
  exact ⟨u, rfl, hk⟩
end
end Go.Proofs.YtaljccgfnmfhnaaGreatDoorG
set_option linter.all false
namespace Go.Proofs.YtaljccgfnmfhnaaGreatDoorG
open Go Go.RowKit
structure Gh where
  a : Nat → Option Addr
  c : Nat → Nat
  q : Nat → Z
  b : Nat → Nat
def gh0 : Gh := ⟨fun _ => none, fun _ => 0, fun _ => zE, fun _ => 0⟩
def catR (R : Nat → Gh → List Res) (g : Nat → Gh) : List Nat → List Res
  | [] => []
  | i :: l => R i (g i) ++ catR R g l
theorem Sp.perm {X : Nat → Prop} {w0 w : World} {z : Z} {rs rs' : List Res} (h : Sp X w0 z w rs) (hp : rs.Perm rs') : Sp X w0 z w rs' :=
  ⟨h.z0, h.dz, h.chg, fun r hr => h.all r (hp.mem_iff.2 hr), fun r hr => h.new r (hp.mem_iff.2 hr), (hp.pairwise_iff (fun {x y} hxy => hxy.symm)).1 h.sep⟩
theorem catR_perm {R : Nat → Gh → List Res} {g : Nat → Gh} {l l' : List Nat} (h : l.Perm l') : (catR R g l).Perm (catR R g l') := by
  induction h with
  | nil => exact List.Perm.refl _
  | cons x _ ih => exact ih.append_left _
  | swap x y l =>
    show (R y (g y) ++ (R x (g x) ++ catR R g l)).Perm (R x (g x) ++ (R y (g y) ++ catR R g l))
    rw [← List.append_assoc, ← List.append_assoc]
    exact (List.perm_append_comm).append_right _
  | trans _ _ h1 h2 => exact h1.trans h2
theorem catR_append {R : Nat → Gh → List Res} {g : Nat → Gh} : ∀ {l l' : List Nat}, catR R g (l ++ l') = catR R g l ++ catR R g l'
  | [], l' => rfl
  | i :: l, l' => by
    show R i (g i) ++ catR R g (l ++ l') = (R i (g i) ++ catR R g l) ++ catR R g l'
    rw [catR_append, List.append_assoc]
theorem catR_congr {R : Nat → Gh → List Res} {g g' : Nat → Gh} : ∀ {l : List Nat}, (∀ i ∈ l, g i = g' i) → catR R g l = catR R g' l
  | [], _ => rfl
  | i :: l, h => by
    show R i (g i) ++ catR R g l = R i (g' i) ++ catR R g' l
    rw [h i List.mem_cons_self, catR_congr fun j hj => h j (List.mem_cons_of_mem _ hj)]
theorem Sp.bunl {X : Nat → Prop} {w0 w : World} {z : Z} {rs fr : List Res} (h : Sp X w0 z w (rs ++ fr)) : Sp X w0 z w (rs ++ [allR fr]) := by
  have h1 := List.pairwise_append.1 h.sep
  refine ⟨h.z0, h.dz, h.chg, fun r hr => ?_, fun r hr k hk => ?_, List.pairwise_append.2 ⟨h1.1, List.pairwise_singleton _ _, fun p hp q hq k hpk hqk => ?_⟩⟩
  · rcases List.mem_append.1 hr with hr | hr
    · exact h.all r (List.mem_append_left _ hr)
    · rw [List.mem_singleton.1 hr]
      exact ⟨fun q hq => h.all q (List.mem_append_right _ hq), h1.2.1⟩
  · rcases List.mem_append.1 hr with hr | hr
    · exact h.new r (List.mem_append_left _ hr) k hk
    · rw [List.mem_singleton.1 hr] at hk
      obtain ⟨q, hq, hqk⟩ := hk
      exact h.new q (List.mem_append_right _ hq) k hqk
  · rw [List.mem_singleton.1 hq] at hqk
    obtain ⟨r, hr, hrk⟩ := hqk
    exact h1.2.2 p hp r hr k hpk hrk
theorem Sp.unbl {X : Nat → Prop} {w0 w : World} {z : Z} {rs fr : List Res} (h : Sp X w0 z w (rs ++ [allR fr])) : Sp X w0 z w (rs ++ fr) := by
  have h1 := h.perm (List.perm_append_comm)
  have h2 : Sp X w0 z w (fr ++ rs) := Sp.unb h1
  exact h2.perm (List.perm_append_comm)
section
variable {P : Program} {N : Sz} {ops : Array Oper} {Q : Exit → Act → World → Prop} {w w0 : World} {X : Nat → Prop} {z : Z} {base : List Res}
def livs (m : Nat) (U : Nat → Nat) (l : Array Bool) : List Nat := (List.range m).filter fun j => l.getD j false && !(decide (U j < m) && l.getD (U j) false)
theorem perm5 {α : Type _} (c1 c2 c3 v1 v2 b : List α) : (c1 ++ (c2 ++ (c3 ++ (v1 ++ (v2 ++ b))))).Perm (v1 ++ (c1 ++ (c2 ++ (b ++ (c3 ++ v2))))) := by
  have h0 : (c3 ++ (v2 ++ b)).Perm (b ++ (c3 ++ v2)) := by
    rw [← List.append_assoc]
    exact List.perm_append_comm
  have h1 : (c3 ++ (v1 ++ (v2 ++ b))).Perm (v1 ++ (b ++ (c3 ++ v2))) := (List.perm_append_comm_assoc c3 v1 _).trans (h0.append_left v1)
  exact (((h1.append_left c2).trans (List.perm_append_comm_assoc c2 v1 _)).append_left c1).trans (List.perm_append_comm_assoc c1 v1 _)
def tkn (ic : Nat) (virt : List Res) (i : Nat) : List Res := bif i == ic then virt else []
def lft (ic : Nat) (virt : List Res) (l : Array Bool) : List Res := bif l.getD ic false then [] else virt
def lftb (ic : Nat) (virt : List Res) (l : Array Bool) (i : Nat) : List Res := bif i == ic then [] else lft ic virt l
theorem lft_split {ic : Nat} {virt : List Res} {l : Array Bool} {i : Nat} (h : l.getD i false = false) : lft ic virt l = tkn ic virt i ++ lftb ic virt l i := by
  unfold tkn lftb
  by_cases hi : i = ic
  · subst hi; simp only [BEq.rfl, cond_true, List.append_nil]; unfold lft; rw [h]; rfl
  · rw [show (i == ic) = false by simpa using hi]; rfl
theorem lft_set {ic : Nat} {virt : List Res} {l : Array Bool} {i : Nat} (h : i < l.size) : lft ic virt (l.setIfInBounds i true) = lftb ic virt l i := by
  unfold lftb
  by_cases hi : i = ic
  · subst hi; simp [lft, h]
  · rw [show (i == ic) = false by simpa using hi]; simp [lft, hi]
set_option maxHeartbeats 1000000 in
def Rgn (P : Program) (N : Sz) (Q : Exit → Act → World → Prop) (ops : Array Oper) (f : Fr) (w : World) : Prop := ∀ a, Holds N f a → wpAnyIn N.F 0 P .any ops Q ops.size (Array.replicate ops.size false) a { w with drawn := w.drawn + 1 }
theorem C_rgn {id : Nat} {f : Fr} (hm : P.follows .mixedOrders = true) (h : Rgn P N Q ops f w) : C P N Q (.region id ops true) f w := fun a ha => wpIn_region_any hm (h a ha)
theorem D_drawS {f : Fr} (ic : Nat) (virt : List Res) (m n : Nat) (d : Nat → Option Nat) (val : Nat → Gh → Value) (R : Nat → Gh → List Res) (U : Nat → Nat) (con len : Nat → List Nat) (hm : P.follows .mixedOrders = true) (hn : ops.size = n) (hB : firstB ops m = true)
    (hd : ∀ i, i < m → (ops[i]?).map (·.dst) = some (d i)) (hdd : ∀ i j s, i < m → j < m → d i = some s → d j = some s → i = j) (hdf : ∀ i s, i < m → d i = some s → look f s = none) (hdN : ∀ i s, i < m → d i = some s → s < N.n)
    (hcon : ∀ i, i < m → ∀ o, ops[i]? = some o → ∀ j ∈ con i, j ∈ needs o ∧ U j = i) (hlen : ∀ i, i < m → ∀ o, ops[i]? = some o → ∀ j ∈ len i, j ∈ needs o ∧ m ≤ U j) (hnd : ∀ i, i < m → (con i ++ len i).Nodup)
    (hU : ∀ i j, i < m → j < m → U j = i → j ∈ con i)
    (hS : Sp X w0 z w (virt ++ base)) (hic : ic < m ∨ virt = [])
    (step : ∀ i, i < m → ∀ o, ops[i]? = some o → ∀ (g : Nat → Gh) w' fr, Sp X w0 z w' (((tkn ic virt i ++ catR R g (con i)) ++ (catR R g (len i) ++ base)) ++ [allR fr]) →
      Sv P N ops Q o (slotsX d (fun j => val j (g j)) (needs o) f) w' (fun v w'' => ∃ γ, v = val i γ ∧ Sp X w0 z w'' ((R i γ ++ (catR R g (len i) ++ base)) ++ [allR fr])))
    (rest : ∀ (g : Nat → Gh) w', Sp X w0 z w' (catR R g ((List.range m).filter fun j => !decide (U j < m)) ++ base) → An P N ops Q (n - m) (doneArr n m) (slotsX d (fun j => val j (g j)) (List.range m) f) w') :
    Rgn P N Q ops f w := by
  subst hn
  intro a ha
  simp only [firstB, Bool.and_eq_true, decide_eq_true_eq, List.all_eq_true] at hB
  obtain ⟨hms, hB⟩ := hB
  have hlow : ∀ j o, ops[j]? = some o → j < m → ∀ i ∈ needs o, i < j := by
    intro j o ho hj i hi
    have h1 := hB j (List.mem_range.2 (Array.getElem?_eq_some_iff.1 ho).1)
    rw [ho] at h1
    simp only [if_pos hj, List.all_eq_true, decide_eq_true_eq] at h1
    exact h1 i hi
  have key : ∀ (c : Nat) (l : Array Bool) (a : Act) (w' : World), l.size = ops.size → (∀ j, m ≤ j → j < ops.size → l.getD j true = false) →
      ((List.range m).filter (fun i => !l.getD i true)).length = c →
      (∀ j o, ops[j]? = some o → j < m → l.getD j false = true → ∀ i ∈ needs o, l.getD i false = true) → Holds N f a →
      (∃ g : Nat → Gh, (∀ i, i < m → l.getD i false = true → ∀ s, d i = some s → a.tmps[s]? = some (val i (g i))) ∧ Sp X w0 z w' (catR R g (livs m U l) ++ (lft ic virt l ++ base))) →
      wpAnyIn N.F 0 P .any ops Q (c + (ops.size - m)) l a w' := by
    intro c
    induction c with
    | zero =>
      rintro l a w' hls hrest hc hcl hh ⟨g, hall, hsp⟩
      have hdone : ∀ i, i < m → l.getD i false = true := by
        intro i hi
        have : i ∉ (List.range m).filter (fun i => !l.getD i true) := by rw [List.eq_nil_of_length_eq_zero hc]; simp
        simp only [List.mem_filter, List.mem_range, Bool.not_eq_true', not_and, Bool.not_eq_false] at this
        have h1 := this hi
        have h2 : i < l.size := by omega
        simp [h2] at h1 ⊢
        exact h1
      have hl : l = doneArr ops.size m := by
        apply Array.ext
        · simp [doneArr, hls]
        · intro i h1 h2
          simp only [doneArr, List.getElem_toArray, List.getElem_map, List.getElem_range]
          by_cases him : i < m
          · have := hdone i him
            simp [h1] at this
            simp [this, him]
          · have := hrest i (by omega) (by omega)
            simp [h1] at this
            simp [this, him]
      have hlv : livs m U l = (List.range m).filter fun j => !decide (U j < m) := by
        unfold livs
        refine List.filter_congr fun j hj => ?_
        rw [hdone j (List.mem_range.1 hj)]
        by_cases hu : U j < m
        · rw [hdone (U j) hu]; simp [hu]
        · simp [hu]
      have hlf : lft ic virt l = [] := by
        rcases hic with h | h
        · unfold lft; rw [hdone ic h]; rfl
        · unfold lft; rw [h]; cases l.getD ic false <;> rfl
      rw [hlv, hlf] at hsp
      rw [Nat.zero_add]
      have := rest g w' hsp a ⟨hh.defers, hh.size, fun s v hs => by
        rcases look_slotsX hs with ⟨i, h1, h2, rfl⟩ | h1
        · exact hall i (List.mem_range.1 h1) (hdone i (List.mem_range.1 h1)) s h2
        · exact hh.at_ s v h1⟩
      rw [hl]
      exact this
    | succ c ih =>
      rintro l a w' hls hrest hc hcl hh ⟨g, hall, hsp⟩
      have hex : ∃ i, i < m ∧ l.getD i true = false := by
        cases hq : (List.range m).filter (fun i => !l.getD i true) with
        | nil => rw [hq] at hc; simp at hc
        | cons i r =>
          have : i ∈ (List.range m).filter (fun i => !l.getD i true) := by rw [hq]; exact List.mem_cons_self
          simp only [List.mem_filter, List.mem_range, Bool.not_eq_true'] at this
          exact ⟨i, this⟩
      have hfin : ∀ i, i < m → l.getD i true = false → l.getD i false = false := by
        intro i hi h
        have h2 : i < l.size := by omega
        simp [h2] at h ⊢
        exact h
      have htf : ∀ i, i < m → l.getD i true ≠ false → l.getD i false = true := by
        intro i hi h
        have h2 : i < l.size := by omega
        simp [h2] at h ⊢
        exact h
      have hready : ∀ i, i < m → l.getD i true = false → ∃ j, j ∈ Region.ready .any ops l := by
        intro i
        induction i using Nat.strongRecOn with
        | ind i ihi =>
          intro hi hu
          have ho : ops[i]? = some ops[i] := by simp
          by_cases hb : ∃ q ∈ needs ops[i], l.getD q false ≠ true
          · obtain ⟨q, hq, hne⟩ := hb
            have hqi := hlow i _ ho hi q hq
            refine ihi q hqi (by omega) ?_
            cases hqq : l.getD q true with
            | false => rfl
            | true => exact absurd (htf q (by omega) (by rw [hqq]; simp)) hne
          · refine ⟨i, ready_iff.2 ⟨_, ho, hu, fun q hq => ?_⟩⟩
            by_cases hqq : l.getD q false = true
            · exact hqq
            · exact absurd ⟨q, hq, hqq⟩ hb
      have hfirst : ∀ j, j ∈ Region.ready .any ops l → j < m := by
        intro j hj
        obtain ⟨o, ho, hu, hn⟩ := ready_iff.1 hj
        rcases Nat.lt_or_ge j m with h | h
        · exact h
        · exfalso
          have hjs := (Array.getElem?_eq_some_iff.1 ho).1
          have h1 := hB j (List.mem_range.2 hjs)
          rw [ho] at h1
          simp only [if_neg (show ¬ j < m by omega), Bool.or_eq_true, List.any_eq_true, Bool.and_eq_true, decide_eq_true_eq, List.all_eq_true] at h1
          rcases h1 with ⟨q, hq, hmq, hqs⟩ | h1
          · have h2 := hn q hq
            have h3 := hrest q hmq hqs
            have h4 : q < l.size := by omega
            simp [h4] at h2 h3
            rw [h2] at h3
            cases h3
          · obtain ⟨i, hi, hu'⟩ := hex
            have up : ∀ (t i : Nat), m - i = t → i < m → l.getD i true = false → False := by
              intro t
              induction t using Nat.strongRecOn with
              | ind t iht =>
                intro i ht hi hu'
                rcases h1 i (List.mem_range.2 hi) with h2 | ⟨i', hi', h2, h3⟩
                · have := hn i (by simpa using h2)
                  rw [hfin i hi hu'] at this
                  cases this
                · have him' := List.mem_range.1 hi'
                  cases ho' : ops[i']? with
                  | none => rw [ho'] at h3; cases h3
                  | some o' =>
                    rw [ho'] at h3
                    refine iht (m - i') (by omega) i' rfl him' ?_
                    cases hq : l.getD i' true with
                    | false => rfl
                    | true =>
                      have h4 := htf i' him' (by rw [hq]; simp)
                      have h5 := hcl i' o' ho' him' h4 i (by simpa using h3)
                      rw [hfin i hi hu'] at h5
                      cases h5
            exact up _ i rfl hi hu'
      rw [show c + 1 + (ops.size - m) = c + (ops.size - m) + 1 from by omega]
      refine ⟨fun h0 => ?_, fun i hi => ?_⟩
      · obtain ⟨i, h1, h2⟩ := hex
        obtain ⟨j, hj⟩ := hready i h1 h2
        rw [h0] at hj
        cases hj
      · have him := hfirst i hi
        obtain ⟨o, ho, hu, hn⟩ := ready_iff.1 hi
        have hund : l.getD i false = false := hfin i him hu
        have hneq : ∀ j, l.getD j false = true → j ≠ i := fun j hj h => by rw [h, hund] at hj; cases hj
        -- the pieces that are taken, lent, and the others
        have hmem : ∀ j, j ∈ livs m U l ↔ j < m ∧ l.getD j false = true ∧ ¬ (U j < m ∧ l.getD (U j) false = true) := fun j => by
          unfold livs
          simp only [List.mem_filter, List.mem_range, Bool.and_eq_true, Bool.not_eq_true', Bool.and_eq_false_iff, decide_eq_false_iff_not, not_and]
          constructor
          · rintro ⟨h1, h2, h3⟩
            exact ⟨h1, h2, fun h4 h5 => by rcases h3 with h3 | h3; exact h3 h4; rw [h5] at h3; cases h3⟩
          · rintro ⟨h1, h2, h3⟩
            refine ⟨h1, h2, ?_⟩
            by_cases h4 : U j < m
            · right
              have := h3 h4
              simpa using this
            · exact .inl h4
        have hnodup : (livs m U l).Nodup := List.Pairwise.filter _ List.nodup_range
        have hsub : ∀ j ∈ con i ++ len i, j ∈ livs m U l := fun j hj => by
          rw [hmem]
          rcases List.mem_append.1 hj with hj | hj
          · obtain ⟨h1, h2⟩ := hcon i him o ho j hj
            refine ⟨by have := hlow i o ho him j h1; omega, hn j h1, fun ⟨_, h4⟩ => ?_⟩
            rw [h2, hund] at h4
            cases h4
          · obtain ⟨h1, h2⟩ := hlen i him o ho j hj
            exact ⟨by have := hlow i o ho him j h1; omega, hn j h1, fun ⟨h4, _⟩ => by omega⟩
        let oth := (livs m U l).filter fun j => !(con i ++ len i).contains j
        have hperm : (livs m U l).Perm ((con i ++ len i) ++ oth) := by
          refine (List.perm_ext_iff_of_nodup hnodup ?_).2 fun j => ?_
          · refine List.nodup_append.2 ⟨hnd i him, List.Pairwise.filter _ hnodup, fun x hx y hy hxy => ?_⟩
            subst hxy
            have := (List.mem_filter.1 hy).2
            rw [List.contains_iff_mem.2 hx] at this
            cases this
          · rw [List.mem_append]
            constructor
            · intro hj
              by_cases hc : j ∈ con i ++ len i
              · exact .inl hc
              · right
                refine List.mem_filter.2 ⟨hj, ?_⟩
                have : (con i ++ len i).contains j = false := by
                  cases hb : (con i ++ len i).contains j with
                  | false => rfl
                  | true => exact absurd (List.contains_iff_mem.1 hb) hc
                rw [this]
                rfl
            · rintro (hj | hj)
              · exact hsub j hj
              · exact (List.mem_filter.1 hj).1
        have hsp2 : Sp X w0 z w' (((tkn ic virt i ++ catR R g (con i)) ++ (catR R g (len i) ++ base)) ++ (catR R g oth ++ lftb ic virt l i)) := by
          refine hsp.perm (((catR_perm hperm).append_right _).trans ?_)
          rw [catR_append, catR_append, lft_split hund]
          generalize tkn ic virt i = v1
          generalize lftb ic virt l i = v2
          generalize catR R g (con i) = c1
          generalize catR R g (len i) = c2
          generalize catR R g oth = c3
          simp only [List.append_assoc]
          exact perm5 c1 c2 c3 v1 v2 base
        have hs' := step i him o ho g w' (catR R g oth ++ lftb ic virt l i) hsp2.bunl a ⟨hh.defers, hh.size, fun s v hs => by
          rcases look_slotsX hs with ⟨j, h1, h2, rfl⟩ | h1
          · exact hall j (by have := hlow i o ho him j h1; omega) (hn j h1) s h2
          · exact hh.at_ s v h1⟩
        unfold wpOpIn
        rw [ho]
        unfold Op1 at hs'
        have hdi : o.dst = d i := by
          have := hd i him
          rw [ho] at this
          simpa using this
        have fin : ∀ a' w'', (∃ v, a' = a.put o.dst v ∧ ∃ γ, v = val i γ ∧ Sp X w0 z w'' ((R i γ ++ (catR R g (len i) ++ base)) ++ [allR (catR R g oth ++ lftb ic virt l i)])) → wpAnyIn N.F 0 P .any ops Q (c + (ops.size - m)) (l.setIfInBounds i true) a' w'' := by
          rintro a' w'' ⟨v, rfl, γ, rfl, h1⟩
          have hilt : i < l.size := by omega
          have hget : ∀ j, j ≠ i → ∀ b, (l.setIfInBounds i true).getD j b = l.getD j b := fun j hj b => getD_set_ne b (Ne.symm hj)
          have hgi : ∀ b, (l.setIfInBounds i true).getD i b = true := by
            intro b
            simp [hilt]
          have hback : ∀ j, j ≠ i → (l.setIfInBounds i true).getD j false = true → l.getD j false = true := fun j hj h => by rwa [hget j hj] at h
          rw [hdi]
          refine ih _ _ w'' (by simp [hls]) ?_ ?_ ?_ ?_ ⟨fun q => if q = i then γ else g q, ?_, ?_⟩
          · intro j h3 h4
            rw [hget j (by omega)]
            exact hrest j h3 h4
          · have hnd2 : ((List.range m).filter (fun q => !l.getD q true)).Nodup := List.Pairwise.filter _ List.nodup_range
            have hmem2 : i ∈ (List.range m).filter (fun q => !l.getD q true) := by simp only [List.mem_filter, List.mem_range, Bool.not_eq_true']; exact ⟨him, hu⟩
            have heq : (List.range m).filter (fun q => !(l.setIfInBounds i true).getD q true) = ((List.range m).filter (fun q => !l.getD q true)).erase i := by
              rw [hnd2.erase_eq_filter, List.filter_filter]
              refine List.filter_congr fun q _ => ?_
              by_cases hq : q = i
              · subst hq; simp [hgi]
              · simp [hget q hq, hq]
            rw [heq, List.length_erase_of_mem hmem2, hc]
            rfl
          · intro j o' ho' hj hl' q hq
            by_cases hji : j = i
            · subst hji
              rw [ho] at ho'
              obtain rfl := Option.some.inj ho'
              have hqn : q ≠ j := by have := hlow j o ho hj q hq; omega
              rw [hget q hqn]
              exact hn q hq
            · rw [hget j hji] at hl'
              by_cases hqi : q = i
              · subst hqi; exact hgi _
              · rw [hget q hqi]
                exact hcl j o' ho' hj hl' q hq
          · cases hdi' : d i with
            | none => exact hh
            | some s0 =>
              have h3 := hh.put (hdN i s0 him hdi') (val i γ)
              refine h3.le fun s u hs => ?_
              rw [look_cons]
              by_cases hsd : s0 = s
              · subst hsd; rw [hdf i s0 him hdi'] at hs; cases hs
              · rw [if_neg hsd]; exact hs
          · intro j hj hl' s hs
            by_cases hji : j = i
            · subst hji
              simp only [if_true]
              rw [hs]
              exact (hh.put (hdN j s hj hs) (val j γ)).at_ s _ look_hit
            · simp only [if_neg hji]
              have h6 := hall j hj (hback j hji hl') s hs
              cases hdi' : d i with
              | none => exact h6
              | some s0 =>
                have hne : s0 ≠ s := fun h => hji (hdd i j s him hj (by rw [hdi', h]) hs).symm
                simp only [Act.put, Array.getElem?_setIfInBounds, if_neg hne]
                exact h6
          · -- the pieces
            have hmem' : ∀ j, j ∈ livs m U (l.setIfInBounds i true) ↔ j < m ∧ (l.setIfInBounds i true).getD j false = true ∧ ¬ (U j < m ∧ (l.setIfInBounds i true).getD (U j) false = true) := fun j => by
              unfold livs
              simp only [List.mem_filter, List.mem_range, Bool.and_eq_true, Bool.not_eq_true', Bool.and_eq_false_iff, decide_eq_false_iff_not, not_and]
              constructor
              · rintro ⟨h1, h2, h3⟩
                exact ⟨h1, h2, fun h4 h5 => by rcases h3 with h3 | h3; exact h3 h4; rw [h5] at h3; cases h3⟩
              · rintro ⟨h1, h2, h3⟩
                refine ⟨h1, h2, ?_⟩
                by_cases h4 : U j < m
                · right
                  have := h3 h4
                  simpa using this
                · exact .inl h4
            have hio : i ∉ len i ++ oth := fun hin => by
              rcases List.mem_append.1 hin with h2 | h2
              · obtain ⟨h3, _⟩ := hlen i him o ho i h2
                have := hlow i o ho him i h3
                omega
              · have := ((hmem i).1 (List.mem_filter.1 h2).1).2.1
                rw [hund] at this
                cases this
            have hp2 : (i :: (len i ++ oth)).Perm (livs m U (l.setIfInBounds i true)) := by
              refine (List.perm_ext_iff_of_nodup (List.nodup_cons.2 ⟨hio, ?_⟩) (List.Pairwise.filter _ List.nodup_range)).2 fun j => ?_
              · refine List.nodup_append.2 ⟨(List.nodup_append.1 (hnd i him)).2.1, List.Pairwise.filter _ hnodup, fun x hx y hy hxy => ?_⟩
                subst hxy
                have := (List.mem_filter.1 hy).2
                rw [List.contains_iff_mem.2 (List.mem_append_right _ hx)] at this
                cases this
              · refine Iff.trans ?_ (hmem' j).symm
                constructor
                · intro hj
                  rcases List.mem_cons.1 hj with rfl | hj
                  · refine ⟨him, hgi _, fun ⟨h3, h4⟩ => ?_⟩
                    by_cases hui : U j = j
                    · have := hU j j him him hui
                      have h5 := hlow j o ho him j (hcon j him o ho j this).1
                      omega
                    · rw [hget _ hui] at h4
                      cases ho' : ops[U j]? with
                      | none =>
                        have h6 : U j < ops.size := by omega
                        rw [Array.getElem?_eq_getElem h6] at ho'
                        cases ho'
                      | some o' =>
                        have h5 := hcl (U j) o' ho' h3 h4 j (hcon (U j) h3 o' ho' j (hU (U j) j h3 him rfl)).1
                        rw [hund] at h5
                        cases h5
                  · rcases List.mem_append.1 hj with hj | hj
                    · obtain ⟨h3, h4⟩ := hlen i him o ho j hj
                      have hlt := hlow i o ho him j h3
                      refine ⟨by omega, by rw [hget j (by omega)]; exact hn j h3, fun ⟨h5, _⟩ => by omega⟩
                    · obtain ⟨h3, h4⟩ := List.mem_filter.1 hj
                      obtain ⟨h5, h6, h7⟩ := (hmem j).1 h3
                      have hji := hneq j h6
                      refine ⟨h5, by rw [hget j hji]; exact h6, fun ⟨h8, h9⟩ => ?_⟩
                      by_cases hui : U j = i
                      · have h10 := hU i j him h5 hui
                        rw [List.contains_iff_mem.2 (List.mem_append_left _ h10)] at h4
                        cases h4
                      · rw [hget _ hui] at h9
                        exact h7 ⟨h8, h9⟩
                · rintro ⟨h3, h4, h5⟩
                  by_cases hji : j = i
                  · subst hji; exact List.mem_cons_self
                  · refine List.mem_cons_of_mem _ ?_
                    have h6 := hback j hji h4
                    have h7 : j ∈ livs m U l := (hmem j).2 ⟨h3, h6, fun ⟨h8, h9⟩ => h5 ⟨h8, by
                      by_cases hui : U j = i
                      · rw [hui]; exact hgi _
                      · rw [hget _ hui]; exact h9⟩⟩
                    have h8 := hperm.mem_iff.1 h7
                    rw [List.append_assoc] at h8
                    rcases List.mem_append.1 h8 with h9 | h9
                    · exfalso
                      have h10 := (hcon i him o ho j h9).2
                      exact h5 ⟨by omega, by rw [h10]; exact hgi _⟩
                    · exact h9
            have h2 := Sp.unbl h1
            refine h2.perm ?_
            have e1 : catR R g (len i) = catR R (fun q => if q = i then γ else g q) (len i) := catR_congr fun j hj => by
              have : j ≠ i := fun h => hio (List.mem_append_left _ (h ▸ hj))
              simp [this]
            have e2 : catR R g oth = catR R (fun q => if q = i then γ else g q) oth := catR_congr fun j hj => by
              have : j ≠ i := fun h => hio (List.mem_append_right _ (h ▸ hj))
              simp [this]
            have e3 : R i γ = R i ((fun q => if q = i then γ else g q) i) := by simp
            rw [e1, e2, e3]
            refine List.Perm.trans ?_ ((catR_perm hp2).append_right _)
            show List.Perm _ (R i _ ++ catR R _ (len i ++ oth) ++ _)
            rw [catR_append, lft_set (by omega)]
            generalize lftb ic virt l i = v2
            generalize catR R _ (len i) = c2
            generalize catR R _ oth = c3
            generalize R i _ = c1
            simp only [List.append_assoc]
            refine List.Perm.append_left _ (List.Perm.append_left _ ?_)
            rw [← List.append_assoc c3 v2 base]
            exact List.perm_append_comm
        split at hs'
        · rename_i hwant
          simp only [hwant, if_true]
          exact Oper.wpIn_mono (fun a' w'' h => fin a' w'' h) hs'
        · rename_i hwant
          simp only [hwant, Bool.false_eq_true, if_false]
          exact ⟨fun _ _ => trivial, fin _ _ hs'⟩
  have hfalse : ∀ j, (Array.replicate ops.size false).getD j false ≠ true := fun j => by
    by_cases hj : j < ops.size <;> simp [hj]
  have hinit := key m (Array.replicate ops.size false) a { w with drawn := w.drawn + 1 } (by simp)
    (fun j _ hj => by simp [hj]) (by
      rw [List.filter_eq_self.2]
      · simp
      · intro i hi
        have : i < ops.size := by have := List.mem_range.1 hi; omega
        simp [this])
    (fun j o ho hj h => absurd h (hfalse j)) ha ⟨fun _ => gh0, fun i hi h => absurd h (hfalse i), by
      have : livs m U (Array.replicate ops.size false) = [] := by
        unfold livs
        rw [List.filter_eq_nil_iff]
        intro j _ h
        rw [Bool.and_eq_true] at h
        exact hfalse j h.1
      rw [this]
      have h0 : lft ic virt (Array.replicate ops.size false) = virt := by unfold lft; cases hb : (Array.replicate ops.size false).getD ic false with | true => exact absurd hb (hfalse ic) | false => rfl
      rw [h0]
      exact hS.chg0 (Chg.drew w)⟩
  rw [show m + (ops.size - m) = ops.size from by omega] at hinit
  exact hinit
def vN (vals : List (Gh → Value)) (i : Nat) : Gh → Value := vals.getD i (fun _ => undef)
def rN (Rs : List (Gh → List Res)) (i : Nat) : Gh → List Res := Rs.getD i (fun _ => [])
def drawSteps2 (P : Program) (N : Sz) (ops : Array Oper) (Q : Exit → Act → World → Prop) (X : Nat → Prop) (w0 : World) (z : Z) (ic : Nat) (virt base : List Res) (dst : List (Option Nat)) (f : Fr) (vals : List (Gh → Value)) (Rs : List (Gh → List Res)) (con len : List (List Nat)) : Nat → List (List Nat) → List Oper → Prop
  | _, [], _ => True
  | _, _ :: _, [] => False
  | i, ds :: r, o :: os => (∀ (g : Nat → Gh) w' fr, Sp X w0 z w' (((tkn ic virt i ++ catR (rN Rs) g (con.getD i [])) ++ (catR (rN Rs) g (len.getD i []) ++ base)) ++ [allR fr]) →
      Sv P N ops Q o (slotsX (fun i => dst.getD i none) (fun j => vN vals j (g j)) ds f) w' (fun v w'' => ∃ γ, v = vN vals i γ ∧ Sp X w0 z w'' ((rN Rs i γ ++ (catR (rN Rs) g (len.getD i []) ++ base)) ++ [allR fr]))) ∧
    drawSteps2 P N ops Q X w0 z ic virt base dst f vals Rs con len (i + 1) r os
theorem drawSteps2_at {ic : Nat} {virt : List Res} {dst : List (Option Nat)} {f : Fr} {vals : List (Gh → Value)} {Rs : List (Gh → List Res)} {con len : List (List Nat)} : ∀ {r : List (List Nat)} {os : List Oper} {i : Nat}, drawSteps2 P N ops Q X w0 z ic virt base dst f vals Rs con len i r os → ∀ (j : Nat) (ds : List Nat) (o : Oper), r[j]? = some ds → os[j]? = some o →
    (∀ (g : Nat → Gh) w' fr, Sp X w0 z w' (((tkn ic virt (i + j) ++ catR (rN Rs) g (con.getD (i + j) [])) ++ (catR (rN Rs) g (len.getD (i + j) []) ++ base)) ++ [allR fr]) →
      Sv P N ops Q o (slotsX (fun i => dst.getD i none) (fun j => vN vals j (g j)) ds f) w' (fun v w'' => ∃ γ, v = vN vals (i + j) γ ∧ Sp X w0 z w'' ((rN Rs (i + j) γ ++ (catR (rN Rs) g (len.getD (i + j) []) ++ base)) ++ [allR fr])))
  | [], _, _, _, _, _, _, h1, _ => by simp at h1
  | _ :: _, [], _, h, _, _, _, _, _ => h.elim
  | ds0 :: r, o0 :: os, i, h, 0, ds, o, h1, h2 => by
    simp at h1 h2
    subst h1
    subst h2
    exact h.1
  | ds0 :: r, o0 :: os, i, h, j + 1, ds, o, h1, h2 => by
    have := drawSteps2_at h.2 j ds o (by simpa using h1) (by simpa using h2)
    rw [show i + (j + 1) = i + 1 + j from by omega]
    exact this
def drawB2 (N : Sz) (n : Nat) (ops : Array Oper) (f : List Nat) (ds : List (List Nat)) (dst : List (Option Nat)) (U : List Nat) (con len : List (List Nat)) : Bool :=
  (ops.size == n) && firstB ops ds.length && (dst.length == ds.length) && ((List.range ds.length).all fun i => match ops[i]? with
    | none => false
    | some o => (o.dst == dst.getD i none) && (needs o == ds.getD i []) && (match dst.getD i none with
      | none => true
      | some s => decide (s < N.n) && !f.contains s) && ((con.getD i []).all fun j => (needs o).contains j && U.getD j ds.length == i) && ((len.getD i []).all fun j => (needs o).contains j && decide (ds.length ≤ U.getD j ds.length)) && decide (con.getD i [] ++ len.getD i []).Nodup) &&
  ((List.range ds.length).all fun j => (List.range ds.length).all fun i => !(U.getD j ds.length == i) || (con.getD i []).contains j) &&
  decide (dst.filterMap id).Nodup
theorem filterMap_inj : ∀ {l : List (Option Nat)} {i j s : Nat}, (l.filterMap id).Nodup → l[i]? = some (some s) → l[j]? = some (some s) → i = j
  | [], _, _, _, _, h, _ => by simp at h
  | x :: l, 0, 0, _, _, _, _ => rfl
  | x :: l, 0, j + 1, s, hn, h1, h2 => by
    simp at h1 h2
    subst h1
    simp only [List.filterMap_cons, id] at hn
    exact absurd ((List.mem_filterMap (f := id)).2 ⟨some s, List.mem_of_getElem? h2, rfl⟩) (List.nodup_cons.1 hn).1
  | x :: l, i + 1, 0, s, hn, h1, h2 => by
    simp at h1 h2
    subst h2
    simp only [List.filterMap_cons, id] at hn
    exact absurd ((List.mem_filterMap (f := id)).2 ⟨some s, List.mem_of_getElem? h1, rfl⟩) (List.nodup_cons.1 hn).1
  | x :: l, i + 1, j + 1, s, hn, h1, h2 => by
    have hn' : (l.filterMap id).Nodup := by
      cases x with
      | none => simpa using hn
      | some y => simp only [List.filterMap_cons, id] at hn; exact (List.nodup_cons.1 hn).2
    have := filterMap_inj hn' (by simpa using h1) (by simpa using h2)
    omega
theorem D_drawn3 {f : Fr} (ic : Nat) (virt : List Res) (n : Nat) (ds : List (List Nat)) (dst : List (Option Nat)) (fs U : List Nat) (con len : List (List Nat)) (vals : List (Gh → Value)) (Rs : List (Gh → List Res)) (hf : f.map (·.1) = fs) (hm : P.follows .mixedOrders = true) (hB : drawB2 N n ops fs ds dst U con len = true)
    (hS : Sp X w0 z w (virt ++ base)) (hic : ic < ds.length ∨ virt = []) (step : drawSteps2 P N ops Q X w0 z ic virt base dst f vals Rs con len 0 ds ops.toList)
    (rest : ∀ (g : Nat → Gh) w', Sp X w0 z w' (catR (rN Rs) g ((List.range ds.length).filter fun j => !decide (U.getD j ds.length < ds.length)) ++ base) → An P N ops Q (n - ds.length) (doneArr n ds.length) (slotsX (fun i => dst.getD i none) (fun j => vN vals j (g j)) (List.range ds.length) f) w') :
    Rgn P N Q ops f w := by
  subst hf
  simp only [drawB2, Bool.and_eq_true, beq_iff_eq, List.all_eq_true, decide_eq_true_eq] at hB
  obtain ⟨⟨⟨⟨⟨h1, h2⟩, h3⟩, h4⟩, h5⟩, h6⟩ := hB
  have hat : ∀ i, i < ds.length → ∃ o, ops[i]? = some o ∧ o.dst = dst.getD i none ∧ needs o = ds.getD i [] ∧ (∀ s, dst.getD i none = some s → s < N.n ∧ look f s = none) ∧ (∀ j ∈ con.getD i [], j ∈ needs o ∧ U.getD j ds.length = i) ∧ (∀ j ∈ len.getD i [], j ∈ needs o ∧ ds.length ≤ U.getD j ds.length) ∧ (con.getD i [] ++ len.getD i []).Nodup := by
    intro i hi
    have := h4 i (List.mem_range.2 hi)
    cases ho : ops[i]? with
    | none => rw [ho] at this; cases this
    | some o =>
      rw [ho] at this
      simp only [Bool.and_eq_true, beq_iff_eq, List.all_eq_true, decide_eq_true_eq] at this
      obtain ⟨⟨⟨⟨⟨g1, g2⟩, g3⟩, g4⟩, g5⟩, g6⟩ := this
      refine ⟨o, rfl, g1, g2, fun s hs => ?_, fun j hj => ⟨List.contains_iff_mem.1 (g4 j hj).1, (g4 j hj).2⟩, fun j hj => ⟨List.contains_iff_mem.1 (g5 j hj).1, (g5 j hj).2⟩, g6⟩
      rw [hs] at g3
      simp only [Bool.and_eq_true, decide_eq_true_eq, Bool.not_eq_true'] at g3
      exact ⟨g3.1, look_none g3.2⟩
  refine D_drawS ic virt ds.length n (fun i => dst.getD i none) (vN vals) (rN Rs) (fun j => U.getD j ds.length) (fun i => con.getD i []) (fun i => len.getD i []) hm h1 h2 ?_ ?_ ?_ ?_ ?_ ?_ ?_ ?_ hS hic ?_ rest
  · intro i hi
    obtain ⟨o, ho, hd, _⟩ := hat i hi
    rw [ho]
    simp [hd]
  · intro i j s hi hj he he'
    have hi' : i < dst.length := by omega
    have hj' : j < dst.length := by omega
    simp only [List.getD_eq_getElem?_getD, List.getElem?_eq_getElem hi', List.getElem?_eq_getElem hj', Option.getD_some] at he he'
    exact filterMap_inj h6 (by rw [List.getElem?_eq_getElem hi', he]) (by rw [List.getElem?_eq_getElem hj', he'])
  · intro i s hi hs
    obtain ⟨o, _, _, _, h, _⟩ := hat i hi
    exact (h s hs).2
  · intro i s hi hs
    obtain ⟨o, _, _, _, h, _⟩ := hat i hi
    exact (h s hs).1
  · intro i hi o ho j hj
    obtain ⟨o', ho', _, _, _, h, _⟩ := hat i hi
    rw [ho] at ho'
    obtain rfl := Option.some.inj ho'
    exact h j hj
  · intro i hi o ho j hj
    obtain ⟨o', ho', _, _, _, _, h, _⟩ := hat i hi
    rw [ho] at ho'
    obtain rfl := Option.some.inj ho'
    exact h j hj
  · intro i hi
    obtain ⟨o', _, _, _, _, _, _, h⟩ := hat i hi
    exact h
  · intro i j hi hj hu
    have := h5 j (List.mem_range.2 hj) i (List.mem_range.2 hi)
    simp only [Bool.or_eq_true, Bool.not_eq_true', beq_eq_false_iff_ne] at this
    rcases this with h | h
    · exact absurd hu h
    · exact List.contains_iff_mem.1 h
  · intro i hi o ho g w' fr hsp
    obtain ⟨o', ho', _, hne, _⟩ := hat i hi
    rw [ho] at ho'
    obtain rfl := Option.some.inj ho'
    have := drawSteps2_at step i (ds.getD i []) o (by simp [List.getD, hi]) (by simpa using ho) g w' fr (by simpa using hsp)
    rw [hne]
    simpa using this
theorem C_drawn3 {id : Nat} {f : Fr} (ic : Nat) (virt : List Res) (n : Nat) (ds : List (List Nat)) (dst : List (Option Nat)) (fs U : List Nat) (con len : List (List Nat)) (vals : List (Gh → Value)) (Rs : List (Gh → List Res)) (hf : f.map (·.1) = fs) (hm : P.follows .mixedOrders = true) (hB : drawB2 N n ops fs ds dst U con len = true)
    (hS : Sp X w0 z w (virt ++ base)) (hic : ic < ds.length ∨ virt = []) (step : drawSteps2 P N ops Q X w0 z ic virt base dst f vals Rs con len 0 ds ops.toList)
    (rest : ∀ (g : Nat → Gh) w', Sp X w0 z w' (catR (rN Rs) g ((List.range ds.length).filter fun j => !decide (U.getD j ds.length < ds.length)) ++ base) → An P N ops Q (n - ds.length) (doneArr n ds.length) (slotsX (fun i => dst.getD i none) (fun j => vN vals j (g j)) (List.range ds.length) f) w') :
    C P N Q (.region id ops true) f w := C_rgn hm (D_drawn3 ic virt n ds dst fs U con len vals Rs hf hm hB hS hic step rest)
theorem C_drawn2 {id : Nat} {f : Fr} (n : Nat) (ds : List (List Nat)) (dst : List (Option Nat)) (fs U : List Nat) (con len : List (List Nat)) (vals : List (Gh → Value)) (Rs : List (Gh → List Res)) (hf : f.map (·.1) = fs) (hm : P.follows .mixedOrders = true) (hB : drawB2 N n ops fs ds dst U con len = true)
    (hS : Sp X w0 z w base) (step : drawSteps2 P N ops Q X w0 z n [] base dst f vals Rs con len 0 ds ops.toList)
    (rest : ∀ (g : Nat → Gh) w', Sp X w0 z w' (catR (rN Rs) g ((List.range ds.length).filter fun j => !decide (U.getD j ds.length < ds.length)) ++ base) → An P N ops Q (n - ds.length) (doneArr n ds.length) (slotsX (fun i => dst.getD i none) (fun j => vN vals j (g j)) (List.range ds.length) f) w') :
    C P N Q (.region id ops true) f w := C_drawn3 n [] n ds dst fs U con len vals Rs hf hm hB hS (.inr rfl) step rest
end
end Go.Proofs.YtaljccgfnmfhnaaGreatDoorG
set_option linter.all false
namespace Go.Proofs.YtaljccgfnmfhnaaGreatDoorG
open Go Go.RowKit
section
variable {P : Program} {K : Nat}
def EqV (P : Program) (t : TypeId) (K : Nat) (a b : Value) (r : Bool) : Prop := ∀ d w, (Op.equalIn (d + K) t a b).run P w = .ok r w
def EqF (P : Program) (K : Nat) (xs ys : Array Value) (fs : List Field) (r : Bool) : Prop := ∀ d w, (Op.eqFields (d + K) xs ys fs).run P w = .ok r w
theorem EqV.up {t : TypeId} {a b : Value} {r : Bool} (n : Nat) (h : EqV P t K a b r) : EqV P t (K + n) a b r := fun d w => by
  have := h (d + n) w
  rwa [show d + n + K = d + (K + n) from by omega] at this
theorem EqV.int {t : TypeId} {q : IntKind} {a b : Int} (h : P.underlying t = some (.int q)) : EqV P t 1 (.int q a) (.int q b) (decide (a = b)) := fun d w => by
  rw [run_equalIn_int w d t q q a b h]
  congr 1
theorem EqV.bool {t : TypeId} {a b : Bool} (h : P.underlying t = some .bool) : EqV P t 1 (.bool a) (.bool b) (decide (a = b)) := fun d w => by
  rw [run_equalIn_bool' w d t a b h]
  cases a <;> cases b <;> rfl
theorem EqV.str {t : TypeId} {a b : St} (h : P.underlying t = some .string) : EqV P t 1 (vstr a) (vstr b) (decide (a = b)) := fun d w => by
  refine (run_equalIn_string w d t _ _ h).trans ?_
  congr 1
  rw [ByteArray.toList_eq, ByteArray.toList_eq]
  rw [Bool.eq_iff_iff]
  simp
theorem EqF.nil {xs ys : Array Value} : EqF P K xs ys [] true := fun d w => by simp [Op.eqFields]
theorem EqF.cons {xs ys : Array Value} {f : Field} {fs : List Field} {a b : Value} {r R : Bool} (hn : f.name ≠ "_") (ha : ∀ w, (part f.type xs f.offset).run P w = .ok a w) (hb : ∀ w, (part f.type ys f.offset).run P w = .ok b w)
    (h1 : EqV P f.type K a b r) (h2 : EqF P K xs ys fs R) : EqF P K xs ys (f :: fs) (r && R) := fun d w => by
  have h3 := h1 d w
  have h4 := h2 d w
  cases r <;> simp [Op.eqFields, hn, ha, hb, h3, h4]
theorem EqV.struct {t : TypeId} {fs : Array Field} {xs ys : Array Value} {r : Bool} (ht : P.underlying t = some (.struct fs)) (hp : P.stoodInHeld t = false) (h : EqF P K xs ys fs.toList r) : EqV P t (K + 1) (.agg xs) (.agg ys) r := fun d w => by
  have h1 : P.fieldsOf t = fs := by simp [Program.fieldsOf, ht]
  exact (run_equalIn_struct w (d + K) t xs ys (by rw [h1]; exact ht) hp).trans (by rw [h1]; exact h d w)
def EqE (P : Program) (K : Nat) (e : TypeId) (n : Nat) (xs ys : Array Value) (is : List Nat) (r : Bool) : Prop :=
  ∀ d w, (forIn (m := Sem) is ((none, ()) : Option Bool × Unit) fun i r_ => do
    let a_ ← part e xs (i * n)
    let b_ ← part e ys (i * n)
    let c_ ← Op.equalIn (d + K) e a_ b_
    if (!c_) = true then pure (ForInStep.done (some false, ())) else pure (ForInStep.yield (none, ()))).run P w = .ok (if r then (none, ()) else (some false, ())) w
theorem EqE.nil {e : TypeId} {n : Nat} {xs ys : Array Value} : EqE P K e n xs ys [] true := fun d w => by simp
theorem EqE.cons {e : TypeId} {n i : Nat} {xs ys : Array Value} {is : List Nat} {a b : Value} {r R : Bool} (ha : ∀ w, (part e xs (i * n)).run P w = .ok a w) (hb : ∀ w, (part e ys (i * n)).run P w = .ok b w)
    (h1 : EqV P e K a b r) (h2 : EqE P K e n xs ys is R) : EqE P K e n xs ys (i :: is) (r && R) := fun d w => by
  have h3 := h1 d w
  have h4 := h2 d w
  cases r
  · simp [ha, hb, h3]
  · simp only [List.forIn_cons, Sem.run_bind, ha, hb, h3, Result.andThen_ok, Bool.not_true, Bool.false_eq_true, if_false, Sem.run_pure, Bool.true_and]
    exact h4
theorem EqV.array {t e : TypeId} {len n : Nat} {xs ys : Array Value} {r : Bool} (ht : P.underlying t = some (.array len e)) (hs : ∀ w, (sizeOf e).run P w = .ok n w) (h : EqE P K e n xs ys (List.range' 0 len) r) : EqV P t (K + 1) (.agg xs) (.agg ys) r := fun d w => by
  have h1 := h d w
  show (Op.equalIn (d + K + 1) t (.agg xs) (.agg ys)).run P w = .ok r w
  simp only [Op.equalIn, Sem.run_bind, run_underlying ht, Result.andThen_ok, hs]
  rw [Std.Legacy.Range.forIn_eq_forIn_range']
  simp only [Std.Legacy.Range.size, Nat.sub_zero, Nat.add_sub_cancel, Nat.div_one]
  rw [h1]
  cases r <;> simp
theorem R_eqv {o : Oper} {f : Fr} {w : World} {T T' : TypeId} {x y : Operand} {xs ys : Array Value} {r : Bool} (ho : o.op = .binOp .eql T x y T') (hx : ev f x = some (.agg xs)) (hy : ev f y = some (.agg ys)) (hg : P.eqGuardType P.depth T = false) (h : EqV P T 4 (.agg xs) (.agg ys) r) : Runs P o f w (.bool r) w :=
  R_bin ho hx hy (run_eqGuard_agg w _ _ _ _ _ _ hg) (by
    have h1 := h 9996 w
    rw [run_eql_struct]
    rw [show (10000 : Nat) = 9996 + 4 from rfl, h1]
    rfl)
theorem R_neqv {o : Oper} {f : Fr} {w : World} {T T' : TypeId} {x y : Operand} {xs ys : Array Value} {r : Bool} (ho : o.op = .binOp .neq T x y T') (hx : ev f x = some (.agg xs)) (hy : ev f y = some (.agg ys)) (hg : P.eqGuardType P.depth T = false) (h : EqV P T 4 (.agg xs) (.agg ys) r) : Runs P o f w (.bool (!r)) w :=
  R_bin ho hx hy (run_eqGuard_agg w _ _ _ _ _ _ hg) (by
    have h1 := h 9996 w
    rw [run_neq_struct]
    rw [show (10000 : Nat) = 9996 + 4 from rfl, h1]
    rfl)
theorem Sv_callv {N : Sz} {g : Nat} {ops : Array Oper} {Q : Exit → Act → World → Prop} {o : Oper} {f : Fr} {w : World} {k : Value → World → Prop} {x : Operand} {l : List Operand} {ts : Array TypeId} {vs : List Value} (hg : o.guard = none)
    (ho : o.op = .call { callee := .value x, args := l.toArray, argTypes := ts }) (hxv : ev f x = some (.func (.func g) #[] ([] : List Value).toArray)) (hx : evs f l = some vs) (hf : ∀ args w, (callFunc g args).run P w = .ok (.enter g args) w)
    (h : Calls P g vs.toArray w fun e w' => ∃ v, e = .returned v ∧ k v w') : Sv P N ops Q o f w k := by
  refine Sv_of_wp hg (by simp [ho]) (wp_callv ho hxv hx hf ?_)
  rwa [List.append_nil]
end
end Go.Proofs.YtaljccgfnmfhnaaGreatDoorG
set_option linter.all false
namespace Go.Proofs.YtaljccgfnmfhnaaGreatDoorG
open Go Go.RowKit
def gv (b : Bool) (v : Value) : Value := bif b then v else undef
theorem gv_t {b : Bool} {v : Value} (h : b = true) : gv b v = v := by rw [h]; rfl
theorem gl {f : Fr} {i : Nat} {b : Bool} {v : Value} (h : look f i = some (gv b v)) (hb : b = true) : look f i = some v := by rw [h, gv_t hb]
theorem gl2 {f : Fr} {i : Nat} {a b : Bool} {v : Value} (h : look f i = some (gv (a && b) v)) (ha : a = true) : look f i = some (gv b v) := by subst ha; simpa using h
theorem Agree.at_ {f : Fr} {e : Operand → Value} {i : Nat} {u : Value} (he : Agree f e) (hi : look f i = some u) : Agree ((i, u) :: f) e := by
  intro x v hx
  cases x with
  | tmp t =>
    refine he (.tmp t) v ?_
    simp only [ev] at hx ⊢
    rw [look_cons] at hx
    by_cases h : i = t
    · subst h; rw [if_pos rfl] at hx; rw [hi]; exact hx
    · rw [if_neg h] at hx; exact hx
  | const c => exact he (.const c) v hx
  | global g => exact he (.global g) v hx
  | func g => exact he (.func g) v hx
section
variable {P : Program} {N : Sz} {ops : Array Oper} {Q : Exit → Act → World → Prop} {o : Oper} {f : Fr} {w w' w0 : World} {v : Value} {k : Value → World → Prop} {X : Nat → Prop} {z : Z} {rs : List Res}
theorem Runs.at_ {i : Nat} {u : Value} (hi : look f i = some u) (h : Runs P o ((i, u) :: f) w v w') : Runs P o f w v w' := fun e he => h e (he.at_ hi)
theorem Sv.at_ {i : Nat} {u : Value} (hi : look f i = some u) (h : Sv P N ops Q o ((i, u) :: f) w k) : Sv P N ops Q o f w k := Sv.le (fun j v hj => by
  rw [look_cons] at hj
  by_cases e : i = j
  · subst e; rw [if_pos rfl] at hj; rw [hi]; exact hj
  · rw [if_neg e] at hj; exact hj) h
def Gd (N : Sz) (ops : Array Oper) (o : Oper) (f : Fr) (B : Bool) : Prop := ∀ a, Holds N f a → Region.wanted o (yielded ops a.tmps) = B
theorem yielded_undef {a : Act} (ha : Holds N f a) {j t : Nat} (hj : (ops[j]?).bind (·.dst) = some t) (ht : look f t = some undef) : yielded ops a.tmps j = none := by
  unfold yielded
  rw [hj]
  simp [ha.at_ t _ ht, undef]
theorem Gd.on {j t : Nat} {b : Bool} (hg : o.guard = some (j, true)) (hj : (ops[j]?).bind (·.dst) = some t) (ht : look f t = some (.bool b)) : Gd N ops o f b := fun a ha => by
  simp [Region.wanted, hg, yielded_of ha hj ht]
theorem Gd.no {j t : Nat} {b : Bool} (hg : o.guard = some (j, false)) (hj : (ops[j]?).bind (·.dst) = some t) (ht : look f t = some (.bool b)) : Gd N ops o f (!b) := fun a ha => by
  simp [Region.wanted, hg, yielded_of ha hj ht]
  try (cases b <;> rfl)
theorem Gd.gon {j t : Nat} {b c : Bool} (hg : o.guard = some (j, true)) (hj : (ops[j]?).bind (·.dst) = some t) (ht : look f t = some (gv c (.bool b))) : Gd N ops o f (c && b) := fun a ha => by
  cases c with
  | true => simp [Region.wanted, hg, yielded_of ha hj (show look f t = some (.bool b) from ht)]
  | false => simp [Region.wanted, hg, yielded_undef ha hj (show look f t = some undef from ht)]
theorem Sv_gpure {B : Bool} (hG : Gd N ops o f B) (hr : B = true → Runs P o f w v w) (h : k (gv B v) w) : Sv P N ops Q o f w k := by
  intro a ha
  unfold Op1
  rw [hG a ha]
  cases B with
  | true =>
    rw [if_pos rfl]
    exact owp_val (hr rfl _ ha.agree) ⟨v, rfl, h⟩
  | false =>
    rw [if_neg (by decide)]
    exact ⟨undef, rfl, h⟩
theorem Sv_gcall {B : Bool} (hG : Gd N ops o f B) (hS : Sp X w0 z w rs) (hr : B = true → Sv P N ops Q { o with guard := none } f w (fun v' w' => v' = v ∧ Sp X w0 z w' rs)) (h : ∀ w', Sp X w0 z w' rs → k (gv B v) w') : Sv P N ops Q o f w k := by
  intro a ha
  unfold Op1
  rw [hG a ha]
  cases B with
  | true =>
    rw [if_pos rfl]
    have h1 := hr rfl a ha
    unfold Op1 at h1
    rw [if_pos (by simp [Region.wanted])] at h1
    have h2 : o.wpIn N.F 0 P a w (fun a' w' => ∃ v', a' = a.put o.dst v' ∧ v' = v ∧ Sp X w0 z w' rs) Q := h1
    refine Oper.wpIn_mono (fun a' w' h3 => ?_) h2
    obtain ⟨v', rfl, rfl, h4⟩ := h3
    exact ⟨_, rfl, h w' h4⟩
  | false =>
    rw [if_neg (by decide)]
    exact ⟨undef, rfl, h w hS⟩
theorem R_pick_and {c x y : Operand} {b x' : Bool} (ho : o.op = .pick c x y) (hc : ev f c = some (.bool b)) (hx : ev f x = some (gv b (.bool x'))) (hy : ev f y = some (.bool false)) : Runs P o f w (.bool (b && x')) w :=
  R_pick (u := .bool false) ho hc (fun h => by rw [hx]; subst h; rfl) (fun h => by rw [hy]; subst h; rfl)
theorem R_pick_or {c x y : Operand} {b y' : Bool} (ho : o.op = .pick c x y) (hc : ev f c = some (.bool b)) (hx : ev f x = some (.bool true)) (hy : ev f y = some (gv (!b) (.bool y'))) : Runs P o f w (.bool (b || y')) w :=
  R_pick (u := .bool false) ho hc (fun h => by rw [hx]; subst h; rfl) (fun h => by rw [hy]; subst h; rfl)
theorem wv {rest : List Oper} {d : Nat} (hd : o.dst = some d) (hN : Nat.blt d N.n = true) (hg : o.guard = none) (hr : Runs P o f w v w) (h : W P N ops Q rest ((d, v) :: f) w) : W P N ops Q (o :: rest) f w :=
  W_cons hd (Nat.le_of_ble_eq_true hN) (Sv_val hg hr h)
theorem wg {rest : List Oper} {d : Nat} {B : Bool} (hd : o.dst = some d) (hN : Nat.blt d N.n = true) (hG : Gd N ops o f B) (hr : B = true → Runs P o f w v w) (h : W P N ops Q rest ((d, gv B v) :: f) w) : W P N ops Q (o :: rest) f w :=
  W_cons hd (Nat.le_of_ble_eq_true hN) (Sv_gpure hG hr h)
end
end Go.Proofs.YtaljccgfnmfhnaaGreatDoorG
set_option linter.all false
namespace Go.Proofs.YtaljccgfnmfhnaaGreatDoorG
open Go Go.RowKit
def posL : List Nat → Nat → Nat
  | [], _ => 0
  | x :: r, i => bif Nat.beq x i then 0 else posL r i + 1
def renO (s : List Nat) (o : Oper) : Oper := { o with after := o.after.map (fun e => { e with on := posL s e.on }), guard := o.guard.map fun g => (posL s g.1, g.2) }
def permO (s : List Nat) (ops : Array Oper) : Array Oper := (s.map fun i => renO s (ops.getD i default)).toArray
def permB (s : List Nat) (n : Nat) : Bool := decide (s.length = n) && ((List.range n).all fun i => s.contains i) && (s.all fun x => decide (x < n)) && decide s.Nodup
theorem posL_get : ∀ {s : List Nat} {i : Nat}, i ∈ s → s[posL s i]? = some i
  | x :: r, i, h => by
    unfold posL
    cases hb : Nat.beq x i
    · rcases List.mem_cons.1 h with rfl | h
      · rw [Nat.beq_refl] at hb; cases hb
      · simpa using posL_get h
    · obtain rfl := Nat.eq_of_beq_eq_true hb
      simp
theorem posL_none : ∀ {s : List Nat} {i : Nat}, i ∉ s → posL s i = s.length
  | [], _, _ => rfl
  | x :: r, i, h => by
    unfold posL
    cases hb : Nat.beq x i
    · simpa using posL_none (fun hr => h (List.mem_cons_of_mem _ hr))
    · exact absurd (by rw [Nat.eq_of_beq_eq_true hb]; exact List.mem_cons_self) h
section
variable {P : Program} {N : Sz} {ops : Array Oper} {Q : Exit → Act → World → Prop} {f : Fr} {w : World}
theorem Rgn.perm (s : List Nat) (hB : permB s ops.size = true) (h : Rgn P N Q (permO s ops) f w) : Rgn P N Q ops f w := by
  simp only [permB, Bool.and_eq_true, decide_eq_true_eq, List.all_eq_true, List.mem_range, List.contains_iff_mem] at hB
  obtain ⟨⟨⟨hl, hm⟩, hlt⟩, hnd⟩ := hB
  have hsz : (permO s ops).size = ops.size := by simp [permO, hl]
  have hin : ∀ {i}, i < ops.size → posL s i < ops.size ∧ s[posL s i]? = some i := fun {i} hi => by
    have := posL_get (hm i hi)
    exact ⟨by rw [← hl]; exact (List.getElem?_eq_some_iff.1 this).1, this⟩
  have hout : ∀ {i}, ¬ i < ops.size → posL s i = ops.size := fun {i} hi => by rw [posL_none (fun hs => hi (hlt i hs)), hl]
  have hinj : ∀ {i j}, i < ops.size → posL s i = posL s j → i = j := fun {i j} hi he => by
    by_cases hj : j < ops.size
    · have h1 := (hin hi).2
      rw [he, (hin hj).2] at h1
      exact (Option.some.inj h1).symm
    · have h1 := (hin hi).1
      rw [he, hout hj] at h1
      omega
  have hop : ∀ i, (permO s ops)[posL s i]? = (ops[i]?).map (renO s) := fun i => by
    by_cases hi : i < ops.size
    · simp [permO, (hin hi).2, hi]
    · rw [hout hi, Array.getElem?_eq_none (by rw [hsz]; exact Nat.le_refl _), Array.getElem?_eq_none (by omega)]
      rfl
  have hsurj : ∀ k, k < ops.size → ∃ i, i < ops.size ∧ posL s i = k := fun k hk => by
    refine ⟨s[k], hlt _ (List.getElem_mem _), ?_⟩
    have h1 := (hin (hlt _ (List.getElem_mem (by omega : k < s.length)))).2
    have h2 : s[k]? = some s[k] := List.getElem?_eq_getElem (by omega)
    rw [← h2] at h1
    exact (List.getElem?_inj (by have := (hin (hlt _ (List.getElem_mem (by omega : k < s.length)))).1; omega) hnd).1 h1
  have hready : ∀ (l l' : Array Bool), (∀ i, l'[posL s i]? = l[i]?) → ∀ i, i < ops.size → (posL s i ∈ Region.ready .any (permO s ops) l' ↔ i ∈ Region.ready .any ops l) := fun l l' hr i hi => by
    simp only [Region.ready, List.mem_filter, List.mem_range, hsz, hi, (hin hi).1, true_and]
    rw [hop i]
    have e1 : l'.getD (posL s i) true = l.getD i true := by simp only [Array.getD_eq_getD_getElem?, hr]
    rw [e1]
    cases ho : ops[i]? with
    | none => simp
    | some o =>
      have e2 : ((renO s o).after.all fun e => !Region.binds .any e || l'.getD e.on false) = (o.after.all fun e => !Region.binds .any e || l.getD e.on false) := by
        simp only [renO, Array.all_map]
        congr 1
        funext e
        simp only [Function.comp, Array.getD_eq_getD_getElem?, hr]
        rfl
      simp only [Option.map_some, Option.getD_some, e2]
  have key : ∀ (n : Nat) (l l' : Array Bool) (a : Act) (w : World), l.size = ops.size → l'.size = ops.size → (∀ i, l'[posL s i]? = l[i]?) → wpAnyIn N.F 0 P .any (permO s ops) Q n l' a w → wpAnyIn N.F 0 P .any ops Q n l a w := by
    intro n
    have hnil : ∀ (l l' : Array Bool), (∀ i, l'[posL s i]? = l[i]?) → (Region.ready .any (permO s ops) l' = [] ↔ Region.ready .any ops l = []) := fun l l' hr => by
      simp only [List.eq_nil_iff_forall_not_mem]
      constructor
      · intro h i hi
        have hi' : i < ops.size := by
          simp only [Region.ready, List.mem_filter, List.mem_range] at hi
          exact hi.1
        exact h _ ((hready l l' hr i hi').2 hi)
      · intro h k hk
        have hk' : k < ops.size := by
          simp only [Region.ready, List.mem_filter, List.mem_range, hsz] at hk
          exact hk.1
        obtain ⟨i, hi, rfl⟩ := hsurj k hk'
        exact h _ ((hready l l' hr i hi).1 hk)
    induction n with
    | zero =>
      rintro l l' a w _ _ hr ⟨h1, h2⟩
      exact ⟨(hnil l l' hr).1 h1, h2⟩
    | succ n ih =>
      rintro l l' a w h1 h2 hr ⟨h3, h4⟩
      refine ⟨fun h => h3 ((hnil l l' hr).2 h), fun i hi => ?_⟩
      have hi' : i < ops.size := by
        simp only [Region.ready, List.mem_filter, List.mem_range] at hi
        exact hi.1
      have h5 := h4 _ ((hready l l' hr i hi').2 hi)
      have hn : ∀ a w, wpAnyIn N.F 0 P .any (permO s ops) Q n (l'.setIfInBounds (posL s i) true) a w → wpAnyIn N.F 0 P .any ops Q n (l.setIfInBounds i true) a w := fun a w h => by
        refine ih _ _ a w (by simp [h1]) (by simp [h2]) (fun j => ?_) h
        simp only [Array.getElem?_setIfInBounds, h1, h2, (hin hi').1, hi']
        by_cases he : i = j
        · subst he; simp
        · have : ¬ posL s i = posL s j := fun h => he (hinj hi' h)
          simp [he, this, hr]
      have h6 := wpOpIn_mono hn h5
      unfold wpOpIn at h6 ⊢
      rw [hop i] at h6
      cases ho : ops[i]? with
      | none => rw [ho] at h6; exact h6
      | some o =>
        rw [ho] at h6
        have hw : Region.wanted (renO s o) (yielded (permO s ops) a.tmps) = Region.wanted o (yielded ops a.tmps) := by
          unfold Region.wanted renO
          cases hg : o.guard with
          | none => rfl
          | some g =>
            obtain ⟨j, b⟩ := g
            simp only [Option.map_some]
            have : yielded (permO s ops) a.tmps (posL s j) = yielded ops a.tmps j := by
              unfold yielded
              rw [hop j]
              cases ops[j]? <;> rfl
            rw [this]
        simp only [Option.map_some, hw] at h6 ⊢
        exact h6
  intro a ha
  have := h a ha
  rw [hsz] at this
  refine key _ _ _ a _ (by simp) (by simp) (fun i => ?_) this
  by_cases hi : i < ops.size
  · simp [hi, (hin hi).1]
  · simp [hi, hout hi]
end
end Go.Proofs.YtaljccgfnmfhnaaGreatDoorG
set_option linter.all false
namespace Go.Proofs.YtaljccgfnmfhnaaGreatDoorG
open Go Go.RowKit
structure YV (P : Program) (zc : Z) (l : Nat) {α γ : Type} (encs : α → List Value) (R : List α × Bool → γ → Res) (ok : List α → α → Prop) : Prop where
  call : ∀ {h y x w z}, zle zc z → In z w [R (h, true) y] → ok h x → ∃ fn tmps a b, (Instr.yield l (encs x).toArray).run P w = .ok (.round l fn tmps a b) w ∧
    RoundIn Fence.wide 0 P l fn tmps a b w fun e w' => ∃ b y', e = .returned (.bool b) ∧ Sp (FF [R (h, true) y]) w z w' [R (h ++ [x], b) y']
def objR (l : Nat) (o : Obj) : Res where
  F := fun k => k = l
  P := fun w => w.heap[l]? = some o
  st := fun {w w'} h hc => (hc l (Array.getElem?_eq_some_iff.1 h).1 rfl).trans h
  lt := fun {w k} h hk => hk ▸ (Array.getElem?_eq_some_iff.1 h).1
abbrev mkR (D : Nat) : Res := objR D (.deferred (some []))
section
variable {X : Nat → Prop} {w0 w w' : World} {z : Z} {rs out : List Res}
theorem Sp.putObj (h : Sp X w0 z w rs) (i : Nat) {l : Nat} {o o' : Obj} (hi : nth rs i = some (objR l o)) : Sp X w0 z (w.putObj l o') (upd rs i (objR l o')) := by
  have hP : w.heap[l]? = some o := h.at_ i hi
  refine h.set i hi ⟨rfl, rfl, rfl, by simp, fun k hk hn => World.putObj_heap_other hn⟩ (World.putObj_heap_same (Array.getElem?_eq_some_iff.1 hP).1) fun k hk => .inl hk
theorem Sp.newObj (h : Sp X w0 z w rs) (o : Obj) : Sp X w0 z (w.alloc o) (objR w.heap.size o :: rs) :=
  h.push (Chg.alloc w o) (heap_new w o) (fun k hk => by rw [show k = w.heap.size from hk]; exact Nat.le_refl _)
theorem Sp.drop (h : Sp X w0 z w rs) {rs' : List Res} (hs : rs'.Sublist rs) : Sp X w0 z w rs' :=
  ⟨h.z0, h.dz, h.chg, fun r hr => h.all r (hs.subset hr), fun r hr => h.new r (hs.subset hr), h.sep.sublist hs⟩
theorem Sp.outAll (h : Sp X w0 z w rs) : In (zB w (FF rs)) w rs := ⟨zB_sub _ _, h.all, h.sep, fun k hk => zB_none hk⟩
theorem Sp.zlAll (h : Sp X w0 z w rs) : zle z (zB w (FF rs)) := fun b c hb => by
  rw [zB_of (fun ⟨q, hq, hk⟩ => by rw [h.zn hq hk] at hb; cases hb)]
  exact h.sub b c hb
theorem Sp.callAll (h : Sp X w0 z w rs) (hc : Sp (FF rs) w (zB w (FF rs)) w' out) : Sp X w0 z w' out := by
  have hnew : ∀ k, FF rs k → X k ∨ w0.heap.size ≤ k := fun k ⟨q, hq, hk⟩ => h.new q hq k hk
  refine ⟨h.z0, h.dz, h.chg.trans hc.chg hnew, hc.all, fun r hr k hk => ?_, hc.sep⟩
  rcases hc.new r hr k hk with h1 | h1
  · exact hnew k h1
  · exact .inr (Nat.le_trans h.chg.size h1)
end
section
variable {P : Program} {N : Sz} {ops : Array Oper} {Q : Exit → Act → World → Prop} {o : Oper} {f : Fr} {w w0 : World} {k : Value → World → Prop} {X : Nat → Prop} {z zc : Z} {rs : List Res} {α γ : Type} {encs : α → List Value} {R : List α × Bool → γ → Res} {ok : List α → α → Prop} {l : Nat}
theorem S_yield (H : YV P zc l encs R ok) (hS : Sp X w0 z w rs) (i : Nat) {h : List α} {y : γ} (hi : nth rs i = some (R (h, true) y)) (hz : zle zc z) (x : α) (hok : ok h x) {fx : Operand} {xs : List Operand} {ts : Array TypeId} (hg : o.guard = none)
    (ho : o.op = .call { callee := .value fx, args := xs.toArray, argTypes := ts }) (hxv : ev f fx = some (.func (.yield l) #[] #[])) (hx : evs f xs = some (encs x))
    (hk : ∀ b y' w', Sp X w0 z w' (upd rs i (R (h ++ [x], b) y')) → k (.bool b) w') : Sv P N ops Q o f w k := by
  have hp : pick rs [i] = [R (h, true) y] := by simp [pick, hi]
  have h1 := hS.out [i] (by simp)
  have h2 := hS.zl [i]
  rw [hp] at h1 h2
  obtain ⟨fn, tmps, a', b', hy, hr⟩ := H.call (hz.trans h2) h1 hok
  intro a ha
  unfold Op1
  rw [if_pos (wanted_none hg)]
  refine ⟨fun _ _ => trivial, ?_⟩
  have h3 : xs.map a.eval = encs x := ha.agree.evs_ hx
  have hrun : (execOp a.eval o).run P w = .ok (.round l fn tmps a' b') w := by
    unfold execOp
    simp [ho, resolve, Deferred.ofValue, ha.agree fx _ hxv, invoke, h3, hy]
  rw [semAt_ok hrun (by intro d h; cases h)]
  refine ⟨fun h => (by cases h), ?_⟩
  refine RoundIn.mono (F := N.F) hr ?_
  rintro e w' ⟨b, y', rfl, h3⟩
  refine ⟨_, rfl, hk b y' w' (hS.set i hi (h3.chg.mono fun j hj => .inl ?_) (h3.at_ 0 rfl) fun j hj => ?_)⟩
  · obtain ⟨q, hq, hqj⟩ := hj
    rw [List.mem_singleton.1 hq] at hqj
    exact hqj
  · rcases h3.new (R (h ++ [x], b) y') List.mem_cons_self j hj with h4 | h4
    · obtain ⟨q, hq, hqj⟩ := h4
      rw [List.mem_singleton.1 hq] at hqj
      exact .inl hqj
    · exact .inr h4
end
def putAll : List Tmp → List Value → Fr → Fr
  | p :: ps, v :: vs, f => putAll ps vs ((p, v) :: f)
  | _, _, f => f
theorem Holds.putAll {N : Sz} {a : Act} (l : Nat) : ∀ {ps : List Tmp} {vs : List Value} {f : Fr} {tmps : Array Value}, Holds N f { a with tmps := tmps } → (∀ p ∈ ps, p < N.n) →
    Holds ⟨N.n, [], some l⟩ (putAll ps vs f) { tmps := (ps.zip vs).foldl (fun t (p, v) => t.setIfInBounds p v) tmps, defers := [] }
  | [], vs, f, tmps, hf, _ => ⟨rfl, hf.size, hf.at_⟩
  | p :: ps, [], f, tmps, hf, _ => ⟨rfl, hf.size, hf.at_⟩
  | p :: ps, v :: vs, f, tmps, hf, hp => Holds.putAll l (ps := ps) (vs := vs) (f := (p, v) :: f) (tmps := tmps.setIfInBounds p v) (hf.put (hp p List.mem_cons_self) v) (fun q hq => hp q (List.mem_cons_of_mem _ hq))
def rangeQ {α γ δ : Type} (X : Nat → Prop) (w0 : World) (z : Z) (T : Res) (K : List α → γ → Prop) (J : List α → γ → List Res) (Kx : Code → List α → δ → Prop) (Jx : Code → List α → δ → List Res) (pre : List α) : Exit → Act → World → Prop
  | .normal, _, w => ∃ y, K pre y ∧ Sp X w0 z w (J pre y ++ [T])
  | .ret, _, w => ∃ y, Kx .ret pre y ∧ Sp X w0 z w (Jx .ret pre y ++ [T])
  | .exit i, _, w => ∃ y, Kx (.exit i) pre y ∧ Sp X w0 z w (Jx (.exit i) pre y ++ [T])
  | .goto i, _, w => ∃ y, Kx (.goto i) pre y ∧ Sp X w0 z w (Jx (.goto i) pre y ++ [T])
  | _, _, _ => False
section
variable {P : Program} {n : Nat} {ms : List Nat} {Q : Exit → Act → World → Prop} {f : Fr} {w w0 : World} {X : Nat → Prop} {z : Z} {rs : List Res} {α γ δ : Type}
theorem E_range_on {l : Nat} {T : Res} {K : List α → γ → Prop} {J : List α → γ → List Res} {Kx : Code → List α → δ → Prop} {Jx : Code → List α → δ → List Res} {pre : List α} (y : γ) (hK : K pre y) (h : Sp X w0 z w (J pre y ++ [T])) : E ⟨n, [], some l⟩ (rangeQ X w0 z T K J Kx Jx pre) .normal f w := fun _ _ => ⟨y, hK, h⟩
def asgQ (n l : Nat) (X : Nat → Prop) (w0 : World) (z : Z) (T : Res) (I : Fr → List Res → Prop) : Act → World → Prop := fun a w => ∃ f J, Holds ⟨n, [], some l⟩ f a ∧ I f J ∧ Sp X w0 z w (J ++ [T])
theorem E_asg {l : Nat} {T : Res} {I : Fr → List Res → Prop} {Q' : Exit → Act → World → Prop} (s : List Nat) (J : List Res) (hI : I (sub s f) J) (h : Sp X w0 z w (J ++ [T])) : E ⟨n, [], some l⟩ (Exit.then (asgQ n l X w0 z T I) Q') .normal f w := fun a ha => ⟨_, J, ha.sub s, hI, h⟩
def prR (p : Prop) : Res where
  F := fun _ => False
  P := fun _ => p
  st := fun h _ => h
  lt := fun _ h => h.elim
def Iter (P : Program) (z : Z) (g : Nat) (lb : List Value) {α : Type} (encs : α → List Value) (cs : List Res) (xs : List α) : Prop :=
  ∀ (γ : Type) (l : Nat) (R : List α × Bool → γ → Res) (y : γ) (z' zc : Z) (w : World), zle z z' → zle zc z' → YV P zc l encs R (fun h x => h ++ [x] <+: xs) → In z' w (R ([], true) y :: cs) →
    Calls P g (#[Value.func (.yield l) #[] #[]] ++ lb.toArray) w fun e w' => ∃ v pre b y', e = .returned v ∧ (b = true → pre = xs) ∧ pre <+: xs ∧ Sp (FF (R ([], true) y :: cs)) w z' w' (R (pre, b) y' :: cs)
theorem Sp.bunf {l cs : List Res} (h : Sp X w0 z w (l ++ cs)) : Sp X w0 z w (allR l :: cs) := by
  have h1 := (h.perm (List.perm_append_comm (l₁ := l) (l₂ := cs))).bunl
  exact h1.perm (List.perm_append_comm (l₁ := cs) (l₂ := [allR l]))
theorem perm_tail {α : Type _} (J L p cs : List α) : (J ++ L ++ p ++ cs).Perm ((J ++ cs) ++ L ++ p) := by
  simp only [List.append_assoc]
  refine List.Perm.append_left _ ?_
  rw [← List.append_assoc L p cs]
  exact List.perm_append_comm
theorem Sp.last2 {J : List Res} {a b : Res} : (J ++ [a, b]).Perm (a :: b :: J) := List.perm_append_comm (l₁ := J) (l₂ := [a, b])
theorem Sp.recd {J : List Res} {l : Nat} {o o' : Obj} {b : Res} (h : Sp X w0 z w (J ++ [objR l o, b])) : Sp X w0 z (w.putObj l o') (J ++ [objR l o', b]) :=
  ((h.perm Sp.last2).putObj 0 (o' := o') rfl).perm Sp.last2.symm
theorem Sp.rec_at {J : List Res} {l : Nat} {o : Obj} {b : Res} (h : Sp X w0 z w (J ++ [objR l o, b])) : w.heap[l]? = some o := h.all (objR l o) (by simp)
theorem run_yieldL {P : Program} {l : Nat} {r : Loop} {ps : List Tmp} {vs : List Value} (h : w.heap[l]? = some (.loop r)) (hp : r.params = ps.toArray) (hs : vs.length = ps.length) :
    (Instr.yield l vs.toArray).run P w = .ok (.round l r.fn ((ps.zip vs).foldl (fun t (p, v) => t.setIfInBounds p v) r.tmps) r.assign r.body) w := by
  rw [run_yield h (by simp [hp, hs])]
  simp [hp]
theorem C_range {t : Nat} {ps : List Tmp} {assign body : Code} {g : Nat} {lb : List Value} {encs : α → List Value} {cs : List Res} {xs : List α} (J : List α → γ → List Res) (K : List α → γ → Prop) (Jx : Code → List α → δ → List Res) (Kx : Code → List α → δ → Prop)
    (I : List α → α → γ → Fr → List Res → Prop) (y0 : γ)
    (hg : look f t = some (.func (.func g) #[] lb.toArray)) (eg : ∀ args w, (callFunc g args).run P w = .ok (.enter g args) w) (hps : ∀ x, (encs x).length = ps.length) (hpn : ∀ p ∈ ps, p < n)
    (hS : Sp X w0 z w (J [] y0 ++ cs)) (hit : Iter P z g lb encs cs xs) (hK : K [] y0)
    (hA : ∀ (l : Nat) (T : Res) (X' : Nat → Prop) (w0' : World) (z' : Z) (pre : List α) (x : α) (y : γ) (w' : World), zle z z' → pre ++ [x] <+: xs → K pre y → Sp X' w0' z' w' (J pre y ++ [T]) →
      C P ⟨n, [], some l⟩ (Exit.then (asgQ n l X' w0' z' T (I pre x y)) (fun _ _ _ => False)) assign (putAll ps (encs x) f) w')
    (hB : ∀ (l : Nat) (T : Res) (X' : Nat → Prop) (w0' : World) (z' : Z) (pre : List α) (x : α) (y : γ) (f' : Fr) (J' : List Res) (w' : World), zle z z' → pre ++ [x] <+: xs → K pre y → I pre x y f' J' → Sp X' w0' z' w' (J' ++ [T]) →
      C P ⟨n, [], some l⟩ (rangeQ X' w0' z' T K J Kx Jx (pre ++ [x])) body f' w')
    (hdone : ∀ (D : Nat) (y : γ) (w' : World), K xs y → Sp X w0 z w' (mkR D :: (J xs y ++ cs)) → E ⟨n, D :: ms, none⟩ Q .normal f w')
    (hstop : ∀ (D : Nat) (c : Code) (pre : List α) (y : δ) (w' : World), pre <+: xs → Kx c pre y → Sp X w0 z w' (mkR D :: (Jx c pre y ++ cs)) → C P ⟨n, D :: ms, none⟩ Q c f w') :
    C P ⟨n, ms, none⟩ Q (.rangeFunc (.tmp t) ps.toArray assign body) f w := by
  intro a ha
  refine wpIn_rangeFunc ?_
  intro fn hfn
  obtain ⟨D, hD⟩ : ∃ D, w.heap.size = D := ⟨_, rfl⟩
  obtain ⟨rec, hrec⟩ : ∃ rec : LoopState → Option Code → Loop, rec = fun st pe => { state := st, pending := pe, fn, tmps := a.tmps, params := ps.toArray, assign, body, defers := D } := ⟨_, rfl⟩
  have hS1 := (hS.newObj (.deferred (some []))).newObj (.loop (rec .ready none))
  rw [World.size_alloc, hD] at hS1
  obtain ⟨W1, hW1⟩ : ∃ W1, (w.alloc (.deferred (some []))).alloc (.loop (rec .ready none)) = W1 := ⟨_, rfl⟩
  rw [hW1] at hS1
  obtain ⟨R, hR⟩ : ∃ R : List α × Bool → γ ⊕ (Code × δ) → Res, R = fun s y => match s.2, y with
    | true, .inl y => allR (J s.1 y ++ [objR (D + 1) (.loop (rec .ready none)), mkR D] ++ [prR (K s.1 y)])
    | false, .inr (c, y) => allR (Jx c s.1 y ++ [objR (D + 1) (.loop (rec .done (some c))), mkR D] ++ [prR (Kx c s.1 y)])
    | _, _ => prR False := ⟨_, rfl⟩
  have hRt : ∀ pre y, R (pre, true) (.inl y) = allR (J pre y ++ [objR (D + 1) (.loop (rec .ready none)), mkR D] ++ [prR (K pre y)]) := fun pre y => by rw [hR]
  have hRf : ∀ pre c y, R (pre, false) (.inr (c, y)) = allR (Jx c pre y ++ [objR (D + 1) (.loop (rec .done (some c))), mkR D] ++ [prR (Kx c pre y)]) := fun pre c y => by rw [hR]
  have hRn : ∀ pre y, R (pre, true) (.inr y) = prR False := fun pre y => by rw [hR]
  have hRn' : ∀ pre y, R (pre, false) (.inl y) = prR False := fun pre y => by rw [hR]
  refine ⟨D + 1, [mark D], W1, { target := .fn (.func g) lb.toArray, args := #[.func (.yield (D + 1)) #[] #[]] }, W1, g, #[.func (.yield (D + 1)) #[] #[]] ++ lb.toArray, W1, ?_, ?_, fun _ _ => trivial, ?_, fun h => (by cases h), ?_⟩
  · rw [← hW1, hrec, ← hD]; exact run_enterLoop_outer _ _ _ _ _
  · have : a.eval (.tmp t) = .func (.func g) #[] lb.toArray := ha.agree (.tmp t) _ hg
    have h2 : a.eval (.const (.func (.yield (D + 1)) #[] #[])) = .func (.yield (D + 1)) #[] #[] := rfl
    simp [resolve, this, h2, Deferred.ofValue]
  · simp [invoke, eg]
  refine (callsIn_wide (n := 0 - 1)).2 ?_
  have hS2 : Sp X w0 z W1 (R ([], true) (.inl y0) :: cs) := by
    rw [hRt]
    have h1 : Sp X w0 z W1 (prR (K [] y0) :: (J [] y0 ++ [objR (D + 1) (.loop (rec .ready none)), mkR D] ++ cs)) := by
      refine Sp.cons (hS1.perm ?_) hK (fun k h => h)
      rw [List.append_assoc]
      exact (List.perm_append_comm_assoc [objR (D + 1) (.loop (rec .ready none)), mkR D] (J [] y0) cs)
    refine Sp.bunf (Sp.perm h1 ?_)
    rw [List.append_assoc (_ ++ _) [_] cs]
    exact List.perm_middle.symm
  refine (hit (γ ⊕ (Code × δ)) (D + 1) R (.inl y0) _ _ W1 hS2.zlAll (zle.refl _) ⟨?_⟩ hS2.outAll).mono ?_
  · -- one round
    rintro h y' x w' z' hz hI hok
    obtain ⟨y, rfl⟩ : ∃ y, y' = .inl y := by
      cases y' with
      | inl y => exact ⟨y, rfl⟩
      | inr y => rw [hRn] at hI; exact (hI.all _ List.mem_cons_self : False).elim
    have hzz := hS2.zlAll.trans hz
    rw [hRt] at hI
    have hI' := hI.unb
    have hKy : K h y := hI'.all (prR (K h y)) (by simp)
    have hSb := hI'.sp.drop (List.sublist_append_left _ _)
    have hl := hSb.rec_at
    refine ⟨fn, _, assign, body, (by have := run_yieldL (P := P) (vs := encs x) (ps := ps) hl (by rw [hrec]) (hps x); rw [hrec] at this; exact this), ?_⟩
    refine roundIn_of_wpIn (F := Fence.wide) hfn ?_
    refine wpIn_mono (hA (D + 1) (allR [objR (D + 1) (.loop (rec .ready none)), mkR D]) _ w' z' h x y w' hzz hok hKy hSb.bunl _ (Holds.putAll (D + 1) (tmps := a.tmps) (a := a) ha hpn)) ?_
    intro e a₁ w₁ hq
    cases e with
    | normal =>
      obtain ⟨f', J0, hf', hIa, hS3⟩ := hq
      have hS3' := hS3.unbl
      refine ⟨_, run_beginRound hS3'.rec_at (by rw [hrec]), ?_⟩
      refine wpIn_mono (hB (D + 1) (allR [objR (D + 1) (.loop { rec .ready none with state := .busy }), mkR D]) _ w' z' h x y f' J0 _ hzz hok hKy hIa hS3'.recd.bunl a₁ hf') ?_
      intro e₂ a₂ w₃ hq₂
      rw [hRt]
      have jump : ∀ (c : Code) (y' : δ), Kx c (h ++ [x]) y' → Sp (FF (J h y ++ [objR (D + 1) (.loop (rec .ready none)), mkR D] ++ [prR (K h y)])) w' z' w₃ (Jx c (h ++ [x]) y' ++ [allR [objR (D + 1) (.loop { rec .ready none with state := .busy }), mkR D]]) →
          ∃ v w'', (Instr.endRound (D + 1) (some c)).run P w₃ = .ok v w'' ∧ ∃ b y', Ending.returned v = .returned (.bool b) ∧ Sp (FF [allR (J h y ++ [objR (D + 1) (.loop (rec .ready none)), mkR D] ++ [prR (K h y)])]) w' z' w'' [R (h ++ [x], b) y'] := fun c y' hk h4 => by
        have h4' := h4.unbl
        refine ⟨_, _, run_endRound (some c) h4'.rec_at, false, .inr (c, y'), rfl, ?_⟩
        rw [hRf]
        refine Sp.bun1 (Sp.perm (Sp.cons (r' := prR (Kx c (h ++ [x]) y')) ?_ hk (fun k h => h)) (List.perm_append_comm (l₁ := [prR (Kx c (h ++ [x]) y')]) (l₂ := Jx c (h ++ [x]) y' ++ [objR (D + 1) (.loop (rec .done (some c))), mkR D])))
        have := h4'.recd (o' := .loop { { rec .ready none with state := .busy } with state := .done, pending := some c })
        rw [hrec] at this ⊢
        exact this
      cases e₂ with
      | normal =>
        obtain ⟨y', hk, h4⟩ := hq₂
        have h4' := h4.unbl
        refine ⟨_, _, run_endRound none h4'.rec_at, true, .inl y', rfl, ?_⟩
        rw [hRt]
        refine Sp.bun1 (Sp.perm (Sp.cons (r' := prR (K (h ++ [x]) y')) ?_ hk (fun k h => h)) (List.perm_append_comm (l₁ := [prR (K (h ++ [x]) y')]) (l₂ := J (h ++ [x]) y' ++ [objR (D + 1) (.loop (rec .ready none)), mkR D])))
        have := h4'.recd (o' := .loop { { rec .ready none with state := .busy } with state := .ready, pending := none })
        rw [hrec] at this ⊢
        exact this
      | ret => obtain ⟨y', hk, h4⟩ := hq₂; exact jump .ret y' hk h4
      | exit i => obtain ⟨y', hk, h4⟩ := hq₂; exact jump (.exit i) y' hk h4
      | goto i => obtain ⟨y', hk, h4⟩ := hq₂; exact jump (.goto i) y' hk h4
      | panic ch => exact hq₂.elim
      | outgrown => exact hq₂.elim
    | exit i => exact hq.elim
    | goto i => exact hq.elim
    | ret => exact hq.elim
    | panic ch => exact hq.elim
    | outgrown => exact hq.elim
  · -- behind the iterator
    rintro e w3 ⟨v, pre, b, yy, rfl, hb, hpre, hS3⟩
    have hS4 := hS2.callAll hS3
    have hH : Holds ⟨n, D :: ms, none⟩ f { a with defers := [mark D] ++ a.defers } := ⟨by rw [ha.defers]; rfl, ha.size, ha.at_⟩
    cases b with
    | true =>
      obtain rfl := hb rfl
      obtain ⟨y', rfl⟩ : ∃ y, yy = .inl y := by
        cases yy with
        | inl y => exact ⟨y, rfl⟩
        | inr y => rw [hRn] at hS4; exact (hS4.all _ List.mem_cons_self : False).elim
      rw [hRt] at hS4
      have h5 := hS4.unb
      have hk : K pre y' := h5.all (prR (K pre y')) (by simp)
      have h6 : Sp X w0 z w3 ((J pre y' ++ cs) ++ [objR (D + 1) (.loop (rec .ready none)), mkR D]) := (h5.perm (perm_tail _ _ _ _)).drop (List.sublist_append_left _ _)
      have hE : (Instr.endLoop (D + 1)).run P w3 = .ok none (w3.putObj (D + 1) (.loop { rec .ready none with state := .exhausted })) := by
        rw [run_endLoop h6.rec_at (by rw [hrec]; simp), hrec]
      refine ⟨none, _, hE, ?_⟩
      refine hdone D y' _ hk ?_ _ hH
      exact (h6.recd (o' := .loop { rec .ready none with state := .exhausted })).perm Sp.last2 |>.drop (List.sublist_cons_self _ _)
    | false =>
      obtain ⟨c, y', rfl⟩ : ∃ c y, yy = .inr (c, y) := by
        cases yy with
        | inr y => exact ⟨y.1, y.2, rfl⟩
        | inl y => rw [hRn'] at hS4; exact (hS4.all _ List.mem_cons_self : False).elim
      rw [hRf] at hS4
      have h5 := hS4.unb
      have hk : Kx c pre y' := h5.all (prR (Kx c pre y')) (by simp)
      have h6 : Sp X w0 z w3 ((Jx c pre y' ++ cs) ++ [objR (D + 1) (.loop (rec .done (some c))), mkR D]) := (h5.perm (perm_tail _ _ _ _)).drop (List.sublist_append_left _ _)
      have hE : (Instr.endLoop (D + 1)).run P w3 = .ok (some c) (w3.putObj (D + 1) (.loop { rec .done (some c) with state := .exhausted })) := by
        rw [run_endLoop h6.rec_at (by rw [hrec]; simp), hrec]
      refine ⟨some c, _, hE, ?_⟩
      refine hstop D c pre y' _ hpre hk ?_ _ hH
      exact (h6.recd (o' := .loop { rec .done (some c) with state := .exhausted })).perm Sp.last2 |>.drop (List.sublist_cons_self _ _)
end
def msR (ms : List Nat) : Res := allR (ms.map mkR)
section
variable {P : Program} {n : Nat} {ms : List Nat} {fn : Func} {R : Ending → World → Prop} {Q : Exit → Act → World → Prop} {f : Fr} {w w0 : World} {X : Nat → Prop} {z : Z} {rs : List Res}
theorem Sp.ms0 (h : Sp X w0 z w rs) : Sp X w0 z w (msR [] :: rs) := h.cons (r' := msR []) (by have h0 : (allR []).P w := (show Sp X w0 z w ([] ++ rs) from h).bunf.all _ List.mem_cons_self; exact h0) (fun k hk => by obtain ⟨r, hr, _⟩ := hk; cases hr)
theorem nth_perm {r : Res} : ∀ {rs : List Res} {i : Nat}, nth rs i = some r → rs.Perm (r :: del rs i)
  | [], _, h => by cases h
  | q :: l, 0, h => by obtain rfl := Option.some.inj h; exact .refl _
  | q :: l, i + 1, h => ((nth_perm (rs := l) (i := i) h).cons q).trans (.swap _ _ _)
theorem Sp.mj {D : Nat} (h : Sp X w0 z w (mkR D :: rs)) (i : Nat) (hi : nth rs i = some (msR ms)) : Sp X w0 z w (msR (D :: ms) :: del rs i) := by
  have h1 : Sp X w0 z w (allR (ms.map mkR) :: mkR D :: del rs i) := h.perm (((nth_perm hi).cons _).trans (.swap _ _ _))
  have h2 := h1.unb
  have h3 : Sp X w0 z w ((mkR D :: ms.map mkR) ++ del rs i) := h2.perm List.perm_middle
  exact h3.bunf
theorem E_marks {ro : Option Nat} : ∀ {ms : List Nat} {w : World}, Sp X w0 z w (msR ms :: rs) → (∀ w', Sp X w0 z w' rs → E ⟨n, [], ro⟩ (bodyP P fn R) .ret f w') → E ⟨n, ms, ro⟩ (bodyP P fn R) .ret f w
  | [], w, h, k => k w (h.drop (List.sublist_cons_self _ _))
  | D :: ms, w, h, k => by
    have h1 : Sp X w0 z w (mkR D :: (ms.map mkR ++ rs)) := Sp.unb (l := mkR D :: ms.map mkR) h
    refine E_mark (h1.at_ 0 rfl) (E_marks (ms := ms) ?_ k)
    exact ((h1.putObj 0 (o' := .deferred none) rfl).drop (List.sublist_cons_self _ _)).bunf
end
end Go.Proofs.YtaljccgfnmfhnaaGreatDoorG
set_option linter.all false
namespace Go.Proofs.YtaljccgfnmfhnaaGreatDoorG
open Go Go.RowKit
section
variable {α : Type} {d : Kd α} {z : Z}
theorem Reps.split : ∀ {xs : List α} {cs : List Value} (i : Nat), Reps d z xs cs → i ≤ xs.length → Reps d z (xs.take i) (cs.take (i * d.sz)) ∧ Reps d z (xs.drop i) (cs.drop (i * d.sz))
  | xs, cs, 0, h, _ => by simpa [Reps] using h
  | x :: xs, cs, i + 1, h, hi => by
    obtain ⟨c, r, rfl, h1, h2⟩ := h
    obtain ⟨h3, h4⟩ := Reps.split i h2 (by simpa using hi)
    have hl := d.len h1
    have e : (i + 1) * d.sz = c.length + i * d.sz := by rw [hl, Nat.add_mul]; omega
    rw [e, List.take_length_add_append, List.drop_length_add_append]
    exact ⟨⟨c, _, rfl, h1, h3⟩, h4⟩
theorem Reps.setf {y : α} {off : Nat} {news : List Value} : ∀ {xs : List α} {inner : List Value} {j : Nat} (df : α), Reps d z xs inner → j < xs.length → off + news.length ≤ d.sz → (∀ cs, d.K z (xs.getD j df) cs → d.K z y (cs.take off ++ news ++ cs.drop (off + news.length))) →
    Reps d z (xs.set j y) (inner.take (j * d.sz + off) ++ news ++ inner.drop (j * d.sz + off + news.length))
  | x :: xs, inner, 0, df, h, _, ho, hk => by
    obtain ⟨c, r, rfl, h1, h2⟩ := h
    have hl := d.len h1
    refine ⟨c.take off ++ news ++ c.drop (off + news.length), r, ?_, hk c (by simpa using h1), h2⟩
    rw [Nat.zero_mul, Nat.zero_add, List.take_append_of_le_length (by omega), List.drop_append_of_le_length (by omega)]
    simp
  | x :: xs, inner, j + 1, df, h, hj, ho, hk => by
    obtain ⟨c, r, rfl, h1, h2⟩ := h
    have hl := d.len h1
    have e : (j + 1) * d.sz + off = c.length + (j * d.sz + off) := by rw [hl, Nat.add_mul]; omega
    refine ⟨c, r.take (j * d.sz + off) ++ news ++ r.drop (j * d.sz + off + news.length), ?_, h1, Reps.setf df h2 (by simpa using hj) ho (by simpa using hk)⟩
    rw [e, List.take_length_add_append, Nat.add_assoc c.length, List.drop_length_add_append]
    simp
theorem Reps.of_get : ∀ {xs : List α} {cs : List Value}, cs.length = xs.length * d.sz → (∀ i x, xs[i]? = some x → d.K z x ((cs.drop (i * d.sz)).take d.sz)) → Reps d z xs cs
  | [], cs, hl, _ => by simp at hl; simp [Reps, hl]
  | x :: xs, cs, hl, h => by
    refine ⟨cs.take d.sz, cs.drop d.sz, by simp, by simpa using h 0 x rfl, Reps.of_get ?_ fun i y hy => ?_⟩
    · rw [List.length_drop, hl, List.length_cons, Nat.add_mul]; omega
    · have := h (i + 1) y (by simpa using hy)
      rwa [Nat.add_mul, Nat.one_mul, Nat.add_comm, ← List.drop_drop] at this
end
theorem Chg.setRow {w : World} {g : Nat} {cur cs : Array Value} {t : TypeId} {fr : Nat × Nat} : Chg [g] w (w.setRow g cs) :=
  ⟨rfl, rfl, rfl, by simp [World.setRow], fun k hk hn => by
    have hne : g ≠ k := fun e => hn (by simp [e])
    simp only [World.setRow]
    rw [Array.getElem?_modify, if_neg hne]⟩
section
variable {P : Program} {α : Type} {d : Kd α} {e : TypeId} {B : Nat} {q : Z} {w : World} {A : Option Addr} {c : Nat} {xs : List α}
theorem Own.overc {xs' : List α} {news : List Value} {p : Nat} {a : Addr} (h : Own d e B q w A c xs) (hA : A = some a) (h1 : ∀ u ∈ news, u.oneCell' = true) (hp : p + news.length ≤ xs.length * d.sz) (hl : xs'.length = xs.length)
    (hr : ∀ inner, Reps d q xs inner → Reps d q xs' (inner.take p ++ news ++ inner.drop (p + news.length))) :
    ∃ w', (storeCells (a.add p) news 0).run P w = .ok () w' ∧ Chg (blk A) w w' ∧ Own d e B q w' A c xs' := by
  subst hA
  obtain ⟨inner, ⟨h2, h3⟩, h4⟩ := h
  rcases h3 with ⟨he, _⟩ | ⟨g, cap, cur, he, hg, hh, hcap, hmax, hsz, htk⟩
  · cases he
  injection he with h5 h6 h7
  injection h5 with h5
  subst h5
  have hle : xs.length * d.sz ≤ cap * d.sz := Nat.mul_le_mul_right _ hcap
  have hst := run_storeCells_at P g p e news 0 cur w hh (by omega) h1
  rw [Nat.add_zero] at hst
  rw [add_at]
  refine ⟨_, hst, Chg.setRow (cur := cur) (t := e) (fr := (0, 0)), ?_⟩
  have hlt : inner.length = xs.length * d.sz := h2
  have hcl : cur.toList.length = cap * d.sz := by simpa using hsz
  refine ⟨inner.take p ++ news ++ inner.drop (p + news.length), ⟨?_, .inr ⟨g, cap, _, ?_, hg, setRow_heap w g cur _ e (0, 0) hh, ?_, hmax, ?_, ?_⟩⟩, hr inner h4⟩
  · rw [hl]; simp only [List.length_append, List.length_take, List.length_drop]; omega
  · rw [hl, h7]
  · omega
  · simp only [List.size_toArray, List.length_append, List.length_take, List.length_drop]; omega
  · rw [hl, ← htk]
    apply List.ext_getElem?
    intro i
    simp only [List.getElem?_take, List.getElem?_append, List.getElem?_drop, List.length_append, List.length_take, List.length_drop]
    have hmin : min p (min (xs.length * d.sz) cur.toList.length) = p := by omega
    have hmin2 : min p cur.toList.length = p := by omega
    rw [hmin, hmin2]
    by_cases hi : i < xs.length * d.sz
    · rw [if_pos hi]
      by_cases h8 : i < p + news.length
      · rw [if_pos h8, if_pos h8]
        by_cases h9 : i < p
        · simp [h9]; intro h10; omega
        · simp [h9]
      · rw [if_neg h8, if_neg h8, if_pos (by omega)]
    · rw [if_neg hi, if_neg (by omega), if_neg (by omega)]
end
section
variable {P : Program} {N : Sz} {ops : Array Oper} {Q : Exit → Act → World → Prop} {o : Oper} {f : Fr} {w w0 : World} {k : Value → World → Prop} {X : Nat → Prop} {z : Z} {rs : List Res}
theorem Sp.own_set {α : Type} {d : Kd α} {e : TypeId} {q : Z} {A : Option Addr} {c : Nat} {xs xs' : List α} {w' : World} (hS : Sp X w0 z w rs) (i : Nat) (hi : nth rs i = some (oR d e q A c xs)) (hc : Chg (blk A) w w') (ho : Own d e 0 q w' A c xs') : Sp X w0 z w' (upd rs i (oR d e q A c xs')) :=
  hS.set i hi (Chg.chp hc) ho fun k hk => .inl hk
theorem S_setf {α : Type} {d : Kd α} {T e : TypeId} {q : Z} {A : Option Addr} {c : Nat} {xs : List α} {x y : Operand} {a ad : Addr} {j off : Nat} {v : Value} {y' : α} (df : α) (hS : Sp X w0 z w rs) (i : Nat) (hi : nth rs i = some (oR d e q A c xs)) (hg : o.guard = none)
    (ho : o.op = .store T x y) (hA : A = some a) (hj : j < xs.length) (had : ad = a.add (j * d.sz + off)) (hx : ev f x = some (.pointer (some ad))) (hy : ev f y = some v) (hs : ∀ w, (sizeOf T).run P w = .ok v.cells.size w) (h1 : ∀ u ∈ v.cells.toList, u.oneCell' = true) (hof : off + v.cells.size ≤ d.sz)
    (hk : ∀ cs, d.K q (xs.getD j df) cs → d.K q y' (cs.take off ++ v.cells.toList ++ cs.drop (off + v.cells.size))) (h : ∀ w', Sp X w0 z w' (upd rs i (oR d e q A c (xs.set j y'))) → k undef w') : Sv P N ops Q o f w k := by
  subst had
  have hO : Own d e 0 q w A c xs := hS.at_ i hi
  have hle : (j + 1) * d.sz ≤ xs.length * d.sz := Nat.mul_le_mul_right _ hj
  rw [Nat.add_mul] at hle
  obtain ⟨w', h2, h3, h4⟩ := hO.overc (P := P) (xs' := xs.set j y') (news := v.cells.toList) (p := j * d.sz + off) hA h1 (by simp only [Array.length_toList]; omega) (by simp) fun inner hr =>
    hr.setf df hj (by simpa using hof) (by simpa using hk)
  refine Sv_skip hg (w' := w') (fun e' he => ?_) (h w' (hS.own_set i hi h3 h4))
  simp [execOp, ho, he x _ hx, he y _ hy, Instr.storeAt, Instr.sureAddr, storeVar, hs, h2]
theorem S_make {α : Type} {d : Kd α} {t e : TypeId} {q : Z} {l c : Operand} {n : Int} {zc : List Value} {bytes : Nat} (x0 : α) (hS : Sp X w0 z w rs) (hg : o.guard = none) (ho : o.op = .makeSlice t l c) (hl : ev f l = some (.int .i64 n)) (hc : ev f c = some (.int .i64 n))
    (ht : P.underlying t = some (.slice e)) (hi : (P.info? e).map (fun i => (i.zero.map (fun z => z.cells.toList), i.size, i.bytes)) = some (some zc, d.sz, bytes)) (hz : d.K q x0 zc) (hz0 : 0 < d.sz) (h0 : 0 ≤ n) (hb : n * (bytes : Int) ≤ 140737488355328) (hm : n ≤ 9223372036854775807)
    (h : ∀ g w', Sp X w0 z w' (oR d e q (some ⟨g, 0, none⟩) n.toNat (List.replicate n.toNat x0) :: rs) → k (.slice (some ⟨g, 0, none⟩) (List.replicate n.toNat x0).length n.toNat) w') : Sv P N ops Q o f w k := by
  obtain ⟨i, h1, h2⟩ := Option.map_eq_some_iff.1 hi
  simp only [Prod.mk.injEq] at h2
  obtain ⟨h2, h3, h4⟩ := h2
  obtain ⟨zv, h5, h6⟩ := Option.map_eq_some_iff.1 h2
  have hrun := run_make (P := P) w t e i zv ht h1 h5 .i64 .i64 n n h0 (Int.le_refl _) (by rw [h4]; have := Int.mul_comm (bytes : Int) n; omega) hm
  have hzl : zv.cells.size = d.sz := by have := d.len hz; rw [← h6] at this; simpa using this
  have hO : Own d e w.heap.size q (w.alloc (.cells (madeCells zv.cells (n.toNat * i.size)) e)) (some ⟨w.heap.size, 0, none⟩) n.toNat (List.replicate n.toNat x0) := by
    have := Own.new (d := d) (e := e) (w := w) (z := q) (xs := List.replicate n.toNat x0) (cs := (madeCells zv.cells (n.toNat * i.size)).toList) (Reps.of_get (by simp [size_madeCells, h3]) fun j x hx => ?_) (by simp [maxLen]; omega) w.heap.size (Nat.le_refl _)
    · simpa using this
    · have hj : j < n.toNat := by have := (List.getElem?_eq_some_iff.1 hx).1; simpa using this
      obtain rfl : x = x0 := by rw [List.getElem?_replicate] at hx; simp [hj] at hx; exact hx.symm
      have : ((madeCells zv.cells (n.toNat * i.size)).toList.drop (j * d.sz)).take d.sz = zc := by
        rw [← h6]
        apply List.ext_getElem?
        intro u
        have hle : (j + 1) * d.sz ≤ n.toNat * d.sz := Nat.mul_le_mul_right _ hj
        rw [Nat.add_mul] at hle
        rw [List.getElem?_take, List.getElem?_drop]
        by_cases hu : u < d.sz
        · rw [if_pos hu]
          have h7 : j * d.sz + u < n.toNat * i.size := by rw [h3]; omega
          have h8 : (j * d.sz + u) % zv.cells.size = u := by rw [hzl, Nat.add_comm, Nat.add_mul_mod_self_right, Nat.mod_eq_of_lt hu]
          have h9 : u < zv.cells.size := by omega
          simp [madeCells, h7, h8, h9]
        · rw [if_neg hu, List.getElem?_eq_none (by simpa using (by omega : zv.cells.size ≤ u))]
      rw [this]; exact hz
  have hpush : Sp X w0 z (w.alloc (.cells (madeCells zv.cells (n.toNat * i.size)) e)) (oR d e q (some ⟨w.heap.size, 0, none⟩) n.toNat (List.replicate n.toNat x0) :: rs) :=
    hS.push (Chg.alloc w _) (hO.lower (Nat.zero_le _)) fun k hk => hO.base k hk
  refine Sv_val hg (v := .slice (some ⟨w.heap.size, 0, none⟩) n.toNat n.toNat) (fun e' he => ?_) (by have := h w.heap.size _ hpush; simpa using this)
  simp [execOp, ho, he l _ hl, he c _ hc, hrun]
theorem R_cutvl {T : TypeId} {x lo : Operand} {A : Option Addr} {n c sz : Nat} {i : Int} (ho : o.op = .slice T x (some lo) none none) (hx : ev f x = some (.slice A n c)) (hl : ev f lo = some (.int .i64 i))
    (hT : P.underlying T = some (.slice (P.elem T))) (hs : ∀ w, (sizeOf (P.elem T)).run P w = .ok sz w) (h0 : 0 ≤ i) (h1 : i ≤ n) : Runs P o f w (sliced A i.toNat n c sz) w := fun e he => by
  have h3 := run_slice_l (P := P) (w := w) T A n c hT .i64 i h0 h1
  simp [execOp, ho, he x _ hx, he lo _ hl, run_sliceAt_slice, hT, h3, hs]
theorem R_cutvh {T : TypeId} {x hi : Operand} {A : Option Addr} {n c sz : Nat} {j : Int} (ho : o.op = .slice T x none (some hi) none) (hx : ev f x = some (.slice A n c)) (hh : ev f hi = some (.int .i64 j))
    (hT : P.underlying T = some (.slice (P.elem T))) (hs : ∀ w, (sizeOf (P.elem T)).run P w = .ok sz w) (h0 : 0 ≤ j) (h2 : j ≤ c) : Runs P o f w (.slice A j.toNat c) w := fun e he => by
  have h3 := run_slice_h (P := P) (w := w) T A n c hT .i64 j h0 h2
  simp [execOp, ho, he x _ hx, he hi _ hh, run_sliceAt_slice, hT, h3, hs, sliced]
  cases A <;> simp [Addr.add]
theorem Own.srcCut {α : Type} {d : Kd α} {e : TypeId} {q : Z} {B : Nat} {A : Option Addr} {c : Nat} {xs : List α} (h : Own d e B q w A c xs) (lo hi : Nat) (h1 : lo ≤ hi) (h2 : hi ≤ xs.length) : Src w d q (if c = lo then A else A.map (fun a_ : Addr => a_.add (lo * d.sz))) (c - lo) ((xs.take hi).drop lo) := by
  have hcap := h.cap
  obtain ⟨news, h3, h4⟩ := h.cells
  obtain ⟨h5, _⟩ := h3.split hi h2
  have hl : (xs.take hi).length = hi := by rw [List.length_take]; omega
  obtain ⟨_, h6⟩ := h5.split lo (by omega)
  refine ⟨fun hn => ?_, _, h6, fun j u hu => ?_⟩
  · by_cases hc : c = lo
    · omega
    · rw [if_neg hc] at hn
      have : A = none := by cases A <;> simp_all
      have := hcap.nil this
      omega
  · rw [List.getElem?_drop, List.getElem?_take] at hu
    split at hu
    · rename_i hlt
      have hlen := h3.len
      have hc : ¬ c = lo := fun hc => by
        have := hcap.le
        have : hi = lo := by omega
        subst this
        omega
      rw [if_neg hc]
      obtain ⟨ad, h7, h8⟩ := h4 _ u hu
      exact ⟨ad.add (lo * d.sz), by rw [h7]; rfl, by rw [add_add]; exact h8⟩
    · cases hu
theorem S_copy {α : Type} {d : Kd α} {T1 T2 e e' : TypeId} {q : Z} {A A2 : Option Addr} {c c2 lo hi : Nat} {xs ys : List α} {s x : Operand} (hS : Sp X w0 z w rs) (i : Nat) (hi' : nth rs i = some (oR d e q A c xs)) (hg : o.guard = none)
    (ho : o.op = .call { callee := .builtin .copy, args := #[s, x], argTypes := #[T1, T2] }) (hs : ev f s = some (sliced A lo hi c d.sz)) (hlo : lo ≤ hi) (hhi : hi ≤ xs.length) (hx : ev f x = some (.slice A2 ys.length c2)) (hsrc : Src w d q A2 c2 ys)
    (hT : P.underlying T1 = some (.slice e')) (hz : ∀ w, (sizeOf e').run P w = .ok d.sz w)
    (h : ∀ w', Sp X w0 z w' (upd rs i (oR d e q A c (xs.take lo ++ ys.take (hi - lo) ++ xs.drop (lo + min ys.length (hi - lo))))) → k (.int .i64 ((min ys.length (hi - lo) : Nat) : Int)) w') : Sv P N ops Q o f w k := by
  have hO : Own d e 0 q w A c xs := hS.at_ i hi'
  obtain ⟨hcn, news, h1, h2⟩ := hsrc
  obtain ⟨m, hm⟩ : ∃ m, min ys.length (hi - lo) = m := ⟨_, rfl⟩
  have hml : m ≤ ys.length := by omega
  have hmle : m * d.sz ≤ ys.length * d.sz := Nat.mul_le_mul_right _ hml
  obtain ⟨h3, _⟩ := h1.split m hml
  have hnl := h1.len
  have htk : ys.take (hi - lo) = ys.take m := by
    rw [← hm, List.take_eq_take_iff]; omega
  have hlen : (news.take (m * d.sz)).length = m * d.sz := by rw [List.length_take]; omega
  -- the cells that are read
  have hload : (Builtin.firstCells d.sz m (.slice A2 ys.length c2)).run P w = .ok (news.take (m * d.sz)).toArray w := by
    cases A2 with
    | none =>
      have : news = [] := by
        cases news with
        | nil => rfl
        | cons v r => obtain ⟨ad, h5, _⟩ := h2 0 v rfl; cases h5
      subst this
      simp [Builtin.firstCells]
    | some ad =>
      have := run_loadCells (P := P) (w := w) (a := ad) (news.take (m * d.sz)) 0 #[] (fun j u hu => by
        rw [List.getElem?_take] at hu
        split at hu
        · obtain ⟨ad', h5, h6⟩ := h2 j u hu
          injection h5 with h5
          subst h5
          rwa [Nat.zero_add]
        · cases hu)
      rw [hlen] at this
      simp [Builtin.firstCells, loadCells, this]
  have hcap := hO.cap
  obtain ⟨w', h5, h6, h7⟩ : ∃ w', (match (if c = lo then A else A.map (fun a_ : Addr => a_.add (lo * d.sz))) with | some a => storeCells a (news.take (m * d.sz)) 0 | none => pure ()).run P w = .ok () w' ∧ Chg (blk A) w w' ∧ Own d e 0 q w' A c (xs.take lo ++ ys.take m ++ xs.drop (lo + m)) := by
    by_cases hm0 : m = 0
    · subst hm0
      refine ⟨w, ?_, Chg.refl _ _, by simpa using hO⟩
      split <;> simp [storeCells]
    · cases A with
      | none => have := hcap.nil rfl; have := hcap.le; omega
      | some a =>
        have hc : ¬ c = lo := by have := hcap.le; omega
        rw [if_neg hc]
        have hle : (lo + m) * d.sz ≤ xs.length * d.sz := Nat.mul_le_mul_right _ (by omega)
        rw [Nat.add_mul] at hle
        have hlm : (ys.take m).length = m := by rw [List.length_take]; omega
        exact hO.overc (P := P) (xs' := xs.take lo ++ ys.take m ++ xs.drop (lo + m)) (news := news.take (m * d.sz)) (p := lo * d.sz) rfl (h3.one) (by omega) (by simp only [List.length_append, List.length_take, List.length_drop]; omega) fun inner hr => by
          obtain ⟨g1, _⟩ := hr.split lo (by omega)
          obtain ⟨_, g2⟩ := hr.split (lo + m) (by omega)
          rw [hlen, ← Nat.add_mul]
          exact (g1.append h3).append g2
  rw [hm, htk] at h
  refine Sv_val hg (v := .int .i64 (m : Int)) (fun e' he => ?_) (h w' (hS.own_set i hi' h6 h7))
  have hmin : Nat.min ys.length (hi - lo) = m := hm
  have hrun : (Builtin.copy_ #[T1, T2] o.type #[sliced A lo hi c d.sz, .slice A2 ys.length c2]).run P w = .ok (goInt m) w' := by
    unfold sliced
    cases hA : (if c = lo then A else A.map (fun a_ : Addr => a_.add (lo * d.sz))) with
    | none =>
      rw [hA] at h5
      simp at h5
      subst h5
      simp [Builtin.copy_, run_underlying hT, Builtin.lenOf, hz, hmin, hload]
    | some a =>
      rw [hA] at h5
      simp only at h5
      simp [Builtin.copy_, run_underlying hT, Builtin.lenOf, hz, hmin, hload, h5]
  simp [execOp, ho, resolve, invoke, builtin, he s _ hs, he x _ hx, hrun, goInt]
theorem sliced_whole (A : Option Addr) (n c sz : Nat) : Value.slice A n c = sliced A 0 n c sz := by
  unfold sliced
  have : (if c = 0 then A else A.map (fun a_ : Addr => a_.add (0 * sz))) = A := by
    split
    · rfl
    · cases A <;> simp [Addr.add]
  rw [this]; simp
theorem S_copyW {α : Type} {d : Kd α} {T1 T2 e e' : TypeId} {q : Z} {A A2 : Option Addr} {c c2 : Nat} {xs ys : List α} {s x : Operand} (hS : Sp X w0 z w rs) (i : Nat) (hi' : nth rs i = some (oR d e q A c xs)) (hg : o.guard = none)
    (ho : o.op = .call { callee := .builtin .copy, args := #[s, x], argTypes := #[T1, T2] }) (hs : ev f s = some (.slice A xs.length c)) (hx : ev f x = some (.slice A2 ys.length c2)) (hsrc : Src w d q A2 c2 ys)
    (hT : P.underlying T1 = some (.slice e')) (hz : ∀ w, (sizeOf e').run P w = .ok d.sz w)
    (h : ∀ w', Sp X w0 z w' (upd rs i (oR d e q A c (ys.take xs.length ++ xs.drop ys.length))) → k (.int .i64 ((min ys.length xs.length : Nat) : Int)) w') : Sv P N ops Q o f w k := by
  refine S_copy (lo := 0) (hi := xs.length) hS i hi' hg ho (by rw [hs, sliced_whole A _ c d.sz]) (Nat.zero_le _) (Nat.le_refl _) hx hsrc hT hz fun w' hS' => ?_
  have e1 : xs.take 0 ++ ys.take (xs.length - 0) ++ xs.drop (0 + min ys.length (xs.length - 0)) = ys.take xs.length ++ xs.drop ys.length := by
    simp only [List.take_zero, List.nil_append, Nat.sub_zero, Nat.zero_add]
    congr 1
    by_cases hl : ys.length ≤ xs.length
    · rw [Nat.min_eq_left hl]
    · rw [Nat.min_eq_right (by omega), List.drop_length, List.drop_eq_nil_of_le (by omega)]
  rw [e1] at hS'
  exact h w' hS'
theorem R_eq {v v' : Value} (h : Runs P o f w v w) (e : v = v') : Runs P o f w v' w := e ▸ h
theorem ev_cut {α : Type} {xs : List α} {x : Operand} {A : Option Addr} {lo hi c sz : Nat} (h : ev f x = some (sliced A lo hi c sz)) (h2 : hi ≤ xs.length) :
    ev f x = some (.slice (if c = lo then A else A.map (fun a_ : Addr => a_.add (lo * sz))) ((xs.take hi).drop lo).length (c - lo)) := by
  rw [h]
  unfold sliced
  have : ((xs.take hi).drop lo).length = hi - lo := by rw [List.length_drop, List.length_take]; omega
  rw [this]
end
end Go.Proofs.YtaljccgfnmfhnaaGreatDoorG
set_option linter.all false
namespace Go.Proofs.YtaljccgfnmfhnaaGreatDoorG
open Go Go.RowKit
section
variable {α β : Type}
def inR (d : Kd β) (e : TypeId) (row : α → List β) (ys : List (α × Option Addr × Nat)) : Res := allR (ys.map fun y => oR d e zE y.2.1 y.2.2 (row y.1))
def inX (d : Kd β) (e : TypeId) (row : α → List β) (ys : List (α × Option Addr × Nat)) (k : Nat) : Res := allR ((ys.eraseIdx k).map fun y => oR d e zE y.2.1 y.2.2 (row y.1))
variable {d : Kd β} {e e0 : TypeId} {row : α → List β} {ys : List (α × Option Addr × Nat)} {X : Nat → Prop} {w0 w : World} {z : Z} {rs : List Res} {A : Option Addr} {c : Nat}
theorem Sp.inNil (h : Sp X w0 z w rs) (d : Kd β) (e : TypeId) (row : α → List β) : Sp X w0 z w (inR d e row [] :: rs) := (show Sp X w0 z w ([] ++ rs) from h).bunf
theorem nth_two {r1 r2 : Res} {rs : List Res} {i j : Nat} (hi : nth rs i = some r1) (hj : nth rs j = some r2) (hij : i ≠ j) : rs.Perm (r1 :: r2 :: rest rs 0 [i, j]) := by
  have h1 := nth_perm hi
  have key : ∀ (rs : List Res) (n : Nat) (l : List Nat), (∀ i ∈ l, i < n) → rest rs n l = rs := by
    intro rs
    induction rs with
    | nil => intro n l _; rfl
    | cons r rs ih =>
      intro n l hl
      have : l.contains n = false := by
        cases hb : l.contains n with
        | false => rfl
        | true => have := hl n (List.contains_iff_mem.1 hb); omega
      simp only [rest, this, cond_false]
      rw [ih (n + 1) l (fun i hi => by have := hl i hi; omega)]
  have one : ∀ (rs : List Res) (n i : Nat), rest rs n [n + i] = del rs i := by
    intro rs
    induction rs with
    | nil => intro n i; cases i <;> rfl
    | cons r rs ih =>
      intro n i
      cases i with
      | zero => simp only [Nat.add_zero, rest, List.contains_cons, BEq.rfl, Bool.true_or, cond_true, del]; exact key rs (n + 1) [n] (by simp)
      | succ i =>
        have hne : (n == n + (i + 1)) = false := by simp
        simp only [rest, List.contains_cons, hne, List.contains_nil, Bool.or_false, cond_false, del]
        rw [show n + (i + 1) = n + 1 + i from by omega, ih (n + 1) i]
  have two : ∀ (rs : List Res) (n i j : Nat), i ≠ j → nth rs i = some r1 → nth rs j = some r2 → rs.Perm (r1 :: r2 :: rest rs n [n + i, n + j]) := by
    intro rs
    induction rs with
    | nil => intro n i j _ h; cases h
    | cons r rs ih =>
      intro n i j hij h1 h2
      cases i with
      | zero =>
        obtain rfl := Option.some.inj h1
        cases j with
        | zero => exact absurd rfl hij
        | succ j =>
          refine List.Perm.cons _ ?_
          have : rest (r :: rs) n [n + 0, n + (j + 1)] = rest rs (n + 1) [n + 1 + j] := by
            have h3 : ∀ (rs : List Res) (k : Nat), n < k → rest rs k [n + 0, n + (j + 1)] = rest rs k [n + 1 + j] := by
              intro rs
              induction rs with
              | nil => intro k _; rfl
              | cons q rs ih2 =>
                intro k hk
                have h4 : ([n + 0, n + (j + 1)] : List Nat).contains k = ([n + 1 + j] : List Nat).contains k := by
                  have : (k == n) = false := by simp; omega
                  simp only [List.contains_cons, Nat.add_zero, this, Bool.false_or, show n + (j + 1) = n + 1 + j from by omega]
                simp only [rest, h4, ih2 (k + 1) (by omega)]
            have h5 : ([n + 0, n + (j + 1)] : List Nat).contains n = true := by simp
            simp only [rest, h5, cond_true]
            exact h3 rs (n + 1) (by omega)
          rw [this, one]
          exact nth_perm (rs := rs) (i := j) h2
      | succ i =>
        cases j with
        | zero =>
          obtain rfl := Option.some.inj h2
          have h6 := nth_perm (rs := rs) (i := i) h1
          have : rest (r :: rs) n [n + (i + 1), n + 0] = rest rs (n + 1) [n + 1 + i] := by
            have h3 : ∀ (rs : List Res) (k : Nat), n < k → rest rs k [n + (i + 1), n + 0] = rest rs k [n + 1 + i] := by
              intro rs
              induction rs with
              | nil => intro k _; rfl
              | cons q rs ih2 =>
                intro k hk
                have h4 : ([n + (i + 1), n + 0] : List Nat).contains k = ([n + 1 + i] : List Nat).contains k := by
                  have : (k == n) = false := by simp; omega
                  simp only [List.contains_cons, Nat.add_zero, this, Bool.false_or, List.contains_nil, Bool.or_false, show n + (i + 1) = n + 1 + i from by omega]
                simp only [rest, h4, ih2 (k + 1) (by omega)]
            have h5 : ([n + (i + 1), n + 0] : List Nat).contains n = true := by simp
            simp only [rest, h5, cond_true]
            exact h3 rs (n + 1) (by omega)
          rw [this, one]
          exact (h6.cons r).trans (List.Perm.swap _ _ _)
        | succ j =>
          have h7 := ih (n + 1) i j (by omega) h1 h2
          have hc : ([n + (i + 1), n + (j + 1)] : List Nat).contains n = false := by simp
          have : rest (r :: rs) n [n + (i + 1), n + (j + 1)] = r :: rest rs (n + 1) [n + 1 + i, n + 1 + j] := by
            rw [show n + (i + 1) = n + 1 + i from by omega, show n + (j + 1) = n + 1 + j from by omega] at hc ⊢
            simp only [rest, hc, cond_false]
          rw [this]
          exact ((h7.cons r).trans (List.Perm.swap _ _ _)).trans ((List.Perm.swap _ _ _).cons _)
  have := two rs 0 i j hij hi hj
  simpa using this
theorem Sp.inAdd (h : Sp X w0 z w rs) (i j : Nat) {r : List β} (x : α) (hi : nth rs i = some (inR d e row ys)) (hj : nth rs j = some (oR d e zE A c r)) (hij : i ≠ j) (hx : row x = r) : Sp X w0 z w (inR d e row (ys ++ [(x, A, c)]) :: rest rs 0 [i, j]) := by
  subst hx
  have h1 := h.perm (nth_two hi hj hij)
  have h2 : Sp X w0 z w ((ys.map fun y => oR d e zE y.2.1 y.2.2 (row y.1)) ++ (oR d e zE A c (row x) :: rest rs 0 [i, j])) := h1.unb
  have h3 : Sp X w0 z w (((ys ++ [(x, A, c)]).map fun y => oR d e zE y.2.1 y.2.2 (row y.1)) ++ rest rs 0 [i, j]) := by
    simpa using h2
  exact h3.bunf
theorem perm_erase {γ : Type _} : ∀ {ys : List γ} {k : Nat} (df : γ), k < ys.length → ys.Perm (ys.getD k df :: ys.eraseIdx k)
  | y :: ys, 0, df, _ => .refl _
  | y :: ys, k + 1, df, hk => by
    have h1 := perm_erase (ys := ys) (k := k) df (by simpa using hk)
    simpa using (h1.cons y).trans (.swap _ _ _)
theorem Sp.focus (h : Sp X w0 z w rs) (i : Nat) (hi : nth rs i = some (inR d e row ys)) (k : Nat) (hk : k < ys.length) (df : α × Option Addr × Nat) : Sp X w0 z w (oR d e zE (ys.getD k df).2.1 (ys.getD k df).2.2 (row (ys.getD k df).1) :: inX d e row ys k :: del rs i) := by
  have h1 := (h.perm (nth_perm hi)).unb
  have h2 := h1.perm (((perm_erase df hk).map (fun y => oR d e zE y.2.1 y.2.2 (row y.1))).append_right _)
  have h3 : Sp X w0 z w (((ys.eraseIdx k).map fun y => oR d e zE y.2.1 y.2.2 (row y.1)) ++ (oR d e zE (ys.getD k df).2.1 (ys.getD k df).2.2 (row (ys.getD k df).1) :: del rs i)) := h2.perm List.perm_middle.symm
  exact h3.bunf.perm (List.Perm.swap _ _ _)
theorem Sp.unfocus (h : Sp X w0 z w rs) (i j : Nat) {r : List β} (x : α) {k : Nat} (hi : nth rs i = some (inX d e row ys k)) (hj : nth rs j = some (oR d e zE A c r)) (hij : i ≠ j) (hk : k < ys.length) (hx : row x = r) : Sp X w0 z w (inR d e row (ys.set k (x, A, c)) :: rest rs 0 [i, j]) := by
  subst hx
  have h1 := h.perm (nth_two hi hj hij)
  have h2 : Sp X w0 z w (((ys.eraseIdx k).map fun y => oR d e zE y.2.1 y.2.2 (row y.1)) ++ (oR d e zE A c (row x) :: rest rs 0 [i, j])) := h1.unb
  have h3 : (ys.set k (x, A, c)).Perm ((x, A, c) :: ys.eraseIdx k) := by
    have h4 := perm_erase (ys := ys.set k (x, A, c)) (k := k) (x, A, c) (by simpa using hk)
    have h5 : (ys.set k (x, A, c)).getD k (x, A, c) = (x, A, c) := by simp [List.getD, hk]
    have h6 : (ys.set k (x, A, c)).eraseIdx k = ys.eraseIdx k := by
      rw [List.eraseIdx_eq_take_drop_succ, List.eraseIdx_eq_take_drop_succ, List.take_set_of_le (Nat.le_refl _), List.drop_set_of_lt (by omega)]
    rwa [h5, h6] at h4
  have h7 : Sp X w0 z w (((ys.set k (x, A, c)).map fun y => oR d e zE y.2.1 y.2.2 (row y.1)) ++ rest rs 0 [i, j]) := by
    refine h2.perm (List.perm_middle.trans ?_)
    exact ((h3.map (fun y => oR d e zE y.2.1 y.2.2 (row y.1))).append_right _).symm
  exact h7.bunf
theorem Sp.sealr {dM : Kd (α × Option Addr × Nat)} {dk : Kd α} (h : Sp X w0 z w rs) (i j : Nat) (hi : nth rs i = some (oR dM e0 zE A c ys)) (hj : nth rs j = some (inR d e row ys)) (hij : i ≠ j) (hsz : dM.sz = dk.sz)
    (hK : ∀ (q : Z) (y : α × Option Addr × Nat) (cs : List Value), dM.K zE y cs → Cap y.2.1 (row y.1).length y.2.2 → Rd d q y.2.1 (row y.1) → dk.K q y.1 cs) : ∃ q, Sp X w0 z w (zR q :: oR dk e0 q A c (ys.map Prod.fst) :: rest rs 0 [i, j]) := by
  have h1 := h.perm (nth_two hi hj hij)
  have hin : (inR d e row ys).P w := h1.at_ 1 rfl
  have hO : Own dM e0 0 zE w A c ys := h1.at_ 0 rfl
  have hall : ∀ y ∈ ys, Own d e 0 zE w y.2.1 y.2.2 (row y.1) := fun y hy => hin.1 _ (List.mem_map.2 ⟨y, hy, rfl⟩)
  have hF : ∀ k, (inR d e row ys).F k ↔ ∃ y ∈ ys, k ∈ blk y.2.1 := fun k => by
    constructor
    · rintro ⟨r, hr, hk⟩
      obtain ⟨y, hy, rfl⟩ := List.mem_map.1 hr
      exact ⟨y, hy, hk⟩
    · rintro ⟨y, hy, hk⟩
      exact ⟨_, List.mem_map.2 ⟨y, hy, rfl⟩, hk⟩
  classical
  obtain ⟨q, hq⟩ : ∃ q : Z, q = fun b => if (inR d e row ys).F b then cellsAt w b else none := ⟨_, rfl⟩
  have hqt : ∀ b, (inR d e row ys).F b → q b = cellsAt w b := fun b hb => by rw [hq]; simp [hb]
  have hqf : ∀ b, ¬ (inR d e row ys).F b → q b = none := fun b hb => by rw [hq]; simp [hb]
  have hqF : ∀ b, (zR q).F b → (inR d e row ys).F b := fun b hb => by
    by_cases hf : (inR d e row ys).F b
    · exact hf
    · exact absurd (hqf b hf) hb
  refine ⟨q, ?_⟩
  have hrd : ∀ y ∈ ys, Rd d q y.2.1 (row y.1) := fun y hy => (hall y hy).rd (zle_E _) fun k hk => hqt k ((hF k).2 ⟨y, hy, hk⟩)
  have hO' : Own dk e0 0 q w A c (ys.map Prod.fst) := by
    obtain ⟨inner, h2, h3⟩ := hO
    refine ⟨inner, by rw [List.length_map, ← hsz]; exact h2, ?_⟩
    have key : ∀ (l : List (α × Option Addr × Nat)) (inner : List Value), (∀ y ∈ l, y ∈ ys) → Reps dM zE l inner → Reps dk q (l.map Prod.fst) inner := by
      intro l
      induction l with
      | nil => intro inner _ h; exact h
      | cons y l ih =>
        rintro inner hl ⟨cs, r, rfl, h4, h5⟩
        have hy := hl y List.mem_cons_self
        exact ⟨cs, r, rfl, hK q y cs h4 (hall y hy).cap (hrd y hy), ih r (fun y' hy' => hl y' (List.mem_cons_of_mem _ hy')) h5⟩
    exact key ys inner (fun _ h => h) h3
  have hsub : Sub q w := fun b cs hb => by
    by_cases hf : (inR d e row ys).F b
    · rw [hqt b hf] at hb; exact hb
    · rw [hqf b hf] at hb; cases hb
  have hwr : Wr q w := fun b hb => by
    obtain ⟨y, hy, hk⟩ := (hF b).1 (hqF b hb)
    exact (hall y hy).wr b hk
  have h2 := (h1.perm (List.Perm.swap _ _ _)).as (r' := zR q) 0 rfl (fun _ => ⟨hsub, hwr⟩) hqF
  exact h2.as (r' := oR dk e0 q A c (ys.map Prod.fst)) 1 rfl (fun _ => hO') (fun _ h => h)
theorem Sp.reM {dM : Kd α} {ys : List α} (h : Sp X w0 z w rs) (i : Nat) (hi : nth rs i = some (oR dM e0 zE A c ys)) (k : Nat) (y : α) (df : α) (hk : k < ys.length) (hK : ∀ cs, dM.K zE (ys.getD k df) cs → dM.K zE y cs) : Sp X w0 z w (upd rs i (oR dM e0 zE A c (ys.set k y))) :=
  h.as i hi (fun ho => by
    obtain ⟨inner, h1, h2⟩ := (show Own dM e0 0 zE w A c ys from ho)
    refine ⟨inner, by simpa using h1, ?_⟩
    have := Reps.setf (y := y) (off := 0) (news := []) df h2 hk (by simp) (by simpa using hK)
    simpa using this) fun _ h => h
end
end Go.Proofs.YtaljccgfnmfhnaaGreatDoorG
