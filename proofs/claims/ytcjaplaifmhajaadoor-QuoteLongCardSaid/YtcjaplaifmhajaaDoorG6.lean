/- Labels and jumps; a function that is handed in, told by what it does to a state of its own. -/
import Derived.Test.YtcjaplaifmhajaaDoorG5
import Derived.Scope
set_option linter.all false
namespace Go.Proofs.YtcjaplaifmhajaaDoorG
open Go Go.RowKit
section
variable {P : Program} {N : Nat} {Q : Exit → Act → World → Prop}
/-- Jumps to some labels: what holds there, with a measure that falls. -/
def scopeQ (ls : List Nat) (N : Nat) (J : Nat → Nat → Fr → World → Prop) (b : Option Nat) (Q : Exit → Act → World → Prop) : Exit → Act → World → Prop
  | .goto l, a, w => ∃ m f, (∀ b', b = some b' → m < b') ∧ l ∈ ls ∧ Holds N f a ∧ J l m f w
  | e, a, w => Q e a w
theorem C_scope {c : Code} {f : Fr} {w : World} (ls : List Nat) (J : Nat → Nat → Fr → World → Prop) (first : C P N (scopeQ ls N J none Q) c f w)
    (pass : ∀ l ∈ ls, ∃ rest, findLabel c l = some rest ∧ ∀ m f w, J l m f w → C P N (scopeQ ls N J (some m) Q) rest f w) : C P N Q (.scope c) f w := by
  intro a ha b k cs
  have key : ∀ m l f a w, l ∈ ls → Holds N f a → J l m f w → ∀ rest, findLabel c l = some rest → ∃ e a' w', Q e a' w' ∧ Arrives P (lone (b.at a (.code rest :: .inScope c :: k)) cs w) b k cs e a' w' := by
    intro m
    induction m using Nat.strongRecOn with
    | _ m ih =>
      intro l f a w hl ha hJ rest hr
      obtain ⟨rest', hr', hp⟩ := pass l hl
      rw [hr] at hr'
      obtain rfl := Option.some.inj hr'
      obtain ⟨e, a₁, w₁, hq, harr⟩ := hp m f w hJ a ha b (.inScope c :: k) cs
      cases e with
      | normal => exact ⟨.normal, a₁, w₁, hq, Steps.trans harr (.one step_inScope)⟩
      | exit id => exact ⟨.exit id, a₁, w₁, hq, fun k' hk => harr k' (by simp [exitTo, hk])⟩
      | goto l' =>
        obtain ⟨m', f', hlt, hl', hf', hJ'⟩ := hq
        obtain ⟨rest₂, hr₂, _⟩ := pass l' hl'
        obtain ⟨e₂, a₂, w₂, hq₂, harr₂⟩ := ih m' (hlt m rfl) l' f' a₁ w₁ hl' hf' hJ' rest₂ hr₂
        exact ⟨e₂, a₂, w₂, hq₂, .of_steps (harr _ (by simp [gotoIn, hr₂])) harr₂⟩
      | ret => exact ⟨_, a₁, w₁, hq, harr⟩
      | panic ch => exact ⟨_, a₁, w₁, hq, harr⟩
      | outgrown => exact ⟨_, a₁, w₁, hq, harr⟩
  obtain ⟨e, a₁, w₁, hq, harr⟩ := first a ha b (.inScope c :: k) cs
  cases e with
  | normal => exact ⟨.normal, a₁, w₁, hq, .head step_scope (Steps.trans harr (.one step_inScope))⟩
  | exit id => exact ⟨.exit id, a₁, w₁, hq, fun k' hk => .head step_scope (harr k' (by simp [exitTo, hk]))⟩
  | goto l' =>
    obtain ⟨m', f', _, hl', hf', hJ'⟩ := hq
    obtain ⟨rest₂, hr₂, _⟩ := pass l' hl'
    obtain ⟨e₂, a₂, w₂, hq₂, harr₂⟩ := key m' l' f' a₁ w₁ hl' hf' hJ' rest₂ hr₂
    exact ⟨e₂, a₂, w₂, hq₂, .of_steps (.head step_scope (harr _ (by simp [gotoIn, hr₂]))) harr₂⟩
  | ret => exact ⟨_, a₁, w₁, hq, .of_steps (.one step_scope) harr⟩
  | panic ch => exact ⟨_, a₁, w₁, hq, .of_steps (.one step_scope) harr⟩
  | outgrown => exact ⟨_, a₁, w₁, hq, .of_steps (.one step_scope) harr⟩
variable {ls : List Nat} {J : Nat → Nat → Fr → World → Prop} {b : Option Nat} {f : Fr} {w : World}
theorem C_label {l : Nat} (h : E N Q .normal f w) : C P N Q (.label l) f w := fun a ha => wp_label (h a ha)
theorem C_goto {l : Nat} (h : E N Q (.goto l) f w) : C P N Q (.goto l) f w := fun a ha => wp_goto (h a ha)
theorem E_block_goto {i l : Nat} (h : E N Q (.goto l) f w) : E N (Exit.inBlock i Q) (.goto l) f w := fun a ha => by simpa [Exit.inBlock] using h a ha
theorem E_scope_normal (h : E N Q .normal f w) : E N (scopeQ ls N J b Q) .normal f w := fun a ha => h a ha
theorem E_scope_ret (h : E N Q .ret f w) : E N (scopeQ ls N J b Q) .ret f w := fun a ha => h a ha
theorem E_scope_exit {i : Nat} (h : E N Q (.exit i) f w) : E N (scopeQ ls N J b Q) (.exit i) f w := fun a ha => h a ha
theorem E_jump {l m : Nat} (s : List Nat) (hl : l ∈ ls) (hb : ∀ b', b = some b' → m < b') (h : J l m (sub s f) w) : E N (scopeQ ls N J b Q) (.goto l) f w := fun a ha => ⟨m, _, hb, hl, ha.sub s, h⟩
end
/-- A function that is handed in: T tells its state, by what was told to it so far; F: the blocks that its state lies in. -/
structure CB (P : Program) (g : Nat) (caps : List Value) {α : Type} (enc : α → List Value) (T : (Nat → Prop) → List α → World → Prop) : Prop where
  hf : ∀ args w, (callFunc g args).run P w = .ok (.enter g args) w
  st : ∀ {F l w w' Y}, T F l w → Chg Y w w' → (∀ k ∈ Y, ¬ F k) → T F l w'
  lt : ∀ {F l w}, T F l w → ∀ k, F k → k < w.heap.size
  call : ∀ {F l w} (x : α), T F l w → Calls P g (enc x ++ caps).toArray w fun e w' => e = .returned (.tuple #[]) ∧ ∃ F' X, T F' (l ++ [x]) w' ∧ Chg X w w' ∧ (∀ k ∈ X, F k) ∧ ∀ k, F' k → F k ∨ w.heap.size ≤ k
section
variable {P : Program} {N : Nat} {ops : Array Oper} {Q : Exit → Act → World → Prop} {o : Oper} {f : Fr} {w : World} {k : Value → World → Prop} {α : Type} {enc : α → List Value} {T : (Nat → Prop) → List α → World → Prop} {g : Nat} {caps : List Value}
theorem Sv_cb (h : CB P g caps enc T) {x : Operand} {l : List Operand} {ts : Array TypeId} {F : Nat → Prop} {hist : List α} (y : α) (hT : T F hist w) (hg : o.guard = none)
    (ho : o.op = .call { callee := .value x, args := l.toArray, argTypes := ts }) (hxv : ev f x = some (.func (.func g) #[] caps.toArray)) (hx : evs f l = some (enc y))
    (hk : ∀ F' X w', T F' (hist ++ [y]) w' → Chg X w w' → (∀ k ∈ X, F k) → (∀ k, F' k → F k ∨ w.heap.size ≤ k) → k (.tuple #[]) w') : Sv P N ops Q o f w k := by
  refine Sv_of_wp hg (wp_callv ho hxv hx h.hf ((h.call y hT).mono ?_))
  rintro e w' ⟨rfl, F', X, h1, h2, h3, h4⟩
  exact ⟨_, rfl, hk F' X w' h1 h2 h3 h4⟩
end
end Go.Proofs.YtcjaplaifmhajaaDoorG
