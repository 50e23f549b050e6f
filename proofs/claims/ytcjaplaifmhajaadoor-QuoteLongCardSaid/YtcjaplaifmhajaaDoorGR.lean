/- From the rows' own words to the walks': what an argument reads as, kind by kind. -/
import Derived.Test.YtcjaplaifmhajaaDoorG4
import Derived.WalkKit
import Derived.ProofKit
import Derived.OpenShut
import Derived.ShutString
import Derived.ChangeOld
import Derived.ChangeArms
import Derived.SizedLaws
set_option linter.all false
namespace Go.Proofs.YtcjaplaifmhajaaDoorG
open Go Go.RowKit
theorem cz_cell {w : World} {a : Addr} {v : Value} (h : w.cell? a = some v) : cz (cellsAt w) a = some v := by
  unfold World.cell? at h
  unfold cz cellsAt
  split at h
  · rename_i c e fr hh
    rw [hh]
    split at h
    · cases h
    · rename_i hs
      rw [if_neg hs]
      exact h
  · cases h
/-- What is read of a value of a type, as a kind's contents. -/
def Has (P : Program) (t : TypeId) {α : Type} (d : Kd α) (G : α → Prop) : Prop :=
  ∀ {H : Type} (enc : TypeId × Value → H) (W : World) (spare : Nat → Bool) (held : Bool) (fuel : Nat) (cs : List Value) (x : DataW H × List MemPlace),
    DataW.trod enc P W 0 spare held fuel t cs = some x → ∃ a, d.K (cellsAt W) a cs ∧ G a
def wfi (k : IntKind) (n : Int) : Prop := (Lit.int k n).wf = true
theorem wf64 {n : Int} (h : wfi .i64 n) : -9223372036854775808 ≤ n ∧ n ≤ 9223372036854775807 := by
  unfold wfi Lit.wf at h
  have h4 : IntKind.i64.min = -9223372036854775808 := by decide
  have h5 : IntKind.i64.max = 9223372036854775807 := by decide
  simp [h4, h5] at h
  exact h
theorem Has.int {P : Program} {t : TypeId} {k : IntKind} (ht : P.underlying t = some (.int k)) : Has P t (kint k) (wfi k) := fun enc W spare held fuel cs x h => by
  obtain ⟨n, h1, _, h2⟩ := DataW.trod_int ht h
  exact ⟨n, h1, h2⟩
theorem Has.bool {P : Program} {t : TypeId} (ht : P.underlying t = some .bool) : Has P t kbool (fun _ => True) := fun enc W spare held fuel cs x h => by
  obtain ⟨n, h1, _⟩ := DataW.trod_bool ht h
  exact ⟨n, h1, trivial⟩
theorem Has.str {P : Program} {t : TypeId} (ht : P.underlying t = some .string) : Has P t kstr (fun s => s.length ≤ maxLen) := fun enc W spare held fuel cs x h => by
  obtain ⟨⟨⟨l⟩⟩, h1, _, h2⟩ := DataW.trod_string ht h
  exact ⟨l, h1, h2⟩
theorem pick_list {α : Type} {Q : Nat → α → Prop} : ∀ n, (∀ i, i < n → ∃ a, Q i a) → ∃ xs : List α, xs.length = n ∧ ∀ i x, xs[i]? = some x → Q i x
  | 0, _ => ⟨[], rfl, fun i x h => by simp at h⟩
  | n + 1, h => by
    obtain ⟨xs, h1, h2⟩ := pick_list n (fun i hi => h i (by omega))
    obtain ⟨a, ha⟩ := h n (by omega)
    refine ⟨xs ++ [a], by simp [h1], fun i x hx => ?_⟩
    rcases Nat.lt_or_ge i n with hi | hi
    · rw [List.getElem?_append_left (by omega)] at hx
      exact h2 i x hx
    · rw [List.getElem?_append_right (by omega), h1] at hx
      have h3 : i - n = 0 := by
        have := (List.getElem?_eq_some_iff.1 hx).1
        simp at this
        omega
      rw [h3] at hx
      simp at hx
      subst hx
      have : i = n := by omega
      subst this
      exact ha
theorem Has.slice {P : Program} {t e : TypeId} {α : Type} {d : Kd α} {G : α → Prop} (ht : P.underlying t = some (.slice e)) (hc : P.cellsOf e = d.sz) (he : Has P e d G) : Has P t (kslice d) (fun xs => ∀ x ∈ xs, G x) := fun enc W spare held fuel cs x h => by
  rcases DataW.trod_slice ht h with ⟨rfl, _⟩ | ⟨a, len, cap, elems, rest, n, rfl, rfl, _, _, h2, h3, h4, h5, _⟩
  · exact ⟨[], ⟨none, 0, rfl, ⟨Nat.le_refl _, fun _ => rfl, by decide⟩, Rd.nil _ _ _⟩, by simp⟩
  · obtain ⟨xs, hl, hx⟩ := pick_list (Q := fun i x => G x ∧ ∃ cs, d.K (cellsAt W) x cs ∧ ∀ j u, cs[j]? = some u → cz (cellsAt W) (a.add (i * d.sz + j)) = some u) len (fun i hi => by
      have h6 := h5 i hi
      rw [List.getElem?_eq_getElem (by omega)] at h6
      obtain ⟨cs, h7, h8⟩ := Option.bind_eq_some_iff.1 h6
      obtain ⟨x, h9, h10⟩ := he enc W spare held n cs _ h8
      obtain ⟨_, h11, h12⟩ := World.cells?_some h7
      refine ⟨x, h10, cs, h9, fun j u hu => ?_⟩
      have hj : j < P.cellsOf e := by have := (List.getElem?_eq_some_iff.1 hu).1; omega
      have h13 := h12 j hj
      rw [hu, add_add, hc] at h13
      exact cz_cell h13)
    refine ⟨xs, ⟨some a, cap, by rw [hl], ⟨by omega, (fun h => by cases h), by simp only [maxLen] at h3; omega⟩, fun i x hi => ?_⟩, fun x hm => ?_⟩
    · obtain ⟨_, cs, h6, h7⟩ := hx i x hi
      exact ⟨a, cs, rfl, h6, h7⟩
    · obtain ⟨i, hi⟩ := List.getElem?_of_mem hm
      exact (hx i x hi).1
theorem agg_of {P : Program} {t : TypeId} {w : World} {r : Reach} {b : Nat} {v : Value} {fs : Array Field} (ht : P.underlying t = some (.struct fs)) (h : Value.okWide P w r b t v) : ∃ cs : List Value, v = .agg cs.toArray ∧ v.cells.toList = cs := by
  unfold Value.okWide at h
  rw [ht] at h
  obtain ⟨cs, rfl, _⟩ := h
  exact ⟨cs.toList, by simp, by simp [Value.cells]⟩
theorem one_cell {α : Type} {d : Kd α} {z : Z} {x : α} {u : Value} {cs : List Value} (h : d.K z x cs) (hs : cs = [u]) : d.K z x [u] := hs ▸ h
end Go.Proofs.YtcjaplaifmhajaaDoorG
