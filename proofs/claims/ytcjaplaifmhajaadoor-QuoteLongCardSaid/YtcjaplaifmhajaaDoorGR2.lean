/- What an argument reads as, kind by kind, within the form's reach. -/
import Derived.Test.YtcjaplaifmhajaaDoorGR
set_option linter.all false
namespace Go.Proofs.YtcjaplaifmhajaaDoorG
open Go Go.RowKit
def Within (P : Program) (t : TypeId) {H : Type} (x : DataW H) : Prop := ∀ n ∈ x.weights P t, n ≤ reachBytes
def HasZ (P : Program) (t : TypeId) {α : Type} (d : Kd α) (G : α → Prop) : Prop :=
  ∀ {H : Type} (enc : TypeId × Value → H) (W : World) (spare : Nat → Bool) (held : Bool) (fuel : Nat) (cs : List Value) (x : DataW H × List MemPlace),
    DataW.trod enc P W 0 spare held fuel t cs = some x → Within P t x.1 → ∃ a, d.K (cellsAt W) a cs ∧ G a
theorem Has.z {P : Program} {t : TypeId} {α : Type} {d : Kd α} {G : α → Prop} (h : Has P t d G) : HasZ P t d G := fun enc W spare held fuel cs x hx _ => h enc W spare held fuel cs x hx
theorem HasZ.int {P : Program} {t : TypeId} {k : IntKind} (ht : P.underlying t = some (.int k)) : HasZ P t (kint k) (wfi k) := fun enc W spare held fuel cs x hx _ => Has.int ht enc W spare held fuel cs x hx
theorem HasZ.bool {P : Program} {t : TypeId} (ht : P.underlying t = some .bool) : HasZ P t kbool (fun _ => True) := fun enc W spare held fuel cs x hx _ => Has.bool ht enc W spare held fuel cs x hx
theorem HasZ.str {P : Program} {t : TypeId} (ht : P.underlying t = some .string) : HasZ P t kstr (fun s => s.length ≤ 140737488351232) := fun enc W spare held fuel cs x h hw => by
  obtain ⟨⟨⟨l⟩⟩, h1, rfl, h2⟩ := DataW.trod_string ht h
  refine ⟨l, h1, ?_⟩
  have := hw l.length (by simp [DataW.weights])
  exact this
theorem weightsAll_in {H : Type} {P : Program} {e : TypeId} : ∀ {l : List (DataW H)} {d : DataW H}, d ∈ l → ∀ n ∈ d.weights P e, n ∈ DataW.weightsAll P e l
  | d' :: r, d, hd, n, hn => by
    simp only [DataW.weightsAll, List.mem_append]
    rcases List.mem_cons.1 hd with rfl | h
    · exact Or.inl hn
    · exact Or.inr (weightsAll_in h n hn)
theorem HasZ.slice {P : Program} {t e : TypeId} {α : Type} {d : Kd α} {G : α → Prop} {B : Nat} (ht : P.underlying t = some (.slice e)) (hc : P.cellsOf e = d.sz) (hb : P.bytesOf e = B) (he : HasZ P e d G) : HasZ P t (kslice d) (fun xs => xs.length * B ≤ 140737488351232 ∧ ∀ x ∈ xs, G x) := fun enc W spare held fuel cs x h hw => by
  rcases DataW.trod_slice ht h with ⟨rfl, _⟩ | ⟨a, len, cap, elems, rest, n, rfl, rfl, rfl, _, h2, h3, h4, h5, _⟩
  · exact ⟨[], ⟨none, 0, rfl, ⟨Nat.le_refl _, fun _ => rfl, by decide⟩, Rd.nil _ _ _⟩, by simp, by simp⟩
  · have hw1 : (elems.length + rest.length) * P.bytesOf e ≤ reachBytes := hw _ (by simp [DataW.weights, ht])
    have hw2 : ∀ y ∈ elems, Within P e y.1 := fun y hy m hm => hw m (by
      simp only [DataW.weights, ht, List.mem_cons, List.mem_append]
      exact Or.inr (Or.inl (weightsAll_in (List.mem_map_of_mem hy) m hm)))
    obtain ⟨xs, hl, hx⟩ := pick_list (Q := fun i x => G x ∧ ∃ cs, d.K (cellsAt W) x cs ∧ ∀ j u, cs[j]? = some u → cz (cellsAt W) (a.add (i * d.sz + j)) = some u) len (fun i hi => by
      have h6 := h5 i hi
      rw [List.getElem?_eq_getElem (by omega)] at h6
      obtain ⟨cs, h7, h8⟩ := Option.bind_eq_some_iff.1 h6
      obtain ⟨x, h9, h10⟩ := he enc W spare held n cs _ h8 (hw2 _ (List.getElem_mem _))
      obtain ⟨_, h11, h12⟩ := World.cells?_some h7
      refine ⟨x, h10, cs, h9, fun j u hu => ?_⟩
      have hj : j < P.cellsOf e := by have := (List.getElem?_eq_some_iff.1 hu).1; omega
      have h13 := h12 j hj
      rw [hu, add_add, hc] at h13
      exact cz_cell h13)
    refine ⟨xs, ⟨some a, cap, by rw [hl], ⟨by omega, (fun h => by cases h), by simp only [maxLen] at h3; omega⟩, fun i x hi => ?_⟩, ?_, fun x hm => ?_⟩
    · obtain ⟨_, cs, h6, h7⟩ := hx i x hi
      exact ⟨a, cs, rfl, h6, h7⟩
    · subst hb
      rw [hl, ← h4]
      exact Nat.le_trans (Nat.mul_le_mul_right _ (Nat.le_add_right _ _)) hw1
    · obtain ⟨i, hi⟩ := List.getElem?_of_mem hm
      exact (hx i x hi).1
theorem weights_part {H : Type} {P : Program} {t : TypeId} {fs : Array Field} {xs : List (DataW H × List MemPlace)} {i : Nat} {f : Field} {y : DataW H × List MemPlace} (ht : P.underlying t = some (.struct fs)) (hf : fs[i]? = some f) (hy : xs[i]? = some y)
    (hw : Within P t (.agg (xs.map (·.1)) : DataW H)) : Within P f.type y.1 := fun n hn => hw n (by
  simp only [DataW.weights, ht]
  refine DataW.weights_mem_each (j := i) (t := f.type) (d := y.1) ?_ ?_ n hn
  · have : fs.toList[i]? = some f := by simpa using hf
    rw [List.getElem?_map, this]
    rfl
  · rw [List.getElem?_map, hy]
    rfl)
theorem within_arg {H : Type} {P : Program} {ts : List TypeId} {ds : List (DataW H)} (h : (DataW.weightsEach P ts ds).all (· ≤ reachBytes) = true) {j : Nat} {t : TypeId} {d : DataW H} (ht : ts[j]? = some t) (hd : ds[j]? = some d) : Within P t d := fun n hn =>
  of_decide_eq_true (List.all_eq_true.1 h n (DataW.weights_mem_each ht hd n hn))
end Go.Proofs.YtcjaplaifmhajaaDoorG
