/- What the library's functions answer, in the walks' own form. -/
import Derived.Test.YtcjaplaifmhajaaDoorQuJ
import Derived.Test.YtcjaplaifmhajaaDoorQuR
set_option linter.all false
namespace Go.Proofs.YtcjaplaifmhajaaDoorG
open Go Go.Shelf Go.RowKit Go.Proofs
def HM (z : Z) : Prop := ∃ m, z (rho.g 1) = some #[.int .i64 m]
theorem HM.cell {z : Z} (h : HM z) : ∃ m, ∀ w, Sub z w → w.cell? ⟨rho.g 1, 0, none⟩ = some (.int .i64 m) := by
  obtain ⟨m, hm⟩ := h
  refine ⟨m, fun w hw => ?_⟩
  have := hw _ _ hm
  unfold cellsAt at this
  simp only [World.cell?]
  split at this
  · rename_i cs T fz heq
    injection this with this
    subst this
    rw [heq]
    rfl
  · cases this
theorem HM.mono {z z' : Z} (h : HM z) (hz : zle z z') : HM z' := h.imp fun m hm => hz _ _ hm
theorem Sp_below {z : Z} {w w' : World} {rs : List Res} (hI : In z w rs) (h : Below w.heap.size w w') : Sp (FF rs) w z w' rs := by
  refine ⟨hI.sub, hI.dz, ⟨h.os, h.tape, h.output, h.size, fun k hk _ => h.block k hk⟩, fun r hr => r.st (hI.all r hr) fun k hk _ => h.block k hk, fun r hr k hk => .inl ⟨r, hr, hk⟩, hI.sep⟩
theorem Below_sp {z : Z} {w w' : World} {rs : List Res} (h : Sp (FF []) w z w' rs) : Below w.heap.size w w' := h.chg.below FF_nil
theorem sz_st (s : St) : (⟨s.toArray⟩ : ByteArray).size = s.length := by simp [ByteArray.size]
theorem indexAny_calls (a0 : St) (a1 : St) (z : Z) (w : World) (hI : In z w []) (p0 : a1 = ([34, 44, 13, 10] : St)) (p1 : a0.length ≤ 1000000000) :
    Calls Tryd.prog 28 #[vstr a0, vstr a1] w fun e w' => e = .returned (.int .i64 (Lib.indexAny a0 ([34, 44, 13, 10] : St))) ∧ Sp (FF []) w z w' [] := by
  subst p0
  by_cases h8 : a0.length ≤ 8
  · have := indexAny_short lays153 ⟨a0.toArray⟩ w (by rw [sz_st]; exact h8)
    exact Calls.mono this fun e w' ⟨h1, h2⟩ => ⟨h1, Sp_below hI h2⟩
  · obtain ⟨hv, hi⟩ := zero_of_info zero116
    have := Any.strings_IndexAny_long lays153 hv hi ⟨a0.toArray⟩ four w (by decide) (by rw [sz_st]; omega) (by rw [sz_st]; omega) (by decide) (fun j b hj => by
      have hm : b ∈ four.data.toList := List.mem_of_getElem? hj
      simp [four] at hm
      rcases hm with rfl | rfl | rfl | rfl <;> decide)
    exact Calls.mono this fun e w' ⟨h1, h2⟩ => ⟨h1, Sp_below hI (h2 ▸ (((Below.refl _ w).alloc (Nat.le_refl _) _).alloc (by simp) _))⟩
theorem replaceAll_calls (a0 : St) (a1 : St) (a2 : St) (z : Z) (w : World) (hI : In z w []) (p0 : a1 = ([34] : St)) (p1 : a2 = ([34, 34] : St)) (p2 : a0.length ≤ 1000000000) (p3 : HM z) :
    Calls Tryd.prog 21 #[vstr a0, vstr a1, vstr a2] w fun e w' => e = .returned (vstr (dupS a0)) ∧ Sp (FF []) w z w' [] := by
  subst p0 p1
  obtain ⟨m, hm⟩ := p3.cell
  have hc : Lib.countB ⟨a0.toArray⟩ ⟨([34] : St).toArray⟩ ≤ a0.length + 1 := Lib.count_le a0 [34]
  have := Any.strings_ReplaceAll lays155 bextra ⟨a0.toArray⟩ ⟨([34] : St).toArray⟩ ⟨([34, 34] : St).toArray⟩ m w (by rw [sz_st]; omega) (hm w hI.sub) (by rw [sz_st]; decide) (by rw [sz_st, sz_st]; simp only [List.length_cons, List.length_nil]; omega)
  refine Calls.mono this fun e w' ⟨h1, h2⟩ => ⟨?_, Sp_below hI h2⟩
  rw [h1, ← replAll_dup]
end Go.Proofs.YtcjaplaifmhajaaDoorG
