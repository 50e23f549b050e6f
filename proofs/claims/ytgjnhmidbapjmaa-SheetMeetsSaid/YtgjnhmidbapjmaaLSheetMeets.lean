/- The given row of SheetMeets: its Said, out of the walk's contract. -/
import Derived.Test.YtgjnhmidbapjmaaRows
import Derived.Test.YtgjnhmidbapjmaaMSheetMeets
import Derived.Test.YtgjnhmidbapjmaaGR
import Derived.WalkKit
import Derived.ProofKit
import Derived.OpenShut
import Derived.ShutString
import Derived.ChangeOld
import Derived.Below
import Derived.SizedLaws
import Derived.KernelRfl
namespace Go.Proofs.Ytgjnhmidbapjmaa.sheetMeets
open Go Go.ChangeShapes Go.WideShapes Go.ChangeAt Go.RowKit Go.Proofs.YtgjnhmidbapjmaaG
open Go.ChangeMaps (open_string shut_string)
set_option linter.all false
theorem own : ownKnob Try.prog.godebug = none := by kernel_rfl
theorem laidOut : laidOutB Try.prog = true := by kernel_rfl
set_option maxRecDepth 100000 in
theorem hasTRect : Has Try.prog 33 kdTRect (fun x => (wfi .i64 x.Row ∧ wfi .i64 x.Col ∧ wfi .i64 x.Rows ∧ wfi .i64 x.Cols)) := fun enc W spare held fuel cs x h => by
  obtain ⟨xs, n, rfl, rfl, hl, hx, hf⟩ := DataW.trod_struct Try.underlying33 h
  have hl : cs.length = 4 := hl.trans (by kernel_rfl)
  match cs, hl with
  | [u0, u1, u2, u3], _ =>
    have h0 := hf 0 _ rfl
    rw [List.getElem?_eq_getElem (by rw [hx]; decide)] at h0
    obtain ⟨a0, k0, g0⟩ := (Has.int Try.underlying3) enc W spare held n [u0] _ h0
    obtain rfl : u0 = _ := by injection k0
    have h1 := hf 1 _ rfl
    rw [List.getElem?_eq_getElem (by rw [hx]; decide)] at h1
    obtain ⟨a1, k1, g1⟩ := (Has.int Try.underlying3) enc W spare held n [u1] _ h1
    obtain rfl : u1 = _ := by injection k1
    have h2 := hf 2 _ rfl
    rw [List.getElem?_eq_getElem (by rw [hx]; decide)] at h2
    obtain ⟨a2, k2, g2⟩ := (Has.int Try.underlying3) enc W spare held n [u2] _ h2
    obtain rfl : u2 = _ := by injection k2
    have h3 := hf 3 _ rfl
    rw [List.getElem?_eq_getElem (by rw [hx]; decide)] at h3
    obtain ⟨a3, k3, g3⟩ := (Has.int Try.underlying3) enc W spare held n [u3] _ h3
    obtain rfl : u3 = _ := by injection k3
    exact ⟨⟨a0, a1, a2, a3⟩, rfl, ⟨g0, g1, g2, g3⟩⟩

set_option maxHeartbeats 2000000 in
set_option maxRecDepth 100000 in
theorem lifted (os : Os) (started : os.Started) (H : Type) (enc : TypeId × Value → H) :
    ReturnsInHanded {} Try.checked os 7 .any (Rows.sheetMeetsSpec.pre6 enc Try.prog Try.f7 Rows.sheetMeetsRow.domain false) (Rows.sheetMeetsSpec.post enc Try.prog Try.f7 false true false false) := by
  refine returnsInHanded_of_change_sized (C := Try.checked) own started (by kernel_rfl) Try.func7
    (ChangeSpec.witness6 (enc := enc) (C := Try.checked) false ⟨#[], #[.agg #[.int .i64 0, .int .i64 0, .int .i64 0, .int .i64 0], .agg #[.int .i64 0, .int .i64 0, .int .i64 0, .int .i64 0]], []⟩ 8 (by kernel_rfl) (by kernel_rfl) (by kernel_rfl) (by kernel_rfl)) ?_
  intro W base args ds gs before hval0 hW hcnd hsz0 _
  have hsz : (DataW.weightsEach Try.prog (Try.f7.params.toList ++ Rows.sheetMeetsSpec.plain.varTypes Try.prog) (ds ++ gs)).all (· ≤ reachBytes) = true := hsz0
  have hval : ∀ (j : Nat) t v, Try.f7.params[j]? = some t → args[j]? = some v → Value.okWide Try.prog W .any base t v := hval0
  have hW' := hW
  obtain ⟨p, q, hA0, hV, rfl, hfz, hnd⟩ := hW
  have hA : DataW.TrodAll enc Try.prog W 0 (fun _ => true) true Try.f7.params.toList args.toList ds p := hA0
  rw [Try.params7] at hA hval hsz
  obtain ⟨v0, vs0, d0, ds0, p0, q0, hargs, rfl, rfl, h0, r0⟩ := trodAll_cons hA
  obtain ⟨v1, vs1, d1, ds1, p1, q1, rfl, rfl, rfl, h1, r1⟩ := trodAll_cons r0
  obtain ⟨rfl, rfl, rfl⟩ := trodAll_nil r1
  obtain rfl : args = #[v0, v1] := by cases args; simp_all
  obtain ⟨rfl, rfl⟩ := trodVars_none hV
  have k0 := h0
  have lt0 : ∀ x ∈ p0, x.block < W.heap.size := by obtain ⟨m, hm⟩ := k0; exact DataW.trod_lt m _ _ _ hm
  obtain ⟨fuel0, hf0⟩ := h0
  obtain ⟨x0, hK0, g0⟩ := hasTRect enc W _ _ _ _ _ hf0
  obtain ⟨cs0, rfl, hcs0⟩ := agg_of Try.underlying33 (hval 0 33 v0 rfl rfl)
  rw [hcs0] at hK0
  obtain rfl : cs0 = _ := hK0
  have k1 := h1
  have lt1 : ∀ x ∈ p1, x.block < W.heap.size := by obtain ⟨m, hm⟩ := k1; exact DataW.trod_lt m _ _ _ hm
  obtain ⟨fuel1, hf1⟩ := h1
  obtain ⟨x1, hK1, g1⟩ := hasTRect enc W _ _ _ _ _ hf1
  obtain ⟨cs1, rfl, hcs1⟩ := agg_of Try.underlying33 (hval 1 33 v1 rfl rfl)
  rw [hcs1] at hK1
  obtain rfl : cs1 = _ := hK1
  clear hA0 hval0 hsz0 hsz
  refine (sheetMeets_calls x0 x1 (cellsAt W) W (In.nil (Sub.self W))  (by obtain ⟨h1, h2, h3, h4⟩ := g0; exact ⟨wf64 h1, wf64 h2, wf64 h3, wf64 h4⟩) (by obtain ⟨h1, h2, h3, h4⟩ := g1; exact ⟨wf64 h1, wf64 h2, wf64 h3, wf64 h4⟩)).mono fun e W' ⟨he, hC⟩ => ?_
  subst he
  have bel := hC.chg.below FF_nil
  exact ⟨_, rfl, _, _, _, [], _, [], hW', trodAll_mk1 (shut_bool Try.underlying4 _), (trodAll_cons_mk (Below.trod laidOut (by kernel_rfl) (of_decide_eq_true (by kernel_rfl)) k0 bel lt0) (trodAll_cons_mk (Below.trod laidOut (by kernel_rfl) (of_decide_eq_true (by kernel_rfl)) k1 bel lt1) trodAll_mk0)), rfl, bel.frame _, fun h => by cases h⟩
theorem over : Rows.sheetMeetsRow.holds Try.pinned (OpenSpec.ofChange Rows.sheetMeetsSpec) :=
  OpenClaim.holds_of_wide 7 Try.f7 rfl rfl rfl rfl rfl rfl rfl ⟨rfl, rfl, rfl, rfl, rfl⟩ rfl rfl rfl rfl rfl (by kernel_rfl) Try.func7 (by kernel_rfl)
    (of_decide_eq_true (by kernel_rfl)) (by unfold Func.isWrapper; first | (rw [if_pos (by decide +kernel)]; kernel_rfl) | (rw [if_neg (by decide +kernel)]; exact ⟨rfl, rfl⟩))
    (fun os started H enc _ => lifted os started H enc)
theorem proved : Rows.SheetMeetsSaid := over
end Go.Proofs.Ytgjnhmidbapjmaa.sheetMeets
namespace Go.Proofs.Ytgjnhmidbapjmaa
/-- The row, under a short name, for the claim. -/
theorem sheetMeets_holds : Rows.SheetMeetsSaid := sheetMeets.proved
end Go.Proofs.Ytgjnhmidbapjmaa
