/- The given row of AxisSide: its Said, out of the walk's contract. -/
import Derived.Test.YtibniimdfahiiaaRows
import Derived.Test.YtibniimdfahiiaaMAxisSide
import Derived.Test.YtibniimdfahiiaaGR
import Derived.WalkKit
import Derived.ProofKit
import Derived.OpenShut
import Derived.ShutString
import Derived.ChangeOld
import Derived.Below
import Derived.SizedLaws
import Derived.KernelRfl
namespace Go.Proofs.Ytibniimdfahiiaa.axisSide
open Go Go.ChangeShapes Go.WideShapes Go.ChangeAt Go.RowKit Go.Proofs.YtibniimdfahiiaaG
open Go.ChangeMaps (open_string shut_string)
set_option linter.all false
theorem own : ownKnob Try.prog.godebug = none := by kernel_rfl
theorem laidOut : laidOutB Try.prog = true := by kernel_rfl
theorem hasTRect : Has Try.prog 30 kdTRect (fun x => (wfi .i64 x.Row ∧ wfi .i64 x.Col ∧ wfi .i64 x.Rows ∧ wfi .i64 x.Cols)) := fun enc W spare held fuel cs x h => by
  obtain ⟨xs, n, rfl, rfl, hl, hx, hf⟩ := DataW.trod_struct Try.underlying30 h
  have hl : cs.length = 4 := hl.trans (by kernel_rfl)
  match cs, hl with
  | [u0, u1, u2, u3], _ =>
    have h0 := hf 0 _ rfl
    rw [List.getElem?_eq_getElem (by rw [hx]; decide)] at h0
    obtain ⟨a0, k0, g0⟩ := (Has.int Try.underlying3) enc W spare held n [u0] _ h0
    obtain rfl : u0 = _ := by injection k0
    have h1 := hf 1 _ rfl
    rw [List.getElem?_eq_getElem (by rw [hx]; decide)] at h1
    obtain ⟨a1, k1, g1⟩ := (Has.int Try.underlying3) enc W spare held n [u1] _ h1
    obtain rfl : u1 = _ := by injection k1
    have h2 := hf 2 _ rfl
    rw [List.getElem?_eq_getElem (by rw [hx]; decide)] at h2
    obtain ⟨a2, k2, g2⟩ := (Has.int Try.underlying3) enc W spare held n [u2] _ h2
    obtain rfl : u2 = _ := by injection k2
    have h3 := hf 3 _ rfl
    rw [List.getElem?_eq_getElem (by rw [hx]; decide)] at h3
    obtain ⟨a3, k3, g3⟩ := (Has.int Try.underlying3) enc W spare held n [u3] _ h3
    obtain rfl : u3 = _ := by injection k3
    exact ⟨⟨a0, a1, a2, a3⟩, rfl, ⟨g0, g1, g2, g3⟩⟩

set_option maxHeartbeats 2000000 in
set_option maxRecDepth 100000 in
theorem lifted (os : Os) (started : os.Started) (H : Type) (enc : TypeId × Value → H) :
    ReturnsInHanded {} Try.checked os 6 .any (Rows.axisSideSpec.pre6 enc Try.prog Try.f6 Rows.axisSideRow.domain false) (Rows.axisSideSpec.post enc Try.prog Try.f6 false true false false) := by
  refine returnsInHanded_of_change_sized (C := Try.checked) own started (by kernel_rfl) Try.func6
    (ChangeSpec.witness6 (enc := enc) (C := Try.checked) false ⟨#[], #[.slice none 0 0, .slice none 0 0, .agg #[.int .i64 0, .int .i64 0, .int .i64 0, .int .i64 0], .int .i64 0, .bool false], []⟩ 8 (by kernel_rfl) (by kernel_rfl) (by kernel_rfl) (by kernel_rfl)) ?_
  intro W base args ds gs before hval0 hW hcnd hsz0 _
  have hsz : (DataW.weightsEach Try.prog (Try.f6.params.toList ++ Rows.axisSideSpec.plain.varTypes Try.prog) (ds ++ gs)).all (· ≤ reachBytes) = true := hsz0
  have hval : ∀ (j : Nat) t v, Try.f6.params[j]? = some t → args[j]? = some v → Value.okWide Try.prog W .any base t v := hval0
  have hW' := hW
  obtain ⟨p, q, hA0, hV, rfl, hfz, hnd⟩ := hW
  have hA : DataW.TrodAll enc Try.prog W 0 (fun _ => true) true Try.f6.params.toList args.toList ds p := hA0
  rw [Try.params6] at hA hval hsz
  obtain ⟨v0, vs0, d0, ds0, p0, q0, hargs, rfl, rfl, h0, r0⟩ := trodAll_cons hA
  obtain ⟨v1, vs1, d1, ds1, p1, q1, rfl, rfl, rfl, h1, r1⟩ := trodAll_cons r0
  obtain ⟨v2, vs2, d2, ds2, p2, q2, rfl, rfl, rfl, h2, r2⟩ := trodAll_cons r1
  obtain ⟨v3, vs3, d3, ds3, p3, q3, rfl, rfl, rfl, h3, r3⟩ := trodAll_cons r2
  obtain ⟨v4, vs4, d4, ds4, p4, q4, rfl, rfl, rfl, h4, r4⟩ := trodAll_cons r3
  obtain ⟨rfl, rfl, rfl⟩ := trodAll_nil r4
  obtain rfl : args = #[v0, v1, v2, v3, v4] := by cases args; simp_all
  obtain ⟨rfl, rfl⟩ := trodVars_none hV
  have k0 := h0
  have lt0 : ∀ x ∈ p0, x.block < W.heap.size := by obtain ⟨m, hm⟩ := k0; exact DataW.trod_lt m _ _ _ hm
  obtain ⟨fuel0, hf0⟩ := h0
  obtain ⟨x0, hK0, g0⟩ := (Has.slice (d := (kint .i64)) Try.underlying22 (by kernel_rfl) (Has.int Try.underlying3)) enc W _ _ _ _ _ hf0
  obtain ⟨A0, c0, hcs0, hc0, hr0⟩ := hK0
  obtain ⟨a0, len0, cap0, rfl⟩ := okWide_slice Try.underlying22 (hval 0 22 v0 rfl rfl)
  simp [Value.cells] at hcs0
  obtain ⟨rfl, rfl, rfl⟩ := hcs0
  have k1 := h1
  have lt1 : ∀ x ∈ p1, x.block < W.heap.size := by obtain ⟨m, hm⟩ := k1; exact DataW.trod_lt m _ _ _ hm
  obtain ⟨fuel1, hf1⟩ := h1
  obtain ⟨x1, hK1, g1⟩ := (Has.slice (d := (kint .i64)) Try.underlying22 (by kernel_rfl) (Has.int Try.underlying3)) enc W _ _ _ _ _ hf1
  obtain ⟨A1, c1, hcs1, hc1, hr1⟩ := hK1
  obtain ⟨a1, len1, cap1, rfl⟩ := okWide_slice Try.underlying22 (hval 1 22 v1 rfl rfl)
  simp [Value.cells] at hcs1
  obtain ⟨rfl, rfl, rfl⟩ := hcs1
  have k2 := h2
  have lt2 : ∀ x ∈ p2, x.block < W.heap.size := by obtain ⟨m, hm⟩ := k2; exact DataW.trod_lt m _ _ _ hm
  obtain ⟨fuel2, hf2⟩ := h2
  obtain ⟨x2, hK2, g2⟩ := hasTRect enc W _ _ _ _ _ hf2
  obtain ⟨cs2, rfl, hcs2⟩ := agg_of Try.underlying30 (hval 2 30 v2 rfl rfl)
  rw [hcs2] at hK2
  obtain rfl : cs2 = _ := hK2
  have k3 := h3
  have lt3 : ∀ x ∈ p3, x.block < W.heap.size := by obtain ⟨m, hm⟩ := k3; exact DataW.trod_lt m _ _ _ hm
  obtain ⟨fuel3, hf3⟩ := h3
  obtain ⟨x3, hK3, g3⟩ := (Has.int Try.underlying3) enc W _ _ _ _ _ hf3
  obtain ⟨a3, rfl⟩ := okWide_int Try.underlying3 (hval 3 3 v3 rfl rfl)
  obtain rfl : a3 = x3 := by injection hK3 with e; injection e
  have b3 := wf64 g3
  have k4 := h4
  have lt4 : ∀ x ∈ p4, x.block < W.heap.size := by obtain ⟨m, hm⟩ := k4; exact DataW.trod_lt m _ _ _ hm
  obtain ⟨fuel4, hf4⟩ := h4
  obtain ⟨x4, hK4, g4⟩ := (Has.bool Try.underlying4) enc W _ _ _ _ _ hf4
  obtain ⟨a4, rfl⟩ := okWide_bool Try.underlying4 (hval 4 4 v4 rfl rfl)
  obtain rfl : a4 = x4 := by injection hK4 with e; injection e
  clear hA0 hval0 hsz0 hsz
  refine (axisSide_calls _ _ x0 _ _ x1 x2 a3 a4 (cellsAt W) W (Sub.self W) hr0 hc0 hr1 hc1 ).mono fun e W' ⟨he, hC⟩ => ?_
  subst he
  have bel := hC.below
  exact ⟨_, rfl, _, _, _, [], _, [], hW', trodAll_mk1 (shut_bool Try.underlying4 _), (trodAll_cons_mk (Below.trod laidOut (by kernel_rfl) (of_decide_eq_true (by kernel_rfl)) k0 bel lt0) (trodAll_cons_mk (Below.trod laidOut (by kernel_rfl) (of_decide_eq_true (by kernel_rfl)) k1 bel lt1) (trodAll_cons_mk (Below.trod laidOut (by kernel_rfl) (of_decide_eq_true (by kernel_rfl)) k2 bel lt2) (trodAll_cons_mk (Below.trod laidOut (by kernel_rfl) (of_decide_eq_true (by kernel_rfl)) k3 bel lt3) (trodAll_cons_mk (Below.trod laidOut (by kernel_rfl) (of_decide_eq_true (by kernel_rfl)) k4 bel lt4) trodAll_mk0))))), rfl, bel.frame _, fun h => by cases h⟩
theorem over : Rows.axisSideRow.holds Try.pinned (OpenSpec.ofChange Rows.axisSideSpec) :=
  OpenClaim.holds_of_wide 6 Try.f6 rfl rfl rfl rfl rfl rfl rfl ⟨rfl, rfl, rfl, rfl, rfl⟩ rfl rfl rfl rfl rfl (by kernel_rfl) Try.func6 (by kernel_rfl)
    (of_decide_eq_true (by kernel_rfl)) (by unfold Func.isWrapper; first | (rw [if_pos (by decide +kernel)]; kernel_rfl) | (rw [if_neg (by decide +kernel)]; exact ⟨rfl, rfl⟩))
    (fun os started H enc _ => lifted os started H enc)
theorem proved : Rows.AxisSideSaid := over
end Go.Proofs.Ytibniimdfahiiaa.axisSide
namespace Go.Proofs.Ytibniimdfahiiaa
/-- The row, under a short name, for the claim. -/
theorem axisSide_holds : Rows.AxisSideSaid := axisSide.proved
end Go.Proofs.Ytibniimdfahiiaa
