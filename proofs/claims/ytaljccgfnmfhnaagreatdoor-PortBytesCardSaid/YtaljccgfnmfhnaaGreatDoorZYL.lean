/- The given row of PortBytes: its Said, out of the walk's contract. -/
import Derived.Below
import Derived.ChangeOld
import Derived.KernelRfl
import Derived.LaidHandle
import Derived.LaidMore
import Derived.Lay
import Derived.OpenShut
import Derived.ProofKit
import Derived.SevenTiedAt
import Derived.ShutString
import Derived.SizedLaws
import Derived.Test.YtaljccgfnmfhnaaGreatDoorCards
import Derived.Test.YtaljccgfnmfhnaaGreatDoorRows
import Derived.Test.YtaljccgfnmfhnaaGreatDoorTie
import Derived.Test.YtaljccgfnmfhnaaGreatDoorZY5
import Derived.WalkKit
namespace Go.Proofs.YtaljccgfnmfhnaaGreatDoor.portBytes
open Go Go.ChangeShapes Go.Proofs Go.WideShapes Go.ChangeAt Go.RowKit Go.Proofs.YtaljccgfnmfhnaaGreatDoorG
open Go.ChangeMaps (open_string shut_string)
set_option linter.all false
theorem own : ownKnob Tryz.prog.godebug = none := by kernel_rfl
theorem laidOut : laidOutB Tryz.prog = true := by kernel_rfl
set_option maxRecDepth 100000 in
theorem hasTStyle : HasZ Tryz.prog 56 kdTStyle (fun x => (wfi .i64 x.Align ∧ wfi .i64 x.Wrap ∧ wfi .i64 x.Dir)) := fun enc W spare held fuel cs x h hw => by
  obtain ⟨xs, n, rfl, rfl, hl, hx, hf⟩ := DataW.trod_struct Tryz.underlying56 h
  have hl : cs.length = 3 := hl.trans (by kernel_rfl)
  match cs, hl with
  | [u0, u1, u2], _ =>
    have h0 := hf 0 _ rfl
    rw [List.getElem?_eq_getElem (by rw [hx]; decide)] at h0
    obtain ⟨a0, k0, g0⟩ := (HasZ.int Tryz.underlying3) enc W spare held n [u0] _ h0 (weights_part Tryz.underlying56 (i := 0) rfl (List.getElem?_eq_getElem _) hw)
    obtain rfl : u0 = _ := by injection k0
    have h1 := hf 1 _ rfl
    rw [List.getElem?_eq_getElem (by rw [hx]; decide)] at h1
    obtain ⟨a1, k1, g1⟩ := (HasZ.int Tryz.underlying3) enc W spare held n [u1] _ h1 (weights_part Tryz.underlying56 (i := 1) rfl (List.getElem?_eq_getElem _) hw)
    obtain rfl : u1 = _ := by injection k1
    have h2 := hf 2 _ rfl
    rw [List.getElem?_eq_getElem (by rw [hx]; decide)] at h2
    obtain ⟨a2, k2, g2⟩ := (HasZ.int Tryz.underlying3) enc W spare held n [u2] _ h2 (weights_part Tryz.underlying56 (i := 2) rfl (List.getElem?_eq_getElem _) hw)
    obtain rfl : u2 = _ := by injection k2
    exact ⟨⟨a0, a1, a2⟩, rfl, ⟨g0, g1, g2⟩⟩
set_option maxRecDepth 100000 in
theorem hasTCell : HasZ Tryz.prog 58 kdTCell (fun x => (wfi .i64 x.Row ∧ wfi .i64 x.Col ∧ x.Text.length ≤ 140737488351232 ∧ (wfi .i64 x.Style.Align ∧ wfi .i64 x.Style.Wrap ∧ wfi .i64 x.Style.Dir))) := fun enc W spare held fuel cs x h hw => by
  obtain ⟨xs, n, rfl, rfl, hl, hx, hf⟩ := DataW.trod_struct Tryz.underlying58 h
  have hl : cs.length = 6 := hl.trans (by kernel_rfl)
  match cs, hl with
  | [u0, u1, u2, u3, u4, u5], _ =>
    have h0 := hf 0 _ rfl
    rw [List.getElem?_eq_getElem (by rw [hx]; decide)] at h0
    obtain ⟨a0, k0, g0⟩ := (HasZ.int Tryz.underlying3) enc W spare held n [u0] _ h0 (weights_part Tryz.underlying58 (i := 0) rfl (List.getElem?_eq_getElem _) hw)
    obtain rfl : u0 = _ := by injection k0
    have h1 := hf 1 _ rfl
    rw [List.getElem?_eq_getElem (by rw [hx]; decide)] at h1
    obtain ⟨a1, k1, g1⟩ := (HasZ.int Tryz.underlying3) enc W spare held n [u1] _ h1 (weights_part Tryz.underlying58 (i := 1) rfl (List.getElem?_eq_getElem _) hw)
    obtain rfl : u1 = _ := by injection k1
    have h2 := hf 2 _ rfl
    rw [List.getElem?_eq_getElem (by rw [hx]; decide)] at h2
    obtain ⟨a2, k2, g2⟩ := (HasZ.str Tryz.underlying9) enc W spare held n [u2] _ h2 (weights_part Tryz.underlying58 (i := 2) rfl (List.getElem?_eq_getElem _) hw)
    obtain rfl : u2 = _ := by injection k2
    have h3 := hf 3 _ rfl
    rw [List.getElem?_eq_getElem (by rw [hx]; decide)] at h3
    obtain ⟨a3, k3, g3⟩ := hasTStyle enc W spare held n [u3, u4, u5] _ h3 (weights_part Tryz.underlying58 (i := 3) rfl (List.getElem?_eq_getElem _) hw)
    have k3 : [u3, u4, u5] = [.int .i64 a3.Align, .int .i64 a3.Wrap, .int .i64 a3.Dir] := k3
    simp only [List.cons.injEq, and_true] at k3
    obtain ⟨rfl, rfl, rfl⟩ := k3
    exact ⟨⟨a0, a1, a2, a3⟩, rfl, ⟨g0, g1, g2, g3⟩⟩
set_option maxRecDepth 100000 in
theorem hasTRect : HasZ Tryz.prog 76 kdTRect (fun x => (wfi .i64 x.Row ∧ wfi .i64 x.Col ∧ wfi .i64 x.Rows ∧ wfi .i64 x.Cols)) := fun enc W spare held fuel cs x h hw => by
  obtain ⟨xs, n, rfl, rfl, hl, hx, hf⟩ := DataW.trod_struct Tryz.underlying76 h
  have hl : cs.length = 4 := hl.trans (by kernel_rfl)
  match cs, hl with
  | [u0, u1, u2, u3], _ =>
    have h0 := hf 0 _ rfl
    rw [List.getElem?_eq_getElem (by rw [hx]; decide)] at h0
    obtain ⟨a0, k0, g0⟩ := (HasZ.int Tryz.underlying3) enc W spare held n [u0] _ h0 (weights_part Tryz.underlying76 (i := 0) rfl (List.getElem?_eq_getElem _) hw)
    obtain rfl : u0 = _ := by injection k0
    have h1 := hf 1 _ rfl
    rw [List.getElem?_eq_getElem (by rw [hx]; decide)] at h1
    obtain ⟨a1, k1, g1⟩ := (HasZ.int Tryz.underlying3) enc W spare held n [u1] _ h1 (weights_part Tryz.underlying76 (i := 1) rfl (List.getElem?_eq_getElem _) hw)
    obtain rfl : u1 = _ := by injection k1
    have h2 := hf 2 _ rfl
    rw [List.getElem?_eq_getElem (by rw [hx]; decide)] at h2
    obtain ⟨a2, k2, g2⟩ := (HasZ.int Tryz.underlying3) enc W spare held n [u2] _ h2 (weights_part Tryz.underlying76 (i := 2) rfl (List.getElem?_eq_getElem _) hw)
    obtain rfl : u2 = _ := by injection k2
    have h3 := hf 3 _ rfl
    rw [List.getElem?_eq_getElem (by rw [hx]; decide)] at h3
    obtain ⟨a3, k3, g3⟩ := (HasZ.int Tryz.underlying3) enc W spare held n [u3] _ h3 (weights_part Tryz.underlying76 (i := 3) rfl (List.getElem?_eq_getElem _) hw)
    obtain rfl : u3 = _ := by injection k3
    exact ⟨⟨a0, a1, a2, a3⟩, rfl, ⟨g0, g1, g2, g3⟩⟩
set_option maxRecDepth 100000 in
theorem hasTSheet : HasZ Tryz.prog 30 kdTSheet (fun x => (wfi .i64 x.Right ∧ (x.Widths.length * 8 ≤ 140737488351232 ∧ ∀ y1 ∈ x.Widths, wfi .i64 y1) ∧ (x.Heights.length * 8 ≤ 140737488351232 ∧ ∀ y1 ∈ x.Heights, wfi .i64 y1) ∧ (x.Cells.length * 56 ≤ 140737488351232 ∧ ∀ y1 ∈ x.Cells, (wfi .i64 y1.Row ∧ wfi .i64 y1.Col ∧ y1.Text.length ≤ 140737488351232 ∧ (wfi .i64 y1.Style.Align ∧ wfi .i64 y1.Style.Wrap ∧ wfi .i64 y1.Style.Dir))) ∧ (x.Merges.length * 32 ≤ 140737488351232 ∧ ∀ y1 ∈ x.Merges, (wfi .i64 y1.Row ∧ wfi .i64 y1.Col ∧ wfi .i64 y1.Rows ∧ wfi .i64 y1.Cols)))) := fun enc W spare held fuel cs x h hw => by
  obtain ⟨xs, n, rfl, rfl, hl, hx, hf⟩ := DataW.trod_struct Tryz.underlying30 h
  have hl : cs.length = 5 := hl.trans (by kernel_rfl)
  match cs, hl with
  | [u0, u1, u2, u3, u4], _ =>
    have h0 := hf 0 _ rfl
    rw [List.getElem?_eq_getElem (by rw [hx]; decide)] at h0
    obtain ⟨a0, k0, g0⟩ := (HasZ.int Tryz.underlying3) enc W spare held n [u0] _ h0 (weights_part Tryz.underlying30 (i := 0) rfl (List.getElem?_eq_getElem _) hw)
    obtain rfl : u0 = _ := by injection k0
    have h1 := hf 1 _ rfl
    rw [List.getElem?_eq_getElem (by rw [hx]; decide)] at h1
    obtain ⟨a1, k1, g1⟩ := (HasZ.slice (d := (kint .i64)) (B := 8) Tryz.underlying26 (by kernel_rfl) (by kernel_rfl) (HasZ.int Tryz.underlying3)) enc W spare held n [u1] _ h1 (weights_part Tryz.underlying30 (i := 1) rfl (List.getElem?_eq_getElem _) hw)
    obtain ⟨A1, c1, k1, e1, r1⟩ := k1
    obtain rfl : u1 = _ := by injection k1
    have h2 := hf 2 _ rfl
    rw [List.getElem?_eq_getElem (by rw [hx]; decide)] at h2
    obtain ⟨a2, k2, g2⟩ := (HasZ.slice (d := (kint .i64)) (B := 8) Tryz.underlying26 (by kernel_rfl) (by kernel_rfl) (HasZ.int Tryz.underlying3)) enc W spare held n [u2] _ h2 (weights_part Tryz.underlying30 (i := 2) rfl (List.getElem?_eq_getElem _) hw)
    obtain ⟨A2, c2, k2, e2, r2⟩ := k2
    obtain rfl : u2 = _ := by injection k2
    have h3 := hf 3 _ rfl
    rw [List.getElem?_eq_getElem (by rw [hx]; decide)] at h3
    obtain ⟨a3, k3, g3⟩ := (HasZ.slice (d := kdTCell) (B := 56) Tryz.underlying27 (by kernel_rfl) (by kernel_rfl) hasTCell) enc W spare held n [u3] _ h3 (weights_part Tryz.underlying30 (i := 3) rfl (List.getElem?_eq_getElem _) hw)
    obtain ⟨A3, c3, k3, e3, r3⟩ := k3
    obtain rfl : u3 = _ := by injection k3
    have h4 := hf 4 _ rfl
    rw [List.getElem?_eq_getElem (by rw [hx]; decide)] at h4
    obtain ⟨a4, k4, g4⟩ := (HasZ.slice (d := kdTRect) (B := 32) Tryz.underlying28 (by kernel_rfl) (by kernel_rfl) hasTRect) enc W spare held n [u4] _ h4 (weights_part Tryz.underlying30 (i := 4) rfl (List.getElem?_eq_getElem _) hw)
    obtain ⟨A4, c4, k4, e4, r4⟩ := k4
    obtain rfl : u4 = _ := by injection k4
    exact ⟨⟨a0, a1, a2, a3, a4⟩, ⟨A1, c1, A2, c2, A3, c3, A4, c4, rfl, e1, r1, e2, r2, e3, r3, e4, r4⟩, ⟨g0, g1, g2, g3, g4⟩⟩

set_option maxHeartbeats 2000000 in
set_option maxRecDepth 100000 in
theorem lifted (os : Os) (started : os.Started) (H : Type) (enc : TypeId × Value → H) :
    ReturnsInHanded {} Tryz.checked os 7 .any (fun w args => (Rows.portBytesSpec.pre enc Tryz.prog Tryz.f7 [] false w args ∧ laidMetH Tryz.prog Rows.portBytesRow.laid w) ∧ sizedMet enc Tryz.prog Tryz.f7 (OpenSpec.ofChange Rows.portBytesSpec) false w args) (Rows.portBytesSpec.post enc Tryz.prog Tryz.f7 false true false false) := by
  refine handed_and_shaped (C := Tryz.checked) (X := fun w _ => laidMetH Tryz.prog Rows.portBytesRow.laid w) (fun _ _ _ hh h => h.of_heap hh) own started (by kernel_rfl) Tryz.func7
    (ChangeSpec.witness_shaped (enc := enc) (C := Tryz.checked) (os := os) (X := fun w _ => laidMetH Tryz.prog Rows.portBytesRow.laid w) false (lwO os (Rows.portBytesRow.laid.filter fun x => x.2.handleName?.isNone)) #[.agg #[.int .i64 0, .slice none 0 0, .slice none 0 0, .slice none 0 0, .slice none 0 0], .string ByteArray.empty] 8 (lwO_os _ _) (World.shaped_of_ZipB (by kernel_rfl) (by kernel_rfl)) (by kernel_rfl) (by kernel_rfl) (by kernel_rfl)
      (laidMetH_of_parts (lwO_met _ (by kernel_rfl) (by kernel_rfl)) (by kernel_rfl))) ?_
  intro W base args ds gs before hval0 hW hcnd hsz0 hXl hsh _
  have hMx : HM (cellsAt W) := hm_of hsh
  have hEx : ET (cellsAt W) := et_of hXl (by rfl)
  have hsz : (DataW.weightsEach Tryz.prog (Tryz.f7.params.toList ++ Rows.portBytesSpec.plain.varTypes Tryz.prog) (ds ++ gs)).all (· ≤ reachBytes) = true := hsz0
  have hval : ∀ (j : Nat) t v, Tryz.f7.params[j]? = some t → args[j]? = some v → Value.okWide Tryz.prog W .any base t v := hval0
  have hW' := hW
  obtain ⟨p, q, hA0, hV, rfl, hfz, hnd⟩ := hW
  have hA : DataW.TrodAll enc Tryz.prog W 0 (fun _ => true) true Tryz.f7.params.toList args.toList ds p := hA0
  rw [Tryz.params7] at hA hval hsz
  obtain ⟨v0, vs0, d0, ds0, p0, q0, hargs, rfl, rfl, h0, r0⟩ := trodAll_cons hA
  obtain ⟨v1, vs1, d1, ds1, p1, q1, rfl, rfl, rfl, h1, r1⟩ := trodAll_cons r0
  obtain ⟨rfl, rfl, rfl⟩ := trodAll_nil r1
  obtain rfl : args = #[v0, v1] := by cases args; simp_all
  obtain ⟨rfl, rfl⟩ := trodVars_none hV
  have k0 := h0
  have lt0 : ∀ x ∈ p0, x.block < W.heap.size := by obtain ⟨m, hm⟩ := k0; exact DataW.trod_lt m _ _ _ hm
  obtain ⟨fuel0, hf0⟩ := h0
  obtain ⟨x0, hK0, g0⟩ := hasTSheet enc W _ _ _ _ _ hf0 (within_arg hsz (j := 0) rfl rfl)
  obtain ⟨cs0, rfl, hcs0⟩ := agg_of Tryz.underlying30 (hval 0 30 v0 rfl rfl)
  rw [hcs0] at hK0
  obtain ⟨A0_Widths, c0_Widths, A0_Heights, c0_Heights, A0_Cells, c0_Cells, A0_Merges, c0_Merges, hcc0, hc0_Widths, hr0_Widths, hc0_Heights, hr0_Heights, hc0_Cells, hr0_Cells, hc0_Merges, hr0_Merges⟩ := hK0
  obtain rfl : cs0 = _ := hcc0
  have k1 := h1
  have lt1 : ∀ x ∈ p1, x.block < W.heap.size := by obtain ⟨m, hm⟩ := k1; exact DataW.trod_lt m _ _ _ hm
  obtain ⟨fuel1, hf1⟩ := h1
  obtain ⟨x1, hK1, g1⟩ := (HasZ.str Tryz.underlying9) enc W _ _ _ _ _ hf1 (within_arg hsz (j := 1) rfl rfl)
  obtain ⟨a1, rfl⟩ := okWide_string Tryz.underlying9 (hval 1 9 v1 rfl rfl)
  obtain rfl : a1 = ⟨x1.toArray⟩ := by injection hK1 with e; injection e
  clear hA0 hval0 hsz0 hsz
  refine (portBytes_calls x0 _ _ _ _ _ _ _ _ x1 (cellsAt W) W (In.nil (Sub.self W)) hr0_Widths hc0_Widths hr0_Heights hc0_Heights hr0_Cells hc0_Cells hr0_Merges hc0_Merges (by exact ⟨fun r hr => by obtain ⟨h1, h2, h3, h4⟩ := g0.2.2.2.2.2 r hr; exact ⟨wf64 h1, wf64 h2, wf64 h3, wf64 h4⟩, fun c hc => ⟨wf64 (g0.2.2.2.1.2 c hc).1, wf64 (g0.2.2.2.1.2 c hc).2.1⟩⟩) (by exact hMx) (by exact hEx)).mono fun e W' ⟨he, hC⟩ => ?_
  subst he
  have bel := hC.chg.below FF_nil
  exact ⟨_, rfl, _, _, _, [], _, [], hW', trodAll_mk1 (shut_bool Tryz.underlying4 _), (trodAll_cons_mk (Below.trod laidOut (by kernel_rfl) (of_decide_eq_true (by kernel_rfl)) k0 bel lt0) (trodAll_cons_mk (Below.trod laidOut (by kernel_rfl) (of_decide_eq_true (by kernel_rfl)) k1 bel lt1) trodAll_mk0)), rfl, bel.frame _, fun h => by cases h⟩
theorem over : Rows.portBytesRow.holds Tryz.pinned (OpenSpec.ofChange Rows.portBytesSpec) :=
  OpenClaim.holds_of_wide 7 Tryz.f7 rfl rfl rfl rfl rfl rfl rfl ⟨rfl, rfl, rfl, rfl, rfl⟩ rfl rfl rfl rfl rfl (by kernel_rfl) Tryz.func7 (by kernel_rfl)
    (of_decide_eq_true (by kernel_rfl)) (by unfold Func.isWrapper; first | (rw [if_pos (by decide +kernel)]; kernel_rfl) | (rw [if_neg (by decide +kernel)]; exact ⟨rfl, rfl⟩))
    (fun os started H enc _ => lifted os started H enc)
theorem proved : Rows.PortBytesSaid := over
theorem card_holds : Rows.PortBytesCardSaid :=
  Claim7.holds_tied_plain_at .later [] [.data, .handle, .pinned] true (true, "b41ae3f3b77925751c3f610a7e27b3ff1430829beedde898386914f5c6ed347f") true proved (fun _ h => by cases h) (by kernel_rfl) (fun _ h => by cases h) portBytes_row_tie rfl ⟨rfl, rfl⟩ (by kernel_rfl) rfl
    (fun f fn hf hfn => by
      obtain rfl : f = 7 := Option.some.inj ((show Tryz.prog.funcNamed "parquetry/parquetrylaw29.PortBytes" = some 7 by kernel_rfl).symm.trans hf) |>.symm
      obtain rfl : fn = Tryz.f7 := (Option.some.inj (Tryz.func7.symm.trans hfn)).symm
      exact ⟨by kernel_rfl, fun j t ht => by
        rw [Tryz.params7] at ht
        have hm : t ∈ [30, 9] := by simpa using Array.mem_of_getElem? ht
        have hall : ([30, 9].all fun u => !Tryz.prog.wantsStandIn u) = true := by kernel_rfl
        exact (show Tryz.prog.wantsStandIn t = false by simpa using List.all_eq_true.1 hall t hm)⟩)
    (by kernel_rfl)
end Go.Proofs.YtaljccgfnmfhnaaGreatDoor.portBytes
namespace Go.Proofs.YtaljccgfnmfhnaaGreatDoor
/-- The card, under a short name, for the claim. -/
theorem portBytes_holds : Rows.PortBytesCardSaid := portBytes.card_holds
end Go.Proofs.YtaljccgfnmfhnaaGreatDoor
