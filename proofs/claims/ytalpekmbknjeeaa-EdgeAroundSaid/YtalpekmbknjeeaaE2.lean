/- Walks, each function once: what it computes. -/
import Derived.Test.YtalpekmbknjeeaaE1
set_option linter.all false
namespace Go.Proofs.YtalpekmbknjeeaaG
open Go Go.RowKit
set_option maxHeartbeats 2000000 in
set_option maxRecDepth 20000 in
theorem rarms_calls (a0 : TSheet) (Aa0_Widths : Option Addr) (ca0_Widths : Nat) (Aa0_Heights : Option Addr) (ca0_Heights : Nat) (Aa0_Cells : Option Addr) (ca0_Cells : Nat) (Aa0_Merges : Option Addr) (ca0_Merges : Nat) (a1 : Int) (a2 : Int) (z : Z) (w : World) (hI : In z w []) (hra0_Widths : Rd (kint .i64) z Aa0_Widths a0.Widths) (hca0_Widths : Cap Aa0_Widths a0.Widths.length ca0_Widths) (hra0_Heights : Rd (kint .i64) z Aa0_Heights a0.Heights) (hca0_Heights : Cap Aa0_Heights a0.Heights.length ca0_Heights) (hra0_Cells : Rd kdTCell z Aa0_Cells a0.Cells) (hca0_Cells : Cap Aa0_Cells a0.Cells.length ca0_Cells) (hra0_Merges : Rd kdTRect z Aa0_Merges a0.Merges) (hca0_Merges : Cap Aa0_Merges a0.Merges.length ca0_Merges) (p0 : SheetI a0) :
    Calls Try.prog 10 #[.agg #[.int .i64 a0.Right, .slice Aa0_Widths a0.Widths.length ca0_Widths, .slice Aa0_Heights a0.Heights.length ca0_Heights, .slice Aa0_Cells a0.Cells.length ca0_Cells, .slice Aa0_Merges a0.Merges.length ca0_Merges], .int .i64 a1, .int .i64 a2] w fun e w' => e = .returned (.tuple #[.int .i64 (rarmsS a0 a1 a2).1, .int .i64 (rarmsS a0 a1 a2).2]) ∧ Sp (FF []) w z w' [] := by
 have hla0_Widths := hca0_Widths.le
 have hma0_Widths := hca0_Widths.mx
 have hla0_Heights := hca0_Heights.le
 have hma0_Heights := hca0_Heights.mx
 have hla0_Cells := hca0_Cells.le
 have hma0_Cells := hca0_Cells.mx
 have hla0_Merges := hca0_Merges.le
 have hma0_Merges := hca0_Merges.mx
 have hS := hI.sp
 refine Calls_of (vs := [.agg #[.int .i64 a0.Right, .slice Aa0_Widths a0.Widths.length ca0_Widths, .slice Aa0_Heights a0.Heights.length ca0_Heights, .slice Aa0_Cells a0.Cells.length ca0_Cells, .slice Aa0_Merges a0.Merges.length ca0_Merges], .int .i64 a1, .int .i64 a2]) (N := 72) Try.func10 rfl rfl (Nat.le_of_ble_eq_true rfl) ?_
 refine C_seq ?_
 refine C_region ?_
 refine W_cons rfl (by decide) (S_box hS rfl (R_box (cs := [.int .i64 a0.Right, .slice Aa0_Widths a0.Widths.length ca0_Widths, .slice Aa0_Heights a0.Heights.length ca0_Heights, .slice Aa0_Cells a0.Cells.length ca0_Cells, .slice Aa0_Merges a0.Merges.length ca0_Merges]) rfl rfl rfl) (fun b2 w1 hS => ?_))
 refine wv rfl rfl rfl (R_assign rfl rfl) <| wv rfl rfl rfl (R_assign rfl rfl) ?_
 refine W_nil ?_
 refine E_then ?_
 refine C_seq ?_
 refine C_seq ?_
 refine C_region ?_
 refine wv rfl rfl rfl (R_loadN (cs := [.int .i64 a0.Right, .slice Aa0_Widths a0.Widths.length ca0_Widths, .slice Aa0_Heights a0.Heights.length ca0_Heights, .slice Aa0_Cells a0.Cells.length ca0_Cells, .slice Aa0_Merges a0.Merges.length ca0_Merges]) rfl rfl agg26 size26 rfl (boxcells (hS.bx 0 rfl) 0 rfl)) ?_
 refine W_cons rfl (by decide) (Sv_call rfl rfl rfl ent27 ?_)
 refine (rcheck_calls a0 Aa0_Widths ca0_Widths Aa0_Heights ca0_Heights Aa0_Cells ca0_Cells Aa0_Merges ca0_Merges _ _ hS.out0 (hra0_Widths.mono (hS.zl [])) hca0_Widths (hra0_Heights.mono (hS.zl [])) hca0_Heights (hra0_Cells.mono (hS.zl [])) hca0_Cells (hra0_Merges.mono (hS.zl [])) hca0_Merges ).mono ?_
 rintro e_ w3 ⟨rfl, hS_⟩
 refine ⟨_, rfl, ?_⟩
 have hS := hS.call0 hS_
 refine wv rfl rfl rfl (R_assign rfl rfl) ?_
 refine W_nil ?_
 refine E_then (C_fr [(1, .int .i64 a1), (2, .int .i64 a2), (3, .pointer (some ⟨b2, 0, none⟩)), (8, .int .i64 (rcheckSh a0))] rfl ?_)
 refine C_seq ?_
 refine C_region ?_
 refine wv rfl rfl rfl (R_move rfl rfl) <| wv rfl rfl rfl (R_bin rfl rfl rfl rfl rfl) ?_
 refine W_nil ?_
 refine E_then ?_
 refine C_ite rfl (fun hC0 => ?_) (fun hC0 => ?_)
 ·have _hC0 := trivial
  have hC0p : ¬ (rcheckSh a0) = 0 := by simpa using hC0
  refine C_seq ?_
  refine C_region ?_
  refine wv rfl rfl rfl (R_move rfl rfl) <| wv rfl rfl rfl (R_assign rfl rfl) <| wv rfl rfl rfl (R_assign rfl rfl) ?_
  refine W_nil ?_
  refine E_then (C_fr [(6, .int .i64 0), (7, .int .i64 (rcheckSh a0))] rfl ?_)
  refine C_ret ?_
  refine E_then_ret ?_
  refine E_ret2 rfl rfl rfl ?_
  exact ⟨Lret2 (Lint (show 0 = (rarmsS a0 a1 a2).1 by first | (rw [rarms_bad (by assumption)] <;> rfl) | (rw [rarms_far (by omega) (by unfold offS; omega)] <;> rfl) | (rw [rarms_no (by omega) (by unfold offS; omega) (by simpa using hC2)] <;> rfl) | (rw [rarms_ok (by omega) (by unfold offS; omega) (by simpa using hC2)] <;> simp_all [b2i]))) (Lint (show rcheckSh a0 = (rarmsS a0 a1 a2).2 by first | (rw [rarms_bad (by assumption)] <;> rfl) | (rw [rarms_far (by omega) (by unfold offS; omega)] <;> rfl) | (rw [rarms_no (by omega) (by unfold offS; omega) (by simpa using hC2)] <;> rfl) | (rw [rarms_ok (by omega) (by unfold offS; omega) (by simpa using hC2)] <;> simp_all [b2i]))), hS.fin [] (by decide) rfl⟩
 ·have _hC0 := trivial
  have hC0p : (rcheckSh a0) = 0 := by simpa using hC0
  refine C_skip ?_
  refine E_then ?_
  refine C_seq ?_
  obtain ⟨hsm0, hsm1, hsm2⟩ := rchk_small (s := a0) (by omega)
  have hslw := slots_len a0.Widths
  have hslh := slots_len a0.Heights
  have hsw : slotsW a0 = ((slotsS a0.Widths).length : Int) := rfl
  have hsh : slotsH a0 = ((slotsS a0.Heights).length : Int) := rfl
  refine C_region ?_
  refine wv rfl rfl rfl (R_loadN (cs := [.int .i64 a0.Right, .slice Aa0_Widths a0.Widths.length ca0_Widths, .slice Aa0_Heights a0.Heights.length ca0_Heights, .slice Aa0_Cells a0.Cells.length ca0_Cells, .slice Aa0_Merges a0.Merges.length ca0_Merges]) rfl rfl agg26 size26 rfl (boxcells (hS.bx 0 rfl) 0 rfl)) ?_
  refine W_cons rfl (by decide) (Sv_call rfl rfl rfl ent28 ?_)
  refine (rlong_calls a0 Aa0_Widths ca0_Widths Aa0_Heights ca0_Heights Aa0_Cells ca0_Cells Aa0_Merges ca0_Merges _ _ hS.out0 (hra0_Widths.mono (hS.zl [])) hca0_Widths (hra0_Heights.mono (hS.zl [])) hca0_Heights (hra0_Cells.mono (hS.zl [])) hca0_Cells (hra0_Merges.mono (hS.zl [])) hca0_Merges (by first | omega | assumption)).mono ?_
  rintro e_ w5 ⟨rfl, hS_⟩
  refine ⟨_, rfl, ?_⟩
  have hS := hS.call0 hS_
  refine wv rfl rfl rfl (R_move rfl rfl) <| wv rfl rfl rfl (R_extract rfl rfl rfl) <| wv rfl rfl rfl (R_extract rfl rfl rfl) <| wv rfl rfl rfl (R_assign rfl rfl) <| wv rfl rfl rfl (R_assign rfl rfl) ?_
  refine W_nil ?_
  refine E_then (C_fr [(1, .int .i64 a1), (2, .int .i64 a2), (3, .pointer (some ⟨b2, 0, none⟩)), (9, .int .i64 (slotsW a0)), (10, .int .i64 (slotsH a0))] rfl ?_)
  refine C_seq ?_
  refine C_seq ?_
  refine C_region ?_
  refine wv rfl rfl rfl (R_move rfl rfl) <| wv rfl rfl rfl (R_bin rfl rfl rfl rfl rfl) <| wv rfl rfl rfl (R_move rfl rfl) <| wg rfl rfl (Gd.no rfl rfl rfl) (fun hB => R_move rfl rfl) <| wg rfl rfl (Gd.no rfl rfl rfl) (fun hB => Runs.at_ (i := 25) (gl rfl hB) (R_bin rfl rfl rfl rfl rfl)) <| wv rfl rfl rfl (R_pick_or rfl rfl rfl rfl) <| wv rfl rfl rfl (R_move rfl rfl) <| wg rfl rfl (Gd.no rfl rfl rfl) (fun hB => R_move rfl rfl) <| wg rfl rfl (Gd.no rfl rfl rfl) (fun hB => R_move rfl rfl) <| wg rfl rfl (Gd.no rfl rfl rfl) (fun hB => Runs.at_ (i := 30) (gl rfl hB) (Runs.at_ (i := 29) (gl rfl hB) (R_bin rfl rfl rfl rfl rfl))) <| wv rfl rfl rfl (R_pick_or rfl rfl rfl rfl) <| wv rfl rfl rfl (R_move rfl rfl) <| wg rfl rfl (Gd.no rfl rfl rfl) (fun hB => R_move rfl rfl) <| wg rfl rfl (Gd.no rfl rfl rfl) (fun hB => R_move rfl rfl) <| wg rfl rfl (Gd.no rfl rfl rfl) (fun hB => Runs.at_ (i := 35) (gl rfl hB) (Runs.at_ (i := 34) (gl rfl hB) (R_bin rfl rfl rfl rfl rfl))) <| wv rfl rfl rfl (R_pick_or rfl rfl rfl rfl) ?_
  refine W_nil ?_
  refine E_then (C_fr [(1, .int .i64 a1), (2, .int .i64 a2), (3, .pointer (some ⟨b2, 0, none⟩)), (37, .bool ((((decide (a1 < 0)) || (decide (a2 < 0))) || (decide (a1 ≥ (slotsW a0)))) || (decide (a2 ≥ (slotsH a0)))))] rfl ?_)
  refine C_ite rfl (fun hC1 => ?_) (fun hC1 => ?_)
  ·have _hC1 := trivial
   have hC1p : (((a1 < 0 ∨ a2 < 0) ∨ a1 ≥ (slotsW a0)) ∨ a2 ≥ (slotsH a0)) := by simpa using hC1
   refine C_seq ?_
   refine C_region ?_
   refine wv rfl rfl rfl (R_assign rfl rfl) <| wv rfl rfl rfl (R_assign rfl rfl) ?_
   refine W_nil ?_
   refine E_then ?_
   refine C_ret ?_
   refine E_then_ret ?_
   refine E_ret2 rfl rfl rfl ?_
   exact ⟨Lret2 (Lint (show 0 = (rarmsS a0 a1 a2).1 by first | (rw [rarms_bad (by assumption)] <;> rfl) | (rw [rarms_far (by omega) (by unfold offS; omega)] <;> rfl) | (rw [rarms_no (by omega) (by unfold offS; omega) (by simpa using hC2)] <;> rfl) | (rw [rarms_ok (by omega) (by unfold offS; omega) (by simpa using hC2)] <;> simp_all [b2i]))) (Lint (show 4 = (rarmsS a0 a1 a2).2 by first | (rw [rarms_bad (by assumption)] <;> rfl) | (rw [rarms_far (by omega) (by unfold offS; omega)] <;> rfl) | (rw [rarms_no (by omega) (by unfold offS; omega) (by simpa using hC2)] <;> rfl) | (rw [rarms_ok (by omega) (by unfold offS; omega) (by simpa using hC2)] <;> simp_all [b2i]))), hS.fin [] (by decide) rfl⟩
  ·have _hC1 := trivial
   have hC1p : ¬ ((((a1 < 0 ∨ a2 < 0) ∨ a1 ≥ (slotsW a0)) ∨ a2 ≥ (slotsH a0))) := by simpa using hC1
   refine C_skip ?_
   refine E_then ?_
   refine C_seq ?_
   refine C_seq ?_
   refine C_region ?_
   refine wv rfl rfl rfl (R_loadN (cs := [.int .i64 a0.Right, .slice Aa0_Widths a0.Widths.length ca0_Widths, .slice Aa0_Heights a0.Heights.length ca0_Heights, .slice Aa0_Cells a0.Cells.length ca0_Cells, .slice Aa0_Merges a0.Merges.length ca0_Merges]) rfl rfl agg26 size26 rfl (boxcells (hS.bx 0 rfl) 0 rfl)) <| wv rfl rfl rfl (R_move rfl rfl) <| wv rfl rfl rfl (R_move rfl rfl) ?_
   refine W_cons rfl (by decide) (Sv_call rfl rfl rfl ent29 ?_)
   refine (rborder_calls a0 Aa0_Widths ca0_Widths Aa0_Heights ca0_Heights Aa0_Cells ca0_Cells Aa0_Merges ca0_Merges a1 a2 _ _ hS.out0 (hra0_Widths.mono (hS.zl [])) hca0_Widths (hra0_Heights.mono (hS.zl [])) hca0_Heights (hra0_Cells.mono (hS.zl [])) hca0_Cells (hra0_Merges.mono (hS.zl [])) hca0_Merges (by first | omega | assumption) (by first | omega | assumption)).mono ?_
   rintro e_ w7 ⟨rfl, hS_⟩
   refine ⟨_, rfl, ?_⟩
   have hS := hS.call0 hS_
   refine wv rfl rfl rfl (R_un rfl rfl rfl) ?_
   refine W_nil ?_
   refine E_then (C_fr [(1, .int .i64 a1), (2, .int .i64 a2), (3, .pointer (some ⟨b2, 0, none⟩)), (42, .bool (!(rborderS a0 a1 a2)))] rfl ?_)
   refine C_ite rfl (fun hC2 => ?_) (fun hC2 => ?_)
   ·have _hC2 := trivial
    have hC2p : ¬ (rborderS a0 a1 a2 = true) := by simpa using hC2
    refine C_seq ?_
    refine C_region ?_
    refine wv rfl rfl rfl (R_assign rfl rfl) <| wv rfl rfl rfl (R_assign rfl rfl) ?_
    refine W_nil ?_
    refine E_then ?_
    refine C_ret ?_
    refine E_then_ret ?_
    refine E_ret2 rfl rfl rfl ?_
    exact ⟨Lret2 (Lint (show 0 = (rarmsS a0 a1 a2).1 by first | (rw [rarms_bad (by assumption)] <;> rfl) | (rw [rarms_far (by omega) (by unfold offS; omega)] <;> rfl) | (rw [rarms_no (by omega) (by unfold offS; omega) (by simpa using hC2)] <;> rfl) | (rw [rarms_ok (by omega) (by unfold offS; omega) (by simpa using hC2)] <;> simp_all [b2i]))) (Lint (show 0 = (rarmsS a0 a1 a2).2 by first | (rw [rarms_bad (by assumption)] <;> rfl) | (rw [rarms_far (by omega) (by unfold offS; omega)] <;> rfl) | (rw [rarms_no (by omega) (by unfold offS; omega) (by simpa using hC2)] <;> rfl) | (rw [rarms_ok (by omega) (by unfold offS; omega) (by simpa using hC2)] <;> simp_all [b2i]))), hS.fin [] (by decide) rfl⟩
   ·have _hC2 := trivial
    have hC2p : (rborderS a0 a1 a2 = true) := by simpa using hC2
    refine C_skip ?_
    refine E_then ?_
    refine C_seq ?_
    refine C_region ?_
    refine wv rfl rfl rfl (R_assign rfl rfl) ?_
    refine W_nil ?_
    refine E_then ?_
    refine C_seq ?_
    refine C_seq ?_
    refine C_region ?_
    refine wv rfl rfl rfl (R_loadN (cs := [.int .i64 a0.Right, .slice Aa0_Widths a0.Widths.length ca0_Widths, .slice Aa0_Heights a0.Heights.length ca0_Heights, .slice Aa0_Cells a0.Cells.length ca0_Cells, .slice Aa0_Merges a0.Merges.length ca0_Merges]) rfl rfl agg26 size26 rfl (boxcells (hS.bx 0 rfl) 0 rfl)) <| wv rfl rfl rfl (R_move rfl rfl) <| wv rfl rfl rfl (R_add64 rfl rfl rfl (by omega) (by omega)) <| wv rfl rfl rfl (R_move rfl rfl) ?_
    refine W_cons rfl (by decide) (Sv_call rfl rfl rfl ent29 ?_)
    refine (rborder_calls a0 Aa0_Widths ca0_Widths Aa0_Heights ca0_Heights Aa0_Cells ca0_Cells Aa0_Merges ca0_Merges (a1 + 1) a2 _ _ hS.out0 (hra0_Widths.mono (hS.zl [])) hca0_Widths (hra0_Heights.mono (hS.zl [])) hca0_Heights (hra0_Cells.mono (hS.zl [])) hca0_Cells (hra0_Merges.mono (hS.zl [])) hca0_Merges (by first | omega | assumption) (by first | omega | assumption)).mono ?_
    rintro e_ w9 ⟨rfl, hS_⟩
    refine ⟨_, rfl, ?_⟩
    have hS := hS.call0 hS_
    refine W_nil ?_
    refine E_then (C_fr [(1, .int .i64 a1), (2, .int .i64 a2), (3, .pointer (some ⟨b2, 0, none⟩)), (11, .int .i64 0), (47, .bool (rborderS a0 (a1 + 1) a2))] rfl ?_)
    refine C_ite rfl (fun hC3 => ?_) (fun hC3 => ?_)
    ·have _hC3 := trivial
     refine C_region ?_
     refine wv rfl rfl rfl (R_move rfl rfl) <| wv rfl rfl rfl (R_add64 rfl rfl rfl (by omega) (by omega)) <| wv rfl rfl rfl (R_assign rfl rfl) ?_
     refine W_nil ?_
     refine E_then ?_
     refine C_seq ?_
     refine C_seq ?_
     refine C_region ?_
     refine wv rfl rfl rfl (R_loadN (cs := [.int .i64 a0.Right, .slice Aa0_Widths a0.Widths.length ca0_Widths, .slice Aa0_Heights a0.Heights.length ca0_Heights, .slice Aa0_Cells a0.Cells.length ca0_Cells, .slice Aa0_Merges a0.Merges.length ca0_Merges]) rfl rfl agg26 size26 rfl (boxcells (hS.bx 0 rfl) 0 rfl)) <| wv rfl rfl rfl (R_move rfl rfl) <| wv rfl rfl rfl (R_move rfl rfl) <| wv rfl rfl rfl (R_add64 rfl rfl rfl (by omega) (by omega)) ?_
     refine W_cons rfl (by decide) (Sv_call rfl rfl rfl ent29 ?_)
     refine (rborder_calls a0 Aa0_Widths ca0_Widths Aa0_Heights ca0_Heights Aa0_Cells ca0_Cells Aa0_Merges ca0_Merges a1 (a2 + 1) _ _ hS.out0 (hra0_Widths.mono (hS.zl [])) hca0_Widths (hra0_Heights.mono (hS.zl [])) hca0_Heights (hra0_Cells.mono (hS.zl [])) hca0_Cells (hra0_Merges.mono (hS.zl [])) hca0_Merges (by first | omega | assumption) (by first | omega | assumption)).mono ?_
     rintro e_ w11 ⟨rfl, hS_⟩
     refine ⟨_, rfl, ?_⟩
     have hS := hS.call0 hS_
     refine W_nil ?_
     refine E_then (C_fr [(1, .int .i64 a1), (2, .int .i64 a2), (3, .pointer (some ⟨b2, 0, none⟩)), (11, .int .i64 (0 + 1)), (54, .bool (rborderS a0 a1 (a2 + 1)))] rfl ?_)
     refine C_ite rfl (fun hC4 => ?_) (fun hC4 => ?_)
     ·have _hC4 := trivial
      refine C_region ?_
      refine wv rfl rfl rfl (R_move rfl rfl) <| wv rfl rfl rfl (R_add64 rfl rfl rfl (by omega) (by omega)) <| wv rfl rfl rfl (R_assign rfl rfl) ?_
      refine W_nil ?_
      refine E_then ?_
      refine C_seq ?_
      refine C_seq ?_
      refine C_region ?_
      refine wv rfl rfl rfl (R_loadN (cs := [.int .i64 a0.Right, .slice Aa0_Widths a0.Widths.length ca0_Widths, .slice Aa0_Heights a0.Heights.length ca0_Heights, .slice Aa0_Cells a0.Cells.length ca0_Cells, .slice Aa0_Merges a0.Merges.length ca0_Merges]) rfl rfl agg26 size26 rfl (boxcells (hS.bx 0 rfl) 0 rfl)) <| wv rfl rfl rfl (R_move rfl rfl) <| wv rfl rfl rfl (R_sub64 rfl rfl rfl (by omega) (by omega)) <| wv rfl rfl rfl (R_move rfl rfl) ?_
      refine W_cons rfl (by decide) (Sv_call rfl rfl rfl ent29 ?_)
      refine (rborder_calls a0 Aa0_Widths ca0_Widths Aa0_Heights ca0_Heights Aa0_Cells ca0_Cells Aa0_Merges ca0_Merges (a1 - 1) a2 _ _ hS.out0 (hra0_Widths.mono (hS.zl [])) hca0_Widths (hra0_Heights.mono (hS.zl [])) hca0_Heights (hra0_Cells.mono (hS.zl [])) hca0_Cells (hra0_Merges.mono (hS.zl [])) hca0_Merges (by first | omega | assumption) (by first | omega | assumption)).mono ?_
      rintro e_ w13 ⟨rfl, hS_⟩
      refine ⟨_, rfl, ?_⟩
      have hS := hS.call0 hS_
      refine W_nil ?_
      refine E_then (C_fr [(1, .int .i64 a1), (2, .int .i64 a2), (3, .pointer (some ⟨b2, 0, none⟩)), (11, .int .i64 ((0 + 1) + 2)), (61, .bool (rborderS a0 (a1 - 1) a2))] rfl ?_)
      refine C_ite rfl (fun hC5 => ?_) (fun hC5 => ?_)
      ·have _hC5 := trivial
       refine C_region ?_
       refine wv rfl rfl rfl (R_move rfl rfl) <| wv rfl rfl rfl (R_add64 rfl rfl rfl (by omega) (by omega)) <| wv rfl rfl rfl (R_assign rfl rfl) ?_
       refine W_nil ?_
       refine E_then ?_
       refine C_seq ?_
       refine C_seq ?_
       refine C_region ?_
       refine wv rfl rfl rfl (R_loadN (cs := [.int .i64 a0.Right, .slice Aa0_Widths a0.Widths.length ca0_Widths, .slice Aa0_Heights a0.Heights.length ca0_Heights, .slice Aa0_Cells a0.Cells.length ca0_Cells, .slice Aa0_Merges a0.Merges.length ca0_Merges]) rfl rfl agg26 size26 rfl (boxcells (hS.bx 0 rfl) 0 rfl)) <| wv rfl rfl rfl (R_move rfl rfl) <| wv rfl rfl rfl (R_move rfl rfl) <| wv rfl rfl rfl (R_sub64 rfl rfl rfl (by omega) (by omega)) ?_
       refine W_cons rfl (by decide) (Sv_call rfl rfl rfl ent29 ?_)
       refine (rborder_calls a0 Aa0_Widths ca0_Widths Aa0_Heights ca0_Heights Aa0_Cells ca0_Cells Aa0_Merges ca0_Merges a1 (a2 - 1) _ _ hS.out0 (hra0_Widths.mono (hS.zl [])) hca0_Widths (hra0_Heights.mono (hS.zl [])) hca0_Heights (hra0_Cells.mono (hS.zl [])) hca0_Cells (hra0_Merges.mono (hS.zl [])) hca0_Merges (by first | omega | assumption) (by first | omega | assumption)).mono ?_
       rintro e_ w15 ⟨rfl, hS_⟩
       refine ⟨_, rfl, ?_⟩
       have hS := hS.call0 hS_
       refine W_nil ?_
       refine E_then (C_fr [(11, .int .i64 (((0 + 1) + 2) + 4)), (68, .bool (rborderS a0 a1 (a2 - 1)))] rfl ?_)
       refine C_ite rfl (fun hC6 => ?_) (fun hC6 => ?_)
       ·have _hC6 := trivial
        refine C_region ?_
        refine wv rfl rfl rfl (R_move rfl rfl) <| wv rfl rfl rfl (R_add64 rfl rfl rfl (by omega) (by omega)) <| wv rfl rfl rfl (R_assign rfl rfl) ?_
        refine W_nil ?_
        refine E_then ?_
        refine C_seq ?_
        refine C_region ?_
        refine wv rfl rfl rfl (R_move rfl rfl) <| wv rfl rfl rfl (R_assign rfl rfl) <| wv rfl rfl rfl (R_assign rfl rfl) ?_
        refine W_nil ?_
        refine E_then (C_fr [(6, .int .i64 ((((0 + 1) + 2) + 4) + 8)), (7, .int .i64 0)] rfl ?_)
        refine C_ret ?_
        refine E_ret2 rfl rfl rfl ?_
        exact ⟨Lret2 (Lint (show (((0 + 1) + 2) + 4) + 8 = (rarmsS a0 a1 a2).1 by first | (rw [rarms_bad (by assumption)] <;> rfl) | (rw [rarms_far (by omega) (by unfold offS; omega)] <;> rfl) | (rw [rarms_no (by omega) (by unfold offS; omega) (by simpa using hC2)] <;> rfl) | (rw [rarms_ok (by omega) (by unfold offS; omega) (by simpa using hC2)] <;> simp_all [b2i]))) (Lint (show 0 = (rarmsS a0 a1 a2).2 by first | (rw [rarms_bad (by assumption)] <;> rfl) | (rw [rarms_far (by omega) (by unfold offS; omega)] <;> rfl) | (rw [rarms_no (by omega) (by unfold offS; omega) (by simpa using hC2)] <;> rfl) | (rw [rarms_ok (by omega) (by unfold offS; omega) (by simpa using hC2)] <;> simp_all [b2i]))), hS.fin [] (by decide) rfl⟩
       ·have _hC6 := trivial
        refine C_skip ?_
        refine E_then ?_
        refine C_seq ?_
        refine C_region ?_
        refine wv rfl rfl rfl (R_move rfl rfl) <| wv rfl rfl rfl (R_assign rfl rfl) <| wv rfl rfl rfl (R_assign rfl rfl) ?_
        refine W_nil ?_
        refine E_then ?_
        refine C_ret ?_
        refine E_ret2 rfl rfl rfl ?_
        exact ⟨Lret2 (Lint (show ((0 + 1) + 2) + 4 = (rarmsS a0 a1 a2).1 by first | (rw [rarms_bad (by assumption)] <;> rfl) | (rw [rarms_far (by omega) (by unfold offS; omega)] <;> rfl) | (rw [rarms_no (by omega) (by unfold offS; omega) (by simpa using hC2)] <;> rfl) | (rw [rarms_ok (by omega) (by unfold offS; omega) (by simpa using hC2)] <;> simp_all [b2i]))) (Lint (show 0 = (rarmsS a0 a1 a2).2 by first | (rw [rarms_bad (by assumption)] <;> rfl) | (rw [rarms_far (by omega) (by unfold offS; omega)] <;> rfl) | (rw [rarms_no (by omega) (by unfold offS; omega) (by simpa using hC2)] <;> rfl) | (rw [rarms_ok (by omega) (by unfold offS; omega) (by simpa using hC2)] <;> simp_all [b2i]))), hS.fin [] (by decide) rfl⟩
      ·have _hC5 := trivial
       refine C_skip ?_
       refine E_then ?_
       refine C_seq ?_
       refine C_seq ?_
       refine C_region ?_
       refine wv rfl rfl rfl (R_loadN (cs := [.int .i64 a0.Right, .slice Aa0_Widths a0.Widths.length ca0_Widths, .slice Aa0_Heights a0.Heights.length ca0_Heights, .slice Aa0_Cells a0.Cells.length ca0_Cells, .slice Aa0_Merges a0.Merges.length ca0_Merges]) rfl rfl agg26 size26 rfl (boxcells (hS.bx 0 rfl) 0 rfl)) <| wv rfl rfl rfl (R_move rfl rfl) <| wv rfl rfl rfl (R_move rfl rfl) <| wv rfl rfl rfl (R_sub64 rfl rfl rfl (by omega) (by omega)) ?_
       refine W_cons rfl (by decide) (Sv_call rfl rfl rfl ent29 ?_)
       refine (rborder_calls a0 Aa0_Widths ca0_Widths Aa0_Heights ca0_Heights Aa0_Cells ca0_Cells Aa0_Merges ca0_Merges a1 (a2 - 1) _ _ hS.out0 (hra0_Widths.mono (hS.zl [])) hca0_Widths (hra0_Heights.mono (hS.zl [])) hca0_Heights (hra0_Cells.mono (hS.zl [])) hca0_Cells (hra0_Merges.mono (hS.zl [])) hca0_Merges (by first | omega | assumption) (by first | omega | assumption)).mono ?_
       rintro e_ w17 ⟨rfl, hS_⟩
       refine ⟨_, rfl, ?_⟩
       have hS := hS.call0 hS_
       refine W_nil ?_
       refine E_then (C_fr [(11, .int .i64 ((0 + 1) + 2)), (68, .bool (rborderS a0 a1 (a2 - 1)))] rfl ?_)
       refine C_ite rfl (fun hC6 => ?_) (fun hC6 => ?_)
       ·have _hC6 := trivial
        refine C_region ?_
        refine wv rfl rfl rfl (R_move rfl rfl) <| wv rfl rfl rfl (R_add64 rfl rfl rfl (by omega) (by omega)) <| wv rfl rfl rfl (R_assign rfl rfl) ?_
        refine W_nil ?_
        refine E_then ?_
        refine C_seq ?_
        refine C_region ?_
        refine wv rfl rfl rfl (R_move rfl rfl) <| wv rfl rfl rfl (R_assign rfl rfl) <| wv rfl rfl rfl (R_assign rfl rfl) ?_
        refine W_nil ?_
        refine E_then (C_fr [(6, .int .i64 (((0 + 1) + 2) + 8)), (7, .int .i64 0)] rfl ?_)
        refine C_ret ?_
        refine E_ret2 rfl rfl rfl ?_
        exact ⟨Lret2 (Lint (show ((0 + 1) + 2) + 8 = (rarmsS a0 a1 a2).1 by first | (rw [rarms_bad (by assumption)] <;> rfl) | (rw [rarms_far (by omega) (by unfold offS; omega)] <;> rfl) | (rw [rarms_no (by omega) (by unfold offS; omega) (by simpa using hC2)] <;> rfl) | (rw [rarms_ok (by omega) (by unfold offS; omega) (by simpa using hC2)] <;> simp_all [b2i]))) (Lint (show 0 = (rarmsS a0 a1 a2).2 by first | (rw [rarms_bad (by assumption)] <;> rfl) | (rw [rarms_far (by omega) (by unfold offS; omega)] <;> rfl) | (rw [rarms_no (by omega) (by unfold offS; omega) (by simpa using hC2)] <;> rfl) | (rw [rarms_ok (by omega) (by unfold offS; omega) (by simpa using hC2)] <;> simp_all [b2i]))), hS.fin [] (by decide) rfl⟩
       ·have _hC6 := trivial
        refine C_skip ?_
        refine E_then ?_
        refine C_seq ?_
        refine C_region ?_
        refine wv rfl rfl rfl (R_move rfl rfl) <| wv rfl rfl rfl (R_assign rfl rfl) <| wv rfl rfl rfl (R_assign rfl rfl) ?_
        refine W_nil ?_
        refine E_then ?_
        refine C_ret ?_
        refine E_ret2 rfl rfl rfl ?_
        exact ⟨Lret2 (Lint (show (0 + 1) + 2 = (rarmsS a0 a1 a2).1 by first | (rw [rarms_bad (by assumption)] <;> rfl) | (rw [rarms_far (by omega) (by unfold offS; omega)] <;> rfl) | (rw [rarms_no (by omega) (by unfold offS; omega) (by simpa using hC2)] <;> rfl) | (rw [rarms_ok (by omega) (by unfold offS; omega) (by simpa using hC2)] <;> simp_all [b2i]))) (Lint (show 0 = (rarmsS a0 a1 a2).2 by first | (rw [rarms_bad (by assumption)] <;> rfl) | (rw [rarms_far (by omega) (by unfold offS; omega)] <;> rfl) | (rw [rarms_no (by omega) (by unfold offS; omega) (by simpa using hC2)] <;> rfl) | (rw [rarms_ok (by omega) (by unfold offS; omega) (by simpa using hC2)] <;> simp_all [b2i]))), hS.fin [] (by decide) rfl⟩
     ·have _hC4 := trivial
      refine C_skip ?_
      refine E_then ?_
      refine C_seq ?_
      refine C_seq ?_
      refine C_region ?_
      refine wv rfl rfl rfl (R_loadN (cs := [.int .i64 a0.Right, .slice Aa0_Widths a0.Widths.length ca0_Widths, .slice Aa0_Heights a0.Heights.length ca0_Heights, .slice Aa0_Cells a0.Cells.length ca0_Cells, .slice Aa0_Merges a0.Merges.length ca0_Merges]) rfl rfl agg26 size26 rfl (boxcells (hS.bx 0 rfl) 0 rfl)) <| wv rfl rfl rfl (R_move rfl rfl) <| wv rfl rfl rfl (R_sub64 rfl rfl rfl (by omega) (by omega)) <| wv rfl rfl rfl (R_move rfl rfl) ?_
      refine W_cons rfl (by decide) (Sv_call rfl rfl rfl ent29 ?_)
      refine (rborder_calls a0 Aa0_Widths ca0_Widths Aa0_Heights ca0_Heights Aa0_Cells ca0_Cells Aa0_Merges ca0_Merges (a1 - 1) a2 _ _ hS.out0 (hra0_Widths.mono (hS.zl [])) hca0_Widths (hra0_Heights.mono (hS.zl [])) hca0_Heights (hra0_Cells.mono (hS.zl [])) hca0_Cells (hra0_Merges.mono (hS.zl [])) hca0_Merges (by first | omega | assumption) (by first | omega | assumption)).mono ?_
      rintro e_ w19 ⟨rfl, hS_⟩
      refine ⟨_, rfl, ?_⟩
      have hS := hS.call0 hS_
      refine W_nil ?_
      refine E_then (C_fr [(1, .int .i64 a1), (2, .int .i64 a2), (3, .pointer (some ⟨b2, 0, none⟩)), (11, .int .i64 (0 + 1)), (61, .bool (rborderS a0 (a1 - 1) a2))] rfl ?_)
      refine C_ite rfl (fun hC5 => ?_) (fun hC5 => ?_)
      ·have _hC5 := trivial
       refine C_region ?_
       refine wv rfl rfl rfl (R_move rfl rfl) <| wv rfl rfl rfl (R_add64 rfl rfl rfl (by omega) (by omega)) <| wv rfl rfl rfl (R_assign rfl rfl) ?_
       refine W_nil ?_
       refine E_then ?_
       refine C_seq ?_
       refine C_seq ?_
       refine C_region ?_
       refine wv rfl rfl rfl (R_loadN (cs := [.int .i64 a0.Right, .slice Aa0_Widths a0.Widths.length ca0_Widths, .slice Aa0_Heights a0.Heights.length ca0_Heights, .slice Aa0_Cells a0.Cells.length ca0_Cells, .slice Aa0_Merges a0.Merges.length ca0_Merges]) rfl rfl agg26 size26 rfl (boxcells (hS.bx 0 rfl) 0 rfl)) <| wv rfl rfl rfl (R_move rfl rfl) <| wv rfl rfl rfl (R_move rfl rfl) <| wv rfl rfl rfl (R_sub64 rfl rfl rfl (by omega) (by omega)) ?_
       refine W_cons rfl (by decide) (Sv_call rfl rfl rfl ent29 ?_)
       refine (rborder_calls a0 Aa0_Widths ca0_Widths Aa0_Heights ca0_Heights Aa0_Cells ca0_Cells Aa0_Merges ca0_Merges a1 (a2 - 1) _ _ hS.out0 (hra0_Widths.mono (hS.zl [])) hca0_Widths (hra0_Heights.mono (hS.zl [])) hca0_Heights (hra0_Cells.mono (hS.zl [])) hca0_Cells (hra0_Merges.mono (hS.zl [])) hca0_Merges (by first | omega | assumption) (by first | omega | assumption)).mono ?_
       rintro e_ w21 ⟨rfl, hS_⟩
       refine ⟨_, rfl, ?_⟩
       have hS := hS.call0 hS_
       refine W_nil ?_
       refine E_then (C_fr [(11, .int .i64 ((0 + 1) + 4)), (68, .bool (rborderS a0 a1 (a2 - 1)))] rfl ?_)
       refine C_ite rfl (fun hC6 => ?_) (fun hC6 => ?_)
       ·have _hC6 := trivial
        refine C_region ?_
        refine wv rfl rfl rfl (R_move rfl rfl) <| wv rfl rfl rfl (R_add64 rfl rfl rfl (by omega) (by omega)) <| wv rfl rfl rfl (R_assign rfl rfl) ?_
        refine W_nil ?_
        refine E_then ?_
        refine C_seq ?_
        refine C_region ?_
        refine wv rfl rfl rfl (R_move rfl rfl) <| wv rfl rfl rfl (R_assign rfl rfl) <| wv rfl rfl rfl (R_assign rfl rfl) ?_
        refine W_nil ?_
        refine E_then (C_fr [(6, .int .i64 (((0 + 1) + 4) + 8)), (7, .int .i64 0)] rfl ?_)
        refine C_ret ?_
        refine E_ret2 rfl rfl rfl ?_
        exact ⟨Lret2 (Lint (show ((0 + 1) + 4) + 8 = (rarmsS a0 a1 a2).1 by first | (rw [rarms_bad (by assumption)] <;> rfl) | (rw [rarms_far (by omega) (by unfold offS; omega)] <;> rfl) | (rw [rarms_no (by omega) (by unfold offS; omega) (by simpa using hC2)] <;> rfl) | (rw [rarms_ok (by omega) (by unfold offS; omega) (by simpa using hC2)] <;> simp_all [b2i]))) (Lint (show 0 = (rarmsS a0 a1 a2).2 by first | (rw [rarms_bad (by assumption)] <;> rfl) | (rw [rarms_far (by omega) (by unfold offS; omega)] <;> rfl) | (rw [rarms_no (by omega) (by unfold offS; omega) (by simpa using hC2)] <;> rfl) | (rw [rarms_ok (by omega) (by unfold offS; omega) (by simpa using hC2)] <;> simp_all [b2i]))), hS.fin [] (by decide) rfl⟩
       ·have _hC6 := trivial
        refine C_skip ?_
        refine E_then ?_
        refine C_seq ?_
        refine C_region ?_
        refine wv rfl rfl rfl (R_move rfl rfl) <| wv rfl rfl rfl (R_assign rfl rfl) <| wv rfl rfl rfl (R_assign rfl rfl) ?_
        refine W_nil ?_
        refine E_then ?_
        refine C_ret ?_
        refine E_ret2 rfl rfl rfl ?_
        exact ⟨Lret2 (Lint (show (0 + 1) + 4 = (rarmsS a0 a1 a2).1 by first | (rw [rarms_bad (by assumption)] <;> rfl) | (rw [rarms_far (by omega) (by unfold offS; omega)] <;> rfl) | (rw [rarms_no (by omega) (by unfold offS; omega) (by simpa using hC2)] <;> rfl) | (rw [rarms_ok (by omega) (by unfold offS; omega) (by simpa using hC2)] <;> simp_all [b2i]))) (Lint (show 0 = (rarmsS a0 a1 a2).2 by first | (rw [rarms_bad (by assumption)] <;> rfl) | (rw [rarms_far (by omega) (by unfold offS; omega)] <;> rfl) | (rw [rarms_no (by omega) (by unfold offS; omega) (by simpa using hC2)] <;> rfl) | (rw [rarms_ok (by omega) (by unfold offS; omega) (by simpa using hC2)] <;> simp_all [b2i]))), hS.fin [] (by decide) rfl⟩
      ·have _hC5 := trivial
       refine C_skip ?_
       refine E_then ?_
       refine C_seq ?_
       refine C_seq ?_
       refine C_region ?_
       refine wv rfl rfl rfl (R_loadN (cs := [.int .i64 a0.Right, .slice Aa0_Widths a0.Widths.length ca0_Widths, .slice Aa0_Heights a0.Heights.length ca0_Heights, .slice Aa0_Cells a0.Cells.length ca0_Cells, .slice Aa0_Merges a0.Merges.length ca0_Merges]) rfl rfl agg26 size26 rfl (boxcells (hS.bx 0 rfl) 0 rfl)) <| wv rfl rfl rfl (R_move rfl rfl) <| wv rfl rfl rfl (R_move rfl rfl) <| wv rfl rfl rfl (R_sub64 rfl rfl rfl (by omega) (by omega)) ?_
       refine W_cons rfl (by decide) (Sv_call rfl rfl rfl ent29 ?_)
       refine (rborder_calls a0 Aa0_Widths ca0_Widths Aa0_Heights ca0_Heights Aa0_Cells ca0_Cells Aa0_Merges ca0_Merges a1 (a2 - 1) _ _ hS.out0 (hra0_Widths.mono (hS.zl [])) hca0_Widths (hra0_Heights.mono (hS.zl [])) hca0_Heights (hra0_Cells.mono (hS.zl [])) hca0_Cells (hra0_Merges.mono (hS.zl [])) hca0_Merges (by first | omega | assumption) (by first | omega | assumption)).mono ?_
       rintro e_ w23 ⟨rfl, hS_⟩
       refine ⟨_, rfl, ?_⟩
       have hS := hS.call0 hS_
       refine W_nil ?_
       refine E_then (C_fr [(11, .int .i64 (0 + 1)), (68, .bool (rborderS a0 a1 (a2 - 1)))] rfl ?_)
       refine C_ite rfl (fun hC6 => ?_) (fun hC6 => ?_)
       ·have _hC6 := trivial
        refine C_region ?_
        refine wv rfl rfl rfl (R_move rfl rfl) <| wv rfl rfl rfl (R_add64 rfl rfl rfl (by omega) (by omega)) <| wv rfl rfl rfl (R_assign rfl rfl) ?_
        refine W_nil ?_
        refine E_then ?_
        refine C_seq ?_
        refine C_region ?_
        refine wv rfl rfl rfl (R_move rfl rfl) <| wv rfl rfl rfl (R_assign rfl rfl) <| wv rfl rfl rfl (R_assign rfl rfl) ?_
        refine W_nil ?_
        refine E_then (C_fr [(6, .int .i64 ((0 + 1) + 8)), (7, .int .i64 0)] rfl ?_)
        refine C_ret ?_
        refine E_ret2 rfl rfl rfl ?_
        exact ⟨Lret2 (Lint (show (0 + 1) + 8 = (rarmsS a0 a1 a2).1 by first | (rw [rarms_bad (by assumption)] <;> rfl) | (rw [rarms_far (by omega) (by unfold offS; omega)] <;> rfl) | (rw [rarms_no (by omega) (by unfold offS; omega) (by simpa using hC2)] <;> rfl) | (rw [rarms_ok (by omega) (by unfold offS; omega) (by simpa using hC2)] <;> simp_all [b2i]))) (Lint (show 0 = (rarmsS a0 a1 a2).2 by first | (rw [rarms_bad (by assumption)] <;> rfl) | (rw [rarms_far (by omega) (by unfold offS; omega)] <;> rfl) | (rw [rarms_no (by omega) (by unfold offS; omega) (by simpa using hC2)] <;> rfl) | (rw [rarms_ok (by omega) (by unfold offS; omega) (by simpa using hC2)] <;> simp_all [b2i]))), hS.fin [] (by decide) rfl⟩
       ·have _hC6 := trivial
        refine C_skip ?_
        refine E_then ?_
        refine C_seq ?_
        refine C_region ?_
        refine wv rfl rfl rfl (R_move rfl rfl) <| wv rfl rfl rfl (R_assign rfl rfl) <| wv rfl rfl rfl (R_assign rfl rfl) ?_
        refine W_nil ?_
        refine E_then ?_
        refine C_ret ?_
        refine E_ret2 rfl rfl rfl ?_
        exact ⟨Lret2 (Lint (show 0 + 1 = (rarmsS a0 a1 a2).1 by first | (rw [rarms_bad (by assumption)] <;> rfl) | (rw [rarms_far (by omega) (by unfold offS; omega)] <;> rfl) | (rw [rarms_no (by omega) (by unfold offS; omega) (by simpa using hC2)] <;> rfl) | (rw [rarms_ok (by omega) (by unfold offS; omega) (by simpa using hC2)] <;> simp_all [b2i]))) (Lint (show 0 = (rarmsS a0 a1 a2).2 by first | (rw [rarms_bad (by assumption)] <;> rfl) | (rw [rarms_far (by omega) (by unfold offS; omega)] <;> rfl) | (rw [rarms_no (by omega) (by unfold offS; omega) (by simpa using hC2)] <;> rfl) | (rw [rarms_ok (by omega) (by unfold offS; omega) (by simpa using hC2)] <;> simp_all [b2i]))), hS.fin [] (by decide) rfl⟩
    ·have _hC3 := trivial
     refine C_skip ?_
     refine E_then ?_
     refine C_seq ?_
     refine C_seq ?_
     refine C_region ?_
     refine wv rfl rfl rfl (R_loadN (cs := [.int .i64 a0.Right, .slice Aa0_Widths a0.Widths.length ca0_Widths, .slice Aa0_Heights a0.Heights.length ca0_Heights, .slice Aa0_Cells a0.Cells.length ca0_Cells, .slice Aa0_Merges a0.Merges.length ca0_Merges]) rfl rfl agg26 size26 rfl (boxcells (hS.bx 0 rfl) 0 rfl)) <| wv rfl rfl rfl (R_move rfl rfl) <| wv rfl rfl rfl (R_move rfl rfl) <| wv rfl rfl rfl (R_add64 rfl rfl rfl (by omega) (by omega)) ?_
     refine W_cons rfl (by decide) (Sv_call rfl rfl rfl ent29 ?_)
     refine (rborder_calls a0 Aa0_Widths ca0_Widths Aa0_Heights ca0_Heights Aa0_Cells ca0_Cells Aa0_Merges ca0_Merges a1 (a2 + 1) _ _ hS.out0 (hra0_Widths.mono (hS.zl [])) hca0_Widths (hra0_Heights.mono (hS.zl [])) hca0_Heights (hra0_Cells.mono (hS.zl [])) hca0_Cells (hra0_Merges.mono (hS.zl [])) hca0_Merges (by first | omega | assumption) (by first | omega | assumption)).mono ?_
     rintro e_ w25 ⟨rfl, hS_⟩
     refine ⟨_, rfl, ?_⟩
     have hS := hS.call0 hS_
     refine W_nil ?_
     refine E_then (C_fr [(1, .int .i64 a1), (2, .int .i64 a2), (3, .pointer (some ⟨b2, 0, none⟩)), (11, .int .i64 0), (54, .bool (rborderS a0 a1 (a2 + 1)))] rfl ?_)
     refine C_ite rfl (fun hC4 => ?_) (fun hC4 => ?_)
     ·have _hC4 := trivial
      refine C_region ?_
      refine wv rfl rfl rfl (R_move rfl rfl) <| wv rfl rfl rfl (R_add64 rfl rfl rfl (by omega) (by omega)) <| wv rfl rfl rfl (R_assign rfl rfl) ?_
      refine W_nil ?_
      refine E_then ?_
      refine C_seq ?_
      refine C_seq ?_
      refine C_region ?_
      refine wv rfl rfl rfl (R_loadN (cs := [.int .i64 a0.Right, .slice Aa0_Widths a0.Widths.length ca0_Widths, .slice Aa0_Heights a0.Heights.length ca0_Heights, .slice Aa0_Cells a0.Cells.length ca0_Cells, .slice Aa0_Merges a0.Merges.length ca0_Merges]) rfl rfl agg26 size26 rfl (boxcells (hS.bx 0 rfl) 0 rfl)) <| wv rfl rfl rfl (R_move rfl rfl) <| wv rfl rfl rfl (R_sub64 rfl rfl rfl (by omega) (by omega)) <| wv rfl rfl rfl (R_move rfl rfl) ?_
      refine W_cons rfl (by decide) (Sv_call rfl rfl rfl ent29 ?_)
      refine (rborder_calls a0 Aa0_Widths ca0_Widths Aa0_Heights ca0_Heights Aa0_Cells ca0_Cells Aa0_Merges ca0_Merges (a1 - 1) a2 _ _ hS.out0 (hra0_Widths.mono (hS.zl [])) hca0_Widths (hra0_Heights.mono (hS.zl [])) hca0_Heights (hra0_Cells.mono (hS.zl [])) hca0_Cells (hra0_Merges.mono (hS.zl [])) hca0_Merges (by first | omega | assumption) (by first | omega | assumption)).mono ?_
      rintro e_ w27 ⟨rfl, hS_⟩
      refine ⟨_, rfl, ?_⟩
      have hS := hS.call0 hS_
      refine W_nil ?_
      refine E_then (C_fr [(1, .int .i64 a1), (2, .int .i64 a2), (3, .pointer (some ⟨b2, 0, none⟩)), (11, .int .i64 (0 + 2)), (61, .bool (rborderS a0 (a1 - 1) a2))] rfl ?_)
      refine C_ite rfl (fun hC5 => ?_) (fun hC5 => ?_)
      ·have _hC5 := trivial
       refine C_region ?_
       refine wv rfl rfl rfl (R_move rfl rfl) <| wv rfl rfl rfl (R_add64 rfl rfl rfl (by omega) (by omega)) <| wv rfl rfl rfl (R_assign rfl rfl) ?_
       refine W_nil ?_
       refine E_then ?_
       refine C_seq ?_
       refine C_seq ?_
       refine C_region ?_
       refine wv rfl rfl rfl (R_loadN (cs := [.int .i64 a0.Right, .slice Aa0_Widths a0.Widths.length ca0_Widths, .slice Aa0_Heights a0.Heights.length ca0_Heights, .slice Aa0_Cells a0.Cells.length ca0_Cells, .slice Aa0_Merges a0.Merges.length ca0_Merges]) rfl rfl agg26 size26 rfl (boxcells (hS.bx 0 rfl) 0 rfl)) <| wv rfl rfl rfl (R_move rfl rfl) <| wv rfl rfl rfl (R_move rfl rfl) <| wv rfl rfl rfl (R_sub64 rfl rfl rfl (by omega) (by omega)) ?_
       refine W_cons rfl (by decide) (Sv_call rfl rfl rfl ent29 ?_)
       refine (rborder_calls a0 Aa0_Widths ca0_Widths Aa0_Heights ca0_Heights Aa0_Cells ca0_Cells Aa0_Merges ca0_Merges a1 (a2 - 1) _ _ hS.out0 (hra0_Widths.mono (hS.zl [])) hca0_Widths (hra0_Heights.mono (hS.zl [])) hca0_Heights (hra0_Cells.mono (hS.zl [])) hca0_Cells (hra0_Merges.mono (hS.zl [])) hca0_Merges (by first | omega | assumption) (by first | omega | assumption)).mono ?_
       rintro e_ w29 ⟨rfl, hS_⟩
       refine ⟨_, rfl, ?_⟩
       have hS := hS.call0 hS_
       refine W_nil ?_
       refine E_then (C_fr [(11, .int .i64 ((0 + 2) + 4)), (68, .bool (rborderS a0 a1 (a2 - 1)))] rfl ?_)
       refine C_ite rfl (fun hC6 => ?_) (fun hC6 => ?_)
       ·have _hC6 := trivial
        refine C_region ?_
        refine wv rfl rfl rfl (R_move rfl rfl) <| wv rfl rfl rfl (R_add64 rfl rfl rfl (by omega) (by omega)) <| wv rfl rfl rfl (R_assign rfl rfl) ?_
        refine W_nil ?_
        refine E_then ?_
        refine C_seq ?_
        refine C_region ?_
        refine wv rfl rfl rfl (R_move rfl rfl) <| wv rfl rfl rfl (R_assign rfl rfl) <| wv rfl rfl rfl (R_assign rfl rfl) ?_
        refine W_nil ?_
        refine E_then (C_fr [(6, .int .i64 (((0 + 2) + 4) + 8)), (7, .int .i64 0)] rfl ?_)
        refine C_ret ?_
        refine E_ret2 rfl rfl rfl ?_
        exact ⟨Lret2 (Lint (show ((0 + 2) + 4) + 8 = (rarmsS a0 a1 a2).1 by first | (rw [rarms_bad (by assumption)] <;> rfl) | (rw [rarms_far (by omega) (by unfold offS; omega)] <;> rfl) | (rw [rarms_no (by omega) (by unfold offS; omega) (by simpa using hC2)] <;> rfl) | (rw [rarms_ok (by omega) (by unfold offS; omega) (by simpa using hC2)] <;> simp_all [b2i]))) (Lint (show 0 = (rarmsS a0 a1 a2).2 by first | (rw [rarms_bad (by assumption)] <;> rfl) | (rw [rarms_far (by omega) (by unfold offS; omega)] <;> rfl) | (rw [rarms_no (by omega) (by unfold offS; omega) (by simpa using hC2)] <;> rfl) | (rw [rarms_ok (by omega) (by unfold offS; omega) (by simpa using hC2)] <;> simp_all [b2i]))), hS.fin [] (by decide) rfl⟩
       ·have _hC6 := trivial
        refine C_skip ?_
        refine E_then ?_
        refine C_seq ?_
        refine C_region ?_
        refine wv rfl rfl rfl (R_move rfl rfl) <| wv rfl rfl rfl (R_assign rfl rfl) <| wv rfl rfl rfl (R_assign rfl rfl) ?_
        refine W_nil ?_
        refine E_then ?_
        refine C_ret ?_
        refine E_ret2 rfl rfl rfl ?_
        exact ⟨Lret2 (Lint (show (0 + 2) + 4 = (rarmsS a0 a1 a2).1 by first | (rw [rarms_bad (by assumption)] <;> rfl) | (rw [rarms_far (by omega) (by unfold offS; omega)] <;> rfl) | (rw [rarms_no (by omega) (by unfold offS; omega) (by simpa using hC2)] <;> rfl) | (rw [rarms_ok (by omega) (by unfold offS; omega) (by simpa using hC2)] <;> simp_all [b2i]))) (Lint (show 0 = (rarmsS a0 a1 a2).2 by first | (rw [rarms_bad (by assumption)] <;> rfl) | (rw [rarms_far (by omega) (by unfold offS; omega)] <;> rfl) | (rw [rarms_no (by omega) (by unfold offS; omega) (by simpa using hC2)] <;> rfl) | (rw [rarms_ok (by omega) (by unfold offS; omega) (by simpa using hC2)] <;> simp_all [b2i]))), hS.fin [] (by decide) rfl⟩
      ·have _hC5 := trivial
       refine C_skip ?_
       refine E_then ?_
       refine C_seq ?_
       refine C_seq ?_
       refine C_region ?_
       refine wv rfl rfl rfl (R_loadN (cs := [.int .i64 a0.Right, .slice Aa0_Widths a0.Widths.length ca0_Widths, .slice Aa0_Heights a0.Heights.length ca0_Heights, .slice Aa0_Cells a0.Cells.length ca0_Cells, .slice Aa0_Merges a0.Merges.length ca0_Merges]) rfl rfl agg26 size26 rfl (boxcells (hS.bx 0 rfl) 0 rfl)) <| wv rfl rfl rfl (R_move rfl rfl) <| wv rfl rfl rfl (R_move rfl rfl) <| wv rfl rfl rfl (R_sub64 rfl rfl rfl (by omega) (by omega)) ?_
       refine W_cons rfl (by decide) (Sv_call rfl rfl rfl ent29 ?_)
       refine (rborder_calls a0 Aa0_Widths ca0_Widths Aa0_Heights ca0_Heights Aa0_Cells ca0_Cells Aa0_Merges ca0_Merges a1 (a2 - 1) _ _ hS.out0 (hra0_Widths.mono (hS.zl [])) hca0_Widths (hra0_Heights.mono (hS.zl [])) hca0_Heights (hra0_Cells.mono (hS.zl [])) hca0_Cells (hra0_Merges.mono (hS.zl [])) hca0_Merges (by first | omega | assumption) (by first | omega | assumption)).mono ?_
       rintro e_ w31 ⟨rfl, hS_⟩
       refine ⟨_, rfl, ?_⟩
       have hS := hS.call0 hS_
       refine W_nil ?_
       refine E_then (C_fr [(11, .int .i64 (0 + 2)), (68, .bool (rborderS a0 a1 (a2 - 1)))] rfl ?_)
       refine C_ite rfl (fun hC6 => ?_) (fun hC6 => ?_)
       ·have _hC6 := trivial
        refine C_region ?_
        refine wv rfl rfl rfl (R_move rfl rfl) <| wv rfl rfl rfl (R_add64 rfl rfl rfl (by omega) (by omega)) <| wv rfl rfl rfl (R_assign rfl rfl) ?_
        refine W_nil ?_
        refine E_then ?_
        refine C_seq ?_
        refine C_region ?_
        refine wv rfl rfl rfl (R_move rfl rfl) <| wv rfl rfl rfl (R_assign rfl rfl) <| wv rfl rfl rfl (R_assign rfl rfl) ?_
        refine W_nil ?_
        refine E_then (C_fr [(6, .int .i64 ((0 + 2) + 8)), (7, .int .i64 0)] rfl ?_)
        refine C_ret ?_
        refine E_ret2 rfl rfl rfl ?_
        exact ⟨Lret2 (Lint (show (0 + 2) + 8 = (rarmsS a0 a1 a2).1 by first | (rw [rarms_bad (by assumption)] <;> rfl) | (rw [rarms_far (by omega) (by unfold offS; omega)] <;> rfl) | (rw [rarms_no (by omega) (by unfold offS; omega) (by simpa using hC2)] <;> rfl) | (rw [rarms_ok (by omega) (by unfold offS; omega) (by simpa using hC2)] <;> simp_all [b2i]))) (Lint (show 0 = (rarmsS a0 a1 a2).2 by first | (rw [rarms_bad (by assumption)] <;> rfl) | (rw [rarms_far (by omega) (by unfold offS; omega)] <;> rfl) | (rw [rarms_no (by omega) (by unfold offS; omega) (by simpa using hC2)] <;> rfl) | (rw [rarms_ok (by omega) (by unfold offS; omega) (by simpa using hC2)] <;> simp_all [b2i]))), hS.fin [] (by decide) rfl⟩
       ·have _hC6 := trivial
        refine C_skip ?_
        refine E_then ?_
        refine C_seq ?_
        refine C_region ?_
        refine wv rfl rfl rfl (R_move rfl rfl) <| wv rfl rfl rfl (R_assign rfl rfl) <| wv rfl rfl rfl (R_assign rfl rfl) ?_
        refine W_nil ?_
        refine E_then ?_
        refine C_ret ?_
        refine E_ret2 rfl rfl rfl ?_
        exact ⟨Lret2 (Lint (show 0 + 2 = (rarmsS a0 a1 a2).1 by first | (rw [rarms_bad (by assumption)] <;> rfl) | (rw [rarms_far (by omega) (by unfold offS; omega)] <;> rfl) | (rw [rarms_no (by omega) (by unfold offS; omega) (by simpa using hC2)] <;> rfl) | (rw [rarms_ok (by omega) (by unfold offS; omega) (by simpa using hC2)] <;> simp_all [b2i]))) (Lint (show 0 = (rarmsS a0 a1 a2).2 by first | (rw [rarms_bad (by assumption)] <;> rfl) | (rw [rarms_far (by omega) (by unfold offS; omega)] <;> rfl) | (rw [rarms_no (by omega) (by unfold offS; omega) (by simpa using hC2)] <;> rfl) | (rw [rarms_ok (by omega) (by unfold offS; omega) (by simpa using hC2)] <;> simp_all [b2i]))), hS.fin [] (by decide) rfl⟩
     ·have _hC4 := trivial
      refine C_skip ?_
      refine E_then ?_
      refine C_seq ?_
      refine C_seq ?_
      refine C_region ?_
      refine wv rfl rfl rfl (R_loadN (cs := [.int .i64 a0.Right, .slice Aa0_Widths a0.Widths.length ca0_Widths, .slice Aa0_Heights a0.Heights.length ca0_Heights, .slice Aa0_Cells a0.Cells.length ca0_Cells, .slice Aa0_Merges a0.Merges.length ca0_Merges]) rfl rfl agg26 size26 rfl (boxcells (hS.bx 0 rfl) 0 rfl)) <| wv rfl rfl rfl (R_move rfl rfl) <| wv rfl rfl rfl (R_sub64 rfl rfl rfl (by omega) (by omega)) <| wv rfl rfl rfl (R_move rfl rfl) ?_
      refine W_cons rfl (by decide) (Sv_call rfl rfl rfl ent29 ?_)
      refine (rborder_calls a0 Aa0_Widths ca0_Widths Aa0_Heights ca0_Heights Aa0_Cells ca0_Cells Aa0_Merges ca0_Merges (a1 - 1) a2 _ _ hS.out0 (hra0_Widths.mono (hS.zl [])) hca0_Widths (hra0_Heights.mono (hS.zl [])) hca0_Heights (hra0_Cells.mono (hS.zl [])) hca0_Cells (hra0_Merges.mono (hS.zl [])) hca0_Merges (by first | omega | assumption) (by first | omega | assumption)).mono ?_
      rintro e_ w33 ⟨rfl, hS_⟩
      refine ⟨_, rfl, ?_⟩
      have hS := hS.call0 hS_
      refine W_nil ?_
      refine E_then (C_fr [(1, .int .i64 a1), (2, .int .i64 a2), (3, .pointer (some ⟨b2, 0, none⟩)), (11, .int .i64 0), (61, .bool (rborderS a0 (a1 - 1) a2))] rfl ?_)
      refine C_ite rfl (fun hC5 => ?_) (fun hC5 => ?_)
      ·have _hC5 := trivial
       refine C_region ?_
       refine wv rfl rfl rfl (R_move rfl rfl) <| wv rfl rfl rfl (R_add64 rfl rfl rfl (by omega) (by omega)) <| wv rfl rfl rfl (R_assign rfl rfl) ?_
       refine W_nil ?_
       refine E_then ?_
       refine C_seq ?_
       refine C_seq ?_
       refine C_region ?_
       refine wv rfl rfl rfl (R_loadN (cs := [.int .i64 a0.Right, .slice Aa0_Widths a0.Widths.length ca0_Widths, .slice Aa0_Heights a0.Heights.length ca0_Heights, .slice Aa0_Cells a0.Cells.length ca0_Cells, .slice Aa0_Merges a0.Merges.length ca0_Merges]) rfl rfl agg26 size26 rfl (boxcells (hS.bx 0 rfl) 0 rfl)) <| wv rfl rfl rfl (R_move rfl rfl) <| wv rfl rfl rfl (R_move rfl rfl) <| wv rfl rfl rfl (R_sub64 rfl rfl rfl (by omega) (by omega)) ?_
       refine W_cons rfl (by decide) (Sv_call rfl rfl rfl ent29 ?_)
       refine (rborder_calls a0 Aa0_Widths ca0_Widths Aa0_Heights ca0_Heights Aa0_Cells ca0_Cells Aa0_Merges ca0_Merges a1 (a2 - 1) _ _ hS.out0 (hra0_Widths.mono (hS.zl [])) hca0_Widths (hra0_Heights.mono (hS.zl [])) hca0_Heights (hra0_Cells.mono (hS.zl [])) hca0_Cells (hra0_Merges.mono (hS.zl [])) hca0_Merges (by first | omega | assumption) (by first | omega | assumption)).mono ?_
       rintro e_ w35 ⟨rfl, hS_⟩
       refine ⟨_, rfl, ?_⟩
       have hS := hS.call0 hS_
       refine W_nil ?_
       refine E_then (C_fr [(11, .int .i64 (0 + 4)), (68, .bool (rborderS a0 a1 (a2 - 1)))] rfl ?_)
       refine C_ite rfl (fun hC6 => ?_) (fun hC6 => ?_)
       ·have _hC6 := trivial
        refine C_region ?_
        refine wv rfl rfl rfl (R_move rfl rfl) <| wv rfl rfl rfl (R_add64 rfl rfl rfl (by omega) (by omega)) <| wv rfl rfl rfl (R_assign rfl rfl) ?_
        refine W_nil ?_
        refine E_then ?_
        refine C_seq ?_
        refine C_region ?_
        refine wv rfl rfl rfl (R_move rfl rfl) <| wv rfl rfl rfl (R_assign rfl rfl) <| wv rfl rfl rfl (R_assign rfl rfl) ?_
        refine W_nil ?_
        refine E_then (C_fr [(6, .int .i64 ((0 + 4) + 8)), (7, .int .i64 0)] rfl ?_)
        refine C_ret ?_
        refine E_ret2 rfl rfl rfl ?_
        exact ⟨Lret2 (Lint (show (0 + 4) + 8 = (rarmsS a0 a1 a2).1 by first | (rw [rarms_bad (by assumption)] <;> rfl) | (rw [rarms_far (by omega) (by unfold offS; omega)] <;> rfl) | (rw [rarms_no (by omega) (by unfold offS; omega) (by simpa using hC2)] <;> rfl) | (rw [rarms_ok (by omega) (by unfold offS; omega) (by simpa using hC2)] <;> simp_all [b2i]))) (Lint (show 0 = (rarmsS a0 a1 a2).2 by first | (rw [rarms_bad (by assumption)] <;> rfl) | (rw [rarms_far (by omega) (by unfold offS; omega)] <;> rfl) | (rw [rarms_no (by omega) (by unfold offS; omega) (by simpa using hC2)] <;> rfl) | (rw [rarms_ok (by omega) (by unfold offS; omega) (by simpa using hC2)] <;> simp_all [b2i]))), hS.fin [] (by decide) rfl⟩
       ·have _hC6 := trivial
        refine C_skip ?_
        refine E_then ?_
        refine C_seq ?_
        refine C_region ?_
        refine wv rfl rfl rfl (R_move rfl rfl) <| wv rfl rfl rfl (R_assign rfl rfl) <| wv rfl rfl rfl (R_assign rfl rfl) ?_
        refine W_nil ?_
        refine E_then ?_
        refine C_ret ?_
        refine E_ret2 rfl rfl rfl ?_
        exact ⟨Lret2 (Lint (show 0 + 4 = (rarmsS a0 a1 a2).1 by first | (rw [rarms_bad (by assumption)] <;> rfl) | (rw [rarms_far (by omega) (by unfold offS; omega)] <;> rfl) | (rw [rarms_no (by omega) (by unfold offS; omega) (by simpa using hC2)] <;> rfl) | (rw [rarms_ok (by omega) (by unfold offS; omega) (by simpa using hC2)] <;> simp_all [b2i]))) (Lint (show 0 = (rarmsS a0 a1 a2).2 by first | (rw [rarms_bad (by assumption)] <;> rfl) | (rw [rarms_far (by omega) (by unfold offS; omega)] <;> rfl) | (rw [rarms_no (by omega) (by unfold offS; omega) (by simpa using hC2)] <;> rfl) | (rw [rarms_ok (by omega) (by unfold offS; omega) (by simpa using hC2)] <;> simp_all [b2i]))), hS.fin [] (by decide) rfl⟩
      ·have _hC5 := trivial
       refine C_skip ?_
       refine E_then ?_
       refine C_seq ?_
       refine C_seq ?_
       refine C_region ?_
       refine wv rfl rfl rfl (R_loadN (cs := [.int .i64 a0.Right, .slice Aa0_Widths a0.Widths.length ca0_Widths, .slice Aa0_Heights a0.Heights.length ca0_Heights, .slice Aa0_Cells a0.Cells.length ca0_Cells, .slice Aa0_Merges a0.Merges.length ca0_Merges]) rfl rfl agg26 size26 rfl (boxcells (hS.bx 0 rfl) 0 rfl)) <| wv rfl rfl rfl (R_move rfl rfl) <| wv rfl rfl rfl (R_move rfl rfl) <| wv rfl rfl rfl (R_sub64 rfl rfl rfl (by omega) (by omega)) ?_
       refine W_cons rfl (by decide) (Sv_call rfl rfl rfl ent29 ?_)
       refine (rborder_calls a0 Aa0_Widths ca0_Widths Aa0_Heights ca0_Heights Aa0_Cells ca0_Cells Aa0_Merges ca0_Merges a1 (a2 - 1) _ _ hS.out0 (hra0_Widths.mono (hS.zl [])) hca0_Widths (hra0_Heights.mono (hS.zl [])) hca0_Heights (hra0_Cells.mono (hS.zl [])) hca0_Cells (hra0_Merges.mono (hS.zl [])) hca0_Merges (by first | omega | assumption) (by first | omega | assumption)).mono ?_
       rintro e_ w37 ⟨rfl, hS_⟩
       refine ⟨_, rfl, ?_⟩
       have hS := hS.call0 hS_
       refine W_nil ?_
       refine E_then (C_fr [(11, .int .i64 0), (68, .bool (rborderS a0 a1 (a2 - 1)))] rfl ?_)
       refine C_ite rfl (fun hC6 => ?_) (fun hC6 => ?_)
       ·have _hC6 := trivial
        refine C_region ?_
        refine wv rfl rfl rfl (R_move rfl rfl) <| wv rfl rfl rfl (R_add64 rfl rfl rfl (by omega) (by omega)) <| wv rfl rfl rfl (R_assign rfl rfl) ?_
        refine W_nil ?_
        refine E_then ?_
        refine C_seq ?_
        refine C_region ?_
        refine wv rfl rfl rfl (R_move rfl rfl) <| wv rfl rfl rfl (R_assign rfl rfl) <| wv rfl rfl rfl (R_assign rfl rfl) ?_
        refine W_nil ?_
        refine E_then (C_fr [(6, .int .i64 (0 + 8)), (7, .int .i64 0)] rfl ?_)
        refine C_ret ?_
        refine E_ret2 rfl rfl rfl ?_
        exact ⟨Lret2 (Lint (show 0 + 8 = (rarmsS a0 a1 a2).1 by first | (rw [rarms_bad (by assumption)] <;> rfl) | (rw [rarms_far (by omega) (by unfold offS; omega)] <;> rfl) | (rw [rarms_no (by omega) (by unfold offS; omega) (by simpa using hC2)] <;> rfl) | (rw [rarms_ok (by omega) (by unfold offS; omega) (by simpa using hC2)] <;> simp_all [b2i]))) (Lint (show 0 = (rarmsS a0 a1 a2).2 by first | (rw [rarms_bad (by assumption)] <;> rfl) | (rw [rarms_far (by omega) (by unfold offS; omega)] <;> rfl) | (rw [rarms_no (by omega) (by unfold offS; omega) (by simpa using hC2)] <;> rfl) | (rw [rarms_ok (by omega) (by unfold offS; omega) (by simpa using hC2)] <;> simp_all [b2i]))), hS.fin [] (by decide) rfl⟩
       ·have _hC6 := trivial
        refine C_skip ?_
        refine E_then ?_
        refine C_seq ?_
        refine C_region ?_
        refine wv rfl rfl rfl (R_move rfl rfl) <| wv rfl rfl rfl (R_assign rfl rfl) <| wv rfl rfl rfl (R_assign rfl rfl) ?_
        refine W_nil ?_
        refine E_then ?_
        refine C_ret ?_
        refine E_ret2 rfl rfl rfl ?_
        exact ⟨Lret2 (Lint (show 0 = (rarmsS a0 a1 a2).1 by first | (rw [rarms_bad (by assumption)] <;> rfl) | (rw [rarms_far (by omega) (by unfold offS; omega)] <;> rfl) | (rw [rarms_no (by omega) (by unfold offS; omega) (by simpa using hC2)] <;> rfl) | (rw [rarms_ok (by omega) (by unfold offS; omega) (by simpa using hC2)] <;> simp_all [b2i]))) (Lint (show 0 = (rarmsS a0 a1 a2).2 by first | (rw [rarms_bad (by assumption)] <;> rfl) | (rw [rarms_far (by omega) (by unfold offS; omega)] <;> rfl) | (rw [rarms_no (by omega) (by unfold offS; omega) (by simpa using hC2)] <;> rfl) | (rw [rarms_ok (by omega) (by unfold offS; omega) (by simpa using hC2)] <;> simp_all [b2i]))), hS.fin [] (by decide) rfl⟩

set_option maxHeartbeats 400000 in
set_option maxRecDepth 20000 in
theorem rturn_calls (a0 : Int) (z : Z) (w : World) (hI : In z w [])   :
    Calls Try.prog 14 #[.int .i64 a0] w fun e w' => e = .returned (.int .i64 (redTurn a0)) ∧ Sp (FF []) w z w' [] := by
 have hS := hI.sp
 refine Calls_of (vs := [.int .i64 a0]) (N := 17) Try.func14 rfl rfl (Nat.le_of_ble_eq_true rfl) ?_
 refine C_seq ?_
 refine C_region ?_
 refine wv rfl rfl rfl (R_assign rfl rfl) ?_
 refine W_nil ?_
 refine E_then ?_
 refine C_seq ?_
 refine C_region ?_
 refine wv rfl rfl rfl (R_move rfl rfl) <| wv rfl rfl rfl (R_and64 4 16 rfl rfl rfl (by decide) (by decide) (by decide)) <| wv rfl rfl rfl (R_assign rfl rfl) ?_
 refine W_nil ?_
 refine E_then ?_
 refine C_seq ?_
 refine C_seq ?_
 refine C_region ?_
 refine wv rfl rfl rfl (R_move rfl rfl) <| wv rfl rfl rfl (R_bin rfl rfl rfl rfl rfl) <| wv rfl rfl rfl (R_bin rfl rfl rfl rfl rfl) <| wv rfl rfl rfl (R_move rfl rfl) <| wg rfl rfl (Gd.no rfl rfl rfl) (fun hB => R_move rfl rfl) <| wg rfl rfl (Gd.no rfl rfl rfl) (fun hB => Runs.at_ (i := 10) (gl rfl hB) (R_bin rfl rfl rfl rfl rfl)) <| wg rfl rfl (Gd.no rfl rfl rfl) (fun hB => Runs.at_ (i := 11) (gl rfl hB) (R_bin rfl rfl rfl rfl rfl)) <| wv rfl rfl rfl (R_pick_or rfl rfl rfl rfl) ?_
 refine W_nil ?_
 refine E_then (C_fr [(3, .int .i64 (a0 % 16)), (13, .bool (((Go.bits .and .i64 (a0 % 16) 5) == 1) || ((Go.bits .and .i64 (a0 % 16) 5) == 4)))] rfl ?_)
 refine C_ite rfl (fun hC0 => ?_) (fun hC0 => ?_)
 ·have _hC0 := trivial
  have hC0p : ((Go.bits .and .i64 (a0 % 16) 5) = 1 ∨ (Go.bits .and .i64 (a0 % 16) 5) = 4) := by simpa using hC0
  refine C_seq ?_
  refine C_region ?_
  refine wv rfl rfl rfl (R_move rfl rfl) <| wv rfl rfl rfl (R_bin rfl rfl rfl rfl rfl) <| wv rfl rfl rfl (R_assign rfl rfl) ?_
  refine W_nil ?_
  refine E_then ?_
  refine C_ret ?_
  refine E_then_ret ?_
  refine E_ret1 rfl rfl ?_
  exact ⟨Lret1 (Lint (show Go.bits .xor .i64 (a0 % 16) 5 = redTurn a0 by unfold redTurn; simp_all)), hS.fin [] (by decide) rfl⟩
 ·have _hC0 := trivial
  have hC0p : ¬ (((Go.bits .and .i64 (a0 % 16) 5) = 1 ∨ (Go.bits .and .i64 (a0 % 16) 5) = 4)) := by simpa using hC0
  refine C_skip ?_
  refine E_then ?_
  refine C_seq ?_
  refine C_region ?_
  refine wv rfl rfl rfl (R_move rfl rfl) <| wv rfl rfl rfl (R_assign rfl rfl) ?_
  refine W_nil ?_
  refine E_then ?_
  refine C_ret ?_
  refine E_ret1 rfl rfl ?_
  exact ⟨Lret1 (Lint (show a0 % 16 = redTurn a0 by unfold redTurn; simp_all)), hS.fin [] (by decide) rfl⟩

set_option maxHeartbeats 400000 in
set_option maxRecDepth 20000 in
theorem rsigns_calls  (z : Z) (w : World) (hI : In z w [])   :
    Calls Try.prog 37 #[] w fun e w' => ∃ (AR0 : Option Addr) (cR0 : Nat), e = .returned (.slice AR0 signL.length cR0) ∧ Sp (FF []) w z w' [oR (kint .i64) 3 zE AR0 cR0 signL] := by
 have hS := hI.sp
 refine Calls_of (vs := []) (N := 2) Try.func37 rfl rfl (Nat.le_of_ble_eq_true rfl) ?_
 refine C_seq ?_
 refine C_region ?_
 refine wv rfl rfl rfl (R_assign rfl rfl) ?_
 refine W_nil ?_
 refine E_then ?_
 refine C_seq ?_
 refine C_region ?_
 refine W_cons rfl (by decide) (S_row (d := (kint .i64)) (q := zE) hS ([0, 9590, 9591, 9484, 9588, 9472, 9488, 9516, 9589, 9492, 9474, 9500, 9496, 9524, 9508, 9532] : List Int) rfl (R_buildSlice (ps := [(0, (.const (.int .i64 0))), (1, (.const (.int .i64 9590))), (2, (.const (.int .i64 9591))), (3, (.const (.int .i64 9484))), (4, (.const (.int .i64 9588))), (5, (.const (.int .i64 9472))), (6, (.const (.int .i64 9488))), (7, (.const (.int .i64 9516))), (8, (.const (.int .i64 9589))), (9, (.const (.int .i64 9492))), (10, (.const (.int .i64 9474))), (11, (.const (.int .i64 9500))), (12, (.const (.int .i64 9496))), (13, (.const (.int .i64 9524))), (14, (.const (.int .i64 9508))), (15, (.const (.int .i64 9532)))]) (vs := [.int .i64 0, .int .i64 9590, .int .i64 9591, .int .i64 9484, .int .i64 9588, .int .i64 9472, .int .i64 9488, .int .i64 9516, .int .i64 9589, .int .i64 9492, .int .i64 9474, .int .i64 9500, .int .i64 9496, .int .i64 9524, .int .i64 9508, .int .i64 9532]) (w' := w.alloc (.cells [.int .i64 0, .int .i64 9590, .int .i64 9591, .int .i64 9484, .int .i64 9588, .int .i64 9472, .int .i64 9488, .int .i64 9516, .int .i64 9589, .int .i64 9492, .int .i64 9474, .int .i64 9500, .int .i64 9496, .int .i64 9524, .int .i64 9508, .int .i64 9532].toArray 3)) (r := .slice (some ⟨w.heap.size, 0, none⟩) 16 16) rfl rfl rfl (by kernel_rfl)) (by simp [Reps, flat, kint]) rfl (by decide) (fun g2 w1 hS => ?_))
 refine wv rfl rfl rfl (R_assign rfl rfl) ?_
 refine W_nil ?_
 refine E_then ?_
 refine C_ret ?_
 have hq3 : ([0, 9590, 9591, 9484, 9588, 9472, 9488, 9516, 9589, 9492, 9474, 9500, 9496, 9524, 9508, 9532] : List Int) = signL := by rfl
 have hS := hS.re 0 rfl hq3
 refine E_ret1 rfl rfl ?_
 exact ⟨(some ⟨g2, 0, none⟩), 16, Lret1 (Lslice hq3), hS.fin [0] (by decide) rfl⟩

set_option maxHeartbeats 400000 in
set_option maxRecDepth 20000 in
theorem rglyph_calls (a0 : Int) (z : Z) (w : World) (hI : In z w [])   :
    Calls Try.prog 16 #[.int .i64 a0] w fun e w' => e = .returned (.int .i64 (glyphS a0)) ∧ Sp (FF []) w z w' [] := by
 have hS := hI.sp
 have hsg : signL.length = 16 := rfl
 refine Calls_of (vs := [.int .i64 a0]) (N := 8) Try.func16 rfl rfl (Nat.le_of_ble_eq_true rfl) ?_
 refine C_seq ?_
 refine C_region ?_
 refine wv rfl rfl rfl (R_assign rfl rfl) ?_
 refine W_nil ?_
 refine E_then ?_
 refine C_seq ?_
 refine C_region ?_
 refine W_cons rfl (by decide) (Sv_call rfl rfl rfl ent37 ?_)
 refine (rsigns_calls  _ _ hS.out0  ).mono ?_
 rintro e_ w1 ⟨AR0_2, cR0_2, rfl, hS_⟩
 refine ⟨_, rfl, ?_⟩
 have hS := hS.call0 hS_
 have hp3 := hS.cap 0 rfl
 have hlhp3 := hp3.le
 have hmhp3 := hp3.mx
 refine wv rfl rfl rfl (R_move rfl rfl) <| wv rfl rfl rfl (R_and64 4 16 rfl rfl rfl (by decide) (by decide) (by decide)) ?_
 obtain ⟨q4, hAq4, hxq4⟩ := (hS.rw 0 rfl).ix (0 : Int) (i := (a0 % 16)) (by omega) (by omega)
 refine wv rfl rfl rfl (R_idx rfl rfl hAq4 rfl Try.underlying22 size3 (by omega) (by omega)) <| wv rfl rfl rfl (R_load1 rfl rfl agg3 ((hS.rw 0 rfl).cellAt hAq4 hxq4 (fun _ h => h) 0 _ rfl)) <| wv rfl rfl rfl (R_assign rfl rfl) ?_
 refine W_nil ?_
 refine E_then (C_fr [(2, .int .i64 (signL.getD (a0 % 16).toNat (0 : Int)))] rfl ?_)
 refine C_ret ?_
 refine E_ret1 rfl rfl ?_
 exact ⟨Lret1 (Lint (show (signL.getD (a0 % 16).toNat (0 : Int)) = glyphS a0 by rfl)), hS.fin [] (by decide) rfl⟩

set_option maxHeartbeats 400000 in
set_option maxRecDepth 20000 in
theorem rof_calls (a0 : Int) (z : Z) (w : World) (hI : In z w [])   :
    Calls Try.prog 18 #[.int .i64 a0] w fun e w' => e = .returned (.int .i64 (rofS a0)) ∧ Sp (FF []) w z w' [] := by
 have hS := hI.sp
 have hsg : signL.length = 16 := rfl
 refine Calls_of (vs := [.int .i64 a0]) (N := 19) Try.func18 rfl rfl (Nat.le_of_ble_eq_true rfl) ?_
 refine C_seq ?_
 refine C_region ?_
 refine wv rfl rfl rfl (R_assign rfl rfl) ?_
 refine W_nil ?_
 refine E_then ?_
 refine C_seq ?_
 refine C_region ?_
 refine W_cons rfl (by decide) (Sv_call rfl rfl rfl ent37 ?_)
 refine (rsigns_calls  _ _ hS.out0  ).mono ?_
 rintro e_ w1 ⟨AR0_2, cR0_2, rfl, hS_⟩
 refine ⟨_, rfl, ?_⟩
 have hS := hS.call0 hS_
 have hp3 := hS.cap 0 rfl
 have hlhp3 := hp3.le
 have hmhp3 := hp3.mx
 refine wv rfl rfl rfl (R_assign rfl rfl) ?_
 refine W_nil ?_
 refine E_then ?_
 refine C_seq ?_
 refine C_seq ?_
 refine C_region ?_
 refine wv rfl rfl rfl (R_assign rfl rfl) ?_
 refine W_nil ?_
 refine E_then ?_
 refine C_block ?_
 refine C_fr [(0, .int .i64 a0), (3, .slice AR0_2 signL.length cR0_2), (4, .int .i64 1)] rfl ?_
 refine C_loop (fun m_ f_ w_ => ∃ (i : Nat), f_ = [(0, .int .i64 a0), (3, .slice AR0_2 signL.length cR0_2), (4, .int .i64 (i : Int))] ∧ 1 ≤ i ∧ i ≤ 16 ∧ idxF (fun x => decide (x = a0)) (signL.drop i) i = idxF (fun x => decide (x = a0)) (signL.drop 1) 1 ∧ m_ = 16 - i ∧ Sp (FF []) w z w_ [oR (kint .i64) 3 zE AR0_2 cR0_2 signL]) (16 - (1 : Nat)) ⟨(1 : Nat), rfl, (by omega), (by omega), (by rfl), rfl, hS.fin [0] (by decide) rfl⟩ ?_
 rintro m_ f_ w4 ⟨i, rfl, hI0_0, hI0_1, hI0_2, rfl, hS⟩
 refine C_seq ?_
 refine C_seq ?_
 refine C_region ?_
 refine wv rfl rfl rfl (R_move rfl rfl) <| wv rfl rfl rfl (R_move rfl rfl) <| wv rfl rfl rfl (R_len rfl rfl Try.underlying22) <| wv rfl rfl rfl (R_bin rfl rfl rfl rfl rfl) ?_
 refine W_nil ?_
 refine E_then ?_
 refine C_ite rfl (fun hC0 => ?_) (fun hC0 => ?_)
 ·have _hC0 := trivial
  have hC0p : (i : Int) < (signL.length : Int) := by simpa using hC0
  refine C_skip ?_
  refine E_then ?_
  refine C_seq ?_
  refine C_block ?_
  refine C_seq ?_
  refine C_region ?_
  refine wv rfl rfl rfl (R_move rfl rfl) <| wv rfl rfl rfl (R_move rfl rfl) ?_
  obtain ⟨q5, hAq5, hxq5⟩ := (hS.rw 0 rfl).ix (0 : Int) (i := (i : Int)) (by omega) (by omega)
  refine wv rfl rfl rfl (R_idx rfl rfl hAq5 rfl Try.underlying22 size3 (by omega) (by omega)) <| wv rfl rfl rfl (R_load1 rfl rfl agg3 ((hS.rw 0 rfl).cellAt hAq5 hxq5 (fun _ h => h) 0 _ rfl)) <| wv rfl rfl rfl (R_move rfl rfl) <| wv rfl rfl rfl (R_bin rfl rfl rfl rfl rfl) ?_
  refine W_nil ?_
  refine E_then (C_fr [(0, .int .i64 a0), (3, .slice AR0_2 signL.length cR0_2), (4, .int .i64 (i : Int)), (17, .bool ((signL.getD i (0 : Int)) == a0))] rfl ?_)
  refine C_ite rfl (fun hC1 => ?_) (fun hC1 => ?_)
  ·have _hC1 := trivial
   have hC1p : (signL.getD i (0 : Int)) = a0 := by simpa using hC1
   refine C_seq ?_
   refine C_region ?_
   refine wv rfl rfl rfl (R_move rfl rfl) <| wv rfl rfl rfl (R_assign rfl rfl) ?_
   refine W_nil ?_
   refine E_then (C_fr [(2, .int .i64 (i : Int))] rfl ?_)
   refine C_ret ?_
   refine E_block_ret ?_
   refine E_then_ret ?_
   refine E_then_ret ?_
   refine E_block_ret ?_
   refine E_then_ret ?_
   refine E_ret1 rfl rfl ?_
   exact ⟨Lret1 (Lint (show (i : Int) = rofS a0 by first | exact rof_hit (i := i) (by omega) (by omega) hI0_2 hC1p | exact rof_end (i := i) (by omega) hI0_2)), hS.fin [] (by decide) rfl⟩
  ·have _hC1 := trivial
   have hC1p : ¬ ((signL.getD i (0 : Int)) = a0) := by simpa using hC1
   refine C_skip ?_
   refine E_block_normal ?_
   refine E_then ?_
   refine C_region ?_
   refine wv rfl rfl rfl (R_move rfl rfl) <| wv rfl rfl rfl (R_add64 rfl rfl rfl (by omega) (by omega)) <| wv rfl rfl rfl (R_assign rfl rfl) ?_
   refine W_nil ?_
   refine E_round [0, 3, 4] ?_ ⟨(i + 1 : Nat), rfl, (by omega), (by omega), (by exact rof_next (by omega) hI0_2 hC1p), rfl, hS.fin [0] (by decide) rfl⟩
   omega
 ·have _hC0 := trivial
  have hC0p : ¬ ((i : Int) < (signL.length : Int)) := by simpa using hC0
  refine C_exit ?_
  refine E_then_exit ?_
  refine E_then_exit ?_
  refine E_block_hit ?_
  refine E_then (C_fr [] rfl ?_)
  refine C_seq ?_
  refine C_region ?_
  refine wv rfl rfl rfl (R_assign rfl rfl) ?_
  refine W_nil ?_
  refine E_then ?_
  refine C_ret ?_
  refine E_ret1 rfl rfl ?_
  exact ⟨Lret1 (Lint (show 0 = rofS a0 by first | exact rof_hit (i := i) (by omega) (by omega) hI0_2 hC1p | exact rof_end (i := i) (by omega) hI0_2)), hS.fin [] (by decide) rfl⟩

end Go.Proofs.YtalpekmbknjeeaaG
