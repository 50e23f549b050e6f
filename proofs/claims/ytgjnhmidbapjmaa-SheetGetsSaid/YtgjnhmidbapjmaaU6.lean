/- Walks, each function once: what it computes. -/
import Derived.Test.YtgjnhmidbapjmaaU5
set_option linter.all false
namespace Go.Proofs.YtgjnhmidbapjmaaG
open Go Go.RowKit
set_option maxHeartbeats 4000000 in
set_option maxRecDepth 20000 in
theorem rcheck_calls (a0 : TSheet) (Aa0_Widths : Option Addr) (ca0_Widths : Nat) (Aa0_Heights : Option Addr) (ca0_Heights : Nat) (Aa0_Cells : Option Addr) (ca0_Cells : Nat) (Aa0_Merges : Option Addr) (ca0_Merges : Nat) (z : Z) (w : World) (hI : In z w []) (hra0_Widths : Rd (kint .i64) z Aa0_Widths a0.Widths) (hca0_Widths : Cap Aa0_Widths a0.Widths.length ca0_Widths) (hra0_Heights : Rd (kint .i64) z Aa0_Heights a0.Heights) (hca0_Heights : Cap Aa0_Heights a0.Heights.length ca0_Heights) (hra0_Cells : Rd kdTCell z Aa0_Cells a0.Cells) (hca0_Cells : Cap Aa0_Cells a0.Cells.length ca0_Cells) (hra0_Merges : Rd kdTRect z Aa0_Merges a0.Merges) (hca0_Merges : Cap Aa0_Merges a0.Merges.length ca0_Merges)  :
    Calls Try.prog 54 #[.agg #[.int .i64 a0.Right, .slice Aa0_Widths a0.Widths.length ca0_Widths, .slice Aa0_Heights a0.Heights.length ca0_Heights, .slice Aa0_Cells a0.Cells.length ca0_Cells, .slice Aa0_Merges a0.Merges.length ca0_Merges]] w fun e w' => e = .returned (.int .i64 (rcheckSh a0)) ∧ Sp (FF []) w z w' [] := by
 have hla0_Widths := hca0_Widths.le
 have hma0_Widths := hca0_Widths.mx
 have hla0_Heights := hca0_Heights.le
 have hma0_Heights := hca0_Heights.mx
 have hla0_Cells := hca0_Cells.le
 have hma0_Cells := hca0_Cells.mx
 have hla0_Merges := hca0_Merges.le
 have hma0_Merges := hca0_Merges.mx
 have hS := hI.sp
 refine Calls_of (vs := [.agg #[.int .i64 a0.Right, .slice Aa0_Widths a0.Widths.length ca0_Widths, .slice Aa0_Heights a0.Heights.length ca0_Heights, .slice Aa0_Cells a0.Cells.length ca0_Cells, .slice Aa0_Merges a0.Merges.length ca0_Merges]]) (N := 131) Try.func54 rfl rfl (Nat.le_of_ble_eq_true rfl) ?_
 refine C_seq ?_
 refine C_region ?_
 refine W_cons rfl (by decide) (S_box hS rfl (R_box (cs := [.int .i64 a0.Right, .slice Aa0_Widths a0.Widths.length ca0_Widths, .slice Aa0_Heights a0.Heights.length ca0_Heights, .slice Aa0_Cells a0.Cells.length ca0_Cells, .slice Aa0_Merges a0.Merges.length ca0_Merges]) rfl rfl rfl) (fun b2 w1 hS => ?_))
 refine W_cons rfl (by decide) (Sv_val rfl (R_assign rfl rfl) ?_)
 refine W_nil ?_
 refine E_then ?_
 refine C_seq ?_
 refine C_seq ?_
 refine C_region ?_
 refine W_cons rfl (by decide) (Sv_val rfl (R_loadN (cs := [.int .i64 a0.Right, .slice Aa0_Widths a0.Widths.length ca0_Widths, .slice Aa0_Heights a0.Heights.length ca0_Heights, .slice Aa0_Cells a0.Cells.length ca0_Cells, .slice Aa0_Merges a0.Merges.length ca0_Merges]) rfl rfl agg39 size39 rfl (boxcells (hS.bx 0 rfl) 0 rfl)) ?_)
 refine W_cons rfl (by decide) (Sv_call rfl rfl rfl ent81 ?_)
 refine (rlimits_calls a0 Aa0_Widths ca0_Widths Aa0_Heights ca0_Heights Aa0_Cells ca0_Cells Aa0_Merges ca0_Merges _ _ hS.out0 (hra0_Widths.mono (hS.zl [])) hca0_Widths (hra0_Heights.mono (hS.zl [])) hca0_Heights (hra0_Cells.mono (hS.zl [])) hca0_Cells (hra0_Merges.mono (hS.zl [])) hca0_Merges ).mono ?_
 rintro e_ w3 ⟨rfl, hS_⟩
 refine ⟨_, rfl, ?_⟩
 have hS := hS.call0 hS_
 refine W_cons rfl (by decide) (Sv_val rfl (R_un rfl rfl rfl) ?_)
 refine W_nil ?_
 refine E_then ?_
 refine C_ite rfl (fun hC0 => ?_) (fun hC0 => ?_)
 ·have _hC0 := trivial
  have hC0p : ¬ (rlimitsS a0 = true) := by simpa using hC0
  refine C_seq ?_
  refine C_region ?_
  refine W_cons rfl (by decide) (Sv_val rfl (R_assign rfl rfl) ?_)
  refine W_nil ?_
  refine E_then (C_fr [(2, .int .i64 3)] rfl ?_)
  refine C_ret ?_
  refine E_then_ret ?_
  refine E_ret1 rfl rfl ?_
  exact ⟨Lret1 (Lint (show 3 = rcheckSh a0 by first | exact rck3 (by assumption) | exact rck1 (by assumption) (by assumption) | exact rck0 (by assumption) (by assumption) (i := i) (by omega) hI0_1 (j := j) (by omega) hI1_1 (k := k) (by omega) (by omega) hI2_1 (l := l) (by omega) hI4_1 | exact rck6 (by assumption) (by assumption) (i := i) (by omega) hI0_1 (j := j) (by omega) hI1_1 (k := k) (by omega) (by omega) hI2_1 (l := l) (by omega) (by unfold runderS; simp_all) | exact rck5 (by assumption) (by assumption) (i := i) (by omega) hI0_1 (j := j) (by omega) hI1_1 (k := k) (l := m) (by omega) (by omega) (by assumption) | exact rck4m (by assumption) (by assumption) (i := i) (by omega) hI0_1 (j := j) (by omega) (by assumption) | exact rck4 (by assumption) (by assumption) (i := i) (by omega) (by unfold rfarS; simp_all))), hS.fin [] (by decide) rfl⟩
 ·have _hC0 := trivial
  have hC0p : (rlimitsS a0 = true) := by simpa using hC0
  refine C_skip ?_
  refine E_then (C_fr [(1, .pointer (some ⟨b2, 0, none⟩))] rfl ?_)
  refine C_seq ?_
  refine C_seq ?_
  refine C_region ?_
  refine W_cons rfl (by decide) (Sv_val rfl (R_loadN (cs := [.int .i64 a0.Right, .slice Aa0_Widths a0.Widths.length ca0_Widths, .slice Aa0_Heights a0.Heights.length ca0_Heights, .slice Aa0_Cells a0.Cells.length ca0_Cells, .slice Aa0_Merges a0.Merges.length ca0_Merges]) rfl rfl agg39 size39 rfl (boxcells (hS.bx 0 rfl) 0 rfl)) ?_)
  refine W_cons rfl (by decide) (Sv_call rfl rfl rfl ent82 ?_)
  refine (rorder_calls a0 Aa0_Widths ca0_Widths Aa0_Heights ca0_Heights Aa0_Cells ca0_Cells Aa0_Merges ca0_Merges _ _ hS.out0 (hra0_Widths.mono (hS.zl [])) hca0_Widths (hra0_Heights.mono (hS.zl [])) hca0_Heights (hra0_Cells.mono (hS.zl [])) hca0_Cells (hra0_Merges.mono (hS.zl [])) hca0_Merges ).mono ?_
  rintro e_ w5 ⟨rfl, hS_⟩
  refine ⟨_, rfl, ?_⟩
  have hS := hS.call0 hS_
  refine W_cons rfl (by decide) (Sv_val rfl (R_un rfl rfl rfl) ?_)
  refine W_nil ?_
  refine E_then ?_
  refine C_ite rfl (fun hC1 => ?_) (fun hC1 => ?_)
  ·have _hC1 := trivial
   have hC1p : ¬ (rorderS a0 = true) := by simpa using hC1
   refine C_seq ?_
   refine C_region ?_
   refine W_cons rfl (by decide) (Sv_val rfl (R_assign rfl rfl) ?_)
   refine W_nil ?_
   refine E_then ?_
   refine C_ret ?_
   refine E_then_ret ?_
   refine E_ret1 rfl rfl ?_
   exact ⟨Lret1 (Lint (show 1 = rcheckSh a0 by first | exact rck3 (by assumption) | exact rck1 (by assumption) (by assumption) | exact rck0 (by assumption) (by assumption) (i := i) (by omega) hI0_1 (j := j) (by omega) hI1_1 (k := k) (by omega) (by omega) hI2_1 (l := l) (by omega) hI4_1 | exact rck6 (by assumption) (by assumption) (i := i) (by omega) hI0_1 (j := j) (by omega) hI1_1 (k := k) (by omega) (by omega) hI2_1 (l := l) (by omega) (by unfold runderS; simp_all) | exact rck5 (by assumption) (by assumption) (i := i) (by omega) hI0_1 (j := j) (by omega) hI1_1 (k := k) (l := m) (by omega) (by omega) (by assumption) | exact rck4m (by assumption) (by assumption) (i := i) (by omega) hI0_1 (j := j) (by omega) (by assumption) | exact rck4 (by assumption) (by assumption) (i := i) (by omega) (by unfold rfarS; simp_all))), hS.fin [] (by decide) rfl⟩
  ·have _hC1 := trivial
   have hC1p : (rorderS a0 = true) := by simpa using hC1
   refine C_skip ?_
   refine E_then ?_
   refine C_seq ?_
   refine C_seq ?_
   refine C_region ?_
   refine W_cons rfl (by decide) (Sv_val rfl (R_assign rfl rfl) ?_)
   refine W_nil ?_
   refine E_then ?_
   refine C_block ?_
   refine C_fr [(1, .pointer (some ⟨b2, 0, none⟩)), (3, .int .i64 0)] rfl ?_
   refine C_loop (fun m_ f_ w_ => ∃ (i : Nat), f_ = [(1, .pointer (some ⟨b2, 0, none⟩)), (3, .int .i64 (i : Int))] ∧ i ≤ a0.Cells.length ∧ (a0.Cells.take i).any (rfarS a0) = false ∧ m_ = a0.Cells.length - i ∧ Sp (FF []) w z w_ [bR b2 39 [.int .i64 a0.Right, .slice Aa0_Widths a0.Widths.length ca0_Widths, .slice Aa0_Heights a0.Heights.length ca0_Heights, .slice Aa0_Cells a0.Cells.length ca0_Cells, .slice Aa0_Merges a0.Merges.length ca0_Merges]]) (a0.Cells.length - (0 : Nat)) ⟨(0 : Nat), rfl, (by omega), (by rfl), rfl, hS.fin [0] (by decide) rfl⟩ ?_
   rintro m_ f_ w7 ⟨i, rfl, hI0_0, hI0_1, rfl, hS⟩
   refine C_seq ?_
   refine C_seq ?_
   refine C_region ?_
   refine W_cons rfl (by decide) (Sv_val rfl (R_move rfl rfl) ?_)
   refine W_cons rfl (by decide) (Sv_val rfl (R_fld rfl rfl fld39_3) ?_)
   refine W_cons rfl (by decide) (Sv_val rfl (R_load1 rfl rfl agg36 ((hS.bx 0 rfl).cell rfl)) ?_)
   refine W_cons rfl (by decide) (Sv_val rfl (R_len rfl rfl Try.underlying36) ?_)
   refine W_cons rfl (by decide) (Sv_val rfl (R_bin rfl rfl rfl rfl rfl) ?_)
   refine W_nil ?_
   refine E_then ?_
   refine C_ite rfl (fun hC2 => ?_) (fun hC2 => ?_)
   ·have _hC2 := trivial
    have hC2p : (i : Int) < (a0.Cells.length : Int) := by simpa using hC2
    refine C_skip ?_
    refine E_then (C_fr [(1, .pointer (some ⟨b2, 0, none⟩)), (3, .int .i64 (i : Int))] rfl ?_)
    refine C_seq ?_
    refine C_block ?_
    refine C_seq ?_
    refine C_region ?_
    refine W_cons rfl (by decide) (Sv_val rfl (R_fld rfl rfl fld39_3) ?_)
    refine W_cons rfl (by decide) (Sv_val rfl (R_load1 rfl rfl agg36 ((hS.bx 0 rfl).cell rfl)) ?_)
    refine W_cons rfl (by decide) (Sv_val rfl (R_move rfl rfl) ?_)
    obtain ⟨q8, csq8, hAq8, rfl, hkq8⟩ := hra0_Cells.at_ (default : TCell) (i := (i : Int)) (by omega) (by omega)
    have hkq8 : ∀ (j_ : Nat) (u_ : Value), ([.int .i64 (a0.Cells.getD i (default : TCell)).Row, .int .i64 (a0.Cells.getD i (default : TCell)).Col, vstr (a0.Cells.getD i (default : TCell)).Text, .int .i64 (a0.Cells.getD i (default : TCell)).Style.Align, .int .i64 (a0.Cells.getD i (default : TCell)).Style.Wrap, .int .i64 (a0.Cells.getD i (default : TCell)).Style.Dir] : List Value)[j_]? = some u_ → cz z (q8.add (i * 6 + j_)) = some u_ := hkq8
    refine W_cons rfl (by decide) (Sv_val rfl (R_idx rfl rfl hAq8 rfl Try.underlying36 size46 (by omega) (by omega)) ?_)
    refine W_cons rfl (by decide) (Sv_val rfl (R_loadN (cs := [.int .i64 (a0.Cells.getD i (default : TCell)).Row, .int .i64 (a0.Cells.getD i (default : TCell)).Col, vstr (a0.Cells.getD i (default : TCell)).Text, .int .i64 (a0.Cells.getD i (default : TCell)).Style.Align, .int .i64 (a0.Cells.getD i (default : TCell)).Style.Wrap, .int .i64 (a0.Cells.getD i (default : TCell)).Style.Dir]) rfl rfl agg46 size46 rfl (fun j u h => cell_add (hS.sub.cell (hkq8 j u h)))) ?_)
    refine W_cons rfl (by decide) (S_box hS rfl (R_alloc rfl alloc46) (fun b10 w9 hS => ?_))
    refine W_cons0 rfl (S_store hS 0 rfl rfl rfl rfl rfl size46 (one_cons rfl (one_cons rfl (one_cons rfl (one_cons rfl (one_cons rfl (one_cons rfl one_nil)))))) (Nat.le_of_ble_eq_true rfl) (fun w11 hS => ?_))
    have hS : Sp (FF []) w z w11 [bR b10 46 [.int .i64 (a0.Cells.getD i (default : TCell)).Row, .int .i64 (a0.Cells.getD i (default : TCell)).Col, vstr (a0.Cells.getD i (default : TCell)).Text, .int .i64 (a0.Cells.getD i (default : TCell)).Style.Align, .int .i64 (a0.Cells.getD i (default : TCell)).Style.Wrap, .int .i64 (a0.Cells.getD i (default : TCell)).Style.Dir], bR b2 39 [.int .i64 a0.Right, .slice Aa0_Widths a0.Widths.length ca0_Widths, .slice Aa0_Heights a0.Heights.length ca0_Heights, .slice Aa0_Cells a0.Cells.length ca0_Cells, .slice Aa0_Merges a0.Merges.length ca0_Merges]] := hS
    refine W_nil ?_
    refine E_then (C_fr [(1, .pointer (some ⟨b2, 0, none⟩)), (3, .int .i64 (i : Int)), (4, .pointer (some ⟨b10, 0, none⟩))] rfl ?_)
    refine C_seq ?_
    refine C_region ?_
    refine W_cons rfl (by decide) (Sv_val rfl (R_fld rfl rfl fld46_0) ?_)
    refine W_cons rfl (by decide) (Sv_val rfl (R_load1 rfl rfl agg3 ((hS.bx 0 rfl).cell rfl)) ?_)
    refine W_cons rfl (by decide) (Sv_val rfl (R_bin rfl rfl rfl rfl rfl) ?_)
    refine W_cons rfl (by decide) (Sv_val rfl (R_move rfl rfl) ?_)
    refine W_split (t := 31) rfl (fun hg12 => ?_) (fun hg12 => ?_)
    ·have _hg12 := trivial
     have hg12p : (a0.Cells.getD i (default : TCell)).Row < 0 := by simpa using hg12
     refine W_cons rfl (by decide) (Sv_off rfl rfl rfl (by rw [hg12] <;> rfl) ?_)
     refine W_cons rfl (by decide) (Sv_off rfl rfl rfl (by rw [hg12] <;> rfl) ?_)
     refine W_cons rfl (by decide) (Sv_off rfl rfl rfl (by rw [hg12] <;> rfl) ?_)
     refine W_cons rfl (by decide) (Sv_val rfl (R_pick_t rfl rfl hg12 rfl) ?_)
     refine W_cons rfl (by decide) (Sv_val rfl (R_move rfl rfl) ?_)
     refine W_cons rfl (by decide) (Sv_off rfl rfl rfl rfl ?_)
     refine W_cons rfl (by decide) (Sv_off rfl rfl rfl rfl ?_)
     refine W_cons rfl (by decide) (Sv_off rfl rfl rfl rfl ?_)
     refine W_cons rfl (by decide) (Sv_off rfl rfl rfl rfl ?_)
     refine W_cons rfl (by decide) (Sv_off rfl rfl rfl rfl ?_)
     refine W_cons rfl (by decide) (Sv_off rfl rfl rfl rfl ?_)
     refine W_cons rfl (by decide) (Sv_val rfl (R_pick_t rfl rfl rfl rfl) ?_)
     refine W_cons rfl (by decide) (Sv_val rfl (R_move rfl rfl) ?_)
     refine W_cons rfl (by decide) (Sv_off rfl rfl rfl rfl ?_)
     refine W_cons rfl (by decide) (Sv_off rfl rfl rfl rfl ?_)
     refine W_cons rfl (by decide) (Sv_off rfl rfl rfl rfl ?_)
     refine W_cons rfl (by decide) (Sv_off rfl rfl rfl rfl ?_)
     refine W_cons rfl (by decide) (Sv_off rfl rfl rfl rfl ?_)
     refine W_cons rfl (by decide) (Sv_off rfl rfl rfl rfl ?_)
     refine W_cons rfl (by decide) (Sv_val rfl (R_pick_t rfl rfl rfl rfl) ?_)
     refine W_nil ?_
     refine E_then (C_fr [(1, .pointer (some ⟨b2, 0, none⟩)), (3, .int .i64 (i : Int)), (51, .bool true)] rfl ?_)
     refine C_if rfl rfl ?_
     refine C_seq ?_
     refine C_region ?_
     refine W_cons rfl (by decide) (Sv_val rfl (R_assign rfl rfl) ?_)
     refine W_nil ?_
     refine E_then ?_
     refine C_ret ?_
     refine E_block_ret ?_
     refine E_then_ret ?_
     refine E_then_ret ?_
     refine E_block_ret ?_
     refine E_then_ret ?_
     refine E_ret1 rfl rfl ?_
     exact ⟨Lret1 (Lint (show 4 = rcheckSh a0 by first | exact rck3 (by assumption) | exact rck1 (by assumption) (by assumption) | exact rck0 (by assumption) (by assumption) (i := i) (by omega) hI0_1 (j := j) (by omega) hI1_1 (k := k) (by omega) (by omega) hI2_1 (l := l) (by omega) hI4_1 | exact rck6 (by assumption) (by assumption) (i := i) (by omega) hI0_1 (j := j) (by omega) hI1_1 (k := k) (by omega) (by omega) hI2_1 (l := l) (by omega) (by unfold runderS; simp_all) | exact rck5 (by assumption) (by assumption) (i := i) (by omega) hI0_1 (j := j) (by omega) hI1_1 (k := k) (l := m) (by omega) (by omega) (by assumption) | exact rck4m (by assumption) (by assumption) (i := i) (by omega) hI0_1 (j := j) (by omega) (by assumption) | exact rck4 (by assumption) (by assumption) (i := i) (by omega) (by unfold rfarS; simp_all))), hS.fin [] (by decide) rfl⟩
    ·have _hg12 := trivial
     have hg12p : ¬ ((a0.Cells.getD i (default : TCell)).Row < 0) := by simpa using hg12
     refine W_cons rfl (by decide) (Sv_gt rfl rfl rfl hg12 (Sv_val rfl (R_fld rfl rfl fld46_1) ?_))
     refine W_cons rfl (by decide) (Sv_gt rfl rfl rfl hg12 (Sv_val rfl (R_load1 rfl rfl agg3 ((hS.bx 0 rfl).cell rfl)) ?_))
     refine W_cons rfl (by decide) (Sv_gt rfl rfl rfl hg12 (Sv_val rfl (R_bin rfl rfl rfl rfl rfl) ?_))
     refine W_cons rfl (by decide) (Sv_val rfl (R_pick_f rfl rfl hg12 rfl) ?_)
     refine W_cons rfl (by decide) (Sv_val rfl (R_move rfl rfl) ?_)
     refine W_split (t := 36) rfl (fun hg13 => ?_) (fun hg13 => ?_)
     ·have _hg13 := trivial
      have hg13p : (a0.Cells.getD i (default : TCell)).Col < 0 := by simpa using hg13
      refine W_cons rfl (by decide) (Sv_off rfl rfl rfl (by rw [hg13] <;> rfl) ?_)
      refine W_cons rfl (by decide) (Sv_off rfl rfl rfl (by rw [hg13] <;> rfl) ?_)
      refine W_cons rfl (by decide) (Sv_off rfl rfl rfl (by rw [hg13] <;> rfl) ?_)
      refine W_cons rfl (by decide) (Sv_off rfl rfl rfl (by rw [hg13] <;> rfl) ?_)
      refine W_cons rfl (by decide) (Sv_off rfl rfl rfl (by rw [hg13] <;> rfl) ?_)
      refine W_cons rfl (by decide) (Sv_off rfl rfl rfl (by rw [hg13] <;> rfl) ?_)
      refine W_cons rfl (by decide) (Sv_val rfl (R_pick_t rfl rfl hg13 rfl) ?_)
      refine W_cons rfl (by decide) (Sv_val rfl (R_move rfl rfl) ?_)
      refine W_cons rfl (by decide) (Sv_off rfl rfl rfl rfl ?_)
      refine W_cons rfl (by decide) (Sv_off rfl rfl rfl rfl ?_)
      refine W_cons rfl (by decide) (Sv_off rfl rfl rfl rfl ?_)
      refine W_cons rfl (by decide) (Sv_off rfl rfl rfl rfl ?_)
      refine W_cons rfl (by decide) (Sv_off rfl rfl rfl rfl ?_)
      refine W_cons rfl (by decide) (Sv_off rfl rfl rfl rfl ?_)
      refine W_cons rfl (by decide) (Sv_val rfl (R_pick_t rfl rfl rfl rfl) ?_)
      refine W_nil ?_
      refine E_then (C_fr [(1, .pointer (some ⟨b2, 0, none⟩)), (3, .int .i64 (i : Int)), (51, .bool true)] rfl ?_)
      refine C_if rfl rfl ?_
      refine C_seq ?_
      refine C_region ?_
      refine W_cons rfl (by decide) (Sv_val rfl (R_assign rfl rfl) ?_)
      refine W_nil ?_
      refine E_then ?_
      refine C_ret ?_
      refine E_block_ret ?_
      refine E_then_ret ?_
      refine E_then_ret ?_
      refine E_block_ret ?_
      refine E_then_ret ?_
      refine E_ret1 rfl rfl ?_
      exact ⟨Lret1 (Lint (show 4 = rcheckSh a0 by first | exact rck3 (by assumption) | exact rck1 (by assumption) (by assumption) | exact rck0 (by assumption) (by assumption) (i := i) (by omega) hI0_1 (j := j) (by omega) hI1_1 (k := k) (by omega) (by omega) hI2_1 (l := l) (by omega) hI4_1 | exact rck6 (by assumption) (by assumption) (i := i) (by omega) hI0_1 (j := j) (by omega) hI1_1 (k := k) (by omega) (by omega) hI2_1 (l := l) (by omega) (by unfold runderS; simp_all) | exact rck5 (by assumption) (by assumption) (i := i) (by omega) hI0_1 (j := j) (by omega) hI1_1 (k := k) (l := m) (by omega) (by omega) (by assumption) | exact rck4m (by assumption) (by assumption) (i := i) (by omega) hI0_1 (j := j) (by omega) (by assumption) | exact rck4 (by assumption) (by assumption) (i := i) (by omega) (by unfold rfarS; simp_all))), hS.fin [] (by decide) rfl⟩
     ·have _hg13 := trivial
      have hg13p : ¬ ((a0.Cells.getD i (default : TCell)).Col < 0) := by simpa using hg13
      refine W_cons rfl (by decide) (Sv_gt rfl rfl rfl hg13 (Sv_val rfl (R_fld rfl rfl fld46_0) ?_))
      refine W_cons rfl (by decide) (Sv_gt rfl rfl rfl hg13 (Sv_val rfl (R_load1 rfl rfl agg3 ((hS.bx 0 rfl).cell rfl)) ?_))
      refine W_cons rfl (by decide) (Sv_gt rfl rfl rfl hg13 (Sv_val rfl (R_fld rfl rfl fld39_2) ?_))
      refine W_cons rfl (by decide) (Sv_gt rfl rfl rfl hg13 (Sv_val rfl (R_load1 rfl rfl agg35 ((hS.bx 1 rfl).cell rfl)) ?_))
      refine W_cons rfl (by decide) (Sv_gt rfl rfl rfl hg13 (Sv_val rfl (R_len rfl rfl Try.underlying35) ?_))
      refine W_cons rfl (by decide) (Sv_gt rfl rfl rfl hg13 (Sv_val rfl (R_bin rfl rfl rfl rfl rfl) ?_))
      refine W_cons rfl (by decide) (Sv_val rfl (R_pick_f rfl rfl hg13 rfl) ?_)
      refine W_cons rfl (by decide) (Sv_val rfl (R_move rfl rfl) ?_)
      refine W_split (t := 44) rfl (fun hg14 => ?_) (fun hg14 => ?_)
      ·have _hg14 := trivial
       have hg14p : (a0.Cells.getD i (default : TCell)).Row ≥ (a0.Heights.length : Int) := by simpa using hg14
       refine W_cons rfl (by decide) (Sv_off rfl rfl rfl (by rw [hg14] <;> rfl) ?_)
       refine W_cons rfl (by decide) (Sv_off rfl rfl rfl (by rw [hg14] <;> rfl) ?_)
       refine W_cons rfl (by decide) (Sv_off rfl rfl rfl (by rw [hg14] <;> rfl) ?_)
       refine W_cons rfl (by decide) (Sv_off rfl rfl rfl (by rw [hg14] <;> rfl) ?_)
       refine W_cons rfl (by decide) (Sv_off rfl rfl rfl (by rw [hg14] <;> rfl) ?_)
       refine W_cons rfl (by decide) (Sv_off rfl rfl rfl (by rw [hg14] <;> rfl) ?_)
       refine W_cons rfl (by decide) (Sv_val rfl (R_pick_t rfl rfl hg14 rfl) ?_)
       refine W_nil ?_
       refine E_then (C_fr [(1, .pointer (some ⟨b2, 0, none⟩)), (3, .int .i64 (i : Int)), (51, .bool true)] rfl ?_)
       refine C_if rfl rfl ?_
       refine C_seq ?_
       refine C_region ?_
       refine W_cons rfl (by decide) (Sv_val rfl (R_assign rfl rfl) ?_)
       refine W_nil ?_
       refine E_then ?_
       refine C_ret ?_
       refine E_block_ret ?_
       refine E_then_ret ?_
       refine E_then_ret ?_
       refine E_block_ret ?_
       refine E_then_ret ?_
       refine E_ret1 rfl rfl ?_
       exact ⟨Lret1 (Lint (show 4 = rcheckSh a0 by first | exact rck3 (by assumption) | exact rck1 (by assumption) (by assumption) | exact rck0 (by assumption) (by assumption) (i := i) (by omega) hI0_1 (j := j) (by omega) hI1_1 (k := k) (by omega) (by omega) hI2_1 (l := l) (by omega) hI4_1 | exact rck6 (by assumption) (by assumption) (i := i) (by omega) hI0_1 (j := j) (by omega) hI1_1 (k := k) (by omega) (by omega) hI2_1 (l := l) (by omega) (by unfold runderS; simp_all) | exact rck5 (by assumption) (by assumption) (i := i) (by omega) hI0_1 (j := j) (by omega) hI1_1 (k := k) (l := m) (by omega) (by omega) (by assumption) | exact rck4m (by assumption) (by assumption) (i := i) (by omega) hI0_1 (j := j) (by omega) (by assumption) | exact rck4 (by assumption) (by assumption) (i := i) (by omega) (by unfold rfarS; simp_all))), hS.fin [] (by decide) rfl⟩
      ·have _hg14 := trivial
       have hg14p : ¬ ((a0.Cells.getD i (default : TCell)).Row ≥ (a0.Heights.length : Int)) := by simpa using hg14
       refine W_cons rfl (by decide) (Sv_gt rfl rfl rfl hg14 (Sv_val rfl (R_fld rfl rfl fld46_1) ?_))
       refine W_cons rfl (by decide) (Sv_gt rfl rfl rfl hg14 (Sv_val rfl (R_load1 rfl rfl agg3 ((hS.bx 0 rfl).cell rfl)) ?_))
       refine W_cons rfl (by decide) (Sv_gt rfl rfl rfl hg14 (Sv_val rfl (R_fld rfl rfl fld39_1) ?_))
       refine W_cons rfl (by decide) (Sv_gt rfl rfl rfl hg14 (Sv_val rfl (R_load1 rfl rfl agg35 ((hS.bx 1 rfl).cell rfl)) ?_))
       refine W_cons rfl (by decide) (Sv_gt rfl rfl rfl hg14 (Sv_val rfl (R_len rfl rfl Try.underlying35) ?_))
       refine W_cons rfl (by decide) (Sv_gt rfl rfl rfl hg14 (Sv_val rfl (R_bin rfl rfl rfl rfl rfl) ?_))
       refine W_cons rfl (by decide) (Sv_val rfl (R_pick_f rfl rfl hg14 rfl) ?_)
       refine W_nil ?_
       refine E_then (C_fr [(1, .pointer (some ⟨b2, 0, none⟩)), (3, .int .i64 (i : Int)), (51, .bool (decide ((a0.Cells.getD i (default : TCell)).Col ≥ (a0.Widths.length : Int))))] rfl ?_)
       refine C_ite rfl (fun hC3 => ?_) (fun hC3 => ?_)
       ·have _hC3 := trivial
        have hC3p : (a0.Cells.getD i (default : TCell)).Col ≥ (a0.Widths.length : Int) := by simpa using hC3
        refine C_seq ?_
        refine C_region ?_
        refine W_cons rfl (by decide) (Sv_val rfl (R_assign rfl rfl) ?_)
        refine W_nil ?_
        refine E_then ?_
        refine C_ret ?_
        refine E_block_ret ?_
        refine E_then_ret ?_
        refine E_then_ret ?_
        refine E_block_ret ?_
        refine E_then_ret ?_
        refine E_ret1 rfl rfl ?_
        exact ⟨Lret1 (Lint (show 4 = rcheckSh a0 by first | exact rck3 (by assumption) | exact rck1 (by assumption) (by assumption) | exact rck0 (by assumption) (by assumption) (i := i) (by omega) hI0_1 (j := j) (by omega) hI1_1 (k := k) (by omega) (by omega) hI2_1 (l := l) (by omega) hI4_1 | exact rck6 (by assumption) (by assumption) (i := i) (by omega) hI0_1 (j := j) (by omega) hI1_1 (k := k) (by omega) (by omega) hI2_1 (l := l) (by omega) (by unfold runderS; simp_all) | exact rck5 (by assumption) (by assumption) (i := i) (by omega) hI0_1 (j := j) (by omega) hI1_1 (k := k) (l := m) (by omega) (by omega) (by assumption) | exact rck4m (by assumption) (by assumption) (i := i) (by omega) hI0_1 (j := j) (by omega) (by assumption) | exact rck4 (by assumption) (by assumption) (i := i) (by omega) (by unfold rfarS; simp_all))), hS.fin [] (by decide) rfl⟩
       ·have _hC3 := trivial
        have hC3p : ¬ ((a0.Cells.getD i (default : TCell)).Col ≥ (a0.Widths.length : Int)) := by simpa using hC3
        refine C_skip ?_
        refine E_block_normal ?_
        refine E_then ?_
        refine C_region ?_
        refine W_cons rfl (by decide) (Sv_val rfl (R_move rfl rfl) ?_)
        refine W_cons rfl (by decide) (Sv_val rfl (R_add64 rfl rfl rfl (by omega) (by omega)) ?_)
        refine W_cons rfl (by decide) (Sv_val rfl (R_assign rfl rfl) ?_)
        refine W_nil ?_
        refine E_round [1, 3] ?_ ⟨(i + 1 : Nat), rfl, (by omega), (by exact any_step (p := rfarS a0) default (by omega) hI0_1 (by unfold rfarS; simp_all)), rfl, hS.fin [1] (by decide) rfl⟩
        omega
   ·have _hC2 := trivial
    have hC2p : ¬ ((i : Int) < (a0.Cells.length : Int)) := by simpa using hC2
    refine C_exit ?_
    refine E_then_exit ?_
    refine E_then_exit ?_
    refine E_block_hit ?_
    refine E_then (C_fr [(1, .pointer (some ⟨b2, 0, none⟩))] rfl ?_)
    refine C_seq ?_
    refine C_seq ?_
    refine C_region ?_
    refine W_cons rfl (by decide) (Sv_val rfl (R_assign rfl rfl) ?_)
    refine W_nil ?_
    refine E_then ?_
    refine C_block ?_
    refine C_fr [(1, .pointer (some ⟨b2, 0, none⟩)), (5, .int .i64 0)] rfl ?_
    refine C_loop (fun m_ f_ w_ => ∃ (j : Nat), f_ = [(1, .pointer (some ⟨b2, 0, none⟩)), (5, .int .i64 (j : Int))] ∧ j ≤ a0.Merges.length ∧ (a0.Merges.take j).any (fun r => !thereS a0 r) = false ∧ m_ = a0.Merges.length - j ∧ Sp (FF []) w z w_ [bR b2 39 [.int .i64 a0.Right, .slice Aa0_Widths a0.Widths.length ca0_Widths, .slice Aa0_Heights a0.Heights.length ca0_Heights, .slice Aa0_Cells a0.Cells.length ca0_Cells, .slice Aa0_Merges a0.Merges.length ca0_Merges]]) (a0.Merges.length - (0 : Nat)) ⟨(0 : Nat), rfl, (by omega), (by rfl), rfl, hS.fin [0] (by decide) rfl⟩ ?_
    rintro m_ f_ w15 ⟨j, rfl, hI1_0, hI1_1, rfl, hS⟩
    refine C_seq ?_
    refine C_seq ?_
    refine C_region ?_
    refine W_cons rfl (by decide) (Sv_val rfl (R_move rfl rfl) ?_)
    refine W_cons rfl (by decide) (Sv_val rfl (R_fld rfl rfl fld39_4) ?_)
    refine W_cons rfl (by decide) (Sv_val rfl (R_load1 rfl rfl agg37 ((hS.bx 0 rfl).cell rfl)) ?_)
    refine W_cons rfl (by decide) (Sv_val rfl (R_len rfl rfl Try.underlying37) ?_)
    refine W_cons rfl (by decide) (Sv_val rfl (R_bin rfl rfl rfl rfl rfl) ?_)
    refine W_nil ?_
    refine E_then ?_
    refine C_ite rfl (fun hC4 => ?_) (fun hC4 => ?_)
    ·have _hC4 := trivial
     have hC4p : (j : Int) < (a0.Merges.length : Int) := by simpa using hC4
     refine C_skip ?_
     refine E_then (C_fr [(1, .pointer (some ⟨b2, 0, none⟩)), (5, .int .i64 (j : Int))] rfl ?_)
     refine C_seq ?_
     refine C_block ?_
     refine C_seq ?_
     refine C_fr [(1, .pointer (some ⟨b2, 0, none⟩)), (5, .int .i64 (j : Int))] rfl ?_
     obtain ⟨q16, csq16, hAq16, rfl, hkq16⟩ := hra0_Merges.at_ (default : TRect) (i := (j : Int)) (by omega) (by omega)
     have hkq16 : ∀ (j_ : Nat) (u_ : Value), ([.int .i64 (a0.Merges.getD j (default : TRect)).Row, .int .i64 (a0.Merges.getD j (default : TRect)).Col, .int .i64 (a0.Merges.getD j (default : TRect)).Rows, .int .i64 (a0.Merges.getD j (default : TRect)).Cols] : List Value)[j_]? = some u_ → cz z (q16.add (j * 4 + j_)) = some u_ := hkq16
     refine C_drawn2 8 [[], [], [1], [], [2, 3], [4], [0, 5], [6]] [some 59, some 60, some 61, some 62, some 63, some 64, some 65, some 66] [1, 5] (List.replicate 8 8) (List.replicate 8 []) (List.replicate 8 []) [fun γ_ => .agg #[.int .i64 a0.Right, .slice Aa0_Widths a0.Widths.length ca0_Widths, .slice Aa0_Heights a0.Heights.length ca0_Heights, .slice Aa0_Cells a0.Cells.length ca0_Cells, .slice Aa0_Merges a0.Merges.length ca0_Merges], fun γ_ => .pointer (some ⟨b2, 4, none⟩), fun γ_ => .slice Aa0_Merges a0.Merges.length ca0_Merges, fun γ_ => .int .i64 (j : Int), fun γ_ => .pointer (some (q16.add (j * 4))), fun γ_ => .agg #[.int .i64 (a0.Merges.getD j (default : TRect)).Row, .int .i64 (a0.Merges.getD j (default : TRect)).Col, .int .i64 (a0.Merges.getD j (default : TRect)).Rows, .int .i64 (a0.Merges.getD j (default : TRect)).Cols], fun γ_ => .bool (thereS a0 (a0.Merges.getD j (default : TRect))), fun γ_ => .bool (!(thereS a0 (a0.Merges.getD j (default : TRect))))] (List.replicate 8 (fun _ => [])) rfl (by kernel_rfl) (by decide +kernel) hS ?_ ?_
     ·refine ⟨fun g_ w19 fr20 hS => Sv_val rfl (R_loadN (cs := [.int .i64 a0.Right, .slice Aa0_Widths a0.Widths.length ca0_Widths, .slice Aa0_Heights a0.Heights.length ca0_Heights, .slice Aa0_Cells a0.Cells.length ca0_Cells, .slice Aa0_Merges a0.Merges.length ca0_Merges]) rfl rfl agg39 size39 rfl (boxcells (hS.bx 0 rfl) 0 rfl)) ⟨gh0, rfl, hS⟩, ?_⟩
      refine ⟨fun g_ w21 fr22 hS => Sv_val rfl (R_fld rfl rfl fld39_4) ⟨gh0, rfl, hS⟩, ?_⟩
      refine ⟨fun g_ w23 fr24 hS => Sv_val rfl (R_load1 rfl rfl agg37 ((hS.bx 0 rfl).cell rfl)) ⟨gh0, rfl, hS⟩, ?_⟩
      refine ⟨fun g_ w25 fr26 hS => Sv_val rfl (R_move rfl rfl) ⟨gh0, rfl, hS⟩, ?_⟩
      refine ⟨fun g_ w27 fr28 hS => Sv_val rfl (R_idx rfl rfl hAq16 rfl Try.underlying37 size33 (by omega) (by omega)) ⟨gh0, rfl, hS⟩, ?_⟩
      refine ⟨fun g_ w29 fr30 hS => Sv_val rfl (R_loadN (cs := [.int .i64 (a0.Merges.getD j (default : TRect)).Row, .int .i64 (a0.Merges.getD j (default : TRect)).Col, .int .i64 (a0.Merges.getD j (default : TRect)).Rows, .int .i64 (a0.Merges.getD j (default : TRect)).Cols]) rfl rfl agg33 size33 rfl (fun j u h => cell_add (hS.sub.cell (hkq16 j u h)))) ⟨gh0, rfl, hS⟩, ?_⟩
      refine ⟨fun g_ w31 fr32 hS => ?_, ?_⟩
      ·have _w31 := trivial
       have hS : Sp (FF []) w z w31 [bR b2 39 [.int .i64 a0.Right, .slice Aa0_Widths a0.Widths.length ca0_Widths, .slice Aa0_Heights a0.Heights.length ca0_Heights, .slice Aa0_Cells a0.Cells.length ca0_Cells, .slice Aa0_Merges a0.Merges.length ca0_Merges], allR fr32] := hS
       refine Sv_call rfl rfl rfl ent83 ?_
       refine (there_calls a0 Aa0_Widths ca0_Widths Aa0_Heights ca0_Heights Aa0_Cells ca0_Cells Aa0_Merges ca0_Merges (a0.Merges.getD j (default : TRect)) _ _ hS.out0 (hra0_Widths.mono (hS.zl [])) hca0_Widths (hra0_Heights.mono (hS.zl [])) hca0_Heights (hra0_Cells.mono (hS.zl [])) hca0_Cells (hra0_Merges.mono (hS.zl [])) hca0_Merges ).mono ?_
       rintro e_ w33 ⟨rfl, hS_⟩
       refine ⟨_, rfl, ?_⟩
       have hS := hS.call0 hS_
       exact ⟨⟨fun _ => none, fun _ => 0, fun _ => zE, fun _ => 0⟩, rfl, hS.fin [0, 1] (by decide) rfl⟩
      refine ⟨fun g_ w35 fr36 hS => Sv_val rfl (R_un rfl rfl rfl) ⟨gh0, rfl, hS⟩, ?_⟩
      exact trivial
     ·intro g_ w37 hS
      have hS : Sp (FF []) w z w37 [bR b2 39 [.int .i64 a0.Right, .slice Aa0_Widths a0.Widths.length ca0_Widths, .slice Aa0_Heights a0.Heights.length ca0_Heights, .slice Aa0_Cells a0.Cells.length ca0_Cells, .slice Aa0_Merges a0.Merges.length ca0_Merges]] := hS
      refine An_fr [(1, .pointer (some ⟨b2, 0, none⟩)), (5, .int .i64 (j : Int)), (66, .bool (!(thereS a0 (a0.Merges.getD j (default : TRect)))))] rfl ?_
      refine An_done (by decide +kernel) ?_
      refine E_then ?_
      refine C_ite rfl (fun hC5 => ?_) (fun hC5 => ?_)
      ·have _hC5 := trivial
       have hC5p : ¬ (thereS a0 (a0.Merges.getD j (default : TRect)) = true) := by simpa using hC5
       refine C_seq ?_
       refine C_region ?_
       refine W_cons rfl (by decide) (Sv_val rfl (R_assign rfl rfl) ?_)
       refine W_nil ?_
       refine E_then ?_
       refine C_ret ?_
       refine E_block_ret ?_
       refine E_then_ret ?_
       refine E_then_ret ?_
       refine E_block_ret ?_
       refine E_then_ret ?_
       refine E_ret1 rfl rfl ?_
       exact ⟨Lret1 (Lint (show 4 = rcheckSh a0 by first | exact rck3 (by assumption) | exact rck1 (by assumption) (by assumption) | exact rck0 (by assumption) (by assumption) (i := i) (by omega) hI0_1 (j := j) (by omega) hI1_1 (k := k) (by omega) (by omega) hI2_1 (l := l) (by omega) hI4_1 | exact rck6 (by assumption) (by assumption) (i := i) (by omega) hI0_1 (j := j) (by omega) hI1_1 (k := k) (by omega) (by omega) hI2_1 (l := l) (by omega) (by unfold runderS; simp_all) | exact rck5 (by assumption) (by assumption) (i := i) (by omega) hI0_1 (j := j) (by omega) hI1_1 (k := k) (l := m) (by omega) (by omega) (by assumption) | exact rck4m (by assumption) (by assumption) (i := i) (by omega) hI0_1 (j := j) (by omega) (by assumption) | exact rck4 (by assumption) (by assumption) (i := i) (by omega) (by unfold rfarS; simp_all))), hS.fin [] (by decide) rfl⟩
      ·have _hC5 := trivial
       have hC5p : (thereS a0 (a0.Merges.getD j (default : TRect)) = true) := by simpa using hC5
       refine C_skip ?_
       refine E_block_normal ?_
       refine E_then ?_
       refine C_region ?_
       refine W_cons rfl (by decide) (Sv_val rfl (R_move rfl rfl) ?_)
       refine W_cons rfl (by decide) (Sv_val rfl (R_add64 rfl rfl rfl (by omega) (by omega)) ?_)
       refine W_cons rfl (by decide) (Sv_val rfl (R_assign rfl rfl) ?_)
       refine W_nil ?_
       refine E_round [1, 5] ?_ ⟨(j + 1 : Nat), rfl, (by omega), (by exact any_step (p := (fun r => !thereS a0 r)) default (by omega) hI1_1 (by simp_all)), rfl, hS.fin [0] (by decide) rfl⟩
       omega
    ·have _hC4 := trivial
     have hC4p : ¬ ((j : Int) < (a0.Merges.length : Int)) := by simpa using hC4
     refine C_exit ?_
     refine E_then_exit ?_
     refine E_then_exit ?_
     refine E_block_hit ?_
     refine E_then (C_fr [(1, .pointer (some ⟨b2, 0, none⟩))] rfl ?_)
     refine C_seq ?_
     refine C_seq ?_
     refine C_region ?_
     refine W_cons rfl (by decide) (Sv_val rfl (R_assign rfl rfl) ?_)
     refine W_nil ?_
     refine E_then ?_
     refine C_block ?_
     refine C_fr [(1, .pointer (some ⟨b2, 0, none⟩)), (6, .int .i64 0)] rfl ?_
     refine C_loop (fun m_ f_ w_ => ∃ (k : Nat), f_ = [(1, .pointer (some ⟨b2, 0, none⟩)), (6, .int .i64 (k : Int))] ∧ k ≤ a0.Merges.length ∧ (List.range k).any (rmeetsS a0) = false ∧ m_ = a0.Merges.length - k ∧ Sp (FF []) w z w_ [bR b2 39 [.int .i64 a0.Right, .slice Aa0_Widths a0.Widths.length ca0_Widths, .slice Aa0_Heights a0.Heights.length ca0_Heights, .slice Aa0_Cells a0.Cells.length ca0_Cells, .slice Aa0_Merges a0.Merges.length ca0_Merges]]) (a0.Merges.length - (0 : Nat)) ⟨(0 : Nat), rfl, (by omega), (by rfl), rfl, hS.fin [0] (by decide) rfl⟩ ?_
     rintro m_ f_ w39 ⟨k, rfl, hI2_0, hI2_1, rfl, hS⟩
     refine C_seq ?_
     refine C_seq ?_
     refine C_region ?_
     refine W_cons rfl (by decide) (Sv_val rfl (R_move rfl rfl) ?_)
     refine W_cons rfl (by decide) (Sv_val rfl (R_fld rfl rfl fld39_4) ?_)
     refine W_cons rfl (by decide) (Sv_val rfl (R_load1 rfl rfl agg37 ((hS.bx 0 rfl).cell rfl)) ?_)
     refine W_cons rfl (by decide) (Sv_val rfl (R_len rfl rfl Try.underlying37) ?_)
     refine W_cons rfl (by decide) (Sv_val rfl (R_bin rfl rfl rfl rfl rfl) ?_)
     refine W_nil ?_
     refine E_then ?_
     refine C_ite rfl (fun hC6 => ?_) (fun hC6 => ?_)
     ·have _hC6 := trivial
      have hC6p : (k : Int) < (a0.Merges.length : Int) := by simpa using hC6
      refine C_skip ?_
      refine E_then (C_fr [(1, .pointer (some ⟨b2, 0, none⟩)), (6, .int .i64 (k : Int))] rfl ?_)
      refine C_seq ?_
      refine C_block ?_
      refine C_seq ?_
      refine C_region ?_
      refine W_cons rfl (by decide) (Sv_val rfl (R_assign rfl rfl) ?_)
      refine W_nil ?_
      refine E_then ?_
      refine C_block ?_
      refine C_fr [(1, .pointer (some ⟨b2, 0, none⟩)), (6, .int .i64 (k : Int)), (7, .int .i64 0)] rfl ?_
      refine C_loop (fun m_ f_ w_ => ∃ (m : Nat), f_ = [(1, .pointer (some ⟨b2, 0, none⟩)), (6, .int .i64 (k : Int)), (7, .int .i64 (m : Int))] ∧ m ≤ k ∧ (List.range m).any (fun q => rmeetS (a0.Merges.getD k default) (a0.Merges.getD q default)) = false ∧ m_ = k - m ∧ Sp (FF []) w z w_ [bR b2 39 [.int .i64 a0.Right, .slice Aa0_Widths a0.Widths.length ca0_Widths, .slice Aa0_Heights a0.Heights.length ca0_Heights, .slice Aa0_Cells a0.Cells.length ca0_Cells, .slice Aa0_Merges a0.Merges.length ca0_Merges]]) (k - (0 : Nat)) ⟨(0 : Nat), rfl, (by omega), (by rfl), rfl, hS.fin [0] (by decide) rfl⟩ ?_
      rintro m_ f_ w40 ⟨m, rfl, hI3_0, hI3_1, rfl, hS⟩
      refine C_seq ?_
      refine C_seq ?_
      refine C_region ?_
      refine W_cons rfl (by decide) (Sv_val rfl (R_move rfl rfl) ?_)
      refine W_cons rfl (by decide) (Sv_val rfl (R_move rfl rfl) ?_)
      refine W_cons rfl (by decide) (Sv_val rfl (R_bin rfl rfl rfl rfl rfl) ?_)
      refine W_nil ?_
      refine E_then ?_
      refine C_ite rfl (fun hC7 => ?_) (fun hC7 => ?_)
      ·have _hC7 := trivial
       have hC7p : (m : Int) < (k : Int) := by simpa using hC7
       refine C_skip ?_
       refine E_then ?_
       refine C_seq ?_
       refine C_block ?_
       refine C_seq ?_
       refine C_fr [(1, .pointer (some ⟨b2, 0, none⟩)), (6, .int .i64 (k : Int)), (7, .int .i64 (m : Int))] rfl ?_
       obtain ⟨q41, csq41, hAq41, rfl, hkq41⟩ := hra0_Merges.at_ (default : TRect) (i := (k : Int)) (by omega) (by omega)
       have hkq41 : ∀ (j_ : Nat) (u_ : Value), ([.int .i64 (a0.Merges.getD k (default : TRect)).Row, .int .i64 (a0.Merges.getD k (default : TRect)).Col, .int .i64 (a0.Merges.getD k (default : TRect)).Rows, .int .i64 (a0.Merges.getD k (default : TRect)).Cols] : List Value)[j_]? = some u_ → cz z (q41.add (k * 4 + j_)) = some u_ := hkq41
       obtain ⟨q42, csq42, hAq42, rfl, hkq42⟩ := hra0_Merges.at_ (default : TRect) (i := (m : Int)) (by omega) (by omega)
       have hkq42 : ∀ (j_ : Nat) (u_ : Value), ([.int .i64 (a0.Merges.getD m (default : TRect)).Row, .int .i64 (a0.Merges.getD m (default : TRect)).Col, .int .i64 (a0.Merges.getD m (default : TRect)).Rows, .int .i64 (a0.Merges.getD m (default : TRect)).Cols] : List Value)[j_]? = some u_ → cz z (q42.add (m * 4 + j_)) = some u_ := hkq42
       refine C_drawn2 11 [[], [0], [], [1, 2], [3], [], [5], [], [6, 7], [8], [4, 9]] [some 79, some 80, some 81, some 82, some 83, some 84, some 85, some 86, some 87, some 88, some 89] [1, 6, 7] (List.replicate 11 11) (List.replicate 11 []) (List.replicate 11 []) [fun γ_ => .pointer (some ⟨b2, 4, none⟩), fun γ_ => .slice Aa0_Merges a0.Merges.length ca0_Merges, fun γ_ => .int .i64 (k : Int), fun γ_ => .pointer (some (q41.add (k * 4))), fun γ_ => .agg #[.int .i64 (a0.Merges.getD k (default : TRect)).Row, .int .i64 (a0.Merges.getD k (default : TRect)).Col, .int .i64 (a0.Merges.getD k (default : TRect)).Rows, .int .i64 (a0.Merges.getD k (default : TRect)).Cols], fun γ_ => .pointer (some ⟨b2, 4, none⟩), fun γ_ => .slice Aa0_Merges a0.Merges.length ca0_Merges, fun γ_ => .int .i64 (m : Int), fun γ_ => .pointer (some (q42.add (m * 4))), fun γ_ => .agg #[.int .i64 (a0.Merges.getD m (default : TRect)).Row, .int .i64 (a0.Merges.getD m (default : TRect)).Col, .int .i64 (a0.Merges.getD m (default : TRect)).Rows, .int .i64 (a0.Merges.getD m (default : TRect)).Cols], fun γ_ => .bool (rmeetS (a0.Merges.getD k (default : TRect)) (a0.Merges.getD m (default : TRect)))] (List.replicate 11 (fun _ => [])) rfl (by kernel_rfl) (by decide +kernel) hS ?_ ?_
       ·refine ⟨fun g_ w45 fr46 hS => Sv_val rfl (R_fld rfl rfl fld39_4) ⟨gh0, rfl, hS⟩, ?_⟩
        refine ⟨fun g_ w47 fr48 hS => Sv_val rfl (R_load1 rfl rfl agg37 ((hS.bx 0 rfl).cell rfl)) ⟨gh0, rfl, hS⟩, ?_⟩
        refine ⟨fun g_ w49 fr50 hS => Sv_val rfl (R_move rfl rfl) ⟨gh0, rfl, hS⟩, ?_⟩
        refine ⟨fun g_ w51 fr52 hS => Sv_val rfl (R_idx rfl rfl hAq41 rfl Try.underlying37 size33 (by omega) (by omega)) ⟨gh0, rfl, hS⟩, ?_⟩
        refine ⟨fun g_ w53 fr54 hS => Sv_val rfl (R_loadN (cs := [.int .i64 (a0.Merges.getD k (default : TRect)).Row, .int .i64 (a0.Merges.getD k (default : TRect)).Col, .int .i64 (a0.Merges.getD k (default : TRect)).Rows, .int .i64 (a0.Merges.getD k (default : TRect)).Cols]) rfl rfl agg33 size33 rfl (fun j u h => cell_add (hS.sub.cell (hkq41 j u h)))) ⟨gh0, rfl, hS⟩, ?_⟩
        refine ⟨fun g_ w55 fr56 hS => Sv_val rfl (R_fld rfl rfl fld39_4) ⟨gh0, rfl, hS⟩, ?_⟩
        refine ⟨fun g_ w57 fr58 hS => Sv_val rfl (R_load1 rfl rfl agg37 ((hS.bx 0 rfl).cell rfl)) ⟨gh0, rfl, hS⟩, ?_⟩
        refine ⟨fun g_ w59 fr60 hS => Sv_val rfl (R_move rfl rfl) ⟨gh0, rfl, hS⟩, ?_⟩
        refine ⟨fun g_ w61 fr62 hS => Sv_val rfl (R_idx rfl rfl hAq42 rfl Try.underlying37 size33 (by omega) (by omega)) ⟨gh0, rfl, hS⟩, ?_⟩
        refine ⟨fun g_ w63 fr64 hS => Sv_val rfl (R_loadN (cs := [.int .i64 (a0.Merges.getD m (default : TRect)).Row, .int .i64 (a0.Merges.getD m (default : TRect)).Col, .int .i64 (a0.Merges.getD m (default : TRect)).Rows, .int .i64 (a0.Merges.getD m (default : TRect)).Cols]) rfl rfl agg33 size33 rfl (fun j u h => cell_add (hS.sub.cell (hkq42 j u h)))) ⟨gh0, rfl, hS⟩, ?_⟩
        refine ⟨fun g_ w65 fr66 hS => ?_, ?_⟩
        ·have _w65 := trivial
         have hS : Sp (FF []) w z w65 [bR b2 39 [.int .i64 a0.Right, .slice Aa0_Widths a0.Widths.length ca0_Widths, .slice Aa0_Heights a0.Heights.length ca0_Heights, .slice Aa0_Cells a0.Cells.length ca0_Cells, .slice Aa0_Merges a0.Merges.length ca0_Merges], allR fr66] := hS
         refine Sv_call rfl rfl rfl ent28 ?_
         refine (rmeet_calls (a0.Merges.getD k (default : TRect)) (a0.Merges.getD m (default : TRect)) _ _ hS.out0  ).mono ?_
         rintro e_ w67 ⟨rfl, hS_⟩
         refine ⟨_, rfl, ?_⟩
         have hS := hS.call0 hS_
         exact ⟨⟨fun _ => none, fun _ => 0, fun _ => zE, fun _ => 0⟩, rfl, hS.fin [0, 1] (by decide) rfl⟩
        exact trivial
       ·intro g_ w69 hS
        have hS : Sp (FF []) w z w69 [bR b2 39 [.int .i64 a0.Right, .slice Aa0_Widths a0.Widths.length ca0_Widths, .slice Aa0_Heights a0.Heights.length ca0_Heights, .slice Aa0_Cells a0.Cells.length ca0_Cells, .slice Aa0_Merges a0.Merges.length ca0_Merges]] := hS
        refine An_fr [(1, .pointer (some ⟨b2, 0, none⟩)), (6, .int .i64 (k : Int)), (7, .int .i64 (m : Int)), (89, .bool (rmeetS (a0.Merges.getD k (default : TRect)) (a0.Merges.getD m (default : TRect))))] rfl ?_
        refine An_done (by decide +kernel) ?_
        refine E_then ?_
        refine C_ite rfl (fun hC8 => ?_) (fun hC8 => ?_)
        ·have _hC8 := trivial
         refine C_seq ?_
         refine C_region ?_
         refine W_cons rfl (by decide) (Sv_val rfl (R_assign rfl rfl) ?_)
         refine W_nil ?_
         refine E_then ?_
         refine C_ret ?_
         refine E_block_ret ?_
         refine E_then_ret ?_
         refine E_then_ret ?_
         refine E_block_ret ?_
         refine E_block_ret ?_
         refine E_then_ret ?_
         refine E_then_ret ?_
         refine E_block_ret ?_
         refine E_then_ret ?_
         refine E_ret1 rfl rfl ?_
         exact ⟨Lret1 (Lint (show 5 = rcheckSh a0 by first | exact rck3 (by assumption) | exact rck1 (by assumption) (by assumption) | exact rck0 (by assumption) (by assumption) (i := i) (by omega) hI0_1 (j := j) (by omega) hI1_1 (k := k) (by omega) (by omega) hI2_1 (l := l) (by omega) hI4_1 | exact rck6 (by assumption) (by assumption) (i := i) (by omega) hI0_1 (j := j) (by omega) hI1_1 (k := k) (by omega) (by omega) hI2_1 (l := l) (by omega) (by unfold runderS; simp_all) | exact rck5 (by assumption) (by assumption) (i := i) (by omega) hI0_1 (j := j) (by omega) hI1_1 (k := k) (l := m) (by omega) (by omega) (by assumption) | exact rck4m (by assumption) (by assumption) (i := i) (by omega) hI0_1 (j := j) (by omega) (by assumption) | exact rck4 (by assumption) (by assumption) (i := i) (by omega) (by unfold rfarS; simp_all))), hS.fin [] (by decide) rfl⟩
        ·have _hC8 := trivial
         refine C_skip ?_
         refine E_block_normal ?_
         refine E_then ?_
         refine C_region ?_
         refine W_cons rfl (by decide) (Sv_val rfl (R_move rfl rfl) ?_)
         refine W_cons rfl (by decide) (Sv_val rfl (R_add64 rfl rfl rfl (by omega) (by omega)) ?_)
         refine W_cons rfl (by decide) (Sv_val rfl (R_assign rfl rfl) ?_)
         refine W_nil ?_
         refine E_round [1, 6, 7] ?_ ⟨(m + 1 : Nat), rfl, (by omega), (by exact range_any_next hI3_1 (by simp_all)), rfl, hS.fin [0] (by decide) rfl⟩
         omega
      ·have _hC7 := trivial
       have hC7p : ¬ ((m : Int) < (k : Int)) := by simpa using hC7
       refine C_exit ?_
       refine E_then_exit ?_
       refine E_then_exit ?_
       refine E_block_hit ?_
       refine E_block_normal ?_
       refine E_then ?_
       refine C_region ?_
       refine W_cons rfl (by decide) (Sv_val rfl (R_move rfl rfl) ?_)
       refine W_cons rfl (by decide) (Sv_val rfl (R_add64 rfl rfl rfl (by omega) (by omega)) ?_)
       refine W_cons rfl (by decide) (Sv_val rfl (R_assign rfl rfl) ?_)
       refine W_nil ?_
       refine E_round [1, 6] ?_ ⟨(k + 1 : Nat), rfl, (by omega), (by exact range_any_next hI2_1 (by unfold rmeetsS; rw [show k = m from by omega]; rw [show m = k from by omega] at hI3_1 ⊢; exact hI3_1)), rfl, hS.fin [0] (by decide) rfl⟩
       omega
     ·have _hC6 := trivial
      have hC6p : ¬ ((k : Int) < (a0.Merges.length : Int)) := by simpa using hC6
      refine C_exit ?_
      refine E_then_exit ?_
      refine E_then_exit ?_
      refine E_block_hit ?_
      refine E_then (C_fr [(1, .pointer (some ⟨b2, 0, none⟩))] rfl ?_)
      refine C_seq ?_
      refine C_seq ?_
      refine C_region ?_
      refine W_cons rfl (by decide) (Sv_val rfl (R_assign rfl rfl) ?_)
      refine W_nil ?_
      refine E_then ?_
      refine C_block ?_
      refine C_fr [(1, .pointer (some ⟨b2, 0, none⟩)), (8, .int .i64 0)] rfl ?_
      refine C_loop (fun m_ f_ w_ => ∃ (l : Nat), f_ = [(1, .pointer (some ⟨b2, 0, none⟩)), (8, .int .i64 (l : Int))] ∧ l ≤ a0.Cells.length ∧ (a0.Cells.take l).any (runderS a0) = false ∧ m_ = a0.Cells.length - l ∧ Sp (FF []) w z w_ [bR b2 39 [.int .i64 a0.Right, .slice Aa0_Widths a0.Widths.length ca0_Widths, .slice Aa0_Heights a0.Heights.length ca0_Heights, .slice Aa0_Cells a0.Cells.length ca0_Cells, .slice Aa0_Merges a0.Merges.length ca0_Merges]]) (a0.Cells.length - (0 : Nat)) ⟨(0 : Nat), rfl, (by omega), (by rfl), rfl, hS.fin [0] (by decide) rfl⟩ ?_
      rintro m_ f_ w71 ⟨l, rfl, hI4_0, hI4_1, rfl, hS⟩
      refine C_seq ?_
      refine C_seq ?_
      refine C_region ?_
      refine W_cons rfl (by decide) (Sv_val rfl (R_move rfl rfl) ?_)
      refine W_cons rfl (by decide) (Sv_val rfl (R_fld rfl rfl fld39_3) ?_)
      refine W_cons rfl (by decide) (Sv_val rfl (R_load1 rfl rfl agg36 ((hS.bx 0 rfl).cell rfl)) ?_)
      refine W_cons rfl (by decide) (Sv_val rfl (R_len rfl rfl Try.underlying36) ?_)
      refine W_cons rfl (by decide) (Sv_val rfl (R_bin rfl rfl rfl rfl rfl) ?_)
      refine W_nil ?_
      refine E_then ?_
      refine C_ite rfl (fun hC9 => ?_) (fun hC9 => ?_)
      ·have _hC9 := trivial
       have hC9p : (l : Int) < (a0.Cells.length : Int) := by simpa using hC9
       refine C_skip ?_
       refine E_then (C_fr [(1, .pointer (some ⟨b2, 0, none⟩)), (8, .int .i64 (l : Int))] rfl ?_)
       refine C_seq ?_
       refine C_block ?_
       refine C_seq ?_
       refine C_fr [(1, .pointer (some ⟨b2, 0, none⟩)), (8, .int .i64 (l : Int))] rfl ?_
       obtain ⟨q72, csq72, hAq72, rfl, hkq72⟩ := hra0_Cells.at_ (default : TCell) (i := (l : Int)) (by omega) (by omega)
       have hkq72 : ∀ (j_ : Nat) (u_ : Value), ([.int .i64 (a0.Cells.getD l (default : TCell)).Row, .int .i64 (a0.Cells.getD l (default : TCell)).Col, vstr (a0.Cells.getD l (default : TCell)).Text, .int .i64 (a0.Cells.getD l (default : TCell)).Style.Align, .int .i64 (a0.Cells.getD l (default : TCell)).Style.Wrap, .int .i64 (a0.Cells.getD l (default : TCell)).Style.Dir] : List Value)[j_]? = some u_ → cz z (q72.add (l * 6 + j_)) = some u_ := hkq72
       obtain ⟨q73, csq73, hAq73, rfl, hkq73⟩ := hra0_Cells.at_ (default : TCell) (i := (l : Int)) (by omega) (by omega)
       have hkq73 : ∀ (j_ : Nat) (u_ : Value), ([.int .i64 (a0.Cells.getD l (default : TCell)).Row, .int .i64 (a0.Cells.getD l (default : TCell)).Col, vstr (a0.Cells.getD l (default : TCell)).Text, .int .i64 (a0.Cells.getD l (default : TCell)).Style.Align, .int .i64 (a0.Cells.getD l (default : TCell)).Style.Wrap, .int .i64 (a0.Cells.getD l (default : TCell)).Style.Dir] : List Value)[j_]? = some u_ → cz z (q73.add (l * 6 + j_)) = some u_ := hkq73
       refine C_drawn2 16 [[], [], [1], [], [2, 3], [4], [5], [], [7], [], [8, 9], [10], [11], [0, 6, 12], []] [some 97, some 98, some 99, some 100, some 101, some 102, some 103, some 104, some 105, some 106, some 107, some 108, some 109, some 110, some 9] [1, 8] (List.replicate 15 15) (List.replicate 15 []) (List.replicate 15 []) [fun γ_ => .agg #[.int .i64 a0.Right, .slice Aa0_Widths a0.Widths.length ca0_Widths, .slice Aa0_Heights a0.Heights.length ca0_Heights, .slice Aa0_Cells a0.Cells.length ca0_Cells, .slice Aa0_Merges a0.Merges.length ca0_Merges], fun γ_ => .pointer (some ⟨b2, 3, none⟩), fun γ_ => .slice Aa0_Cells a0.Cells.length ca0_Cells, fun γ_ => .int .i64 (l : Int), fun γ_ => .pointer (some (q72.add (l * 6))), fun γ_ => .pointer (some ((q72.add (l * 6)).add 0)), fun γ_ => .int .i64 (a0.Cells.getD l (default : TCell)).Row, fun γ_ => .pointer (some ⟨b2, 3, none⟩), fun γ_ => .slice Aa0_Cells a0.Cells.length ca0_Cells, fun γ_ => .int .i64 (l : Int), fun γ_ => .pointer (some (q73.add (l * 6))), fun γ_ => .pointer (some ((q73.add (l * 6)).add 1)), fun γ_ => .int .i64 (a0.Cells.getD l (default : TCell)).Col, fun γ_ => .agg #[.int .i64 (raroundS a0 (a0.Cells.getD l (default : TCell)).Row (a0.Cells.getD l (default : TCell)).Col).Row, .int .i64 (raroundS a0 (a0.Cells.getD l (default : TCell)).Row (a0.Cells.getD l (default : TCell)).Col).Col, .int .i64 (raroundS a0 (a0.Cells.getD l (default : TCell)).Row (a0.Cells.getD l (default : TCell)).Col).Rows, .int .i64 (raroundS a0 (a0.Cells.getD l (default : TCell)).Row (a0.Cells.getD l (default : TCell)).Col).Cols], fun γ_ => .pointer (some ⟨(γ_.b 0), 0, none⟩)] [fun γ_ => [], fun γ_ => [], fun γ_ => [], fun γ_ => [], fun γ_ => [], fun γ_ => [], fun γ_ => [], fun γ_ => [], fun γ_ => [], fun γ_ => [], fun γ_ => [], fun γ_ => [], fun γ_ => [], fun γ_ => [], fun γ_ => [bR (γ_.b 0) 33 [.int .i64 0, .int .i64 0, .int .i64 0, .int .i64 0]]] rfl (by kernel_rfl) (by decide +kernel) hS ?_ ?_
       ·refine ⟨fun g_ w78 fr79 hS => Sv_val rfl (R_loadN (cs := [.int .i64 a0.Right, .slice Aa0_Widths a0.Widths.length ca0_Widths, .slice Aa0_Heights a0.Heights.length ca0_Heights, .slice Aa0_Cells a0.Cells.length ca0_Cells, .slice Aa0_Merges a0.Merges.length ca0_Merges]) rfl rfl agg39 size39 rfl (boxcells (hS.bx 0 rfl) 0 rfl)) ⟨gh0, rfl, hS⟩, ?_⟩
        refine ⟨fun g_ w80 fr81 hS => Sv_val rfl (R_fld rfl rfl fld39_3) ⟨gh0, rfl, hS⟩, ?_⟩
        refine ⟨fun g_ w82 fr83 hS => Sv_val rfl (R_load1 rfl rfl agg36 ((hS.bx 0 rfl).cell rfl)) ⟨gh0, rfl, hS⟩, ?_⟩
        refine ⟨fun g_ w84 fr85 hS => Sv_val rfl (R_move rfl rfl) ⟨gh0, rfl, hS⟩, ?_⟩
        refine ⟨fun g_ w86 fr87 hS => Sv_val rfl (R_idx rfl rfl hAq72 rfl Try.underlying36 size46 (by omega) (by omega)) ⟨gh0, rfl, hS⟩, ?_⟩
        refine ⟨fun g_ w88 fr89 hS => Sv_val rfl (R_fld rfl rfl fld46_0) ⟨gh0, rfl, hS⟩, ?_⟩
        refine ⟨fun g_ w90 fr91 hS => Sv_val rfl (R_load1 rfl rfl agg3 (cell_add (hS.sub.cell (hkq72 0 _ rfl)))) ⟨gh0, rfl, hS⟩, ?_⟩
        refine ⟨fun g_ w92 fr93 hS => Sv_val rfl (R_fld rfl rfl fld39_3) ⟨gh0, rfl, hS⟩, ?_⟩
        refine ⟨fun g_ w94 fr95 hS => Sv_val rfl (R_load1 rfl rfl agg36 ((hS.bx 0 rfl).cell rfl)) ⟨gh0, rfl, hS⟩, ?_⟩
        refine ⟨fun g_ w96 fr97 hS => Sv_val rfl (R_move rfl rfl) ⟨gh0, rfl, hS⟩, ?_⟩
        refine ⟨fun g_ w98 fr99 hS => Sv_val rfl (R_idx rfl rfl hAq73 rfl Try.underlying36 size46 (by omega) (by omega)) ⟨gh0, rfl, hS⟩, ?_⟩
        refine ⟨fun g_ w100 fr101 hS => Sv_val rfl (R_fld rfl rfl fld46_1) ⟨gh0, rfl, hS⟩, ?_⟩
        refine ⟨fun g_ w102 fr103 hS => Sv_val rfl (R_load1 rfl rfl agg3 (cell_add (hS.sub.cell (hkq73 1 _ rfl)))) ⟨gh0, rfl, hS⟩, ?_⟩
        refine ⟨fun g_ w104 fr105 hS => ?_, ?_⟩
        ·have _w104 := trivial
         have hS : Sp (FF []) w z w104 [bR b2 39 [.int .i64 a0.Right, .slice Aa0_Widths a0.Widths.length ca0_Widths, .slice Aa0_Heights a0.Heights.length ca0_Heights, .slice Aa0_Cells a0.Cells.length ca0_Cells, .slice Aa0_Merges a0.Merges.length ca0_Merges], allR fr105] := hS
         refine Sv_call rfl rfl rfl ent55 ?_
         refine (raround_calls a0 Aa0_Widths ca0_Widths Aa0_Heights ca0_Heights Aa0_Cells ca0_Cells Aa0_Merges ca0_Merges (a0.Cells.getD l (default : TCell)).Row (a0.Cells.getD l (default : TCell)).Col _ _ hS.out0 (hra0_Widths.mono (hS.zl [])) hca0_Widths (hra0_Heights.mono (hS.zl [])) hca0_Heights (hra0_Cells.mono (hS.zl [])) hca0_Cells (hra0_Merges.mono (hS.zl [])) hca0_Merges ).mono ?_
         rintro e_ w106 ⟨rfl, hS_⟩
         refine ⟨_, rfl, ?_⟩
         have hS := hS.call0 hS_
         exact ⟨⟨fun _ => none, fun _ => 0, fun _ => zE, fun _ => 0⟩, rfl, hS.fin [0, 1] (by decide) rfl⟩
        refine ⟨fun g_ w108 fr109 hS => ?_, ?_⟩
        ·have _w108 := trivial
         have hS : Sp (FF []) w z w108 [bR b2 39 [.int .i64 a0.Right, .slice Aa0_Widths a0.Widths.length ca0_Widths, .slice Aa0_Heights a0.Heights.length ca0_Heights, .slice Aa0_Cells a0.Cells.length ca0_Cells, .slice Aa0_Merges a0.Merges.length ca0_Merges], allR fr109] := hS
         refine S_box hS rfl (R_alloc rfl alloc33) (fun b111 w110 hS => ?_)
         exact ⟨⟨fun _ => none, fun _ => 0, fun _ => zE, fun _ => b111⟩, rfl, hS.fin [0, 1, 2] (by decide) rfl⟩
        exact trivial
       ·intro g_ w112 hS
        have hS : Sp (FF []) w z w112 [bR ((g_ 14).b 0) 33 [.int .i64 0, .int .i64 0, .int .i64 0, .int .i64 0], bR b2 39 [.int .i64 a0.Right, .slice Aa0_Widths a0.Widths.length ca0_Widths, .slice Aa0_Heights a0.Heights.length ca0_Heights, .slice Aa0_Cells a0.Cells.length ca0_Cells, .slice Aa0_Merges a0.Merges.length ca0_Merges]] := hS
        refine An_fr [(1, .pointer (some ⟨b2, 0, none⟩)), (8, .int .i64 (l : Int)), (9, .pointer (some ⟨((g_ 14).b 0), 0, none⟩)), (110, .agg #[.int .i64 (raroundS a0 (a0.Cells.getD l (default : TCell)).Row (a0.Cells.getD l (default : TCell)).Col).Row, .int .i64 (raroundS a0 (a0.Cells.getD l (default : TCell)).Row (a0.Cells.getD l (default : TCell)).Col).Col, .int .i64 (raroundS a0 (a0.Cells.getD l (default : TCell)).Row (a0.Cells.getD l (default : TCell)).Col).Rows, .int .i64 (raroundS a0 (a0.Cells.getD l (default : TCell)).Row (a0.Cells.getD l (default : TCell)).Col).Cols])] rfl ?_
        generalize ((g_ 14).b 0) = b114 at hS ⊢
        refine An_one0 (i := 15) (by decide +kernel) rfl rfl (S_store hS 0 rfl rfl rfl rfl rfl size33 (one_cons rfl (one_cons rfl (one_cons rfl (one_cons rfl one_nil)))) (Nat.le_of_ble_eq_true rfl) (fun w115 hS => ?_))
        have hS : Sp (FF []) w z w115 [bR b114 33 [.int .i64 (raroundS a0 (a0.Cells.getD l (default : TCell)).Row (a0.Cells.getD l (default : TCell)).Col).Row, .int .i64 (raroundS a0 (a0.Cells.getD l (default : TCell)).Row (a0.Cells.getD l (default : TCell)).Col).Col, .int .i64 (raroundS a0 (a0.Cells.getD l (default : TCell)).Row (a0.Cells.getD l (default : TCell)).Col).Rows, .int .i64 (raroundS a0 (a0.Cells.getD l (default : TCell)).Row (a0.Cells.getD l (default : TCell)).Col).Cols], bR b2 39 [.int .i64 a0.Right, .slice Aa0_Widths a0.Widths.length ca0_Widths, .slice Aa0_Heights a0.Heights.length ca0_Heights, .slice Aa0_Cells a0.Cells.length ca0_Cells, .slice Aa0_Merges a0.Merges.length ca0_Merges]] := hS
        refine An_done (by decide +kernel) ?_
        refine E_then ?_
        refine C_seq ?_
        rcases Bool.eq_false_or_eq_true ((raroundS a0 (a0.Cells.getD l (default : TCell)).Row (a0.Cells.getD l (default : TCell)).Col).Row != (a0.Cells.getD l (default : TCell)).Row) with hg116 | hg116
        ·have _hg116 := trivial
         have hg116p : ¬ (raroundS a0 (a0.Cells.getD l (default : TCell)).Row (a0.Cells.getD l (default : TCell)).Col).Row = (a0.Cells.getD l (default : TCell)).Row := by simpa using hg116
         refine C_fr [(1, .pointer (some ⟨b2, 0, none⟩)), (8, .int .i64 (l : Int)), (9, .pointer (some ⟨b114, 0, none⟩))] rfl ?_
         obtain ⟨q119, csq119, hAq119, rfl, hkq119⟩ := hra0_Cells.at_ (default : TCell) (i := (l : Int)) (by omega) (by omega)
         have hkq119 : ∀ (j_ : Nat) (u_ : Value), ([.int .i64 (a0.Cells.getD l (default : TCell)).Row, .int .i64 (a0.Cells.getD l (default : TCell)).Col, vstr (a0.Cells.getD l (default : TCell)).Text, .int .i64 (a0.Cells.getD l (default : TCell)).Style.Align, .int .i64 (a0.Cells.getD l (default : TCell)).Style.Wrap, .int .i64 (a0.Cells.getD l (default : TCell)).Style.Dir] : List Value)[j_]? = some u_ → cz z (q119.add (l * 6 + j_)) = some u_ := hkq119
         refine C_drawn 20 [[], [0], [], [2], [], [3, 4], [5], [6], [1, 7], [8], [9], [10, 9], [9], [12, 9], [9], [13, 14, 9], [15, 9], [16, 9], [11, 17, 9], [9, 18]] [111, 112, 113, 114, 115, 116, 117, 118, 119, 120, 121, 122, 123, 124, 125, 126, 127, 128, 129, 130] [1, 8, 9] rfl (by kernel_rfl) (by decide +kernel) [fun v_ _ => v_ = .pointer (some ⟨b114, 0, none⟩), fun v_ _ => v_ = .int .i64 (raroundS a0 (a0.Cells.getD l (default : TCell)).Row (a0.Cells.getD l (default : TCell)).Col).Row, fun v_ _ => v_ = .pointer (some ⟨b2, 3, none⟩), fun v_ _ => v_ = .slice Aa0_Cells a0.Cells.length ca0_Cells, fun v_ _ => v_ = .int .i64 (l : Int), fun v_ _ => v_ = .pointer (some (q119.add (l * 6))), fun v_ _ => v_ = .pointer (some ((q119.add (l * 6)).add 0)), fun v_ _ => v_ = .int .i64 (a0.Cells.getD l (default : TCell)).Row, fun v_ _ => v_ = .bool ((raroundS a0 (a0.Cells.getD l (default : TCell)).Row (a0.Cells.getD l (default : TCell)).Col).Row != (a0.Cells.getD l (default : TCell)).Row), fun v_ _ => v_ = .bool ((raroundS a0 (a0.Cells.getD l (default : TCell)).Row (a0.Cells.getD l (default : TCell)).Col).Row != (a0.Cells.getD l (default : TCell)).Row), fun v_ _ => v_ = undef, fun v_ _ => v_ = undef, fun v_ _ => v_ = undef, fun v_ _ => v_ = undef, fun v_ _ => v_ = undef, fun v_ _ => v_ = undef, fun v_ _ => v_ = undef, fun v_ _ => v_ = undef, fun v_ _ => v_ = undef, fun v_ _ => v_ = .bool true] ⟨fun _ _ _ h _ => h, ⟨fun _ _ _ h _ => h, ⟨fun _ _ _ h _ => h, ⟨fun _ _ _ h _ => h, ⟨fun _ _ _ h _ => h, ⟨fun _ _ _ h _ => h, ⟨fun _ _ _ h _ => h, ⟨fun _ _ _ h _ => h, ⟨fun _ _ _ h _ => h, ⟨fun _ _ _ h _ => h, ⟨fun _ _ _ h _ => h, ⟨fun _ _ _ h _ => h, ⟨fun _ _ _ h _ => h, ⟨fun _ _ _ h _ => h, ⟨fun _ _ _ h _ => h, ⟨fun _ _ _ h _ => h, ⟨fun _ _ _ h _ => h, ⟨fun _ _ _ h _ => h, ⟨fun _ _ _ h _ => h, ⟨fun _ _ _ h _ => h, trivial⟩⟩⟩⟩⟩⟩⟩⟩⟩⟩⟩⟩⟩⟩⟩⟩⟩⟩⟩⟩ ⟨fun w117 hc118 => by have hS := hS.chg0 hc118; exact Sv_val rfl (R_fld rfl rfl fld33_0) ⟨Chg.refl _ _, rfl⟩, ⟨fun w117 hc118 => by have hS := hS.chg0 hc118; rintro _ rfl; exact Sv_val rfl (R_load1 rfl rfl agg3 ((hS.bx 0 rfl).cell rfl)) ⟨Chg.refl _ _, rfl⟩, ⟨fun w117 hc118 => by have hS := hS.chg0 hc118; exact Sv_val rfl (R_fld rfl rfl fld39_3) ⟨Chg.refl _ _, rfl⟩, ⟨fun w117 hc118 => by have hS := hS.chg0 hc118; rintro _ rfl; exact Sv_val rfl (R_load1 rfl rfl agg36 ((hS.bx 1 rfl).cell rfl)) ⟨Chg.refl _ _, rfl⟩, ⟨fun w117 hc118 => by have hS := hS.chg0 hc118; exact Sv_val rfl (R_move rfl rfl) ⟨Chg.refl _ _, rfl⟩, ⟨fun w117 hc118 => by have hS := hS.chg0 hc118; rintro _ rfl _ rfl; exact Sv_val rfl (R_idx rfl rfl hAq119 rfl Try.underlying36 size46 (by omega) (by omega)) ⟨Chg.refl _ _, rfl⟩, ⟨fun w117 hc118 => by have hS := hS.chg0 hc118; rintro _ rfl; exact Sv_val rfl (R_fld rfl rfl fld46_0) ⟨Chg.refl _ _, rfl⟩, ⟨fun w117 hc118 => by have hS := hS.chg0 hc118; rintro _ rfl; exact Sv_val rfl (R_load1 rfl rfl agg3 (cell_add (hS.sub.cell (hkq119 0 _ rfl)))) ⟨Chg.refl _ _, rfl⟩, ⟨fun w117 hc118 => by have hS := hS.chg0 hc118; rintro _ rfl _ rfl; exact Sv_val rfl (R_bin rfl rfl rfl rfl rfl) ⟨Chg.refl _ _, rfl⟩, ⟨fun w117 hc118 => by have hS := hS.chg0 hc118; rintro _ rfl; exact Sv_val rfl (R_move rfl rfl) ⟨Chg.refl _ _, rfl⟩, ⟨fun w117 hc118 => by have hS := hS.chg0 hc118; rintro _ rfl; exact Sv_off rfl rfl rfl (by rw [hg116]; rfl) ⟨Chg.refl _ _, rfl⟩, ⟨fun w117 hc118 => by have hS := hS.chg0 hc118; rintro _ rfl _ rfl; exact Sv_off rfl rfl rfl (by rw [hg116]; rfl) ⟨Chg.refl _ _, rfl⟩, ⟨fun w117 hc118 => by have hS := hS.chg0 hc118; rintro _ rfl; exact Sv_off rfl rfl rfl (by rw [hg116]; rfl) ⟨Chg.refl _ _, rfl⟩, ⟨fun w117 hc118 => by have hS := hS.chg0 hc118; rintro _ rfl _ rfl; exact Sv_off rfl rfl rfl (by rw [hg116]; rfl) ⟨Chg.refl _ _, rfl⟩, ⟨fun w117 hc118 => by have hS := hS.chg0 hc118; rintro _ rfl; exact Sv_off rfl rfl rfl (by rw [hg116]; rfl) ⟨Chg.refl _ _, rfl⟩, ⟨fun w117 hc118 => by have hS := hS.chg0 hc118; rintro _ rfl _ rfl _ rfl; exact Sv_off rfl rfl rfl (by rw [hg116]; rfl) ⟨Chg.refl _ _, rfl⟩, ⟨fun w117 hc118 => by have hS := hS.chg0 hc118; rintro _ rfl _ rfl; exact Sv_off rfl rfl rfl (by rw [hg116]; rfl) ⟨Chg.refl _ _, rfl⟩, ⟨fun w117 hc118 => by have hS := hS.chg0 hc118; rintro _ rfl _ rfl; exact Sv_off rfl rfl rfl (by rw [hg116]; rfl) ⟨Chg.refl _ _, rfl⟩, ⟨fun w117 hc118 => by have hS := hS.chg0 hc118; rintro _ rfl _ rfl _ rfl; exact Sv_off rfl rfl rfl (by rw [hg116]; rfl) ⟨Chg.refl _ _, rfl⟩, ⟨fun w117 hc118 => by have hS := hS.chg0 hc118; rintro _ rfl _ rfl; exact Sv_val rfl (R_pick_t rfl rfl hg116 rfl) ⟨Chg.refl _ _, rfl⟩, trivial⟩⟩⟩⟩⟩⟩⟩⟩⟩⟩⟩⟩⟩⟩⟩⟩⟩⟩⟩⟩ ?_
         intro w117 hc118
         have hS := hS.chg0 hc118
         rintro _ rfl _ rfl _ rfl _ rfl _ rfl _ rfl _ rfl _ rfl _ rfl _ rfl _ rfl _ rfl _ rfl _ rfl _ rfl _ rfl _ rfl _ rfl _ rfl _ rfl
         refine An_fr [(1, .pointer (some ⟨b2, 0, none⟩)), (8, .int .i64 (l : Int)), (130, .bool true)] rfl ?_
         refine An_done (by decide +kernel) ?_
         refine E_then ?_
         refine C_if rfl rfl ?_
         refine C_seq ?_
         refine C_region ?_
         refine W_cons rfl (by decide) (Sv_val rfl (R_assign rfl rfl) ?_)
         refine W_nil ?_
         refine E_then ?_
         refine C_ret ?_
         refine E_block_ret ?_
         refine E_then_ret ?_
         refine E_then_ret ?_
         refine E_block_ret ?_
         refine E_then_ret ?_
         refine E_ret1 rfl rfl ?_
         exact ⟨Lret1 (Lint (show 6 = rcheckSh a0 by first | exact rck3 (by assumption) | exact rck1 (by assumption) (by assumption) | exact rck0 (by assumption) (by assumption) (i := i) (by omega) hI0_1 (j := j) (by omega) hI1_1 (k := k) (by omega) (by omega) hI2_1 (l := l) (by omega) hI4_1 | exact rck6 (by assumption) (by assumption) (i := i) (by omega) hI0_1 (j := j) (by omega) hI1_1 (k := k) (by omega) (by omega) hI2_1 (l := l) (by omega) (by unfold runderS; simp_all) | exact rck5 (by assumption) (by assumption) (i := i) (by omega) hI0_1 (j := j) (by omega) hI1_1 (k := k) (l := m) (by omega) (by omega) (by assumption) | exact rck4m (by assumption) (by assumption) (i := i) (by omega) hI0_1 (j := j) (by omega) (by assumption) | exact rck4 (by assumption) (by assumption) (i := i) (by omega) (by unfold rfarS; simp_all))), hS.fin [] (by decide) rfl⟩
        ·have _hg116 := trivial
         have hg116p : (raroundS a0 (a0.Cells.getD l (default : TCell)).Row (a0.Cells.getD l (default : TCell)).Col).Row = (a0.Cells.getD l (default : TCell)).Row := by simpa using hg116
         refine C_fr [(1, .pointer (some ⟨b2, 0, none⟩)), (8, .int .i64 (l : Int)), (9, .pointer (some ⟨b114, 0, none⟩))] rfl ?_
         obtain ⟨q122, csq122, hAq122, rfl, hkq122⟩ := hra0_Cells.at_ (default : TCell) (i := (l : Int)) (by omega) (by omega)
         have hkq122 : ∀ (j_ : Nat) (u_ : Value), ([.int .i64 (a0.Cells.getD l (default : TCell)).Row, .int .i64 (a0.Cells.getD l (default : TCell)).Col, vstr (a0.Cells.getD l (default : TCell)).Text, .int .i64 (a0.Cells.getD l (default : TCell)).Style.Align, .int .i64 (a0.Cells.getD l (default : TCell)).Style.Wrap, .int .i64 (a0.Cells.getD l (default : TCell)).Style.Dir] : List Value)[j_]? = some u_ → cz z (q122.add (l * 6 + j_)) = some u_ := hkq122
         obtain ⟨q123, csq123, hAq123, rfl, hkq123⟩ := hra0_Cells.at_ (default : TCell) (i := (l : Int)) (by omega) (by omega)
         have hkq123 : ∀ (j_ : Nat) (u_ : Value), ([.int .i64 (a0.Cells.getD l (default : TCell)).Row, .int .i64 (a0.Cells.getD l (default : TCell)).Col, vstr (a0.Cells.getD l (default : TCell)).Text, .int .i64 (a0.Cells.getD l (default : TCell)).Style.Align, .int .i64 (a0.Cells.getD l (default : TCell)).Style.Wrap, .int .i64 (a0.Cells.getD l (default : TCell)).Style.Dir] : List Value)[j_]? = some u_ → cz z (q123.add (l * 6 + j_)) = some u_ := hkq123
         refine C_drawn 20 [[], [0], [], [2], [], [3, 4], [5], [6], [1, 7], [8], [9], [10, 9], [9], [12, 9], [9], [13, 14, 9], [15, 9], [16, 9], [11, 17, 9], [9, 18]] [111, 112, 113, 114, 115, 116, 117, 118, 119, 120, 121, 122, 123, 124, 125, 126, 127, 128, 129, 130] [1, 8, 9] rfl (by kernel_rfl) (by decide +kernel) [fun v_ _ => v_ = .pointer (some ⟨b114, 0, none⟩), fun v_ _ => v_ = .int .i64 (raroundS a0 (a0.Cells.getD l (default : TCell)).Row (a0.Cells.getD l (default : TCell)).Col).Row, fun v_ _ => v_ = .pointer (some ⟨b2, 3, none⟩), fun v_ _ => v_ = .slice Aa0_Cells a0.Cells.length ca0_Cells, fun v_ _ => v_ = .int .i64 (l : Int), fun v_ _ => v_ = .pointer (some (q122.add (l * 6))), fun v_ _ => v_ = .pointer (some ((q122.add (l * 6)).add 0)), fun v_ _ => v_ = .int .i64 (a0.Cells.getD l (default : TCell)).Row, fun v_ _ => v_ = .bool ((raroundS a0 (a0.Cells.getD l (default : TCell)).Row (a0.Cells.getD l (default : TCell)).Col).Row != (a0.Cells.getD l (default : TCell)).Row), fun v_ _ => v_ = .bool ((raroundS a0 (a0.Cells.getD l (default : TCell)).Row (a0.Cells.getD l (default : TCell)).Col).Row != (a0.Cells.getD l (default : TCell)).Row), fun v_ _ => v_ = .pointer (some ⟨b114, 1, none⟩), fun v_ _ => v_ = .int .i64 (raroundS a0 (a0.Cells.getD l (default : TCell)).Row (a0.Cells.getD l (default : TCell)).Col).Col, fun v_ _ => v_ = .pointer (some ⟨b2, 3, none⟩), fun v_ _ => v_ = .slice Aa0_Cells a0.Cells.length ca0_Cells, fun v_ _ => v_ = .int .i64 (l : Int), fun v_ _ => v_ = .pointer (some (q123.add (l * 6))), fun v_ _ => v_ = .pointer (some ((q123.add (l * 6)).add 1)), fun v_ _ => v_ = .int .i64 (a0.Cells.getD l (default : TCell)).Col, fun v_ _ => v_ = .bool ((raroundS a0 (a0.Cells.getD l (default : TCell)).Row (a0.Cells.getD l (default : TCell)).Col).Col != (a0.Cells.getD l (default : TCell)).Col), fun v_ _ => v_ = .bool ((raroundS a0 (a0.Cells.getD l (default : TCell)).Row (a0.Cells.getD l (default : TCell)).Col).Col != (a0.Cells.getD l (default : TCell)).Col)] ⟨fun _ _ _ h _ => h, ⟨fun _ _ _ h _ => h, ⟨fun _ _ _ h _ => h, ⟨fun _ _ _ h _ => h, ⟨fun _ _ _ h _ => h, ⟨fun _ _ _ h _ => h, ⟨fun _ _ _ h _ => h, ⟨fun _ _ _ h _ => h, ⟨fun _ _ _ h _ => h, ⟨fun _ _ _ h _ => h, ⟨fun _ _ _ h _ => h, ⟨fun _ _ _ h _ => h, ⟨fun _ _ _ h _ => h, ⟨fun _ _ _ h _ => h, ⟨fun _ _ _ h _ => h, ⟨fun _ _ _ h _ => h, ⟨fun _ _ _ h _ => h, ⟨fun _ _ _ h _ => h, ⟨fun _ _ _ h _ => h, ⟨fun _ _ _ h _ => h, trivial⟩⟩⟩⟩⟩⟩⟩⟩⟩⟩⟩⟩⟩⟩⟩⟩⟩⟩⟩⟩ ⟨fun w120 hc121 => by have hS := hS.chg0 hc121; exact Sv_val rfl (R_fld rfl rfl fld33_0) ⟨Chg.refl _ _, rfl⟩, ⟨fun w120 hc121 => by have hS := hS.chg0 hc121; rintro _ rfl; exact Sv_val rfl (R_load1 rfl rfl agg3 ((hS.bx 0 rfl).cell rfl)) ⟨Chg.refl _ _, rfl⟩, ⟨fun w120 hc121 => by have hS := hS.chg0 hc121; exact Sv_val rfl (R_fld rfl rfl fld39_3) ⟨Chg.refl _ _, rfl⟩, ⟨fun w120 hc121 => by have hS := hS.chg0 hc121; rintro _ rfl; exact Sv_val rfl (R_load1 rfl rfl agg36 ((hS.bx 1 rfl).cell rfl)) ⟨Chg.refl _ _, rfl⟩, ⟨fun w120 hc121 => by have hS := hS.chg0 hc121; exact Sv_val rfl (R_move rfl rfl) ⟨Chg.refl _ _, rfl⟩, ⟨fun w120 hc121 => by have hS := hS.chg0 hc121; rintro _ rfl _ rfl; exact Sv_val rfl (R_idx rfl rfl hAq122 rfl Try.underlying36 size46 (by omega) (by omega)) ⟨Chg.refl _ _, rfl⟩, ⟨fun w120 hc121 => by have hS := hS.chg0 hc121; rintro _ rfl; exact Sv_val rfl (R_fld rfl rfl fld46_0) ⟨Chg.refl _ _, rfl⟩, ⟨fun w120 hc121 => by have hS := hS.chg0 hc121; rintro _ rfl; exact Sv_val rfl (R_load1 rfl rfl agg3 (cell_add (hS.sub.cell (hkq122 0 _ rfl)))) ⟨Chg.refl _ _, rfl⟩, ⟨fun w120 hc121 => by have hS := hS.chg0 hc121; rintro _ rfl _ rfl; exact Sv_val rfl (R_bin rfl rfl rfl rfl rfl) ⟨Chg.refl _ _, rfl⟩, ⟨fun w120 hc121 => by have hS := hS.chg0 hc121; rintro _ rfl; exact Sv_val rfl (R_move rfl rfl) ⟨Chg.refl _ _, rfl⟩, ⟨fun w120 hc121 => by have hS := hS.chg0 hc121; rintro _ rfl; exact  (Sv_gt rfl rfl rfl hg116 (Sv_val rfl (R_fld rfl rfl fld33_1) ⟨Chg.refl _ _, rfl⟩)), ⟨fun w120 hc121 => by have hS := hS.chg0 hc121; rintro _ rfl _ rfl; exact  (Sv_gt rfl rfl rfl hg116 (Sv_val rfl (R_load1 rfl rfl agg3 ((hS.bx 0 rfl).cell rfl)) ⟨Chg.refl _ _, rfl⟩)), ⟨fun w120 hc121 => by have hS := hS.chg0 hc121; rintro _ rfl; exact  (Sv_gt rfl rfl rfl hg116 (Sv_val rfl (R_fld rfl rfl fld39_3) ⟨Chg.refl _ _, rfl⟩)), ⟨fun w120 hc121 => by have hS := hS.chg0 hc121; rintro _ rfl _ rfl; exact  (Sv_gt rfl rfl rfl hg116 (Sv_val rfl (R_load1 rfl rfl agg36 ((hS.bx 1 rfl).cell rfl)) ⟨Chg.refl _ _, rfl⟩)), ⟨fun w120 hc121 => by have hS := hS.chg0 hc121; rintro _ rfl; exact  (Sv_gt rfl rfl rfl hg116 (Sv_val rfl (R_move rfl rfl) ⟨Chg.refl _ _, rfl⟩)), ⟨fun w120 hc121 => by have hS := hS.chg0 hc121; rintro _ rfl _ rfl _ rfl; exact  (Sv_gt rfl rfl rfl hg116 (Sv_val rfl (R_idx rfl rfl hAq123 rfl Try.underlying36 size46 (by omega) (by omega)) ⟨Chg.refl _ _, rfl⟩)), ⟨fun w120 hc121 => by have hS := hS.chg0 hc121; rintro _ rfl _ rfl; exact  (Sv_gt rfl rfl rfl hg116 (Sv_val rfl (R_fld rfl rfl fld46_1) ⟨Chg.refl _ _, rfl⟩)), ⟨fun w120 hc121 => by have hS := hS.chg0 hc121; rintro _ rfl _ rfl; exact  (Sv_gt rfl rfl rfl hg116 (Sv_val rfl (R_load1 rfl rfl agg3 (cell_add (hS.sub.cell (hkq123 1 _ rfl)))) ⟨Chg.refl _ _, rfl⟩)), ⟨fun w120 hc121 => by have hS := hS.chg0 hc121; rintro _ rfl _ rfl _ rfl; exact  (Sv_gt rfl rfl rfl hg116 (Sv_val rfl (R_bin rfl rfl rfl rfl rfl) ⟨Chg.refl _ _, rfl⟩)), ⟨fun w120 hc121 => by have hS := hS.chg0 hc121; rintro _ rfl _ rfl; exact Sv_val rfl (R_pick_f rfl rfl hg116 rfl) ⟨Chg.refl _ _, rfl⟩, trivial⟩⟩⟩⟩⟩⟩⟩⟩⟩⟩⟩⟩⟩⟩⟩⟩⟩⟩⟩⟩ ?_
         intro w120 hc121
         have hS := hS.chg0 hc121
         rintro _ rfl _ rfl _ rfl _ rfl _ rfl _ rfl _ rfl _ rfl _ rfl _ rfl _ rfl _ rfl _ rfl _ rfl _ rfl _ rfl _ rfl _ rfl _ rfl _ rfl
         refine An_fr [(1, .pointer (some ⟨b2, 0, none⟩)), (8, .int .i64 (l : Int)), (130, .bool ((raroundS a0 (a0.Cells.getD l (default : TCell)).Row (a0.Cells.getD l (default : TCell)).Col).Col != (a0.Cells.getD l (default : TCell)).Col))] rfl ?_
         refine An_done (by decide +kernel) ?_
         refine E_then ?_
         refine C_ite rfl (fun hC10 => ?_) (fun hC10 => ?_)
         ·have _hC10 := trivial
          have hC10p : ¬ (raroundS a0 (a0.Cells.getD l (default : TCell)).Row (a0.Cells.getD l (default : TCell)).Col).Col = (a0.Cells.getD l (default : TCell)).Col := by simpa using hC10
          refine C_seq ?_
          refine C_region ?_
          refine W_cons rfl (by decide) (Sv_val rfl (R_assign rfl rfl) ?_)
          refine W_nil ?_
          refine E_then ?_
          refine C_ret ?_
          refine E_block_ret ?_
          refine E_then_ret ?_
          refine E_then_ret ?_
          refine E_block_ret ?_
          refine E_then_ret ?_
          refine E_ret1 rfl rfl ?_
          exact ⟨Lret1 (Lint (show 6 = rcheckSh a0 by first | exact rck3 (by assumption) | exact rck1 (by assumption) (by assumption) | exact rck0 (by assumption) (by assumption) (i := i) (by omega) hI0_1 (j := j) (by omega) hI1_1 (k := k) (by omega) (by omega) hI2_1 (l := l) (by omega) hI4_1 | exact rck6 (by assumption) (by assumption) (i := i) (by omega) hI0_1 (j := j) (by omega) hI1_1 (k := k) (by omega) (by omega) hI2_1 (l := l) (by omega) (by unfold runderS; simp_all) | exact rck5 (by assumption) (by assumption) (i := i) (by omega) hI0_1 (j := j) (by omega) hI1_1 (k := k) (l := m) (by omega) (by omega) (by assumption) | exact rck4m (by assumption) (by assumption) (i := i) (by omega) hI0_1 (j := j) (by omega) (by assumption) | exact rck4 (by assumption) (by assumption) (i := i) (by omega) (by unfold rfarS; simp_all))), hS.fin [] (by decide) rfl⟩
         ·have _hC10 := trivial
          have hC10p : (raroundS a0 (a0.Cells.getD l (default : TCell)).Row (a0.Cells.getD l (default : TCell)).Col).Col = (a0.Cells.getD l (default : TCell)).Col := by simpa using hC10
          refine C_skip ?_
          refine E_block_normal ?_
          refine E_then ?_
          refine C_region ?_
          refine W_cons rfl (by decide) (Sv_val rfl (R_move rfl rfl) ?_)
          refine W_cons rfl (by decide) (Sv_val rfl (R_add64 rfl rfl rfl (by omega) (by omega)) ?_)
          refine W_cons rfl (by decide) (Sv_val rfl (R_assign rfl rfl) ?_)
          refine W_nil ?_
          refine E_round [1, 8] ?_ ⟨(l + 1 : Nat), rfl, (by omega), (by exact any_step (p := runderS a0) default (by omega) hI4_1 (by unfold runderS; simp_all)), rfl, hS.fin [1] (by decide) rfl⟩
          omega
      ·have _hC9 := trivial
       have hC9p : ¬ ((l : Int) < (a0.Cells.length : Int)) := by simpa using hC9
       refine C_exit ?_
       refine E_then_exit ?_
       refine E_then_exit ?_
       refine E_block_hit ?_
       refine E_then (C_fr [] rfl ?_)
       refine C_seq ?_
       refine C_region ?_
       refine W_cons rfl (by decide) (Sv_val rfl (R_assign rfl rfl) ?_)
       refine W_nil ?_
       refine E_then ?_
       refine C_ret ?_
       refine E_ret1 rfl rfl ?_
       exact ⟨Lret1 (Lint (show 0 = rcheckSh a0 by first | exact rck3 (by assumption) | exact rck1 (by assumption) (by assumption) | exact rck0 (by assumption) (by assumption) (i := i) (by omega) hI0_1 (j := j) (by omega) hI1_1 (k := k) (by omega) (by omega) hI2_1 (l := l) (by omega) hI4_1 | exact rck6 (by assumption) (by assumption) (i := i) (by omega) hI0_1 (j := j) (by omega) hI1_1 (k := k) (by omega) (by omega) hI2_1 (l := l) (by omega) (by unfold runderS; simp_all) | exact rck5 (by assumption) (by assumption) (i := i) (by omega) hI0_1 (j := j) (by omega) hI1_1 (k := k) (l := m) (by omega) (by omega) (by assumption) | exact rck4m (by assumption) (by assumption) (i := i) (by omega) hI0_1 (j := j) (by omega) (by assumption) | exact rck4 (by assumption) (by assumption) (i := i) (by omega) (by unfold rfarS; simp_all))), hS.fin [] (by decide) rfl⟩

set_option maxHeartbeats 400000 in
set_option maxRecDepth 20000 in
theorem rregion_calls (a0 : TSheet) (Aa0_Widths : Option Addr) (ca0_Widths : Nat) (Aa0_Heights : Option Addr) (ca0_Heights : Nat) (Aa0_Cells : Option Addr) (ca0_Cells : Nat) (Aa0_Merges : Option Addr) (ca0_Merges : Nat) (a1 : Int) (a2 : Int) (z : Z) (w : World) (hI : In z w []) (hra0_Widths : Rd (kint .i64) z Aa0_Widths a0.Widths) (hca0_Widths : Cap Aa0_Widths a0.Widths.length ca0_Widths) (hra0_Heights : Rd (kint .i64) z Aa0_Heights a0.Heights) (hca0_Heights : Cap Aa0_Heights a0.Heights.length ca0_Heights) (hra0_Cells : Rd kdTCell z Aa0_Cells a0.Cells) (hca0_Cells : Cap Aa0_Cells a0.Cells.length ca0_Cells) (hra0_Merges : Rd kdTRect z Aa0_Merges a0.Merges) (hca0_Merges : Cap Aa0_Merges a0.Merges.length ca0_Merges)  :
    Calls Try.prog 32 #[.agg #[.int .i64 a0.Right, .slice Aa0_Widths a0.Widths.length ca0_Widths, .slice Aa0_Heights a0.Heights.length ca0_Heights, .slice Aa0_Cells a0.Cells.length ca0_Cells, .slice Aa0_Merges a0.Merges.length ca0_Merges], .int .i64 a1, .int .i64 a2] w fun e w' => e = .returned (.tuple #[.agg #[.int .i64 (rregionS a0 a1 a2).1.Row, .int .i64 (rregionS a0 a1 a2).1.Col, .int .i64 (rregionS a0 a1 a2).1.Rows, .int .i64 (rregionS a0 a1 a2).1.Cols], .int .i64 (rregionS a0 a1 a2).2]) ∧ Sp (FF []) w z w' [] := by
 have hla0_Widths := hca0_Widths.le
 have hma0_Widths := hca0_Widths.mx
 have hla0_Heights := hca0_Heights.le
 have hma0_Heights := hca0_Heights.mx
 have hla0_Cells := hca0_Cells.le
 have hma0_Cells := hca0_Cells.mx
 have hla0_Merges := hca0_Merges.le
 have hma0_Merges := hca0_Merges.mx
 have hS := hI.sp
 refine Calls_of (vs := [.agg #[.int .i64 a0.Right, .slice Aa0_Widths a0.Widths.length ca0_Widths, .slice Aa0_Heights a0.Heights.length ca0_Heights, .slice Aa0_Cells a0.Cells.length ca0_Cells, .slice Aa0_Merges a0.Merges.length ca0_Merges], .int .i64 a1, .int .i64 a2]) (N := 37) Try.func32 rfl rfl (Nat.le_of_ble_eq_true rfl) ?_
 refine C_seq ?_
 refine C_region ?_
 refine W_cons rfl (by decide) (S_box hS rfl (R_box (cs := [.int .i64 a0.Right, .slice Aa0_Widths a0.Widths.length ca0_Widths, .slice Aa0_Heights a0.Heights.length ca0_Heights, .slice Aa0_Cells a0.Cells.length ca0_Cells, .slice Aa0_Merges a0.Merges.length ca0_Merges]) rfl rfl rfl) (fun b2 w1 hS => ?_))
 refine W_cons rfl (by decide) (S_box hS rfl (R_alloc rfl alloc33) (fun b4 w3 hS => ?_))
 refine W_cons rfl (by decide) (Sv_val rfl (R_assign rfl rfl) ?_)
 refine W_nil ?_
 refine E_then ?_
 refine C_seq ?_
 refine C_seq ?_
 refine C_region ?_
 refine W_cons rfl (by decide) (Sv_val rfl (R_loadN (cs := [.int .i64 a0.Right, .slice Aa0_Widths a0.Widths.length ca0_Widths, .slice Aa0_Heights a0.Heights.length ca0_Heights, .slice Aa0_Cells a0.Cells.length ca0_Cells, .slice Aa0_Merges a0.Merges.length ca0_Merges]) rfl rfl agg39 size39 rfl (boxcells (hS.bx 1 rfl) 0 rfl)) ?_)
 refine W_cons rfl (by decide) (Sv_call rfl rfl rfl ent54 ?_)
 refine (rcheck_calls a0 Aa0_Widths ca0_Widths Aa0_Heights ca0_Heights Aa0_Cells ca0_Cells Aa0_Merges ca0_Merges _ _ hS.out0 (hra0_Widths.mono (hS.zl [])) hca0_Widths (hra0_Heights.mono (hS.zl [])) hca0_Heights (hra0_Cells.mono (hS.zl [])) hca0_Cells (hra0_Merges.mono (hS.zl [])) hca0_Merges ).mono ?_
 rintro e_ w5 ⟨rfl, hS_⟩
 refine ⟨_, rfl, ?_⟩
 have hS := hS.call0 hS_
 refine W_cons rfl (by decide) (Sv_val rfl (R_bin rfl rfl rfl rfl rfl) ?_)
 refine W_nil ?_
 refine E_then ?_
 refine C_ite rfl (fun hC0 => ?_) (fun hC0 => ?_)
 ·have _hC0 := trivial
  have hC0p : ¬ (rcheckSh a0) = 0 := by simpa using hC0
  refine C_seq ?_
  refine C_region ?_
  refine W_cons rfl (by decide) (Sv_val rfl (R_build (w' := w5) (ps := []) (vs := []) (r := .agg #[.int .i64 0, .int .i64 0, .int .i64 0, .int .i64 0]) rfl rfl rfl (by kernel_rfl)) ?_)
  refine W_cons0 rfl (S_store hS 0 rfl rfl rfl rfl rfl size33 (one_cons rfl (one_cons rfl (one_cons rfl (one_cons rfl one_nil)))) (Nat.le_of_ble_eq_true rfl) (fun w7 hS => ?_))
  have hS : Sp (FF []) w z w7 [bR b4 33 [.int .i64 0, .int .i64 0, .int .i64 0, .int .i64 0], bR b2 39 [.int .i64 a0.Right, .slice Aa0_Widths a0.Widths.length ca0_Widths, .slice Aa0_Heights a0.Heights.length ca0_Heights, .slice Aa0_Cells a0.Cells.length ca0_Cells, .slice Aa0_Merges a0.Merges.length ca0_Merges]] := hS
  refine W_cons rfl (by decide) (Sv_val rfl (R_assign rfl rfl) ?_)
  refine W_nil ?_
  refine E_then (C_fr [(6, .pointer (some ⟨b4, 0, none⟩)), (7, .int .i64 1)] rfl ?_)
  refine C_ret ?_
  refine E_then_ret ?_
  refine E_rv2 rfl (RV_cellN (cs := [.int .i64 0, .int .i64 0, .int .i64 0, .int .i64 0]) rfl agg33 size33 rfl (boxcells (hS.bx 0 rfl) 0 rfl)) (RV_tmp rfl) ?_
  exact ⟨Lret2 (show (.agg #[.int .i64 0, .int .i64 0, .int .i64 0, .int .i64 0] : Value) = .agg #[.int .i64 (rregionS a0 a1 a2).1.Row, .int .i64 (rregionS a0 a1 a2).1.Col, .int .i64 (rregionS a0 a1 a2).1.Rows, .int .i64 (rregionS a0 a1 a2).1.Cols] by first | (unfold rregionS; simp_all; done) | (unfold rregionS; simp_all; omega) | (rw [rreg_bad (by omega)] <;> rfl) | (rw [rreg_far (by omega) (by omega)] <;> rfl) | (rw [rreg_ok (by omega) (by omega)] <;> rfl)) (Lint (show 1 = (rregionS a0 a1 a2).2 by first | (unfold rregionS; simp_all; done) | (unfold rregionS; simp_all; omega) | (rw [rreg_bad (by omega)] <;> rfl) | (rw [rreg_far (by omega) (by omega)] <;> rfl) | (rw [rreg_ok (by omega) (by omega)] <;> rfl))), hS.fin [] (by decide) rfl⟩
 ·have _hC0 := trivial
  have hC0p : (rcheckSh a0) = 0 := by simpa using hC0
  refine C_skip ?_
  refine E_then (C_fr [(1, .int .i64 a1), (2, .int .i64 a2), (3, .pointer (some ⟨b2, 0, none⟩)), (6, .pointer (some ⟨b4, 0, none⟩))] rfl ?_)
  refine C_seq ?_
  refine C_seq ?_
  refine C_region ?_
  refine W_cons rfl (by decide) (Sv_val rfl (R_move rfl rfl) ?_)
  refine W_cons rfl (by decide) (Sv_val rfl (R_bin rfl rfl rfl rfl rfl) ?_)
  refine W_cons rfl (by decide) (Sv_val rfl (R_move rfl rfl) ?_)
  refine W_split (t := 14) rfl (fun hg8 => ?_) (fun hg8 => ?_)
  ·have _hg8 := trivial
   have hg8p : a1 < 0 := by simpa using hg8
   refine W_cons rfl (by decide) (Sv_off rfl rfl rfl (by rw [hg8] <;> rfl) ?_)
   refine W_cons rfl (by decide) (Sv_off rfl rfl rfl (by rw [hg8] <;> rfl) ?_)
   refine W_cons rfl (by decide) (Sv_val rfl (R_pick_t rfl rfl hg8 rfl) ?_)
   refine W_cons rfl (by decide) (Sv_val rfl (R_move rfl rfl) ?_)
   refine W_cons rfl (by decide) (Sv_off rfl rfl rfl rfl ?_)
   refine W_cons rfl (by decide) (Sv_off rfl rfl rfl rfl ?_)
   refine W_cons rfl (by decide) (Sv_off rfl rfl rfl rfl ?_)
   refine W_cons rfl (by decide) (Sv_off rfl rfl rfl rfl ?_)
   refine W_cons rfl (by decide) (Sv_off rfl rfl rfl rfl ?_)
   refine W_cons rfl (by decide) (Sv_val rfl (R_pick_t rfl rfl rfl rfl) ?_)
   refine W_cons rfl (by decide) (Sv_val rfl (R_move rfl rfl) ?_)
   refine W_cons rfl (by decide) (Sv_off rfl rfl rfl rfl ?_)
   refine W_cons rfl (by decide) (Sv_off rfl rfl rfl rfl ?_)
   refine W_cons rfl (by decide) (Sv_off rfl rfl rfl rfl ?_)
   refine W_cons rfl (by decide) (Sv_off rfl rfl rfl rfl ?_)
   refine W_cons rfl (by decide) (Sv_off rfl rfl rfl rfl ?_)
   refine W_cons rfl (by decide) (Sv_val rfl (R_pick_t rfl rfl rfl rfl) ?_)
   refine W_nil ?_
   refine E_then (C_fr [(1, .int .i64 a1), (2, .int .i64 a2), (3, .pointer (some ⟨b2, 0, none⟩)), (6, .pointer (some ⟨b4, 0, none⟩)), (31, .bool true)] rfl ?_)
   refine C_if rfl rfl ?_
   refine C_seq ?_
   refine C_region ?_
   refine W_cons rfl (by decide) (Sv_val rfl (R_build (w' := w5) (ps := []) (vs := []) (r := .agg #[.int .i64 0, .int .i64 0, .int .i64 0, .int .i64 0]) rfl rfl rfl (by kernel_rfl)) ?_)
   refine W_cons0 rfl (S_store hS 0 rfl rfl rfl rfl rfl size33 (one_cons rfl (one_cons rfl (one_cons rfl (one_cons rfl one_nil)))) (Nat.le_of_ble_eq_true rfl) (fun w9 hS => ?_))
   have hS : Sp (FF []) w z w9 [bR b4 33 [.int .i64 0, .int .i64 0, .int .i64 0, .int .i64 0], bR b2 39 [.int .i64 a0.Right, .slice Aa0_Widths a0.Widths.length ca0_Widths, .slice Aa0_Heights a0.Heights.length ca0_Heights, .slice Aa0_Cells a0.Cells.length ca0_Cells, .slice Aa0_Merges a0.Merges.length ca0_Merges]] := hS
   refine W_cons rfl (by decide) (Sv_val rfl (R_assign rfl rfl) ?_)
   refine W_nil ?_
   refine E_then (C_fr [(6, .pointer (some ⟨b4, 0, none⟩)), (7, .int .i64 4)] rfl ?_)
   refine C_ret ?_
   refine E_then_ret ?_
   refine E_rv2 rfl (RV_cellN (cs := [.int .i64 0, .int .i64 0, .int .i64 0, .int .i64 0]) rfl agg33 size33 rfl (boxcells (hS.bx 0 rfl) 0 rfl)) (RV_tmp rfl) ?_
   exact ⟨Lret2 (show (.agg #[.int .i64 0, .int .i64 0, .int .i64 0, .int .i64 0] : Value) = .agg #[.int .i64 (rregionS a0 a1 a2).1.Row, .int .i64 (rregionS a0 a1 a2).1.Col, .int .i64 (rregionS a0 a1 a2).1.Rows, .int .i64 (rregionS a0 a1 a2).1.Cols] by first | (unfold rregionS; simp_all; done) | (unfold rregionS; simp_all; omega) | (rw [rreg_bad (by omega)] <;> rfl) | (rw [rreg_far (by omega) (by omega)] <;> rfl) | (rw [rreg_ok (by omega) (by omega)] <;> rfl)) (Lint (show 4 = (rregionS a0 a1 a2).2 by first | (unfold rregionS; simp_all; done) | (unfold rregionS; simp_all; omega) | (rw [rreg_bad (by omega)] <;> rfl) | (rw [rreg_far (by omega) (by omega)] <;> rfl) | (rw [rreg_ok (by omega) (by omega)] <;> rfl))), hS.fin [] (by decide) rfl⟩
  ·have _hg8 := trivial
   have hg8p : ¬ (a1 < 0) := by simpa using hg8
   refine W_cons rfl (by decide) (Sv_gt rfl rfl rfl hg8 (Sv_val rfl (R_move rfl rfl) ?_))
   refine W_cons rfl (by decide) (Sv_gt rfl rfl rfl hg8 (Sv_val rfl (R_bin rfl rfl rfl rfl rfl) ?_))
   refine W_cons rfl (by decide) (Sv_val rfl (R_pick_f rfl rfl hg8 rfl) ?_)
   refine W_cons rfl (by decide) (Sv_val rfl (R_move rfl rfl) ?_)
   refine W_split (t := 18) rfl (fun hg10 => ?_) (fun hg10 => ?_)
   ·have _hg10 := trivial
    have hg10p : a2 < 0 := by simpa using hg10
    refine W_cons rfl (by decide) (Sv_off rfl rfl rfl (by rw [hg10] <;> rfl) ?_)
    refine W_cons rfl (by decide) (Sv_off rfl rfl rfl (by rw [hg10] <;> rfl) ?_)
    refine W_cons rfl (by decide) (Sv_off rfl rfl rfl (by rw [hg10] <;> rfl) ?_)
    refine W_cons rfl (by decide) (Sv_off rfl rfl rfl (by rw [hg10] <;> rfl) ?_)
    refine W_cons rfl (by decide) (Sv_off rfl rfl rfl (by rw [hg10] <;> rfl) ?_)
    refine W_cons rfl (by decide) (Sv_val rfl (R_pick_t rfl rfl hg10 rfl) ?_)
    refine W_cons rfl (by decide) (Sv_val rfl (R_move rfl rfl) ?_)
    refine W_cons rfl (by decide) (Sv_off rfl rfl rfl rfl ?_)
    refine W_cons rfl (by decide) (Sv_off rfl rfl rfl rfl ?_)
    refine W_cons rfl (by decide) (Sv_off rfl rfl rfl rfl ?_)
    refine W_cons rfl (by decide) (Sv_off rfl rfl rfl rfl ?_)
    refine W_cons rfl (by decide) (Sv_off rfl rfl rfl rfl ?_)
    refine W_cons rfl (by decide) (Sv_val rfl (R_pick_t rfl rfl rfl rfl) ?_)
    refine W_nil ?_
    refine E_then (C_fr [(1, .int .i64 a1), (2, .int .i64 a2), (3, .pointer (some ⟨b2, 0, none⟩)), (6, .pointer (some ⟨b4, 0, none⟩)), (31, .bool true)] rfl ?_)
    refine C_if rfl rfl ?_
    refine C_seq ?_
    refine C_region ?_
    refine W_cons rfl (by decide) (Sv_val rfl (R_build (w' := w5) (ps := []) (vs := []) (r := .agg #[.int .i64 0, .int .i64 0, .int .i64 0, .int .i64 0]) rfl rfl rfl (by kernel_rfl)) ?_)
    refine W_cons0 rfl (S_store hS 0 rfl rfl rfl rfl rfl size33 (one_cons rfl (one_cons rfl (one_cons rfl (one_cons rfl one_nil)))) (Nat.le_of_ble_eq_true rfl) (fun w11 hS => ?_))
    have hS : Sp (FF []) w z w11 [bR b4 33 [.int .i64 0, .int .i64 0, .int .i64 0, .int .i64 0], bR b2 39 [.int .i64 a0.Right, .slice Aa0_Widths a0.Widths.length ca0_Widths, .slice Aa0_Heights a0.Heights.length ca0_Heights, .slice Aa0_Cells a0.Cells.length ca0_Cells, .slice Aa0_Merges a0.Merges.length ca0_Merges]] := hS
    refine W_cons rfl (by decide) (Sv_val rfl (R_assign rfl rfl) ?_)
    refine W_nil ?_
    refine E_then (C_fr [(6, .pointer (some ⟨b4, 0, none⟩)), (7, .int .i64 4)] rfl ?_)
    refine C_ret ?_
    refine E_then_ret ?_
    refine E_rv2 rfl (RV_cellN (cs := [.int .i64 0, .int .i64 0, .int .i64 0, .int .i64 0]) rfl agg33 size33 rfl (boxcells (hS.bx 0 rfl) 0 rfl)) (RV_tmp rfl) ?_
    exact ⟨Lret2 (show (.agg #[.int .i64 0, .int .i64 0, .int .i64 0, .int .i64 0] : Value) = .agg #[.int .i64 (rregionS a0 a1 a2).1.Row, .int .i64 (rregionS a0 a1 a2).1.Col, .int .i64 (rregionS a0 a1 a2).1.Rows, .int .i64 (rregionS a0 a1 a2).1.Cols] by first | (unfold rregionS; simp_all; done) | (unfold rregionS; simp_all; omega) | (rw [rreg_bad (by omega)] <;> rfl) | (rw [rreg_far (by omega) (by omega)] <;> rfl) | (rw [rreg_ok (by omega) (by omega)] <;> rfl)) (Lint (show 4 = (rregionS a0 a1 a2).2 by first | (unfold rregionS; simp_all; done) | (unfold rregionS; simp_all; omega) | (rw [rreg_bad (by omega)] <;> rfl) | (rw [rreg_far (by omega) (by omega)] <;> rfl) | (rw [rreg_ok (by omega) (by omega)] <;> rfl))), hS.fin [] (by decide) rfl⟩
   ·have _hg10 := trivial
    have hg10p : ¬ (a2 < 0) := by simpa using hg10
    refine W_cons rfl (by decide) (Sv_gt rfl rfl rfl hg10 (Sv_val rfl (R_move rfl rfl) ?_))
    refine W_cons rfl (by decide) (Sv_gt rfl rfl rfl hg10 (Sv_val rfl (R_fld rfl rfl fld39_2) ?_))
    refine W_cons rfl (by decide) (Sv_gt rfl rfl rfl hg10 (Sv_val rfl (R_load1 rfl rfl agg35 ((hS.bx 1 rfl).cell rfl)) ?_))
    refine W_cons rfl (by decide) (Sv_gt rfl rfl rfl hg10 (Sv_val rfl (R_len rfl rfl Try.underlying35) ?_))
    refine W_cons rfl (by decide) (Sv_gt rfl rfl rfl hg10 (Sv_val rfl (R_bin rfl rfl rfl rfl rfl) ?_))
    refine W_cons rfl (by decide) (Sv_val rfl (R_pick_f rfl rfl hg10 rfl) ?_)
    refine W_cons rfl (by decide) (Sv_val rfl (R_move rfl rfl) ?_)
    refine W_split (t := 25) rfl (fun hg12 => ?_) (fun hg12 => ?_)
    ·have _hg12 := trivial
     have hg12p : a1 ≥ (a0.Heights.length : Int) := by simpa using hg12
     refine W_cons rfl (by decide) (Sv_off rfl rfl rfl (by rw [hg12] <;> rfl) ?_)
     refine W_cons rfl (by decide) (Sv_off rfl rfl rfl (by rw [hg12] <;> rfl) ?_)
     refine W_cons rfl (by decide) (Sv_off rfl rfl rfl (by rw [hg12] <;> rfl) ?_)
     refine W_cons rfl (by decide) (Sv_off rfl rfl rfl (by rw [hg12] <;> rfl) ?_)
     refine W_cons rfl (by decide) (Sv_off rfl rfl rfl (by rw [hg12] <;> rfl) ?_)
     refine W_cons rfl (by decide) (Sv_val rfl (R_pick_t rfl rfl hg12 rfl) ?_)
     refine W_nil ?_
     refine E_then (C_fr [(1, .int .i64 a1), (2, .int .i64 a2), (3, .pointer (some ⟨b2, 0, none⟩)), (6, .pointer (some ⟨b4, 0, none⟩)), (31, .bool true)] rfl ?_)
     refine C_if rfl rfl ?_
     refine C_seq ?_
     refine C_region ?_
     refine W_cons rfl (by decide) (Sv_val rfl (R_build (w' := w5) (ps := []) (vs := []) (r := .agg #[.int .i64 0, .int .i64 0, .int .i64 0, .int .i64 0]) rfl rfl rfl (by kernel_rfl)) ?_)
     refine W_cons0 rfl (S_store hS 0 rfl rfl rfl rfl rfl size33 (one_cons rfl (one_cons rfl (one_cons rfl (one_cons rfl one_nil)))) (Nat.le_of_ble_eq_true rfl) (fun w13 hS => ?_))
     have hS : Sp (FF []) w z w13 [bR b4 33 [.int .i64 0, .int .i64 0, .int .i64 0, .int .i64 0], bR b2 39 [.int .i64 a0.Right, .slice Aa0_Widths a0.Widths.length ca0_Widths, .slice Aa0_Heights a0.Heights.length ca0_Heights, .slice Aa0_Cells a0.Cells.length ca0_Cells, .slice Aa0_Merges a0.Merges.length ca0_Merges]] := hS
     refine W_cons rfl (by decide) (Sv_val rfl (R_assign rfl rfl) ?_)
     refine W_nil ?_
     refine E_then (C_fr [(6, .pointer (some ⟨b4, 0, none⟩)), (7, .int .i64 4)] rfl ?_)
     refine C_ret ?_
     refine E_then_ret ?_
     refine E_rv2 rfl (RV_cellN (cs := [.int .i64 0, .int .i64 0, .int .i64 0, .int .i64 0]) rfl agg33 size33 rfl (boxcells (hS.bx 0 rfl) 0 rfl)) (RV_tmp rfl) ?_
     exact ⟨Lret2 (show (.agg #[.int .i64 0, .int .i64 0, .int .i64 0, .int .i64 0] : Value) = .agg #[.int .i64 (rregionS a0 a1 a2).1.Row, .int .i64 (rregionS a0 a1 a2).1.Col, .int .i64 (rregionS a0 a1 a2).1.Rows, .int .i64 (rregionS a0 a1 a2).1.Cols] by first | (unfold rregionS; simp_all; done) | (unfold rregionS; simp_all; omega) | (rw [rreg_bad (by omega)] <;> rfl) | (rw [rreg_far (by omega) (by omega)] <;> rfl) | (rw [rreg_ok (by omega) (by omega)] <;> rfl)) (Lint (show 4 = (rregionS a0 a1 a2).2 by first | (unfold rregionS; simp_all; done) | (unfold rregionS; simp_all; omega) | (rw [rreg_bad (by omega)] <;> rfl) | (rw [rreg_far (by omega) (by omega)] <;> rfl) | (rw [rreg_ok (by omega) (by omega)] <;> rfl))), hS.fin [] (by decide) rfl⟩
    ·have _hg12 := trivial
     have hg12p : ¬ (a1 ≥ (a0.Heights.length : Int)) := by simpa using hg12
     refine W_cons rfl (by decide) (Sv_gt rfl rfl rfl hg12 (Sv_val rfl (R_move rfl rfl) ?_))
     refine W_cons rfl (by decide) (Sv_gt rfl rfl rfl hg12 (Sv_val rfl (R_fld rfl rfl fld39_1) ?_))
     refine W_cons rfl (by decide) (Sv_gt rfl rfl rfl hg12 (Sv_val rfl (R_load1 rfl rfl agg35 ((hS.bx 1 rfl).cell rfl)) ?_))
     refine W_cons rfl (by decide) (Sv_gt rfl rfl rfl hg12 (Sv_val rfl (R_len rfl rfl Try.underlying35) ?_))
     refine W_cons rfl (by decide) (Sv_gt rfl rfl rfl hg12 (Sv_val rfl (R_bin rfl rfl rfl rfl rfl) ?_))
     refine W_cons rfl (by decide) (Sv_val rfl (R_pick_f rfl rfl hg12 rfl) ?_)
     refine W_nil ?_
     refine E_then (C_fr [(1, .int .i64 a1), (2, .int .i64 a2), (3, .pointer (some ⟨b2, 0, none⟩)), (6, .pointer (some ⟨b4, 0, none⟩)), (31, .bool (decide (a2 ≥ (a0.Widths.length : Int))))] rfl ?_)
     refine C_ite rfl (fun hC1 => ?_) (fun hC1 => ?_)
     ·have _hC1 := trivial
      have hC1p : a2 ≥ (a0.Widths.length : Int) := by simpa using hC1
      refine C_seq ?_
      refine C_region ?_
      refine W_cons rfl (by decide) (Sv_val rfl (R_build (w' := w5) (ps := []) (vs := []) (r := .agg #[.int .i64 0, .int .i64 0, .int .i64 0, .int .i64 0]) rfl rfl rfl (by kernel_rfl)) ?_)
      refine W_cons0 rfl (S_store hS 0 rfl rfl rfl rfl rfl size33 (one_cons rfl (one_cons rfl (one_cons rfl (one_cons rfl one_nil)))) (Nat.le_of_ble_eq_true rfl) (fun w14 hS => ?_))
      have hS : Sp (FF []) w z w14 [bR b4 33 [.int .i64 0, .int .i64 0, .int .i64 0, .int .i64 0], bR b2 39 [.int .i64 a0.Right, .slice Aa0_Widths a0.Widths.length ca0_Widths, .slice Aa0_Heights a0.Heights.length ca0_Heights, .slice Aa0_Cells a0.Cells.length ca0_Cells, .slice Aa0_Merges a0.Merges.length ca0_Merges]] := hS
      refine W_cons rfl (by decide) (Sv_val rfl (R_assign rfl rfl) ?_)
      refine W_nil ?_
      refine E_then (C_fr [(6, .pointer (some ⟨b4, 0, none⟩)), (7, .int .i64 4)] rfl ?_)
      refine C_ret ?_
      refine E_then_ret ?_
      refine E_rv2 rfl (RV_cellN (cs := [.int .i64 0, .int .i64 0, .int .i64 0, .int .i64 0]) rfl agg33 size33 rfl (boxcells (hS.bx 0 rfl) 0 rfl)) (RV_tmp rfl) ?_
      exact ⟨Lret2 (show (.agg #[.int .i64 0, .int .i64 0, .int .i64 0, .int .i64 0] : Value) = .agg #[.int .i64 (rregionS a0 a1 a2).1.Row, .int .i64 (rregionS a0 a1 a2).1.Col, .int .i64 (rregionS a0 a1 a2).1.Rows, .int .i64 (rregionS a0 a1 a2).1.Cols] by first | (unfold rregionS; simp_all; done) | (unfold rregionS; simp_all; omega) | (rw [rreg_bad (by omega)] <;> rfl) | (rw [rreg_far (by omega) (by omega)] <;> rfl) | (rw [rreg_ok (by omega) (by omega)] <;> rfl)) (Lint (show 4 = (rregionS a0 a1 a2).2 by first | (unfold rregionS; simp_all; done) | (unfold rregionS; simp_all; omega) | (rw [rreg_bad (by omega)] <;> rfl) | (rw [rreg_far (by omega) (by omega)] <;> rfl) | (rw [rreg_ok (by omega) (by omega)] <;> rfl))), hS.fin [] (by decide) rfl⟩
     ·have _hC1 := trivial
      have hC1p : ¬ (a2 ≥ (a0.Widths.length : Int)) := by simpa using hC1
      refine C_skip ?_
      refine E_then ?_
      refine C_seq ?_
      refine C_region ?_
      refine W_cons rfl (by decide) (Sv_val rfl (R_loadN (cs := [.int .i64 a0.Right, .slice Aa0_Widths a0.Widths.length ca0_Widths, .slice Aa0_Heights a0.Heights.length ca0_Heights, .slice Aa0_Cells a0.Cells.length ca0_Cells, .slice Aa0_Merges a0.Merges.length ca0_Merges]) rfl rfl agg39 size39 rfl (boxcells (hS.bx 1 rfl) 0 rfl)) ?_)
      refine W_cons rfl (by decide) (Sv_val rfl (R_move rfl rfl) ?_)
      refine W_cons rfl (by decide) (Sv_val rfl (R_move rfl rfl) ?_)
      refine W_cons rfl (by decide) (Sv_call rfl rfl rfl ent55 ?_)
      refine (raround_calls a0 Aa0_Widths ca0_Widths Aa0_Heights ca0_Heights Aa0_Cells ca0_Cells Aa0_Merges ca0_Merges a1 a2 _ _ hS.out0 (hra0_Widths.mono (hS.zl [])) hca0_Widths (hra0_Heights.mono (hS.zl [])) hca0_Heights (hra0_Cells.mono (hS.zl [])) hca0_Cells (hra0_Merges.mono (hS.zl [])) hca0_Merges ).mono ?_
      rintro e_ w15 ⟨rfl, hS_⟩
      refine ⟨_, rfl, ?_⟩
      have hS := hS.call0 hS_
      refine W_cons0 rfl (S_store hS 0 rfl rfl rfl rfl rfl size33 (one_cons rfl (one_cons rfl (one_cons rfl (one_cons rfl one_nil)))) (Nat.le_of_ble_eq_true rfl) (fun w17 hS => ?_))
      have hS : Sp (FF []) w z w17 [bR b4 33 [.int .i64 (raroundS a0 a1 a2).Row, .int .i64 (raroundS a0 a1 a2).Col, .int .i64 (raroundS a0 a1 a2).Rows, .int .i64 (raroundS a0 a1 a2).Cols], bR b2 39 [.int .i64 a0.Right, .slice Aa0_Widths a0.Widths.length ca0_Widths, .slice Aa0_Heights a0.Heights.length ca0_Heights, .slice Aa0_Cells a0.Cells.length ca0_Cells, .slice Aa0_Merges a0.Merges.length ca0_Merges]] := hS
      refine W_cons rfl (by decide) (Sv_val rfl (R_assign rfl rfl) ?_)
      refine W_nil ?_
      refine E_then (C_fr [(6, .pointer (some ⟨b4, 0, none⟩)), (7, .int .i64 0)] rfl ?_)
      refine C_ret ?_
      refine E_rv2 rfl (RV_cellN (cs := [.int .i64 (raroundS a0 a1 a2).Row, .int .i64 (raroundS a0 a1 a2).Col, .int .i64 (raroundS a0 a1 a2).Rows, .int .i64 (raroundS a0 a1 a2).Cols]) rfl agg33 size33 rfl (boxcells (hS.bx 0 rfl) 0 rfl)) (RV_tmp rfl) ?_
      exact ⟨Lret2 (show (.agg #[.int .i64 (raroundS a0 a1 a2).Row, .int .i64 (raroundS a0 a1 a2).Col, .int .i64 (raroundS a0 a1 a2).Rows, .int .i64 (raroundS a0 a1 a2).Cols] : Value) = .agg #[.int .i64 (rregionS a0 a1 a2).1.Row, .int .i64 (rregionS a0 a1 a2).1.Col, .int .i64 (rregionS a0 a1 a2).1.Rows, .int .i64 (rregionS a0 a1 a2).1.Cols] by first | (unfold rregionS; simp_all; done) | (unfold rregionS; simp_all; omega) | (rw [rreg_bad (by omega)] <;> rfl) | (rw [rreg_far (by omega) (by omega)] <;> rfl) | (rw [rreg_ok (by omega) (by omega)] <;> rfl)) (Lint (show 0 = (rregionS a0 a1 a2).2 by first | (unfold rregionS; simp_all; done) | (unfold rregionS; simp_all; omega) | (rw [rreg_bad (by omega)] <;> rfl) | (rw [rreg_far (by omega) (by omega)] <;> rfl) | (rw [rreg_ok (by omega) (by omega)] <;> rfl))), hS.fin [] (by decide) rfl⟩

set_option maxHeartbeats 2000000 in
set_option maxRecDepth 20000 in
theorem rget_calls (a0 : TSheet) (Aa0_Widths : Option Addr) (ca0_Widths : Nat) (Aa0_Heights : Option Addr) (ca0_Heights : Nat) (Aa0_Cells : Option Addr) (ca0_Cells : Nat) (Aa0_Merges : Option Addr) (ca0_Merges : Nat) (a1 : Int) (a2 : Int) (z : Z) (w : World) (hI : In z w []) (hra0_Widths : Rd (kint .i64) z Aa0_Widths a0.Widths) (hca0_Widths : Cap Aa0_Widths a0.Widths.length ca0_Widths) (hra0_Heights : Rd (kint .i64) z Aa0_Heights a0.Heights) (hca0_Heights : Cap Aa0_Heights a0.Heights.length ca0_Heights) (hra0_Cells : Rd kdTCell z Aa0_Cells a0.Cells) (hca0_Cells : Cap Aa0_Cells a0.Cells.length ca0_Cells) (hra0_Merges : Rd kdTRect z Aa0_Merges a0.Merges) (hca0_Merges : Cap Aa0_Merges a0.Merges.length ca0_Merges)  :
    Calls Try.prog 34 #[.agg #[.int .i64 a0.Right, .slice Aa0_Widths a0.Widths.length ca0_Widths, .slice Aa0_Heights a0.Heights.length ca0_Heights, .slice Aa0_Cells a0.Cells.length ca0_Cells, .slice Aa0_Merges a0.Merges.length ca0_Merges], .int .i64 a1, .int .i64 a2] w fun e w' => e = .returned (.tuple #[.agg #[.int .i64 (rgetS a0 a1 a2).1.Row, .int .i64 (rgetS a0 a1 a2).1.Col, vstr (rgetS a0 a1 a2).1.Text, .int .i64 (rgetS a0 a1 a2).1.Style.Align, .int .i64 (rgetS a0 a1 a2).1.Style.Wrap, .int .i64 (rgetS a0 a1 a2).1.Style.Dir], .int .i64 (rgetS a0 a1 a2).2]) ∧ Sp (FF []) w z w' [] := by
 have hla0_Widths := hca0_Widths.le
 have hma0_Widths := hca0_Widths.mx
 have hla0_Heights := hca0_Heights.le
 have hma0_Heights := hca0_Heights.mx
 have hla0_Cells := hca0_Cells.le
 have hma0_Cells := hca0_Cells.mx
 have hla0_Merges := hca0_Merges.le
 have hma0_Merges := hca0_Merges.mx
 have hS := hI.sp
 refine Calls_of (vs := [.agg #[.int .i64 a0.Right, .slice Aa0_Widths a0.Widths.length ca0_Widths, .slice Aa0_Heights a0.Heights.length ca0_Heights, .slice Aa0_Cells a0.Cells.length ca0_Cells, .slice Aa0_Merges a0.Merges.length ca0_Merges], .int .i64 a1, .int .i64 a2]) (N := 59) Try.func34 rfl rfl (Nat.le_of_ble_eq_true rfl) ?_
 refine C_seq ?_
 refine C_region ?_
 refine W_cons rfl (by decide) (S_box hS rfl (R_box (cs := [.int .i64 a0.Right, .slice Aa0_Widths a0.Widths.length ca0_Widths, .slice Aa0_Heights a0.Heights.length ca0_Heights, .slice Aa0_Cells a0.Cells.length ca0_Cells, .slice Aa0_Merges a0.Merges.length ca0_Merges]) rfl rfl rfl) (fun b2 w1 hS => ?_))
 refine W_cons rfl (by decide) (S_box hS rfl (R_alloc rfl alloc46) (fun b4 w3 hS => ?_))
 refine W_cons rfl (by decide) (Sv_val rfl (R_assign rfl rfl) ?_)
 refine W_nil ?_
 refine E_then ?_
 refine C_seq ?_
 refine C_region ?_
 refine W_cons rfl (by decide) (Sv_val rfl (R_loadN (cs := [.int .i64 a0.Right, .slice Aa0_Widths a0.Widths.length ca0_Widths, .slice Aa0_Heights a0.Heights.length ca0_Heights, .slice Aa0_Cells a0.Cells.length ca0_Cells, .slice Aa0_Merges a0.Merges.length ca0_Merges]) rfl rfl agg39 size39 rfl (boxcells (hS.bx 1 rfl) 0 rfl)) ?_)
 refine W_cons rfl (by decide) (Sv_val rfl (R_move rfl rfl) ?_)
 refine W_cons rfl (by decide) (Sv_val rfl (R_move rfl rfl) ?_)
 refine W_cons rfl (by decide) (Sv_call rfl rfl rfl ent32 ?_)
 refine (rregion_calls a0 Aa0_Widths ca0_Widths Aa0_Heights ca0_Heights Aa0_Cells ca0_Cells Aa0_Merges ca0_Merges a1 a2 _ _ hS.out0 (hra0_Widths.mono (hS.zl [])) hca0_Widths (hra0_Heights.mono (hS.zl [])) hca0_Heights (hra0_Cells.mono (hS.zl [])) hca0_Cells (hra0_Merges.mono (hS.zl [])) hca0_Merges ).mono ?_
 rintro e_ w5 ⟨rfl, hS_⟩
 refine ⟨_, rfl, ?_⟩
 have hS := hS.call0 hS_
 refine W_cons rfl (by decide) (Sv_val rfl (R_move rfl rfl) ?_)
 refine W_cons rfl (by decide) (Sv_val rfl (R_extract rfl rfl rfl) ?_)
 refine W_cons rfl (by decide) (Sv_val rfl (R_extract rfl rfl rfl) ?_)
 refine W_cons rfl (by decide) (S_box hS rfl (R_alloc rfl alloc33) (fun b8 w7 hS => ?_))
 refine W_cons0 rfl (S_store hS 0 rfl rfl rfl rfl rfl size33 (one_cons rfl (one_cons rfl (one_cons rfl (one_cons rfl one_nil)))) (Nat.le_of_ble_eq_true rfl) (fun w9 hS => ?_))
 have hS : Sp (FF []) w z w9 [bR b8 33 [.int .i64 (rregionS a0 a1 a2).1.Row, .int .i64 (rregionS a0 a1 a2).1.Col, .int .i64 (rregionS a0 a1 a2).1.Rows, .int .i64 (rregionS a0 a1 a2).1.Cols], bR b4 46 [.int .i64 0, .int .i64 0, vstr [], .int .i64 0, .int .i64 0, .int .i64 0], bR b2 39 [.int .i64 a0.Right, .slice Aa0_Widths a0.Widths.length ca0_Widths, .slice Aa0_Heights a0.Heights.length ca0_Heights, .slice Aa0_Cells a0.Cells.length ca0_Cells, .slice Aa0_Merges a0.Merges.length ca0_Merges]] := hS
 refine W_cons rfl (by decide) (Sv_val rfl (R_assign rfl rfl) ?_)
 refine W_nil ?_
 refine E_then (C_fr [(3, .pointer (some ⟨b2, 0, none⟩)), (6, .pointer (some ⟨b4, 0, none⟩)), (8, .pointer (some ⟨b8, 0, none⟩)), (9, .int .i64 (rregionS a0 a1 a2).2)] rfl ?_)
 refine C_seq ?_
 refine C_seq ?_
 refine C_region ?_
 refine W_cons rfl (by decide) (Sv_val rfl (R_move rfl rfl) ?_)
 refine W_cons rfl (by decide) (Sv_val rfl (R_bin rfl rfl rfl rfl rfl) ?_)
 refine W_nil ?_
 refine E_then ?_
 refine C_ite rfl (fun hC0 => ?_) (fun hC0 => ?_)
 ·have _hC0 := trivial
  have hC0p : ¬ (rregionS a0 a1 a2).2 = 0 := by simpa using hC0
  refine C_seq ?_
  refine C_region ?_
  refine W_cons rfl (by decide) (Sv_val rfl (R_build (w' := w9) (ps := []) (vs := []) (r := .agg #[.int .i64 0, .int .i64 0, vstr [], .int .i64 0, .int .i64 0, .int .i64 0]) rfl rfl rfl (by kernel_rfl)) ?_)
  refine W_cons rfl (by decide) (Sv_val rfl (R_move rfl rfl) ?_)
  refine W_cons0 rfl (S_store hS 1 rfl rfl rfl rfl rfl size46 (one_cons rfl (one_cons rfl (one_cons rfl (one_cons rfl (one_cons rfl (one_cons rfl one_nil)))))) (Nat.le_of_ble_eq_true rfl) (fun w10 hS => ?_))
  have hS : Sp (FF []) w z w10 [bR b8 33 [.int .i64 (rregionS a0 a1 a2).1.Row, .int .i64 (rregionS a0 a1 a2).1.Col, .int .i64 (rregionS a0 a1 a2).1.Rows, .int .i64 (rregionS a0 a1 a2).1.Cols], bR b4 46 [.int .i64 0, .int .i64 0, vstr [], .int .i64 0, .int .i64 0, .int .i64 0], bR b2 39 [.int .i64 a0.Right, .slice Aa0_Widths a0.Widths.length ca0_Widths, .slice Aa0_Heights a0.Heights.length ca0_Heights, .slice Aa0_Cells a0.Cells.length ca0_Cells, .slice Aa0_Merges a0.Merges.length ca0_Merges]] := hS
  refine W_cons rfl (by decide) (Sv_val rfl (R_assign rfl rfl) ?_)
  refine W_nil ?_
  refine E_then (C_fr [(6, .pointer (some ⟨b4, 0, none⟩)), (7, .int .i64 (rregionS a0 a1 a2).2)] rfl ?_)
  refine C_ret ?_
  refine E_then_ret ?_
  refine E_rv2 rfl (RV_cellN (cs := [.int .i64 0, .int .i64 0, vstr [], .int .i64 0, .int .i64 0, .int .i64 0]) rfl agg46 size46 rfl (boxcells (hS.bx 1 rfl) 0 rfl)) (RV_tmp rfl) ?_
  exact ⟨Lret2 (show (.agg #[.int .i64 0, .int .i64 0, vstr [], .int .i64 0, .int .i64 0, .int .i64 0] : Value) = .agg #[.int .i64 (rgetS a0 a1 a2).1.Row, .int .i64 (rgetS a0 a1 a2).1.Col, vstr (rgetS a0 a1 a2).1.Text, .int .i64 (rgetS a0 a1 a2).1.Style.Align, .int .i64 (rgetS a0 a1 a2).1.Style.Wrap, .int .i64 (rgetS a0 a1 a2).1.Style.Dir] by first | (rw [rget_bad (by assumption)] <;> rfl) | (rw [rget_end (i := i) (by omega) (by omega) hI0_1] <;> rfl) | (rw [rget_hit (i := i) (by omega) (by omega) hI0_1 (by assumption) (by assumption)] <;> rfl)) (Lint (show (rregionS a0 a1 a2).2 = (rgetS a0 a1 a2).2 by first | (rw [rget_bad (by assumption)] <;> rfl) | (rw [rget_end (i := i) (by omega) (by omega) hI0_1] <;> rfl) | (rw [rget_hit (i := i) (by omega) (by omega) hI0_1 (by assumption) (by assumption)] <;> rfl))), hS.fin [] (by decide) rfl⟩
 ·have _hC0 := trivial
  have hC0p : (rregionS a0 a1 a2).2 = 0 := by simpa using hC0
  refine C_skip ?_
  refine E_then ?_
  refine C_seq ?_
  refine C_seq ?_
  refine C_region ?_
  refine W_cons rfl (by decide) (Sv_val rfl (R_assign rfl rfl) ?_)
  refine W_nil ?_
  refine E_then ?_
  refine C_block ?_
  refine C_fr [(3, .pointer (some ⟨b2, 0, none⟩)), (6, .pointer (some ⟨b4, 0, none⟩)), (8, .pointer (some ⟨b8, 0, none⟩)), (10, .int .i64 0)] rfl ?_
  refine C_loop (fun m_ f_ w_ => ∃ (i : Nat), f_ = [(3, .pointer (some ⟨b2, 0, none⟩)), (6, .pointer (some ⟨b4, 0, none⟩)), (8, .pointer (some ⟨b8, 0, none⟩)), (10, .int .i64 (i : Int))] ∧ i ≤ a0.Cells.length ∧ a0.Cells.find? (fun x : TCell => decide (x.Row = (rregionS a0 a1 a2).1.Row) && decide (x.Col = (rregionS a0 a1 a2).1.Col)) = (a0.Cells.drop i).find? (fun x : TCell => decide (x.Row = (rregionS a0 a1 a2).1.Row) && decide (x.Col = (rregionS a0 a1 a2).1.Col)) ∧ m_ = a0.Cells.length - i ∧ Sp (FF []) w z w_ [bR b2 39 [.int .i64 a0.Right, .slice Aa0_Widths a0.Widths.length ca0_Widths, .slice Aa0_Heights a0.Heights.length ca0_Heights, .slice Aa0_Cells a0.Cells.length ca0_Cells, .slice Aa0_Merges a0.Merges.length ca0_Merges], bR b4 46 [.int .i64 0, .int .i64 0, vstr [], .int .i64 0, .int .i64 0, .int .i64 0], bR b8 33 [.int .i64 (rregionS a0 a1 a2).1.Row, .int .i64 (rregionS a0 a1 a2).1.Col, .int .i64 (rregionS a0 a1 a2).1.Rows, .int .i64 (rregionS a0 a1 a2).1.Cols]]) (a0.Cells.length - (0 : Nat)) ⟨(0 : Nat), rfl, (by omega), (by rfl), rfl, hS.fin [2, 1, 0] (by decide) rfl⟩ ?_
  rintro m_ f_ w11 ⟨i, rfl, hI0_0, hI0_1, rfl, hS⟩
  refine C_seq ?_
  refine C_seq ?_
  refine C_region ?_
  refine W_cons rfl (by decide) (Sv_val rfl (R_move rfl rfl) ?_)
  refine W_cons rfl (by decide) (Sv_val rfl (R_fld rfl rfl fld39_3) ?_)
  refine W_cons rfl (by decide) (Sv_val rfl (R_load1 rfl rfl agg36 ((hS.bx 0 rfl).cell rfl)) ?_)
  refine W_cons rfl (by decide) (Sv_val rfl (R_len rfl rfl Try.underlying36) ?_)
  refine W_cons rfl (by decide) (Sv_val rfl (R_bin rfl rfl rfl rfl rfl) ?_)
  refine W_nil ?_
  refine E_then ?_
  refine C_ite rfl (fun hC1 => ?_) (fun hC1 => ?_)
  ·have _hC1 := trivial
   have hC1p : (i : Int) < (a0.Cells.length : Int) := by simpa using hC1
   refine C_skip ?_
   refine E_then (C_fr [(3, .pointer (some ⟨b2, 0, none⟩)), (6, .pointer (some ⟨b4, 0, none⟩)), (8, .pointer (some ⟨b8, 0, none⟩)), (10, .int .i64 (i : Int))] rfl ?_)
   refine C_seq ?_
   refine C_block ?_
   refine C_seq ?_
   rcases Bool.eq_false_or_eq_true ((a0.Cells.getD i (default : TCell)).Row == (rregionS a0 a1 a2).1.Row) with hg12 | hg12
   ·have _hg12 := trivial
    have hg12p : (a0.Cells.getD i (default : TCell)).Row = (rregionS a0 a1 a2).1.Row := by simpa using hg12
    refine C_fr [(3, .pointer (some ⟨b2, 0, none⟩)), (6, .pointer (some ⟨b4, 0, none⟩)), (8, .pointer (some ⟨b8, 0, none⟩)), (10, .int .i64 (i : Int))] rfl ?_
    obtain ⟨q15, csq15, hAq15, rfl, hkq15⟩ := hra0_Cells.at_ (default : TCell) (i := (i : Int)) (by omega) (by omega)
    have hkq15 : ∀ (j_ : Nat) (u_ : Value), ([.int .i64 (a0.Cells.getD i (default : TCell)).Row, .int .i64 (a0.Cells.getD i (default : TCell)).Col, vstr (a0.Cells.getD i (default : TCell)).Text, .int .i64 (a0.Cells.getD i (default : TCell)).Style.Align, .int .i64 (a0.Cells.getD i (default : TCell)).Style.Wrap, .int .i64 (a0.Cells.getD i (default : TCell)).Style.Dir] : List Value)[j_]? = some u_ → cz z (q15.add (i * 6 + j_)) = some u_ := hkq15
    obtain ⟨q16, csq16, hAq16, rfl, hkq16⟩ := hra0_Cells.at_ (default : TCell) (i := (i : Int)) (by omega) (by omega)
    have hkq16 : ∀ (j_ : Nat) (u_ : Value), ([.int .i64 (a0.Cells.getD i (default : TCell)).Row, .int .i64 (a0.Cells.getD i (default : TCell)).Col, vstr (a0.Cells.getD i (default : TCell)).Text, .int .i64 (a0.Cells.getD i (default : TCell)).Style.Align, .int .i64 (a0.Cells.getD i (default : TCell)).Style.Wrap, .int .i64 (a0.Cells.getD i (default : TCell)).Style.Dir] : List Value)[j_]? = some u_ → cz z (q16.add (i * 6 + j_)) = some u_ := hkq16
    refine C_drawn 20 [[], [0], [], [1, 2], [3], [4], [], [6], [5, 7], [8], [9], [10, 9], [9], [11, 12, 9], [13, 9], [14, 9], [9], [16, 9], [15, 17, 9], [9, 18]] [29, 30, 31, 32, 33, 34, 35, 36, 37, 38, 39, 40, 41, 42, 43, 44, 45, 46, 47, 48] [3, 6, 8, 10] rfl (by kernel_rfl) (by decide +kernel) [fun v_ _ => v_ = .pointer (some ⟨b2, 3, none⟩), fun v_ _ => v_ = .slice Aa0_Cells a0.Cells.length ca0_Cells, fun v_ _ => v_ = .int .i64 (i : Int), fun v_ _ => v_ = .pointer (some (q15.add (i * 6))), fun v_ _ => v_ = .pointer (some ((q15.add (i * 6)).add 0)), fun v_ _ => v_ = .int .i64 (a0.Cells.getD i (default : TCell)).Row, fun v_ _ => v_ = .pointer (some ⟨b8, 0, none⟩), fun v_ _ => v_ = .int .i64 (rregionS a0 a1 a2).1.Row, fun v_ _ => v_ = .bool ((a0.Cells.getD i (default : TCell)).Row == (rregionS a0 a1 a2).1.Row), fun v_ _ => v_ = .bool ((a0.Cells.getD i (default : TCell)).Row == (rregionS a0 a1 a2).1.Row), fun v_ _ => v_ = .pointer (some ⟨b2, 3, none⟩), fun v_ _ => v_ = .slice Aa0_Cells a0.Cells.length ca0_Cells, fun v_ _ => v_ = .int .i64 (i : Int), fun v_ _ => v_ = .pointer (some (q16.add (i * 6))), fun v_ _ => v_ = .pointer (some ((q16.add (i * 6)).add 1)), fun v_ _ => v_ = .int .i64 (a0.Cells.getD i (default : TCell)).Col, fun v_ _ => v_ = .pointer (some ⟨b8, 1, none⟩), fun v_ _ => v_ = .int .i64 (rregionS a0 a1 a2).1.Col, fun v_ _ => v_ = .bool ((a0.Cells.getD i (default : TCell)).Col == (rregionS a0 a1 a2).1.Col), fun v_ _ => v_ = .bool ((a0.Cells.getD i (default : TCell)).Col == (rregionS a0 a1 a2).1.Col)] ⟨fun _ _ _ h _ => h, ⟨fun _ _ _ h _ => h, ⟨fun _ _ _ h _ => h, ⟨fun _ _ _ h _ => h, ⟨fun _ _ _ h _ => h, ⟨fun _ _ _ h _ => h, ⟨fun _ _ _ h _ => h, ⟨fun _ _ _ h _ => h, ⟨fun _ _ _ h _ => h, ⟨fun _ _ _ h _ => h, ⟨fun _ _ _ h _ => h, ⟨fun _ _ _ h _ => h, ⟨fun _ _ _ h _ => h, ⟨fun _ _ _ h _ => h, ⟨fun _ _ _ h _ => h, ⟨fun _ _ _ h _ => h, ⟨fun _ _ _ h _ => h, ⟨fun _ _ _ h _ => h, ⟨fun _ _ _ h _ => h, ⟨fun _ _ _ h _ => h, trivial⟩⟩⟩⟩⟩⟩⟩⟩⟩⟩⟩⟩⟩⟩⟩⟩⟩⟩⟩⟩ ⟨fun w13 hc14 => by have hS := hS.chg0 hc14; exact Sv_val rfl (R_fld rfl rfl fld39_3) ⟨Chg.refl _ _, rfl⟩, ⟨fun w13 hc14 => by have hS := hS.chg0 hc14; rintro _ rfl; exact Sv_val rfl (R_load1 rfl rfl agg36 ((hS.bx 0 rfl).cell rfl)) ⟨Chg.refl _ _, rfl⟩, ⟨fun w13 hc14 => by have hS := hS.chg0 hc14; exact Sv_val rfl (R_move rfl rfl) ⟨Chg.refl _ _, rfl⟩, ⟨fun w13 hc14 => by have hS := hS.chg0 hc14; rintro _ rfl _ rfl; exact Sv_val rfl (R_idx rfl rfl hAq15 rfl Try.underlying36 size46 (by omega) (by omega)) ⟨Chg.refl _ _, rfl⟩, ⟨fun w13 hc14 => by have hS := hS.chg0 hc14; rintro _ rfl; exact Sv_val rfl (R_fld rfl rfl fld46_0) ⟨Chg.refl _ _, rfl⟩, ⟨fun w13 hc14 => by have hS := hS.chg0 hc14; rintro _ rfl; exact Sv_val rfl (R_load1 rfl rfl agg3 (cell_add (hS.sub.cell (hkq15 0 _ rfl)))) ⟨Chg.refl _ _, rfl⟩, ⟨fun w13 hc14 => by have hS := hS.chg0 hc14; exact Sv_val rfl (R_fld rfl rfl fld33_0) ⟨Chg.refl _ _, rfl⟩, ⟨fun w13 hc14 => by have hS := hS.chg0 hc14; rintro _ rfl; exact Sv_val rfl (R_load1 rfl rfl agg3 ((hS.bx 2 rfl).cell rfl)) ⟨Chg.refl _ _, rfl⟩, ⟨fun w13 hc14 => by have hS := hS.chg0 hc14; rintro _ rfl _ rfl; exact Sv_val rfl (R_bin rfl rfl rfl rfl rfl) ⟨Chg.refl _ _, rfl⟩, ⟨fun w13 hc14 => by have hS := hS.chg0 hc14; rintro _ rfl; exact Sv_val rfl (R_move rfl rfl) ⟨Chg.refl _ _, rfl⟩, ⟨fun w13 hc14 => by have hS := hS.chg0 hc14; rintro _ rfl; exact  (Sv_gt rfl rfl rfl hg12 (Sv_val rfl (R_fld rfl rfl fld39_3) ⟨Chg.refl _ _, rfl⟩)), ⟨fun w13 hc14 => by have hS := hS.chg0 hc14; rintro _ rfl _ rfl; exact  (Sv_gt rfl rfl rfl hg12 (Sv_val rfl (R_load1 rfl rfl agg36 ((hS.bx 0 rfl).cell rfl)) ⟨Chg.refl _ _, rfl⟩)), ⟨fun w13 hc14 => by have hS := hS.chg0 hc14; rintro _ rfl; exact  (Sv_gt rfl rfl rfl hg12 (Sv_val rfl (R_move rfl rfl) ⟨Chg.refl _ _, rfl⟩)), ⟨fun w13 hc14 => by have hS := hS.chg0 hc14; rintro _ rfl _ rfl _ rfl; exact  (Sv_gt rfl rfl rfl hg12 (Sv_val rfl (R_idx rfl rfl hAq16 rfl Try.underlying36 size46 (by omega) (by omega)) ⟨Chg.refl _ _, rfl⟩)), ⟨fun w13 hc14 => by have hS := hS.chg0 hc14; rintro _ rfl _ rfl; exact  (Sv_gt rfl rfl rfl hg12 (Sv_val rfl (R_fld rfl rfl fld46_1) ⟨Chg.refl _ _, rfl⟩)), ⟨fun w13 hc14 => by have hS := hS.chg0 hc14; rintro _ rfl _ rfl; exact  (Sv_gt rfl rfl rfl hg12 (Sv_val rfl (R_load1 rfl rfl agg3 (cell_add (hS.sub.cell (hkq16 1 _ rfl)))) ⟨Chg.refl _ _, rfl⟩)), ⟨fun w13 hc14 => by have hS := hS.chg0 hc14; rintro _ rfl; exact  (Sv_gt rfl rfl rfl hg12 (Sv_val rfl (R_fld rfl rfl fld33_1) ⟨Chg.refl _ _, rfl⟩)), ⟨fun w13 hc14 => by have hS := hS.chg0 hc14; rintro _ rfl _ rfl; exact  (Sv_gt rfl rfl rfl hg12 (Sv_val rfl (R_load1 rfl rfl agg3 ((hS.bx 2 rfl).cell rfl)) ⟨Chg.refl _ _, rfl⟩)), ⟨fun w13 hc14 => by have hS := hS.chg0 hc14; rintro _ rfl _ rfl _ rfl; exact  (Sv_gt rfl rfl rfl hg12 (Sv_val rfl (R_bin rfl rfl rfl rfl rfl) ⟨Chg.refl _ _, rfl⟩)), ⟨fun w13 hc14 => by have hS := hS.chg0 hc14; rintro _ rfl _ rfl; exact Sv_val rfl (R_pick_t rfl rfl hg12 rfl) ⟨Chg.refl _ _, rfl⟩, trivial⟩⟩⟩⟩⟩⟩⟩⟩⟩⟩⟩⟩⟩⟩⟩⟩⟩⟩⟩⟩ ?_
    intro w13 hc14
    have hS := hS.chg0 hc14
    rintro _ rfl _ rfl _ rfl _ rfl _ rfl _ rfl _ rfl _ rfl _ rfl _ rfl _ rfl _ rfl _ rfl _ rfl _ rfl _ rfl _ rfl _ rfl _ rfl _ rfl
    refine An_fr [(3, .pointer (some ⟨b2, 0, none⟩)), (6, .pointer (some ⟨b4, 0, none⟩)), (8, .pointer (some ⟨b8, 0, none⟩)), (10, .int .i64 (i : Int)), (48, .bool ((a0.Cells.getD i (default : TCell)).Col == (rregionS a0 a1 a2).1.Col))] rfl ?_
    refine An_done (by decide +kernel) ?_
    refine E_then ?_
    refine C_ite rfl (fun hC2 => ?_) (fun hC2 => ?_)
    ·have _hC2 := trivial
     have hC2p : (a0.Cells.getD i (default : TCell)).Col = (rregionS a0 a1 a2).1.Col := by simpa using hC2
     refine C_seq ?_
     refine C_region ?_
     refine W_cons rfl (by decide) (Sv_val rfl (R_fld rfl rfl fld39_3) ?_)
     refine W_cons rfl (by decide) (Sv_val rfl (R_load1 rfl rfl agg36 ((hS.bx 0 rfl).cell rfl)) ?_)
     refine W_cons rfl (by decide) (Sv_val rfl (R_move rfl rfl) ?_)
     obtain ⟨q17, csq17, hAq17, rfl, hkq17⟩ := hra0_Cells.at_ (default : TCell) (i := (i : Int)) (by omega) (by omega)
     have hkq17 : ∀ (j_ : Nat) (u_ : Value), ([.int .i64 (a0.Cells.getD i (default : TCell)).Row, .int .i64 (a0.Cells.getD i (default : TCell)).Col, vstr (a0.Cells.getD i (default : TCell)).Text, .int .i64 (a0.Cells.getD i (default : TCell)).Style.Align, .int .i64 (a0.Cells.getD i (default : TCell)).Style.Wrap, .int .i64 (a0.Cells.getD i (default : TCell)).Style.Dir] : List Value)[j_]? = some u_ → cz z (q17.add (i * 6 + j_)) = some u_ := hkq17
     refine W_cons rfl (by decide) (Sv_val rfl (R_idx rfl rfl hAq17 rfl Try.underlying36 size46 (by omega) (by omega)) ?_)
     refine W_cons rfl (by decide) (Sv_val rfl (R_loadN (cs := [.int .i64 (a0.Cells.getD i (default : TCell)).Row, .int .i64 (a0.Cells.getD i (default : TCell)).Col, vstr (a0.Cells.getD i (default : TCell)).Text, .int .i64 (a0.Cells.getD i (default : TCell)).Style.Align, .int .i64 (a0.Cells.getD i (default : TCell)).Style.Wrap, .int .i64 (a0.Cells.getD i (default : TCell)).Style.Dir]) rfl rfl agg46 size46 rfl (fun j u h => cell_add (hS.sub.cell (hkq17 j u h)))) ?_)
     refine W_cons0 rfl (S_store hS 1 rfl rfl rfl rfl rfl size46 (one_cons rfl (one_cons rfl (one_cons rfl (one_cons rfl (one_cons rfl (one_cons rfl one_nil)))))) (Nat.le_of_ble_eq_true rfl) (fun w18 hS => ?_))
     have hS : Sp (FF []) w z w18 [bR b2 39 [.int .i64 a0.Right, .slice Aa0_Widths a0.Widths.length ca0_Widths, .slice Aa0_Heights a0.Heights.length ca0_Heights, .slice Aa0_Cells a0.Cells.length ca0_Cells, .slice Aa0_Merges a0.Merges.length ca0_Merges], bR b4 46 [.int .i64 (a0.Cells.getD i (default : TCell)).Row, .int .i64 (a0.Cells.getD i (default : TCell)).Col, vstr (a0.Cells.getD i (default : TCell)).Text, .int .i64 (a0.Cells.getD i (default : TCell)).Style.Align, .int .i64 (a0.Cells.getD i (default : TCell)).Style.Wrap, .int .i64 (a0.Cells.getD i (default : TCell)).Style.Dir], bR b8 33 [.int .i64 (rregionS a0 a1 a2).1.Row, .int .i64 (rregionS a0 a1 a2).1.Col, .int .i64 (rregionS a0 a1 a2).1.Rows, .int .i64 (rregionS a0 a1 a2).1.Cols]] := hS
     refine W_cons rfl (by decide) (Sv_val rfl (R_assign rfl rfl) ?_)
     refine W_nil ?_
     refine E_then (C_fr [(6, .pointer (some ⟨b4, 0, none⟩)), (7, .int .i64 0)] rfl ?_)
     refine C_ret ?_
     refine E_block_ret ?_
     refine E_then_ret ?_
     refine E_then_ret ?_
     refine E_block_ret ?_
     refine E_then_ret ?_
     refine E_rv2 rfl (RV_cellN (cs := [.int .i64 (a0.Cells.getD i (default : TCell)).Row, .int .i64 (a0.Cells.getD i (default : TCell)).Col, vstr (a0.Cells.getD i (default : TCell)).Text, .int .i64 (a0.Cells.getD i (default : TCell)).Style.Align, .int .i64 (a0.Cells.getD i (default : TCell)).Style.Wrap, .int .i64 (a0.Cells.getD i (default : TCell)).Style.Dir]) rfl agg46 size46 rfl (boxcells (hS.bx 1 rfl) 0 rfl)) (RV_tmp rfl) ?_
     exact ⟨Lret2 (show (.agg #[.int .i64 (a0.Cells.getD i (default : TCell)).Row, .int .i64 (a0.Cells.getD i (default : TCell)).Col, vstr (a0.Cells.getD i (default : TCell)).Text, .int .i64 (a0.Cells.getD i (default : TCell)).Style.Align, .int .i64 (a0.Cells.getD i (default : TCell)).Style.Wrap, .int .i64 (a0.Cells.getD i (default : TCell)).Style.Dir] : Value) = .agg #[.int .i64 (rgetS a0 a1 a2).1.Row, .int .i64 (rgetS a0 a1 a2).1.Col, vstr (rgetS a0 a1 a2).1.Text, .int .i64 (rgetS a0 a1 a2).1.Style.Align, .int .i64 (rgetS a0 a1 a2).1.Style.Wrap, .int .i64 (rgetS a0 a1 a2).1.Style.Dir] by first | (rw [rget_bad (by assumption)] <;> rfl) | (rw [rget_end (i := i) (by omega) (by omega) hI0_1] <;> rfl) | (rw [rget_hit (i := i) (by omega) (by omega) hI0_1 (by assumption) (by assumption)] <;> rfl)) (Lint (show 0 = (rgetS a0 a1 a2).2 by first | (rw [rget_bad (by assumption)] <;> rfl) | (rw [rget_end (i := i) (by omega) (by omega) hI0_1] <;> rfl) | (rw [rget_hit (i := i) (by omega) (by omega) hI0_1 (by assumption) (by assumption)] <;> rfl))), hS.fin [] (by decide) rfl⟩
    ·have _hC2 := trivial
     have hC2p : ¬ ((a0.Cells.getD i (default : TCell)).Col = (rregionS a0 a1 a2).1.Col) := by simpa using hC2
     refine C_skip ?_
     refine E_block_normal ?_
     refine E_then ?_
     refine C_region ?_
     refine W_cons rfl (by decide) (Sv_val rfl (R_move rfl rfl) ?_)
     refine W_cons rfl (by decide) (Sv_val rfl (R_add64 rfl rfl rfl (by omega) (by omega)) ?_)
     refine W_cons rfl (by decide) (Sv_val rfl (R_assign rfl rfl) ?_)
     refine W_nil ?_
     refine E_round [3, 6, 8, 10] ?_ ⟨(i + 1 : Nat), rfl, (by omega), (by exact find_step (p := (fun x : TCell => decide (x.Row = (rregionS a0 a1 a2).1.Row) && decide (x.Col = (rregionS a0 a1 a2).1.Col))) default (by omega) hI0_1 (by simp_all)), rfl, hS.fin [0, 1, 2] (by decide) rfl⟩
     omega
   ·have _hg12 := trivial
    have hg12p : ¬ ((a0.Cells.getD i (default : TCell)).Row = (rregionS a0 a1 a2).1.Row) := by simpa using hg12
    refine C_fr [(3, .pointer (some ⟨b2, 0, none⟩)), (6, .pointer (some ⟨b4, 0, none⟩)), (8, .pointer (some ⟨b8, 0, none⟩)), (10, .int .i64 (i : Int))] rfl ?_
    obtain ⟨q21, csq21, hAq21, rfl, hkq21⟩ := hra0_Cells.at_ (default : TCell) (i := (i : Int)) (by omega) (by omega)
    have hkq21 : ∀ (j_ : Nat) (u_ : Value), ([.int .i64 (a0.Cells.getD i (default : TCell)).Row, .int .i64 (a0.Cells.getD i (default : TCell)).Col, vstr (a0.Cells.getD i (default : TCell)).Text, .int .i64 (a0.Cells.getD i (default : TCell)).Style.Align, .int .i64 (a0.Cells.getD i (default : TCell)).Style.Wrap, .int .i64 (a0.Cells.getD i (default : TCell)).Style.Dir] : List Value)[j_]? = some u_ → cz z (q21.add (i * 6 + j_)) = some u_ := hkq21
    refine C_drawn 20 [[], [0], [], [1, 2], [3], [4], [], [6], [5, 7], [8], [9], [10, 9], [9], [11, 12, 9], [13, 9], [14, 9], [9], [16, 9], [15, 17, 9], [9, 18]] [29, 30, 31, 32, 33, 34, 35, 36, 37, 38, 39, 40, 41, 42, 43, 44, 45, 46, 47, 48] [3, 6, 8, 10] rfl (by kernel_rfl) (by decide +kernel) [fun v_ _ => v_ = .pointer (some ⟨b2, 3, none⟩), fun v_ _ => v_ = .slice Aa0_Cells a0.Cells.length ca0_Cells, fun v_ _ => v_ = .int .i64 (i : Int), fun v_ _ => v_ = .pointer (some (q21.add (i * 6))), fun v_ _ => v_ = .pointer (some ((q21.add (i * 6)).add 0)), fun v_ _ => v_ = .int .i64 (a0.Cells.getD i (default : TCell)).Row, fun v_ _ => v_ = .pointer (some ⟨b8, 0, none⟩), fun v_ _ => v_ = .int .i64 (rregionS a0 a1 a2).1.Row, fun v_ _ => v_ = .bool ((a0.Cells.getD i (default : TCell)).Row == (rregionS a0 a1 a2).1.Row), fun v_ _ => v_ = .bool ((a0.Cells.getD i (default : TCell)).Row == (rregionS a0 a1 a2).1.Row), fun v_ _ => v_ = undef, fun v_ _ => v_ = undef, fun v_ _ => v_ = undef, fun v_ _ => v_ = undef, fun v_ _ => v_ = undef, fun v_ _ => v_ = undef, fun v_ _ => v_ = undef, fun v_ _ => v_ = undef, fun v_ _ => v_ = undef, fun v_ _ => v_ = .bool false] ⟨fun _ _ _ h _ => h, ⟨fun _ _ _ h _ => h, ⟨fun _ _ _ h _ => h, ⟨fun _ _ _ h _ => h, ⟨fun _ _ _ h _ => h, ⟨fun _ _ _ h _ => h, ⟨fun _ _ _ h _ => h, ⟨fun _ _ _ h _ => h, ⟨fun _ _ _ h _ => h, ⟨fun _ _ _ h _ => h, ⟨fun _ _ _ h _ => h, ⟨fun _ _ _ h _ => h, ⟨fun _ _ _ h _ => h, ⟨fun _ _ _ h _ => h, ⟨fun _ _ _ h _ => h, ⟨fun _ _ _ h _ => h, ⟨fun _ _ _ h _ => h, ⟨fun _ _ _ h _ => h, ⟨fun _ _ _ h _ => h, ⟨fun _ _ _ h _ => h, trivial⟩⟩⟩⟩⟩⟩⟩⟩⟩⟩⟩⟩⟩⟩⟩⟩⟩⟩⟩⟩ ⟨fun w19 hc20 => by have hS := hS.chg0 hc20; exact Sv_val rfl (R_fld rfl rfl fld39_3) ⟨Chg.refl _ _, rfl⟩, ⟨fun w19 hc20 => by have hS := hS.chg0 hc20; rintro _ rfl; exact Sv_val rfl (R_load1 rfl rfl agg36 ((hS.bx 0 rfl).cell rfl)) ⟨Chg.refl _ _, rfl⟩, ⟨fun w19 hc20 => by have hS := hS.chg0 hc20; exact Sv_val rfl (R_move rfl rfl) ⟨Chg.refl _ _, rfl⟩, ⟨fun w19 hc20 => by have hS := hS.chg0 hc20; rintro _ rfl _ rfl; exact Sv_val rfl (R_idx rfl rfl hAq21 rfl Try.underlying36 size46 (by omega) (by omega)) ⟨Chg.refl _ _, rfl⟩, ⟨fun w19 hc20 => by have hS := hS.chg0 hc20; rintro _ rfl; exact Sv_val rfl (R_fld rfl rfl fld46_0) ⟨Chg.refl _ _, rfl⟩, ⟨fun w19 hc20 => by have hS := hS.chg0 hc20; rintro _ rfl; exact Sv_val rfl (R_load1 rfl rfl agg3 (cell_add (hS.sub.cell (hkq21 0 _ rfl)))) ⟨Chg.refl _ _, rfl⟩, ⟨fun w19 hc20 => by have hS := hS.chg0 hc20; exact Sv_val rfl (R_fld rfl rfl fld33_0) ⟨Chg.refl _ _, rfl⟩, ⟨fun w19 hc20 => by have hS := hS.chg0 hc20; rintro _ rfl; exact Sv_val rfl (R_load1 rfl rfl agg3 ((hS.bx 2 rfl).cell rfl)) ⟨Chg.refl _ _, rfl⟩, ⟨fun w19 hc20 => by have hS := hS.chg0 hc20; rintro _ rfl _ rfl; exact Sv_val rfl (R_bin rfl rfl rfl rfl rfl) ⟨Chg.refl _ _, rfl⟩, ⟨fun w19 hc20 => by have hS := hS.chg0 hc20; rintro _ rfl; exact Sv_val rfl (R_move rfl rfl) ⟨Chg.refl _ _, rfl⟩, ⟨fun w19 hc20 => by have hS := hS.chg0 hc20; rintro _ rfl; exact Sv_off rfl rfl rfl (by rw [hg12]; rfl) ⟨Chg.refl _ _, rfl⟩, ⟨fun w19 hc20 => by have hS := hS.chg0 hc20; rintro _ rfl _ rfl; exact Sv_off rfl rfl rfl (by rw [hg12]; rfl) ⟨Chg.refl _ _, rfl⟩, ⟨fun w19 hc20 => by have hS := hS.chg0 hc20; rintro _ rfl; exact Sv_off rfl rfl rfl (by rw [hg12]; rfl) ⟨Chg.refl _ _, rfl⟩, ⟨fun w19 hc20 => by have hS := hS.chg0 hc20; rintro _ rfl _ rfl _ rfl; exact Sv_off rfl rfl rfl (by rw [hg12]; rfl) ⟨Chg.refl _ _, rfl⟩, ⟨fun w19 hc20 => by have hS := hS.chg0 hc20; rintro _ rfl _ rfl; exact Sv_off rfl rfl rfl (by rw [hg12]; rfl) ⟨Chg.refl _ _, rfl⟩, ⟨fun w19 hc20 => by have hS := hS.chg0 hc20; rintro _ rfl _ rfl; exact Sv_off rfl rfl rfl (by rw [hg12]; rfl) ⟨Chg.refl _ _, rfl⟩, ⟨fun w19 hc20 => by have hS := hS.chg0 hc20; rintro _ rfl; exact Sv_off rfl rfl rfl (by rw [hg12]; rfl) ⟨Chg.refl _ _, rfl⟩, ⟨fun w19 hc20 => by have hS := hS.chg0 hc20; rintro _ rfl _ rfl; exact Sv_off rfl rfl rfl (by rw [hg12]; rfl) ⟨Chg.refl _ _, rfl⟩, ⟨fun w19 hc20 => by have hS := hS.chg0 hc20; rintro _ rfl _ rfl _ rfl; exact Sv_off rfl rfl rfl (by rw [hg12]; rfl) ⟨Chg.refl _ _, rfl⟩, ⟨fun w19 hc20 => by have hS := hS.chg0 hc20; rintro _ rfl _ rfl; exact Sv_val rfl (R_pick_f rfl rfl hg12 rfl) ⟨Chg.refl _ _, rfl⟩, trivial⟩⟩⟩⟩⟩⟩⟩⟩⟩⟩⟩⟩⟩⟩⟩⟩⟩⟩⟩⟩ ?_
    intro w19 hc20
    have hS := hS.chg0 hc20
    rintro _ rfl _ rfl _ rfl _ rfl _ rfl _ rfl _ rfl _ rfl _ rfl _ rfl _ rfl _ rfl _ rfl _ rfl _ rfl _ rfl _ rfl _ rfl _ rfl _ rfl
    refine An_fr [(3, .pointer (some ⟨b2, 0, none⟩)), (6, .pointer (some ⟨b4, 0, none⟩)), (8, .pointer (some ⟨b8, 0, none⟩)), (10, .int .i64 (i : Int)), (48, .bool false)] rfl ?_
    refine An_done (by decide +kernel) ?_
    refine E_then ?_
    refine C_else rfl rfl ?_
    refine C_skip ?_
    refine E_block_normal ?_
    refine E_then ?_
    refine C_region ?_
    refine W_cons rfl (by decide) (Sv_val rfl (R_move rfl rfl) ?_)
    refine W_cons rfl (by decide) (Sv_val rfl (R_add64 rfl rfl rfl (by omega) (by omega)) ?_)
    refine W_cons rfl (by decide) (Sv_val rfl (R_assign rfl rfl) ?_)
    refine W_nil ?_
    refine E_round [3, 6, 8, 10] ?_ ⟨(i + 1 : Nat), rfl, (by omega), (by exact find_step (p := (fun x : TCell => decide (x.Row = (rregionS a0 a1 a2).1.Row) && decide (x.Col = (rregionS a0 a1 a2).1.Col))) default (by omega) hI0_1 (by simp_all)), rfl, hS.fin [0, 1, 2] (by decide) rfl⟩
    omega
  ·have _hC1 := trivial
   have hC1p : ¬ ((i : Int) < (a0.Cells.length : Int)) := by simpa using hC1
   refine C_exit ?_
   refine E_then_exit ?_
   refine E_then_exit ?_
   refine E_block_hit ?_
   refine E_then (C_fr [(6, .pointer (some ⟨b4, 0, none⟩)), (8, .pointer (some ⟨b8, 0, none⟩))] rfl ?_)
   refine C_seq ?_
   refine C_region ?_
   refine W_cons rfl (by decide) (Sv_val rfl (R_fld rfl rfl fld33_0) ?_)
   refine W_cons rfl (by decide) (Sv_val rfl (R_load1 rfl rfl agg3 ((hS.bx 2 rfl).cell rfl)) ?_)
   refine W_cons rfl (by decide) (Sv_val rfl (R_fld rfl rfl fld33_1) ?_)
   refine W_cons rfl (by decide) (Sv_val rfl (R_load1 rfl rfl agg3 ((hS.bx 2 rfl).cell rfl)) ?_)
   refine W_cons rfl (by decide) (Sv_val rfl (R_build (w' := w11) (ps := [(0, (.tmp 55)), (1, (.tmp 57))]) (vs := [.int .i64 (rregionS a0 a1 a2).1.Row, .int .i64 (rregionS a0 a1 a2).1.Col]) (r := .agg #[.int .i64 (rregionS a0 a1 a2).1.Row, .int .i64 (rregionS a0 a1 a2).1.Col, vstr [], .int .i64 0, .int .i64 0, .int .i64 0]) rfl rfl rfl (by kernel_rfl)) ?_)
   refine W_cons0 rfl (S_store hS 1 rfl rfl rfl rfl rfl size46 (one_cons rfl (one_cons rfl (one_cons rfl (one_cons rfl (one_cons rfl (one_cons rfl one_nil)))))) (Nat.le_of_ble_eq_true rfl) (fun w22 hS => ?_))
   have hS : Sp (FF []) w z w22 [bR b2 39 [.int .i64 a0.Right, .slice Aa0_Widths a0.Widths.length ca0_Widths, .slice Aa0_Heights a0.Heights.length ca0_Heights, .slice Aa0_Cells a0.Cells.length ca0_Cells, .slice Aa0_Merges a0.Merges.length ca0_Merges], bR b4 46 [.int .i64 (rregionS a0 a1 a2).1.Row, .int .i64 (rregionS a0 a1 a2).1.Col, vstr [], .int .i64 0, .int .i64 0, .int .i64 0], bR b8 33 [.int .i64 (rregionS a0 a1 a2).1.Row, .int .i64 (rregionS a0 a1 a2).1.Col, .int .i64 (rregionS a0 a1 a2).1.Rows, .int .i64 (rregionS a0 a1 a2).1.Cols]] := hS
   refine W_cons rfl (by decide) (Sv_val rfl (R_assign rfl rfl) ?_)
   refine W_nil ?_
   refine E_then (C_fr [(6, .pointer (some ⟨b4, 0, none⟩)), (7, .int .i64 0)] rfl ?_)
   refine C_ret ?_
   refine E_rv2 rfl (RV_cellN (cs := [.int .i64 (rregionS a0 a1 a2).1.Row, .int .i64 (rregionS a0 a1 a2).1.Col, vstr [], .int .i64 0, .int .i64 0, .int .i64 0]) rfl agg46 size46 rfl (boxcells (hS.bx 1 rfl) 0 rfl)) (RV_tmp rfl) ?_
   exact ⟨Lret2 (show (.agg #[.int .i64 (rregionS a0 a1 a2).1.Row, .int .i64 (rregionS a0 a1 a2).1.Col, vstr [], .int .i64 0, .int .i64 0, .int .i64 0] : Value) = .agg #[.int .i64 (rgetS a0 a1 a2).1.Row, .int .i64 (rgetS a0 a1 a2).1.Col, vstr (rgetS a0 a1 a2).1.Text, .int .i64 (rgetS a0 a1 a2).1.Style.Align, .int .i64 (rgetS a0 a1 a2).1.Style.Wrap, .int .i64 (rgetS a0 a1 a2).1.Style.Dir] by first | (rw [rget_bad (by assumption)] <;> rfl) | (rw [rget_end (i := i) (by omega) (by omega) hI0_1] <;> rfl) | (rw [rget_hit (i := i) (by omega) (by omega) hI0_1 (by assumption) (by assumption)] <;> rfl)) (Lint (show 0 = (rgetS a0 a1 a2).2 by first | (rw [rget_bad (by assumption)] <;> rfl) | (rw [rget_end (i := i) (by omega) (by omega) hI0_1] <;> rfl) | (rw [rget_hit (i := i) (by omega) (by omega) hI0_1 (by assumption) (by assumption)] <;> rfl))), hS.fin [] (by decide) rfl⟩

end Go.Proofs.YtgjnhmidbapjmaaG
