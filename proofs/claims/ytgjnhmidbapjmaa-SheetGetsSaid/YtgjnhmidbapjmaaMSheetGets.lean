/- The walk of the law SheetGets: it returns true. -/
import Derived.Test.YtgjnhmidbapjmaaU6
set_option linter.all false
namespace Go.Proofs.YtgjnhmidbapjmaaG
open Go Go.RowKit
set_option maxHeartbeats 400000 in
set_option maxRecDepth 20000 in
theorem sheetGets_calls (a0 : TSheet) (Aa0_Widths : Option Addr) (ca0_Widths : Nat) (Aa0_Heights : Option Addr) (ca0_Heights : Nat) (Aa0_Cells : Option Addr) (ca0_Cells : Nat) (Aa0_Merges : Option Addr) (ca0_Merges : Nat) (a1 : Int) (a2 : Int) (z : Z) (w : World) (hI : In z w []) (hra0_Widths : Rd (kint .i64) z Aa0_Widths a0.Widths) (hca0_Widths : Cap Aa0_Widths a0.Widths.length ca0_Widths) (hra0_Heights : Rd (kint .i64) z Aa0_Heights a0.Heights) (hca0_Heights : Cap Aa0_Heights a0.Heights.length ca0_Heights) (hra0_Cells : Rd kdTCell z Aa0_Cells a0.Cells) (hca0_Cells : Cap Aa0_Cells a0.Cells.length ca0_Cells) (hra0_Merges : Rd kdTRect z Aa0_Merges a0.Merges) (hca0_Merges : Cap Aa0_Merges a0.Merges.length ca0_Merges) (p0 : SheetG a0) (p1 : I64 a1) (p2 : I64 a2) :
    Calls Try.prog 8 #[.agg #[.int .i64 a0.Right, .slice Aa0_Widths a0.Widths.length ca0_Widths, .slice Aa0_Heights a0.Heights.length ca0_Heights, .slice Aa0_Cells a0.Cells.length ca0_Cells, .slice Aa0_Merges a0.Merges.length ca0_Merges], .int .i64 a1, .int .i64 a2] w fun e w' => e = .returned (.bool true) ∧ Sp (FF []) w z w' [] := by
 have hla0_Widths := hca0_Widths.le
 have hma0_Widths := hca0_Widths.mx
 have hla0_Heights := hca0_Heights.le
 have hma0_Heights := hca0_Heights.mx
 have hla0_Cells := hca0_Cells.le
 have hma0_Cells := hca0_Cells.mx
 have hla0_Merges := hca0_Merges.le
 have hma0_Merges := hca0_Merges.mx
 have hS := hI.sp
 refine Calls_of (vs := [.agg #[.int .i64 a0.Right, .slice Aa0_Widths a0.Widths.length ca0_Widths, .slice Aa0_Heights a0.Heights.length ca0_Heights, .slice Aa0_Cells a0.Cells.length ca0_Cells, .slice Aa0_Merges a0.Merges.length ca0_Merges], .int .i64 a1, .int .i64 a2]) (N := 67) Try.func8 rfl rfl (Nat.le_of_ble_eq_true rfl) ?_
 refine C_seq ?_
 refine C_region ?_
 refine W_cons rfl (by decide) (S_box hS rfl (R_box (cs := [.int .i64 a0.Right, .slice Aa0_Widths a0.Widths.length ca0_Widths, .slice Aa0_Heights a0.Heights.length ca0_Heights, .slice Aa0_Cells a0.Cells.length ca0_Cells, .slice Aa0_Merges a0.Merges.length ca0_Merges]) rfl rfl rfl) (fun b2 w1 hS => ?_))
 refine W_cons rfl (by decide) (Sv_val rfl (R_assign rfl rfl) ?_)
 refine W_nil ?_
 refine E_then ?_
 refine C_seq ?_
 refine C_seq ?_
 refine C_region ?_
 refine W_cons rfl (by decide) (Sv_val rfl (R_loadN (cs := [.int .i64 a0.Right, .slice Aa0_Widths a0.Widths.length ca0_Widths, .slice Aa0_Heights a0.Heights.length ca0_Heights, .slice Aa0_Cells a0.Cells.length ca0_Cells, .slice Aa0_Merges a0.Merges.length ca0_Merges]) rfl rfl agg39 size39 rfl (boxcells (hS.bx 0 rfl) 0 rfl)) ?_)
 refine W_cons rfl (by decide) (Sv_call rfl rfl rfl ent30 ?_)
 refine (great_calls a0 Aa0_Widths ca0_Widths Aa0_Heights ca0_Heights Aa0_Cells ca0_Cells Aa0_Merges ca0_Merges _ _ hS.out0 (hra0_Widths.mono (hS.zl [])) hca0_Widths (hra0_Heights.mono (hS.zl [])) hca0_Heights (hra0_Cells.mono (hS.zl [])) hca0_Cells (hra0_Merges.mono (hS.zl [])) hca0_Merges ).mono ?_
 rintro e_ w3 ⟨rfl, hS_⟩
 refine ⟨_, rfl, ?_⟩
 have hS := hS.call0 hS_
 refine W_nil ?_
 refine E_then ?_
 refine C_ite rfl (fun hC0 => ?_) (fun hC0 => ?_)
 ·have _hC0 := trivial
  refine C_seq ?_
  refine C_region ?_
  refine W_cons rfl (by decide) (Sv_call rfl rfl rfl ent29 ?_)
  refine (lawk_calls  _ _ hS.out0  ).mono ?_
  rintro e_ w5 ⟨rfl, hS_⟩
  refine ⟨_, rfl, ?_⟩
  have hS := hS.call0 hS_
  refine W_cons rfl (by decide) (Sv_val rfl (R_assign rfl rfl) ?_)
  refine W_nil ?_
  refine E_then (C_fr [(6, .bool true)] rfl ?_)
  refine C_ret ?_
  refine E_then_ret ?_
  refine E_ret1 rfl rfl ?_
  exact ⟨Lret1 (Lbool (show true = true by rfl)), hS.fin [] (by decide) rfl⟩
 ·have _hC0 := trivial
  have hsi := p0.I (by simpa using hC0)
  refine C_skip ?_
  refine E_then ?_
  refine C_seq ?_
  refine C_region ?_
  refine W_cons rfl (by decide) (Sv_val rfl (R_loadN (cs := [.int .i64 a0.Right, .slice Aa0_Widths a0.Widths.length ca0_Widths, .slice Aa0_Heights a0.Heights.length ca0_Heights, .slice Aa0_Cells a0.Cells.length ca0_Cells, .slice Aa0_Merges a0.Merges.length ca0_Merges]) rfl rfl agg39 size39 rfl (boxcells (hS.bx 0 rfl) 0 rfl)) ?_)
  refine W_cons rfl (by decide) (Sv_val rfl (R_move rfl rfl) ?_)
  refine W_cons rfl (by decide) (Sv_val rfl (R_move rfl rfl) ?_)
  refine W_cons rfl (by decide) (Sv_call rfl rfl rfl ent31 ?_)
  refine (region_calls a0 Aa0_Widths ca0_Widths Aa0_Heights ca0_Heights Aa0_Cells ca0_Cells Aa0_Merges ca0_Merges a1 a2 _ _ hS.out0 (hra0_Widths.mono (hS.zl [])) hca0_Widths (hra0_Heights.mono (hS.zl [])) hca0_Heights (hra0_Cells.mono (hS.zl [])) hca0_Cells (hra0_Merges.mono (hS.zl [])) hca0_Merges ).mono ?_
  rintro e_ w7 ⟨rfl, hS_⟩
  refine ⟨_, rfl, ?_⟩
  have hS := hS.call0 hS_
  refine W_cons rfl (by decide) (Sv_val rfl (R_move rfl rfl) ?_)
  refine W_cons rfl (by decide) (Sv_val rfl (R_extract rfl rfl rfl) ?_)
  refine W_cons rfl (by decide) (Sv_val rfl (R_extract rfl rfl rfl) ?_)
  refine W_cons rfl (by decide) (S_box hS rfl (R_alloc rfl alloc33) (fun b10 w9 hS => ?_))
  refine W_cons0 rfl (S_store hS 0 rfl rfl rfl rfl rfl size33 (one_cons rfl (one_cons rfl (one_cons rfl (one_cons rfl one_nil)))) (Nat.le_of_ble_eq_true rfl) (fun w11 hS => ?_))
  have hS : Sp (FF []) w z w11 [bR b10 33 [.int .i64 (regionS a0 a1 a2).1.Row, .int .i64 (regionS a0 a1 a2).1.Col, .int .i64 (regionS a0 a1 a2).1.Rows, .int .i64 (regionS a0 a1 a2).1.Cols], bR b2 39 [.int .i64 a0.Right, .slice Aa0_Widths a0.Widths.length ca0_Widths, .slice Aa0_Heights a0.Heights.length ca0_Heights, .slice Aa0_Cells a0.Cells.length ca0_Cells, .slice Aa0_Merges a0.Merges.length ca0_Merges]] := hS
  refine W_cons rfl (by decide) (Sv_val rfl (R_assign rfl rfl) ?_)
  refine W_nil ?_
  refine E_then (C_fr [(1, .int .i64 a1), (2, .int .i64 a2), (3, .pointer (some ⟨b2, 0, none⟩)), (7, .pointer (some ⟨b10, 0, none⟩)), (8, .int .i64 (regionS a0 a1 a2).2)] rfl ?_)
  refine C_seq ?_
  refine C_region ?_
  refine W_cons rfl (by decide) (Sv_val rfl (R_loadN (cs := [.int .i64 a0.Right, .slice Aa0_Widths a0.Widths.length ca0_Widths, .slice Aa0_Heights a0.Heights.length ca0_Heights, .slice Aa0_Cells a0.Cells.length ca0_Cells, .slice Aa0_Merges a0.Merges.length ca0_Merges]) rfl rfl agg39 size39 rfl (boxcells (hS.bx 1 rfl) 0 rfl)) ?_)
  refine W_cons rfl (by decide) (Sv_val rfl (R_move rfl rfl) ?_)
  refine W_cons rfl (by decide) (Sv_val rfl (R_move rfl rfl) ?_)
  refine W_cons rfl (by decide) (Sv_call rfl rfl rfl ent32 ?_)
  refine (rregion_calls a0 Aa0_Widths ca0_Widths Aa0_Heights ca0_Heights Aa0_Cells ca0_Cells Aa0_Merges ca0_Merges a1 a2 _ _ hS.out0 (hra0_Widths.mono (hS.zl [])) hca0_Widths (hra0_Heights.mono (hS.zl [])) hca0_Heights (hra0_Cells.mono (hS.zl [])) hca0_Cells (hra0_Merges.mono (hS.zl [])) hca0_Merges ).mono ?_
  rintro e_ w12 ⟨rfl, hS_⟩
  refine ⟨_, rfl, ?_⟩
  have hS := hS.call0 hS_
  refine W_cons rfl (by decide) (Sv_val rfl (R_move rfl rfl) ?_)
  refine W_cons rfl (by decide) (Sv_val rfl (R_extract rfl rfl rfl) ?_)
  refine W_cons rfl (by decide) (Sv_val rfl (R_extract rfl rfl rfl) ?_)
  refine W_cons rfl (by decide) (S_box hS rfl (R_alloc rfl alloc33) (fun b15 w14 hS => ?_))
  refine W_cons0 rfl (S_store hS 0 rfl rfl rfl rfl rfl size33 (one_cons rfl (one_cons rfl (one_cons rfl (one_cons rfl one_nil)))) (Nat.le_of_ble_eq_true rfl) (fun w16 hS => ?_))
  have hS : Sp (FF []) w z w16 [bR b15 33 [.int .i64 (rregionS a0 a1 a2).1.Row, .int .i64 (rregionS a0 a1 a2).1.Col, .int .i64 (rregionS a0 a1 a2).1.Rows, .int .i64 (rregionS a0 a1 a2).1.Cols], bR b10 33 [.int .i64 (regionS a0 a1 a2).1.Row, .int .i64 (regionS a0 a1 a2).1.Col, .int .i64 (regionS a0 a1 a2).1.Rows, .int .i64 (regionS a0 a1 a2).1.Cols], bR b2 39 [.int .i64 a0.Right, .slice Aa0_Widths a0.Widths.length ca0_Widths, .slice Aa0_Heights a0.Heights.length ca0_Heights, .slice Aa0_Cells a0.Cells.length ca0_Cells, .slice Aa0_Merges a0.Merges.length ca0_Merges]] := hS
  refine W_cons rfl (by decide) (Sv_val rfl (R_assign rfl rfl) ?_)
  refine W_nil ?_
  refine E_then (C_fr [(1, .int .i64 a1), (2, .int .i64 a2), (3, .pointer (some ⟨b2, 0, none⟩)), (7, .pointer (some ⟨b10, 0, none⟩)), (8, .int .i64 (regionS a0 a1 a2).2), (9, .pointer (some ⟨b15, 0, none⟩)), (10, .int .i64 (rregionS a0 a1 a2).2)] rfl ?_)
  refine C_seq ?_
  refine C_region ?_
  refine W_cons rfl (by decide) (Sv_val rfl (R_loadN (cs := [.int .i64 a0.Right, .slice Aa0_Widths a0.Widths.length ca0_Widths, .slice Aa0_Heights a0.Heights.length ca0_Heights, .slice Aa0_Cells a0.Cells.length ca0_Cells, .slice Aa0_Merges a0.Merges.length ca0_Merges]) rfl rfl agg39 size39 rfl (boxcells (hS.bx 2 rfl) 0 rfl)) ?_)
  refine W_cons rfl (by decide) (Sv_val rfl (R_move rfl rfl) ?_)
  refine W_cons rfl (by decide) (Sv_val rfl (R_move rfl rfl) ?_)
  refine W_cons rfl (by decide) (Sv_call rfl rfl rfl ent33 ?_)
  refine (get_calls a0 Aa0_Widths ca0_Widths Aa0_Heights ca0_Heights Aa0_Cells ca0_Cells Aa0_Merges ca0_Merges a1 a2 _ _ hS.out0 (hra0_Widths.mono (hS.zl [])) hca0_Widths (hra0_Heights.mono (hS.zl [])) hca0_Heights (hra0_Cells.mono (hS.zl [])) hca0_Cells (hra0_Merges.mono (hS.zl [])) hca0_Merges ).mono ?_
  rintro e_ w17 ⟨rfl, hS_⟩
  refine ⟨_, rfl, ?_⟩
  have hS := hS.call0 hS_
  refine W_cons rfl (by decide) (Sv_val rfl (R_move rfl rfl) ?_)
  refine W_cons rfl (by decide) (Sv_val rfl (R_extract rfl rfl rfl) ?_)
  refine W_cons rfl (by decide) (Sv_val rfl (R_extract rfl rfl rfl) ?_)
  refine W_cons rfl (by decide) (S_box hS rfl (R_alloc rfl alloc46) (fun b20 w19 hS => ?_))
  refine W_cons0 rfl (S_store hS 0 rfl rfl rfl rfl rfl size46 (one_cons rfl (one_cons rfl (one_cons rfl (one_cons rfl (one_cons rfl (one_cons rfl one_nil)))))) (Nat.le_of_ble_eq_true rfl) (fun w21 hS => ?_))
  have hS : Sp (FF []) w z w21 [bR b20 46 [.int .i64 (getS a0 a1 a2).1.Row, .int .i64 (getS a0 a1 a2).1.Col, vstr (getS a0 a1 a2).1.Text, .int .i64 (getS a0 a1 a2).1.Style.Align, .int .i64 (getS a0 a1 a2).1.Style.Wrap, .int .i64 (getS a0 a1 a2).1.Style.Dir], bR b15 33 [.int .i64 (rregionS a0 a1 a2).1.Row, .int .i64 (rregionS a0 a1 a2).1.Col, .int .i64 (rregionS a0 a1 a2).1.Rows, .int .i64 (rregionS a0 a1 a2).1.Cols], bR b10 33 [.int .i64 (regionS a0 a1 a2).1.Row, .int .i64 (regionS a0 a1 a2).1.Col, .int .i64 (regionS a0 a1 a2).1.Rows, .int .i64 (regionS a0 a1 a2).1.Cols], bR b2 39 [.int .i64 a0.Right, .slice Aa0_Widths a0.Widths.length ca0_Widths, .slice Aa0_Heights a0.Heights.length ca0_Heights, .slice Aa0_Cells a0.Cells.length ca0_Cells, .slice Aa0_Merges a0.Merges.length ca0_Merges]] := hS
  refine W_cons rfl (by decide) (Sv_val rfl (R_assign rfl rfl) ?_)
  refine W_nil ?_
  refine E_then (C_fr [(1, .int .i64 a1), (2, .int .i64 a2), (3, .pointer (some ⟨b2, 0, none⟩)), (7, .pointer (some ⟨b10, 0, none⟩)), (8, .int .i64 (regionS a0 a1 a2).2), (9, .pointer (some ⟨b15, 0, none⟩)), (10, .int .i64 (rregionS a0 a1 a2).2), (11, .pointer (some ⟨b20, 0, none⟩)), (12, .int .i64 (getS a0 a1 a2).2)] rfl ?_)
  refine C_seq ?_
  refine C_region ?_
  refine W_cons rfl (by decide) (Sv_val rfl (R_loadN (cs := [.int .i64 a0.Right, .slice Aa0_Widths a0.Widths.length ca0_Widths, .slice Aa0_Heights a0.Heights.length ca0_Heights, .slice Aa0_Cells a0.Cells.length ca0_Cells, .slice Aa0_Merges a0.Merges.length ca0_Merges]) rfl rfl agg39 size39 rfl (boxcells (hS.bx 3 rfl) 0 rfl)) ?_)
  refine W_cons rfl (by decide) (Sv_val rfl (R_move rfl rfl) ?_)
  refine W_cons rfl (by decide) (Sv_val rfl (R_move rfl rfl) ?_)
  refine W_cons rfl (by decide) (Sv_call rfl rfl rfl ent34 ?_)
  refine (rget_calls a0 Aa0_Widths ca0_Widths Aa0_Heights ca0_Heights Aa0_Cells ca0_Cells Aa0_Merges ca0_Merges a1 a2 _ _ hS.out0 (hra0_Widths.mono (hS.zl [])) hca0_Widths (hra0_Heights.mono (hS.zl [])) hca0_Heights (hra0_Cells.mono (hS.zl [])) hca0_Cells (hra0_Merges.mono (hS.zl [])) hca0_Merges ).mono ?_
  rintro e_ w22 ⟨rfl, hS_⟩
  refine ⟨_, rfl, ?_⟩
  have hS := hS.call0 hS_
  refine W_cons rfl (by decide) (Sv_val rfl (R_move rfl rfl) ?_)
  refine W_cons rfl (by decide) (Sv_val rfl (R_extract rfl rfl rfl) ?_)
  refine W_cons rfl (by decide) (Sv_val rfl (R_extract rfl rfl rfl) ?_)
  refine W_cons rfl (by decide) (S_box hS rfl (R_alloc rfl alloc46) (fun b25 w24 hS => ?_))
  refine W_cons0 rfl (S_store hS 0 rfl rfl rfl rfl rfl size46 (one_cons rfl (one_cons rfl (one_cons rfl (one_cons rfl (one_cons rfl (one_cons rfl one_nil)))))) (Nat.le_of_ble_eq_true rfl) (fun w26 hS => ?_))
  have hS : Sp (FF []) w z w26 [bR b25 46 [.int .i64 (rgetS a0 a1 a2).1.Row, .int .i64 (rgetS a0 a1 a2).1.Col, vstr (rgetS a0 a1 a2).1.Text, .int .i64 (rgetS a0 a1 a2).1.Style.Align, .int .i64 (rgetS a0 a1 a2).1.Style.Wrap, .int .i64 (rgetS a0 a1 a2).1.Style.Dir], bR b20 46 [.int .i64 (getS a0 a1 a2).1.Row, .int .i64 (getS a0 a1 a2).1.Col, vstr (getS a0 a1 a2).1.Text, .int .i64 (getS a0 a1 a2).1.Style.Align, .int .i64 (getS a0 a1 a2).1.Style.Wrap, .int .i64 (getS a0 a1 a2).1.Style.Dir], bR b15 33 [.int .i64 (rregionS a0 a1 a2).1.Row, .int .i64 (rregionS a0 a1 a2).1.Col, .int .i64 (rregionS a0 a1 a2).1.Rows, .int .i64 (rregionS a0 a1 a2).1.Cols], bR b10 33 [.int .i64 (regionS a0 a1 a2).1.Row, .int .i64 (regionS a0 a1 a2).1.Col, .int .i64 (regionS a0 a1 a2).1.Rows, .int .i64 (regionS a0 a1 a2).1.Cols], bR b2 39 [.int .i64 a0.Right, .slice Aa0_Widths a0.Widths.length ca0_Widths, .slice Aa0_Heights a0.Heights.length ca0_Heights, .slice Aa0_Cells a0.Cells.length ca0_Cells, .slice Aa0_Merges a0.Merges.length ca0_Merges]] := hS
  refine W_cons rfl (by decide) (Sv_val rfl (R_assign rfl rfl) ?_)
  refine W_nil ?_
  refine E_then (C_fr [(7, .pointer (some ⟨b10, 0, none⟩)), (8, .int .i64 (regionS a0 a1 a2).2), (9, .pointer (some ⟨b15, 0, none⟩)), (10, .int .i64 (rregionS a0 a1 a2).2), (11, .pointer (some ⟨b20, 0, none⟩)), (12, .int .i64 (getS a0 a1 a2).2), (13, .pointer (some ⟨b25, 0, none⟩)), (14, .int .i64 (rgetS a0 a1 a2).2)] rfl ?_)
  refine C_seq ?_
  refine C_region ?_
  refine W_cons rfl (by decide) (Sv_val rfl (R_loadN (cs := [.int .i64 (regionS a0 a1 a2).1.Row, .int .i64 (regionS a0 a1 a2).1.Col, .int .i64 (regionS a0 a1 a2).1.Rows, .int .i64 (regionS a0 a1 a2).1.Cols]) rfl rfl agg33 size33 rfl (boxcells (hS.bx 3 rfl) 0 rfl)) ?_)
  refine W_cons rfl (by decide) (Sv_val rfl (R_loadN (cs := [.int .i64 (rregionS a0 a1 a2).1.Row, .int .i64 (rregionS a0 a1 a2).1.Col, .int .i64 (rregionS a0 a1 a2).1.Rows, .int .i64 (rregionS a0 a1 a2).1.Cols]) rfl rfl agg33 size33 rfl (boxcells (hS.bx 2 rfl) 0 rfl)) ?_)
  refine W_cons rfl (by decide) (Sv_val rfl (R_eqv rfl rfl rfl eqg33 ((eqv33 (regionS a0 a1 a2).1 (rregionS a0 a1 a2).1).up 2)) ?_)
  refine W_cons rfl (by decide) (Sv_val rfl (R_move rfl rfl) ?_)
  have hk27 : (decide ((regionS a0 a1 a2).1 = (rregionS a0 a1 a2).1)) = true := by rw [region_law hsi p1 p2]; simp
  have hk27p : (regionS a0 a1 a2).1 = (rregionS a0 a1 a2).1 := by simpa using hk27
  refine W_cons rfl (by decide) (Sv_gt rfl rfl rfl hk27 (Sv_val rfl (R_move rfl rfl) ?_))
  refine W_cons rfl (by decide) (Sv_gt rfl rfl rfl hk27 (Sv_val rfl (R_move rfl rfl) ?_))
  refine W_cons rfl (by decide) (Sv_gt rfl rfl rfl hk27 (Sv_val rfl (R_bin rfl rfl rfl rfl rfl) ?_))
  refine W_cons rfl (by decide) (Sv_val rfl (R_pick_t rfl rfl hk27 rfl) ?_)
  refine W_cons rfl (by decide) (Sv_val rfl (R_move rfl rfl) ?_)
  have hk28 : (((regionS a0 a1 a2).2 == (rregionS a0 a1 a2).2)) = true := by rw [region_law hsi p1 p2]; simp
  have hk28p : (regionS a0 a1 a2).2 = (rregionS a0 a1 a2).2 := by simpa using hk28
  refine W_cons rfl (by decide) (Sv_gt rfl rfl rfl hk28 (Sv_val rfl (R_loadN (cs := [.int .i64 (getS a0 a1 a2).1.Row, .int .i64 (getS a0 a1 a2).1.Col, vstr (getS a0 a1 a2).1.Text, .int .i64 (getS a0 a1 a2).1.Style.Align, .int .i64 (getS a0 a1 a2).1.Style.Wrap, .int .i64 (getS a0 a1 a2).1.Style.Dir]) rfl rfl agg46 size46 rfl (boxcells (hS.bx 1 rfl) 0 rfl)) ?_))
  refine W_cons rfl (by decide) (Sv_gt rfl rfl rfl hk28 (Sv_val rfl (R_loadN (cs := [.int .i64 (rgetS a0 a1 a2).1.Row, .int .i64 (rgetS a0 a1 a2).1.Col, vstr (rgetS a0 a1 a2).1.Text, .int .i64 (rgetS a0 a1 a2).1.Style.Align, .int .i64 (rgetS a0 a1 a2).1.Style.Wrap, .int .i64 (rgetS a0 a1 a2).1.Style.Dir]) rfl rfl agg46 size46 rfl (boxcells (hS.bx 0 rfl) 0 rfl)) ?_))
  refine W_cons rfl (by decide) (Sv_gt rfl rfl rfl hk28 (Sv_val rfl (R_eqv rfl rfl rfl eqg46 ((eqv46 (getS a0 a1 a2).1 (rgetS a0 a1 a2).1).up 1)) ?_))
  refine W_cons rfl (by decide) (Sv_val rfl (R_pick_t rfl rfl hk28 rfl) ?_)
  refine W_cons rfl (by decide) (Sv_val rfl (R_move rfl rfl) ?_)
  have hk29 : (decide ((getS a0 a1 a2).1 = (rgetS a0 a1 a2).1)) = true := by rw [get_law hsi p1 p2]; simp
  have hk29p : (getS a0 a1 a2).1 = (rgetS a0 a1 a2).1 := by simpa using hk29
  refine W_cons rfl (by decide) (Sv_gt rfl rfl rfl hk29 (Sv_val rfl (R_move rfl rfl) ?_))
  refine W_cons rfl (by decide) (Sv_gt rfl rfl rfl hk29 (Sv_val rfl (R_move rfl rfl) ?_))
  refine W_cons rfl (by decide) (Sv_gt rfl rfl rfl hk29 (Sv_val rfl (R_bin rfl rfl rfl rfl rfl) ?_))
  refine W_cons rfl (by decide) (Sv_val rfl (R_pick_t rfl rfl hk29 rfl) ?_)
  refine W_cons rfl (by decide) (Sv_val rfl (R_move rfl rfl) ?_)
  have hk30 : (((getS a0 a1 a2).2 == (rgetS a0 a1 a2).2)) = true := by rw [get_law hsi p1 p2]; simp
  have hk30p : (getS a0 a1 a2).2 = (rgetS a0 a1 a2).2 := by simpa using hk30
  refine W_cons rfl (by decide) (Sv_gt rfl rfl rfl hk30 (Sv_call rfl rfl rfl ent29 ?_))
  refine (lawk_calls  _ _ hS.out0  ).mono ?_
  rintro e_ w31 ⟨rfl, hS_⟩
  refine ⟨_, rfl, ?_⟩
  have hS := hS.call0 hS_
  refine W_cons rfl (by decide) (Sv_val rfl (R_pick_t rfl rfl hk30 rfl) ?_)
  refine W_cons rfl (by decide) (Sv_val rfl (R_assign rfl rfl) ?_)
  refine W_nil ?_
  refine E_then (C_fr [(6, .bool true)] rfl ?_)
  refine C_ret ?_
  refine E_ret1 rfl rfl ?_
  exact ⟨Lret1 (Lbool (show true = true by rfl)), hS.fin [] (by decide) rfl⟩

end Go.Proofs.YtgjnhmidbapjmaaG
