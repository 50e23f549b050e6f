/- Walks, each function once: what it computes. -/
import Derived.Test.YtalpekmbknjeeaaE0
set_option linter.all false
namespace Go.Proofs.YtalpekmbknjeeaaG
open Go Go.RowKit
set_option maxHeartbeats 400000 in
set_option maxRecDepth 20000 in
theorem ways_calls  (z : Z) (w : World) (hI : In z w [])   :
    Calls Try.prog 25 #[] w fun e w' => e = .returned (.agg #[.complex .f64 wayA.e0.re.bits wayA.e0.im.bits, .complex .f64 wayA.e1.re.bits wayA.e1.im.bits, .complex .f64 wayA.e2.re.bits wayA.e2.im.bits, .complex .f64 wayA.e3.re.bits wayA.e3.im.bits]) ∧ Sp (FF []) w z w' [] := by
 have hS := hI.sp
 refine Calls_of (vs := []) (N := 2) Try.func25 rfl rfl (Nat.le_of_ble_eq_true rfl) ?_
 refine C_seq ?_
 refine C_region ?_
 refine W_cons rfl (by decide) (S_box hS rfl (R_alloc rfl alloc51) (fun b2 w1 hS => ?_))
 refine W_nil ?_
 refine E_then ?_
 refine C_seq ?_
 refine C_region ?_
 refine wv rfl rfl rfl (R_build (w' := w1) (ps := [(0, (.const (.complex FloatKind.f64 4607182418800017408 0))), (1, (.const (.complex FloatKind.f64 0 4607182418800017408))), (2, (.const (.complex FloatKind.f64 13830554455654793216 0))), (3, (.const (.complex FloatKind.f64 0 13830554455654793216)))]) (vs := [.complex .f64 (Fl.ofInt 1).bits (Fl.ofInt 0).bits, .complex .f64 (Fl.ofInt 0).bits (Fl.ofInt 1).bits, .complex .f64 (Fl.ofInt (-1)).bits (Fl.ofInt 0).bits, .complex .f64 (Fl.ofInt 0).bits (Fl.ofInt (-1)).bits]) (r := .agg #[.complex .f64 (Fl.ofInt 1).bits (Fl.ofInt 0).bits, .complex .f64 (Fl.ofInt 0).bits (Fl.ofInt 1).bits, .complex .f64 (Fl.ofInt (-1)).bits (Fl.ofInt 0).bits, .complex .f64 (Fl.ofInt 0).bits (Fl.ofInt (-1)).bits]) rfl rfl (by kernel_rfl) (by kernel_rfl)) ?_
 refine W_cons0 rfl (S_store hS 0 rfl rfl rfl rfl rfl size51 (one_cons rfl (one_cons rfl (one_cons rfl (one_cons rfl one_nil)))) (Nat.le_of_ble_eq_true rfl) (fun w3 hS => ?_))
 have hS : Sp (FF []) w z w3 [bR b2 51 [.complex .f64 (Fl.ofInt 1).bits (Fl.ofInt 0).bits, .complex .f64 (Fl.ofInt 0).bits (Fl.ofInt 1).bits, .complex .f64 (Fl.ofInt (-1)).bits (Fl.ofInt 0).bits, .complex .f64 (Fl.ofInt 0).bits (Fl.ofInt (-1)).bits]] := hS
 refine W_nil ?_
 refine E_then ?_
 refine C_ret ?_
 refine E_rv1 rfl (RV_cellN (cs := [.complex .f64 (Fl.ofInt 1).bits (Fl.ofInt 0).bits, .complex .f64 (Fl.ofInt 0).bits (Fl.ofInt 1).bits, .complex .f64 (Fl.ofInt (-1)).bits (Fl.ofInt 0).bits, .complex .f64 (Fl.ofInt 0).bits (Fl.ofInt (-1)).bits]) rfl agg51 size51 rfl (boxcells (hS.bx 0 rfl) 0 rfl)) ?_
 exact ⟨Lret1 (show (.agg #[.complex .f64 (Fl.ofInt 1).bits (Fl.ofInt 0).bits, .complex .f64 (Fl.ofInt 0).bits (Fl.ofInt 1).bits, .complex .f64 (Fl.ofInt (-1)).bits (Fl.ofInt 0).bits, .complex .f64 (Fl.ofInt 0).bits (Fl.ofInt (-1)).bits] : Value) = .agg #[.complex .f64 wayA.e0.re.bits wayA.e0.im.bits, .complex .f64 wayA.e1.re.bits wayA.e1.im.bits, .complex .f64 wayA.e2.re.bits wayA.e2.im.bits, .complex .f64 wayA.e3.re.bits wayA.e3.im.bits] by rfl), hS.fin [] (by decide) rfl⟩

set_option maxHeartbeats 400000 in
set_option maxRecDepth 20000 in
theorem emir_calls (a0 : Cx) (z : Z) (w : World) (hI : In z w [])  (p0 : a0.re.n.natAbs ≤ 1 ∧ a0.im.n.natAbs ≤ 1) :
    Calls Try.prog 35 #[.complex .f64 a0.re.bits a0.im.bits] w fun e w' => e = .returned (.complex .f64 (mirW a0).re.bits (mirW a0).im.bits) ∧ Sp (FF []) w z w' [] := by
 have hS := hI.sp
 refine Calls_of (vs := [.complex .f64 a0.re.bits a0.im.bits]) (N := 9) Try.func35 rfl rfl (Nat.le_of_ble_eq_true rfl) ?_
 refine C_seq ?_
 refine C_region ?_
 refine wv rfl rfl rfl (R_assign rfl rfl) ?_
 refine W_nil ?_
 refine E_then ?_
 refine C_seq ?_
 refine C_region ?_
 refine wv rfl rfl rfl (R_move rfl rfl) <| wv rfl rfl rfl (R_real rfl rfl) <| wv rfl rfl rfl (R_negf rfl rfl (by simp [Fl.ok]; omega)) <| wv rfl rfl rfl (R_move rfl rfl) <| wv rfl rfl rfl (R_imag rfl rfl) <| wv rfl rfl rfl (R_cx rfl rfl) <| wv rfl rfl rfl (R_assign rfl rfl) ?_
 refine W_nil ?_
 refine E_then (C_fr [(2, .complex .f64 a0.re.opp.bits a0.im.bits)] rfl ?_)
 refine C_ret ?_
 refine E_ret1 rfl rfl ?_
 exact ⟨Lret1 (show (.complex .f64 a0.re.opp.bits a0.im.bits : Value) = .complex .f64 (mirW a0).re.bits (mirW a0).im.bits by rfl), hS.fin [] (by decide) rfl⟩

set_option maxHeartbeats 400000 in
set_option maxRecDepth 20000 in
theorem signs_calls  (z : Z) (w : World) (hI : In z w [])   :
    Calls Try.prog 36 #[] w fun e w' => e = .returned (.agg #[.int .i32 signA.e0, .int .i32 signA.e1, .int .i32 signA.e2, .int .i32 signA.e3, .int .i32 signA.e4, .int .i32 signA.e5, .int .i32 signA.e6, .int .i32 signA.e7, .int .i32 signA.e8, .int .i32 signA.e9, .int .i32 signA.e10, .int .i32 signA.e11, .int .i32 signA.e12, .int .i32 signA.e13, .int .i32 signA.e14, .int .i32 signA.e15]) ∧ Sp (FF []) w z w' [] := by
 have hS := hI.sp
 refine Calls_of (vs := []) (N := 2) Try.func36 rfl rfl (Nat.le_of_ble_eq_true rfl) ?_
 refine C_seq ?_
 refine C_region ?_
 refine W_cons rfl (by decide) (S_box hS rfl (R_alloc rfl alloc66) (fun b2 w1 hS => ?_))
 refine W_nil ?_
 refine E_then ?_
 refine C_seq ?_
 refine C_region ?_
 refine wv rfl rfl rfl (R_build (w' := w1) (ps := [(0, (.const (.int .i32 0))), (1, (.const (.int .i32 9590))), (2, (.const (.int .i32 9591))), (3, (.const (.int .i32 9484))), (4, (.const (.int .i32 9588))), (5, (.const (.int .i32 9472))), (6, (.const (.int .i32 9488))), (7, (.const (.int .i32 9516))), (8, (.const (.int .i32 9589))), (9, (.const (.int .i32 9492))), (10, (.const (.int .i32 9474))), (11, (.const (.int .i32 9500))), (12, (.const (.int .i32 9496))), (13, (.const (.int .i32 9524))), (14, (.const (.int .i32 9508))), (15, (.const (.int .i32 9532)))]) (vs := [.int .i32 0, .int .i32 9590, .int .i32 9591, .int .i32 9484, .int .i32 9588, .int .i32 9472, .int .i32 9488, .int .i32 9516, .int .i32 9589, .int .i32 9492, .int .i32 9474, .int .i32 9500, .int .i32 9496, .int .i32 9524, .int .i32 9508, .int .i32 9532]) (r := .agg #[.int .i32 0, .int .i32 9590, .int .i32 9591, .int .i32 9484, .int .i32 9588, .int .i32 9472, .int .i32 9488, .int .i32 9516, .int .i32 9589, .int .i32 9492, .int .i32 9474, .int .i32 9500, .int .i32 9496, .int .i32 9524, .int .i32 9508, .int .i32 9532]) rfl rfl rfl (by kernel_rfl)) ?_
 refine W_cons0 rfl (S_store hS 0 rfl rfl rfl rfl rfl size66 (one_cons rfl (one_cons rfl (one_cons rfl (one_cons rfl (one_cons rfl (one_cons rfl (one_cons rfl (one_cons rfl (one_cons rfl (one_cons rfl (one_cons rfl (one_cons rfl (one_cons rfl (one_cons rfl (one_cons rfl (one_cons rfl one_nil)))))))))))))))) (Nat.le_of_ble_eq_true rfl) (fun w3 hS => ?_))
 have hS : Sp (FF []) w z w3 [bR b2 66 [.int .i32 0, .int .i32 9590, .int .i32 9591, .int .i32 9484, .int .i32 9588, .int .i32 9472, .int .i32 9488, .int .i32 9516, .int .i32 9589, .int .i32 9492, .int .i32 9474, .int .i32 9500, .int .i32 9496, .int .i32 9524, .int .i32 9508, .int .i32 9532]] := hS
 refine W_nil ?_
 refine E_then ?_
 refine C_ret ?_
 refine E_rv1 rfl (RV_cellN (cs := [.int .i32 0, .int .i32 9590, .int .i32 9591, .int .i32 9484, .int .i32 9588, .int .i32 9472, .int .i32 9488, .int .i32 9516, .int .i32 9589, .int .i32 9492, .int .i32 9474, .int .i32 9500, .int .i32 9496, .int .i32 9524, .int .i32 9508, .int .i32 9532]) rfl agg66 size66 rfl (boxcells (hS.bx 0 rfl) 0 rfl)) ?_
 exact ⟨Lret1 (show (.agg #[.int .i32 0, .int .i32 9590, .int .i32 9591, .int .i32 9484, .int .i32 9588, .int .i32 9472, .int .i32 9488, .int .i32 9516, .int .i32 9589, .int .i32 9492, .int .i32 9474, .int .i32 9500, .int .i32 9496, .int .i32 9524, .int .i32 9508, .int .i32 9532] : Value) = .agg #[.int .i32 signA.e0, .int .i32 signA.e1, .int .i32 signA.e2, .int .i32 signA.e3, .int .i32 signA.e4, .int .i32 signA.e5, .int .i32 signA.e6, .int .i32 signA.e7, .int .i32 signA.e8, .int .i32 signA.e9, .int .i32 signA.e10, .int .i32 signA.e11, .int .i32 signA.e12, .int .i32 signA.e13, .int .i32 signA.e14, .int .i32 signA.e15] by rfl), hS.fin [] (by decide) rfl⟩

set_option maxHeartbeats 400000 in
set_option maxRecDepth 20000 in
theorem sregion_calls (a0 : TSpot) (Aa0_s_Widths : Option Addr) (ca0_s_Widths : Nat) (Aa0_s_Heights : Option Addr) (ca0_s_Heights : Nat) (Aa0_s_Cells : Option Addr) (ca0_s_Cells : Nat) (Aa0_s_Merges : Option Addr) (ca0_s_Merges : Nat) (a1 : Int) (a2 : Int) (z : Z) (w : World) (hI : In z w []) (hra0_s_Widths : Rd (kint .i64) z Aa0_s_Widths a0.s.Widths) (hca0_s_Widths : Cap Aa0_s_Widths a0.s.Widths.length ca0_s_Widths) (hra0_s_Heights : Rd (kint .i64) z Aa0_s_Heights a0.s.Heights) (hca0_s_Heights : Cap Aa0_s_Heights a0.s.Heights.length ca0_s_Heights) (hra0_s_Cells : Rd kdTCell z Aa0_s_Cells a0.s.Cells) (hca0_s_Cells : Cap Aa0_s_Cells a0.s.Cells.length ca0_s_Cells) (hra0_s_Merges : Rd kdTRect z Aa0_s_Merges a0.s.Merges) (hca0_s_Merges : Cap Aa0_s_Merges a0.s.Merges.length ca0_s_Merges)  :
    Calls Try.prog 79 #[.agg #[.int .i64 a0.s.Right, .slice Aa0_s_Widths a0.s.Widths.length ca0_s_Widths, .slice Aa0_s_Heights a0.s.Heights.length ca0_s_Heights, .slice Aa0_s_Cells a0.s.Cells.length ca0_s_Cells, .slice Aa0_s_Merges a0.s.Merges.length ca0_s_Merges, .int .i64 a0.col, .int .i64 a0.row, .bool a0.across, .bool a0.down], .int .i64 a1, .int .i64 a2] w fun e w' => e = .returned (.tuple #[.agg #[.int .i64 (regionS a0.s a1 a2).1.Row, .int .i64 (regionS a0.s a1 a2).1.Col, .int .i64 (regionS a0.s a1 a2).1.Rows, .int .i64 (regionS a0.s a1 a2).1.Cols], .bool (decide ((regionS a0.s a1 a2).2 = 0))]) ∧ Sp (FF []) w z w' [] := by
 have hla0_s_Widths := hca0_s_Widths.le
 have hma0_s_Widths := hca0_s_Widths.mx
 have hla0_s_Heights := hca0_s_Heights.le
 have hma0_s_Heights := hca0_s_Heights.mx
 have hla0_s_Cells := hca0_s_Cells.le
 have hma0_s_Cells := hca0_s_Cells.mx
 have hla0_s_Merges := hca0_s_Merges.le
 have hma0_s_Merges := hca0_s_Merges.mx
 have hS := hI.sp
 refine Calls_of (vs := [.agg #[.int .i64 a0.s.Right, .slice Aa0_s_Widths a0.s.Widths.length ca0_s_Widths, .slice Aa0_s_Heights a0.s.Heights.length ca0_s_Heights, .slice Aa0_s_Cells a0.s.Cells.length ca0_s_Cells, .slice Aa0_s_Merges a0.s.Merges.length ca0_s_Merges, .int .i64 a0.col, .int .i64 a0.row, .bool a0.across, .bool a0.down], .int .i64 a1, .int .i64 a2]) (N := 21) Try.func79 rfl rfl (Nat.le_of_ble_eq_true rfl) ?_
 refine C_seq ?_
 refine C_region ?_
 refine W_cons rfl (by decide) (S_box hS rfl (R_box (cs := [.int .i64 a0.s.Right, .slice Aa0_s_Widths a0.s.Widths.length ca0_s_Widths, .slice Aa0_s_Heights a0.s.Heights.length ca0_s_Heights, .slice Aa0_s_Cells a0.s.Cells.length ca0_s_Cells, .slice Aa0_s_Merges a0.s.Merges.length ca0_s_Merges, .int .i64 a0.col, .int .i64 a0.row, .bool a0.across, .bool a0.down]) rfl rfl rfl) (fun b2 w1 hS => ?_))
 refine W_cons rfl (by decide) (S_box hS rfl (R_alloc rfl alloc39) (fun b4 w3 hS => ?_))
 refine wv rfl rfl rfl (R_assign rfl rfl) ?_
 refine W_nil ?_
 refine E_then ?_
 refine C_seq ?_
 refine C_region ?_
 refine wv rfl rfl rfl (R_fld rfl rfl fld50_0) <| wv rfl rfl rfl (R_loadN (cs := [.int .i64 a0.s.Right, .slice Aa0_s_Widths a0.s.Widths.length ca0_s_Widths, .slice Aa0_s_Heights a0.s.Heights.length ca0_s_Heights, .slice Aa0_s_Cells a0.s.Cells.length ca0_s_Cells, .slice Aa0_s_Merges a0.s.Merges.length ca0_s_Merges]) rfl rfl agg26 size26 rfl (boxcells (hS.bx 1 rfl) 0 rfl)) <| wv rfl rfl rfl (R_move rfl rfl) <| wv rfl rfl rfl (R_move rfl rfl) ?_
 refine W_cons rfl (by decide) (Sv_call rfl rfl rfl ent20 ?_)
 refine (region_calls a0.s Aa0_s_Widths ca0_s_Widths Aa0_s_Heights ca0_s_Heights Aa0_s_Cells ca0_s_Cells Aa0_s_Merges ca0_s_Merges a1 a2 _ _ hS.out0 (hra0_s_Widths.mono (hS.zl [])) hca0_s_Widths (hra0_s_Heights.mono (hS.zl [])) hca0_s_Heights (hra0_s_Cells.mono (hS.zl [])) hca0_s_Cells (hra0_s_Merges.mono (hS.zl [])) hca0_s_Merges ).mono ?_
 rintro e_ w5 ⟨rfl, hS_⟩
 refine ⟨_, rfl, ?_⟩
 have hS := hS.call0 hS_
 refine wv rfl rfl rfl (R_move rfl rfl) <| wv rfl rfl rfl (R_extract rfl rfl rfl) <| wv rfl rfl rfl (R_extract rfl rfl rfl) ?_
 refine W_cons rfl (by decide) (S_box hS rfl (R_alloc rfl alloc39) (fun b8 w7 hS => ?_))
 refine W_cons0 rfl (S_store hS 0 rfl rfl rfl rfl rfl size39 (one_cons rfl (one_cons rfl (one_cons rfl (one_cons rfl one_nil)))) (Nat.le_of_ble_eq_true rfl) (fun w9 hS => ?_))
 have hS : Sp (FF []) w z w9 [bR b8 39 [.int .i64 (regionS a0.s a1 a2).1.Row, .int .i64 (regionS a0.s a1 a2).1.Col, .int .i64 (regionS a0.s a1 a2).1.Rows, .int .i64 (regionS a0.s a1 a2).1.Cols], bR b4 39 [.int .i64 0, .int .i64 0, .int .i64 0, .int .i64 0], bR b2 50 [.int .i64 a0.s.Right, .slice Aa0_s_Widths a0.s.Widths.length ca0_s_Widths, .slice Aa0_s_Heights a0.s.Heights.length ca0_s_Heights, .slice Aa0_s_Cells a0.s.Cells.length ca0_s_Cells, .slice Aa0_s_Merges a0.s.Merges.length ca0_s_Merges, .int .i64 a0.col, .int .i64 a0.row, .bool a0.across, .bool a0.down]] := hS
 refine wv rfl rfl rfl (R_assign rfl rfl) ?_
 refine W_nil ?_
 refine E_then (C_fr [(6, .pointer (some ⟨b4, 0, none⟩)), (8, .pointer (some ⟨b8, 0, none⟩)), (9, .int .i64 (regionS a0.s a1 a2).2)] rfl ?_)
 refine C_seq ?_
 refine C_region ?_
 refine wv rfl rfl rfl (R_loadN (cs := [.int .i64 (regionS a0.s a1 a2).1.Row, .int .i64 (regionS a0.s a1 a2).1.Col, .int .i64 (regionS a0.s a1 a2).1.Rows, .int .i64 (regionS a0.s a1 a2).1.Cols]) rfl rfl agg39 size39 rfl (boxcells (hS.bx 0 rfl) 0 rfl)) <| wv rfl rfl rfl (R_move rfl rfl) <| wv rfl rfl rfl (R_bin rfl rfl rfl rfl rfl) ?_
 refine W_cons0 rfl (S_store hS 1 rfl rfl rfl rfl rfl size39 (one_cons rfl (one_cons rfl (one_cons rfl (one_cons rfl one_nil)))) (Nat.le_of_ble_eq_true rfl) (fun w10 hS => ?_))
 have hS : Sp (FF []) w z w10 [bR b8 39 [.int .i64 (regionS a0.s a1 a2).1.Row, .int .i64 (regionS a0.s a1 a2).1.Col, .int .i64 (regionS a0.s a1 a2).1.Rows, .int .i64 (regionS a0.s a1 a2).1.Cols], bR b4 39 [.int .i64 (regionS a0.s a1 a2).1.Row, .int .i64 (regionS a0.s a1 a2).1.Col, .int .i64 (regionS a0.s a1 a2).1.Rows, .int .i64 (regionS a0.s a1 a2).1.Cols], bR b2 50 [.int .i64 a0.s.Right, .slice Aa0_s_Widths a0.s.Widths.length ca0_s_Widths, .slice Aa0_s_Heights a0.s.Heights.length ca0_s_Heights, .slice Aa0_s_Cells a0.s.Cells.length ca0_s_Cells, .slice Aa0_s_Merges a0.s.Merges.length ca0_s_Merges, .int .i64 a0.col, .int .i64 a0.row, .bool a0.across, .bool a0.down]] := hS
 refine wv rfl rfl rfl (R_assign rfl rfl) ?_
 refine W_nil ?_
 refine E_then (C_fr [(6, .pointer (some ⟨b4, 0, none⟩)), (7, .bool ((regionS a0.s a1 a2).2 == 0))] rfl ?_)
 refine C_ret ?_
 refine E_rv2 rfl (RV_cellN (cs := [.int .i64 (regionS a0.s a1 a2).1.Row, .int .i64 (regionS a0.s a1 a2).1.Col, .int .i64 (regionS a0.s a1 a2).1.Rows, .int .i64 (regionS a0.s a1 a2).1.Cols]) rfl agg39 size39 rfl (boxcells (hS.bx 1 rfl) 0 rfl)) (RV_tmp rfl) ?_
 exact ⟨Lret2 (show (.agg #[.int .i64 (regionS a0.s a1 a2).1.Row, .int .i64 (regionS a0.s a1 a2).1.Col, .int .i64 (regionS a0.s a1 a2).1.Rows, .int .i64 (regionS a0.s a1 a2).1.Cols] : Value) = .agg #[.int .i64 (regionS a0.s a1 a2).1.Row, .int .i64 (regionS a0.s a1 a2).1.Col, .int .i64 (regionS a0.s a1 a2).1.Rows, .int .i64 (regionS a0.s a1 a2).1.Cols] by rfl) (Lbool (show ((regionS a0.s a1 a2).2 == 0) = (decide ((regionS a0.s a1 a2).2 = 0)) by rfl)), hS.fin [] (by decide) rfl⟩

set_option maxHeartbeats 400000 in
set_option maxRecDepth 20000 in
theorem sparts_calls (a0 : TSpot) (Aa0_s_Widths : Option Addr) (ca0_s_Widths : Nat) (Aa0_s_Heights : Option Addr) (ca0_s_Heights : Nat) (Aa0_s_Cells : Option Addr) (ca0_s_Cells : Nat) (Aa0_s_Merges : Option Addr) (ca0_s_Merges : Nat) (a1 : Int) (a2 : Int) (a3 : Int) (a4 : Int) (z : Z) (w : World) (hI : In z w []) (hra0_s_Widths : Rd (kint .i64) z Aa0_s_Widths a0.s.Widths) (hca0_s_Widths : Cap Aa0_s_Widths a0.s.Widths.length ca0_s_Widths) (hra0_s_Heights : Rd (kint .i64) z Aa0_s_Heights a0.s.Heights) (hca0_s_Heights : Cap Aa0_s_Heights a0.s.Heights.length ca0_s_Heights) (hra0_s_Cells : Rd kdTCell z Aa0_s_Cells a0.s.Cells) (hca0_s_Cells : Cap Aa0_s_Cells a0.s.Cells.length ca0_s_Cells) (hra0_s_Merges : Rd kdTRect z Aa0_s_Merges a0.s.Merges) (hca0_s_Merges : Cap Aa0_s_Merges a0.s.Merges.length ca0_s_Merges)  :
    Calls Try.prog 55 #[.agg #[.int .i64 a0.s.Right, .slice Aa0_s_Widths a0.s.Widths.length ca0_s_Widths, .slice Aa0_s_Heights a0.s.Heights.length ca0_s_Heights, .slice Aa0_s_Cells a0.s.Cells.length ca0_s_Cells, .slice Aa0_s_Merges a0.s.Merges.length ca0_s_Merges, .int .i64 a0.col, .int .i64 a0.row, .bool a0.across, .bool a0.down], .int .i64 a1, .int .i64 a2, .int .i64 a3, .int .i64 a4] w fun e w' => e = .returned (.bool (partsS a0.s a1 a2 a3 a4)) ∧ Sp (FF []) w z w' [] := by
 have hla0_s_Widths := hca0_s_Widths.le
 have hma0_s_Widths := hca0_s_Widths.mx
 have hla0_s_Heights := hca0_s_Heights.le
 have hma0_s_Heights := hca0_s_Heights.mx
 have hla0_s_Cells := hca0_s_Cells.le
 have hma0_s_Cells := hca0_s_Cells.mx
 have hla0_s_Merges := hca0_s_Merges.le
 have hma0_s_Merges := hca0_s_Merges.mx
 have hS := hI.sp
 refine Calls_of (vs := [.agg #[.int .i64 a0.s.Right, .slice Aa0_s_Widths a0.s.Widths.length ca0_s_Widths, .slice Aa0_s_Heights a0.s.Heights.length ca0_s_Heights, .slice Aa0_s_Cells a0.s.Cells.length ca0_s_Cells, .slice Aa0_s_Merges a0.s.Merges.length ca0_s_Merges, .int .i64 a0.col, .int .i64 a0.row, .bool a0.across, .bool a0.down], .int .i64 a1, .int .i64 a2, .int .i64 a3, .int .i64 a4]) (N := 38) Try.func55 rfl rfl (Nat.le_of_ble_eq_true rfl) ?_
 refine C_seq ?_
 refine C_region ?_
 refine W_cons rfl (by decide) (S_box hS rfl (R_box (cs := [.int .i64 a0.s.Right, .slice Aa0_s_Widths a0.s.Widths.length ca0_s_Widths, .slice Aa0_s_Heights a0.s.Heights.length ca0_s_Heights, .slice Aa0_s_Cells a0.s.Cells.length ca0_s_Cells, .slice Aa0_s_Merges a0.s.Merges.length ca0_s_Merges, .int .i64 a0.col, .int .i64 a0.row, .bool a0.across, .bool a0.down]) rfl rfl rfl) (fun b2 w1 hS => ?_))
 refine wv rfl rfl rfl (R_assign rfl rfl) ?_
 refine W_nil ?_
 refine E_then ?_
 refine C_seq ?_
 refine C_region ?_
 refine wv rfl rfl rfl (R_loadN (cs := [.int .i64 a0.s.Right, .slice Aa0_s_Widths a0.s.Widths.length ca0_s_Widths, .slice Aa0_s_Heights a0.s.Heights.length ca0_s_Heights, .slice Aa0_s_Cells a0.s.Cells.length ca0_s_Cells, .slice Aa0_s_Merges a0.s.Merges.length ca0_s_Merges, .int .i64 a0.col, .int .i64 a0.row, .bool a0.across, .bool a0.down]) rfl rfl agg50 size50 rfl (boxcells (hS.bx 0 rfl) 0 rfl)) <| wv rfl rfl rfl (R_move rfl rfl) <| wv rfl rfl rfl (R_move rfl rfl) ?_
 refine W_cons rfl (by decide) (Sv_call rfl rfl rfl ent79 ?_)
 refine (sregion_calls a0 Aa0_s_Widths ca0_s_Widths Aa0_s_Heights ca0_s_Heights Aa0_s_Cells ca0_s_Cells Aa0_s_Merges ca0_s_Merges a1 a2 _ _ hS.out0 (hra0_s_Widths.mono (hS.zl [])) hca0_s_Widths (hra0_s_Heights.mono (hS.zl [])) hca0_s_Heights (hra0_s_Cells.mono (hS.zl [])) hca0_s_Cells (hra0_s_Merges.mono (hS.zl [])) hca0_s_Merges ).mono ?_
 rintro e_ w3 ⟨rfl, hS_⟩
 refine ⟨_, rfl, ?_⟩
 have hS := hS.call0 hS_
 refine wv rfl rfl rfl (R_move rfl rfl) <| wv rfl rfl rfl (R_extract rfl rfl rfl) <| wv rfl rfl rfl (R_extract rfl rfl rfl) ?_
 refine W_cons rfl (by decide) (S_box hS rfl (R_alloc rfl alloc39) (fun b6 w5 hS => ?_))
 refine W_cons0 rfl (S_store hS 0 rfl rfl rfl rfl rfl size39 (one_cons rfl (one_cons rfl (one_cons rfl (one_cons rfl one_nil)))) (Nat.le_of_ble_eq_true rfl) (fun w7 hS => ?_))
 have hS : Sp (FF []) w z w7 [bR b6 39 [.int .i64 (regionS a0.s a1 a2).1.Row, .int .i64 (regionS a0.s a1 a2).1.Col, .int .i64 (regionS a0.s a1 a2).1.Rows, .int .i64 (regionS a0.s a1 a2).1.Cols], bR b2 50 [.int .i64 a0.s.Right, .slice Aa0_s_Widths a0.s.Widths.length ca0_s_Widths, .slice Aa0_s_Heights a0.s.Heights.length ca0_s_Heights, .slice Aa0_s_Cells a0.s.Cells.length ca0_s_Cells, .slice Aa0_s_Merges a0.s.Merges.length ca0_s_Merges, .int .i64 a0.col, .int .i64 a0.row, .bool a0.across, .bool a0.down]] := hS
 refine wv rfl rfl rfl (R_assign rfl rfl) ?_
 refine W_nil ?_
 refine E_then (C_fr [(3, .int .i64 a3), (4, .int .i64 a4), (5, .pointer (some ⟨b2, 0, none⟩)), (11, .pointer (some ⟨b6, 0, none⟩)), (12, .bool (decide ((regionS a0.s a1 a2).2 = 0)))] rfl ?_)
 refine C_seq ?_
 refine C_region ?_
 refine wv rfl rfl rfl (R_loadN (cs := [.int .i64 a0.s.Right, .slice Aa0_s_Widths a0.s.Widths.length ca0_s_Widths, .slice Aa0_s_Heights a0.s.Heights.length ca0_s_Heights, .slice Aa0_s_Cells a0.s.Cells.length ca0_s_Cells, .slice Aa0_s_Merges a0.s.Merges.length ca0_s_Merges, .int .i64 a0.col, .int .i64 a0.row, .bool a0.across, .bool a0.down]) rfl rfl agg50 size50 rfl (boxcells (hS.bx 1 rfl) 0 rfl)) <| wv rfl rfl rfl (R_move rfl rfl) <| wv rfl rfl rfl (R_move rfl rfl) ?_
 refine W_cons rfl (by decide) (Sv_call rfl rfl rfl ent79 ?_)
 refine (sregion_calls a0 Aa0_s_Widths ca0_s_Widths Aa0_s_Heights ca0_s_Heights Aa0_s_Cells ca0_s_Cells Aa0_s_Merges ca0_s_Merges a3 a4 _ _ hS.out0 (hra0_s_Widths.mono (hS.zl [])) hca0_s_Widths (hra0_s_Heights.mono (hS.zl [])) hca0_s_Heights (hra0_s_Cells.mono (hS.zl [])) hca0_s_Cells (hra0_s_Merges.mono (hS.zl [])) hca0_s_Merges ).mono ?_
 rintro e_ w8 ⟨rfl, hS_⟩
 refine ⟨_, rfl, ?_⟩
 have hS := hS.call0 hS_
 refine wv rfl rfl rfl (R_move rfl rfl) <| wv rfl rfl rfl (R_extract rfl rfl rfl) <| wv rfl rfl rfl (R_extract rfl rfl rfl) ?_
 refine W_cons rfl (by decide) (S_box hS rfl (R_alloc rfl alloc39) (fun b11 w10 hS => ?_))
 refine W_cons0 rfl (S_store hS 0 rfl rfl rfl rfl rfl size39 (one_cons rfl (one_cons rfl (one_cons rfl (one_cons rfl one_nil)))) (Nat.le_of_ble_eq_true rfl) (fun w12 hS => ?_))
 have hS : Sp (FF []) w z w12 [bR b11 39 [.int .i64 (regionS a0.s a3 a4).1.Row, .int .i64 (regionS a0.s a3 a4).1.Col, .int .i64 (regionS a0.s a3 a4).1.Rows, .int .i64 (regionS a0.s a3 a4).1.Cols], bR b6 39 [.int .i64 (regionS a0.s a1 a2).1.Row, .int .i64 (regionS a0.s a1 a2).1.Col, .int .i64 (regionS a0.s a1 a2).1.Rows, .int .i64 (regionS a0.s a1 a2).1.Cols], bR b2 50 [.int .i64 a0.s.Right, .slice Aa0_s_Widths a0.s.Widths.length ca0_s_Widths, .slice Aa0_s_Heights a0.s.Heights.length ca0_s_Heights, .slice Aa0_s_Cells a0.s.Cells.length ca0_s_Cells, .slice Aa0_s_Merges a0.s.Merges.length ca0_s_Merges, .int .i64 a0.col, .int .i64 a0.row, .bool a0.across, .bool a0.down]] := hS
 refine wv rfl rfl rfl (R_assign rfl rfl) ?_
 refine W_nil ?_
 refine E_then (C_fr [(11, .pointer (some ⟨b6, 0, none⟩)), (12, .bool (decide ((regionS a0.s a1 a2).2 = 0))), (13, .pointer (some ⟨b11, 0, none⟩)), (14, .bool (decide ((regionS a0.s a3 a4).2 = 0)))] rfl ?_)
 refine C_seq ?_
 refine C_region ?_
 refine wv rfl rfl rfl (R_move rfl rfl) <| wv rfl rfl rfl (R_move rfl rfl) <| wg rfl rfl (Gd.no rfl rfl rfl) (fun hB => R_move rfl rfl) <| wv rfl rfl rfl (R_pick_or rfl rfl rfl rfl) <| wv rfl rfl rfl (R_move rfl rfl) <| wg rfl rfl (Gd.on rfl rfl rfl) (fun hB => R_loadN (cs := [.int .i64 (regionS a0.s a1 a2).1.Row, .int .i64 (regionS a0.s a1 a2).1.Col, .int .i64 (regionS a0.s a1 a2).1.Rows, .int .i64 (regionS a0.s a1 a2).1.Cols]) rfl rfl agg39 size39 rfl (boxcells (hS.bx 1 rfl) 0 rfl)) <| wg rfl rfl (Gd.on rfl rfl rfl) (fun hB => R_loadN (cs := [.int .i64 (regionS a0.s a3 a4).1.Row, .int .i64 (regionS a0.s a3 a4).1.Col, .int .i64 (regionS a0.s a3 a4).1.Rows, .int .i64 (regionS a0.s a3 a4).1.Cols]) rfl rfl agg39 size39 rfl (boxcells (hS.bx 0 rfl) 0 rfl)) <| wg rfl rfl (Gd.on rfl rfl rfl) (fun hB => Runs.at_ (i := 35) (gl rfl hB) (Runs.at_ (i := 34) (gl rfl hB) (R_neqv rfl rfl rfl eqg39 ((eqv39 (regionS a0.s a1 a2).1 (regionS a0.s a3 a4).1).up 2)))) <| wv rfl rfl rfl (R_pick_and rfl rfl rfl rfl) <| wv rfl rfl rfl (R_assign rfl rfl) ?_
 refine W_nil ?_
 refine E_then (C_fr [(10, .bool (((decide ((regionS a0.s a1 a2).2 = 0)) || (decide ((regionS a0.s a3 a4).2 = 0))) && (!decide ((regionS a0.s a1 a2).1 = (regionS a0.s a3 a4).1))))] rfl ?_)
 refine C_ret ?_
 refine E_ret1 rfl rfl ?_
 exact ⟨Lret1 (Lbool (show (((decide ((regionS a0.s a1 a2).2 = 0)) || (decide ((regionS a0.s a3 a4).2 = 0))) && (!decide ((regionS a0.s a1 a2).1 = (regionS a0.s a3 a4).1))) = (partsS a0.s a1 a2 a3 a4) by unfold partsS; simp_all)), hS.fin [] (by decide) rfl⟩

set_option maxHeartbeats 400000 in
set_option maxRecDepth 20000 in
theorem sarm_calls (a0 : TSpot) (Aa0_s_Widths : Option Addr) (ca0_s_Widths : Nat) (Aa0_s_Heights : Option Addr) (ca0_s_Heights : Nat) (Aa0_s_Cells : Option Addr) (ca0_s_Cells : Nat) (Aa0_s_Merges : Option Addr) (ca0_s_Merges : Nat) (a1 : Cx) (z : Z) (w : World) (hI : In z w []) (hra0_s_Widths : Rd (kint .i64) z Aa0_s_Widths a0.s.Widths) (hca0_s_Widths : Cap Aa0_s_Widths a0.s.Widths.length ca0_s_Widths) (hra0_s_Heights : Rd (kint .i64) z Aa0_s_Heights a0.s.Heights) (hca0_s_Heights : Cap Aa0_s_Heights a0.s.Heights.length ca0_s_Heights) (hra0_s_Cells : Rd kdTCell z Aa0_s_Cells a0.s.Cells) (hca0_s_Cells : Cap Aa0_s_Cells a0.s.Cells.length ca0_s_Cells) (hra0_s_Merges : Rd kdTRect z Aa0_s_Merges a0.s.Merges) (hca0_s_Merges : Cap Aa0_s_Merges a0.s.Merges.length ca0_s_Merges) (p0 : a1.re.n.natAbs ≤ 1 ∧ a1.im.n.natAbs ≤ 1) (p1 : -1000 ≤ a0.row ∧ a0.row ≤ 1000 ∧ -1000 ≤ a0.col ∧ a0.col ≤ 1000) :
    Calls Try.prog 26 #[.agg #[.int .i64 a0.s.Right, .slice Aa0_s_Widths a0.s.Widths.length ca0_s_Widths, .slice Aa0_s_Heights a0.s.Heights.length ca0_s_Heights, .slice Aa0_s_Cells a0.s.Cells.length ca0_s_Cells, .slice Aa0_s_Merges a0.s.Merges.length ca0_s_Merges, .int .i64 a0.col, .int .i64 a0.row, .bool a0.across, .bool a0.down], .complex .f64 a1.re.bits a1.im.bits] w fun e w' => e = .returned (.bool (armS a0 a1)) ∧ Sp (FF []) w z w' [] := by
 have hla0_s_Widths := hca0_s_Widths.le
 have hma0_s_Widths := hca0_s_Widths.mx
 have hla0_s_Heights := hca0_s_Heights.le
 have hma0_s_Heights := hca0_s_Heights.mx
 have hla0_s_Cells := hca0_s_Cells.le
 have hma0_s_Cells := hca0_s_Cells.mx
 have hla0_s_Merges := hca0_s_Merges.le
 have hma0_s_Merges := hca0_s_Merges.mx
 have hS := hI.sp
 refine Calls_of (vs := [.agg #[.int .i64 a0.s.Right, .slice Aa0_s_Widths a0.s.Widths.length ca0_s_Widths, .slice Aa0_s_Heights a0.s.Heights.length ca0_s_Heights, .slice Aa0_s_Cells a0.s.Cells.length ca0_s_Cells, .slice Aa0_s_Merges a0.s.Merges.length ca0_s_Merges, .int .i64 a0.col, .int .i64 a0.row, .bool a0.across, .bool a0.down], .complex .f64 a1.re.bits a1.im.bits]) (N := 71) Try.func26 rfl rfl (Nat.le_of_ble_eq_true rfl) ?_
 refine C_seq ?_
 refine C_region ?_
 refine W_cons rfl (by decide) (S_box hS rfl (R_box (cs := [.int .i64 a0.s.Right, .slice Aa0_s_Widths a0.s.Widths.length ca0_s_Widths, .slice Aa0_s_Heights a0.s.Heights.length ca0_s_Heights, .slice Aa0_s_Cells a0.s.Cells.length ca0_s_Cells, .slice Aa0_s_Merges a0.s.Merges.length ca0_s_Merges, .int .i64 a0.col, .int .i64 a0.row, .bool a0.across, .bool a0.down]) rfl rfl rfl) (fun b2 w1 hS => ?_))
 refine wv rfl rfl rfl (R_assign rfl rfl) ?_
 refine W_nil ?_
 refine E_then ?_
 refine C_seq ?_
 refine C_fr [(1, .complex .f64 a1.re.bits a1.im.bits), (2, .pointer (some ⟨b2, 0, none⟩))] rfl ?_
 refine C_drawn 6 [[], [0], [], [2], [1, 0, 1], [3, 4, 0, 1, 2, 3, 4]] [7, 8, 9, 10, 5, 6] [1, 2] rfl (by kernel_rfl) (by decide +kernel) [fun v_ _ => v_ = .pointer (some ⟨b2, 6, none⟩), fun v_ _ => v_ = .int .i64 a0.row, fun v_ _ => v_ = .pointer (some ⟨b2, 5, none⟩), fun v_ _ => v_ = .int .i64 a0.col, fun v_ _ => v_ = .int .i64 a0.row, fun v_ _ => v_ = .int .i64 a0.col] ⟨fun _ _ _ h _ => h, ⟨fun _ _ _ h _ => h, ⟨fun _ _ _ h _ => h, ⟨fun _ _ _ h _ => h, ⟨fun _ _ _ h _ => h, ⟨fun _ _ _ h _ => h, trivial⟩⟩⟩⟩⟩⟩ ⟨fun w3 hc4 => by have hS := hS.chg0 hc4; exact Sv_val rfl (R_fld rfl rfl fld50_2) ⟨Chg.refl _ _, rfl⟩, ⟨fun w3 hc4 => by have hS := hS.chg0 hc4; rintro _ rfl; exact Sv_val rfl (R_load1 rfl rfl agg3 ((hS.bx 0 rfl).cell rfl)) ⟨Chg.refl _ _, rfl⟩, ⟨fun w3 hc4 => by have hS := hS.chg0 hc4; exact Sv_val rfl (R_fld rfl rfl fld50_1) ⟨Chg.refl _ _, rfl⟩, ⟨fun w3 hc4 => by have hS := hS.chg0 hc4; rintro _ rfl; exact Sv_val rfl (R_load1 rfl rfl agg3 ((hS.bx 0 rfl).cell rfl)) ⟨Chg.refl _ _, rfl⟩, ⟨fun w3 hc4 => by have hS := hS.chg0 hc4; rintro _ rfl _ rfl _ rfl; exact Sv_val rfl (R_assign rfl rfl) ⟨Chg.refl _ _, rfl⟩, ⟨fun w3 hc4 => by have hS := hS.chg0 hc4; rintro _ rfl _ rfl _ rfl _ rfl _ rfl _ rfl _ rfl; exact Sv_val rfl (R_assign rfl rfl) ⟨Chg.refl _ _, rfl⟩, trivial⟩⟩⟩⟩⟩⟩ ?_
 intro w3 hc4
 have hS := hS.chg0 hc4
 rintro _ rfl _ rfl _ rfl _ rfl _ rfl _ rfl
 refine An_fr [(1, .complex .f64 a1.re.bits a1.im.bits), (2, .pointer (some ⟨b2, 0, none⟩)), (5, .int .i64 a0.row), (6, .int .i64 a0.col)] rfl ?_
 refine An_done (by decide +kernel) ?_
 refine E_then ?_
 refine C_seq ?_
 refine C_block ?_
 refine C_seq ?_
 refine C_region ?_
 refine wv rfl rfl rfl (R_move rfl rfl) <| wv rfl rfl rfl (R_real rfl rfl) <| wv rfl rfl rfl (R_flneq (a := a1.re) (c := (Fl.ofInt 0)) rfl rfl (by kernel_rfl) (by simp [Fl.ok, Fl.ofInt]; try omega)) <| wv rfl rfl rfl (R_move rfl rfl) <| wg rfl rfl (Gd.on rfl rfl rfl) (fun hB => R_fld rfl rfl fld50_3) <| wg rfl rfl (Gd.on rfl rfl rfl) (fun hB => Runs.at_ (i := 16) (gl rfl hB) (R_load1 rfl rfl agg4 ((hS.bx 0 rfl).cell rfl))) <| wv rfl rfl rfl (R_pick_and rfl rfl rfl rfl) <| wv rfl rfl rfl (R_assign rfl rfl) ?_
 refine W_nil ?_
 refine E_then (C_fr [(1, .complex .f64 a1.re.bits a1.im.bits), (2, .pointer (some ⟨b2, 0, none⟩)), (5, .int .i64 a0.row), (6, .int .i64 a0.col), (11, .bool ((!(a1.re.n == (Fl.ofInt 0).n)) && a0.across))] rfl ?_)
 refine C_ite rfl (fun hC0 => ?_) (fun hC0 => ?_)
 ·have _hC0 := trivial
  refine C_seq ?_
  refine C_region ?_
  refine wv rfl rfl rfl (R_move rfl rfl) <| wv rfl rfl rfl (R_move rfl rfl) <| wv rfl rfl rfl (R_real rfl rfl) <| wv rfl rfl rfl (R_convfi rfl rfl Try.underlying45 Try.underlying3 (by simp [Fl.ok, Fl.ofInt]; try omega)) <| wv rfl rfl rfl (R_min rfl rfl) <| wv rfl rfl rfl (R_add64 rfl rfl rfl (by omega) (by omega)) <| wv rfl rfl rfl (R_assign rfl rfl) ?_
  refine W_nil ?_
  refine E_then (C_fr [(2, .pointer (some ⟨b2, 0, none⟩)), (5, .int .i64 a0.row), (6, .int .i64 (a0.col + (min a1.re.n 0)))] rfl ?_)
  refine C_seq ?_
  refine C_region ?_
  refine wv rfl rfl rfl (R_fld rfl rfl fld50_4) <| wv rfl rfl rfl (R_load1 rfl rfl agg4 ((hS.bx 0 rfl).cell rfl)) <| wv rfl rfl rfl (R_move rfl rfl) <| wg rfl rfl (Gd.on rfl rfl rfl) (fun hB => R_loadN (cs := [.int .i64 a0.s.Right, .slice Aa0_s_Widths a0.s.Widths.length ca0_s_Widths, .slice Aa0_s_Heights a0.s.Heights.length ca0_s_Heights, .slice Aa0_s_Cells a0.s.Cells.length ca0_s_Cells, .slice Aa0_s_Merges a0.s.Merges.length ca0_s_Merges, .int .i64 a0.col, .int .i64 a0.row, .bool a0.across, .bool a0.down]) rfl rfl agg50 size50 rfl (boxcells (hS.bx 0 rfl) 0 rfl)) <| wg rfl rfl (Gd.on rfl rfl rfl) (fun hB => R_move rfl rfl) <| wg rfl rfl (Gd.on rfl rfl rfl) (fun hB => Runs.at_ (i := 29) (gl rfl hB) (R_sub64 rfl rfl rfl (by omega) (by omega))) <| wg rfl rfl (Gd.on rfl rfl rfl) (fun hB => R_move rfl rfl) <| wg rfl rfl (Gd.on rfl rfl rfl) (fun hB => R_move rfl rfl) <| wg rfl rfl (Gd.on rfl rfl rfl) (fun hB => R_move rfl rfl) ?_
  refine W_cons rfl (by decide) (Sv_gcall (Gd.on rfl rfl rfl) hS (fun hB => Sv.at_ (i := 33) (gl rfl hB) (Sv.at_ (i := 32) (gl rfl hB) (Sv.at_ (i := 31) (gl rfl hB) (Sv.at_ (i := 30) (gl rfl hB) (Sv.at_ (i := 28) (gl rfl hB) (Sv_call rfl rfl rfl ent55 ((sparts_calls a0 Aa0_s_Widths ca0_s_Widths Aa0_s_Heights ca0_s_Heights Aa0_s_Cells ca0_s_Cells Aa0_s_Merges ca0_s_Merges (a0.row - 1) (a0.col + (min a1.re.n 0)) a0.row (a0.col + (min a1.re.n 0)) _ _ hS.out0 (hra0_s_Widths.mono (hS.zl [])) hca0_s_Widths (hra0_s_Heights.mono (hS.zl [])) hca0_s_Heights (hra0_s_Cells.mono (hS.zl [])) hca0_s_Cells (hra0_s_Merges.mono (hS.zl [])) hca0_s_Merges ).mono (fun _ _ h_ => ⟨_, h_.1, rfl, hS.call0 h_.2⟩)))))))) (fun w5 hS => ?_))
  refine wv rfl rfl rfl (R_pick_and rfl rfl rfl rfl) <| wv rfl rfl rfl (R_assign rfl rfl) ?_
  refine W_nil ?_
  refine E_then (C_fr [(4, .bool (a0.down && (partsS a0.s (a0.row - 1) (a0.col + (min a1.re.n 0)) a0.row (a0.col + (min a1.re.n 0)))))] rfl ?_)
  refine C_ret ?_
  refine E_block_ret ?_
  refine E_then_ret ?_
  refine E_ret1 rfl rfl ?_
  exact ⟨Lret1 (Lbool (show (a0.down && (partsS a0.s (a0.row - 1) (a0.col + (min a1.re.n 0)) a0.row (a0.col + (min a1.re.n 0)))) = (armS a0 a1) by unfold armS; simp_all [Fl.ofInt])), hS.fin [] (by decide) rfl⟩
 ·have _hC0 := trivial
  refine C_seq ?_
  refine C_region ?_
  refine wv rfl rfl rfl (R_move rfl rfl) <| wv rfl rfl rfl (R_real rfl rfl) <| wv rfl rfl rfl (R_flneq (a := a1.re) (c := (Fl.ofInt 0)) rfl rfl (by kernel_rfl) (by simp [Fl.ok, Fl.ofInt]; try omega)) <| wv rfl rfl rfl (R_assign rfl rfl) ?_
  refine W_nil ?_
  refine E_then ?_
  refine C_ite rfl (fun hC1 => ?_) (fun hC1 => ?_)
  ·have _hC1 := trivial
   have hC1p : ¬ a1.re.n = (Fl.ofInt 0).n := by simpa using hC1
   refine C_seq ?_
   refine C_region ?_
   refine wv rfl rfl rfl (R_fld rfl rfl fld50_4) <| wv rfl rfl rfl (R_load1 rfl rfl agg4 ((hS.bx 0 rfl).cell rfl)) <| wv rfl rfl rfl (R_move rfl rfl) <| wg rfl rfl (Gd.on rfl rfl rfl) (fun hB => R_loadN (cs := [.int .i64 a0.s.Right, .slice Aa0_s_Widths a0.s.Widths.length ca0_s_Widths, .slice Aa0_s_Heights a0.s.Heights.length ca0_s_Heights, .slice Aa0_s_Cells a0.s.Cells.length ca0_s_Cells, .slice Aa0_s_Merges a0.s.Merges.length ca0_s_Merges, .int .i64 a0.col, .int .i64 a0.row, .bool a0.across, .bool a0.down]) rfl rfl agg50 size50 rfl (boxcells (hS.bx 0 rfl) 0 rfl)) <| wg rfl rfl (Gd.on rfl rfl rfl) (fun hB => R_move rfl rfl) <| wg rfl rfl (Gd.on rfl rfl rfl) (fun hB => Runs.at_ (i := 44) (gl rfl hB) (R_sub64 rfl rfl rfl (by omega) (by omega))) <| wg rfl rfl (Gd.on rfl rfl rfl) (fun hB => R_move rfl rfl) <| wg rfl rfl (Gd.on rfl rfl rfl) (fun hB => R_move rfl rfl) <| wg rfl rfl (Gd.on rfl rfl rfl) (fun hB => R_move rfl rfl) ?_
   refine W_cons rfl (by decide) (Sv_gcall (Gd.on rfl rfl rfl) hS (fun hB => Sv.at_ (i := 48) (gl rfl hB) (Sv.at_ (i := 47) (gl rfl hB) (Sv.at_ (i := 46) (gl rfl hB) (Sv.at_ (i := 45) (gl rfl hB) (Sv.at_ (i := 43) (gl rfl hB) (Sv_call rfl rfl rfl ent55 ((sparts_calls a0 Aa0_s_Widths ca0_s_Widths Aa0_s_Heights ca0_s_Heights Aa0_s_Cells ca0_s_Cells Aa0_s_Merges ca0_s_Merges (a0.row - 1) a0.col a0.row a0.col _ _ hS.out0 (hra0_s_Widths.mono (hS.zl [])) hca0_s_Widths (hra0_s_Heights.mono (hS.zl [])) hca0_s_Heights (hra0_s_Cells.mono (hS.zl [])) hca0_s_Cells (hra0_s_Merges.mono (hS.zl [])) hca0_s_Merges ).mono (fun _ _ h_ => ⟨_, h_.1, rfl, hS.call0 h_.2⟩)))))))) (fun w6 hS => ?_))
   refine wv rfl rfl rfl (R_pick_and rfl rfl rfl rfl) <| wv rfl rfl rfl (R_assign rfl rfl) ?_
   refine W_nil ?_
   refine E_then (C_fr [(4, .bool (a0.down && (partsS a0.s (a0.row - 1) a0.col a0.row a0.col)))] rfl ?_)
   refine C_ret ?_
   refine E_block_ret ?_
   refine E_then_ret ?_
   refine E_ret1 rfl rfl ?_
   exact ⟨Lret1 (Lbool (show (a0.down && (partsS a0.s (a0.row - 1) a0.col a0.row a0.col)) = (armS a0 a1) by unfold armS; simp_all [Fl.ofInt])), hS.fin [] (by decide) rfl⟩
  ·have _hC1 := trivial
   have hC1p : a1.re.n = (Fl.ofInt 0).n := by simpa using hC1
   refine C_seq ?_
   refine C_region ?_
   refine wv rfl rfl rfl (R_fld rfl rfl fld50_4) <| wv rfl rfl rfl (R_load1 rfl rfl agg4 ((hS.bx 0 rfl).cell rfl)) <| wv rfl rfl rfl (R_assign rfl rfl) ?_
   refine W_nil ?_
   refine E_then (C_fr [(1, .complex .f64 a1.re.bits a1.im.bits), (2, .pointer (some ⟨b2, 0, none⟩)), (5, .int .i64 a0.row), (6, .int .i64 a0.col), (51, .bool a0.down)] rfl ?_)
   refine C_ite rfl (fun hC2 => ?_) (fun hC2 => ?_)
   ·have _hC2 := trivial
    refine C_region ?_
    refine wv rfl rfl rfl (R_move rfl rfl) <| wv rfl rfl rfl (R_move rfl rfl) <| wv rfl rfl rfl (R_imag rfl rfl) <| wv rfl rfl rfl (R_convfi rfl rfl Try.underlying45 Try.underlying3 (by simp [Fl.ok, Fl.ofInt]; try omega)) <| wv rfl rfl rfl (R_min rfl rfl) <| wv rfl rfl rfl (R_add64 rfl rfl rfl (by omega) (by omega)) <| wv rfl rfl rfl (R_assign rfl rfl) ?_
    refine W_nil ?_
    refine E_block_normal ?_
    refine E_then (C_fr [(2, .pointer (some ⟨b2, 0, none⟩)), (5, .int .i64 (a0.row + (min a1.im.n 0))), (6, .int .i64 a0.col)] rfl ?_)
    refine C_seq ?_
    refine C_region ?_
    refine wv rfl rfl rfl (R_fld rfl rfl fld50_3) <| wv rfl rfl rfl (R_load1 rfl rfl agg4 ((hS.bx 0 rfl).cell rfl)) <| wv rfl rfl rfl (R_move rfl rfl) <| wg rfl rfl (Gd.on rfl rfl rfl) (fun hB => R_loadN (cs := [.int .i64 a0.s.Right, .slice Aa0_s_Widths a0.s.Widths.length ca0_s_Widths, .slice Aa0_s_Heights a0.s.Heights.length ca0_s_Heights, .slice Aa0_s_Cells a0.s.Cells.length ca0_s_Cells, .slice Aa0_s_Merges a0.s.Merges.length ca0_s_Merges, .int .i64 a0.col, .int .i64 a0.row, .bool a0.across, .bool a0.down]) rfl rfl agg50 size50 rfl (boxcells (hS.bx 0 rfl) 0 rfl)) <| wg rfl rfl (Gd.on rfl rfl rfl) (fun hB => R_move rfl rfl) <| wg rfl rfl (Gd.on rfl rfl rfl) (fun hB => R_move rfl rfl) <| wg rfl rfl (Gd.on rfl rfl rfl) (fun hB => Runs.at_ (i := 65) (gl rfl hB) (R_sub64 rfl rfl rfl (by omega) (by omega))) <| wg rfl rfl (Gd.on rfl rfl rfl) (fun hB => R_move rfl rfl) <| wg rfl rfl (Gd.on rfl rfl rfl) (fun hB => R_move rfl rfl) ?_
    refine W_cons rfl (by decide) (Sv_gcall (Gd.on rfl rfl rfl) hS (fun hB => Sv.at_ (i := 68) (gl rfl hB) (Sv.at_ (i := 67) (gl rfl hB) (Sv.at_ (i := 66) (gl rfl hB) (Sv.at_ (i := 64) (gl rfl hB) (Sv.at_ (i := 63) (gl rfl hB) (Sv_call rfl rfl rfl ent55 ((sparts_calls a0 Aa0_s_Widths ca0_s_Widths Aa0_s_Heights ca0_s_Heights Aa0_s_Cells ca0_s_Cells Aa0_s_Merges ca0_s_Merges (a0.row + (min a1.im.n 0)) (a0.col - 1) (a0.row + (min a1.im.n 0)) a0.col _ _ hS.out0 (hra0_s_Widths.mono (hS.zl [])) hca0_s_Widths (hra0_s_Heights.mono (hS.zl [])) hca0_s_Heights (hra0_s_Cells.mono (hS.zl [])) hca0_s_Cells (hra0_s_Merges.mono (hS.zl [])) hca0_s_Merges ).mono (fun _ _ h_ => ⟨_, h_.1, rfl, hS.call0 h_.2⟩)))))))) (fun w7 hS => ?_))
    refine wv rfl rfl rfl (R_pick_and rfl rfl rfl rfl) <| wv rfl rfl rfl (R_assign rfl rfl) ?_
    refine W_nil ?_
    refine E_then (C_fr [(4, .bool (a0.across && (partsS a0.s (a0.row + (min a1.im.n 0)) (a0.col - 1) (a0.row + (min a1.im.n 0)) a0.col)))] rfl ?_)
    refine C_ret ?_
    refine E_ret1 rfl rfl ?_
    exact ⟨Lret1 (Lbool (show (a0.across && (partsS a0.s (a0.row + (min a1.im.n 0)) (a0.col - 1) (a0.row + (min a1.im.n 0)) a0.col)) = (armS a0 a1) by unfold armS; simp_all [Fl.ofInt])), hS.fin [] (by decide) rfl⟩
   ·have _hC2 := trivial
    refine C_skip ?_
    refine E_block_normal ?_
    refine E_then ?_
    refine C_seq ?_
    refine C_region ?_
    refine wv rfl rfl rfl (R_fld rfl rfl fld50_3) <| wv rfl rfl rfl (R_load1 rfl rfl agg4 ((hS.bx 0 rfl).cell rfl)) <| wv rfl rfl rfl (R_move rfl rfl) <| wg rfl rfl (Gd.on rfl rfl rfl) (fun hB => R_loadN (cs := [.int .i64 a0.s.Right, .slice Aa0_s_Widths a0.s.Widths.length ca0_s_Widths, .slice Aa0_s_Heights a0.s.Heights.length ca0_s_Heights, .slice Aa0_s_Cells a0.s.Cells.length ca0_s_Cells, .slice Aa0_s_Merges a0.s.Merges.length ca0_s_Merges, .int .i64 a0.col, .int .i64 a0.row, .bool a0.across, .bool a0.down]) rfl rfl agg50 size50 rfl (boxcells (hS.bx 0 rfl) 0 rfl)) <| wg rfl rfl (Gd.on rfl rfl rfl) (fun hB => R_move rfl rfl) <| wg rfl rfl (Gd.on rfl rfl rfl) (fun hB => R_move rfl rfl) <| wg rfl rfl (Gd.on rfl rfl rfl) (fun hB => Runs.at_ (i := 65) (gl rfl hB) (R_sub64 rfl rfl rfl (by omega) (by omega))) <| wg rfl rfl (Gd.on rfl rfl rfl) (fun hB => R_move rfl rfl) <| wg rfl rfl (Gd.on rfl rfl rfl) (fun hB => R_move rfl rfl) ?_
    refine W_cons rfl (by decide) (Sv_gcall (Gd.on rfl rfl rfl) hS (fun hB => Sv.at_ (i := 68) (gl rfl hB) (Sv.at_ (i := 67) (gl rfl hB) (Sv.at_ (i := 66) (gl rfl hB) (Sv.at_ (i := 64) (gl rfl hB) (Sv.at_ (i := 63) (gl rfl hB) (Sv_call rfl rfl rfl ent55 ((sparts_calls a0 Aa0_s_Widths ca0_s_Widths Aa0_s_Heights ca0_s_Heights Aa0_s_Cells ca0_s_Cells Aa0_s_Merges ca0_s_Merges a0.row (a0.col - 1) a0.row a0.col _ _ hS.out0 (hra0_s_Widths.mono (hS.zl [])) hca0_s_Widths (hra0_s_Heights.mono (hS.zl [])) hca0_s_Heights (hra0_s_Cells.mono (hS.zl [])) hca0_s_Cells (hra0_s_Merges.mono (hS.zl [])) hca0_s_Merges ).mono (fun _ _ h_ => ⟨_, h_.1, rfl, hS.call0 h_.2⟩)))))))) (fun w8 hS => ?_))
    refine wv rfl rfl rfl (R_pick_and rfl rfl rfl rfl) <| wv rfl rfl rfl (R_assign rfl rfl) ?_
    refine W_nil ?_
    refine E_then (C_fr [(4, .bool (a0.across && (partsS a0.s a0.row (a0.col - 1) a0.row a0.col)))] rfl ?_)
    refine C_ret ?_
    refine E_ret1 rfl rfl ?_
    exact ⟨Lret1 (Lbool (show (a0.across && (partsS a0.s a0.row (a0.col - 1) a0.row a0.col)) = (armS a0 a1) by unfold armS; simp_all [Fl.ofInt])), hS.fin [] (by decide) rfl⟩

set_option maxHeartbeats 400000 in
set_option maxRecDepth 20000 in
theorem cxindex_calls (a0 : List Cx) (Aa0 : Option Addr) (ca0 : Nat) (a1 : Cx) (z : Z) (w : World) (hI : In z w []) (hra0 : Rd kcx z Aa0 a0) (hca0 : Cap Aa0 a0.length ca0) (p0 : a1.re.n.natAbs ≤ 1 ∧ a1.im.n.natAbs ≤ 1) (p1 : ∀ x ∈ a0, x.re.n.natAbs ≤ 1 ∧ x.im.n.natAbs ≤ 1) :
    Calls Try.prog 34 #[.slice Aa0 a0.length ca0, .complex .f64 a1.re.bits a1.im.bits] w fun e w' => e = .returned (.int .i64 (idxF (fun x : Cx => ((a1.re.n == x.re.n) && (a1.im.n == x.im.n))) a0 0)) ∧ Sp (FF []) w z w' [] := by
 have hla0 := hca0.le
 have hma0 := hca0.mx
 have hS := hI.sp
 refine Calls_of (vs := [.slice Aa0 a0.length ca0, .complex .f64 a1.re.bits a1.im.bits]) (N := 19) Try.func34 rfl rfl (Nat.le_of_ble_eq_true rfl) ?_
 refine C_seq ?_
 refine C_region ?_
 refine wv rfl rfl rfl (R_assign rfl rfl) ?_
 refine W_nil ?_
 refine E_then ?_
 refine C_seq ?_
 refine C_seq ?_
 refine C_region ?_
 refine wv rfl rfl rfl (R_move rfl rfl) <| wv rfl rfl rfl (R_len rfl rfl Try.underlying64) <| wv rfl rfl rfl (R_move rfl rfl) ?_
 refine W_nil ?_
 refine E_then ?_
 refine C_block ?_
 refine C_fr [(0, .slice Aa0 a0.length ca0), (1, .complex .f64 a1.re.bits a1.im.bits), (7, .int .i64 (a0.length : Int)), (8, .int .i64 0)] rfl ?_
 refine C_loop (fun m_ f_ w_ => ∃ (i : Nat), f_ = [(0, .slice Aa0 a0.length ca0), (1, .complex .f64 a1.re.bits a1.im.bits), (7, .int .i64 (a0.length : Int)), (8, .int .i64 (i : Int))] ∧ i ≤ a0.length ∧ idxF (fun x : Cx => ((a1.re.n == x.re.n) && (a1.im.n == x.im.n))) (a0.drop i) i = idxF (fun x : Cx => ((a1.re.n == x.re.n) && (a1.im.n == x.im.n))) a0 0 ∧ m_ = a0.length - i ∧ Sp (FF []) w z w_ []) (a0.length - (0 : Nat)) ⟨(0 : Nat), rfl, (by omega), (by rfl), rfl, hS.fin [] (by decide) rfl⟩ ?_
 rintro m_ f_ w1 ⟨i, rfl, hI0_0, hI0_1, rfl, hS⟩
 refine C_seq ?_
 refine C_region ?_
 refine wv rfl rfl rfl (R_bin rfl rfl rfl rfl rfl) ?_
 refine W_nil ?_
 refine E_then ?_
 refine C_seq ?_
 refine C_ite rfl (fun hC0 => ?_) (fun hC0 => ?_)
 ·have _hC0 := trivial
  have hC0p : (i : Int) < (a0.length : Int) := by simpa using hC0
  refine C_skip ?_
  refine E_then ?_
  refine C_seq ?_
  refine C_block ?_
  refine C_seq ?_
  refine C_region ?_
  refine wv rfl rfl rfl (R_move rfl rfl) <| wv rfl rfl rfl (R_assign rfl rfl) ?_
  refine W_nil ?_
  refine E_then ?_
  refine C_seq ?_
  refine C_region ?_
  refine wv rfl rfl rfl (R_move rfl rfl) <| wv rfl rfl rfl (R_move rfl rfl) <| wv rfl rfl rfl (R_move rfl rfl) ?_
  obtain ⟨q2, csq2, hAq2, rfl, hkq2⟩ := hra0.at_ (default : Cx) (i := (i : Int)) (by omega) (by omega)
  have hkq2 : ∀ (j_ : Nat) (u_ : Value), ([.complex .f64 (a0.getD i (default : Cx)).re.bits (a0.getD i (default : Cx)).im.bits] : List Value)[j_]? = some u_ → cz z (q2.add (i * 1 + j_)) = some u_ := hkq2
  refine wv rfl rfl rfl (R_idx rfl rfl hAq2 rfl Try.underlying64 size42 (by omega) (by omega)) <| wv rfl rfl rfl (R_load1 rfl rfl agg42 (hS.sub.cell (hkq2 0 _ rfl))) <| wv rfl rfl rfl (R_cxeql (a := a1.re) (b := a1.im) (c := (a0.getD i (default : Cx)).re) (d := (a0.getD i (default : Cx)).im) rfl rfl rfl (by (have hm_ := p1 _ (mem_getD default (show i < a0.length by omega))); simp [Fl.ok] at *; omega)) ?_
  refine W_nil ?_
  refine E_then (C_fr [(0, .slice Aa0 a0.length ca0), (1, .complex .f64 a1.re.bits a1.im.bits), (5, .int .i64 (i : Int)), (7, .int .i64 (a0.length : Int)), (8, .int .i64 (i : Int)), (16, .bool ((a1.re.n == (a0.getD i (default : Cx)).re.n) && (a1.im.n == (a0.getD i (default : Cx)).im.n)))] rfl ?_)
  refine C_ite rfl (fun hC1 => ?_) (fun hC1 => ?_)
  ·have _hC1 := trivial
   have hC1p : (a1.re.n = (a0.getD i (default : Cx)).re.n ∧ a1.im.n = (a0.getD i (default : Cx)).im.n) := by simpa using hC1
   refine C_seq ?_
   refine C_region ?_
   refine wv rfl rfl rfl (R_move rfl rfl) <| wv rfl rfl rfl (R_assign rfl rfl) ?_
   refine W_nil ?_
   refine E_then (C_fr [(4, .int .i64 (i : Int))] rfl ?_)
   refine C_ret ?_
   refine E_block_ret ?_
   refine E_then_ret ?_
   refine E_then_ret ?_
   refine E_block_ret ?_
   refine E_then_ret ?_
   refine E_ret1 rfl rfl ?_
   exact ⟨Lret1 (Lint (show (i : Int) = idxF (fun x : Cx => ((a1.re.n == x.re.n) && (a1.im.n == x.im.n))) a0 0 by first | (rw [← hI0_1]; exact (idxF_hit (d := default) (by omega) (by simp_all)).symm) | (rw [← hI0_1]; exact (idxF_end (by omega)).symm))), hS.fin [] (by decide) rfl⟩
  ·have _hC1 := trivial
   have hC1p : ¬ ((a1.re.n = (a0.getD i (default : Cx)).re.n ∧ a1.im.n = (a0.getD i (default : Cx)).im.n)) := by simpa using hC1
   refine C_skip ?_
   refine E_block_normal ?_
   refine E_then ?_
   refine C_region ?_
   refine wv rfl rfl rfl (R_add64 rfl rfl rfl (by omega) (by omega)) <| wv rfl rfl rfl (R_move rfl rfl) ?_
   refine W_nil ?_
   refine E_round [0, 1, 7, 8] ?_ ⟨(i + 1 : Nat), rfl, (by omega), (by rw [← hI0_1, idxF_next (n := i) (d := default) (by omega) (by simp_all)] <;> rfl), rfl, hS.fin [] (by decide) rfl⟩
   omega
 ·have _hC0 := trivial
  have hC0p : ¬ ((i : Int) < (a0.length : Int)) := by simpa using hC0
  refine C_exit ?_
  refine E_then_exit ?_
  refine E_then_exit ?_
  refine E_block_hit ?_
  refine E_then (C_fr [] rfl ?_)
  refine C_seq ?_
  refine C_region ?_
  refine wv rfl rfl rfl (R_assign rfl rfl) ?_
  refine W_nil ?_
  refine E_then ?_
  refine C_ret ?_
  refine E_ret1 rfl rfl ?_
  exact ⟨Lret1 (Lint (show (-1) = idxF (fun x : Cx => ((a1.re.n == x.re.n) && (a1.im.n == x.im.n))) a0 0 by first | (rw [← hI0_1]; exact (idxF_hit (d := default) (by omega) (by simp_all)).symm) | (rw [← hI0_1]; exact (idxF_end (by omega)).symm))), hS.fin [] (by decide) rfl⟩

set_option maxHeartbeats 1000000 in
set_option maxRecDepth 20000 in
theorem arms_calls (a0 : TSheet) (Aa0_Widths : Option Addr) (ca0_Widths : Nat) (Aa0_Heights : Option Addr) (ca0_Heights : Nat) (Aa0_Cells : Option Addr) (ca0_Cells : Nat) (Aa0_Merges : Option Addr) (ca0_Merges : Nat) (a1 : Int) (a2 : Int) (z : Z) (w : World) (hI : In z w []) (hra0_Widths : Rd (kint .i64) z Aa0_Widths a0.Widths) (hca0_Widths : Cap Aa0_Widths a0.Widths.length ca0_Widths) (hra0_Heights : Rd (kint .i64) z Aa0_Heights a0.Heights) (hca0_Heights : Cap Aa0_Heights a0.Heights.length ca0_Heights) (hra0_Cells : Rd kdTCell z Aa0_Cells a0.Cells) (hca0_Cells : Cap Aa0_Cells a0.Cells.length ca0_Cells) (hra0_Merges : Rd kdTRect z Aa0_Merges a0.Merges) (hca0_Merges : Cap Aa0_Merges a0.Merges.length ca0_Merges) (p0 : I64 a1) (p1 : I64 a2) :
    Calls Try.prog 9 #[.agg #[.int .i64 a0.Right, .slice Aa0_Widths a0.Widths.length ca0_Widths, .slice Aa0_Heights a0.Heights.length ca0_Heights, .slice Aa0_Cells a0.Cells.length ca0_Cells, .slice Aa0_Merges a0.Merges.length ca0_Merges], .int .i64 a1, .int .i64 a2] w fun e w' => e = .returned (.tuple #[.int .i64 (armsS a0 a1 a2).1, .int .i64 (armsS a0 a1 a2).2]) ∧ Sp (FF []) w z w' [] := by
 have hla0_Widths := hca0_Widths.le
 have hma0_Widths := hca0_Widths.mx
 have hla0_Heights := hca0_Heights.le
 have hma0_Heights := hca0_Heights.mx
 have hla0_Cells := hca0_Cells.le
 have hma0_Cells := hca0_Cells.mx
 have hla0_Merges := hca0_Merges.le
 have hma0_Merges := hca0_Merges.mx
 have hS := hI.sp
 refine Calls_of (vs := [.agg #[.int .i64 a0.Right, .slice Aa0_Widths a0.Widths.length ca0_Widths, .slice Aa0_Heights a0.Heights.length ca0_Heights, .slice Aa0_Cells a0.Cells.length ca0_Cells, .slice Aa0_Merges a0.Merges.length ca0_Merges], .int .i64 a1, .int .i64 a2]) (N := 64) Try.func9 rfl rfl (Nat.le_of_ble_eq_true rfl) ?_
 refine C_seq ?_
 refine C_region ?_
 refine W_cons rfl (by decide) (S_box hS rfl (R_box (cs := [.int .i64 a0.Right, .slice Aa0_Widths a0.Widths.length ca0_Widths, .slice Aa0_Heights a0.Heights.length ca0_Heights, .slice Aa0_Cells a0.Cells.length ca0_Cells, .slice Aa0_Merges a0.Merges.length ca0_Merges]) rfl rfl rfl) (fun b2 w1 hS => ?_))
 refine wv rfl rfl rfl (R_assign rfl rfl) <| wv rfl rfl rfl (R_assign rfl rfl) ?_
 refine W_nil ?_
 refine E_then ?_
 refine C_seq ?_
 refine C_seq ?_
 refine C_region ?_
 refine wv rfl rfl rfl (R_loadN (cs := [.int .i64 a0.Right, .slice Aa0_Widths a0.Widths.length ca0_Widths, .slice Aa0_Heights a0.Heights.length ca0_Heights, .slice Aa0_Cells a0.Cells.length ca0_Cells, .slice Aa0_Merges a0.Merges.length ca0_Merges]) rfl rfl agg26 size26 rfl (boxcells (hS.bx 0 rfl) 0 rfl)) ?_
 refine W_cons rfl (by decide) (Sv_call rfl rfl rfl ent23 ?_)
 refine (check_calls a0 Aa0_Widths ca0_Widths Aa0_Heights ca0_Heights Aa0_Cells ca0_Cells Aa0_Merges ca0_Merges _ _ hS.out0 (hra0_Widths.mono (hS.zl [])) hca0_Widths (hra0_Heights.mono (hS.zl [])) hca0_Heights (hra0_Cells.mono (hS.zl [])) hca0_Cells (hra0_Merges.mono (hS.zl [])) hca0_Merges ).mono ?_
 rintro e_ w3 ⟨rfl, hS_⟩
 refine ⟨_, rfl, ?_⟩
 have hS := hS.call0 hS_
 refine wv rfl rfl rfl (R_assign rfl rfl) ?_
 refine W_nil ?_
 refine E_then (C_fr [(1, .int .i64 a1), (2, .int .i64 a2), (3, .pointer (some ⟨b2, 0, none⟩)), (8, .int .i64 (checkSh a0))] rfl ?_)
 refine C_seq ?_
 refine C_region ?_
 refine wv rfl rfl rfl (R_move rfl rfl) <| wv rfl rfl rfl (R_bin rfl rfl rfl rfl rfl) ?_
 refine W_nil ?_
 refine E_then ?_
 refine C_ite rfl (fun hC0 => ?_) (fun hC0 => ?_)
 ·have _hC0 := trivial
  have hC0p : ¬ (checkSh a0) = 0 := by simpa using hC0
  refine C_seq ?_
  refine C_region ?_
  refine wv rfl rfl rfl (R_move rfl rfl) <| wv rfl rfl rfl (R_assign rfl rfl) <| wv rfl rfl rfl (R_assign rfl rfl) ?_
  refine W_nil ?_
  refine E_then (C_fr [(6, .int .i64 0), (7, .int .i64 (checkSh a0))] rfl ?_)
  refine C_ret ?_
  refine E_then_ret ?_
  refine E_ret2 rfl rfl rfl ?_
  exact ⟨Lret2 (Lint (show 0 = (armsS a0 a1 a2).1 by first | (rw [arms_bad (by assumption)] <;> rfl) | (rw [arms_far (by omega) (by omega)] <;> rfl) | (rw [arms_ok (i := i) (by omega) (by omega) (by omega) (by omega)] <;> rfl))) (Lint (show checkSh a0 = (armsS a0 a1 a2).2 by first | (rw [arms_bad (by assumption)] <;> rfl) | (rw [arms_far (by omega) (by omega)] <;> rfl) | (rw [arms_ok (i := i) (by omega) (by omega) (by omega) (by omega)] <;> rfl))), hS.fin [] (by decide) rfl⟩
 ·have _hC0 := trivial
  have hC0p : (checkSh a0) = 0 := by simpa using hC0
  refine C_skip ?_
  refine E_then ?_
  refine C_seq ?_
  obtain ⟨hsm0, hsm1, hsm2⟩ := chk_small (s := a0) (by omega)
  refine C_region ?_
  refine wv rfl rfl rfl (R_fld rfl rfl fld26_1) <| wv rfl rfl rfl (R_load1 rfl rfl agg22 ((hS.bx 0 rfl).cell rfl)) <| wv rfl rfl rfl (R_move rfl rfl) ?_
  refine W_cons rfl (by decide) (Sv_call rfl rfl rfl ent24 ?_)
  refine (find_calls a0.Widths Aa0_Widths ca0_Widths a1 _ _ hS.out0 (hra0_Widths.mono (hS.zl [])) hca0_Widths (by first | omega | (dsimp only; omega) | (have hw_ := way_bd i; exact hw_) | (unfold I64 at *; omega)) (by first | omega | (dsimp only; omega) | (have hw_ := way_bd i; exact hw_) | (unfold I64 at *; omega))).mono ?_
  rintro e_ w5 ⟨rfl, hS_⟩
  refine ⟨_, rfl, ?_⟩
  have hS := hS.call0 hS_
  refine wv rfl rfl rfl (R_move rfl rfl) <| wv rfl rfl rfl (R_extract rfl rfl rfl) <| wv rfl rfl rfl (R_extract rfl rfl rfl) <| wv rfl rfl rfl (R_assign rfl rfl) <| wv rfl rfl rfl (R_assign rfl rfl) ?_
  refine W_nil ?_
  refine E_then (C_fr [(2, .int .i64 a2), (3, .pointer (some ⟨b2, 0, none⟩)), (9, .int .i64 (findS a0.Widths a1).1), (10, .int .i64 (findS a0.Widths a1).2)] rfl ?_)
  refine C_seq ?_
  refine C_region ?_
  refine wv rfl rfl rfl (R_fld rfl rfl fld26_2) <| wv rfl rfl rfl (R_load1 rfl rfl agg22 ((hS.bx 0 rfl).cell rfl)) <| wv rfl rfl rfl (R_move rfl rfl) ?_
  refine W_cons rfl (by decide) (Sv_call rfl rfl rfl ent24 ?_)
  refine (find_calls a0.Heights Aa0_Heights ca0_Heights a2 _ _ hS.out0 (hra0_Heights.mono (hS.zl [])) hca0_Heights (by first | omega | (dsimp only; omega) | (have hw_ := way_bd i; exact hw_) | (unfold I64 at *; omega)) (by first | omega | (dsimp only; omega) | (have hw_ := way_bd i; exact hw_) | (unfold I64 at *; omega))).mono ?_
  rintro e_ w7 ⟨rfl, hS_⟩
  refine ⟨_, rfl, ?_⟩
  have hS := hS.call0 hS_
  refine wv rfl rfl rfl (R_move rfl rfl) <| wv rfl rfl rfl (R_extract rfl rfl rfl) <| wv rfl rfl rfl (R_extract rfl rfl rfl) <| wv rfl rfl rfl (R_assign rfl rfl) <| wv rfl rfl rfl (R_assign rfl rfl) ?_
  refine W_nil ?_
  refine E_then (C_fr [(3, .pointer (some ⟨b2, 0, none⟩)), (9, .int .i64 (findS a0.Widths a1).1), (10, .int .i64 (findS a0.Widths a1).2), (11, .int .i64 (findS a0.Heights a2).1), (12, .int .i64 (findS a0.Heights a2).2)] rfl ?_)
  refine C_seq ?_
  refine C_seq ?_
  refine C_region ?_
  refine wv rfl rfl rfl (R_move rfl rfl) <| wv rfl rfl rfl (R_bin rfl rfl rfl rfl rfl) <| wv rfl rfl rfl (R_move rfl rfl) <| wg rfl rfl (Gd.no rfl rfl rfl) (fun hB => R_move rfl rfl) <| wg rfl rfl (Gd.no rfl rfl rfl) (fun hB => Runs.at_ (i := 39) (gl rfl hB) (R_bin rfl rfl rfl rfl rfl)) <| wv rfl rfl rfl (R_pick_or rfl rfl rfl rfl) ?_
  refine W_nil ?_
  refine E_then (C_fr [(3, .pointer (some ⟨b2, 0, none⟩)), (9, .int .i64 (findS a0.Widths a1).1), (10, .int .i64 (findS a0.Widths a1).2), (11, .int .i64 (findS a0.Heights a2).1), (12, .int .i64 (findS a0.Heights a2).2), (41, .bool ((decide ((findS a0.Widths a1).1 < 0)) || (decide ((findS a0.Heights a2).1 < 0))))] rfl ?_)
  refine C_ite rfl (fun hC1 => ?_) (fun hC1 => ?_)
  ·have _hC1 := trivial
   have hC1p : ((findS a0.Widths a1).1 < 0 ∨ (findS a0.Heights a2).1 < 0) := by simpa using hC1
   refine C_seq ?_
   refine C_region ?_
   refine wv rfl rfl rfl (R_assign rfl rfl) <| wv rfl rfl rfl (R_assign rfl rfl) ?_
   refine W_nil ?_
   refine E_then (C_fr [(6, .int .i64 0), (7, .int .i64 4)] rfl ?_)
   refine C_ret ?_
   refine E_then_ret ?_
   refine E_ret2 rfl rfl rfl ?_
   exact ⟨Lret2 (Lint (show 0 = (armsS a0 a1 a2).1 by first | (rw [arms_bad (by assumption)] <;> rfl) | (rw [arms_far (by omega) (by omega)] <;> rfl) | (rw [arms_ok (i := i) (by omega) (by omega) (by omega) (by omega)] <;> rfl))) (Lint (show 4 = (armsS a0 a1 a2).2 by first | (rw [arms_bad (by assumption)] <;> rfl) | (rw [arms_far (by omega) (by omega)] <;> rfl) | (rw [arms_ok (i := i) (by omega) (by omega) (by omega) (by omega)] <;> rfl))), hS.fin [] (by decide) rfl⟩
  ·have _hC1 := trivial
   have hC1p : ¬ (((findS a0.Widths a1).1 < 0 ∨ (findS a0.Heights a2).1 < 0)) := by simpa using hC1
   refine C_skip ?_
   refine E_then ?_
   refine C_seq ?_
   have hfb := find_bd a0.Widths a1
   have hfc := find_bd a0.Heights a2
   refine C_region ?_
   refine wv rfl rfl rfl (R_loadN (cs := [.int .i64 a0.Right, .slice Aa0_Widths a0.Widths.length ca0_Widths, .slice Aa0_Heights a0.Heights.length ca0_Heights, .slice Aa0_Cells a0.Cells.length ca0_Cells, .slice Aa0_Merges a0.Merges.length ca0_Merges]) rfl rfl agg26 size26 rfl (boxcells (hS.bx 0 rfl) 0 rfl)) <| wv rfl rfl rfl (R_move rfl rfl) <| wv rfl rfl rfl (R_move rfl rfl) <| wv rfl rfl rfl (R_move rfl rfl) <| wv rfl rfl rfl (R_bin rfl rfl rfl rfl rfl) <| wv rfl rfl rfl (R_move rfl rfl) <| wv rfl rfl rfl (R_bin rfl rfl rfl rfl rfl) <| wv rfl rfl rfl (R_build (w' := w7) (ps := [(0, (.tmp 42)), (1, (.tmp 43)), (2, (.tmp 44)), (3, (.tmp 46)), (4, (.tmp 48))]) (vs := [.agg #[.int .i64 a0.Right, .slice Aa0_Widths a0.Widths.length ca0_Widths, .slice Aa0_Heights a0.Heights.length ca0_Heights, .slice Aa0_Cells a0.Cells.length ca0_Cells, .slice Aa0_Merges a0.Merges.length ca0_Merges], .int .i64 (findS a0.Widths a1).1, .int .i64 (findS a0.Heights a2).1, .bool (decide ((findS a0.Widths a1).2 < 0)), .bool (decide ((findS a0.Heights a2).2 < 0))]) (r := .agg #[.int .i64 a0.Right, .slice Aa0_Widths a0.Widths.length ca0_Widths, .slice Aa0_Heights a0.Heights.length ca0_Heights, .slice Aa0_Cells a0.Cells.length ca0_Cells, .slice Aa0_Merges a0.Merges.length ca0_Merges, .int .i64 (findS a0.Widths a1).1, .int .i64 (findS a0.Heights a2).1, .bool (decide ((findS a0.Widths a1).2 < 0)), .bool (decide ((findS a0.Heights a2).2 < 0))]) rfl rfl rfl (by kernel_rfl)) ?_
   refine W_cons rfl (by decide) (S_box hS rfl (R_alloc rfl alloc50) (fun b10 w9 hS => ?_))
   refine W_cons0 rfl (S_store hS 0 rfl rfl rfl rfl rfl size50 (one_cons rfl (one_cons rfl (one_cons rfl (one_cons rfl (one_cons rfl (one_cons rfl (one_cons rfl (one_cons rfl (one_cons rfl one_nil))))))))) (Nat.le_of_ble_eq_true rfl) (fun w11 hS => ?_))
   have hS : Sp (FF []) w z w11 [bR b10 50 [.int .i64 a0.Right, .slice Aa0_Widths a0.Widths.length ca0_Widths, .slice Aa0_Heights a0.Heights.length ca0_Heights, .slice Aa0_Cells a0.Cells.length ca0_Cells, .slice Aa0_Merges a0.Merges.length ca0_Merges, .int .i64 (findS a0.Widths a1).1, .int .i64 (findS a0.Heights a2).1, .bool (decide ((findS a0.Widths a1).2 < 0)), .bool (decide ((findS a0.Heights a2).2 < 0))], bR b2 26 [.int .i64 a0.Right, .slice Aa0_Widths a0.Widths.length ca0_Widths, .slice Aa0_Heights a0.Heights.length ca0_Heights, .slice Aa0_Cells a0.Cells.length ca0_Cells, .slice Aa0_Merges a0.Merges.length ca0_Merges]] := hS
   refine W_nil ?_
   refine E_then (C_fr [(13, .pointer (some ⟨b10, 0, none⟩))] rfl ?_)
   refine C_seq ?_
   refine C_region ?_
   refine wv rfl rfl rfl (R_assign rfl rfl) ?_
   refine W_nil ?_
   refine E_then ?_
   refine C_seq ?_
   refine C_seq ?_
   refine C_region ?_
   refine W_cons rfl (by decide) (Sv_call rfl rfl rfl ent25 ?_)
   refine (ways_calls  _ _ hS.out0  ).mono ?_
   rintro e_ w12 ⟨rfl, hS_⟩
   refine ⟨_, rfl, ?_⟩
   have hS := hS.call0 hS_
   refine wv rfl rfl rfl (R_move rfl rfl) ?_
   refine W_nil ?_
   refine E_then ?_
   refine C_block ?_
   have hs15 : 0 = bitsN (fun n_ => armS (⟨a0, (findS a0.Widths a1).1, (findS a0.Heights a2).1, decide ((findS a0.Widths a1).2 < 0), decide ((findS a0.Heights a2).2 < 0)⟩ : TSpot) (wayN n_)) (0 : Nat) := by rfl
   refine C_fr [(13, .pointer (some ⟨b10, 0, none⟩)), (14, .int .i64 0), (50, .agg #[.complex .f64 wayA.e0.re.bits wayA.e0.im.bits, .complex .f64 wayA.e1.re.bits wayA.e1.im.bits, .complex .f64 wayA.e2.re.bits wayA.e2.im.bits, .complex .f64 wayA.e3.re.bits wayA.e3.im.bits]), (51, .int .i64 0)] rfl ?_
   refine C_loop (fun m_ f_ w_ => ∃ (i : Nat), f_ = [(13, .pointer (some ⟨b10, 0, none⟩)), (14, .int .i64 (bitsN (fun n_ => armS (⟨a0, (findS a0.Widths a1).1, (findS a0.Heights a2).1, decide ((findS a0.Widths a1).2 < 0), decide ((findS a0.Heights a2).2 < 0)⟩ : TSpot) (wayN n_)) i)), (50, .agg #[.complex .f64 wayA.e0.re.bits wayA.e0.im.bits, .complex .f64 wayA.e1.re.bits wayA.e1.im.bits, .complex .f64 wayA.e2.re.bits wayA.e2.im.bits, .complex .f64 wayA.e3.re.bits wayA.e3.im.bits]), (51, .int .i64 (i : Int))] ∧ i ≤ 4 ∧ m_ = 4 - i ∧ Sp (FF []) w z w_ [bR b10 50 [.int .i64 a0.Right, .slice Aa0_Widths a0.Widths.length ca0_Widths, .slice Aa0_Heights a0.Heights.length ca0_Heights, .slice Aa0_Cells a0.Cells.length ca0_Cells, .slice Aa0_Merges a0.Merges.length ca0_Merges, .int .i64 (findS a0.Widths a1).1, .int .i64 (findS a0.Heights a2).1, .bool (decide ((findS a0.Widths a1).2 < 0)), .bool (decide ((findS a0.Heights a2).2 < 0))]]) (4 - (0 : Nat)) ⟨(0 : Nat), (by rw [← hs15] <;> rfl), (by omega), rfl, hS.fin [0] (by decide) rfl⟩ ?_
   rintro m_ f_ w14 ⟨i, rfl, hI0_0, rfl, hS⟩
   refine C_seq ?_
   refine C_region ?_
   refine wv rfl rfl rfl (R_bin rfl rfl rfl rfl rfl) ?_
   refine W_nil ?_
   refine E_then ?_
   refine C_seq ?_
   refine C_ite rfl (fun hC2 => ?_) (fun hC2 => ?_)
   ·have _hC2 := trivial
    have hC2p : (i : Int) < 4 := by simpa using hC2
    refine C_skip ?_
    refine E_then ?_
    refine C_seq ?_
    refine C_block ?_
    refine C_seq ?_
    have hpw := pow_bd (i := i) (by omega)
    have hpx : (1 : Int) ≤ 2 ^ (i : Int).toNat ∧ (2 : Int) ^ (i : Int).toNat ≤ 8 := hpw
    have hbb := bits_bd (f := fun n_ => armS (⟨a0, (findS a0.Widths a1).1, (findS a0.Heights a2).1, decide ((findS a0.Widths a1).2 < 0), decide ((findS a0.Heights a2).2 < 0)⟩ : TSpot) (wayN n_)) (i := i) (by omega)
    refine C_region ?_
    refine wv rfl rfl rfl (R_move rfl rfl) <| wv rfl rfl rfl (R_aridx_cx (xs := [wayA.e0, wayA.e1, wayA.e2, wayA.e3]) rfl rfl rfl Try.underlying51 agg42 size42 rfl (by omega) (by simp only [List.length_cons, List.length_nil]; omega)) <| wv rfl rfl rfl (R_assign rfl rfl) <| wv rfl rfl rfl (R_assign rfl rfl) ?_
    refine W_nil ?_
    refine E_then ?_
    refine C_seq ?_
    refine C_region ?_
    refine wv rfl rfl rfl (R_loadN (cs := [.int .i64 a0.Right, .slice Aa0_Widths a0.Widths.length ca0_Widths, .slice Aa0_Heights a0.Heights.length ca0_Heights, .slice Aa0_Cells a0.Cells.length ca0_Cells, .slice Aa0_Merges a0.Merges.length ca0_Merges, .int .i64 (findS a0.Widths a1).1, .int .i64 (findS a0.Heights a2).1, .bool (decide ((findS a0.Widths a1).2 < 0)), .bool (decide ((findS a0.Heights a2).2 < 0))]) rfl rfl agg50 size50 rfl (boxcells (hS.bx 0 rfl) 0 rfl)) <| wv rfl rfl rfl (R_move rfl rfl) ?_
    refine W_cons rfl (by decide) (Sv_call rfl rfl rfl ent26 ?_)
    refine (sarm_calls (⟨a0, (findS a0.Widths a1).1, (findS a0.Heights a2).1, decide ((findS a0.Widths a1).2 < 0), decide ((findS a0.Heights a2).2 < 0)⟩ : TSpot) Aa0_Widths ca0_Widths Aa0_Heights ca0_Heights Aa0_Cells ca0_Cells Aa0_Merges ca0_Merges (([wayA.e0, wayA.e1, wayA.e2, wayA.e3] : List Cx).getD i default) _ _ hS.out0 (hra0_Widths.mono (hS.zl [])) hca0_Widths (hra0_Heights.mono (hS.zl [])) hca0_Heights (hra0_Cells.mono (hS.zl [])) hca0_Cells (hra0_Merges.mono (hS.zl [])) hca0_Merges (by first | omega | (dsimp only; omega) | (have hw_ := way_bd i; exact hw_) | (unfold I64 at *; omega)) (by first | omega | (dsimp only; omega) | (have hw_ := way_bd i; exact hw_) | (unfold I64 at *; omega))).mono ?_
    rintro e_ w16 ⟨rfl, hS_⟩
    refine ⟨_, rfl, ?_⟩
    have hS := hS.call0 hS_
    refine W_nil ?_
    refine E_then (C_fr [(13, .pointer (some ⟨b10, 0, none⟩)), (14, .int .i64 (bitsN (fun n_ => armS (⟨a0, (findS a0.Widths a1).1, (findS a0.Heights a2).1, decide ((findS a0.Widths a1).2 < 0), decide ((findS a0.Heights a2).2 < 0)⟩ : TSpot) (wayN n_)) i)), (15, .int .i64 (i : Int)), (50, .agg #[.complex .f64 wayA.e0.re.bits wayA.e0.im.bits, .complex .f64 wayA.e1.re.bits wayA.e1.im.bits, .complex .f64 wayA.e2.re.bits wayA.e2.im.bits, .complex .f64 wayA.e3.re.bits wayA.e3.im.bits]), (51, .int .i64 (i : Int)), (57, .bool (armS (⟨a0, (findS a0.Widths a1).1, (findS a0.Heights a2).1, decide ((findS a0.Widths a1).2 < 0), decide ((findS a0.Heights a2).2 < 0)⟩ : TSpot) (([wayA.e0, wayA.e1, wayA.e2, wayA.e3] : List Cx).getD i default)))] rfl ?_)
    refine C_ite rfl (fun hC3 => ?_) (fun hC3 => ?_)
    ·have _hC3 := trivial
     refine C_region ?_
     refine wv rfl rfl rfl (R_move rfl rfl) <| wv rfl rfl rfl (R_move rfl rfl) <| wv rfl rfl rfl ((show Runs _ _ _ _ (.int .i64 (1 * 2 ^ i)) _ from R_shl (n := (i : Int)) rfl rfl rfl (by omega) (by (show _ ≤ 64; omega)) (by exact wrap_id (by omega) (by omega)))) <| wv rfl rfl rfl (R_bin rfl rfl rfl rfl rfl) <| wv rfl rfl rfl (R_assign rfl rfl) ?_
     refine W_nil ?_
     refine E_block_normal ?_
     refine E_then (C_fr [(13, .pointer (some ⟨b10, 0, none⟩)), (14, .int .i64 (Go.bits .or .i64 (bitsN (fun n_ => armS (⟨a0, (findS a0.Widths a1).1, (findS a0.Heights a2).1, decide ((findS a0.Widths a1).2 < 0), decide ((findS a0.Heights a2).2 < 0)⟩ : TSpot) (wayN n_)) i) (1 * 2 ^ i))), (50, .agg #[.complex .f64 wayA.e0.re.bits wayA.e0.im.bits, .complex .f64 wayA.e1.re.bits wayA.e1.im.bits, .complex .f64 wayA.e2.re.bits wayA.e2.im.bits, .complex .f64 wayA.e3.re.bits wayA.e3.im.bits]), (51, .int .i64 (i : Int))] rfl ?_)
     refine C_region ?_
     refine wv rfl rfl rfl (R_add64 rfl rfl rfl (by omega) (by omega)) <| wv rfl rfl rfl (R_move rfl rfl) ?_
     refine W_nil ?_
     have hs18 : Go.bits .or .i64 (bitsN (fun n_ => armS (⟨a0, (findS a0.Widths a1).1, (findS a0.Heights a2).1, decide ((findS a0.Widths a1).2 < 0), decide ((findS a0.Heights a2).2 < 0)⟩ : TSpot) (wayN n_)) i) (1 * 2 ^ i) = bitsN (fun n_ => armS (⟨a0, (findS a0.Widths a1).1, (findS a0.Heights a2).1, decide ((findS a0.Widths a1).2 < 0), decide ((findS a0.Heights a2).2 < 0)⟩ : TSpot) (wayN n_)) (i + 1 : Nat) := by exact bits_on (f := fun n_ => armS (⟨a0, (findS a0.Widths a1).1, (findS a0.Heights a2).1, decide ((findS a0.Widths a1).2 < 0), decide ((findS a0.Heights a2).2 < 0)⟩ : TSpot) (wayN n_)) (by omega) (by assumption)
     refine E_round [13, 14, 50, 51] ?_ ⟨(i + 1 : Nat), (by rw [← hs18] <;> rfl), (by omega), rfl, hS.fin [0] (by decide) rfl⟩
     omega
    ·have _hC3 := trivial
     refine C_skip ?_
     refine E_block_normal ?_
     refine E_then ?_
     refine C_region ?_
     refine wv rfl rfl rfl (R_add64 rfl rfl rfl (by omega) (by omega)) <| wv rfl rfl rfl (R_move rfl rfl) ?_
     refine W_nil ?_
     have hs19 : bitsN (fun n_ => armS (⟨a0, (findS a0.Widths a1).1, (findS a0.Heights a2).1, decide ((findS a0.Widths a1).2 < 0), decide ((findS a0.Heights a2).2 < 0)⟩ : TSpot) (wayN n_)) i = bitsN (fun n_ => armS (⟨a0, (findS a0.Widths a1).1, (findS a0.Heights a2).1, decide ((findS a0.Widths a1).2 < 0), decide ((findS a0.Heights a2).2 < 0)⟩ : TSpot) (wayN n_)) (i + 1 : Nat) := by exact bits_off (f := fun n_ => armS (⟨a0, (findS a0.Widths a1).1, (findS a0.Heights a2).1, decide ((findS a0.Widths a1).2 < 0), decide ((findS a0.Heights a2).2 < 0)⟩ : TSpot) (wayN n_)) (by assumption)
     refine E_round [13, 14, 50, 51] ?_ ⟨(i + 1 : Nat), (by rw [← hs19] <;> rfl), (by omega), rfl, hS.fin [0] (by decide) rfl⟩
     omega
   ·have _hC2 := trivial
    have hC2p : ¬ ((i : Int) < 4) := by simpa using hC2
    refine C_exit ?_
    refine E_then_exit ?_
    refine E_then_exit ?_
    refine E_block_hit ?_
    refine E_then ?_
    refine C_seq ?_
    refine C_region ?_
    refine wv rfl rfl rfl (R_move rfl rfl) <| wv rfl rfl rfl (R_assign rfl rfl) <| wv rfl rfl rfl (R_assign rfl rfl) ?_
    refine W_nil ?_
    refine E_then (C_fr [(6, .int .i64 (bitsN (fun n_ => armS (⟨a0, (findS a0.Widths a1).1, (findS a0.Heights a2).1, decide ((findS a0.Widths a1).2 < 0), decide ((findS a0.Heights a2).2 < 0)⟩ : TSpot) (wayN n_)) i)), (7, .int .i64 0)] rfl ?_)
    refine C_ret ?_
    refine E_ret2 rfl rfl rfl ?_
    exact ⟨Lret2 (Lint (show bitsN (fun n_ => armS (⟨a0, (findS a0.Widths a1).1, (findS a0.Heights a2).1, decide ((findS a0.Widths a1).2 < 0), decide ((findS a0.Heights a2).2 < 0)⟩ : TSpot) (wayN n_)) i = (armsS a0 a1 a2).1 by first | (rw [arms_bad (by assumption)] <;> rfl) | (rw [arms_far (by omega) (by omega)] <;> rfl) | (rw [arms_ok (i := i) (by omega) (by omega) (by omega) (by omega)] <;> rfl))) (Lint (show 0 = (armsS a0 a1 a2).2 by first | (rw [arms_bad (by assumption)] <;> rfl) | (rw [arms_far (by omega) (by omega)] <;> rfl) | (rw [arms_ok (i := i) (by omega) (by omega) (by omega) (by omega)] <;> rfl))), hS.fin [] (by decide) rfl⟩

set_option maxHeartbeats 1000000 in
set_option maxRecDepth 20000 in
theorem eturn_calls (a0 : Int) (z : Z) (w : World) (hI : In z w [])   :
    Calls Try.prog 13 #[.int .i64 a0] w fun e w' => e = .returned (.int .i64 (edTurn a0)) ∧ Sp (FF []) w z w' [] := by
 have hS := hI.sp
 refine Calls_of (vs := [.int .i64 a0]) (N := 27) Try.func13 rfl rfl (Nat.le_of_ble_eq_true rfl) ?_
 refine C_seq ?_
 refine C_region ?_
 refine wv rfl rfl rfl (R_assign rfl rfl) ?_
 refine W_nil ?_
 refine E_then ?_
 refine C_seq ?_
 refine C_region ?_
 refine W_cons rfl (by decide) (Sv_call rfl rfl rfl ent25 ?_)
 refine (ways_calls  _ _ hS.out0  ).mono ?_
 rintro e_ w1 ⟨rfl, hS_⟩
 refine ⟨_, rfl, ?_⟩
 have hS := hS.call0 hS_
 refine W_cons rfl (by decide) (S_box hS rfl (R_alloc rfl alloc51) (fun b4 w3 hS => ?_))
 refine W_cons0 rfl (S_store hS 0 rfl rfl rfl rfl rfl size51 (one_cons rfl (one_cons rfl (one_cons rfl (one_cons rfl one_nil)))) (Nat.le_of_ble_eq_true rfl) (fun w5 hS => ?_))
 have hS : Sp (FF []) w z w5 [bR b4 51 [.complex .f64 wayA.e0.re.bits wayA.e0.im.bits, .complex .f64 wayA.e1.re.bits wayA.e1.im.bits, .complex .f64 wayA.e2.re.bits wayA.e2.im.bits, .complex .f64 wayA.e3.re.bits wayA.e3.im.bits]] := hS
 refine W_nil ?_
 refine E_then ?_
 refine C_seq ?_
 refine C_region ?_
 refine wv rfl rfl rfl (R_assign rfl rfl) ?_
 refine W_nil ?_
 refine E_then ?_
 refine C_seq ?_
 refine C_seq ?_
 refine C_region ?_
 refine wv rfl rfl rfl (R_loadN (cs := [.complex .f64 wayA.e0.re.bits wayA.e0.im.bits, .complex .f64 wayA.e1.re.bits wayA.e1.im.bits, .complex .f64 wayA.e2.re.bits wayA.e2.im.bits, .complex .f64 wayA.e3.re.bits wayA.e3.im.bits]) rfl rfl agg51 size51 rfl (boxcells (hS.bx 0 rfl) 0 rfl)) <| wv rfl rfl rfl (R_move rfl rfl) ?_
 refine W_nil ?_
 refine E_then ?_
 refine C_block ?_
 have hs7 : 0 = turnN a0 (0 : Nat) := by rfl
 refine C_fr [(0, .int .i64 a0), (3, .pointer (some ⟨b4, 0, none⟩)), (4, .int .i64 0), (8, .agg #[.complex .f64 wayA.e0.re.bits wayA.e0.im.bits, .complex .f64 wayA.e1.re.bits wayA.e1.im.bits, .complex .f64 wayA.e2.re.bits wayA.e2.im.bits, .complex .f64 wayA.e3.re.bits wayA.e3.im.bits]), (9, .int .i64 0)] rfl ?_
 refine C_loop (fun m_ f_ w_ => ∃ (i : Nat), f_ = [(0, .int .i64 a0), (3, .pointer (some ⟨b4, 0, none⟩)), (4, .int .i64 (turnN a0 i)), (8, .agg #[.complex .f64 wayA.e0.re.bits wayA.e0.im.bits, .complex .f64 wayA.e1.re.bits wayA.e1.im.bits, .complex .f64 wayA.e2.re.bits wayA.e2.im.bits, .complex .f64 wayA.e3.re.bits wayA.e3.im.bits]), (9, .int .i64 (i : Int))] ∧ i ≤ 4 ∧ m_ = 4 - i ∧ Sp (FF []) w z w_ [bR b4 51 [.complex .f64 wayA.e0.re.bits wayA.e0.im.bits, .complex .f64 wayA.e1.re.bits wayA.e1.im.bits, .complex .f64 wayA.e2.re.bits wayA.e2.im.bits, .complex .f64 wayA.e3.re.bits wayA.e3.im.bits]]) (4 - (0 : Nat)) ⟨(0 : Nat), (by rw [← hs7] <;> rfl), (by omega), rfl, hS.fin [0] (by decide) rfl⟩ ?_
 rintro m_ f_ w6 ⟨i, rfl, hI0_0, rfl, hS⟩
 refine C_seq ?_
 refine C_region ?_
 refine wv rfl rfl rfl (R_bin rfl rfl rfl rfl rfl) ?_
 refine W_nil ?_
 refine E_then ?_
 refine C_seq ?_
 refine C_ite rfl (fun hC0 => ?_) (fun hC0 => ?_)
 ·have _hC0 := trivial
  have hC0p : (i : Int) < 4 := by simpa using hC0
  refine C_skip ?_
  refine E_then ?_
  refine C_seq ?_
  refine C_block ?_
  refine C_seq ?_
  have hpw := pow_bd (i := i) (by omega)
  have hpx : (1 : Int) ≤ 2 ^ (i : Int).toNat ∧ (2 : Int) ^ (i : Int).toNat ≤ 8 := hpw
  have hwx : 0 ≤ (idxF (fun x : Cx => (((mirW (([wayA.e0, wayA.e1, wayA.e2, wayA.e3] : List Cx).getD i default)).re.n == x.re.n) && ((mirW (([wayA.e0, wayA.e1, wayA.e2, wayA.e3] : List Cx).getD i default)).im.n == x.im.n))) ([wayA.e0, wayA.e1, wayA.e2, wayA.e3] : List Cx) 0) ∧ (idxF (fun x : Cx => (((mirW (([wayA.e0, wayA.e1, wayA.e2, wayA.e3] : List Cx).getD i default)).re.n == x.re.n) && ((mirW (([wayA.e0, wayA.e1, wayA.e2, wayA.e3] : List Cx).getD i default)).im.n == x.im.n))) ([wayA.e0, wayA.e1, wayA.e2, wayA.e3] : List Cx) 0) ≤ 3 ∧ (1 : Int) ≤ 2 ^ (idxF (fun x : Cx => (((mirW (([wayA.e0, wayA.e1, wayA.e2, wayA.e3] : List Cx).getD i default)).re.n == x.re.n) && ((mirW (([wayA.e0, wayA.e1, wayA.e2, wayA.e3] : List Cx).getD i default)).im.n == x.im.n))) ([wayA.e0, wayA.e1, wayA.e2, wayA.e3] : List Cx) 0).toNat ∧ (2 : Int) ^ (idxF (fun x : Cx => (((mirW (([wayA.e0, wayA.e1, wayA.e2, wayA.e3] : List Cx).getD i default)).re.n == x.re.n) && ((mirW (([wayA.e0, wayA.e1, wayA.e2, wayA.e3] : List Cx).getD i default)).im.n == x.im.n))) ([wayA.e0, wayA.e1, wayA.e2, wayA.e3] : List Cx) 0).toNat ≤ 8 := way_ix (i := i) (by omega)
  refine C_region ?_
  refine wv rfl rfl rfl (R_move rfl rfl) <| wv rfl rfl rfl (R_aridx_cx (xs := [wayA.e0, wayA.e1, wayA.e2, wayA.e3]) rfl rfl rfl Try.underlying51 agg42 size42 rfl (by omega) (by simp only [List.length_cons, List.length_nil]; omega)) <| wv rfl rfl rfl (R_assign rfl rfl) <| wv rfl rfl rfl (R_assign rfl rfl) ?_
  refine W_nil ?_
  refine E_then ?_
  refine C_seq ?_
  refine C_region ?_
  refine wv rfl rfl rfl (R_move rfl rfl) <| wv rfl rfl rfl (R_move rfl rfl) <| wv rfl rfl rfl ((show Runs _ _ _ _ (.int .i64 (a0 / 2 ^ i)) _ from R_shr (n := (i : Int)) rfl rfl rfl (by omega) (by (show _ ≤ 64; omega)))) <| wv rfl rfl rfl (R_and64 1 2 rfl rfl rfl (by decide) (by decide) (by decide)) <| wv rfl rfl rfl (R_bin rfl rfl rfl rfl rfl) ?_
  refine W_nil ?_
  refine E_then (C_fr [(0, .int .i64 a0), (3, .pointer (some ⟨b4, 0, none⟩)), (4, .int .i64 (turnN a0 i)), (6, .complex .f64 (([wayA.e0, wayA.e1, wayA.e2, wayA.e3] : List Cx).getD i default).re.bits (([wayA.e0, wayA.e1, wayA.e2, wayA.e3] : List Cx).getD i default).im.bits), (8, .agg #[.complex .f64 wayA.e0.re.bits wayA.e0.im.bits, .complex .f64 wayA.e1.re.bits wayA.e1.im.bits, .complex .f64 wayA.e2.re.bits wayA.e2.im.bits, .complex .f64 wayA.e3.re.bits wayA.e3.im.bits]), (9, .int .i64 (i : Int)), (17, .bool (((a0 / 2 ^ i) % 2) == 1))] rfl ?_)
  refine C_ite rfl (fun hC1 => ?_) (fun hC1 => ?_)
  ·have _hC1 := trivial
   have hC1p : ((a0 / 2 ^ i) % 2) = 1 := by simpa using hC1
   refine C_fr [(0, .int .i64 a0), (3, .pointer (some ⟨b4, 0, none⟩)), (4, .int .i64 (turnN a0 i)), (6, .complex .f64 (([wayA.e0, wayA.e1, wayA.e2, wayA.e3] : List Cx).getD i default).re.bits (([wayA.e0, wayA.e1, wayA.e2, wayA.e3] : List Cx).getD i default).im.bits), (8, .agg #[.complex .f64 wayA.e0.re.bits wayA.e0.im.bits, .complex .f64 wayA.e1.re.bits wayA.e1.im.bits, .complex .f64 wayA.e2.re.bits wayA.e2.im.bits, .complex .f64 wayA.e3.re.bits wayA.e3.im.bits]), (9, .int .i64 (i : Int))] rfl ?_
   refine C_drawn2 8 [[], [], [], [2], [1, 3, 3], [4], [0, 5]] [some 18, some 19, some 20, some 21, some 22, some 23, some 24] [0, 3, 4, 6, 8, 9] (List.replicate 7 7) (List.replicate 7 []) (List.replicate 7 []) [fun γ_ => .int .i64 (turnN a0 i), fun γ_ => .slice (some ⟨b4, 0, none⟩) 4 4, fun γ_ => .complex .f64 (([wayA.e0, wayA.e1, wayA.e2, wayA.e3] : List Cx).getD i default).re.bits (([wayA.e0, wayA.e1, wayA.e2, wayA.e3] : List Cx).getD i default).im.bits, fun γ_ => .complex .f64 (mirW (([wayA.e0, wayA.e1, wayA.e2, wayA.e3] : List Cx).getD i default)).re.bits (mirW (([wayA.e0, wayA.e1, wayA.e2, wayA.e3] : List Cx).getD i default)).im.bits, fun γ_ => .int .i64 (idxF (fun x : Cx => (((mirW (([wayA.e0, wayA.e1, wayA.e2, wayA.e3] : List Cx).getD i default)).re.n == x.re.n) && ((mirW (([wayA.e0, wayA.e1, wayA.e2, wayA.e3] : List Cx).getD i default)).im.n == x.im.n))) ([wayA.e0, wayA.e1, wayA.e2, wayA.e3] : List Cx) 0), fun γ_ => .int .i64 (1 * 2 ^ (idxF (fun x : Cx => (((mirW (([wayA.e0, wayA.e1, wayA.e2, wayA.e3] : List Cx).getD i default)).re.n == x.re.n) && ((mirW (([wayA.e0, wayA.e1, wayA.e2, wayA.e3] : List Cx).getD i default)).im.n == x.im.n))) ([wayA.e0, wayA.e1, wayA.e2, wayA.e3] : List Cx) 0).toNat), fun γ_ => .int .i64 (Go.bits .or .i64 (turnN a0 i) (1 * 2 ^ (idxF (fun x : Cx => (((mirW (([wayA.e0, wayA.e1, wayA.e2, wayA.e3] : List Cx).getD i default)).re.n == x.re.n) && ((mirW (([wayA.e0, wayA.e1, wayA.e2, wayA.e3] : List Cx).getD i default)).im.n == x.im.n))) ([wayA.e0, wayA.e1, wayA.e2, wayA.e3] : List Cx) 0).toNat))] (List.replicate 7 (fun _ => [])) rfl (by kernel_rfl) (by decide +kernel) hS ?_ ?_
   ·refine ⟨fun _ _ _ hS => Sv_val rfl (R_move rfl rfl) ⟨gh0, rfl, hS⟩, fun _ _ _ hS => Sv_val rfl (R_cutarr (n := 4) rfl rfl (by kernel_rfl) (by kernel_rfl) (size42 _)) ⟨gh0, rfl, hS⟩, fun _ _ _ hS => Sv_val rfl (R_move rfl rfl) ⟨gh0, rfl, hS⟩, fun g_ w18 fr19 hS => ?_, ?_⟩
    ·have _w18 := trivial
     have hS : Sp (FF []) w z w18 [bR b4 51 [.complex .f64 wayA.e0.re.bits wayA.e0.im.bits, .complex .f64 wayA.e1.re.bits wayA.e1.im.bits, .complex .f64 wayA.e2.re.bits wayA.e2.im.bits, .complex .f64 wayA.e3.re.bits wayA.e3.im.bits], allR fr19] := hS
     refine Sv_call rfl rfl rfl ent35 ?_
     refine (emir_calls (([wayA.e0, wayA.e1, wayA.e2, wayA.e3] : List Cx).getD i default) _ _ hS.out0  (by first | (exact (way_bd i)) | (exact way_all) | (exact (mir_bd i)))).mono ?_
     rintro e_ w20 ⟨rfl, hS_⟩
     refine ⟨_, rfl, ?_⟩
     have hS := hS.call0 hS_
     exact ⟨⟨fun _ => none, fun _ => 0, fun _ => zE, fun _ => 0⟩, rfl, hS.fin [0, 1] (by decide) rfl⟩
    refine ⟨fun g_ w22 fr23 hS => ?_, ?_⟩
    ·have _w22 := trivial
     have hS : Sp (FF []) w z w22 [bR b4 51 [.complex .f64 wayA.e0.re.bits wayA.e0.im.bits, .complex .f64 wayA.e1.re.bits wayA.e1.im.bits, .complex .f64 wayA.e2.re.bits wayA.e2.im.bits, .complex .f64 wayA.e3.re.bits wayA.e3.im.bits], allR fr23] := hS
     refine Sv_call rfl rfl rfl ent34 ?_
     refine (cxindex_calls ([wayA.e0, wayA.e1, wayA.e2, wayA.e3] : List Cx) (some ⟨b4, 0, none⟩) 4 (mirW (([wayA.e0, wayA.e1, wayA.e2, wayA.e3] : List Cx).getD i default)) _ _ hS.out0 (hS.brd [] 0 rfl rfl (d := kcx) (xs := ([wayA.e0, wayA.e1, wayA.e2, wayA.e3] : List Cx)) (q := zE) (by simp [Reps, flat, kcx])) ⟨by simp, (fun h => by cases h), by decide⟩ (by first | (exact (way_bd i)) | (exact way_all) | (exact (mir_bd i))) (by first | (exact (way_bd i)) | (exact way_all) | (exact (mir_bd i)))).mono ?_
     rintro e_ w24 ⟨rfl, hS_⟩
     refine ⟨_, rfl, ?_⟩
     have hS := hS.call0 hS_
     exact ⟨⟨fun _ => none, fun _ => 0, fun _ => zE, fun _ => 0⟩, rfl, hS.fin [0, 1] (by decide) rfl⟩
    refine ⟨fun _ _ _ hS => Sv_val rfl ((show Runs _ _ _ _ (.int .i64 (1 * 2 ^ (idxF (fun x : Cx => (((mirW (([wayA.e0, wayA.e1, wayA.e2, wayA.e3] : List Cx).getD i default)).re.n == x.re.n) && ((mirW (([wayA.e0, wayA.e1, wayA.e2, wayA.e3] : List Cx).getD i default)).im.n == x.im.n))) ([wayA.e0, wayA.e1, wayA.e2, wayA.e3] : List Cx) 0).toNat)) _ from R_shl (n := idxF (fun x : Cx => (((mirW (([wayA.e0, wayA.e1, wayA.e2, wayA.e3] : List Cx).getD i default)).re.n == x.re.n) && ((mirW (([wayA.e0, wayA.e1, wayA.e2, wayA.e3] : List Cx).getD i default)).im.n == x.im.n))) ([wayA.e0, wayA.e1, wayA.e2, wayA.e3] : List Cx) 0) rfl rfl rfl (by omega) (by (show _ ≤ 64; omega)) (by exact wrap_id (by omega) (by omega)))) ⟨gh0, rfl, hS⟩, fun _ _ _ hS => Sv_val rfl (R_bin rfl rfl rfl rfl rfl) ⟨gh0, rfl, hS⟩, ?_⟩
    exact trivial
   ·intro g_ w30 hS
    have hS : Sp (FF []) w z w30 [bR b4 51 [.complex .f64 wayA.e0.re.bits wayA.e0.im.bits, .complex .f64 wayA.e1.re.bits wayA.e1.im.bits, .complex .f64 wayA.e2.re.bits wayA.e2.im.bits, .complex .f64 wayA.e3.re.bits wayA.e3.im.bits]] := hS
    refine An_fr [(0, .int .i64 a0), (3, .pointer (some ⟨b4, 0, none⟩)), (4, .int .i64 (turnN a0 i)), (6, .complex .f64 (([wayA.e0, wayA.e1, wayA.e2, wayA.e3] : List Cx).getD i default).re.bits (([wayA.e0, wayA.e1, wayA.e2, wayA.e3] : List Cx).getD i default).im.bits), (8, .agg #[.complex .f64 wayA.e0.re.bits wayA.e0.im.bits, .complex .f64 wayA.e1.re.bits wayA.e1.im.bits, .complex .f64 wayA.e2.re.bits wayA.e2.im.bits, .complex .f64 wayA.e3.re.bits wayA.e3.im.bits]), (9, .int .i64 (i : Int)), (24, .int .i64 (Go.bits .or .i64 (turnN a0 i) (1 * 2 ^ (idxF (fun x : Cx => (((mirW (([wayA.e0, wayA.e1, wayA.e2, wayA.e3] : List Cx).getD i default)).re.n == x.re.n) && ((mirW (([wayA.e0, wayA.e1, wayA.e2, wayA.e3] : List Cx).getD i default)).im.n == x.im.n))) ([wayA.e0, wayA.e1, wayA.e2, wayA.e3] : List Cx) 0).toNat)))] rfl ?_
    refine An_one (i := 7) (by decide +kernel) rfl rfl (by decide) (Sv_val rfl (R_assign rfl rfl) ?_)
    refine An_done (by decide +kernel) ?_
    refine E_block_normal ?_
    refine E_then ?_
    refine C_region ?_
    refine wv rfl rfl rfl (R_add64 rfl rfl rfl (by omega) (by omega)) <| wv rfl rfl rfl (R_move rfl rfl) ?_
    refine W_nil ?_
    have hs32 : Go.bits .or .i64 (turnN a0 i) (1 * 2 ^ (idxF (fun x : Cx => (((mirW (([wayA.e0, wayA.e1, wayA.e2, wayA.e3] : List Cx).getD i default)).re.n == x.re.n) && ((mirW (([wayA.e0, wayA.e1, wayA.e2, wayA.e3] : List Cx).getD i default)).im.n == x.im.n))) ([wayA.e0, wayA.e1, wayA.e2, wayA.e3] : List Cx) 0).toNat) = turnN a0 (i + 1 : Nat) := by exact turn_on (by simpa using hC1)
    refine E_round [0, 3, 4, 8, 9] ?_ ⟨(i + 1 : Nat), (by rw [← hs32] <;> rfl), (by omega), rfl, hS.fin [0] (by decide) rfl⟩
    omega
  ·have _hC1 := trivial
   have hC1p : ¬ (((a0 / 2 ^ i) % 2) = 1) := by simpa using hC1
   refine C_skip ?_
   refine E_block_normal ?_
   refine E_then ?_
   refine C_region ?_
   refine wv rfl rfl rfl (R_add64 rfl rfl rfl (by omega) (by omega)) <| wv rfl rfl rfl (R_move rfl rfl) ?_
   refine W_nil ?_
   have hs33 : turnN a0 i = turnN a0 (i + 1 : Nat) := by exact turn_off (by simpa using hC1)
   refine E_round [0, 3, 4, 8, 9] ?_ ⟨(i + 1 : Nat), (by rw [← hs33] <;> rfl), (by omega), rfl, hS.fin [0] (by decide) rfl⟩
   omega
 ·have _hC0 := trivial
  have hC0p : ¬ ((i : Int) < 4) := by simpa using hC0
  refine C_exit ?_
  refine E_then_exit ?_
  refine E_then_exit ?_
  refine E_block_hit ?_
  refine E_then (C_fr [(4, .int .i64 (turnN a0 i))] rfl ?_)
  refine C_seq ?_
  refine C_region ?_
  refine wv rfl rfl rfl (R_move rfl rfl) <| wv rfl rfl rfl (R_assign rfl rfl) ?_
  refine W_nil ?_
  refine E_then ?_
  refine C_ret ?_
  refine E_ret1 rfl rfl ?_
  exact ⟨Lret1 (Lint (show turnN a0 i = edTurn a0 by rw [show i = 4 by omega]; rfl)), hS.fin [] (by decide) rfl⟩

set_option maxHeartbeats 400000 in
set_option maxRecDepth 20000 in
theorem eglyph_calls (a0 : Int) (z : Z) (w : World) (hI : In z w [])   :
    Calls Try.prog 15 #[.int .i64 a0] w fun e w' => e = .returned (.int .i64 (glyphS a0)) ∧ Sp (FF []) w z w' [] := by
 have hS := hI.sp
 refine Calls_of (vs := [.int .i64 a0]) (N := 10) Try.func15 rfl rfl (Nat.le_of_ble_eq_true rfl) ?_
 refine C_seq ?_
 refine C_region ?_
 refine wv rfl rfl rfl (R_assign rfl rfl) ?_
 refine W_nil ?_
 refine E_then ?_
 refine C_seq ?_
 refine C_region ?_
 refine W_cons rfl (by decide) (Sv_call rfl rfl rfl ent36 ?_)
 refine (signs_calls  _ _ hS.out0  ).mono ?_
 rintro e_ w1 ⟨rfl, hS_⟩
 refine ⟨_, rfl, ?_⟩
 have hS := hS.call0 hS_
 refine W_cons rfl (by decide) (S_box hS rfl (R_alloc rfl alloc66) (fun b4 w3 hS => ?_))
 refine W_cons0 rfl (S_store hS 0 rfl rfl rfl rfl rfl size66 (one_cons rfl (one_cons rfl (one_cons rfl (one_cons rfl (one_cons rfl (one_cons rfl (one_cons rfl (one_cons rfl (one_cons rfl (one_cons rfl (one_cons rfl (one_cons rfl (one_cons rfl (one_cons rfl (one_cons rfl (one_cons rfl one_nil)))))))))))))))) (Nat.le_of_ble_eq_true rfl) (fun w5 hS => ?_))
 have hS : Sp (FF []) w z w5 [bR b4 66 [.int .i32 signA.e0, .int .i32 signA.e1, .int .i32 signA.e2, .int .i32 signA.e3, .int .i32 signA.e4, .int .i32 signA.e5, .int .i32 signA.e6, .int .i32 signA.e7, .int .i32 signA.e8, .int .i32 signA.e9, .int .i32 signA.e10, .int .i32 signA.e11, .int .i32 signA.e12, .int .i32 signA.e13, .int .i32 signA.e14, .int .i32 signA.e15]] := hS
 refine W_nil ?_
 refine E_then ?_
 refine C_seq ?_
 have hsg : 0 ≤ ([signA.e0, signA.e1, signA.e2, signA.e3, signA.e4, signA.e5, signA.e6, signA.e7, signA.e8, signA.e9, signA.e10, signA.e11, signA.e12, signA.e13, signA.e14, signA.e15] : List Int).getD (a0 % 16).toNat 0 ∧ ([signA.e0, signA.e1, signA.e2, signA.e3, signA.e4, signA.e5, signA.e6, signA.e7, signA.e8, signA.e9, signA.e10, signA.e11, signA.e12, signA.e13, signA.e14, signA.e15] : List Int).getD (a0 % 16).toNat 0 ≤ 10000 := sign_bd _
 refine C_region ?_
 refine wv rfl rfl rfl (R_move rfl rfl) <| wv rfl rfl rfl (R_and64 4 16 rfl rfl rfl (by decide) (by decide) (by decide)) <| wv rfl rfl rfl (R_idxa rfl rfl rfl Try.underlying66 size21 (by omega) (by omega)) <| wv rfl rfl rfl (R_load1 rfl rfl agg21 (boxar (xs := ([signA.e0, signA.e1, signA.e2, signA.e3, signA.e4, signA.e5, signA.e6, signA.e7, signA.e8, signA.e9, signA.e10, signA.e11, signA.e12, signA.e13, signA.e14, signA.e15] : List Int)) (hS.bx 0 rfl) (by simp only [List.length_cons, List.length_nil]; omega))) <| wv rfl rfl rfl (R_convi rfl rfl Try.underlying21 Try.underlying3 (by exact wrap_id (by omega) (by omega))) <| wv rfl rfl rfl (R_assign rfl rfl) ?_
 refine W_nil ?_
 refine E_then (C_fr [(2, .int .i64 (([signA.e0, signA.e1, signA.e2, signA.e3, signA.e4, signA.e5, signA.e6, signA.e7, signA.e8, signA.e9, signA.e10, signA.e11, signA.e12, signA.e13, signA.e14, signA.e15] : List Int).getD (a0 % 16).toNat 0))] rfl ?_)
 refine C_ret ?_
 refine E_ret1 rfl rfl ?_
 exact ⟨Lret1 (Lint (show ([signA.e0, signA.e1, signA.e2, signA.e3, signA.e4, signA.e5, signA.e6, signA.e7, signA.e8, signA.e9, signA.e10, signA.e11, signA.e12, signA.e13, signA.e14, signA.e15] : List Int).getD (a0 % 16).toNat 0 = glyphS a0 by rfl)), hS.fin [] (by decide) rfl⟩

set_option maxHeartbeats 400000 in
set_option maxRecDepth 20000 in
theorem eof_calls (a0 : Int) (z : Z) (w : World) (hI : In z w [])   :
    Calls Try.prog 17 #[.int .i64 a0] w fun e w' => e = .returned (.int .i64 (ofS a0)) ∧ Sp (FF []) w z w' [] := by
 have hS := hI.sp
 refine Calls_of (vs := [.int .i64 a0]) (N := 18) Try.func17 rfl rfl (Nat.le_of_ble_eq_true rfl) ?_
 refine C_seq ?_
 refine C_region ?_
 refine wv rfl rfl rfl (R_assign rfl rfl) ?_
 refine W_nil ?_
 refine E_then ?_
 refine C_seq ?_
 refine C_region ?_
 refine W_cons rfl (by decide) (Sv_call rfl rfl rfl ent36 ?_)
 refine (signs_calls  _ _ hS.out0  ).mono ?_
 rintro e_ w1 ⟨rfl, hS_⟩
 refine ⟨_, rfl, ?_⟩
 have hS := hS.call0 hS_
 refine W_cons rfl (by decide) (S_box hS rfl (R_alloc rfl alloc66) (fun b4 w3 hS => ?_))
 refine W_cons0 rfl (S_store hS 0 rfl rfl rfl rfl rfl size66 (one_cons rfl (one_cons rfl (one_cons rfl (one_cons rfl (one_cons rfl (one_cons rfl (one_cons rfl (one_cons rfl (one_cons rfl (one_cons rfl (one_cons rfl (one_cons rfl (one_cons rfl (one_cons rfl (one_cons rfl (one_cons rfl one_nil)))))))))))))))) (Nat.le_of_ble_eq_true rfl) (fun w5 hS => ?_))
 have hS : Sp (FF []) w z w5 [bR b4 66 [.int .i32 signA.e0, .int .i32 signA.e1, .int .i32 signA.e2, .int .i32 signA.e3, .int .i32 signA.e4, .int .i32 signA.e5, .int .i32 signA.e6, .int .i32 signA.e7, .int .i32 signA.e8, .int .i32 signA.e9, .int .i32 signA.e10, .int .i32 signA.e11, .int .i32 signA.e12, .int .i32 signA.e13, .int .i32 signA.e14, .int .i32 signA.e15]] := hS
 refine W_nil ?_
 refine E_then ?_
 refine C_seq ?_
 refine C_seq ?_
 refine C_region ?_
 refine wv rfl rfl rfl (R_loadN (cs := [.int .i32 signA.e0, .int .i32 signA.e1, .int .i32 signA.e2, .int .i32 signA.e3, .int .i32 signA.e4, .int .i32 signA.e5, .int .i32 signA.e6, .int .i32 signA.e7, .int .i32 signA.e8, .int .i32 signA.e9, .int .i32 signA.e10, .int .i32 signA.e11, .int .i32 signA.e12, .int .i32 signA.e13, .int .i32 signA.e14, .int .i32 signA.e15]) rfl rfl agg66 size66 rfl (boxcells (hS.bx 0 rfl) 0 rfl)) <| wv rfl rfl rfl (R_move rfl rfl) ?_
 refine W_nil ?_
 refine E_then ?_
 refine C_block ?_
 refine C_fr [(0, .int .i64 a0), (7, .agg #[.int .i32 signA.e0, .int .i32 signA.e1, .int .i32 signA.e2, .int .i32 signA.e3, .int .i32 signA.e4, .int .i32 signA.e5, .int .i32 signA.e6, .int .i32 signA.e7, .int .i32 signA.e8, .int .i32 signA.e9, .int .i32 signA.e10, .int .i32 signA.e11, .int .i32 signA.e12, .int .i32 signA.e13, .int .i32 signA.e14, .int .i32 signA.e15]), (8, .int .i64 0)] rfl ?_
 refine C_loop (fun m_ f_ w_ => ∃ (i : Nat), f_ = [(0, .int .i64 a0), (7, .agg #[.int .i32 signA.e0, .int .i32 signA.e1, .int .i32 signA.e2, .int .i32 signA.e3, .int .i32 signA.e4, .int .i32 signA.e5, .int .i32 signA.e6, .int .i32 signA.e7, .int .i32 signA.e8, .int .i32 signA.e9, .int .i32 signA.e10, .int .i32 signA.e11, .int .i32 signA.e12, .int .i32 signA.e13, .int .i32 signA.e14, .int .i32 signA.e15]), (8, .int .i64 (i : Int))] ∧ i ≤ 16 ∧ idxF (fun x => decide (x = a0)) (signL.drop i) i = idxF (fun x => decide (x = a0)) signL 0 ∧ m_ = 16 - i ∧ Sp (FF []) w z w_ []) (16 - (0 : Nat)) ⟨(0 : Nat), rfl, (by omega), (by rfl), rfl, hS.fin [] (by decide) rfl⟩ ?_
 rintro m_ f_ w6 ⟨i, rfl, hI0_0, hI0_1, rfl, hS⟩
 refine C_seq ?_
 refine C_region ?_
 refine wv rfl rfl rfl (R_bin rfl rfl rfl rfl rfl) ?_
 refine W_nil ?_
 refine E_then ?_
 refine C_seq ?_
 refine C_ite rfl (fun hC0 => ?_) (fun hC0 => ?_)
 ·have _hC0 := trivial
  have hC0p : (i : Int) < 16 := by simpa using hC0
  refine C_skip ?_
  refine E_then ?_
  refine C_seq ?_
  refine C_block ?_
  refine C_seq ?_
  refine C_region ?_
  refine wv rfl rfl rfl (R_move rfl rfl) <| wv rfl rfl rfl (R_aridx (xs := [signA.e0, signA.e1, signA.e2, signA.e3, signA.e4, signA.e5, signA.e6, signA.e7, signA.e8, signA.e9, signA.e10, signA.e11, signA.e12, signA.e13, signA.e14, signA.e15]) rfl rfl rfl Try.underlying66 agg21 size21 rfl (by omega) (by simp only [List.length_cons, List.length_nil]; omega)) <| wv rfl rfl rfl (R_assign rfl rfl) <| wv rfl rfl rfl (R_assign rfl rfl) ?_
  refine W_nil ?_
  refine E_then ?_
  refine C_seq ?_
  have hsg : 0 ≤ ([signA.e0, signA.e1, signA.e2, signA.e3, signA.e4, signA.e5, signA.e6, signA.e7, signA.e8, signA.e9, signA.e10, signA.e11, signA.e12, signA.e13, signA.e14, signA.e15] : List Int).getD i 0 ∧ ([signA.e0, signA.e1, signA.e2, signA.e3, signA.e4, signA.e5, signA.e6, signA.e7, signA.e8, signA.e9, signA.e10, signA.e11, signA.e12, signA.e13, signA.e14, signA.e15] : List Int).getD i 0 ≤ 10000 := sign_bd _
  have hsg' : 0 ≤ ([signA.e0, signA.e1, signA.e2, signA.e3, signA.e4, signA.e5, signA.e6, signA.e7, signA.e8, signA.e9, signA.e10, signA.e11, signA.e12, signA.e13, signA.e14, signA.e15] : List Int).getD (i : Int).toNat 0 ∧ ([signA.e0, signA.e1, signA.e2, signA.e3, signA.e4, signA.e5, signA.e6, signA.e7, signA.e8, signA.e9, signA.e10, signA.e11, signA.e12, signA.e13, signA.e14, signA.e15] : List Int).getD (i : Int).toNat 0 ≤ 10000 := sign_bd _
  refine C_region ?_
  refine wv rfl rfl rfl (R_move rfl rfl) <| wv rfl rfl rfl (R_convi rfl rfl Try.underlying21 Try.underlying3 (by exact wrap_id (by omega) (by omega))) <| wv rfl rfl rfl (R_move rfl rfl) <| wv rfl rfl rfl (R_bin rfl rfl rfl rfl rfl) ?_
  refine W_nil ?_
  refine E_then (C_fr [(0, .int .i64 a0), (4, .int .i64 (i : Int)), (7, .agg #[.int .i32 signA.e0, .int .i32 signA.e1, .int .i32 signA.e2, .int .i32 signA.e3, .int .i32 signA.e4, .int .i32 signA.e5, .int .i32 signA.e6, .int .i32 signA.e7, .int .i32 signA.e8, .int .i32 signA.e9, .int .i32 signA.e10, .int .i32 signA.e11, .int .i32 signA.e12, .int .i32 signA.e13, .int .i32 signA.e14, .int .i32 signA.e15]), (8, .int .i64 (i : Int)), (15, .bool ((([signA.e0, signA.e1, signA.e2, signA.e3, signA.e4, signA.e5, signA.e6, signA.e7, signA.e8, signA.e9, signA.e10, signA.e11, signA.e12, signA.e13, signA.e14, signA.e15] : List Int).getD i 0) == a0))] rfl ?_)
  refine C_ite rfl (fun hC1 => ?_) (fun hC1 => ?_)
  ·have _hC1 := trivial
   have hC1p : (([signA.e0, signA.e1, signA.e2, signA.e3, signA.e4, signA.e5, signA.e6, signA.e7, signA.e8, signA.e9, signA.e10, signA.e11, signA.e12, signA.e13, signA.e14, signA.e15] : List Int).getD i 0) = a0 := by simpa using hC1
   refine C_seq ?_
   refine C_region ?_
   refine wv rfl rfl rfl (R_move rfl rfl) <| wv rfl rfl rfl (R_assign rfl rfl) ?_
   refine W_nil ?_
   refine E_then (C_fr [(2, .int .i64 (i : Int))] rfl ?_)
   refine C_ret ?_
   refine E_block_ret ?_
   refine E_then_ret ?_
   refine E_then_ret ?_
   refine E_block_ret ?_
   refine E_then_ret ?_
   refine E_ret1 rfl rfl ?_
   exact ⟨Lret1 (Lint (show (i : Int) = ofS a0 by first | exact of_hit (i := i) (by omega) hI0_1 hC1p | exact of_end (i := i) (by omega) hI0_1)), hS.fin [] (by decide) rfl⟩
  ·have _hC1 := trivial
   have hC1p : ¬ ((([signA.e0, signA.e1, signA.e2, signA.e3, signA.e4, signA.e5, signA.e6, signA.e7, signA.e8, signA.e9, signA.e10, signA.e11, signA.e12, signA.e13, signA.e14, signA.e15] : List Int).getD i 0) = a0) := by simpa using hC1
   refine C_skip ?_
   refine E_block_normal ?_
   refine E_then ?_
   refine C_region ?_
   refine wv rfl rfl rfl (R_add64 rfl rfl rfl (by omega) (by omega)) <| wv rfl rfl rfl (R_move rfl rfl) ?_
   refine W_nil ?_
   refine E_round [0, 7, 8] ?_ ⟨(i + 1 : Nat), rfl, (by omega), (by exact of_next (by omega) hI0_1 hC1p), rfl, hS.fin [] (by decide) rfl⟩
   omega
 ·have _hC0 := trivial
  have hC0p : ¬ ((i : Int) < 16) := by simpa using hC0
  refine C_exit ?_
  refine E_then_exit ?_
  refine E_then_exit ?_
  refine E_block_hit ?_
  refine E_then ?_
  refine C_seq ?_
  refine C_region ?_
  refine wv rfl rfl rfl (R_assign rfl rfl) ?_
  refine W_nil ?_
  refine E_then ?_
  refine C_ret ?_
  refine E_ret1 rfl rfl ?_
  exact ⟨Lret1 (Lint (show 0 = ofS a0 by first | exact of_hit (i := i) (by omega) hI0_1 hC1p | exact of_end (i := i) (by omega) hI0_1)), hS.fin [] (by decide) rfl⟩

set_option maxHeartbeats 400000 in
set_option maxRecDepth 20000 in
theorem rregions_calls (a0 : TSheet) (Aa0_Widths : Option Addr) (ca0_Widths : Nat) (Aa0_Heights : Option Addr) (ca0_Heights : Nat) (Aa0_Cells : Option Addr) (ca0_Cells : Nat) (Aa0_Merges : Option Addr) (ca0_Merges : Nat) (z : Z) (w : World) (hI : In z w []) (hra0_Widths : Rd (kint .i64) z Aa0_Widths a0.Widths) (hca0_Widths : Cap Aa0_Widths a0.Widths.length ca0_Widths) (hra0_Heights : Rd (kint .i64) z Aa0_Heights a0.Heights) (hca0_Heights : Cap Aa0_Heights a0.Heights.length ca0_Heights) (hra0_Cells : Rd kdTCell z Aa0_Cells a0.Cells) (hca0_Cells : Cap Aa0_Cells a0.Cells.length ca0_Cells) (hra0_Merges : Rd kdTRect z Aa0_Merges a0.Merges) (hca0_Merges : Cap Aa0_Merges a0.Merges.length ca0_Merges)  :
    Calls Try.prog 62 #[.agg #[.int .i64 a0.Right, .slice Aa0_Widths a0.Widths.length ca0_Widths, .slice Aa0_Heights a0.Heights.length ca0_Heights, .slice Aa0_Cells a0.Cells.length ca0_Cells, .slice Aa0_Merges a0.Merges.length ca0_Merges]] w fun e w' => ∃ (AR0 : Option Addr) (cR0 : Nat), e = .returned (.slice AR0 (rregionsS a0).length cR0) ∧ Sp (FF []) w z w' [oR kdTRect 39 zE AR0 cR0 (rregionsS a0)] := by
 have hla0_Widths := hca0_Widths.le
 have hma0_Widths := hca0_Widths.mx
 have hla0_Heights := hca0_Heights.le
 have hma0_Heights := hca0_Heights.mx
 have hla0_Cells := hca0_Cells.le
 have hma0_Cells := hca0_Cells.mx
 have hla0_Merges := hca0_Merges.le
 have hma0_Merges := hca0_Merges.mx
 have hS := hI.sp
 refine Calls_of (vs := [.agg #[.int .i64 a0.Right, .slice Aa0_Widths a0.Widths.length ca0_Widths, .slice Aa0_Heights a0.Heights.length ca0_Heights, .slice Aa0_Cells a0.Cells.length ca0_Cells, .slice Aa0_Merges a0.Merges.length ca0_Merges]]) (N := 43) Try.func62 rfl rfl (Nat.le_of_ble_eq_true rfl) ?_
 refine C_seq ?_
 refine C_region ?_
 refine W_cons rfl (by decide) (S_box hS rfl (R_box (cs := [.int .i64 a0.Right, .slice Aa0_Widths a0.Widths.length ca0_Widths, .slice Aa0_Heights a0.Heights.length ca0_Heights, .slice Aa0_Cells a0.Cells.length ca0_Cells, .slice Aa0_Merges a0.Merges.length ca0_Merges]) rfl rfl rfl) (fun b2 w1 hS => ?_))
 refine wv rfl rfl rfl (R_assign rfl rfl) ?_
 refine W_nil ?_
 refine E_then ?_
 refine C_seq ?_
 refine C_seq ?_
 refine C_region ?_
 refine wv rfl rfl rfl (R_loadN (cs := [.int .i64 a0.Right, .slice Aa0_Widths a0.Widths.length ca0_Widths, .slice Aa0_Heights a0.Heights.length ca0_Heights, .slice Aa0_Cells a0.Cells.length ca0_Cells, .slice Aa0_Merges a0.Merges.length ca0_Merges]) rfl rfl agg26 size26 rfl (boxcells (hS.bx 0 rfl) 0 rfl)) ?_
 refine W_cons rfl (by decide) (Sv_call rfl rfl rfl ent27 ?_)
 refine (rcheck_calls a0 Aa0_Widths ca0_Widths Aa0_Heights ca0_Heights Aa0_Cells ca0_Cells Aa0_Merges ca0_Merges _ _ hS.out0 (hra0_Widths.mono (hS.zl [])) hca0_Widths (hra0_Heights.mono (hS.zl [])) hca0_Heights (hra0_Cells.mono (hS.zl [])) hca0_Cells (hra0_Merges.mono (hS.zl [])) hca0_Merges ).mono ?_
 rintro e_ w3 ⟨rfl, hS_⟩
 refine ⟨_, rfl, ?_⟩
 have hS := hS.call0 hS_
 refine wv rfl rfl rfl (R_bin rfl rfl rfl rfl rfl) ?_
 refine W_nil ?_
 refine E_then ?_
 refine C_ite rfl (fun hC0 => ?_) (fun hC0 => ?_)
 ·have _hC0 := trivial
  have hC0p : ¬ (rcheckSh a0) = 0 := by simpa using hC0
  refine C_seq ?_
  refine C_region ?_
  refine wv rfl rfl rfl (R_assign rfl rfl) ?_
  refine W_nil ?_
  refine E_then (C_fr [(2, .slice none 0 0)] rfl ?_)
  refine C_ret ?_
  refine E_then_ret ?_
  have hS := hS.nilrow kdTRect 39 zE
  have hq6 : ([] : List TRect) = rregionsS a0 := by first | (unfold rregionsS; simp_all; done) | (rw [show rregionsS a0 = rregUp a0 a0.Heights.length from if_neg (by omega), show a0.Heights.length = i from by omega])
  have hS := hS.re 0 rfl hq6
  refine E_ret1 rfl rfl ?_
  exact ⟨none, 0, Lret1 (Lslice hq6), hS.fin [0] (by decide) rfl⟩
 ·have _hC0 := trivial
  have hC0p : (rcheckSh a0) = 0 := by simpa using hC0
  refine C_skip ?_
  refine E_then (C_fr [(1, .pointer (some ⟨b2, 0, none⟩))] rfl ?_)
  refine C_seq ?_
  refine C_region ?_
  refine wv rfl rfl rfl (R_assign rfl rfl) ?_
  refine W_nil ?_
  refine E_then ?_
  refine C_seq ?_
  refine C_seq ?_
  refine C_region ?_
  refine wv rfl rfl rfl (R_assign rfl rfl) ?_
  refine W_nil ?_
  refine E_then ?_
  refine C_block ?_
  have hS := hS.nilrow kdTRect 39 zE
  have hs10 : ([] : List TRect) = rregUp a0 (0 : Nat) := by rfl
  have hS := hS.re 0 rfl hs10
  refine C_fr [(1, .pointer (some ⟨b2, 0, none⟩)), (3, .slice none 0 0), (4, .int .i64 0)] rfl ?_
  refine C_loop (fun m_ f_ w_ => ∃ (i : Nat) (Ar7 : Option Addr) (cr7 : Nat), f_ = [(1, .pointer (some ⟨b2, 0, none⟩)), (3, .slice Ar7 (rregUp a0 i).length cr7), (4, .int .i64 (i : Int))] ∧ i ≤ a0.Heights.length ∧ m_ = a0.Heights.length - i ∧ Sp (FF []) w z w_ [bR b2 26 [.int .i64 a0.Right, .slice Aa0_Widths a0.Widths.length ca0_Widths, .slice Aa0_Heights a0.Heights.length ca0_Heights, .slice Aa0_Cells a0.Cells.length ca0_Cells, .slice Aa0_Merges a0.Merges.length ca0_Merges], oR kdTRect 39 zE Ar7 cr7 (rregUp a0 i)]) (a0.Heights.length - (0 : Nat)) ⟨(0 : Nat), none, 0, (by rw [← hs10] <;> rfl), (by omega), rfl, hS.fin [1, 0] (by decide) rfl⟩ ?_
  rintro m_ f_ w8 ⟨i, Ar7, cr7, rfl, hI0_0, rfl, hS⟩
  have hp11 := hS.cap 1 rfl
  have hlhp11 := hp11.le
  have hmhp11 := hp11.mx
  refine C_seq ?_
  refine C_seq ?_
  refine C_region ?_
  refine wv rfl rfl rfl (R_move rfl rfl) <| wv rfl rfl rfl (R_fld rfl rfl fld26_2) <| wv rfl rfl rfl (R_load1 rfl rfl agg22 ((hS.bx 0 rfl).cell rfl)) <| wv rfl rfl rfl (R_len rfl rfl Try.underlying22) <| wv rfl rfl rfl (R_bin rfl rfl rfl rfl rfl) ?_
  refine W_nil ?_
  refine E_then ?_
  refine C_ite rfl (fun hC1 => ?_) (fun hC1 => ?_)
  ·have _hC1 := trivial
   have hC1p : (i : Int) < (a0.Heights.length : Int) := by simpa using hC1
   refine C_skip ?_
   refine E_then (C_fr [(1, .pointer (some ⟨b2, 0, none⟩)), (3, .slice Ar7 (rregUp a0 i).length cr7), (4, .int .i64 (i : Int))] rfl ?_)
   refine C_seq ?_
   refine C_block ?_
   refine C_seq ?_
   refine C_region ?_
   refine wv rfl rfl rfl (R_assign rfl rfl) ?_
   refine W_nil ?_
   refine E_then ?_
   refine C_block ?_
   have hs14 : rregUp a0 i = rregUp a0 i ++ rregRow a0 i (0 : Nat) := by simp [rregRow]
   have hS := hS.re 1 rfl hs14
   refine C_fr [(1, .pointer (some ⟨b2, 0, none⟩)), (3, .slice Ar7 (rregUp a0 i).length cr7), (4, .int .i64 (i : Int)), (5, .int .i64 0)] rfl ?_
   refine C_loop (fun m_ f_ w_ => ∃ (j : Nat) (Ar12 : Option Addr) (cr12 : Nat), f_ = [(1, .pointer (some ⟨b2, 0, none⟩)), (3, .slice Ar12 (rregUp a0 i ++ rregRow a0 i j).length cr12), (4, .int .i64 (i : Int)), (5, .int .i64 (j : Int))] ∧ j ≤ a0.Widths.length ∧ m_ = a0.Widths.length - j ∧ Sp (FF []) w z w_ [bR b2 26 [.int .i64 a0.Right, .slice Aa0_Widths a0.Widths.length ca0_Widths, .slice Aa0_Heights a0.Heights.length ca0_Heights, .slice Aa0_Cells a0.Cells.length ca0_Cells, .slice Aa0_Merges a0.Merges.length ca0_Merges], oR kdTRect 39 zE Ar12 cr12 (rregUp a0 i ++ rregRow a0 i j)]) (a0.Widths.length - (0 : Nat)) ⟨(0 : Nat), Ar7, cr7, (by rw [← hs14] <;> rfl), (by omega), rfl, hS.fin [0, 1] (by decide) rfl⟩ ?_
   rintro m_ f_ w13 ⟨j, Ar12, cr12, rfl, hI1_0, rfl, hS⟩
   have hp15 := hS.cap 1 rfl
   have hlhp15 := hp15.le
   have hmhp15 := hp15.mx
   refine C_seq ?_
   refine C_seq ?_
   refine C_region ?_
   refine wv rfl rfl rfl (R_move rfl rfl) <| wv rfl rfl rfl (R_fld rfl rfl fld26_1) <| wv rfl rfl rfl (R_load1 rfl rfl agg22 ((hS.bx 0 rfl).cell rfl)) <| wv rfl rfl rfl (R_len rfl rfl Try.underlying22) <| wv rfl rfl rfl (R_bin rfl rfl rfl rfl rfl) ?_
   refine W_nil ?_
   refine E_then ?_
   refine C_ite rfl (fun hC2 => ?_) (fun hC2 => ?_)
   ·have _hC2 := trivial
    have hC2p : (j : Int) < (a0.Widths.length : Int) := by simpa using hC2
    refine C_skip ?_
    refine E_then (C_fr [(1, .pointer (some ⟨b2, 0, none⟩)), (3, .slice Ar12 (rregUp a0 i ++ rregRow a0 i j).length cr12), (4, .int .i64 (i : Int)), (5, .int .i64 (j : Int))] rfl ?_)
    refine C_seq ?_
    refine C_block ?_
    refine C_seq ?_
    refine C_region ?_
    refine wv rfl rfl rfl (R_loadN (cs := [.int .i64 a0.Right, .slice Aa0_Widths a0.Widths.length ca0_Widths, .slice Aa0_Heights a0.Heights.length ca0_Heights, .slice Aa0_Cells a0.Cells.length ca0_Cells, .slice Aa0_Merges a0.Merges.length ca0_Merges]) rfl rfl agg26 size26 rfl (boxcells (hS.bx 0 rfl) 0 rfl)) <| wv rfl rfl rfl (R_move rfl rfl) <| wv rfl rfl rfl (R_move rfl rfl) ?_
    refine W_cons rfl (by decide) (Sv_call rfl rfl rfl ent60 ?_)
    refine (raround_calls a0 Aa0_Widths ca0_Widths Aa0_Heights ca0_Heights Aa0_Cells ca0_Cells Aa0_Merges ca0_Merges (i : Int) (j : Int) _ _ hS.out0 (hra0_Widths.mono (hS.zl [])) hca0_Widths (hra0_Heights.mono (hS.zl [])) hca0_Heights (hra0_Cells.mono (hS.zl [])) hca0_Cells (hra0_Merges.mono (hS.zl [])) hca0_Merges ).mono ?_
    rintro e_ w16 ⟨rfl, hS_⟩
    refine ⟨_, rfl, ?_⟩
    have hS := hS.call0 hS_
    refine W_cons rfl (by decide) (S_box hS rfl (R_alloc rfl alloc39) (fun b19 w18 hS => ?_))
    refine W_cons0 rfl (S_store hS 0 rfl rfl rfl rfl rfl size39 (one_cons rfl (one_cons rfl (one_cons rfl (one_cons rfl one_nil)))) (Nat.le_of_ble_eq_true rfl) (fun w20 hS => ?_))
    have hS : Sp (FF []) w z w20 [bR b19 39 [.int .i64 (raroundS a0 (i : Int) (j : Int)).Row, .int .i64 (raroundS a0 (i : Int) (j : Int)).Col, .int .i64 (raroundS a0 (i : Int) (j : Int)).Rows, .int .i64 (raroundS a0 (i : Int) (j : Int)).Cols], bR b2 26 [.int .i64 a0.Right, .slice Aa0_Widths a0.Widths.length ca0_Widths, .slice Aa0_Heights a0.Heights.length ca0_Heights, .slice Aa0_Cells a0.Cells.length ca0_Cells, .slice Aa0_Merges a0.Merges.length ca0_Merges], oR kdTRect 39 zE Ar12 cr12 (rregUp a0 i ++ rregRow a0 i j)] := hS
    refine W_nil ?_
    refine E_then ?_
    refine C_seq ?_
    refine C_region ?_
    refine wv rfl rfl rfl (R_fld rfl rfl fld39_0) <| wv rfl rfl rfl (R_load1 rfl rfl agg3 ((hS.bx 0 rfl).cell rfl)) <| wv rfl rfl rfl (R_move rfl rfl) <| wv rfl rfl rfl (R_bin rfl rfl rfl rfl rfl) <| wv rfl rfl rfl (R_move rfl rfl) <| wg rfl rfl (Gd.on rfl rfl rfl) (fun hB => R_fld rfl rfl fld39_1) <| wg rfl rfl (Gd.on rfl rfl rfl) (fun hB => Runs.at_ (i := 33) (gl rfl hB) (R_load1 rfl rfl agg3 ((hS.bx 0 rfl).cell rfl))) <| wg rfl rfl (Gd.on rfl rfl rfl) (fun hB => R_move rfl rfl) <| wg rfl rfl (Gd.on rfl rfl rfl) (fun hB => Runs.at_ (i := 35) (gl rfl hB) (Runs.at_ (i := 34) (gl rfl hB) (R_bin rfl rfl rfl rfl rfl))) <| wv rfl rfl rfl (R_pick_and rfl rfl rfl rfl) ?_
    refine W_nil ?_
    refine E_then (C_fr [(1, .pointer (some ⟨b2, 0, none⟩)), (3, .slice Ar12 (rregUp a0 i ++ rregRow a0 i j).length cr12), (4, .int .i64 (i : Int)), (5, .int .i64 (j : Int)), (6, .pointer (some ⟨b19, 0, none⟩)), (37, .bool (((raroundS a0 (i : Int) (j : Int)).Row == (i : Int)) && ((raroundS a0 (i : Int) (j : Int)).Col == (j : Int))))] rfl ?_)
    refine C_ite rfl (fun hC3 => ?_) (fun hC3 => ?_)
    ·have _hC3 := trivial
     have hC3p : ((raroundS a0 (i : Int) (j : Int)).Row = (i : Int) ∧ (raroundS a0 (i : Int) (j : Int)).Col = (j : Int)) := by simpa using hC3
     obtain ⟨hsm0, hsm1, hsm2⟩ := rchk_small (s := a0) (by omega)
     have hu1 := rregUp_len a0 hsm1 i
     have hu2 := rregRow_len a0 i j
     refine C_region ?_
     refine wv rfl rfl rfl (R_move rfl rfl) <| wv rfl rfl rfl (R_loadN (cs := [.int .i64 (raroundS a0 (i : Int) (j : Int)).Row, .int .i64 (raroundS a0 (i : Int) (j : Int)).Col, .int .i64 (raroundS a0 (i : Int) (j : Int)).Rows, .int .i64 (raroundS a0 (i : Int) (j : Int)).Cols]) rfl rfl agg39 size39 rfl (boxcells (hS.bx 0 rfl) 0 rfl)) ?_
     refine W_cons rfl (by decide) (S_row (d := kdTRect) (q := zE) hS ([(raroundS a0 (i : Int) (j : Int))] : List TRect) rfl (R_buildSlice (ps := [(0, (.tmp 39))]) (vs := [.agg #[.int .i64 (raroundS a0 (i : Int) (j : Int)).Row, .int .i64 (raroundS a0 (i : Int) (j : Int)).Col, .int .i64 (raroundS a0 (i : Int) (j : Int)).Rows, .int .i64 (raroundS a0 (i : Int) (j : Int)).Cols]]) (w' := w20.alloc (.cells [.int .i64 (raroundS a0 (i : Int) (j : Int)).Row, .int .i64 (raroundS a0 (i : Int) (j : Int)).Col, .int .i64 (raroundS a0 (i : Int) (j : Int)).Rows, .int .i64 (raroundS a0 (i : Int) (j : Int)).Cols].toArray 39)) (r := .slice (some ⟨w20.heap.size, 0, none⟩) 1 1) rfl rfl rfl (by kernel_rfl)) (by simp [Reps, flat, kdTRect]) rfl (by decide) (fun g22 w21 hS => ?_))
     refine W_cons rfl (by decide) (S_append hS 3 rfl rfl rfl elem24 rfl rfl (hS.sow 0 rfl (fun _ _ h => h)) (by (try simp only [List.length_cons, List.length_nil, List.length_append, maxLen]); omega) (by (try simp only [List.length_cons, List.length_nil, List.length_append, maxLen]); omega) (fun Ar24 cr24 w23 hS => ?_))
     have hp25 := hS.cap 3 rfl
     have hlhp25 := hp25.le
     have hmhp25 := hp25.mx
     refine wv rfl rfl rfl (R_assign rfl rfl) ?_
     refine W_nil ?_
     refine E_block_normal ?_
     refine E_then (C_fr [(1, .pointer (some ⟨b2, 0, none⟩)), (3, .slice Ar24 ((rregUp a0 i ++ rregRow a0 i j) ++ ([(raroundS a0 (i : Int) (j : Int))] : List TRect)).length cr24), (4, .int .i64 (i : Int)), (5, .int .i64 (j : Int))] rfl ?_)
     refine C_region ?_
     refine wv rfl rfl rfl (R_move rfl rfl) <| wv rfl rfl rfl (R_add64 rfl rfl rfl (by omega) (by omega)) <| wv rfl rfl rfl (R_assign rfl rfl) ?_
     refine W_nil ?_
     have hs26 : (rregUp a0 i ++ rregRow a0 i j) ++ ([(raroundS a0 (i : Int) (j : Int))] : List TRect) = rregUp a0 i ++ rregRow a0 i (j + 1 : Nat) := by rw [rregRow_next, ← List.append_assoc, rregAt, if_pos (by simpa using hC3)]
     have hS := hS.re 3 rfl hs26
     refine E_round [1, 3, 4, 5] ?_ ⟨(j + 1 : Nat), Ar24, cr24, (by rw [← hs26] <;> rfl), (by omega), rfl, hS.fin [2, 3] (by decide) rfl⟩
     omega
    ·have _hC3 := trivial
     have hC3p : ¬ (((raroundS a0 (i : Int) (j : Int)).Row = (i : Int) ∧ (raroundS a0 (i : Int) (j : Int)).Col = (j : Int))) := by simpa using hC3
     refine C_skip ?_
     refine E_block_normal ?_
     refine E_then ?_
     refine C_region ?_
     refine wv rfl rfl rfl (R_move rfl rfl) <| wv rfl rfl rfl (R_add64 rfl rfl rfl (by omega) (by omega)) <| wv rfl rfl rfl (R_assign rfl rfl) ?_
     refine W_nil ?_
     have hs27 : rregUp a0 i ++ rregRow a0 i j = rregUp a0 i ++ rregRow a0 i (j + 1 : Nat) := by rw [rregRow_next, rregAt, if_neg (by simpa using hC3), List.append_nil]
     have hS := hS.re 2 rfl hs27
     refine E_round [1, 3, 4, 5] ?_ ⟨(j + 1 : Nat), Ar12, cr12, (by rw [← hs27] <;> rfl), (by omega), rfl, hS.fin [1, 2] (by decide) rfl⟩
     omega
   ·have _hC2 := trivial
    have hC2p : ¬ ((j : Int) < (a0.Widths.length : Int)) := by simpa using hC2
    refine C_exit ?_
    refine E_then_exit ?_
    refine E_then_exit ?_
    refine E_block_hit ?_
    refine E_block_normal ?_
    refine E_then (C_fr [(1, .pointer (some ⟨b2, 0, none⟩)), (3, .slice Ar12 (rregUp a0 i ++ rregRow a0 i j).length cr12), (4, .int .i64 (i : Int))] rfl ?_)
    refine C_region ?_
    refine wv rfl rfl rfl (R_move rfl rfl) <| wv rfl rfl rfl (R_add64 rfl rfl rfl (by omega) (by omega)) <| wv rfl rfl rfl (R_assign rfl rfl) ?_
    refine W_nil ?_
    have hs28 : rregUp a0 i ++ rregRow a0 i j = rregUp a0 (i + 1 : Nat) := by rw [rregUp_next, show a0.Widths.length = j from by omega]
    have hS := hS.re 1 rfl hs28
    refine E_round [1, 3, 4] ?_ ⟨(i + 1 : Nat), Ar12, cr12, (by rw [← hs28] <;> rfl), (by omega), rfl, hS.fin [0, 1] (by decide) rfl⟩
    omega
  ·have _hC1 := trivial
   have hC1p : ¬ ((i : Int) < (a0.Heights.length : Int)) := by simpa using hC1
   refine C_exit ?_
   refine E_then_exit ?_
   refine E_then_exit ?_
   refine E_block_hit ?_
   refine E_then (C_fr [(3, .slice Ar7 (rregUp a0 i).length cr7)] rfl ?_)
   refine C_seq ?_
   refine C_region ?_
   refine wv rfl rfl rfl (R_move rfl rfl) <| wv rfl rfl rfl (R_assign rfl rfl) ?_
   refine W_nil ?_
   refine E_then ?_
   refine C_ret ?_
   have hq29 : rregUp a0 i = rregionsS a0 := by first | (unfold rregionsS; simp_all; done) | (rw [show rregionsS a0 = rregUp a0 a0.Heights.length from if_neg (by omega), show a0.Heights.length = i from by omega])
   have hS := hS.re 1 rfl hq29
   refine E_ret1 rfl rfl ?_
   exact ⟨Ar7, cr7, Lret1 (Lslice hq29), hS.fin [1] (by decide) rfl⟩

set_option maxHeartbeats 400000 in
set_option maxRecDepth 20000 in
theorem rlong_calls (a0 : TSheet) (Aa0_Widths : Option Addr) (ca0_Widths : Nat) (Aa0_Heights : Option Addr) (ca0_Heights : Nat) (Aa0_Cells : Option Addr) (ca0_Cells : Nat) (Aa0_Merges : Option Addr) (ca0_Merges : Nat) (z : Z) (w : World) (hI : In z w []) (hra0_Widths : Rd (kint .i64) z Aa0_Widths a0.Widths) (hca0_Widths : Cap Aa0_Widths a0.Widths.length ca0_Widths) (hra0_Heights : Rd (kint .i64) z Aa0_Heights a0.Heights) (hca0_Heights : Cap Aa0_Heights a0.Heights.length ca0_Heights) (hra0_Cells : Rd kdTCell z Aa0_Cells a0.Cells) (hca0_Cells : Cap Aa0_Cells a0.Cells.length ca0_Cells) (hra0_Merges : Rd kdTRect z Aa0_Merges a0.Merges) (hca0_Merges : Cap Aa0_Merges a0.Merges.length ca0_Merges) (p0 : a0.Widths.length ≤ 1000 ∧ a0.Heights.length ≤ 1000) :
    Calls Try.prog 28 #[.agg #[.int .i64 a0.Right, .slice Aa0_Widths a0.Widths.length ca0_Widths, .slice Aa0_Heights a0.Heights.length ca0_Heights, .slice Aa0_Cells a0.Cells.length ca0_Cells, .slice Aa0_Merges a0.Merges.length ca0_Merges]] w fun e w' => e = .returned (.tuple #[.int .i64 (slotsW a0), .int .i64 (slotsH a0)]) ∧ Sp (FF []) w z w' [] := by
 have hla0_Widths := hca0_Widths.le
 have hma0_Widths := hca0_Widths.mx
 have hla0_Heights := hca0_Heights.le
 have hma0_Heights := hca0_Heights.mx
 have hla0_Cells := hca0_Cells.le
 have hma0_Cells := hca0_Cells.mx
 have hla0_Merges := hca0_Merges.le
 have hma0_Merges := hca0_Merges.mx
 have hS := hI.sp
 refine Calls_of (vs := [.agg #[.int .i64 a0.Right, .slice Aa0_Widths a0.Widths.length ca0_Widths, .slice Aa0_Heights a0.Heights.length ca0_Heights, .slice Aa0_Cells a0.Cells.length ca0_Cells, .slice Aa0_Merges a0.Merges.length ca0_Merges]]) (N := 12) Try.func28 rfl rfl (Nat.le_of_ble_eq_true rfl) ?_
 refine C_seq ?_
 refine C_region ?_
 refine W_cons rfl (by decide) (S_box hS rfl (R_box (cs := [.int .i64 a0.Right, .slice Aa0_Widths a0.Widths.length ca0_Widths, .slice Aa0_Heights a0.Heights.length ca0_Heights, .slice Aa0_Cells a0.Cells.length ca0_Cells, .slice Aa0_Merges a0.Merges.length ca0_Merges]) rfl rfl rfl) (fun b2 w1 hS => ?_))
 refine wv rfl rfl rfl (R_assign rfl rfl) <| wv rfl rfl rfl (R_assign rfl rfl) ?_
 refine W_nil ?_
 refine E_then ?_
 refine C_seq ?_
 refine C_fr [(1, .pointer (some ⟨b2, 0, none⟩))] rfl ?_
 refine C_drawn2 10 [[], [0], [1], [2], [], [4], [5, 2], [6], [3, 6, 0, 1, 2, 3], [7, 8, 0, 1, 2, 3, 4, 5, 6, 7, 8]] [some 4, some 5, some 6, some 7, some 8, some 9, some 10, some 11, some 2, some 3] [1] (List.replicate 10 10) (List.replicate 10 []) [[], [], [], [2], [], [], [], [6], [], []] [fun γ_ => .pointer (some ⟨b2, 1, none⟩), fun γ_ => .slice Aa0_Widths a0.Widths.length ca0_Widths, fun γ_ => .slice (γ_.a 0) (slotsS a0.Widths).length (γ_.c 0), fun γ_ => .int .i64 ((slotsS a0.Widths).length : Int), fun γ_ => .pointer (some ⟨b2, 2, none⟩), fun γ_ => .slice Aa0_Heights a0.Heights.length ca0_Heights, fun γ_ => .slice (γ_.a 0) (slotsS a0.Heights).length (γ_.c 0), fun γ_ => .int .i64 ((slotsS a0.Heights).length : Int), fun γ_ => .int .i64 ((slotsS a0.Widths).length : Int), fun γ_ => .int .i64 ((slotsS a0.Heights).length : Int)] [fun γ_ => [], fun γ_ => [], fun γ_ => [oR (kint .i64) 3 zE (γ_.a 0) (γ_.c 0) (slotsS a0.Widths)], fun γ_ => [], fun γ_ => [], fun γ_ => [], fun γ_ => [oR (kint .i64) 3 zE (γ_.a 0) (γ_.c 0) (slotsS a0.Heights)], fun γ_ => [], fun γ_ => [], fun γ_ => []] rfl (by kernel_rfl) (by decide +kernel) hS ?_ ?_
 ·refine ⟨fun _ _ _ hS => Sv_val rfl (R_fld rfl rfl fld26_1) ⟨gh0, rfl, hS⟩, fun _ _ _ hS => Sv_val rfl (R_load1 rfl rfl agg22 ((hS.bx 0 rfl).cell rfl)) ⟨gh0, rfl, hS⟩, fun g_ w13 fr14 hS => ?_, ?_⟩
  ·have _w13 := trivial
   have hS : Sp (FF []) w z w13 [bR b2 26 [.int .i64 a0.Right, .slice Aa0_Widths a0.Widths.length ca0_Widths, .slice Aa0_Heights a0.Heights.length ca0_Heights, .slice Aa0_Cells a0.Cells.length ca0_Cells, .slice Aa0_Merges a0.Merges.length ca0_Merges], allR fr14] := hS
   refine Sv_call rfl rfl rfl ent61 ?_
   refine (rslots_calls a0.Widths Aa0_Widths ca0_Widths _ _ hS.out0 (hra0_Widths.mono (hS.zl [])) hca0_Widths (by omega)).mono ?_
   rintro e_ w15 ⟨AR0_16, cR0_16, rfl, hS_⟩
   refine ⟨_, rfl, ?_⟩
   have hS := hS.call0 hS_
   have hp17 := hS.cap 0 rfl
   have hlhp17 := hp17.le
   have hmhp17 := hp17.mx
   exact ⟨⟨fun _ => AR0_16, fun _ => cR0_16, fun _ => zE, fun _ => 0⟩, rfl, hS.fin [0, 1, 2] (by decide) rfl⟩
  refine ⟨fun _ _ _ hS => Sv_val rfl (R_len rfl rfl Try.underlying22) ⟨gh0, rfl, hS⟩, fun _ _ _ hS => Sv_val rfl (R_fld rfl rfl fld26_2) ⟨gh0, rfl, hS⟩, fun _ _ _ hS => Sv_val rfl (R_load1 rfl rfl agg22 ((hS.bx 0 rfl).cell rfl)) ⟨gh0, rfl, hS⟩, fun g_ w24 fr25 hS => ?_, ?_⟩
  ·have _w24 := trivial
   have hS : Sp (FF []) w z w24 [bR b2 26 [.int .i64 a0.Right, .slice Aa0_Widths a0.Widths.length ca0_Widths, .slice Aa0_Heights a0.Heights.length ca0_Heights, .slice Aa0_Cells a0.Cells.length ca0_Cells, .slice Aa0_Merges a0.Merges.length ca0_Merges], allR fr25] := hS
   refine Sv_call rfl rfl rfl ent61 ?_
   refine (rslots_calls a0.Heights Aa0_Heights ca0_Heights _ _ hS.out0 (hra0_Heights.mono (hS.zl [])) hca0_Heights (by omega)).mono ?_
   rintro e_ w26 ⟨AR0_27, cR0_27, rfl, hS_⟩
   refine ⟨_, rfl, ?_⟩
   have hS := hS.call0 hS_
   have hp28 := hS.cap 0 rfl
   have hlhp28 := hp28.le
   have hmhp28 := hp28.mx
   exact ⟨⟨fun _ => AR0_27, fun _ => cR0_27, fun _ => zE, fun _ => 0⟩, rfl, hS.fin [0, 1, 2] (by decide) rfl⟩
  refine ⟨fun _ _ _ hS => Sv_val rfl (R_len rfl rfl Try.underlying22) ⟨gh0, rfl, hS⟩, fun _ _ _ hS => Sv_val rfl (R_assign rfl rfl) ⟨gh0, rfl, hS⟩, fun _ _ _ hS => Sv_val rfl (R_assign rfl rfl) ⟨gh0, rfl, hS⟩, ?_⟩
  exact trivial
 ·intro g_ w35 hS
  have hS : Sp (FF []) w z w35 [oR (kint .i64) 3 zE ((g_ 2).a 0) ((g_ 2).c 0) (slotsS a0.Widths), oR (kint .i64) 3 zE ((g_ 6).a 0) ((g_ 6).c 0) (slotsS a0.Heights), bR b2 26 [.int .i64 a0.Right, .slice Aa0_Widths a0.Widths.length ca0_Widths, .slice Aa0_Heights a0.Heights.length ca0_Heights, .slice Aa0_Cells a0.Cells.length ca0_Cells, .slice Aa0_Merges a0.Merges.length ca0_Merges]] := hS
  refine An_fr [(1, .pointer (some ⟨b2, 0, none⟩)), (2, .int .i64 ((slotsS a0.Widths).length : Int)), (3, .int .i64 ((slotsS a0.Heights).length : Int))] rfl ?_
  generalize ((g_ 2).a 0) = A37 at hS ⊢
  generalize ((g_ 2).c 0) = c38 at hS ⊢
  generalize ((g_ 6).a 0) = A39 at hS ⊢
  generalize ((g_ 6).c 0) = c40 at hS ⊢
  have hp41 := hS.cap 0 rfl
  have hlhp41 := hp41.le
  have hmhp41 := hp41.mx
  have hp42 := hS.cap 1 rfl
  have hlhp42 := hp42.le
  have hmhp42 := hp42.mx
  refine An_done (by decide +kernel) ?_
  refine E_then ?_
  refine C_ret ?_
  refine E_ret2 rfl rfl rfl ?_
  exact ⟨Lret2 (Lint (show ((slotsS a0.Widths).length : Int) = slotsW a0 by rfl)) (Lint (show ((slotsS a0.Heights).length : Int) = slotsH a0 by rfl)), hS.fin [] (by decide) rfl⟩

set_option maxHeartbeats 400000 in
set_option maxRecDepth 20000 in
theorem rinn_calls (a0 : TSheet) (Aa0_Widths : Option Addr) (ca0_Widths : Nat) (Aa0_Heights : Option Addr) (ca0_Heights : Nat) (Aa0_Cells : Option Addr) (ca0_Cells : Nat) (Aa0_Merges : Option Addr) (ca0_Merges : Nat) (a1 : TRect) (a2 : Int) (a3 : Int) (z : Z) (w : World) (hI : In z w []) (hra0_Widths : Rd (kint .i64) z Aa0_Widths a0.Widths) (hca0_Widths : Cap Aa0_Widths a0.Widths.length ca0_Widths) (hra0_Heights : Rd (kint .i64) z Aa0_Heights a0.Heights) (hca0_Heights : Cap Aa0_Heights a0.Heights.length ca0_Heights) (hra0_Cells : Rd kdTCell z Aa0_Cells a0.Cells) (hca0_Cells : Cap Aa0_Cells a0.Cells.length ca0_Cells) (hra0_Merges : Rd kdTRect z Aa0_Merges a0.Merges) (hca0_Merges : Cap Aa0_Merges a0.Merges.length ca0_Merges) (p0 : a0.Widths.length ≤ 1000 ∧ a0.Heights.length ≤ 1000) (p1 : insideS a0.Widths.length a0.Heights.length a1 = true) :
    Calls Try.prog 63 #[.agg #[.int .i64 a0.Right, .slice Aa0_Widths a0.Widths.length ca0_Widths, .slice Aa0_Heights a0.Heights.length ca0_Heights, .slice Aa0_Cells a0.Cells.length ca0_Cells, .slice Aa0_Merges a0.Merges.length ca0_Merges], .agg #[.int .i64 a1.Row, .int .i64 a1.Col, .int .i64 a1.Rows, .int .i64 a1.Cols], .int .i64 a2, .int .i64 a3] w fun e w' => e = .returned (.bool (rinS a0 a1 a2 a3)) ∧ Sp (FF []) w z w' [] := by
 have hla0_Widths := hca0_Widths.le
 have hma0_Widths := hca0_Widths.mx
 have hla0_Heights := hca0_Heights.le
 have hma0_Heights := hca0_Heights.mx
 have hla0_Cells := hca0_Cells.le
 have hma0_Cells := hca0_Cells.mx
 have hla0_Merges := hca0_Merges.le
 have hma0_Merges := hca0_Merges.mx
 have hS := hI.sp
 have hi := inside_of p1
 have hb0 := starts_bd a0.Widths a1.Col.toNat (by omega)
 have hb1 := starts_bd a0.Heights a1.Row.toNat (by omega)
 have hb2 := sumC_bd a0.Widths a1.Col.toNat a1.Cols.toNat
 have hb3 := sumC_bd a0.Heights a1.Row.toNat a1.Rows.toNat
 refine Calls_of (vs := [.agg #[.int .i64 a0.Right, .slice Aa0_Widths a0.Widths.length ca0_Widths, .slice Aa0_Heights a0.Heights.length ca0_Heights, .slice Aa0_Cells a0.Cells.length ca0_Cells, .slice Aa0_Merges a0.Merges.length ca0_Merges], .agg #[.int .i64 a1.Row, .int .i64 a1.Col, .int .i64 a1.Rows, .int .i64 a1.Cols], .int .i64 a2, .int .i64 a3]) (N := 53) Try.func63 rfl rfl (Nat.le_of_ble_eq_true rfl) ?_
 refine C_seq ?_
 refine C_region ?_
 refine W_cons rfl (by decide) (S_box hS rfl (R_box (cs := [.int .i64 a0.Right, .slice Aa0_Widths a0.Widths.length ca0_Widths, .slice Aa0_Heights a0.Heights.length ca0_Heights, .slice Aa0_Cells a0.Cells.length ca0_Cells, .slice Aa0_Merges a0.Merges.length ca0_Merges]) rfl rfl rfl) (fun b2 w1 hS => ?_))
 refine W_cons rfl (by decide) (S_box hS rfl (R_box (cs := [.int .i64 a1.Row, .int .i64 a1.Col, .int .i64 a1.Rows, .int .i64 a1.Cols]) rfl rfl rfl) (fun b4 w3 hS => ?_))
 refine wv rfl rfl rfl (R_assign rfl rfl) ?_
 refine W_nil ?_
 refine E_then ?_
 refine C_seq ?_
 refine C_region ?_
 refine wv rfl rfl rfl (R_fld rfl rfl fld26_1) <| wv rfl rfl rfl (R_load1 rfl rfl agg22 ((hS.bx 1 rfl).cell rfl)) <| wv rfl rfl rfl (R_fld rfl rfl fld26_2) <| wv rfl rfl rfl (R_load1 rfl rfl agg22 ((hS.bx 1 rfl).cell rfl)) <| wv rfl rfl rfl (R_loadN (cs := [.int .i64 a1.Row, .int .i64 a1.Col, .int .i64 a1.Rows, .int .i64 a1.Cols]) rfl rfl agg39 size39 rfl (boxcells (hS.bx 0 rfl) 0 rfl)) ?_
 refine W_cons rfl (by decide) (Sv_call rfl rfl rfl ent84 ?_)
 refine (rcorner_calls a0.Widths Aa0_Widths ca0_Widths a0.Heights Aa0_Heights ca0_Heights a1 _ _ hS.out0 (hra0_Widths.mono (hS.zl [])) hca0_Widths (hra0_Heights.mono (hS.zl [])) hca0_Heights (by first | omega | assumption) (by first | omega | assumption) (by first | omega | assumption)).mono ?_
 rintro e_ w5 ⟨rfl, hS_⟩
 refine ⟨_, rfl, ?_⟩
 have hS := hS.call0 hS_
 refine wv rfl rfl rfl (R_move rfl rfl) <| wv rfl rfl rfl (R_extract rfl rfl rfl) <| wv rfl rfl rfl (R_extract rfl rfl rfl) <| wv rfl rfl rfl (R_assign rfl rfl) <| wv rfl rfl rfl (R_assign rfl rfl) ?_
 refine W_nil ?_
 refine E_then (C_fr [(2, .int .i64 a2), (3, .int .i64 a3), (4, .pointer (some ⟨b2, 0, none⟩)), (5, .pointer (some ⟨b4, 0, none⟩)), (9, .int .i64 ((startsS a0.Widths).getD a1.Col.toNat 0)), (10, .int .i64 ((startsS a0.Heights).getD a1.Row.toNat 0))] rfl ?_)
 refine C_seq ?_
 refine C_region ?_
 refine wv rfl rfl rfl (R_fld rfl rfl fld26_1) <| wv rfl rfl rfl (R_load1 rfl rfl agg22 ((hS.bx 1 rfl).cell rfl)) <| wv rfl rfl rfl (R_fld rfl rfl fld26_2) <| wv rfl rfl rfl (R_load1 rfl rfl agg22 ((hS.bx 1 rfl).cell rfl)) <| wv rfl rfl rfl (R_loadN (cs := [.int .i64 a1.Row, .int .i64 a1.Col, .int .i64 a1.Rows, .int .i64 a1.Cols]) rfl rfl agg39 size39 rfl (boxcells (hS.bx 0 rfl) 0 rfl)) ?_
 refine W_cons rfl (by decide) (Sv_call rfl rfl rfl ent85 ?_)
 refine (extent_calls a0.Widths Aa0_Widths ca0_Widths a0.Heights Aa0_Heights ca0_Heights a1 _ _ hS.out0 (hra0_Widths.mono (hS.zl [])) hca0_Widths (hra0_Heights.mono (hS.zl [])) hca0_Heights (by first | omega | assumption) (by first | omega | assumption) (by first | omega | assumption)).mono ?_
 rintro e_ w7 ⟨rfl, hS_⟩
 refine ⟨_, rfl, ?_⟩
 have hS := hS.call0 hS_
 refine wv rfl rfl rfl (R_move rfl rfl) <| wv rfl rfl rfl (R_extract rfl rfl rfl) <| wv rfl rfl rfl (R_extract rfl rfl rfl) <| wv rfl rfl rfl (R_assign rfl rfl) <| wv rfl rfl rfl (R_assign rfl rfl) ?_
 refine W_nil ?_
 refine E_then (C_fr [(2, .int .i64 a2), (3, .int .i64 a3), (9, .int .i64 ((startsS a0.Widths).getD a1.Col.toNat 0)), (10, .int .i64 ((startsS a0.Heights).getD a1.Row.toNat 0)), (11, .int .i64 (a1.Cols - 1 + sumC a0.Widths a1.Col.toNat a1.Cols.toNat)), (12, .int .i64 (a1.Rows - 1 + sumC a0.Heights a1.Row.toNat a1.Rows.toNat))] rfl ?_)
 refine C_seq ?_
 refine C_region ?_
 refine wv rfl rfl rfl (R_move rfl rfl) <| wv rfl rfl rfl (R_move rfl rfl) <| wv rfl rfl rfl (R_bin rfl rfl rfl rfl rfl) <| wv rfl rfl rfl (R_move rfl rfl) <| wg rfl rfl (Gd.on rfl rfl rfl) (fun hB => R_move rfl rfl) <| wg rfl rfl (Gd.on rfl rfl rfl) (fun hB => R_move rfl rfl) <| wg rfl rfl (Gd.on rfl rfl rfl) (fun hB => R_move rfl rfl) <| wg rfl rfl (Gd.on rfl rfl rfl) (fun hB => by have hB0_ : a2 ≥ ((startsS a0.Widths).getD a1.Col.toNat 0) := (by simpa using (hB)); exact Runs.at_ (i := 37) (gl rfl hB) (Runs.at_ (i := 36) (gl rfl hB) (R_add64 rfl rfl rfl (by omega) (by omega)))) <| wg rfl rfl (Gd.on rfl rfl rfl) (fun hB => Runs.at_ (i := 38) (gl rfl hB) (Runs.at_ (i := 35) (gl rfl hB) (R_bin rfl rfl rfl rfl rfl))) <| wv rfl rfl rfl (R_pick_and rfl rfl rfl rfl) <| wv rfl rfl rfl (R_move rfl rfl) <| wg rfl rfl (Gd.on rfl rfl rfl) (fun hB => R_move rfl rfl) <| wg rfl rfl (Gd.on rfl rfl rfl) (fun hB => R_move rfl rfl) <| wg rfl rfl (Gd.on rfl rfl rfl) (fun hB => Runs.at_ (i := 43) (gl rfl hB) (Runs.at_ (i := 42) (gl rfl hB) (R_bin rfl rfl rfl rfl rfl))) <| wv rfl rfl rfl (R_pick_and rfl rfl rfl rfl) <| wv rfl rfl rfl (R_move rfl rfl) <| wg rfl rfl (Gd.on rfl rfl rfl) (fun hB => R_move rfl rfl) <| wg rfl rfl (Gd.on rfl rfl rfl) (fun hB => R_move rfl rfl) <| wg rfl rfl (Gd.on rfl rfl rfl) (fun hB => R_move rfl rfl) <| wg rfl rfl (Gd.on rfl rfl rfl) (fun hB => by have hB0_ : ((a2 ≥ ((startsS a0.Widths).getD a1.Col.toNat 0) ∧ a2 < (((startsS a0.Widths).getD a1.Col.toNat 0) + (a1.Cols - 1 + sumC a0.Widths a1.Col.toNat a1.Cols.toNat))) ∧ a3 ≥ ((startsS a0.Heights).getD a1.Row.toNat 0)) := (by simpa using (hB)); exact Runs.at_ (i := 49) (gl rfl hB) (Runs.at_ (i := 48) (gl rfl hB) (R_add64 rfl rfl rfl (by omega) (by omega)))) <| wg rfl rfl (Gd.on rfl rfl rfl) (fun hB => Runs.at_ (i := 50) (gl rfl hB) (Runs.at_ (i := 47) (gl rfl hB) (R_bin rfl rfl rfl rfl rfl))) <| wv rfl rfl rfl (R_pick_and rfl rfl rfl rfl) <| wv rfl rfl rfl (R_assign rfl rfl) ?_
 refine W_nil ?_
 refine E_then (C_fr [(8, .bool ((((decide (a2 ≥ ((startsS a0.Widths).getD a1.Col.toNat 0))) && (decide (a2 < (((startsS a0.Widths).getD a1.Col.toNat 0) + (a1.Cols - 1 + sumC a0.Widths a1.Col.toNat a1.Cols.toNat))))) && (decide (a3 ≥ ((startsS a0.Heights).getD a1.Row.toNat 0)))) && (decide (a3 < (((startsS a0.Heights).getD a1.Row.toNat 0) + (a1.Rows - 1 + sumC a0.Heights a1.Row.toNat a1.Rows.toNat))))))] rfl ?_)
 refine C_ret ?_
 refine E_ret1 rfl rfl ?_
 exact ⟨Lret1 (Lbool (show ((((decide (a2 ≥ ((startsS a0.Widths).getD a1.Col.toNat 0))) && (decide (a2 < (((startsS a0.Widths).getD a1.Col.toNat 0) + (a1.Cols - 1 + sumC a0.Widths a1.Col.toNat a1.Cols.toNat))))) && (decide (a3 ≥ ((startsS a0.Heights).getD a1.Row.toNat 0)))) && (decide (a3 < (((startsS a0.Heights).getD a1.Row.toNat 0) + (a1.Rows - 1 + sumC a0.Heights a1.Row.toNat a1.Rows.toNat))))) = (rinS a0 a1 a2 a3) by rfl)), hS.fin [] (by decide) rfl⟩

set_option maxHeartbeats 1000000 in
set_option maxRecDepth 20000 in
theorem rborder_calls (a0 : TSheet) (Aa0_Widths : Option Addr) (ca0_Widths : Nat) (Aa0_Heights : Option Addr) (ca0_Heights : Nat) (Aa0_Cells : Option Addr) (ca0_Cells : Nat) (Aa0_Merges : Option Addr) (ca0_Merges : Nat) (a1 : Int) (a2 : Int) (z : Z) (w : World) (hI : In z w []) (hra0_Widths : Rd (kint .i64) z Aa0_Widths a0.Widths) (hca0_Widths : Cap Aa0_Widths a0.Widths.length ca0_Widths) (hra0_Heights : Rd (kint .i64) z Aa0_Heights a0.Heights) (hca0_Heights : Cap Aa0_Heights a0.Heights.length ca0_Heights) (hra0_Cells : Rd kdTCell z Aa0_Cells a0.Cells) (hca0_Cells : Cap Aa0_Cells a0.Cells.length ca0_Cells) (hra0_Merges : Rd kdTRect z Aa0_Merges a0.Merges) (hca0_Merges : Cap Aa0_Merges a0.Merges.length ca0_Merges) (p0 : SheetI a0) (p1 : rcheckSh a0 = 0) :
    Calls Try.prog 29 #[.agg #[.int .i64 a0.Right, .slice Aa0_Widths a0.Widths.length ca0_Widths, .slice Aa0_Heights a0.Heights.length ca0_Heights, .slice Aa0_Cells a0.Cells.length ca0_Cells, .slice Aa0_Merges a0.Merges.length ca0_Merges], .int .i64 a1, .int .i64 a2] w fun e w' => e = .returned (.bool (rborderS a0 a1 a2)) ∧ Sp (FF []) w z w' [] := by
 have hla0_Widths := hca0_Widths.le
 have hma0_Widths := hca0_Widths.mx
 have hla0_Heights := hca0_Heights.le
 have hma0_Heights := hca0_Heights.mx
 have hla0_Cells := hca0_Cells.le
 have hma0_Cells := hca0_Cells.mx
 have hla0_Merges := hca0_Merges.le
 have hma0_Merges := hca0_Merges.mx
 have hS := hI.sp
 obtain ⟨hsm0, hsm1, hsm2⟩ := rchk_small p1
 have hslw := slots_len a0.Widths
 have hslh := slots_len a0.Heights
 refine Calls_of (vs := [.agg #[.int .i64 a0.Right, .slice Aa0_Widths a0.Widths.length ca0_Widths, .slice Aa0_Heights a0.Heights.length ca0_Heights, .slice Aa0_Cells a0.Cells.length ca0_Cells, .slice Aa0_Merges a0.Merges.length ca0_Merges], .int .i64 a1, .int .i64 a2]) (N := 48) Try.func29 rfl rfl (Nat.le_of_ble_eq_true rfl) ?_
 refine C_seq ?_
 refine C_region ?_
 refine W_cons rfl (by decide) (S_box hS rfl (R_box (cs := [.int .i64 a0.Right, .slice Aa0_Widths a0.Widths.length ca0_Widths, .slice Aa0_Heights a0.Heights.length ca0_Heights, .slice Aa0_Cells a0.Cells.length ca0_Cells, .slice Aa0_Merges a0.Merges.length ca0_Merges]) rfl rfl rfl) (fun b2 w1 hS => ?_))
 refine wv rfl rfl rfl (R_assign rfl rfl) ?_
 refine W_nil ?_
 refine E_then ?_
 refine C_seq ?_
 refine C_region ?_
 refine wv rfl rfl rfl (R_loadN (cs := [.int .i64 a0.Right, .slice Aa0_Widths a0.Widths.length ca0_Widths, .slice Aa0_Heights a0.Heights.length ca0_Heights, .slice Aa0_Cells a0.Cells.length ca0_Cells, .slice Aa0_Merges a0.Merges.length ca0_Merges]) rfl rfl agg26 size26 rfl (boxcells (hS.bx 0 rfl) 0 rfl)) ?_
 refine W_cons rfl (by decide) (Sv_call rfl rfl rfl ent28 ?_)
 refine (rlong_calls a0 Aa0_Widths ca0_Widths Aa0_Heights ca0_Heights Aa0_Cells ca0_Cells Aa0_Merges ca0_Merges _ _ hS.out0 (hra0_Widths.mono (hS.zl [])) hca0_Widths (hra0_Heights.mono (hS.zl [])) hca0_Heights (hra0_Cells.mono (hS.zl [])) hca0_Cells (hra0_Merges.mono (hS.zl [])) hca0_Merges (by first | omega | (exact rreg_inside p0 p1 (by omega)))).mono ?_
 rintro e_ w3 ⟨rfl, hS_⟩
 refine ⟨_, rfl, ?_⟩
 have hS := hS.call0 hS_
 refine wv rfl rfl rfl (R_move rfl rfl) <| wv rfl rfl rfl (R_extract rfl rfl rfl) <| wv rfl rfl rfl (R_extract rfl rfl rfl) <| wv rfl rfl rfl (R_assign rfl rfl) <| wv rfl rfl rfl (R_assign rfl rfl) ?_
 refine W_nil ?_
 refine E_then (C_fr [(1, .int .i64 a1), (2, .int .i64 a2), (3, .pointer (some ⟨b2, 0, none⟩)), (7, .int .i64 (slotsW a0)), (8, .int .i64 (slotsH a0))] rfl ?_)
 refine C_seq ?_
 refine C_seq ?_
 refine C_region ?_
 refine wv rfl rfl rfl (R_move rfl rfl) <| wv rfl rfl rfl (R_bin rfl rfl rfl rfl rfl) <| wv rfl rfl rfl (R_move rfl rfl) <| wg rfl rfl (Gd.no rfl rfl rfl) (fun hB => R_move rfl rfl) <| wg rfl rfl (Gd.no rfl rfl rfl) (fun hB => Runs.at_ (i := 19) (gl rfl hB) (R_bin rfl rfl rfl rfl rfl)) <| wv rfl rfl rfl (R_pick_or rfl rfl rfl rfl) <| wv rfl rfl rfl (R_move rfl rfl) <| wg rfl rfl (Gd.no rfl rfl rfl) (fun hB => R_move rfl rfl) <| wg rfl rfl (Gd.no rfl rfl rfl) (fun hB => R_move rfl rfl) <| wg rfl rfl (Gd.no rfl rfl rfl) (fun hB => Runs.at_ (i := 24) (gl rfl hB) (Runs.at_ (i := 23) (gl rfl hB) (R_bin rfl rfl rfl rfl rfl))) <| wv rfl rfl rfl (R_pick_or rfl rfl rfl rfl) <| wv rfl rfl rfl (R_move rfl rfl) <| wg rfl rfl (Gd.no rfl rfl rfl) (fun hB => R_move rfl rfl) <| wg rfl rfl (Gd.no rfl rfl rfl) (fun hB => R_move rfl rfl) <| wg rfl rfl (Gd.no rfl rfl rfl) (fun hB => Runs.at_ (i := 29) (gl rfl hB) (Runs.at_ (i := 28) (gl rfl hB) (R_bin rfl rfl rfl rfl rfl))) <| wv rfl rfl rfl (R_pick_or rfl rfl rfl rfl) ?_
 refine W_nil ?_
 refine E_then (C_fr [(1, .int .i64 a1), (2, .int .i64 a2), (3, .pointer (some ⟨b2, 0, none⟩)), (31, .bool ((((decide (a1 < 0)) || (decide (a2 < 0))) || (decide (a1 ≥ (slotsW a0)))) || (decide (a2 ≥ (slotsH a0)))))] rfl ?_)
 refine C_ite rfl (fun hC0 => ?_) (fun hC0 => ?_)
 ·have _hC0 := trivial
  have hC0p : (((a1 < 0 ∨ a2 < 0) ∨ a1 ≥ (slotsW a0)) ∨ a2 ≥ (slotsH a0)) := by simpa using hC0
  refine C_seq ?_
  refine C_region ?_
  refine wv rfl rfl rfl (R_assign rfl rfl) ?_
  refine W_nil ?_
  refine E_then ?_
  refine C_ret ?_
  refine E_then_ret ?_
  refine E_ret1 rfl rfl ?_
  exact ⟨Lret1 (Lbool (show false = (rborderS a0 a1 a2) by first | exact rbord_off (by unfold offS; omega) | exact rbord_hit (i := i) (by unfold offS; omega) (by omega) (by assumption) | exact rbord_end (i := i) (by unfold offS; omega) (by omega) hI0_1)), hS.fin [] (by decide) rfl⟩
 ·have _hC0 := trivial
  have hC0p : ¬ ((((a1 < 0 ∨ a2 < 0) ∨ a1 ≥ (slotsW a0)) ∨ a2 ≥ (slotsH a0))) := by simpa using hC0
  refine C_skip ?_
  refine E_then ?_
  refine C_seq ?_
  refine C_region ?_
  refine wv rfl rfl rfl (R_loadN (cs := [.int .i64 a0.Right, .slice Aa0_Widths a0.Widths.length ca0_Widths, .slice Aa0_Heights a0.Heights.length ca0_Heights, .slice Aa0_Cells a0.Cells.length ca0_Cells, .slice Aa0_Merges a0.Merges.length ca0_Merges]) rfl rfl agg26 size26 rfl (boxcells (hS.bx 0 rfl) 0 rfl)) ?_
  refine W_cons rfl (by decide) (Sv_call rfl rfl rfl ent62 ?_)
  refine (rregions_calls a0 Aa0_Widths ca0_Widths Aa0_Heights ca0_Heights Aa0_Cells ca0_Cells Aa0_Merges ca0_Merges _ _ hS.out0 (hra0_Widths.mono (hS.zl [])) hca0_Widths (hra0_Heights.mono (hS.zl [])) hca0_Heights (hra0_Cells.mono (hS.zl [])) hca0_Cells (hra0_Merges.mono (hS.zl [])) hca0_Merges ).mono ?_
  rintro e_ w5 ⟨AR0_6, cR0_6, rfl, hS_⟩
  refine ⟨_, rfl, ?_⟩
  have hS := hS.call0 hS_
  have hp7 := hS.cap 0 rfl
  have hlhp7 := hp7.le
  have hmhp7 := hp7.mx
  refine wv rfl rfl rfl (R_assign rfl rfl) ?_
  refine W_nil ?_
  refine E_then ?_
  refine C_seq ?_
  refine C_seq ?_
  refine C_region ?_
  refine wv rfl rfl rfl (R_assign rfl rfl) ?_
  refine W_nil ?_
  refine E_then ?_
  refine C_block ?_
  refine C_fr [(1, .int .i64 a1), (2, .int .i64 a2), (3, .pointer (some ⟨b2, 0, none⟩)), (9, .slice AR0_6 (rregionsS a0).length cR0_6), (10, .int .i64 0)] rfl ?_
  refine C_loop (fun m_ f_ w_ => ∃ (i : Nat), f_ = [(1, .int .i64 a1), (2, .int .i64 a2), (3, .pointer (some ⟨b2, 0, none⟩)), (9, .slice AR0_6 (rregionsS a0).length cR0_6), (10, .int .i64 (i : Int))] ∧ i ≤ (rregionsS a0).length ∧ ((rregionsS a0).take i).any (fun r => rinS a0 r a1 a2) = false ∧ m_ = (rregionsS a0).length - i ∧ Sp (FF []) w z w_ [bR b2 26 [.int .i64 a0.Right, .slice Aa0_Widths a0.Widths.length ca0_Widths, .slice Aa0_Heights a0.Heights.length ca0_Heights, .slice Aa0_Cells a0.Cells.length ca0_Cells, .slice Aa0_Merges a0.Merges.length ca0_Merges], oR kdTRect 39 zE AR0_6 cR0_6 (rregionsS a0)]) ((rregionsS a0).length - (0 : Nat)) ⟨(0 : Nat), rfl, (by omega), (by rfl), rfl, hS.fin [1, 0] (by decide) rfl⟩ ?_
  rintro m_ f_ w8 ⟨i, rfl, hI0_0, hI0_1, rfl, hS⟩
  refine C_seq ?_
  refine C_seq ?_
  refine C_region ?_
  refine wv rfl rfl rfl (R_move rfl rfl) <| wv rfl rfl rfl (R_move rfl rfl) <| wv rfl rfl rfl (R_len rfl rfl Try.underlying24) <| wv rfl rfl rfl (R_bin rfl rfl rfl rfl rfl) ?_
  refine W_nil ?_
  refine E_then ?_
  refine C_ite rfl (fun hC1 => ?_) (fun hC1 => ?_)
  ·have _hC1 := trivial
   have hC1p : (i : Int) < ((rregionsS a0).length : Int) := by simpa using hC1
   refine C_skip ?_
   refine E_then ?_
   refine C_seq ?_
   refine C_block ?_
   refine C_seq ?_
   refine C_fr [(1, .int .i64 a1), (2, .int .i64 a2), (3, .pointer (some ⟨b2, 0, none⟩)), (9, .slice AR0_6 (rregionsS a0).length cR0_6), (10, .int .i64 (i : Int))] rfl ?_
   obtain ⟨q9, hAq9, hxq9⟩ := (hS.rw 1 rfl).ix (default : TRect) (i := (i : Int)) (by omega) (by omega)
   refine C_drawn2 8 [[], [], [], [1, 2], [3], [], [], [0, 4, 5, 6]] [some 40, some 41, some 42, some 43, some 44, some 45, some 46, some 47] [1, 2, 3, 9, 10] (List.replicate 8 8) (List.replicate 8 []) (List.replicate 8 []) [fun γ_ => .agg #[.int .i64 a0.Right, .slice Aa0_Widths a0.Widths.length ca0_Widths, .slice Aa0_Heights a0.Heights.length ca0_Heights, .slice Aa0_Cells a0.Cells.length ca0_Cells, .slice Aa0_Merges a0.Merges.length ca0_Merges], fun γ_ => .slice AR0_6 (rregionsS a0).length cR0_6, fun γ_ => .int .i64 (i : Int), fun γ_ => .pointer (some (q9.add (i * 4))), fun γ_ => .agg #[.int .i64 ((rregionsS a0).getD i (default : TRect)).Row, .int .i64 ((rregionsS a0).getD i (default : TRect)).Col, .int .i64 ((rregionsS a0).getD i (default : TRect)).Rows, .int .i64 ((rregionsS a0).getD i (default : TRect)).Cols], fun γ_ => .int .i64 a1, fun γ_ => .int .i64 a2, fun γ_ => .bool (rinS a0 ((rregionsS a0).getD i (default : TRect)) a1 a2)] (List.replicate 8 (fun _ => [])) rfl (by kernel_rfl) (by decide +kernel) hS ?_ ?_
   ·refine ⟨fun _ _ _ hS => Sv_val rfl (R_loadN (cs := [.int .i64 a0.Right, .slice Aa0_Widths a0.Widths.length ca0_Widths, .slice Aa0_Heights a0.Heights.length ca0_Heights, .slice Aa0_Cells a0.Cells.length ca0_Cells, .slice Aa0_Merges a0.Merges.length ca0_Merges]) rfl rfl agg26 size26 rfl (boxcells (hS.bx 0 rfl) 0 rfl)) ⟨gh0, rfl, hS⟩, fun _ _ _ hS => Sv_val rfl (R_move rfl rfl) ⟨gh0, rfl, hS⟩, fun _ _ _ hS => Sv_val rfl (R_move rfl rfl) ⟨gh0, rfl, hS⟩, fun _ _ _ hS => Sv_val rfl (R_idx rfl rfl hAq9 rfl Try.underlying24 size39 (by omega) (by omega)) ⟨gh0, rfl, hS⟩, fun _ _ _ hS => Sv_val rfl (R_loadN (cs := [.int .i64 ((rregionsS a0).getD i (default : TRect)).Row, .int .i64 ((rregionsS a0).getD i (default : TRect)).Col, .int .i64 ((rregionsS a0).getD i (default : TRect)).Rows, .int .i64 ((rregionsS a0).getD i (default : TRect)).Cols]) rfl rfl agg39 size39 rfl (fun j u h => cell_add ((hS.rw 1 rfl).cellAt hAq9 hxq9 (fun _ h => h) j u h))) ⟨gh0, rfl, hS⟩, fun _ _ _ hS => Sv_val rfl (R_move rfl rfl) ⟨gh0, rfl, hS⟩, fun _ _ _ hS => Sv_val rfl (R_move rfl rfl) ⟨gh0, rfl, hS⟩, fun g_ w26 fr27 hS => ?_, ?_⟩
    ·have _w26 := trivial
     have hS : Sp (FF []) w z w26 [bR b2 26 [.int .i64 a0.Right, .slice Aa0_Widths a0.Widths.length ca0_Widths, .slice Aa0_Heights a0.Heights.length ca0_Heights, .slice Aa0_Cells a0.Cells.length ca0_Cells, .slice Aa0_Merges a0.Merges.length ca0_Merges], oR kdTRect 39 zE AR0_6 cR0_6 (rregionsS a0), allR fr27] := hS
     refine Sv_call rfl rfl rfl ent63 ?_
     refine (rinn_calls a0 Aa0_Widths ca0_Widths Aa0_Heights ca0_Heights Aa0_Cells ca0_Cells Aa0_Merges ca0_Merges ((rregionsS a0).getD i (default : TRect)) a1 a2 _ _ hS.out0 (hra0_Widths.mono (hS.zl [])) hca0_Widths (hra0_Heights.mono (hS.zl [])) hca0_Heights (hra0_Cells.mono (hS.zl [])) hca0_Cells (hra0_Merges.mono (hS.zl [])) hca0_Merges (by first | omega | (exact rreg_inside p0 p1 (by omega))) (by first | omega | (exact rreg_inside p0 p1 (by omega)))).mono ?_
     rintro e_ w28 ⟨rfl, hS_⟩
     refine ⟨_, rfl, ?_⟩
     have hS := hS.call0 hS_
     exact ⟨⟨fun _ => none, fun _ => 0, fun _ => zE, fun _ => 0⟩, rfl, hS.fin [0, 1, 2] (by decide) rfl⟩
    exact trivial
   ·intro g_ w30 hS
    have hS : Sp (FF []) w z w30 [bR b2 26 [.int .i64 a0.Right, .slice Aa0_Widths a0.Widths.length ca0_Widths, .slice Aa0_Heights a0.Heights.length ca0_Heights, .slice Aa0_Cells a0.Cells.length ca0_Cells, .slice Aa0_Merges a0.Merges.length ca0_Merges], oR kdTRect 39 zE AR0_6 cR0_6 (rregionsS a0)] := hS
    refine An_fr [(1, .int .i64 a1), (2, .int .i64 a2), (3, .pointer (some ⟨b2, 0, none⟩)), (9, .slice AR0_6 (rregionsS a0).length cR0_6), (10, .int .i64 (i : Int)), (47, .bool (rinS a0 ((rregionsS a0).getD i (default : TRect)) a1 a2))] rfl ?_
    refine An_done (by decide +kernel) ?_
    refine E_then ?_
    refine C_ite rfl (fun hC2 => ?_) (fun hC2 => ?_)
    ·have _hC2 := trivial
     refine C_seq ?_
     refine C_region ?_
     refine wv rfl rfl rfl (R_assign rfl rfl) ?_
     refine W_nil ?_
     refine E_then (C_fr [(6, .bool false)] rfl ?_)
     refine C_ret ?_
     refine E_block_ret ?_
     refine E_then_ret ?_
     refine E_then_ret ?_
     refine E_block_ret ?_
     refine E_then_ret ?_
     refine E_ret1 rfl rfl ?_
     exact ⟨Lret1 (Lbool (show false = (rborderS a0 a1 a2) by first | exact rbord_off (by unfold offS; omega) | exact rbord_hit (i := i) (by unfold offS; omega) (by omega) (by assumption) | exact rbord_end (i := i) (by unfold offS; omega) (by omega) hI0_1)), hS.fin [] (by decide) rfl⟩
    ·have _hC2 := trivial
     refine C_skip ?_
     refine E_block_normal ?_
     refine E_then ?_
     refine C_region ?_
     refine wv rfl rfl rfl (R_move rfl rfl) <| wv rfl rfl rfl (R_add64 rfl rfl rfl (by omega) (by omega)) <| wv rfl rfl rfl (R_assign rfl rfl) ?_
     refine W_nil ?_
     refine E_round [1, 2, 3, 9, 10] ?_ ⟨(i + 1 : Nat), rfl, (by omega), (by exact any_step (p := (fun r => rinS a0 r a1 a2)) default (by omega) hI0_1 (by simp_all)), rfl, hS.fin [0, 1] (by decide) rfl⟩
     omega
  ·have _hC1 := trivial
   have hC1p : ¬ ((i : Int) < ((rregionsS a0).length : Int)) := by simpa using hC1
   refine C_exit ?_
   refine E_then_exit ?_
   refine E_then_exit ?_
   refine E_block_hit ?_
   refine E_then (C_fr [] rfl ?_)
   refine C_seq ?_
   refine C_region ?_
   refine wv rfl rfl rfl (R_assign rfl rfl) ?_
   refine W_nil ?_
   refine E_then ?_
   refine C_ret ?_
   refine E_ret1 rfl rfl ?_
   exact ⟨Lret1 (Lbool (show true = (rborderS a0 a1 a2) by first | exact rbord_off (by unfold offS; omega) | exact rbord_hit (i := i) (by unfold offS; omega) (by omega) (by assumption) | exact rbord_end (i := i) (by unfold offS; omega) (by omega) hI0_1)), hS.fin [] (by decide) rfl⟩

end Go.Proofs.YtalpekmbknjeeaaG
