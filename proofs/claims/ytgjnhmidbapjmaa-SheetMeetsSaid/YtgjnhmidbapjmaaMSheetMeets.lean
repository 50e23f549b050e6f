/- The walk of the law SheetMeets: it returns true. -/
import Derived.Test.YtgjnhmidbapjmaaU4
set_option linter.all false
namespace Go.Proofs.YtgjnhmidbapjmaaG
open Go Go.RowKit
set_option maxHeartbeats 400000 in
set_option maxRecDepth 20000 in
theorem sheetMeets_calls (a0 : TRect) (a1 : TRect) (z : Z) (w : World) (hI : In z w [])  (p0 : RectI a0) (p1 : RectI a1) :
    Calls Try.prog 7 #[.agg #[.int .i64 a0.Row, .int .i64 a0.Col, .int .i64 a0.Rows, .int .i64 a0.Cols], .agg #[.int .i64 a1.Row, .int .i64 a1.Col, .int .i64 a1.Rows, .int .i64 a1.Cols]] w fun e w' => e = .returned (.bool true) ∧ Sp (FF []) w z w' [] := by
 have hS := hI.sp
 refine Calls_of (vs := [.agg #[.int .i64 a0.Row, .int .i64 a0.Col, .int .i64 a0.Rows, .int .i64 a0.Cols], .agg #[.int .i64 a1.Row, .int .i64 a1.Col, .int .i64 a1.Rows, .int .i64 a1.Cols]]) (N := 24) Try.func7 rfl rfl (Nat.le_of_ble_eq_true rfl) ?_
 refine C_seq ?_
 refine C_region ?_
 refine W_cons rfl (by decide) (S_box hS rfl (R_box (cs := [.int .i64 a0.Row, .int .i64 a0.Col, .int .i64 a0.Rows, .int .i64 a0.Cols]) rfl rfl rfl) (fun b2 w1 hS => ?_))
 refine W_cons rfl (by decide) (S_box hS rfl (R_box (cs := [.int .i64 a1.Row, .int .i64 a1.Col, .int .i64 a1.Rows, .int .i64 a1.Cols]) rfl rfl rfl) (fun b4 w3 hS => ?_))
 refine W_cons rfl (by decide) (Sv_val rfl (R_assign rfl rfl) ?_)
 refine W_nil ?_
 refine E_then ?_
 refine C_seq ?_
 refine C_fr [(2, .pointer (some ⟨b2, 0, none⟩)), (3, .pointer (some ⟨b4, 0, none⟩))] rfl ?_
 have hk9 : (((meetS a0 a1) == (rmeetS a0 a1))) = true := by rw [meet_law p0 p1]; simp
 have hk14 : (((meetS a1 a0) == (rmeetS a0 a1))) = true := by rw [meet_comm p0 p1, meet_law p0 p1]; simp
 refine C_drawn2 20 [[], [], [0, 1], [], [], [3, 4, 2], [2, 5], [6, 5], [7], [7], [8, 9, 7, 7], [7], [7], [11, 12, 10, 7], [10, 13, 7], [7, 14], [15, 13], [16, 16], [16, 17], [18, 17, 0, 1, 2, 3, 4, 5, 6, 7, 8, 9, 10, 11, 12, 13, 14, 15, 16, 17, 18]] [some 5, some 6, some 7, some 8, some 9, some 10, some 11, some 12, some 13, some 14, some 15, some 16, some 17, some 18, some 19, some 20, some 21, some 22, some 23, some 4] [2, 3] (List.replicate 20 20) (List.replicate 20 []) (List.replicate 20 []) [fun γ_ => .agg #[.int .i64 a0.Row, .int .i64 a0.Col, .int .i64 a0.Rows, .int .i64 a0.Cols], fun γ_ => .agg #[.int .i64 a1.Row, .int .i64 a1.Col, .int .i64 a1.Rows, .int .i64 a1.Cols], fun γ_ => .bool (meetS a0 a1), fun γ_ => .agg #[.int .i64 a0.Row, .int .i64 a0.Col, .int .i64 a0.Rows, .int .i64 a0.Cols], fun γ_ => .agg #[.int .i64 a1.Row, .int .i64 a1.Col, .int .i64 a1.Rows, .int .i64 a1.Cols], fun γ_ => .bool (rmeetS a0 a1), fun γ_ => .bool ((meetS a0 a1) == (rmeetS a0 a1)), fun γ_ => .bool ((meetS a0 a1) == (rmeetS a0 a1)), fun γ_ => .agg #[.int .i64 a1.Row, .int .i64 a1.Col, .int .i64 a1.Rows, .int .i64 a1.Cols], fun γ_ => .agg #[.int .i64 a0.Row, .int .i64 a0.Col, .int .i64 a0.Rows, .int .i64 a0.Cols], fun γ_ => .bool (meetS a1 a0), fun γ_ => .agg #[.int .i64 a0.Row, .int .i64 a0.Col, .int .i64 a0.Rows, .int .i64 a0.Cols], fun γ_ => .agg #[.int .i64 a1.Row, .int .i64 a1.Col, .int .i64 a1.Rows, .int .i64 a1.Cols], fun γ_ => .bool (rmeetS a0 a1), fun γ_ => .bool ((meetS a1 a0) == (rmeetS a0 a1)), fun γ_ => .bool ((meetS a1 a0) == (rmeetS a0 a1)), fun γ_ => .bool ((meetS a1 a0) == (rmeetS a0 a1)), fun γ_ => .bool true, fun γ_ => .bool true, fun γ_ => .bool true] (List.replicate 20 (fun _ => [])) rfl (by kernel_rfl) (by decide +kernel) hS ?_ ?_
 ·refine ⟨fun g_ w17 fr18 hS => Sv_val rfl (R_loadN (cs := [.int .i64 a0.Row, .int .i64 a0.Col, .int .i64 a0.Rows, .int .i64 a0.Cols]) rfl rfl agg33 size33 rfl (boxcells (hS.bx 1 rfl) 0 rfl)) ⟨gh0, rfl, hS⟩, ?_⟩
  refine ⟨fun g_ w19 fr20 hS => Sv_val rfl (R_loadN (cs := [.int .i64 a1.Row, .int .i64 a1.Col, .int .i64 a1.Rows, .int .i64 a1.Cols]) rfl rfl agg33 size33 rfl (boxcells (hS.bx 0 rfl) 0 rfl)) ⟨gh0, rfl, hS⟩, ?_⟩
  refine ⟨fun g_ w21 fr22 hS => ?_, ?_⟩
  ·have _w21 := trivial
   have hS : Sp (FF []) w z w21 [bR b4 33 [.int .i64 a1.Row, .int .i64 a1.Col, .int .i64 a1.Rows, .int .i64 a1.Cols], bR b2 33 [.int .i64 a0.Row, .int .i64 a0.Col, .int .i64 a0.Rows, .int .i64 a0.Cols], allR fr22] := hS
   refine Sv_call rfl rfl rfl ent27 ?_
   refine (meet_calls a0 a1 _ _ hS.out0  ).mono ?_
   rintro e_ w23 ⟨rfl, hS_⟩
   refine ⟨_, rfl, ?_⟩
   have hS := hS.call0 hS_
   exact ⟨⟨fun _ => none, fun _ => 0, fun _ => zE, fun _ => 0⟩, rfl, hS.fin [0, 1, 2] (by decide) rfl⟩
  refine ⟨fun g_ w25 fr26 hS => Sv_val rfl (R_loadN (cs := [.int .i64 a0.Row, .int .i64 a0.Col, .int .i64 a0.Rows, .int .i64 a0.Cols]) rfl rfl agg33 size33 rfl (boxcells (hS.bx 1 rfl) 0 rfl)) ⟨gh0, rfl, hS⟩, ?_⟩
  refine ⟨fun g_ w27 fr28 hS => Sv_val rfl (R_loadN (cs := [.int .i64 a1.Row, .int .i64 a1.Col, .int .i64 a1.Rows, .int .i64 a1.Cols]) rfl rfl agg33 size33 rfl (boxcells (hS.bx 0 rfl) 0 rfl)) ⟨gh0, rfl, hS⟩, ?_⟩
  refine ⟨fun g_ w29 fr30 hS => ?_, ?_⟩
  ·have _w29 := trivial
   have hS : Sp (FF []) w z w29 [bR b4 33 [.int .i64 a1.Row, .int .i64 a1.Col, .int .i64 a1.Rows, .int .i64 a1.Cols], bR b2 33 [.int .i64 a0.Row, .int .i64 a0.Col, .int .i64 a0.Rows, .int .i64 a0.Cols], allR fr30] := hS
   refine Sv_call rfl rfl rfl ent28 ?_
   refine (rmeet_calls a0 a1 _ _ hS.out0  ).mono ?_
   rintro e_ w31 ⟨rfl, hS_⟩
   refine ⟨_, rfl, ?_⟩
   have hS := hS.call0 hS_
   exact ⟨⟨fun _ => none, fun _ => 0, fun _ => zE, fun _ => 0⟩, rfl, hS.fin [0, 1, 2] (by decide) rfl⟩
  refine ⟨fun g_ w33 fr34 hS => Sv_val rfl (R_bleql rfl rfl rfl Try.underlying4) ⟨gh0, rfl, hS⟩, ?_⟩
  refine ⟨fun g_ w35 fr36 hS => Sv_val rfl (R_move rfl rfl) ⟨gh0, rfl, hS⟩, ?_⟩
  refine ⟨fun g_ w37 fr38 hS => (Sv_gt rfl rfl rfl hk9 (Sv_val rfl (R_loadN (cs := [.int .i64 a1.Row, .int .i64 a1.Col, .int .i64 a1.Rows, .int .i64 a1.Cols]) rfl rfl agg33 size33 rfl (boxcells (hS.bx 0 rfl) 0 rfl)) ⟨gh0, rfl, hS⟩)), ?_⟩
  refine ⟨fun g_ w39 fr40 hS => (Sv_gt rfl rfl rfl hk9 (Sv_val rfl (R_loadN (cs := [.int .i64 a0.Row, .int .i64 a0.Col, .int .i64 a0.Rows, .int .i64 a0.Cols]) rfl rfl agg33 size33 rfl (boxcells (hS.bx 1 rfl) 0 rfl)) ⟨gh0, rfl, hS⟩)), ?_⟩
  refine ⟨fun g_ w41 fr42 hS => ?_, ?_⟩
  ·have _w41 := trivial
   have hS : Sp (FF []) w z w41 [bR b4 33 [.int .i64 a1.Row, .int .i64 a1.Col, .int .i64 a1.Rows, .int .i64 a1.Cols], bR b2 33 [.int .i64 a0.Row, .int .i64 a0.Col, .int .i64 a0.Rows, .int .i64 a0.Cols], allR fr42] := hS
   refine  (Sv_gt rfl rfl rfl hk9 (Sv_call rfl rfl rfl ent27 ?_))
   refine (meet_calls a1 a0 _ _ hS.out0  ).mono ?_
   rintro e_ w43 ⟨rfl, hS_⟩
   refine ⟨_, rfl, ?_⟩
   have hS := hS.call0 hS_
   exact ⟨⟨fun _ => none, fun _ => 0, fun _ => zE, fun _ => 0⟩, rfl, hS.fin [0, 1, 2] (by decide) rfl⟩
  refine ⟨fun g_ w45 fr46 hS => (Sv_gt rfl rfl rfl hk9 (Sv_val rfl (R_loadN (cs := [.int .i64 a0.Row, .int .i64 a0.Col, .int .i64 a0.Rows, .int .i64 a0.Cols]) rfl rfl agg33 size33 rfl (boxcells (hS.bx 1 rfl) 0 rfl)) ⟨gh0, rfl, hS⟩)), ?_⟩
  refine ⟨fun g_ w47 fr48 hS => (Sv_gt rfl rfl rfl hk9 (Sv_val rfl (R_loadN (cs := [.int .i64 a1.Row, .int .i64 a1.Col, .int .i64 a1.Rows, .int .i64 a1.Cols]) rfl rfl agg33 size33 rfl (boxcells (hS.bx 0 rfl) 0 rfl)) ⟨gh0, rfl, hS⟩)), ?_⟩
  refine ⟨fun g_ w49 fr50 hS => ?_, ?_⟩
  ·have _w49 := trivial
   have hS : Sp (FF []) w z w49 [bR b4 33 [.int .i64 a1.Row, .int .i64 a1.Col, .int .i64 a1.Rows, .int .i64 a1.Cols], bR b2 33 [.int .i64 a0.Row, .int .i64 a0.Col, .int .i64 a0.Rows, .int .i64 a0.Cols], allR fr50] := hS
   refine  (Sv_gt rfl rfl rfl hk9 (Sv_call rfl rfl rfl ent28 ?_))
   refine (rmeet_calls a0 a1 _ _ hS.out0  ).mono ?_
   rintro e_ w51 ⟨rfl, hS_⟩
   refine ⟨_, rfl, ?_⟩
   have hS := hS.call0 hS_
   exact ⟨⟨fun _ => none, fun _ => 0, fun _ => zE, fun _ => 0⟩, rfl, hS.fin [0, 1, 2] (by decide) rfl⟩
  refine ⟨fun g_ w53 fr54 hS => (Sv_gt rfl rfl rfl hk9 (Sv_val rfl (R_bleql rfl rfl rfl Try.underlying4) ⟨gh0, rfl, hS⟩)), ?_⟩
  refine ⟨fun g_ w55 fr56 hS => Sv_val rfl (R_pick_t rfl rfl hk9 rfl) ⟨gh0, rfl, hS⟩, ?_⟩
  refine ⟨fun g_ w57 fr58 hS => Sv_val rfl (R_move rfl rfl) ⟨gh0, rfl, hS⟩, ?_⟩
  refine ⟨fun g_ w59 fr60 hS => ?_, ?_⟩
  ·have _w59 := trivial
   have hS : Sp (FF []) w z w59 [bR b4 33 [.int .i64 a1.Row, .int .i64 a1.Col, .int .i64 a1.Rows, .int .i64 a1.Cols], bR b2 33 [.int .i64 a0.Row, .int .i64 a0.Col, .int .i64 a0.Rows, .int .i64 a0.Cols], allR fr60] := hS
   refine  (Sv_gt rfl rfl rfl hk14 (Sv_call rfl rfl rfl ent29 ?_))
   refine (lawk_calls  _ _ hS.out0  ).mono ?_
   rintro e_ w61 ⟨rfl, hS_⟩
   refine ⟨_, rfl, ?_⟩
   have hS := hS.call0 hS_
   exact ⟨⟨fun _ => none, fun _ => 0, fun _ => zE, fun _ => 0⟩, rfl, hS.fin [0, 1, 2] (by decide) rfl⟩
  refine ⟨fun g_ w63 fr64 hS => Sv_val rfl (R_pick_t rfl rfl hk14 rfl) ⟨gh0, rfl, hS⟩, ?_⟩
  refine ⟨fun g_ w65 fr66 hS => Sv_val rfl (R_assign rfl rfl) ⟨gh0, rfl, hS⟩, ?_⟩
  exact trivial
 ·intro g_ w67 hS
  have hS : Sp (FF []) w z w67 [bR b4 33 [.int .i64 a1.Row, .int .i64 a1.Col, .int .i64 a1.Rows, .int .i64 a1.Cols], bR b2 33 [.int .i64 a0.Row, .int .i64 a0.Col, .int .i64 a0.Rows, .int .i64 a0.Cols]] := hS
  refine An_fr [(2, .pointer (some ⟨b2, 0, none⟩)), (3, .pointer (some ⟨b4, 0, none⟩)), (4, .bool true)] rfl ?_
  refine An_done (by decide +kernel) ?_
  refine E_then ?_
  refine C_ret ?_
  refine E_ret1 rfl rfl ?_
  exact ⟨Lret1 (Lbool (show true = true by rfl)), hS.fin [] (by decide) rfl⟩

end Go.Proofs.YtgjnhmidbapjmaaG
