/- Walks, each function once: what it computes. -/
import Derived.Test.YtgjnhmidbapjmaaU4
set_option linter.all false
namespace Go.Proofs.YtgjnhmidbapjmaaG
open Go Go.RowKit
set_option maxHeartbeats 400000 in
set_option maxRecDepth 20000 in
theorem lawk_calls  (z : Z) (w : World) (hI : In z w [])   :
    Calls Try.prog 29 #[] w fun e w' => e = .returned (.bool true) ∧ Sp (FF []) w z w' [] := by
 have hS := hI.sp
 refine Calls_of (vs := []) (N := 113) Try.func29 rfl rfl (Nat.le_of_ble_eq_true rfl) ?_
 refine C_seq ?_
 refine C_region ?_
 refine W_cons rfl (by decide) (Sv_val rfl (R_assign rfl rfl) ?_)
 refine W_nil ?_
 refine E_then ?_
 refine C_seq ?_
 refine C_region ?_
 refine W_cons rfl (by decide) (Sv_call rfl rfl rfl ent50 ?_)
 refine (small_calls  _ _ hS.out0  ).mono ?_
 rintro e_ w1 ⟨AR0_2_Widths, cR0_2_Widths, AR0_2_Heights, cR0_2_Heights, AR0_2_Cells, cR0_2_Cells, AR0_2_Merges, cR0_2_Merges, rfl, hS_⟩
 refine ⟨_, rfl, ?_⟩
 have hS := hS.call0 hS_
 have hp3 := hS.cap 0 rfl
 have hlhp3 := hp3.le
 have hmhp3 := hp3.mx
 have hp4 := hS.cap 1 rfl
 have hlhp4 := hp4.le
 have hmhp4 := hp4.mx
 have hp5 := hS.cap 2 rfl
 have hlhp5 := hp5.le
 have hmhp5 := hp5.mx
 have hp6 := hS.cap 3 rfl
 have hlhp6 := hp6.le
 have hmhp6 := hp6.mx
 refine W_cons rfl (by decide) (S_box hS rfl (R_alloc rfl alloc39) (fun b8 w7 hS => ?_))
 refine W_cons0 rfl (S_store hS 0 rfl rfl rfl rfl rfl size39 (one_cons rfl (one_cons rfl (one_cons rfl (one_cons rfl (one_cons rfl one_nil))))) (Nat.le_of_ble_eq_true rfl) (fun w9 hS => ?_))
 have hS : Sp (FF []) w z w9 [bR b8 39 [.int .i64 smallS.Right, .slice AR0_2_Widths smallS.Widths.length cR0_2_Widths, .slice AR0_2_Heights smallS.Heights.length cR0_2_Heights, .slice AR0_2_Cells smallS.Cells.length cR0_2_Cells, .slice AR0_2_Merges smallS.Merges.length cR0_2_Merges], oR (kint .i64) 3 zE AR0_2_Widths cR0_2_Widths smallS.Widths, oR (kint .i64) 3 zE AR0_2_Heights cR0_2_Heights smallS.Heights, oR kdTCell 46 zE AR0_2_Cells cR0_2_Cells smallS.Cells, oR kdTRect 33 zE AR0_2_Merges cR0_2_Merges smallS.Merges] := hS
 refine W_nil ?_
 refine E_then ?_
 refine C_seq ?_
 refine C_region ?_
 refine W_cons rfl (by decide) (Sv_val rfl (R_loadN (cs := [.int .i64 smallS.Right, .slice AR0_2_Widths smallS.Widths.length cR0_2_Widths, .slice AR0_2_Heights smallS.Heights.length cR0_2_Heights, .slice AR0_2_Cells smallS.Cells.length cR0_2_Cells, .slice AR0_2_Merges smallS.Merges.length cR0_2_Merges]) rfl rfl agg39 size39 rfl (boxcells (hS.bx 0 rfl) 0 rfl)) ?_)
 refine W_cons rfl (by decide) (Sv_call rfl rfl rfl ent31 ?_)
 refine (region_calls smallS AR0_2_Widths cR0_2_Widths AR0_2_Heights cR0_2_Heights AR0_2_Cells cR0_2_Cells AR0_2_Merges cR0_2_Merges 1 2 _ _ hS.out0 (hS.ow [] 1 rfl rfl (zle_E _)) (hS.cap 1 rfl) (hS.ow [] 2 rfl rfl (zle_E _)) (hS.cap 2 rfl) (hS.ow [] 3 rfl rfl (zle_E _)) (hS.cap 3 rfl) (hS.ow [] 4 rfl rfl (zle_E _)) (hS.cap 4 rfl) ).mono ?_
 rintro e_ w10 ⟨rfl, hS_⟩
 refine ⟨_, rfl, ?_⟩
 have hS := hS.call0 hS_
 refine W_cons rfl (by decide) (Sv_val rfl (R_move rfl rfl) ?_)
 refine W_cons rfl (by decide) (Sv_val rfl (R_extract rfl rfl rfl) ?_)
 refine W_cons rfl (by decide) (Sv_val rfl (R_extract rfl rfl rfl) ?_)
 refine W_cons rfl (by decide) (S_box hS rfl (R_alloc rfl alloc33) (fun b13 w12 hS => ?_))
 refine W_cons0 rfl (S_store hS 0 rfl rfl rfl rfl rfl size33 (one_cons rfl (one_cons rfl (one_cons rfl (one_cons rfl one_nil)))) (Nat.le_of_ble_eq_true rfl) (fun w14 hS => ?_))
 have hS : Sp (FF []) w z w14 [bR b13 33 [.int .i64 (regionS smallS 1 2).1.Row, .int .i64 (regionS smallS 1 2).1.Col, .int .i64 (regionS smallS 1 2).1.Rows, .int .i64 (regionS smallS 1 2).1.Cols], bR b8 39 [.int .i64 smallS.Right, .slice AR0_2_Widths smallS.Widths.length cR0_2_Widths, .slice AR0_2_Heights smallS.Heights.length cR0_2_Heights, .slice AR0_2_Cells smallS.Cells.length cR0_2_Cells, .slice AR0_2_Merges smallS.Merges.length cR0_2_Merges], oR (kint .i64) 3 zE AR0_2_Widths cR0_2_Widths smallS.Widths, oR (kint .i64) 3 zE AR0_2_Heights cR0_2_Heights smallS.Heights, oR kdTCell 46 zE AR0_2_Cells cR0_2_Cells smallS.Cells, oR kdTRect 33 zE AR0_2_Merges cR0_2_Merges smallS.Merges] := hS
 refine W_cons rfl (by decide) (Sv_val rfl (R_assign rfl rfl) ?_)
 refine W_nil ?_
 refine E_then (C_fr [(1, .pointer (some ⟨b8, 0, none⟩)), (2, .pointer (some ⟨b13, 0, none⟩)), (3, .int .i64 (regionS smallS 1 2).2)] rfl ?_)
 refine C_seq ?_
 refine C_region ?_
 refine W_cons rfl (by decide) (Sv_val rfl (R_loadN (cs := [.int .i64 smallS.Right, .slice AR0_2_Widths smallS.Widths.length cR0_2_Widths, .slice AR0_2_Heights smallS.Heights.length cR0_2_Heights, .slice AR0_2_Cells smallS.Cells.length cR0_2_Cells, .slice AR0_2_Merges smallS.Merges.length cR0_2_Merges]) rfl rfl agg39 size39 rfl (boxcells (hS.bx 1 rfl) 0 rfl)) ?_)
 refine W_cons rfl (by decide) (Sv_call rfl rfl rfl ent31 ?_)
 refine (region_calls smallS AR0_2_Widths cR0_2_Widths AR0_2_Heights cR0_2_Heights AR0_2_Cells cR0_2_Cells AR0_2_Merges cR0_2_Merges 0 0 _ _ hS.out0 (hS.ow [] 2 rfl rfl (zle_E _)) (hS.cap 2 rfl) (hS.ow [] 3 rfl rfl (zle_E _)) (hS.cap 3 rfl) (hS.ow [] 4 rfl rfl (zle_E _)) (hS.cap 4 rfl) (hS.ow [] 5 rfl rfl (zle_E _)) (hS.cap 5 rfl) ).mono ?_
 rintro e_ w15 ⟨rfl, hS_⟩
 refine ⟨_, rfl, ?_⟩
 have hS := hS.call0 hS_
 refine W_cons rfl (by decide) (Sv_val rfl (R_move rfl rfl) ?_)
 refine W_cons rfl (by decide) (Sv_val rfl (R_extract rfl rfl rfl) ?_)
 refine W_cons rfl (by decide) (Sv_val rfl (R_extract rfl rfl rfl) ?_)
 refine W_cons rfl (by decide) (S_box hS rfl (R_alloc rfl alloc33) (fun b18 w17 hS => ?_))
 refine W_cons0 rfl (S_store hS 0 rfl rfl rfl rfl rfl size33 (one_cons rfl (one_cons rfl (one_cons rfl (one_cons rfl one_nil)))) (Nat.le_of_ble_eq_true rfl) (fun w19 hS => ?_))
 have hS : Sp (FF []) w z w19 [bR b18 33 [.int .i64 (regionS smallS 0 0).1.Row, .int .i64 (regionS smallS 0 0).1.Col, .int .i64 (regionS smallS 0 0).1.Rows, .int .i64 (regionS smallS 0 0).1.Cols], bR b13 33 [.int .i64 (regionS smallS 1 2).1.Row, .int .i64 (regionS smallS 1 2).1.Col, .int .i64 (regionS smallS 1 2).1.Rows, .int .i64 (regionS smallS 1 2).1.Cols], bR b8 39 [.int .i64 smallS.Right, .slice AR0_2_Widths smallS.Widths.length cR0_2_Widths, .slice AR0_2_Heights smallS.Heights.length cR0_2_Heights, .slice AR0_2_Cells smallS.Cells.length cR0_2_Cells, .slice AR0_2_Merges smallS.Merges.length cR0_2_Merges], oR (kint .i64) 3 zE AR0_2_Widths cR0_2_Widths smallS.Widths, oR (kint .i64) 3 zE AR0_2_Heights cR0_2_Heights smallS.Heights, oR kdTCell 46 zE AR0_2_Cells cR0_2_Cells smallS.Cells, oR kdTRect 33 zE AR0_2_Merges cR0_2_Merges smallS.Merges] := hS
 refine W_cons rfl (by decide) (Sv_val rfl (R_assign rfl rfl) ?_)
 refine W_nil ?_
 refine E_then (C_fr [(1, .pointer (some ⟨b8, 0, none⟩)), (2, .pointer (some ⟨b13, 0, none⟩)), (3, .int .i64 (regionS smallS 1 2).2), (4, .pointer (some ⟨b18, 0, none⟩)), (5, .int .i64 (regionS smallS 0 0).2)] rfl ?_)
 refine C_seq ?_
 refine C_region ?_
 refine W_cons rfl (by decide) (Sv_val rfl (R_loadN (cs := [.int .i64 smallS.Right, .slice AR0_2_Widths smallS.Widths.length cR0_2_Widths, .slice AR0_2_Heights smallS.Heights.length cR0_2_Heights, .slice AR0_2_Cells smallS.Cells.length cR0_2_Cells, .slice AR0_2_Merges smallS.Merges.length cR0_2_Merges]) rfl rfl agg39 size39 rfl (boxcells (hS.bx 2 rfl) 0 rfl)) ?_)
 refine W_cons rfl (by decide) (Sv_call rfl rfl rfl ent31 ?_)
 refine (region_calls smallS AR0_2_Widths cR0_2_Widths AR0_2_Heights cR0_2_Heights AR0_2_Cells cR0_2_Cells AR0_2_Merges cR0_2_Merges 2 0 _ _ hS.out0 (hS.ow [] 3 rfl rfl (zle_E _)) (hS.cap 3 rfl) (hS.ow [] 4 rfl rfl (zle_E _)) (hS.cap 4 rfl) (hS.ow [] 5 rfl rfl (zle_E _)) (hS.cap 5 rfl) (hS.ow [] 6 rfl rfl (zle_E _)) (hS.cap 6 rfl) ).mono ?_
 rintro e_ w20 ⟨rfl, hS_⟩
 refine ⟨_, rfl, ?_⟩
 have hS := hS.call0 hS_
 refine W_cons rfl (by decide) (Sv_val rfl (R_move rfl rfl) ?_)
 refine W_cons rfl (by decide) (Sv_val rfl (R_extract rfl rfl rfl) ?_)
 refine W_cons rfl (by decide) (Sv_val rfl (R_extract rfl rfl rfl) ?_)
 refine W_cons rfl (by decide) (S_box hS rfl (R_alloc rfl alloc33) (fun b23 w22 hS => ?_))
 refine W_cons0 rfl (S_store hS 0 rfl rfl rfl rfl rfl size33 (one_cons rfl (one_cons rfl (one_cons rfl (one_cons rfl one_nil)))) (Nat.le_of_ble_eq_true rfl) (fun w24 hS => ?_))
 have hS : Sp (FF []) w z w24 [bR b23 33 [.int .i64 (regionS smallS 2 0).1.Row, .int .i64 (regionS smallS 2 0).1.Col, .int .i64 (regionS smallS 2 0).1.Rows, .int .i64 (regionS smallS 2 0).1.Cols], bR b18 33 [.int .i64 (regionS smallS 0 0).1.Row, .int .i64 (regionS smallS 0 0).1.Col, .int .i64 (regionS smallS 0 0).1.Rows, .int .i64 (regionS smallS 0 0).1.Cols], bR b13 33 [.int .i64 (regionS smallS 1 2).1.Row, .int .i64 (regionS smallS 1 2).1.Col, .int .i64 (regionS smallS 1 2).1.Rows, .int .i64 (regionS smallS 1 2).1.Cols], bR b8 39 [.int .i64 smallS.Right, .slice AR0_2_Widths smallS.Widths.length cR0_2_Widths, .slice AR0_2_Heights smallS.Heights.length cR0_2_Heights, .slice AR0_2_Cells smallS.Cells.length cR0_2_Cells, .slice AR0_2_Merges smallS.Merges.length cR0_2_Merges], oR (kint .i64) 3 zE AR0_2_Widths cR0_2_Widths smallS.Widths, oR (kint .i64) 3 zE AR0_2_Heights cR0_2_Heights smallS.Heights, oR kdTCell 46 zE AR0_2_Cells cR0_2_Cells smallS.Cells, oR kdTRect 33 zE AR0_2_Merges cR0_2_Merges smallS.Merges] := hS
 refine W_cons rfl (by decide) (Sv_val rfl (R_assign rfl rfl) ?_)
 refine W_nil ?_
 refine E_then (C_fr [(1, .pointer (some ⟨b8, 0, none⟩)), (2, .pointer (some ⟨b13, 0, none⟩)), (3, .int .i64 (regionS smallS 1 2).2), (4, .pointer (some ⟨b18, 0, none⟩)), (5, .int .i64 (regionS smallS 0 0).2), (7, .int .i64 (regionS smallS 2 0).2)] rfl ?_)
 refine C_seq ?_
 refine C_region ?_
 refine W_cons rfl (by decide) (Sv_val rfl (R_loadN (cs := [.int .i64 smallS.Right, .slice AR0_2_Widths smallS.Widths.length cR0_2_Widths, .slice AR0_2_Heights smallS.Heights.length cR0_2_Heights, .slice AR0_2_Cells smallS.Cells.length cR0_2_Cells, .slice AR0_2_Merges smallS.Merges.length cR0_2_Merges]) rfl rfl agg39 size39 rfl (boxcells (hS.bx 3 rfl) 0 rfl)) ?_)
 refine W_cons rfl (by decide) (Sv_call rfl rfl rfl ent33 ?_)
 refine (get_calls smallS AR0_2_Widths cR0_2_Widths AR0_2_Heights cR0_2_Heights AR0_2_Cells cR0_2_Cells AR0_2_Merges cR0_2_Merges 0 0 _ _ hS.out0 (hS.ow [] 4 rfl rfl (zle_E _)) (hS.cap 4 rfl) (hS.ow [] 5 rfl rfl (zle_E _)) (hS.cap 5 rfl) (hS.ow [] 6 rfl rfl (zle_E _)) (hS.cap 6 rfl) (hS.ow [] 7 rfl rfl (zle_E _)) (hS.cap 7 rfl) ).mono ?_
 rintro e_ w25 ⟨rfl, hS_⟩
 refine ⟨_, rfl, ?_⟩
 have hS := hS.call0 hS_
 refine W_cons rfl (by decide) (Sv_val rfl (R_move rfl rfl) ?_)
 refine W_cons rfl (by decide) (Sv_val rfl (R_extract rfl rfl rfl) ?_)
 refine W_cons rfl (by decide) (Sv_val rfl (R_extract rfl rfl rfl) ?_)
 refine W_cons rfl (by decide) (S_box hS rfl (R_alloc rfl alloc46) (fun b28 w27 hS => ?_))
 refine W_cons0 rfl (S_store hS 0 rfl rfl rfl rfl rfl size46 (one_cons rfl (one_cons rfl (one_cons rfl (one_cons rfl (one_cons rfl (one_cons rfl one_nil)))))) (Nat.le_of_ble_eq_true rfl) (fun w29 hS => ?_))
 have hS : Sp (FF []) w z w29 [bR b28 46 [.int .i64 (getS smallS 0 0).1.Row, .int .i64 (getS smallS 0 0).1.Col, vstr (getS smallS 0 0).1.Text, .int .i64 (getS smallS 0 0).1.Style.Align, .int .i64 (getS smallS 0 0).1.Style.Wrap, .int .i64 (getS smallS 0 0).1.Style.Dir], bR b23 33 [.int .i64 (regionS smallS 2 0).1.Row, .int .i64 (regionS smallS 2 0).1.Col, .int .i64 (regionS smallS 2 0).1.Rows, .int .i64 (regionS smallS 2 0).1.Cols], bR b18 33 [.int .i64 (regionS smallS 0 0).1.Row, .int .i64 (regionS smallS 0 0).1.Col, .int .i64 (regionS smallS 0 0).1.Rows, .int .i64 (regionS smallS 0 0).1.Cols], bR b13 33 [.int .i64 (regionS smallS 1 2).1.Row, .int .i64 (regionS smallS 1 2).1.Col, .int .i64 (regionS smallS 1 2).1.Rows, .int .i64 (regionS smallS 1 2).1.Cols], bR b8 39 [.int .i64 smallS.Right, .slice AR0_2_Widths smallS.Widths.length cR0_2_Widths, .slice AR0_2_Heights smallS.Heights.length cR0_2_Heights, .slice AR0_2_Cells smallS.Cells.length cR0_2_Cells, .slice AR0_2_Merges smallS.Merges.length cR0_2_Merges], oR (kint .i64) 3 zE AR0_2_Widths cR0_2_Widths smallS.Widths, oR (kint .i64) 3 zE AR0_2_Heights cR0_2_Heights smallS.Heights, oR kdTCell 46 zE AR0_2_Cells cR0_2_Cells smallS.Cells, oR kdTRect 33 zE AR0_2_Merges cR0_2_Merges smallS.Merges] := hS
 refine W_cons rfl (by decide) (Sv_val rfl (R_assign rfl rfl) ?_)
 refine W_nil ?_
 refine E_then (C_fr [(1, .pointer (some ⟨b8, 0, none⟩)), (2, .pointer (some ⟨b13, 0, none⟩)), (3, .int .i64 (regionS smallS 1 2).2), (4, .pointer (some ⟨b18, 0, none⟩)), (5, .int .i64 (regionS smallS 0 0).2), (7, .int .i64 (regionS smallS 2 0).2), (8, .pointer (some ⟨b28, 0, none⟩)), (9, .int .i64 (getS smallS 0 0).2)] rfl ?_)
 refine C_seq ?_
 refine C_region ?_
 refine W_cons rfl (by decide) (Sv_val rfl (R_loadN (cs := [.int .i64 smallS.Right, .slice AR0_2_Widths smallS.Widths.length cR0_2_Widths, .slice AR0_2_Heights smallS.Heights.length cR0_2_Heights, .slice AR0_2_Cells smallS.Cells.length cR0_2_Cells, .slice AR0_2_Merges smallS.Merges.length cR0_2_Merges]) rfl rfl agg39 size39 rfl (boxcells (hS.bx 4 rfl) 0 rfl)) ?_)
 refine W_cons rfl (by decide) (Sv_call rfl rfl rfl ent33 ?_)
 refine (get_calls smallS AR0_2_Widths cR0_2_Widths AR0_2_Heights cR0_2_Heights AR0_2_Cells cR0_2_Cells AR0_2_Merges cR0_2_Merges 1 2 _ _ hS.out0 (hS.ow [] 5 rfl rfl (zle_E _)) (hS.cap 5 rfl) (hS.ow [] 6 rfl rfl (zle_E _)) (hS.cap 6 rfl) (hS.ow [] 7 rfl rfl (zle_E _)) (hS.cap 7 rfl) (hS.ow [] 8 rfl rfl (zle_E _)) (hS.cap 8 rfl) ).mono ?_
 rintro e_ w30 ⟨rfl, hS_⟩
 refine ⟨_, rfl, ?_⟩
 have hS := hS.call0 hS_
 refine W_cons rfl (by decide) (Sv_val rfl (R_move rfl rfl) ?_)
 refine W_cons rfl (by decide) (Sv_val rfl (R_extract rfl rfl rfl) ?_)
 refine W_cons rfl (by decide) (Sv_val rfl (R_extract rfl rfl rfl) ?_)
 refine W_cons rfl (by decide) (S_box hS rfl (R_alloc rfl alloc46) (fun b33 w32 hS => ?_))
 refine W_cons0 rfl (S_store hS 0 rfl rfl rfl rfl rfl size46 (one_cons rfl (one_cons rfl (one_cons rfl (one_cons rfl (one_cons rfl (one_cons rfl one_nil)))))) (Nat.le_of_ble_eq_true rfl) (fun w34 hS => ?_))
 have hS : Sp (FF []) w z w34 [bR b33 46 [.int .i64 (getS smallS 1 2).1.Row, .int .i64 (getS smallS 1 2).1.Col, vstr (getS smallS 1 2).1.Text, .int .i64 (getS smallS 1 2).1.Style.Align, .int .i64 (getS smallS 1 2).1.Style.Wrap, .int .i64 (getS smallS 1 2).1.Style.Dir], bR b28 46 [.int .i64 (getS smallS 0 0).1.Row, .int .i64 (getS smallS 0 0).1.Col, vstr (getS smallS 0 0).1.Text, .int .i64 (getS smallS 0 0).1.Style.Align, .int .i64 (getS smallS 0 0).1.Style.Wrap, .int .i64 (getS smallS 0 0).1.Style.Dir], bR b23 33 [.int .i64 (regionS smallS 2 0).1.Row, .int .i64 (regionS smallS 2 0).1.Col, .int .i64 (regionS smallS 2 0).1.Rows, .int .i64 (regionS smallS 2 0).1.Cols], bR b18 33 [.int .i64 (regionS smallS 0 0).1.Row, .int .i64 (regionS smallS 0 0).1.Col, .int .i64 (regionS smallS 0 0).1.Rows, .int .i64 (regionS smallS 0 0).1.Cols], bR b13 33 [.int .i64 (regionS smallS 1 2).1.Row, .int .i64 (regionS smallS 1 2).1.Col, .int .i64 (regionS smallS 1 2).1.Rows, .int .i64 (regionS smallS 1 2).1.Cols], bR b8 39 [.int .i64 smallS.Right, .slice AR0_2_Widths smallS.Widths.length cR0_2_Widths, .slice AR0_2_Heights smallS.Heights.length cR0_2_Heights, .slice AR0_2_Cells smallS.Cells.length cR0_2_Cells, .slice AR0_2_Merges smallS.Merges.length cR0_2_Merges], oR (kint .i64) 3 zE AR0_2_Widths cR0_2_Widths smallS.Widths, oR (kint .i64) 3 zE AR0_2_Heights cR0_2_Heights smallS.Heights, oR kdTCell 46 zE AR0_2_Cells cR0_2_Cells smallS.Cells, oR kdTRect 33 zE AR0_2_Merges cR0_2_Merges smallS.Merges] := hS
 refine W_cons rfl (by decide) (Sv_val rfl (R_assign rfl rfl) ?_)
 refine W_nil ?_
 refine E_then (C_fr [(1, .pointer (some ⟨b8, 0, none⟩)), (2, .pointer (some ⟨b13, 0, none⟩)), (3, .int .i64 (regionS smallS 1 2).2), (4, .pointer (some ⟨b18, 0, none⟩)), (5, .int .i64 (regionS smallS 0 0).2), (7, .int .i64 (regionS smallS 2 0).2), (8, .pointer (some ⟨b28, 0, none⟩)), (9, .int .i64 (getS smallS 0 0).2), (10, .pointer (some ⟨b33, 0, none⟩)), (11, .int .i64 (getS smallS 1 2).2)] rfl ?_)
 refine C_seq ?_
 refine C_region ?_
 refine W_cons rfl (by decide) (Sv_call rfl rfl rfl ent50 ?_)
 refine (small_calls  _ _ hS.out0  ).mono ?_
 rintro e_ w35 ⟨AR0_36_Widths, cR0_36_Widths, AR0_36_Heights, cR0_36_Heights, AR0_36_Cells, cR0_36_Cells, AR0_36_Merges, cR0_36_Merges, rfl, hS_⟩
 refine ⟨_, rfl, ?_⟩
 have hS := hS.call0 hS_
 have hp37 := hS.cap 0 rfl
 have hlhp37 := hp37.le
 have hmhp37 := hp37.mx
 have hp38 := hS.cap 1 rfl
 have hlhp38 := hp38.le
 have hmhp38 := hp38.mx
 have hp39 := hS.cap 2 rfl
 have hlhp39 := hp39.le
 have hmhp39 := hp39.mx
 have hp40 := hS.cap 3 rfl
 have hlhp40 := hp40.le
 have hmhp40 := hp40.mx
 refine W_cons rfl (by decide) (Sv_call rfl rfl rfl ent50 ?_)
 refine (small_calls  _ _ hS.out0  ).mono ?_
 rintro e_ w41 ⟨AR0_42_Widths, cR0_42_Widths, AR0_42_Heights, cR0_42_Heights, AR0_42_Cells, cR0_42_Cells, AR0_42_Merges, cR0_42_Merges, rfl, hS_⟩
 refine ⟨_, rfl, ?_⟩
 have hS := hS.call0 hS_
 have hp43 := hS.cap 0 rfl
 have hlhp43 := hp43.le
 have hmhp43 := hp43.mx
 have hp44 := hS.cap 1 rfl
 have hlhp44 := hp44.le
 have hmhp44 := hp44.mx
 have hp45 := hS.cap 2 rfl
 have hlhp45 := hp45.le
 have hmhp45 := hp45.mx
 have hp46 := hS.cap 3 rfl
 have hlhp46 := hp46.le
 have hmhp46 := hp46.mx
 refine W_cons rfl (by decide) (S_box hS rfl (R_alloc rfl alloc39) (fun b48 w47 hS => ?_))
 refine W_cons rfl (by decide) (S_box hS rfl (R_alloc rfl alloc39) (fun b50 w49 hS => ?_))
 refine W_cons0 rfl (S_store hS 1 rfl rfl rfl rfl rfl size39 (one_cons rfl (one_cons rfl (one_cons rfl (one_cons rfl (one_cons rfl one_nil))))) (Nat.le_of_ble_eq_true rfl) (fun w51 hS => ?_))
 have hS : Sp (FF []) w z w51 [bR b50 39 [.int .i64 0, .slice none 0 0, .slice none 0 0, .slice none 0 0, .slice none 0 0], bR b48 39 [.int .i64 smallS.Right, .slice AR0_36_Widths smallS.Widths.length cR0_36_Widths, .slice AR0_36_Heights smallS.Heights.length cR0_36_Heights, .slice AR0_36_Cells smallS.Cells.length cR0_36_Cells, .slice AR0_36_Merges smallS.Merges.length cR0_36_Merges], oR (kint .i64) 3 zE AR0_42_Widths cR0_42_Widths smallS.Widths, oR (kint .i64) 3 zE AR0_42_Heights cR0_42_Heights smallS.Heights, oR kdTCell 46 zE AR0_42_Cells cR0_42_Cells smallS.Cells, oR kdTRect 33 zE AR0_42_Merges cR0_42_Merges smallS.Merges, oR (kint .i64) 3 zE AR0_36_Widths cR0_36_Widths smallS.Widths, oR (kint .i64) 3 zE AR0_36_Heights cR0_36_Heights smallS.Heights, oR kdTCell 46 zE AR0_36_Cells cR0_36_Cells smallS.Cells, oR kdTRect 33 zE AR0_36_Merges cR0_36_Merges smallS.Merges, bR b33 46 [.int .i64 (getS smallS 1 2).1.Row, .int .i64 (getS smallS 1 2).1.Col, vstr (getS smallS 1 2).1.Text, .int .i64 (getS smallS 1 2).1.Style.Align, .int .i64 (getS smallS 1 2).1.Style.Wrap, .int .i64 (getS smallS 1 2).1.Style.Dir], bR b28 46 [.int .i64 (getS smallS 0 0).1.Row, .int .i64 (getS smallS 0 0).1.Col, vstr (getS smallS 0 0).1.Text, .int .i64 (getS smallS 0 0).1.Style.Align, .int .i64 (getS smallS 0 0).1.Style.Wrap, .int .i64 (getS smallS 0 0).1.Style.Dir], bR b23 33 [.int .i64 (regionS smallS 2 0).1.Row, .int .i64 (regionS smallS 2 0).1.Col, .int .i64 (regionS smallS 2 0).1.Rows, .int .i64 (regionS smallS 2 0).1.Cols], bR b18 33 [.int .i64 (regionS smallS 0 0).1.Row, .int .i64 (regionS smallS 0 0).1.Col, .int .i64 (regionS smallS 0 0).1.Rows, .int .i64 (regionS smallS 0 0).1.Cols], bR b13 33 [.int .i64 (regionS smallS 1 2).1.Row, .int .i64 (regionS smallS 1 2).1.Col, .int .i64 (regionS smallS 1 2).1.Rows, .int .i64 (regionS smallS 1 2).1.Cols], bR b8 39 [.int .i64 smallS.Right, .slice AR0_2_Widths smallS.Widths.length cR0_2_Widths, .slice AR0_2_Heights smallS.Heights.length cR0_2_Heights, .slice AR0_2_Cells smallS.Cells.length cR0_2_Cells, .slice AR0_2_Merges smallS.Merges.length cR0_2_Merges], oR (kint .i64) 3 zE AR0_2_Widths cR0_2_Widths smallS.Widths, oR (kint .i64) 3 zE AR0_2_Heights cR0_2_Heights smallS.Heights, oR kdTCell 46 zE AR0_2_Cells cR0_2_Cells smallS.Cells, oR kdTRect 33 zE AR0_2_Merges cR0_2_Merges smallS.Merges] := hS
 refine W_cons0 rfl (S_store hS 0 rfl rfl rfl rfl rfl size39 (one_cons rfl (one_cons rfl (one_cons rfl (one_cons rfl (one_cons rfl one_nil))))) (Nat.le_of_ble_eq_true rfl) (fun w52 hS => ?_))
 have hS : Sp (FF []) w z w52 [bR b50 39 [.int .i64 smallS.Right, .slice AR0_42_Widths smallS.Widths.length cR0_42_Widths, .slice AR0_42_Heights smallS.Heights.length cR0_42_Heights, .slice AR0_42_Cells smallS.Cells.length cR0_42_Cells, .slice AR0_42_Merges smallS.Merges.length cR0_42_Merges], bR b48 39 [.int .i64 smallS.Right, .slice AR0_36_Widths smallS.Widths.length cR0_36_Widths, .slice AR0_36_Heights smallS.Heights.length cR0_36_Heights, .slice AR0_36_Cells smallS.Cells.length cR0_36_Cells, .slice AR0_36_Merges smallS.Merges.length cR0_36_Merges], oR (kint .i64) 3 zE AR0_42_Widths cR0_42_Widths smallS.Widths, oR (kint .i64) 3 zE AR0_42_Heights cR0_42_Heights smallS.Heights, oR kdTCell 46 zE AR0_42_Cells cR0_42_Cells smallS.Cells, oR kdTRect 33 zE AR0_42_Merges cR0_42_Merges smallS.Merges, oR (kint .i64) 3 zE AR0_36_Widths cR0_36_Widths smallS.Widths, oR (kint .i64) 3 zE AR0_36_Heights cR0_36_Heights smallS.Heights, oR kdTCell 46 zE AR0_36_Cells cR0_36_Cells smallS.Cells, oR kdTRect 33 zE AR0_36_Merges cR0_36_Merges smallS.Merges, bR b33 46 [.int .i64 (getS smallS 1 2).1.Row, .int .i64 (getS smallS 1 2).1.Col, vstr (getS smallS 1 2).1.Text, .int .i64 (getS smallS 1 2).1.Style.Align, .int .i64 (getS smallS 1 2).1.Style.Wrap, .int .i64 (getS smallS 1 2).1.Style.Dir], bR b28 46 [.int .i64 (getS smallS 0 0).1.Row, .int .i64 (getS smallS 0 0).1.Col, vstr (getS smallS 0 0).1.Text, .int .i64 (getS smallS 0 0).1.Style.Align, .int .i64 (getS smallS 0 0).1.Style.Wrap, .int .i64 (getS smallS 0 0).1.Style.Dir], bR b23 33 [.int .i64 (regionS smallS 2 0).1.Row, .int .i64 (regionS smallS 2 0).1.Col, .int .i64 (regionS smallS 2 0).1.Rows, .int .i64 (regionS smallS 2 0).1.Cols], bR b18 33 [.int .i64 (regionS smallS 0 0).1.Row, .int .i64 (regionS smallS 0 0).1.Col, .int .i64 (regionS smallS 0 0).1.Rows, .int .i64 (regionS smallS 0 0).1.Cols], bR b13 33 [.int .i64 (regionS smallS 1 2).1.Row, .int .i64 (regionS smallS 1 2).1.Col, .int .i64 (regionS smallS 1 2).1.Rows, .int .i64 (regionS smallS 1 2).1.Cols], bR b8 39 [.int .i64 smallS.Right, .slice AR0_2_Widths smallS.Widths.length cR0_2_Widths, .slice AR0_2_Heights smallS.Heights.length cR0_2_Heights, .slice AR0_2_Cells smallS.Cells.length cR0_2_Cells, .slice AR0_2_Merges smallS.Merges.length cR0_2_Merges], oR (kint .i64) 3 zE AR0_2_Widths cR0_2_Widths smallS.Widths, oR (kint .i64) 3 zE AR0_2_Heights cR0_2_Heights smallS.Heights, oR kdTCell 46 zE AR0_2_Cells cR0_2_Cells smallS.Cells, oR kdTRect 33 zE AR0_2_Merges cR0_2_Merges smallS.Merges] := hS
 refine W_nil ?_
 refine E_then ?_
 refine C_seq ?_
 refine C_region ?_
 refine W_cons rfl (by decide) (Sv_val rfl (R_fld rfl rfl fld39_3) ?_)
 refine W_cons rfl (by decide) (Sv_val rfl (R_load1 rfl rfl agg36 ((hS.bx 1 rfl).cell rfl)) ?_)
 refine W_cons rfl (by decide) (Sv_val rfl (R_build (w' := w52) (ps := [(0, (.const (.int .i64 1))), (1, (.const (.int .i64 2))), (2, (.const (.string { data := #[98] })))]) (vs := [.int .i64 1, .int .i64 2, vstr [98]]) (r := .agg #[.int .i64 1, .int .i64 2, vstr [98], .int .i64 0, .int .i64 0, .int .i64 0]) rfl rfl rfl (by kernel_rfl)) ?_)
 refine W_cons rfl (by decide) (S_row (d := kdTCell) (q := zE) hS ([(⟨1, 2, [98], (⟨0, 0, 0⟩ : TStyle)⟩ : TCell)] : List TCell) rfl (R_buildSlice (ps := [(0, (.tmp 44))]) (vs := [.agg #[.int .i64 1, .int .i64 2, vstr [98], .int .i64 0, .int .i64 0, .int .i64 0]]) (w' := w52.alloc (.cells [.int .i64 1, .int .i64 2, vstr [98], .int .i64 0, .int .i64 0, .int .i64 0].toArray 46)) (r := .slice (some ⟨w52.heap.size, 0, none⟩) 1 1) rfl rfl rfl (by kernel_rfl)) (by simp [Reps, flat, kdTCell]) rfl (by decide) (fun g54 w53 hS => ?_))
 refine W_cons rfl (by decide) (S_append hS 9 rfl rfl rfl elem36 rfl rfl (hS.sow 0 rfl (fun _ _ h => h)) (by first | decide +kernel | omega) (by first | decide +kernel | omega) (fun Ar56 cr56 w55 hS => ?_))
 have hp57 := hS.cap 9 rfl
 have hlhp57 := hp57.le
 have hmhp57 := hp57.mx
 refine W_cons rfl (by decide) (Sv_val rfl (R_fld rfl rfl fld39_3) ?_)
 refine W_cons0 rfl (S_store hS 2 rfl rfl rfl rfl rfl size36 (one1 rfl) (Nat.le_of_ble_eq_true rfl) (fun w58 hS => ?_))
 refine W_nil ?_
 refine E_then (C_fr [(1, .pointer (some ⟨b8, 0, none⟩)), (2, .pointer (some ⟨b13, 0, none⟩)), (3, .int .i64 (regionS smallS 1 2).2), (4, .pointer (some ⟨b18, 0, none⟩)), (5, .int .i64 (regionS smallS 0 0).2), (7, .int .i64 (regionS smallS 2 0).2), (8, .pointer (some ⟨b28, 0, none⟩)), (9, .int .i64 (getS smallS 0 0).2), (10, .pointer (some ⟨b33, 0, none⟩)), (11, .int .i64 (getS smallS 1 2).2), (12, .pointer (some ⟨b48, 0, none⟩)), (13, .pointer (some ⟨b50, 0, none⟩))] rfl ?_)
 refine C_seq ?_
 refine C_region ?_
 refine W_cons rfl (by decide) (Sv_val rfl (R_build (w' := w58) (ps := [(1, (.const (.int .i64 1))), (2, (.const (.int .i64 2))), (3, (.const (.int .i64 1)))]) (vs := [.int .i64 1, .int .i64 2, .int .i64 1]) (r := .agg #[.int .i64 0, .int .i64 1, .int .i64 2, .int .i64 1]) rfl rfl rfl (by kernel_rfl)) ?_)
 refine W_cons rfl (by decide) (S_row (d := kdTRect) (q := zE) hS ([(⟨0, 1, 2, 1⟩ : TRect)] : List TRect) rfl (R_buildSlice (ps := [(0, (.tmp 48))]) (vs := [.agg #[.int .i64 0, .int .i64 1, .int .i64 2, .int .i64 1]]) (w' := w58.alloc (.cells [.int .i64 0, .int .i64 1, .int .i64 2, .int .i64 1].toArray 33)) (r := .slice (some ⟨w58.heap.size, 0, none⟩) 1 1) rfl rfl rfl (by kernel_rfl)) (by simp [Reps, flat, kdTRect]) rfl (by decide) (fun g60 w59 hS => ?_))
 refine W_cons rfl (by decide) (Sv_val rfl (R_fld rfl rfl fld39_4) ?_)
 refine W_cons rfl (by decide) (Sv_val rfl (R_load1 rfl rfl agg37 ((hS.bx 2 rfl).cell rfl)) ?_)
 refine W_cons rfl (by decide) (S_append hS 0 rfl rfl rfl elem37 rfl rfl (hS.sow 7 rfl (fun _ _ h => h)) (by first | decide +kernel | omega) (by first | decide +kernel | omega) (fun Ar62 cr62 w61 hS => ?_))
 have hp63 := hS.cap 0 rfl
 have hlhp63 := hp63.le
 have hmhp63 := hp63.mx
 refine W_cons rfl (by decide) (Sv_val rfl (R_fld rfl rfl fld39_4) ?_)
 refine W_cons0 rfl (S_store hS 2 rfl rfl rfl rfl rfl size37 (one1 rfl) (Nat.le_of_ble_eq_true rfl) (fun w64 hS => ?_))
 refine W_nil ?_
 refine E_then (C_fr [(1, .pointer (some ⟨b8, 0, none⟩)), (2, .pointer (some ⟨b13, 0, none⟩)), (3, .int .i64 (regionS smallS 1 2).2), (4, .pointer (some ⟨b18, 0, none⟩)), (5, .int .i64 (regionS smallS 0 0).2), (7, .int .i64 (regionS smallS 2 0).2), (8, .pointer (some ⟨b28, 0, none⟩)), (9, .int .i64 (getS smallS 0 0).2), (10, .pointer (some ⟨b33, 0, none⟩)), (11, .int .i64 (getS smallS 1 2).2), (12, .pointer (some ⟨b48, 0, none⟩)), (13, .pointer (some ⟨b50, 0, none⟩))] rfl ?_)
 refine C_seq ?_
 refine C_region ?_
 refine W_cons rfl (by decide) (Sv_val rfl (R_loadN (cs := [.int .i64 (regionS smallS 1 2).1.Row, .int .i64 (regionS smallS 1 2).1.Col, .int .i64 (regionS smallS 1 2).1.Rows, .int .i64 (regionS smallS 1 2).1.Cols]) rfl rfl agg33 size33 rfl (boxcells (hS.bx 16 rfl) 0 rfl)) ?_)
 refine W_cons rfl (by decide) (Sv_val rfl (R_build (w' := w64) (ps := [(0, (.const (.int .i64 1))), (1, (.const (.int .i64 1))), (2, (.const (.int .i64 1))), (3, (.const (.int .i64 2)))]) (vs := [.int .i64 1, .int .i64 1, .int .i64 1, .int .i64 2]) (r := .agg #[.int .i64 1, .int .i64 1, .int .i64 1, .int .i64 2]) rfl rfl rfl (by kernel_rfl)) ?_)
 refine W_cons rfl (by decide) (Sv_val rfl (R_eqv rfl rfl rfl eqg33 ((eqv33 (regionS smallS 1 2).1 (⟨1, 1, 1, 2⟩ : TRect)).up 2)) ?_)
 refine W_cons rfl (by decide) (Sv_val rfl (R_move rfl rfl) ?_)
 have hk65 : (decide ((regionS smallS 1 2).1 = (⟨1, 1, 1, 2⟩ : TRect))) = true := by decide +kernel
 have hk65p : (regionS smallS 1 2).1 = (⟨1, 1, 1, 2⟩ : TRect) := by simpa using hk65
 refine W_cons rfl (by decide) (Sv_gt rfl rfl rfl hk65 (Sv_val rfl (R_move rfl rfl) ?_))
 refine W_cons rfl (by decide) (Sv_gt rfl rfl rfl hk65 (Sv_val rfl (R_bin rfl rfl rfl rfl rfl) ?_))
 refine W_cons rfl (by decide) (Sv_val rfl (R_pick_t rfl rfl hk65 rfl) ?_)
 refine W_cons rfl (by decide) (Sv_val rfl (R_move rfl rfl) ?_)
 have hk66 : (((regionS smallS 1 2).2 == 0)) = true := by decide +kernel
 have hk66p : (regionS smallS 1 2).2 = 0 := by simpa using hk66
 refine W_cons rfl (by decide) (Sv_gt rfl rfl rfl hk66 (Sv_val rfl (R_loadN (cs := [.int .i64 (regionS smallS 0 0).1.Row, .int .i64 (regionS smallS 0 0).1.Col, .int .i64 (regionS smallS 0 0).1.Rows, .int .i64 (regionS smallS 0 0).1.Cols]) rfl rfl agg33 size33 rfl (boxcells (hS.bx 15 rfl) 0 rfl)) ?_))
 refine W_cons rfl (by decide) (Sv_gt rfl rfl rfl hk66 (Sv_val rfl (R_build (w' := w64) (ps := [(2, (.const (.int .i64 1))), (3, (.const (.int .i64 1)))]) (vs := [.int .i64 1, .int .i64 1]) (r := .agg #[.int .i64 0, .int .i64 0, .int .i64 1, .int .i64 1]) rfl rfl rfl (by kernel_rfl)) ?_))
 refine W_cons rfl (by decide) (Sv_gt rfl rfl rfl hk66 (Sv_val rfl (R_eqv rfl rfl rfl eqg33 ((eqv33 (regionS smallS 0 0).1 (⟨0, 0, 1, 1⟩ : TRect)).up 2)) ?_))
 refine W_cons rfl (by decide) (Sv_val rfl (R_pick_t rfl rfl hk66 rfl) ?_)
 refine W_cons rfl (by decide) (Sv_val rfl (R_move rfl rfl) ?_)
 have hk67 : (decide ((regionS smallS 0 0).1 = (⟨0, 0, 1, 1⟩ : TRect))) = true := by decide +kernel
 have hk67p : (regionS smallS 0 0).1 = (⟨0, 0, 1, 1⟩ : TRect) := by simpa using hk67
 refine W_cons rfl (by decide) (Sv_gt rfl rfl rfl hk67 (Sv_val rfl (R_move rfl rfl) ?_))
 refine W_cons rfl (by decide) (Sv_gt rfl rfl rfl hk67 (Sv_val rfl (R_bin rfl rfl rfl rfl rfl) ?_))
 refine W_cons rfl (by decide) (Sv_val rfl (R_pick_t rfl rfl hk67 rfl) ?_)
 refine W_cons rfl (by decide) (Sv_val rfl (R_move rfl rfl) ?_)
 have hk68 : (((regionS smallS 0 0).2 == 0)) = true := by decide +kernel
 have hk68p : (regionS smallS 0 0).2 = 0 := by simpa using hk68
 refine W_cons rfl (by decide) (Sv_gt rfl rfl rfl hk68 (Sv_val rfl (R_move rfl rfl) ?_))
 refine W_cons rfl (by decide) (Sv_gt rfl rfl rfl hk68 (Sv_val rfl (R_bin rfl rfl rfl rfl rfl) ?_))
 refine W_cons rfl (by decide) (Sv_val rfl (R_pick_t rfl rfl hk68 rfl) ?_)
 refine W_cons rfl (by decide) (Sv_val rfl (R_move rfl rfl) ?_)
 have hk69 : (((regionS smallS 2 0).2 == 4)) = true := by decide +kernel
 have hk69p : (regionS smallS 2 0).2 = 4 := by simpa using hk69
 refine W_cons rfl (by decide) (Sv_gt rfl rfl rfl hk69 (Sv_val rfl (R_fld rfl rfl fld46_2) ?_))
 refine W_cons rfl (by decide) (Sv_gt rfl rfl rfl hk69 (Sv_val rfl (R_load1 rfl rfl agg9 ((hS.bx 13 rfl).cell rfl)) ?_))
 refine W_cons rfl (by decide) (Sv_gt rfl rfl rfl hk69 (Sv_val rfl (R_streql rfl rfl rfl) ?_))
 refine W_cons rfl (by decide) (Sv_val rfl (R_pick_t rfl rfl hk69 rfl) ?_)
 refine W_cons rfl (by decide) (Sv_val rfl (R_move rfl rfl) ?_)
 have hk70 : (decide ((getS smallS 0 0).1.Text = [97])) = true := by decide +kernel
 have hk70p : (getS smallS 0 0).1.Text = [97] := by simpa using hk70
 refine W_cons rfl (by decide) (Sv_gt rfl rfl rfl hk70 (Sv_val rfl (R_move rfl rfl) ?_))
 refine W_cons rfl (by decide) (Sv_gt rfl rfl rfl hk70 (Sv_val rfl (R_bin rfl rfl rfl rfl rfl) ?_))
 refine W_cons rfl (by decide) (Sv_val rfl (R_pick_t rfl rfl hk70 rfl) ?_)
 refine W_cons rfl (by decide) (Sv_val rfl (R_move rfl rfl) ?_)
 have hk71 : (((getS smallS 0 0).2 == 0)) = true := by decide +kernel
 have hk71p : (getS smallS 0 0).2 = 0 := by simpa using hk71
 refine W_cons rfl (by decide) (Sv_gt rfl rfl rfl hk71 (Sv_val rfl (R_loadN (cs := [.int .i64 (getS smallS 1 2).1.Row, .int .i64 (getS smallS 1 2).1.Col, vstr (getS smallS 1 2).1.Text, .int .i64 (getS smallS 1 2).1.Style.Align, .int .i64 (getS smallS 1 2).1.Style.Wrap, .int .i64 (getS smallS 1 2).1.Style.Dir]) rfl rfl agg46 size46 rfl (boxcells (hS.bx 12 rfl) 0 rfl)) ?_))
 refine W_cons rfl (by decide) (Sv_gt rfl rfl rfl hk71 (Sv_val rfl (R_build (w' := w64) (ps := [(0, (.const (.int .i64 1))), (1, (.const (.int .i64 1)))]) (vs := [.int .i64 1, .int .i64 1]) (r := .agg #[.int .i64 1, .int .i64 1, vstr [], .int .i64 0, .int .i64 0, .int .i64 0]) rfl rfl rfl (by kernel_rfl)) ?_))
 refine W_cons rfl (by decide) (Sv_gt rfl rfl rfl hk71 (Sv_val rfl (R_eqv rfl rfl rfl eqg46 ((eqv46 (getS smallS 1 2).1 (⟨1, 1, [], (⟨0, 0, 0⟩ : TStyle)⟩ : TCell)).up 1)) ?_))
 refine W_cons rfl (by decide) (Sv_val rfl (R_pick_t rfl rfl hk71 rfl) ?_)
 refine W_cons rfl (by decide) (Sv_val rfl (R_move rfl rfl) ?_)
 have hk72 : (decide ((getS smallS 1 2).1 = (⟨1, 1, [], (⟨0, 0, 0⟩ : TStyle)⟩ : TCell))) = true := by decide +kernel
 have hk72p : (getS smallS 1 2).1 = (⟨1, 1, [], (⟨0, 0, 0⟩ : TStyle)⟩ : TCell) := by simpa using hk72
 refine W_cons rfl (by decide) (Sv_gt rfl rfl rfl hk72 (Sv_val rfl (R_move rfl rfl) ?_))
 refine W_cons rfl (by decide) (Sv_gt rfl rfl rfl hk72 (Sv_val rfl (R_bin rfl rfl rfl rfl rfl) ?_))
 refine W_cons rfl (by decide) (Sv_val rfl (R_pick_t rfl rfl hk72 rfl) ?_)
 refine W_cons rfl (by decide) (Sv_val rfl (R_move rfl rfl) ?_)
 have hk73 : (((getS smallS 1 2).2 == 0)) = true := by decide +kernel
 have hk73p : (getS smallS 1 2).2 = 0 := by simpa using hk73
 refine W_cons rfl (by decide) (Sv_gt rfl rfl rfl hk73 (Sv_val rfl (R_loadN (cs := [.int .i64 smallS.Right, .slice AR0_2_Widths smallS.Widths.length cR0_2_Widths, .slice AR0_2_Heights smallS.Heights.length cR0_2_Heights, .slice AR0_2_Cells smallS.Cells.length cR0_2_Cells, .slice AR0_2_Merges smallS.Merges.length cR0_2_Merges]) rfl rfl agg39 size39 rfl (boxcells (hS.bx 17 rfl) 0 rfl)) ?_))
 refine W_cons rfl (by decide) (Sv_gt rfl rfl rfl hk73 (Sv_call rfl rfl rfl ent36 ?_))
 refine (regions_calls smallS AR0_2_Widths cR0_2_Widths AR0_2_Heights cR0_2_Heights AR0_2_Cells cR0_2_Cells AR0_2_Merges cR0_2_Merges _ _ hS.out0 (hS.ow [] 18 rfl rfl (zle_E _)) (hS.cap 18 rfl) (hS.ow [] 19 rfl rfl (zle_E _)) (hS.cap 19 rfl) (hS.ow [] 20 rfl rfl (zle_E _)) (hS.cap 20 rfl) (hS.ow [] 21 rfl rfl (zle_E _)) (hS.cap 21 rfl) ).mono ?_
 rintro e_ w74 ⟨AR0_75, cR0_75, rfl, hS_⟩
 refine ⟨_, rfl, ?_⟩
 have hS := hS.call0 hS_
 have hp76 := hS.cap 0 rfl
 have hlhp76 := hp76.le
 have hmhp76 := hp76.mx
 refine W_cons rfl (by decide) (Sv_gt rfl rfl rfl hk73 (Sv_val rfl (R_len rfl rfl Try.underlying37) ?_))
 refine W_cons rfl (by decide) (Sv_gt rfl rfl rfl hk73 (Sv_val rfl (R_bin rfl rfl rfl rfl rfl) ?_))
 refine W_cons rfl (by decide) (Sv_val rfl (R_pick_t rfl rfl hk73 rfl) ?_)
 refine W_cons rfl (by decide) (Sv_val rfl (R_move rfl rfl) ?_)
 have hk77 : ((((regionsS smallS).length : Int) == 5)) = true := by decide +kernel
 have hk77p : ((regionsS smallS).length : Int) = 5 := by simpa using hk77
 refine W_cons rfl (by decide) (Sv_gt rfl rfl rfl hk77 (Sv_val rfl (R_loadN (cs := [.int .i64 smallS.Right, .slice AR0_2_Widths smallS.Widths.length cR0_2_Widths, .slice AR0_2_Heights smallS.Heights.length cR0_2_Heights, .slice AR0_2_Cells smallS.Cells.length cR0_2_Cells, .slice AR0_2_Merges smallS.Merges.length cR0_2_Merges]) rfl rfl agg39 size39 rfl (boxcells (hS.bx 18 rfl) 0 rfl)) ?_))
 refine W_cons rfl (by decide) (Sv_gt rfl rfl rfl hk77 (Sv_call rfl rfl rfl ent35 ?_))
 refine (check_calls smallS AR0_2_Widths cR0_2_Widths AR0_2_Heights cR0_2_Heights AR0_2_Cells cR0_2_Cells AR0_2_Merges cR0_2_Merges _ _ hS.out0 (hS.ow [] 19 rfl rfl (zle_E _)) (hS.cap 19 rfl) (hS.ow [] 20 rfl rfl (zle_E _)) (hS.cap 20 rfl) (hS.ow [] 21 rfl rfl (zle_E _)) (hS.cap 21 rfl) (hS.ow [] 22 rfl rfl (zle_E _)) (hS.cap 22 rfl) ).mono ?_
 rintro e_ w78 ⟨rfl, hS_⟩
 refine ⟨_, rfl, ?_⟩
 have hS := hS.call0 hS_
 refine W_cons rfl (by decide) (Sv_gt rfl rfl rfl hk77 (Sv_val rfl (R_bin rfl rfl rfl rfl rfl) ?_))
 refine W_cons rfl (by decide) (Sv_val rfl (R_pick_t rfl rfl hk77 rfl) ?_)
 refine W_cons rfl (by decide) (Sv_val rfl (R_move rfl rfl) ?_)
 have hk80 : (((checkSh smallS) == 0)) = true := by decide +kernel
 have hk80p : (checkSh smallS) = 0 := by simpa using hk80
 refine W_cons rfl (by decide) (Sv_gt rfl rfl rfl hk80 (Sv_val rfl (R_loadN (cs := [.int .i64 smallS.Right, .slice AR0_36_Widths smallS.Widths.length cR0_36_Widths, .slice AR0_36_Heights smallS.Heights.length cR0_36_Heights, .slice Ar56 (smallS.Cells ++ ([(⟨1, 2, [98], (⟨0, 0, 0⟩ : TStyle)⟩ : TCell)] : List TCell)).length cr56, .slice AR0_36_Merges smallS.Merges.length cR0_36_Merges]) rfl rfl agg39 size39 rfl (boxcells (hS.bx 4 rfl) 0 rfl)) ?_))
 refine W_cons rfl (by decide) (Sv_gt rfl rfl rfl hk80 (Sv_call rfl rfl rfl ent35 ?_))
 refine (check_calls (⟨smallS.Right, smallS.Widths, smallS.Heights, smallS.Cells ++ ([(⟨1, 2, [98], (⟨0, 0, 0⟩ : TStyle)⟩ : TCell)] : List TCell), smallS.Merges⟩ : TSheet) AR0_36_Widths cR0_36_Widths AR0_36_Heights cR0_36_Heights Ar56 cr56 AR0_36_Merges cR0_36_Merges _ _ hS.out0 (hS.ow [] 9 rfl rfl (zle_E _)) (hS.cap 9 rfl) (hS.ow [] 10 rfl rfl (zle_E _)) (hS.cap 10 rfl) (hS.ow [] 11 rfl rfl (zle_E _)) (hS.cap 11 rfl) (hS.ow [] 12 rfl rfl (zle_E _)) (hS.cap 12 rfl) ).mono ?_
 rintro e_ w81 ⟨rfl, hS_⟩
 refine ⟨_, rfl, ?_⟩
 have hS := hS.call0 hS_
 refine W_cons rfl (by decide) (Sv_gt rfl rfl rfl hk80 (Sv_val rfl (R_bin rfl rfl rfl rfl rfl) ?_))
 refine W_cons rfl (by decide) (Sv_val rfl (R_pick_t rfl rfl hk80 rfl) ?_)
 refine W_cons rfl (by decide) (Sv_val rfl (R_move rfl rfl) ?_)
 have hk83 : (((checkSh (⟨smallS.Right, smallS.Widths, smallS.Heights, smallS.Cells ++ ([(⟨1, 2, [98], (⟨0, 0, 0⟩ : TStyle)⟩ : TCell)] : List TCell), smallS.Merges⟩ : TSheet)) == 6)) = true := by decide +kernel
 have hk83p : (checkSh (⟨smallS.Right, smallS.Widths, smallS.Heights, smallS.Cells ++ ([(⟨1, 2, [98], (⟨0, 0, 0⟩ : TStyle)⟩ : TCell)] : List TCell), smallS.Merges⟩ : TSheet)) = 6 := by simpa using hk83
 refine W_cons rfl (by decide) (Sv_gt rfl rfl rfl hk83 (Sv_val rfl (R_loadN (cs := [.int .i64 smallS.Right, .slice AR0_42_Widths smallS.Widths.length cR0_42_Widths, .slice AR0_42_Heights smallS.Heights.length cR0_42_Heights, .slice AR0_42_Cells smallS.Cells.length cR0_42_Cells, .slice Ar62 (([(⟨0, 1, 2, 1⟩ : TRect)] : List TRect) ++ smallS.Merges).length cr62]) rfl rfl agg39 size39 rfl (boxcells (hS.bx 3 rfl) 0 rfl)) ?_))
 refine W_cons rfl (by decide) (Sv_gt rfl rfl rfl hk83 (Sv_call rfl rfl rfl ent35 ?_))
 refine (check_calls (⟨smallS.Right, smallS.Widths, smallS.Heights, smallS.Cells, ([(⟨0, 1, 2, 1⟩ : TRect)] : List TRect) ++ smallS.Merges⟩ : TSheet) AR0_42_Widths cR0_42_Widths AR0_42_Heights cR0_42_Heights AR0_42_Cells cR0_42_Cells Ar62 cr62 _ _ hS.out0 (hS.ow [] 5 rfl rfl (zle_E _)) (hS.cap 5 rfl) (hS.ow [] 6 rfl rfl (zle_E _)) (hS.cap 6 rfl) (hS.ow [] 7 rfl rfl (zle_E _)) (hS.cap 7 rfl) (hS.ow [] 1 rfl rfl (zle_E _)) (hS.cap 1 rfl) ).mono ?_
 rintro e_ w84 ⟨rfl, hS_⟩
 refine ⟨_, rfl, ?_⟩
 have hS := hS.call0 hS_
 refine W_cons rfl (by decide) (Sv_gt rfl rfl rfl hk83 (Sv_val rfl (R_bin rfl rfl rfl rfl rfl) ?_))
 refine W_cons rfl (by decide) (Sv_val rfl (R_pick_t rfl rfl hk83 rfl) ?_)
 refine W_cons rfl (by decide) (Sv_val rfl (R_assign rfl rfl) ?_)
 refine W_nil ?_
 refine E_then (C_fr [(0, .bool ((checkSh (⟨smallS.Right, smallS.Widths, smallS.Heights, smallS.Cells, ([(⟨0, 1, 2, 1⟩ : TRect)] : List TRect) ++ smallS.Merges⟩ : TSheet)) == 5))] rfl ?_)
 refine C_ret ?_
 refine E_ret1 rfl rfl ?_
 exact ⟨Lret1 (Lbool (show ((checkSh (⟨smallS.Right, smallS.Widths, smallS.Heights, smallS.Cells, ([(⟨0, 1, 2, 1⟩ : TRect)] : List TRect) ++ smallS.Merges⟩ : TSheet)) == 5) = true by rfl)), hS.fin [] (by decide) rfl⟩

end Go.Proofs.YtgjnhmidbapjmaaG
