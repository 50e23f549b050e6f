/- The walk of the law SheetWhole: it returns true. -/
import Derived.Test.YtgjnhmidbapjmaaU4
set_option linter.all false
namespace Go.Proofs.YtgjnhmidbapjmaaG
open Go Go.RowKit
set_option maxHeartbeats 4000000 in
set_option maxRecDepth 20000 in
theorem sheetWhole_calls (a0 : TSheet) (Aa0_Widths : Option Addr) (ca0_Widths : Nat) (Aa0_Heights : Option Addr) (ca0_Heights : Nat) (Aa0_Cells : Option Addr) (ca0_Cells : Nat) (Aa0_Merges : Option Addr) (ca0_Merges : Nat) (z : Z) (w : World) (hI : In z w []) (hra0_Widths : Rd (kint .i64) z Aa0_Widths a0.Widths) (hca0_Widths : Cap Aa0_Widths a0.Widths.length ca0_Widths) (hra0_Heights : Rd (kint .i64) z Aa0_Heights a0.Heights) (hca0_Heights : Cap Aa0_Heights a0.Heights.length ca0_Heights) (hra0_Cells : Rd kdTCell z Aa0_Cells a0.Cells) (hca0_Cells : Cap Aa0_Cells a0.Cells.length ca0_Cells) (hra0_Merges : Rd kdTRect z Aa0_Merges a0.Merges) (hca0_Merges : Cap Aa0_Merges a0.Merges.length ca0_Merges) (p0 : SheetG a0) :
    Calls Try.prog 9 #[.agg #[.int .i64 a0.Right, .slice Aa0_Widths a0.Widths.length ca0_Widths, .slice Aa0_Heights a0.Heights.length ca0_Heights, .slice Aa0_Cells a0.Cells.length ca0_Cells, .slice Aa0_Merges a0.Merges.length ca0_Merges]] w fun e w' => e = .returned (.bool true) ∧ Sp (FF []) w z w' [] := by
 have hla0_Widths := hca0_Widths.le
 have hma0_Widths := hca0_Widths.mx
 have hla0_Heights := hca0_Heights.le
 have hma0_Heights := hca0_Heights.mx
 have hla0_Cells := hca0_Cells.le
 have hma0_Cells := hca0_Cells.mx
 have hla0_Merges := hca0_Merges.le
 have hma0_Merges := hca0_Merges.mx
 have hS := hI.sp
 refine Calls_of (vs := [.agg #[.int .i64 a0.Right, .slice Aa0_Widths a0.Widths.length ca0_Widths, .slice Aa0_Heights a0.Heights.length ca0_Heights, .slice Aa0_Cells a0.Cells.length ca0_Cells, .slice Aa0_Merges a0.Merges.length ca0_Merges]]) (N := 202) Try.func9 rfl rfl (Nat.le_of_ble_eq_true rfl) ?_
 refine C_seq ?_
 refine C_region ?_
 refine W_cons rfl (by decide) (S_box hS rfl (R_box (cs := [.int .i64 a0.Right, .slice Aa0_Widths a0.Widths.length ca0_Widths, .slice Aa0_Heights a0.Heights.length ca0_Heights, .slice Aa0_Cells a0.Cells.length ca0_Cells, .slice Aa0_Merges a0.Merges.length ca0_Merges]) rfl rfl rfl) (fun b2 w1 hS => ?_))
 refine W_cons rfl (by decide) (Sv_val rfl (R_assign rfl rfl) ?_)
 refine W_nil ?_
 refine E_then ?_
 refine C_seq ?_
 refine C_seq ?_
 refine C_region ?_
 refine W_cons rfl (by decide) (Sv_val rfl (R_loadN (cs := [.int .i64 a0.Right, .slice Aa0_Widths a0.Widths.length ca0_Widths, .slice Aa0_Heights a0.Heights.length ca0_Heights, .slice Aa0_Cells a0.Cells.length ca0_Cells, .slice Aa0_Merges a0.Merges.length ca0_Merges]) rfl rfl agg39 size39 rfl (boxcells (hS.bx 0 rfl) 0 rfl)) ?_)
 refine W_cons rfl (by decide) (Sv_call rfl rfl rfl ent30 ?_)
 refine (great_calls a0 Aa0_Widths ca0_Widths Aa0_Heights ca0_Heights Aa0_Cells ca0_Cells Aa0_Merges ca0_Merges _ _ hS.out0 (hra0_Widths.mono (hS.zl [])) hca0_Widths (hra0_Heights.mono (hS.zl [])) hca0_Heights (hra0_Cells.mono (hS.zl [])) hca0_Cells (hra0_Merges.mono (hS.zl [])) hca0_Merges ).mono ?_
 rintro e_ w3 ⟨rfl, hS_⟩
 refine ⟨_, rfl, ?_⟩
 have hS := hS.call0 hS_
 refine W_cons rfl (by decide) (Sv_val rfl (R_move rfl rfl) ?_)
 refine W_split (t := 18) rfl (fun hg5 => ?_) (fun hg5 => ?_)
 ·have _hg5 := trivial
  refine W_cons rfl (by decide) (Sv_off rfl rfl rfl (by rw [hg5] <;> rfl) ?_)
  refine W_cons rfl (by decide) (Sv_off rfl rfl rfl (by rw [hg5] <;> rfl) ?_)
  refine W_cons rfl (by decide) (Sv_off rfl rfl rfl (by rw [hg5] <;> rfl) ?_)
  refine W_cons rfl (by decide) (Sv_val rfl (R_pick_t rfl rfl hg5 rfl) ?_)
  refine W_nil ?_
  refine E_then (C_fr [(1, .pointer (some ⟨b2, 0, none⟩)), (22, .bool true)] rfl ?_)
  refine C_if rfl rfl ?_
  refine C_seq ?_
  refine C_region ?_
  refine W_cons rfl (by decide) (Sv_call rfl rfl rfl ent29 ?_)
  refine (lawk_calls  _ _ hS.out0  ).mono ?_
  rintro e_ w6 ⟨rfl, hS_⟩
  refine ⟨_, rfl, ?_⟩
  have hS := hS.call0 hS_
  refine W_cons rfl (by decide) (Sv_val rfl (R_assign rfl rfl) ?_)
  refine W_nil ?_
  refine E_then ?_
  refine C_ret ?_
  refine E_then_ret ?_
  refine E_ret1 rfl rfl ?_
  exact ⟨Lret1 (Lbool (show true = true by rfl)), hS.fin [] (by decide) rfl⟩
 ·have _hg5 := trivial
  refine W_cons rfl (by decide) (Sv_gt rfl rfl rfl hg5 (Sv_val rfl (R_loadN (cs := [.int .i64 a0.Right, .slice Aa0_Widths a0.Widths.length ca0_Widths, .slice Aa0_Heights a0.Heights.length ca0_Heights, .slice Aa0_Cells a0.Cells.length ca0_Cells, .slice Aa0_Merges a0.Merges.length ca0_Merges]) rfl rfl agg39 size39 rfl (boxcells (hS.bx 0 rfl) 0 rfl)) ?_))
  refine W_cons rfl (by decide) (Sv_gt rfl rfl rfl hg5 (Sv_call rfl rfl rfl ent35 ?_))
  refine (check_calls a0 Aa0_Widths ca0_Widths Aa0_Heights ca0_Heights Aa0_Cells ca0_Cells Aa0_Merges ca0_Merges _ _ hS.out0 (hra0_Widths.mono (hS.zl [])) hca0_Widths (hra0_Heights.mono (hS.zl [])) hca0_Heights (hra0_Cells.mono (hS.zl [])) hca0_Cells (hra0_Merges.mono (hS.zl [])) hca0_Merges ).mono ?_
  rintro e_ w8 ⟨rfl, hS_⟩
  refine ⟨_, rfl, ?_⟩
  have hS := hS.call0 hS_
  refine W_cons rfl (by decide) (Sv_gt rfl rfl rfl hg5 (Sv_val rfl (R_bin rfl rfl rfl rfl rfl) ?_))
  refine W_cons rfl (by decide) (Sv_val rfl (R_pick_f rfl rfl hg5 rfl) ?_)
  refine W_nil ?_
  refine E_then (C_fr [(1, .pointer (some ⟨b2, 0, none⟩)), (22, .bool ((checkSh a0) != 0))] rfl ?_)
  refine C_ite rfl (fun hC0 => ?_) (fun hC0 => ?_)
  ·have _hC0 := trivial
   have hC0p : ¬ (checkSh a0) = 0 := by simpa using hC0
   refine C_seq ?_
   refine C_region ?_
   refine W_cons rfl (by decide) (Sv_call rfl rfl rfl ent29 ?_)
   refine (lawk_calls  _ _ hS.out0  ).mono ?_
   rintro e_ w10 ⟨rfl, hS_⟩
   refine ⟨_, rfl, ?_⟩
   have hS := hS.call0 hS_
   refine W_cons rfl (by decide) (Sv_val rfl (R_assign rfl rfl) ?_)
   refine W_nil ?_
   refine E_then ?_
   refine C_ret ?_
   refine E_then_ret ?_
   refine E_ret1 rfl rfl ?_
   exact ⟨Lret1 (Lbool (show true = true by rfl)), hS.fin [] (by decide) rfl⟩
  ·have _hC0 := trivial
   have hC0p : (checkSh a0) = 0 := by simpa using hC0
   refine C_skip ?_
   refine E_then ?_
   refine C_seq ?_
   have hgd := good_of (p0.I (by first | assumption | simp_all)) (by simp_all)
   refine C_region ?_
   refine W_cons rfl (by decide) (Sv_val rfl (R_loadN (cs := [.int .i64 a0.Right, .slice Aa0_Widths a0.Widths.length ca0_Widths, .slice Aa0_Heights a0.Heights.length ca0_Heights, .slice Aa0_Cells a0.Cells.length ca0_Cells, .slice Aa0_Merges a0.Merges.length ca0_Merges]) rfl rfl agg39 size39 rfl (boxcells (hS.bx 0 rfl) 0 rfl)) ?_)
   refine W_cons rfl (by decide) (Sv_call rfl rfl rfl ent36 ?_)
   refine (regions_calls a0 Aa0_Widths ca0_Widths Aa0_Heights ca0_Heights Aa0_Cells ca0_Cells Aa0_Merges ca0_Merges _ _ hS.out0 (hra0_Widths.mono (hS.zl [])) hca0_Widths (hra0_Heights.mono (hS.zl [])) hca0_Heights (hra0_Cells.mono (hS.zl [])) hca0_Cells (hra0_Merges.mono (hS.zl [])) hca0_Merges ).mono ?_
   rintro e_ w12 ⟨AR0_13, cR0_13, rfl, hS_⟩
   refine ⟨_, rfl, ?_⟩
   have hS := hS.call0 hS_
   have hp14 := hS.cap 0 rfl
   have hlhp14 := hp14.le
   have hmhp14 := hp14.mx
   refine W_cons rfl (by decide) (Sv_val rfl (R_assign rfl rfl) ?_)
   refine W_nil ?_
   refine E_then ?_
   refine C_seq ?_
   refine C_seq ?_
   refine C_region ?_
   refine W_cons rfl (by decide) (Sv_val rfl (R_assign rfl rfl) ?_)
   refine W_nil ?_
   refine E_then ?_
   refine C_block ?_
   refine C_fr [(1, .pointer (some ⟨b2, 0, none⟩)), (3, .slice AR0_13 (regionsS a0).length cR0_13), (4, .int .i64 0)] rfl ?_
   refine C_loop (fun m_ f_ w_ => ∃ (i : Nat), f_ = [(1, .pointer (some ⟨b2, 0, none⟩)), (3, .slice AR0_13 (regionsS a0).length cR0_13), (4, .int .i64 (i : Int))] ∧ i ≤ (regionsS a0).length ∧ m_ = (regionsS a0).length - i ∧ Sp (FF []) w z w_ [bR b2 39 [.int .i64 a0.Right, .slice Aa0_Widths a0.Widths.length ca0_Widths, .slice Aa0_Heights a0.Heights.length ca0_Heights, .slice Aa0_Cells a0.Cells.length ca0_Cells, .slice Aa0_Merges a0.Merges.length ca0_Merges], oR kdTRect 33 zE AR0_13 cR0_13 (regionsS a0)]) ((regionsS a0).length - (0 : Nat)) ⟨(0 : Nat), rfl, (by omega), rfl, hS.fin [1, 0] (by decide) rfl⟩ ?_
   rintro m_ f_ w15 ⟨i, rfl, hI0_0, rfl, hS⟩
   refine C_seq ?_
   refine C_seq ?_
   refine C_region ?_
   refine W_cons rfl (by decide) (Sv_val rfl (R_move rfl rfl) ?_)
   refine W_cons rfl (by decide) (Sv_val rfl (R_move rfl rfl) ?_)
   refine W_cons rfl (by decide) (Sv_val rfl (R_len rfl rfl Try.underlying37) ?_)
   refine W_cons rfl (by decide) (Sv_val rfl (R_bin rfl rfl rfl rfl rfl) ?_)
   refine W_nil ?_
   refine E_then ?_
   refine C_ite rfl (fun hC1 => ?_) (fun hC1 => ?_)
   ·have _hC1 := trivial
    have hC1p : (i : Int) < ((regionsS a0).length : Int) := by simpa using hC1
    refine C_skip ?_
    refine E_then ?_
    refine C_seq ?_
    refine C_block ?_
    refine C_seq ?_
    refine C_seq ?_
    refine C_region ?_
    refine W_cons rfl (by decide) (Sv_val rfl (R_assign rfl rfl) ?_)
    refine W_nil ?_
    refine E_then ?_
    refine C_block ?_
    refine C_fr [(1, .pointer (some ⟨b2, 0, none⟩)), (3, .slice AR0_13 (regionsS a0).length cR0_13), (4, .int .i64 (i : Int)), (5, .int .i64 0)] rfl ?_
    refine C_loop (fun m_ f_ w_ => ∃ (k : Nat), f_ = [(1, .pointer (some ⟨b2, 0, none⟩)), (3, .slice AR0_13 (regionsS a0).length cR0_13), (4, .int .i64 (i : Int)), (5, .int .i64 (k : Int))] ∧ k ≤ i ∧ m_ = i - k ∧ Sp (FF []) w z w_ [bR b2 39 [.int .i64 a0.Right, .slice Aa0_Widths a0.Widths.length ca0_Widths, .slice Aa0_Heights a0.Heights.length ca0_Heights, .slice Aa0_Cells a0.Cells.length ca0_Cells, .slice Aa0_Merges a0.Merges.length ca0_Merges], oR kdTRect 33 zE AR0_13 cR0_13 (regionsS a0)]) (i - (0 : Nat)) ⟨(0 : Nat), rfl, (by omega), rfl, hS.fin [0, 1] (by decide) rfl⟩ ?_
    rintro m_ f_ w16 ⟨k, rfl, hI1_0, rfl, hS⟩
    refine C_seq ?_
    refine C_seq ?_
    refine C_region ?_
    refine W_cons rfl (by decide) (Sv_val rfl (R_move rfl rfl) ?_)
    refine W_cons rfl (by decide) (Sv_val rfl (R_move rfl rfl) ?_)
    refine W_cons rfl (by decide) (Sv_val rfl (R_bin rfl rfl rfl rfl rfl) ?_)
    refine W_nil ?_
    refine E_then ?_
    refine C_ite rfl (fun hC2 => ?_) (fun hC2 => ?_)
    ·have _hC2 := trivial
     have hC2p : (k : Int) < (i : Int) := by simpa using hC2
     refine C_skip ?_
     refine E_then ?_
     refine C_seq ?_
     refine C_block ?_
     refine C_seq ?_
     refine C_fr [(1, .pointer (some ⟨b2, 0, none⟩)), (3, .slice AR0_13 (regionsS a0).length cR0_13), (4, .int .i64 (i : Int)), (5, .int .i64 (k : Int))] rfl ?_
     obtain ⟨q17, hAq17, hxq17⟩ := (hS.rw 1 rfl).ix (default : TRect) (i := (i : Int)) (by omega) (by omega)
     obtain ⟨q18, hAq18, hxq18⟩ := (hS.rw 1 rfl).ix (default : TRect) (i := (k : Int)) (by omega) (by omega)
     refine C_drawn2 9 [[], [], [0, 1], [2], [], [], [4, 5], [6], [3, 7]] [some 37, some 38, some 39, some 40, some 41, some 42, some 43, some 44, some 45] [1, 3, 4, 5] (List.replicate 9 9) (List.replicate 9 []) (List.replicate 9 []) [fun γ_ => .slice AR0_13 (regionsS a0).length cR0_13, fun γ_ => .int .i64 (i : Int), fun γ_ => .pointer (some (q17.add (i * 4))), fun γ_ => .agg #[.int .i64 ((regionsS a0).getD i (default : TRect)).Row, .int .i64 ((regionsS a0).getD i (default : TRect)).Col, .int .i64 ((regionsS a0).getD i (default : TRect)).Rows, .int .i64 ((regionsS a0).getD i (default : TRect)).Cols], fun γ_ => .slice AR0_13 (regionsS a0).length cR0_13, fun γ_ => .int .i64 (k : Int), fun γ_ => .pointer (some (q18.add (k * 4))), fun γ_ => .agg #[.int .i64 ((regionsS a0).getD k (default : TRect)).Row, .int .i64 ((regionsS a0).getD k (default : TRect)).Col, .int .i64 ((regionsS a0).getD k (default : TRect)).Rows, .int .i64 ((regionsS a0).getD k (default : TRect)).Cols], fun γ_ => .bool (meetS ((regionsS a0).getD i (default : TRect)) ((regionsS a0).getD k (default : TRect)))] (List.replicate 9 (fun _ => [])) rfl (by kernel_rfl) (by decide +kernel) hS ?_ ?_
     ·refine ⟨fun g_ w21 fr22 hS => Sv_val rfl (R_move rfl rfl) ⟨gh0, rfl, hS⟩, ?_⟩
      refine ⟨fun g_ w23 fr24 hS => Sv_val rfl (R_move rfl rfl) ⟨gh0, rfl, hS⟩, ?_⟩
      refine ⟨fun g_ w25 fr26 hS => Sv_val rfl (R_idx rfl rfl hAq17 rfl Try.underlying37 size33 (by omega) (by omega)) ⟨gh0, rfl, hS⟩, ?_⟩
      refine ⟨fun g_ w27 fr28 hS => Sv_val rfl (R_loadN (cs := [.int .i64 ((regionsS a0).getD i (default : TRect)).Row, .int .i64 ((regionsS a0).getD i (default : TRect)).Col, .int .i64 ((regionsS a0).getD i (default : TRect)).Rows, .int .i64 ((regionsS a0).getD i (default : TRect)).Cols]) rfl rfl agg33 size33 rfl (fun j u h => cell_add ((hS.rw 1 rfl).cellAt hAq17 hxq17 (fun _ h => h) j u h))) ⟨gh0, rfl, hS⟩, ?_⟩
      refine ⟨fun g_ w29 fr30 hS => Sv_val rfl (R_move rfl rfl) ⟨gh0, rfl, hS⟩, ?_⟩
      refine ⟨fun g_ w31 fr32 hS => Sv_val rfl (R_move rfl rfl) ⟨gh0, rfl, hS⟩, ?_⟩
      refine ⟨fun g_ w33 fr34 hS => Sv_val rfl (R_idx rfl rfl hAq18 rfl Try.underlying37 size33 (by omega) (by omega)) ⟨gh0, rfl, hS⟩, ?_⟩
      refine ⟨fun g_ w35 fr36 hS => Sv_val rfl (R_loadN (cs := [.int .i64 ((regionsS a0).getD k (default : TRect)).Row, .int .i64 ((regionsS a0).getD k (default : TRect)).Col, .int .i64 ((regionsS a0).getD k (default : TRect)).Rows, .int .i64 ((regionsS a0).getD k (default : TRect)).Cols]) rfl rfl agg33 size33 rfl (fun j u h => cell_add ((hS.rw 1 rfl).cellAt hAq18 hxq18 (fun _ h => h) j u h))) ⟨gh0, rfl, hS⟩, ?_⟩
      refine ⟨fun g_ w37 fr38 hS => ?_, ?_⟩
      ·have _w37 := trivial
       have hS : Sp (FF []) w z w37 [bR b2 39 [.int .i64 a0.Right, .slice Aa0_Widths a0.Widths.length ca0_Widths, .slice Aa0_Heights a0.Heights.length ca0_Heights, .slice Aa0_Cells a0.Cells.length ca0_Cells, .slice Aa0_Merges a0.Merges.length ca0_Merges], oR kdTRect 33 zE AR0_13 cR0_13 (regionsS a0), allR fr38] := hS
       refine Sv_call rfl rfl rfl ent27 ?_
       refine (meet_calls ((regionsS a0).getD i (default : TRect)) ((regionsS a0).getD k (default : TRect)) _ _ hS.out0  ).mono ?_
       rintro e_ w39 ⟨rfl, hS_⟩
       refine ⟨_, rfl, ?_⟩
       have hS := hS.call0 hS_
       exact ⟨⟨fun _ => none, fun _ => 0, fun _ => zE, fun _ => 0⟩, rfl, hS.fin [0, 1, 2] (by decide) rfl⟩
      exact trivial
     ·intro g_ w41 hS
      have hS : Sp (FF []) w z w41 [bR b2 39 [.int .i64 a0.Right, .slice Aa0_Widths a0.Widths.length ca0_Widths, .slice Aa0_Heights a0.Heights.length ca0_Heights, .slice Aa0_Cells a0.Cells.length ca0_Cells, .slice Aa0_Merges a0.Merges.length ca0_Merges], oR kdTRect 33 zE AR0_13 cR0_13 (regionsS a0)] := hS
      refine An_fr [(1, .pointer (some ⟨b2, 0, none⟩)), (3, .slice AR0_13 (regionsS a0).length cR0_13), (4, .int .i64 (i : Int)), (5, .int .i64 (k : Int)), (45, .bool (meetS ((regionsS a0).getD i (default : TRect)) ((regionsS a0).getD k (default : TRect))))] rfl ?_
      refine An_done (by decide +kernel) ?_
      refine E_then ?_
      have hk43 : (meetS ((regionsS a0).getD i (default : TRect)) ((regionsS a0).getD k (default : TRect))) = false := by exact hgd.apart_regions (by omega) (by omega)
      refine C_else rfl hk43 ?_
      refine C_skip ?_
      refine E_block_normal ?_
      refine E_then ?_
      refine C_region ?_
      refine W_cons rfl (by decide) (Sv_val rfl (R_move rfl rfl) ?_)
      refine W_cons rfl (by decide) (Sv_val rfl (R_add64 rfl rfl rfl (by omega) (by omega)) ?_)
      refine W_cons rfl (by decide) (Sv_val rfl (R_assign rfl rfl) ?_)
      refine W_nil ?_
      refine E_round [1, 3, 4, 5] ?_ ⟨(k + 1 : Nat), rfl, (by omega), rfl, hS.fin [0, 1] (by decide) rfl⟩
      omega
    ·have _hC2 := trivial
     have hC2p : ¬ ((k : Int) < (i : Int)) := by simpa using hC2
     refine C_exit ?_
     refine E_then_exit ?_
     refine E_then_exit ?_
     refine E_block_hit ?_
     refine E_then ?_
     refine C_seq ?_
     have hft := hgd.at_fits (i := i) (by omega)
     unfold Fits at hft
     refine C_fr [(1, .pointer (some ⟨b2, 0, none⟩)), (3, .slice AR0_13 (regionsS a0).length cR0_13), (4, .int .i64 (i : Int))] rfl ?_
     obtain ⟨q44, hAq44, hxq44⟩ := (hS.rw 1 rfl).ix (default : TRect) (i := (i : Int)) (by omega) (by omega)
     have hk45 : (decide (((regionsS a0).getD i (default : TRect)).Row < 0)) = false := by exact decide_eq_false (by omega)
     have hk45p : ¬ (((regionsS a0).getD i (default : TRect)).Row < 0) := by simpa using hk45
     obtain ⟨q46, hAq46, hxq46⟩ := (hS.rw 1 rfl).ix (default : TRect) (i := (i : Int)) (by omega) (by omega)
     have hk47 : (decide (((regionsS a0).getD i (default : TRect)).Col < 0)) = false := by exact decide_eq_false (by omega)
     have hk47p : ¬ (((regionsS a0).getD i (default : TRect)).Col < 0) := by simpa using hk47
     obtain ⟨q48, hAq48, hxq48⟩ := (hS.rw 1 rfl).ix (default : TRect) (i := (i : Int)) (by omega) (by omega)
     have hk49 : (decide (((regionsS a0).getD i (default : TRect)).Rows < 1)) = false := by exact decide_eq_false (by omega)
     have hk49p : ¬ (((regionsS a0).getD i (default : TRect)).Rows < 1) := by simpa using hk49
     obtain ⟨q50, hAq50, hxq50⟩ := (hS.rw 1 rfl).ix (default : TRect) (i := (i : Int)) (by omega) (by omega)
     have hk51 : (decide (((regionsS a0).getD i (default : TRect)).Cols < 1)) = false := by exact decide_eq_false (by omega)
     have hk51p : ¬ (((regionsS a0).getD i (default : TRect)).Cols < 1) := by simpa using hk51
     obtain ⟨q52, hAq52, hxq52⟩ := (hS.rw 1 rfl).ix (default : TRect) (i := (i : Int)) (by omega) (by omega)
     obtain ⟨q53, hAq53, hxq53⟩ := (hS.rw 1 rfl).ix (default : TRect) (i := (i : Int)) (by omega) (by omega)
     have hk54 : (decide (((regionsS a0).getD i (default : TRect)).Row > ((a0.Heights.length : Int) - ((regionsS a0).getD i (default : TRect)).Rows))) = false := by exact decide_eq_false (by omega)
     have hk54p : ¬ (((regionsS a0).getD i (default : TRect)).Row > ((a0.Heights.length : Int) - ((regionsS a0).getD i (default : TRect)).Rows)) := by simpa using hk54
     obtain ⟨q55, hAq55, hxq55⟩ := (hS.rw 1 rfl).ix (default : TRect) (i := (i : Int)) (by omega) (by omega)
     obtain ⟨q56, hAq56, hxq56⟩ := (hS.rw 1 rfl).ix (default : TRect) (i := (i : Int)) (by omega) (by omega)
     refine C_drawn2 64 [[], [], [0, 1], [2], [3], [4], [5], [6], [6], [7, 8, 6], [9, 6], [10, 6], [11, 6], [6, 12], [13, 6], [14], [14], [15, 16, 14], [17, 14], [18, 14], [19, 14], [14, 20], [21, 14], [22], [22], [23, 24, 22], [25, 22], [26, 22], [27, 22], [22, 28], [29, 22], [30], [30], [31, 32, 30], [33, 30], [34, 30], [30], [36, 30], [37, 30], [30], [30], [39, 40, 30], [41, 30], [42, 30], [38, 43, 30], [35, 44, 30], [30, 45], [46, 30], [47], [47], [48, 49, 47], [50, 47], [51, 47], [47], [53, 47], [54, 47], [47], [47], [56, 57, 47], [58, 47], [59, 47], [55, 60, 47], [52, 61, 47], [47, 62]] [some 46, some 47, some 48, some 49, some 50, some 51, some 52, some 53, some 54, some 55, some 56, some 57, some 58, some 59, some 60, some 61, some 62, some 63, some 64, some 65, some 66, some 67, some 68, some 69, some 70, some 71, some 72, some 73, some 74, some 75, some 76, some 77, some 78, some 79, some 80, some 81, some 82, some 83, some 84, some 85, some 86, some 87, some 88, some 89, some 90, some 91, some 92, some 93, some 94, some 95, some 96, some 97, some 98, some 99, some 100, some 101, some 102, some 103, some 104, some 105, some 106, some 107, some 108, some 109] [1, 3, 4] (List.replicate 64 64) (List.replicate 64 []) (List.replicate 64 []) [fun γ_ => .slice AR0_13 (regionsS a0).length cR0_13, fun γ_ => .int .i64 (i : Int), fun γ_ => .pointer (some (q44.add (i * 4))), fun γ_ => .pointer (some ((q44.add (i * 4)).add 0)), fun γ_ => .int .i64 ((regionsS a0).getD i (default : TRect)).Row, fun γ_ => .bool (decide (((regionsS a0).getD i (default : TRect)).Row < 0)), fun γ_ => .bool (decide (((regionsS a0).getD i (default : TRect)).Row < 0)), fun γ_ => .slice AR0_13 (regionsS a0).length cR0_13, fun γ_ => .int .i64 (i : Int), fun γ_ => .pointer (some (q46.add (i * 4))), fun γ_ => .pointer (some ((q46.add (i * 4)).add 1)), fun γ_ => .int .i64 ((regionsS a0).getD i (default : TRect)).Col, fun γ_ => .bool (decide (((regionsS a0).getD i (default : TRect)).Col < 0)), fun γ_ => .bool (decide (((regionsS a0).getD i (default : TRect)).Col < 0)), fun γ_ => .bool (decide (((regionsS a0).getD i (default : TRect)).Col < 0)), fun γ_ => .slice AR0_13 (regionsS a0).length cR0_13, fun γ_ => .int .i64 (i : Int), fun γ_ => .pointer (some (q48.add (i * 4))), fun γ_ => .pointer (some ((q48.add (i * 4)).add 2)), fun γ_ => .int .i64 ((regionsS a0).getD i (default : TRect)).Rows, fun γ_ => .bool (decide (((regionsS a0).getD i (default : TRect)).Rows < 1)), fun γ_ => .bool (decide (((regionsS a0).getD i (default : TRect)).Rows < 1)), fun γ_ => .bool (decide (((regionsS a0).getD i (default : TRect)).Rows < 1)), fun γ_ => .slice AR0_13 (regionsS a0).length cR0_13, fun γ_ => .int .i64 (i : Int), fun γ_ => .pointer (some (q50.add (i * 4))), fun γ_ => .pointer (some ((q50.add (i * 4)).add 3)), fun γ_ => .int .i64 ((regionsS a0).getD i (default : TRect)).Cols, fun γ_ => .bool (decide (((regionsS a0).getD i (default : TRect)).Cols < 1)), fun γ_ => .bool (decide (((regionsS a0).getD i (default : TRect)).Cols < 1)), fun γ_ => .bool (decide (((regionsS a0).getD i (default : TRect)).Cols < 1)), fun γ_ => .slice AR0_13 (regionsS a0).length cR0_13, fun γ_ => .int .i64 (i : Int), fun γ_ => .pointer (some (q52.add (i * 4))), fun γ_ => .pointer (some ((q52.add (i * 4)).add 0)), fun γ_ => .int .i64 ((regionsS a0).getD i (default : TRect)).Row, fun γ_ => .pointer (some ⟨b2, 2, none⟩), fun γ_ => .slice Aa0_Heights a0.Heights.length ca0_Heights, fun γ_ => .int .i64 (a0.Heights.length : Int), fun γ_ => .slice AR0_13 (regionsS a0).length cR0_13, fun γ_ => .int .i64 (i : Int), fun γ_ => .pointer (some (q53.add (i * 4))), fun γ_ => .pointer (some ((q53.add (i * 4)).add 2)), fun γ_ => .int .i64 ((regionsS a0).getD i (default : TRect)).Rows, fun γ_ => .int .i64 ((a0.Heights.length : Int) - ((regionsS a0).getD i (default : TRect)).Rows), fun γ_ => .bool (decide (((regionsS a0).getD i (default : TRect)).Row > ((a0.Heights.length : Int) - ((regionsS a0).getD i (default : TRect)).Rows))), fun γ_ => .bool (decide (((regionsS a0).getD i (default : TRect)).Row > ((a0.Heights.length : Int) - ((regionsS a0).getD i (default : TRect)).Rows))), fun γ_ => .bool (decide (((regionsS a0).getD i (default : TRect)).Row > ((a0.Heights.length : Int) - ((regionsS a0).getD i (default : TRect)).Rows))), fun γ_ => .slice AR0_13 (regionsS a0).length cR0_13, fun γ_ => .int .i64 (i : Int), fun γ_ => .pointer (some (q55.add (i * 4))), fun γ_ => .pointer (some ((q55.add (i * 4)).add 1)), fun γ_ => .int .i64 ((regionsS a0).getD i (default : TRect)).Col, fun γ_ => .pointer (some ⟨b2, 1, none⟩), fun γ_ => .slice Aa0_Widths a0.Widths.length ca0_Widths, fun γ_ => .int .i64 (a0.Widths.length : Int), fun γ_ => .slice AR0_13 (regionsS a0).length cR0_13, fun γ_ => .int .i64 (i : Int), fun γ_ => .pointer (some (q56.add (i * 4))), fun γ_ => .pointer (some ((q56.add (i * 4)).add 3)), fun γ_ => .int .i64 ((regionsS a0).getD i (default : TRect)).Cols, fun γ_ => .int .i64 ((a0.Widths.length : Int) - ((regionsS a0).getD i (default : TRect)).Cols), fun γ_ => .bool (decide (((regionsS a0).getD i (default : TRect)).Col > ((a0.Widths.length : Int) - ((regionsS a0).getD i (default : TRect)).Cols))), fun γ_ => .bool (decide (((regionsS a0).getD i (default : TRect)).Col > ((a0.Widths.length : Int) - ((regionsS a0).getD i (default : TRect)).Cols)))] (List.replicate 64 (fun _ => [])) rfl (by kernel_rfl) (by decide +kernel) hS ?_ ?_
     ·refine ⟨fun g_ w57 fr58 hS => Sv_val rfl (R_move rfl rfl) ⟨gh0, rfl, hS⟩, ?_⟩
      refine ⟨fun g_ w59 fr60 hS => Sv_val rfl (R_move rfl rfl) ⟨gh0, rfl, hS⟩, ?_⟩
      refine ⟨fun g_ w61 fr62 hS => Sv_val rfl (R_idx rfl rfl hAq44 rfl Try.underlying37 size33 (by omega) (by omega)) ⟨gh0, rfl, hS⟩, ?_⟩
      refine ⟨fun g_ w63 fr64 hS => Sv_val rfl (R_fld rfl rfl fld33_0) ⟨gh0, rfl, hS⟩, ?_⟩
      refine ⟨fun g_ w65 fr66 hS => Sv_val rfl (R_load1 rfl rfl agg3 (cell_add ((hS.rw 1 rfl).cellAt hAq44 hxq44 (fun _ h => h) 0 _ rfl))) ⟨gh0, rfl, hS⟩, ?_⟩
      refine ⟨fun g_ w67 fr68 hS => Sv_val rfl (R_bin rfl rfl rfl rfl rfl) ⟨gh0, rfl, hS⟩, ?_⟩
      refine ⟨fun g_ w69 fr70 hS => Sv_val rfl (R_move rfl rfl) ⟨gh0, rfl, hS⟩, ?_⟩
      refine ⟨fun g_ w71 fr72 hS => (Sv_gt rfl rfl rfl hk45 (Sv_val rfl (R_move rfl rfl) ⟨gh0, rfl, hS⟩)), ?_⟩
      refine ⟨fun g_ w73 fr74 hS => (Sv_gt rfl rfl rfl hk45 (Sv_val rfl (R_move rfl rfl) ⟨gh0, rfl, hS⟩)), ?_⟩
      refine ⟨fun g_ w75 fr76 hS => (Sv_gt rfl rfl rfl hk45 (Sv_val rfl (R_idx rfl rfl hAq46 rfl Try.underlying37 size33 (by omega) (by omega)) ⟨gh0, rfl, hS⟩)), ?_⟩
      refine ⟨fun g_ w77 fr78 hS => (Sv_gt rfl rfl rfl hk45 (Sv_val rfl (R_fld rfl rfl fld33_1) ⟨gh0, rfl, hS⟩)), ?_⟩
      refine ⟨fun g_ w79 fr80 hS => (Sv_gt rfl rfl rfl hk45 (Sv_val rfl (R_load1 rfl rfl agg3 (cell_add ((hS.rw 1 rfl).cellAt hAq46 hxq46 (fun _ h => h) 1 _ rfl))) ⟨gh0, rfl, hS⟩)), ?_⟩
      refine ⟨fun g_ w81 fr82 hS => (Sv_gt rfl rfl rfl hk45 (Sv_val rfl (R_bin rfl rfl rfl rfl rfl) ⟨gh0, rfl, hS⟩)), ?_⟩
      refine ⟨fun g_ w83 fr84 hS => Sv_val rfl (R_pick_f rfl rfl hk45 rfl) ⟨gh0, rfl, hS⟩, ?_⟩
      refine ⟨fun g_ w85 fr86 hS => Sv_val rfl (R_move rfl rfl) ⟨gh0, rfl, hS⟩, ?_⟩
      refine ⟨fun g_ w87 fr88 hS => (Sv_gt rfl rfl rfl hk47 (Sv_val rfl (R_move rfl rfl) ⟨gh0, rfl, hS⟩)), ?_⟩
      refine ⟨fun g_ w89 fr90 hS => (Sv_gt rfl rfl rfl hk47 (Sv_val rfl (R_move rfl rfl) ⟨gh0, rfl, hS⟩)), ?_⟩
      refine ⟨fun g_ w91 fr92 hS => (Sv_gt rfl rfl rfl hk47 (Sv_val rfl (R_idx rfl rfl hAq48 rfl Try.underlying37 size33 (by omega) (by omega)) ⟨gh0, rfl, hS⟩)), ?_⟩
      refine ⟨fun g_ w93 fr94 hS => (Sv_gt rfl rfl rfl hk47 (Sv_val rfl (R_fld rfl rfl fld33_2) ⟨gh0, rfl, hS⟩)), ?_⟩
      refine ⟨fun g_ w95 fr96 hS => (Sv_gt rfl rfl rfl hk47 (Sv_val rfl (R_load1 rfl rfl agg3 (cell_add ((hS.rw 1 rfl).cellAt hAq48 hxq48 (fun _ h => h) 2 _ rfl))) ⟨gh0, rfl, hS⟩)), ?_⟩
      refine ⟨fun g_ w97 fr98 hS => (Sv_gt rfl rfl rfl hk47 (Sv_val rfl (R_bin rfl rfl rfl rfl rfl) ⟨gh0, rfl, hS⟩)), ?_⟩
      refine ⟨fun g_ w99 fr100 hS => Sv_val rfl (R_pick_f rfl rfl hk47 rfl) ⟨gh0, rfl, hS⟩, ?_⟩
      refine ⟨fun g_ w101 fr102 hS => Sv_val rfl (R_move rfl rfl) ⟨gh0, rfl, hS⟩, ?_⟩
      refine ⟨fun g_ w103 fr104 hS => (Sv_gt rfl rfl rfl hk49 (Sv_val rfl (R_move rfl rfl) ⟨gh0, rfl, hS⟩)), ?_⟩
      refine ⟨fun g_ w105 fr106 hS => (Sv_gt rfl rfl rfl hk49 (Sv_val rfl (R_move rfl rfl) ⟨gh0, rfl, hS⟩)), ?_⟩
      refine ⟨fun g_ w107 fr108 hS => (Sv_gt rfl rfl rfl hk49 (Sv_val rfl (R_idx rfl rfl hAq50 rfl Try.underlying37 size33 (by omega) (by omega)) ⟨gh0, rfl, hS⟩)), ?_⟩
      refine ⟨fun g_ w109 fr110 hS => (Sv_gt rfl rfl rfl hk49 (Sv_val rfl (R_fld rfl rfl fld33_3) ⟨gh0, rfl, hS⟩)), ?_⟩
      refine ⟨fun g_ w111 fr112 hS => (Sv_gt rfl rfl rfl hk49 (Sv_val rfl (R_load1 rfl rfl agg3 (cell_add ((hS.rw 1 rfl).cellAt hAq50 hxq50 (fun _ h => h) 3 _ rfl))) ⟨gh0, rfl, hS⟩)), ?_⟩
      refine ⟨fun g_ w113 fr114 hS => (Sv_gt rfl rfl rfl hk49 (Sv_val rfl (R_bin rfl rfl rfl rfl rfl) ⟨gh0, rfl, hS⟩)), ?_⟩
      refine ⟨fun g_ w115 fr116 hS => Sv_val rfl (R_pick_f rfl rfl hk49 rfl) ⟨gh0, rfl, hS⟩, ?_⟩
      refine ⟨fun g_ w117 fr118 hS => Sv_val rfl (R_move rfl rfl) ⟨gh0, rfl, hS⟩, ?_⟩
      refine ⟨fun g_ w119 fr120 hS => (Sv_gt rfl rfl rfl hk51 (Sv_val rfl (R_move rfl rfl) ⟨gh0, rfl, hS⟩)), ?_⟩
      refine ⟨fun g_ w121 fr122 hS => (Sv_gt rfl rfl rfl hk51 (Sv_val rfl (R_move rfl rfl) ⟨gh0, rfl, hS⟩)), ?_⟩
      refine ⟨fun g_ w123 fr124 hS => (Sv_gt rfl rfl rfl hk51 (Sv_val rfl (R_idx rfl rfl hAq52 rfl Try.underlying37 size33 (by omega) (by omega)) ⟨gh0, rfl, hS⟩)), ?_⟩
      refine ⟨fun g_ w125 fr126 hS => (Sv_gt rfl rfl rfl hk51 (Sv_val rfl (R_fld rfl rfl fld33_0) ⟨gh0, rfl, hS⟩)), ?_⟩
      refine ⟨fun g_ w127 fr128 hS => (Sv_gt rfl rfl rfl hk51 (Sv_val rfl (R_load1 rfl rfl agg3 (cell_add ((hS.rw 1 rfl).cellAt hAq52 hxq52 (fun _ h => h) 0 _ rfl))) ⟨gh0, rfl, hS⟩)), ?_⟩
      refine ⟨fun g_ w129 fr130 hS => (Sv_gt rfl rfl rfl hk51 (Sv_val rfl (R_fld rfl rfl fld39_2) ⟨gh0, rfl, hS⟩)), ?_⟩
      refine ⟨fun g_ w131 fr132 hS => (Sv_gt rfl rfl rfl hk51 (Sv_val rfl (R_load1 rfl rfl agg35 ((hS.bx 0 rfl).cell rfl)) ⟨gh0, rfl, hS⟩)), ?_⟩
      refine ⟨fun g_ w133 fr134 hS => (Sv_gt rfl rfl rfl hk51 (Sv_val rfl (R_len rfl rfl Try.underlying35) ⟨gh0, rfl, hS⟩)), ?_⟩
      refine ⟨fun g_ w135 fr136 hS => (Sv_gt rfl rfl rfl hk51 (Sv_val rfl (R_move rfl rfl) ⟨gh0, rfl, hS⟩)), ?_⟩
      refine ⟨fun g_ w137 fr138 hS => (Sv_gt rfl rfl rfl hk51 (Sv_val rfl (R_move rfl rfl) ⟨gh0, rfl, hS⟩)), ?_⟩
      refine ⟨fun g_ w139 fr140 hS => (Sv_gt rfl rfl rfl hk51 (Sv_val rfl (R_idx rfl rfl hAq53 rfl Try.underlying37 size33 (by omega) (by omega)) ⟨gh0, rfl, hS⟩)), ?_⟩
      refine ⟨fun g_ w141 fr142 hS => (Sv_gt rfl rfl rfl hk51 (Sv_val rfl (R_fld rfl rfl fld33_2) ⟨gh0, rfl, hS⟩)), ?_⟩
      refine ⟨fun g_ w143 fr144 hS => (Sv_gt rfl rfl rfl hk51 (Sv_val rfl (R_load1 rfl rfl agg3 (cell_add ((hS.rw 1 rfl).cellAt hAq53 hxq53 (fun _ h => h) 2 _ rfl))) ⟨gh0, rfl, hS⟩)), ?_⟩
      refine ⟨fun g_ w145 fr146 hS => (Sv_gt rfl rfl rfl hk51 (Sv_val rfl (R_sub64 rfl rfl rfl (by omega) (by omega)) ⟨gh0, rfl, hS⟩)), ?_⟩
      refine ⟨fun g_ w147 fr148 hS => (Sv_gt rfl rfl rfl hk51 (Sv_val rfl (R_bin rfl rfl rfl rfl rfl) ⟨gh0, rfl, hS⟩)), ?_⟩
      refine ⟨fun g_ w149 fr150 hS => Sv_val rfl (R_pick_f rfl rfl hk51 rfl) ⟨gh0, rfl, hS⟩, ?_⟩
      refine ⟨fun g_ w151 fr152 hS => Sv_val rfl (R_move rfl rfl) ⟨gh0, rfl, hS⟩, ?_⟩
      refine ⟨fun g_ w153 fr154 hS => (Sv_gt rfl rfl rfl hk54 (Sv_val rfl (R_move rfl rfl) ⟨gh0, rfl, hS⟩)), ?_⟩
      refine ⟨fun g_ w155 fr156 hS => (Sv_gt rfl rfl rfl hk54 (Sv_val rfl (R_move rfl rfl) ⟨gh0, rfl, hS⟩)), ?_⟩
      refine ⟨fun g_ w157 fr158 hS => (Sv_gt rfl rfl rfl hk54 (Sv_val rfl (R_idx rfl rfl hAq55 rfl Try.underlying37 size33 (by omega) (by omega)) ⟨gh0, rfl, hS⟩)), ?_⟩
      refine ⟨fun g_ w159 fr160 hS => (Sv_gt rfl rfl rfl hk54 (Sv_val rfl (R_fld rfl rfl fld33_1) ⟨gh0, rfl, hS⟩)), ?_⟩
      refine ⟨fun g_ w161 fr162 hS => (Sv_gt rfl rfl rfl hk54 (Sv_val rfl (R_load1 rfl rfl agg3 (cell_add ((hS.rw 1 rfl).cellAt hAq55 hxq55 (fun _ h => h) 1 _ rfl))) ⟨gh0, rfl, hS⟩)), ?_⟩
      refine ⟨fun g_ w163 fr164 hS => (Sv_gt rfl rfl rfl hk54 (Sv_val rfl (R_fld rfl rfl fld39_1) ⟨gh0, rfl, hS⟩)), ?_⟩
      refine ⟨fun g_ w165 fr166 hS => (Sv_gt rfl rfl rfl hk54 (Sv_val rfl (R_load1 rfl rfl agg35 ((hS.bx 0 rfl).cell rfl)) ⟨gh0, rfl, hS⟩)), ?_⟩
      refine ⟨fun g_ w167 fr168 hS => (Sv_gt rfl rfl rfl hk54 (Sv_val rfl (R_len rfl rfl Try.underlying35) ⟨gh0, rfl, hS⟩)), ?_⟩
      refine ⟨fun g_ w169 fr170 hS => (Sv_gt rfl rfl rfl hk54 (Sv_val rfl (R_move rfl rfl) ⟨gh0, rfl, hS⟩)), ?_⟩
      refine ⟨fun g_ w171 fr172 hS => (Sv_gt rfl rfl rfl hk54 (Sv_val rfl (R_move rfl rfl) ⟨gh0, rfl, hS⟩)), ?_⟩
      refine ⟨fun g_ w173 fr174 hS => (Sv_gt rfl rfl rfl hk54 (Sv_val rfl (R_idx rfl rfl hAq56 rfl Try.underlying37 size33 (by omega) (by omega)) ⟨gh0, rfl, hS⟩)), ?_⟩
      refine ⟨fun g_ w175 fr176 hS => (Sv_gt rfl rfl rfl hk54 (Sv_val rfl (R_fld rfl rfl fld33_3) ⟨gh0, rfl, hS⟩)), ?_⟩
      refine ⟨fun g_ w177 fr178 hS => (Sv_gt rfl rfl rfl hk54 (Sv_val rfl (R_load1 rfl rfl agg3 (cell_add ((hS.rw 1 rfl).cellAt hAq56 hxq56 (fun _ h => h) 3 _ rfl))) ⟨gh0, rfl, hS⟩)), ?_⟩
      refine ⟨fun g_ w179 fr180 hS => (Sv_gt rfl rfl rfl hk54 (Sv_val rfl (R_sub64 rfl rfl rfl (by omega) (by omega)) ⟨gh0, rfl, hS⟩)), ?_⟩
      refine ⟨fun g_ w181 fr182 hS => (Sv_gt rfl rfl rfl hk54 (Sv_val rfl (R_bin rfl rfl rfl rfl rfl) ⟨gh0, rfl, hS⟩)), ?_⟩
      refine ⟨fun g_ w183 fr184 hS => Sv_val rfl (R_pick_f rfl rfl hk54 rfl) ⟨gh0, rfl, hS⟩, ?_⟩
      exact trivial
     ·intro g_ w185 hS
      have hS : Sp (FF []) w z w185 [bR b2 39 [.int .i64 a0.Right, .slice Aa0_Widths a0.Widths.length ca0_Widths, .slice Aa0_Heights a0.Heights.length ca0_Heights, .slice Aa0_Cells a0.Cells.length ca0_Cells, .slice Aa0_Merges a0.Merges.length ca0_Merges], oR kdTRect 33 zE AR0_13 cR0_13 (regionsS a0)] := hS
      refine An_fr [(1, .pointer (some ⟨b2, 0, none⟩)), (3, .slice AR0_13 (regionsS a0).length cR0_13), (4, .int .i64 (i : Int)), (109, .bool (decide (((regionsS a0).getD i (default : TRect)).Col > ((a0.Widths.length : Int) - ((regionsS a0).getD i (default : TRect)).Cols))))] rfl ?_
      refine An_done (by decide +kernel) ?_
      refine E_then ?_
      have hk187 : (decide (((regionsS a0).getD i (default : TRect)).Col > ((a0.Widths.length : Int) - ((regionsS a0).getD i (default : TRect)).Cols))) = false := by exact decide_eq_false (by omega)
      have hk187p : ¬ (((regionsS a0).getD i (default : TRect)).Col > ((a0.Widths.length : Int) - ((regionsS a0).getD i (default : TRect)).Cols)) := by simpa using hk187
      refine C_else rfl hk187 ?_
      refine C_skip ?_
      refine E_block_normal ?_
      refine E_then ?_
      refine C_region ?_
      refine W_cons rfl (by decide) (Sv_val rfl (R_move rfl rfl) ?_)
      refine W_cons rfl (by decide) (Sv_val rfl (R_add64 rfl rfl rfl (by omega) (by omega)) ?_)
      refine W_cons rfl (by decide) (Sv_val rfl (R_assign rfl rfl) ?_)
      refine W_nil ?_
      refine E_round [1, 3, 4] ?_ ⟨(i + 1 : Nat), rfl, (by omega), rfl, hS.fin [0, 1] (by decide) rfl⟩
      omega
   ·have _hC1 := trivial
    have hC1p : ¬ ((i : Int) < ((regionsS a0).length : Int)) := by simpa using hC1
    refine C_exit ?_
    refine E_then_exit ?_
    refine E_then_exit ?_
    refine E_block_hit ?_
    refine E_then (C_fr [(1, .pointer (some ⟨b2, 0, none⟩)), (3, .slice AR0_13 (regionsS a0).length cR0_13)] rfl ?_)
    refine C_seq ?_
    refine C_seq ?_
    refine C_region ?_
    refine W_cons rfl (by decide) (Sv_val rfl (R_assign rfl rfl) ?_)
    refine W_nil ?_
    refine E_then ?_
    refine C_block ?_
    refine C_fr [(1, .pointer (some ⟨b2, 0, none⟩)), (3, .slice AR0_13 (regionsS a0).length cR0_13), (6, .int .i64 0)] rfl ?_
    refine C_loop (fun m_ f_ w_ => ∃ (r : Nat), f_ = [(1, .pointer (some ⟨b2, 0, none⟩)), (3, .slice AR0_13 (regionsS a0).length cR0_13), (6, .int .i64 (r : Int))] ∧ r ≤ a0.Heights.length ∧ m_ = a0.Heights.length - r ∧ Sp (FF []) w z w_ [bR b2 39 [.int .i64 a0.Right, .slice Aa0_Widths a0.Widths.length ca0_Widths, .slice Aa0_Heights a0.Heights.length ca0_Heights, .slice Aa0_Cells a0.Cells.length ca0_Cells, .slice Aa0_Merges a0.Merges.length ca0_Merges], oR kdTRect 33 zE AR0_13 cR0_13 (regionsS a0)]) (a0.Heights.length - (0 : Nat)) ⟨(0 : Nat), rfl, (by omega), rfl, hS.fin [0, 1] (by decide) rfl⟩ ?_
    rintro m_ f_ w188 ⟨r, rfl, hI2_0, rfl, hS⟩
    refine C_seq ?_
    refine C_seq ?_
    refine C_region ?_
    refine W_cons rfl (by decide) (Sv_val rfl (R_move rfl rfl) ?_)
    refine W_cons rfl (by decide) (Sv_val rfl (R_fld rfl rfl fld39_2) ?_)
    refine W_cons rfl (by decide) (Sv_val rfl (R_load1 rfl rfl agg35 ((hS.bx 0 rfl).cell rfl)) ?_)
    refine W_cons rfl (by decide) (Sv_val rfl (R_len rfl rfl Try.underlying35) ?_)
    refine W_cons rfl (by decide) (Sv_val rfl (R_bin rfl rfl rfl rfl rfl) ?_)
    refine W_nil ?_
    refine E_then ?_
    refine C_ite rfl (fun hC5 => ?_) (fun hC5 => ?_)
    ·have _hC5 := trivial
     have hC5p : (r : Int) < (a0.Heights.length : Int) := by simpa using hC5
     refine C_skip ?_
     refine E_then (C_fr [(1, .pointer (some ⟨b2, 0, none⟩)), (3, .slice AR0_13 (regionsS a0).length cR0_13), (6, .int .i64 (r : Int))] rfl ?_)
     refine C_seq ?_
     refine C_block ?_
     refine C_seq ?_
     refine C_region ?_
     refine W_cons rfl (by decide) (Sv_val rfl (R_assign rfl rfl) ?_)
     refine W_nil ?_
     refine E_then ?_
     refine C_block ?_
     refine C_fr [(1, .pointer (some ⟨b2, 0, none⟩)), (3, .slice AR0_13 (regionsS a0).length cR0_13), (6, .int .i64 (r : Int)), (7, .int .i64 0)] rfl ?_
     refine C_loop (fun m_ f_ w_ => ∃ (c : Nat), f_ = [(1, .pointer (some ⟨b2, 0, none⟩)), (3, .slice AR0_13 (regionsS a0).length cR0_13), (6, .int .i64 (r : Int)), (7, .int .i64 (c : Int))] ∧ c ≤ a0.Widths.length ∧ m_ = a0.Widths.length - c ∧ Sp (FF []) w z w_ [bR b2 39 [.int .i64 a0.Right, .slice Aa0_Widths a0.Widths.length ca0_Widths, .slice Aa0_Heights a0.Heights.length ca0_Heights, .slice Aa0_Cells a0.Cells.length ca0_Cells, .slice Aa0_Merges a0.Merges.length ca0_Merges], oR kdTRect 33 zE AR0_13 cR0_13 (regionsS a0)]) (a0.Widths.length - (0 : Nat)) ⟨(0 : Nat), rfl, (by omega), rfl, hS.fin [0, 1] (by decide) rfl⟩ ?_
     rintro m_ f_ w189 ⟨c, rfl, hI3_0, rfl, hS⟩
     refine C_seq ?_
     refine C_seq ?_
     refine C_region ?_
     refine W_cons rfl (by decide) (Sv_val rfl (R_move rfl rfl) ?_)
     refine W_cons rfl (by decide) (Sv_val rfl (R_fld rfl rfl fld39_1) ?_)
     refine W_cons rfl (by decide) (Sv_val rfl (R_load1 rfl rfl agg35 ((hS.bx 0 rfl).cell rfl)) ?_)
     refine W_cons rfl (by decide) (Sv_val rfl (R_len rfl rfl Try.underlying35) ?_)
     refine W_cons rfl (by decide) (Sv_val rfl (R_bin rfl rfl rfl rfl rfl) ?_)
     refine W_nil ?_
     refine E_then ?_
     refine C_ite rfl (fun hC6 => ?_) (fun hC6 => ?_)
     ·have _hC6 := trivial
      have hC6p : (c : Int) < (a0.Widths.length : Int) := by simpa using hC6
      refine C_skip ?_
      refine E_then (C_fr [(1, .pointer (some ⟨b2, 0, none⟩)), (3, .slice AR0_13 (regionsS a0).length cR0_13), (6, .int .i64 (r : Int)), (7, .int .i64 (c : Int))] rfl ?_)
      refine C_seq ?_
      refine C_block ?_
      refine C_seq ?_
      have hrg := hgd.region (i := (r : Int)) (j := (c : Int)) (by omega) (by omega) (by omega) (by omega)
      have hgc := hgd.get_corner (i := (r : Int)) (j := (c : Int)) (by omega) (by omega) (by omega) (by omega)
      have hgo := hgd.get_ok (i := (r : Int)) (j := (c : Int)) (by omega) (by omega) (by omega) (by omega)
      have hgs := hgd.get_spot (i := (r : Int)) (j := (c : Int)) (by omega) (by omega) (by omega) (by omega)
      refine C_region ?_
      refine W_cons rfl (by decide) (Sv_val rfl (R_loadN (cs := [.int .i64 a0.Right, .slice Aa0_Widths a0.Widths.length ca0_Widths, .slice Aa0_Heights a0.Heights.length ca0_Heights, .slice Aa0_Cells a0.Cells.length ca0_Cells, .slice Aa0_Merges a0.Merges.length ca0_Merges]) rfl rfl agg39 size39 rfl (boxcells (hS.bx 0 rfl) 0 rfl)) ?_)
      refine W_cons rfl (by decide) (Sv_val rfl (R_move rfl rfl) ?_)
      refine W_cons rfl (by decide) (Sv_val rfl (R_move rfl rfl) ?_)
      refine W_cons rfl (by decide) (Sv_call rfl rfl rfl ent31 ?_)
      refine (region_calls a0 Aa0_Widths ca0_Widths Aa0_Heights ca0_Heights Aa0_Cells ca0_Cells Aa0_Merges ca0_Merges (r : Int) (c : Int) _ _ hS.out0 (hra0_Widths.mono (hS.zl [])) hca0_Widths (hra0_Heights.mono (hS.zl [])) hca0_Heights (hra0_Cells.mono (hS.zl [])) hca0_Cells (hra0_Merges.mono (hS.zl [])) hca0_Merges ).mono ?_
      rintro e_ w190 ⟨rfl, hS_⟩
      refine ⟨_, rfl, ?_⟩
      have hS := hS.call0 hS_
      refine W_cons rfl (by decide) (Sv_val rfl (R_move rfl rfl) ?_)
      refine W_cons rfl (by decide) (Sv_val rfl (R_extract rfl rfl rfl) ?_)
      refine W_cons rfl (by decide) (Sv_val rfl (R_extract rfl rfl rfl) ?_)
      refine W_cons rfl (by decide) (S_box hS rfl (R_alloc rfl alloc33) (fun b193 w192 hS => ?_))
      refine W_cons0 rfl (S_store hS 0 rfl rfl rfl rfl rfl size33 (one_cons rfl (one_cons rfl (one_cons rfl (one_cons rfl one_nil)))) (Nat.le_of_ble_eq_true rfl) (fun w194 hS => ?_))
      have hS : Sp (FF []) w z w194 [bR b193 33 [.int .i64 (regionS a0 (r : Int) (c : Int)).1.Row, .int .i64 (regionS a0 (r : Int) (c : Int)).1.Col, .int .i64 (regionS a0 (r : Int) (c : Int)).1.Rows, .int .i64 (regionS a0 (r : Int) (c : Int)).1.Cols], bR b2 39 [.int .i64 a0.Right, .slice Aa0_Widths a0.Widths.length ca0_Widths, .slice Aa0_Heights a0.Heights.length ca0_Heights, .slice Aa0_Cells a0.Cells.length ca0_Cells, .slice Aa0_Merges a0.Merges.length ca0_Merges], oR kdTRect 33 zE AR0_13 cR0_13 (regionsS a0)] := hS
      refine W_cons rfl (by decide) (Sv_val rfl (R_assign rfl rfl) ?_)
      refine W_nil ?_
      refine E_then (C_fr [(1, .pointer (some ⟨b2, 0, none⟩)), (3, .slice AR0_13 (regionsS a0).length cR0_13), (6, .int .i64 (r : Int)), (7, .int .i64 (c : Int)), (8, .pointer (some ⟨b193, 0, none⟩)), (9, .int .i64 (regionS a0 (r : Int) (c : Int)).2)] rfl ?_)
      refine C_seq ?_
      refine C_region ?_
      refine W_cons rfl (by decide) (Sv_val rfl (R_assign rfl rfl) ?_)
      refine W_nil ?_
      refine E_then ?_
      refine C_seq ?_
      refine C_seq ?_
      refine C_region ?_
      refine W_cons rfl (by decide) (Sv_val rfl (R_assign rfl rfl) ?_)
      refine W_nil ?_
      refine E_then ?_
      refine C_block ?_
      have hs196 : 0 = cntS a0 r c (0 : Nat) := by rfl
      refine C_fr [(1, .pointer (some ⟨b2, 0, none⟩)), (3, .slice AR0_13 (regionsS a0).length cR0_13), (6, .int .i64 (r : Int)), (7, .int .i64 (c : Int)), (8, .pointer (some ⟨b193, 0, none⟩)), (9, .int .i64 (regionS a0 (r : Int) (c : Int)).2), (10, .int .i64 0), (11, .int .i64 0)] rfl ?_
      refine C_loop (fun m_ f_ w_ => ∃ (n : Nat), f_ = [(1, .pointer (some ⟨b2, 0, none⟩)), (3, .slice AR0_13 (regionsS a0).length cR0_13), (6, .int .i64 (r : Int)), (7, .int .i64 (c : Int)), (8, .pointer (some ⟨b193, 0, none⟩)), (9, .int .i64 (regionS a0 (r : Int) (c : Int)).2), (10, .int .i64 (cntS a0 r c n)), (11, .int .i64 (n : Int))] ∧ n ≤ (regionsS a0).length ∧ m_ = (regionsS a0).length - n ∧ Sp (FF []) w z w_ [bR b2 39 [.int .i64 a0.Right, .slice Aa0_Widths a0.Widths.length ca0_Widths, .slice Aa0_Heights a0.Heights.length ca0_Heights, .slice Aa0_Cells a0.Cells.length ca0_Cells, .slice Aa0_Merges a0.Merges.length ca0_Merges], oR kdTRect 33 zE AR0_13 cR0_13 (regionsS a0), bR b193 33 [.int .i64 (regionS a0 (r : Int) (c : Int)).1.Row, .int .i64 (regionS a0 (r : Int) (c : Int)).1.Col, .int .i64 (regionS a0 (r : Int) (c : Int)).1.Rows, .int .i64 (regionS a0 (r : Int) (c : Int)).1.Cols]]) ((regionsS a0).length - (0 : Nat)) ⟨(0 : Nat), (by rw [← hs196] <;> rfl), (by omega), rfl, hS.fin [1, 2, 0] (by decide) rfl⟩ ?_
      rintro m_ f_ w195 ⟨n, rfl, hI4_0, rfl, hS⟩
      refine C_seq ?_
      refine C_seq ?_
      refine C_region ?_
      refine W_cons rfl (by decide) (Sv_val rfl (R_move rfl rfl) ?_)
      refine W_cons rfl (by decide) (Sv_val rfl (R_move rfl rfl) ?_)
      refine W_cons rfl (by decide) (Sv_val rfl (R_len rfl rfl Try.underlying37) ?_)
      refine W_cons rfl (by decide) (Sv_val rfl (R_bin rfl rfl rfl rfl rfl) ?_)
      refine W_nil ?_
      refine E_then ?_
      refine C_ite rfl (fun hC7 => ?_) (fun hC7 => ?_)
      ·have _hC7 := trivial
       have hC7p : (n : Int) < ((regionsS a0).length : Int) := by simpa using hC7
       refine C_skip ?_
       refine E_then ?_
       refine C_seq ?_
       refine C_block ?_
       refine C_seq ?_
       refine C_region ?_
       refine W_cons rfl (by decide) (Sv_val rfl (R_move rfl rfl) ?_)
       refine W_cons rfl (by decide) (Sv_val rfl (R_move rfl rfl) ?_)
       obtain ⟨q197, hAq197, hxq197⟩ := (hS.rw 1 rfl).ix (default : TRect) (i := (n : Int)) (by omega) (by omega)
       refine W_cons rfl (by decide) (Sv_val rfl (R_idx rfl rfl hAq197 rfl Try.underlying37 size33 (by omega) (by omega)) ?_)
       refine W_cons rfl (by decide) (Sv_val rfl (R_loadN (cs := [.int .i64 ((regionsS a0).getD n (default : TRect)).Row, .int .i64 ((regionsS a0).getD n (default : TRect)).Col, .int .i64 ((regionsS a0).getD n (default : TRect)).Rows, .int .i64 ((regionsS a0).getD n (default : TRect)).Cols]) rfl rfl agg33 size33 rfl (fun j u h => cell_add ((hS.rw 1 rfl).cellAt hAq197 hxq197 (fun _ h => h) j u h))) ?_)
       refine W_cons rfl (by decide) (Sv_val rfl (R_move rfl rfl) ?_)
       refine W_cons rfl (by decide) (Sv_val rfl (R_move rfl rfl) ?_)
       refine W_cons rfl (by decide) (Sv_call rfl rfl rfl ent37 ?_)
       refine (within_calls ((regionsS a0).getD n (default : TRect)) (r : Int) (c : Int) _ _ hS.out0  ).mono ?_
       rintro e_ w198 ⟨rfl, hS_⟩
       refine ⟨_, rfl, ?_⟩
       have hS := hS.call0 hS_
       refine W_nil ?_
       refine E_then (C_fr [(1, .pointer (some ⟨b2, 0, none⟩)), (3, .slice AR0_13 (regionsS a0).length cR0_13), (6, .int .i64 (r : Int)), (7, .int .i64 (c : Int)), (8, .pointer (some ⟨b193, 0, none⟩)), (9, .int .i64 (regionS a0 (r : Int) (c : Int)).2), (10, .int .i64 (cntS a0 r c n)), (11, .int .i64 (n : Int)), (143, .bool (withinS ((regionsS a0).getD n (default : TRect)) (r : Int) (c : Int)))] rfl ?_)
       refine C_ite rfl (fun hC8 => ?_) (fun hC8 => ?_)
       ·have _hC8 := trivial
        refine C_seq ?_
        have hcb := cntS_le a0 r c n
        refine C_region ?_
        refine W_cons rfl (by decide) (Sv_val rfl (R_move rfl rfl) ?_)
        refine W_cons rfl (by decide) (Sv_val rfl (R_add64 rfl rfl rfl (by omega) (by omega)) ?_)
        refine W_cons rfl (by decide) (Sv_val rfl (R_assign rfl rfl) ?_)
        refine W_nil ?_
        refine E_then ?_
        refine C_seq ?_
        refine C_fr [(1, .pointer (some ⟨b2, 0, none⟩)), (3, .slice AR0_13 (regionsS a0).length cR0_13), (6, .int .i64 (r : Int)), (7, .int .i64 (c : Int)), (8, .pointer (some ⟨b193, 0, none⟩)), (9, .int .i64 (regionS a0 (r : Int) (c : Int)).2), (10, .int .i64 ((cntS a0 r c n) + 1)), (11, .int .i64 (n : Int))] rfl ?_
        obtain ⟨q202, hAq202, hxq202⟩ := (hS.rw 1 rfl).ix (default : TRect) (i := (n : Int)) (by omega) (by omega)
        refine C_drawn 6 [[], [], [0, 1], [2], [], [3, 4]] [146, 147, 148, 149, 150, 151] [1, 3, 6, 7, 8, 9, 10, 11] rfl (by kernel_rfl) (by decide +kernel) [fun v_ _ => v_ = .slice AR0_13 (regionsS a0).length cR0_13, fun v_ _ => v_ = .int .i64 (n : Int), fun v_ _ => v_ = .pointer (some (q202.add (n * 4))), fun v_ _ => v_ = .agg #[.int .i64 ((regionsS a0).getD n (default : TRect)).Row, .int .i64 ((regionsS a0).getD n (default : TRect)).Col, .int .i64 ((regionsS a0).getD n (default : TRect)).Rows, .int .i64 ((regionsS a0).getD n (default : TRect)).Cols], fun v_ _ => v_ = .agg #[.int .i64 (regionS a0 (r : Int) (c : Int)).1.Row, .int .i64 (regionS a0 (r : Int) (c : Int)).1.Col, .int .i64 (regionS a0 (r : Int) (c : Int)).1.Rows, .int .i64 (regionS a0 (r : Int) (c : Int)).1.Cols], fun v_ _ => v_ = .bool (!decide ((regionsS a0).getD n (default : TRect) = (regionS a0 (r : Int) (c : Int)).1))] ⟨fun _ _ _ h _ => h, ⟨fun _ _ _ h _ => h, ⟨fun _ _ _ h _ => h, ⟨fun _ _ _ h _ => h, ⟨fun _ _ _ h _ => h, ⟨fun _ _ _ h _ => h, trivial⟩⟩⟩⟩⟩⟩ ⟨fun w200 hc201 => by have hS := hS.chg0 hc201; exact Sv_val rfl (R_move rfl rfl) ⟨Chg.refl _ _, rfl⟩, ⟨fun w200 hc201 => by have hS := hS.chg0 hc201; exact Sv_val rfl (R_move rfl rfl) ⟨Chg.refl _ _, rfl⟩, ⟨fun w200 hc201 => by have hS := hS.chg0 hc201; rintro _ rfl _ rfl; exact Sv_val rfl (R_idx rfl rfl hAq202 rfl Try.underlying37 size33 (by omega) (by omega)) ⟨Chg.refl _ _, rfl⟩, ⟨fun w200 hc201 => by have hS := hS.chg0 hc201; rintro _ rfl; exact Sv_val rfl (R_loadN (cs := [.int .i64 ((regionsS a0).getD n (default : TRect)).Row, .int .i64 ((regionsS a0).getD n (default : TRect)).Col, .int .i64 ((regionsS a0).getD n (default : TRect)).Rows, .int .i64 ((regionsS a0).getD n (default : TRect)).Cols]) rfl rfl agg33 size33 rfl (fun j u h => cell_add ((hS.rw 1 rfl).cellAt hAq202 hxq202 (fun _ h => h) j u h))) ⟨Chg.refl _ _, rfl⟩, ⟨fun w200 hc201 => by have hS := hS.chg0 hc201; exact Sv_val rfl (R_loadN (cs := [.int .i64 (regionS a0 (r : Int) (c : Int)).1.Row, .int .i64 (regionS a0 (r : Int) (c : Int)).1.Col, .int .i64 (regionS a0 (r : Int) (c : Int)).1.Rows, .int .i64 (regionS a0 (r : Int) (c : Int)).1.Cols]) rfl rfl agg33 size33 rfl (boxcells (hS.bx 2 rfl) 0 rfl)) ⟨Chg.refl _ _, rfl⟩, ⟨fun w200 hc201 => by have hS := hS.chg0 hc201; rintro _ rfl _ rfl; exact Sv_val rfl (R_neqv rfl rfl rfl eqg33 ((eqv33 ((regionsS a0).getD n (default : TRect)) (regionS a0 (r : Int) (c : Int)).1).up 2)) ⟨Chg.refl _ _, rfl⟩, trivial⟩⟩⟩⟩⟩⟩ ?_
        intro w200 hc201
        have hS := hS.chg0 hc201
        rintro _ rfl _ rfl _ rfl _ rfl _ rfl _ rfl
        refine An_fr [(1, .pointer (some ⟨b2, 0, none⟩)), (3, .slice AR0_13 (regionsS a0).length cR0_13), (6, .int .i64 (r : Int)), (7, .int .i64 (c : Int)), (8, .pointer (some ⟨b193, 0, none⟩)), (9, .int .i64 (regionS a0 (r : Int) (c : Int)).2), (10, .int .i64 ((cntS a0 r c n) + 1)), (11, .int .i64 (n : Int)), (151, .bool (!decide ((regionsS a0).getD n (default : TRect) = (regionS a0 (r : Int) (c : Int)).1)))] rfl ?_
        refine An_done (by decide +kernel) ?_
        refine E_then ?_
        have hk203 : (!decide ((regionsS a0).getD n (default : TRect) = (regionS a0 (r : Int) (c : Int)).1)) = false := by rw [hrg, hgd.within_eq (k := n) (i := (r : Int)) (j := (c : Int)) (by omega) (by omega) (by omega) (by assumption)]; simp
        have hk203p : (regionsS a0).getD n (default : TRect) = (regionS a0 (r : Int) (c : Int)).1 := by simpa using hk203
        refine C_else rfl hk203 ?_
        refine C_skip ?_
        refine E_block_normal ?_
        refine E_then ?_
        refine C_region ?_
        refine W_cons rfl (by decide) (Sv_val rfl (R_move rfl rfl) ?_)
        refine W_cons rfl (by decide) (Sv_val rfl (R_add64 rfl rfl rfl (by omega) (by omega)) ?_)
        refine W_cons rfl (by decide) (Sv_val rfl (R_assign rfl rfl) ?_)
        refine W_nil ?_
        have hs204 : (cntS a0 r c n) + 1 = cntS a0 r c (n + 1 : Nat) := by exact cntS_hit (by omega) (by assumption)
        refine E_round [1, 3, 6, 7, 8, 9, 10, 11] ?_ ⟨(n + 1 : Nat), (by rw [← hs204] <;> rfl), (by omega), rfl, hS.fin [0, 1, 2] (by decide) rfl⟩
        omega
       ·have _hC8 := trivial
        refine C_skip ?_
        refine E_block_normal ?_
        refine E_then ?_
        refine C_region ?_
        refine W_cons rfl (by decide) (Sv_val rfl (R_move rfl rfl) ?_)
        refine W_cons rfl (by decide) (Sv_val rfl (R_add64 rfl rfl rfl (by omega) (by omega)) ?_)
        refine W_cons rfl (by decide) (Sv_val rfl (R_assign rfl rfl) ?_)
        refine W_nil ?_
        have hs205 : cntS a0 r c n = cntS a0 r c (n + 1 : Nat) := by exact cntS_miss (by omega) (by assumption)
        refine E_round [1, 3, 6, 7, 8, 9, 10, 11] ?_ ⟨(n + 1 : Nat), (by rw [← hs205] <;> rfl), (by omega), rfl, hS.fin [0, 1, 2] (by decide) rfl⟩
        omega
      ·have _hC7 := trivial
       have hC7p : ¬ ((n : Int) < ((regionsS a0).length : Int)) := by simpa using hC7
       refine C_exit ?_
       refine E_then_exit ?_
       refine E_then_exit ?_
       refine E_block_hit ?_
       refine E_then (C_fr [(1, .pointer (some ⟨b2, 0, none⟩)), (3, .slice AR0_13 (regionsS a0).length cR0_13), (6, .int .i64 (r : Int)), (7, .int .i64 (c : Int)), (8, .pointer (some ⟨b193, 0, none⟩)), (9, .int .i64 (regionS a0 (r : Int) (c : Int)).2), (10, .int .i64 (cntS a0 r c n))] rfl ?_)
       refine C_seq ?_
       refine C_region ?_
       refine W_cons rfl (by decide) (Sv_val rfl (R_loadN (cs := [.int .i64 a0.Right, .slice Aa0_Widths a0.Widths.length ca0_Widths, .slice Aa0_Heights a0.Heights.length ca0_Heights, .slice Aa0_Cells a0.Cells.length ca0_Cells, .slice Aa0_Merges a0.Merges.length ca0_Merges]) rfl rfl agg39 size39 rfl (boxcells (hS.bx 0 rfl) 0 rfl)) ?_)
       refine W_cons rfl (by decide) (Sv_val rfl (R_move rfl rfl) ?_)
       refine W_cons rfl (by decide) (Sv_val rfl (R_move rfl rfl) ?_)
       refine W_cons rfl (by decide) (Sv_call rfl rfl rfl ent33 ?_)
       refine (get_calls a0 Aa0_Widths ca0_Widths Aa0_Heights ca0_Heights Aa0_Cells ca0_Cells Aa0_Merges ca0_Merges (r : Int) (c : Int) _ _ hS.out0 (hra0_Widths.mono (hS.zl [])) hca0_Widths (hra0_Heights.mono (hS.zl [])) hca0_Heights (hra0_Cells.mono (hS.zl [])) hca0_Cells (hra0_Merges.mono (hS.zl [])) hca0_Merges ).mono ?_
       rintro e_ w206 ⟨rfl, hS_⟩
       refine ⟨_, rfl, ?_⟩
       have hS := hS.call0 hS_
       refine W_cons rfl (by decide) (Sv_val rfl (R_move rfl rfl) ?_)
       refine W_cons rfl (by decide) (Sv_val rfl (R_extract rfl rfl rfl) ?_)
       refine W_cons rfl (by decide) (Sv_val rfl (R_extract rfl rfl rfl) ?_)
       refine W_cons rfl (by decide) (S_box hS rfl (R_alloc rfl alloc46) (fun b209 w208 hS => ?_))
       refine W_cons0 rfl (S_store hS 0 rfl rfl rfl rfl rfl size46 (one_cons rfl (one_cons rfl (one_cons rfl (one_cons rfl (one_cons rfl (one_cons rfl one_nil)))))) (Nat.le_of_ble_eq_true rfl) (fun w210 hS => ?_))
       have hS : Sp (FF []) w z w210 [bR b209 46 [.int .i64 (getS a0 (r : Int) (c : Int)).1.Row, .int .i64 (getS a0 (r : Int) (c : Int)).1.Col, vstr (getS a0 (r : Int) (c : Int)).1.Text, .int .i64 (getS a0 (r : Int) (c : Int)).1.Style.Align, .int .i64 (getS a0 (r : Int) (c : Int)).1.Style.Wrap, .int .i64 (getS a0 (r : Int) (c : Int)).1.Style.Dir], bR b2 39 [.int .i64 a0.Right, .slice Aa0_Widths a0.Widths.length ca0_Widths, .slice Aa0_Heights a0.Heights.length ca0_Heights, .slice Aa0_Cells a0.Cells.length ca0_Cells, .slice Aa0_Merges a0.Merges.length ca0_Merges], oR kdTRect 33 zE AR0_13 cR0_13 (regionsS a0), bR b193 33 [.int .i64 (regionS a0 (r : Int) (c : Int)).1.Row, .int .i64 (regionS a0 (r : Int) (c : Int)).1.Col, .int .i64 (regionS a0 (r : Int) (c : Int)).1.Rows, .int .i64 (regionS a0 (r : Int) (c : Int)).1.Cols]] := hS
       refine W_cons rfl (by decide) (Sv_val rfl (R_assign rfl rfl) ?_)
       refine W_nil ?_
       refine E_then (C_fr [(1, .pointer (some ⟨b2, 0, none⟩)), (3, .slice AR0_13 (regionsS a0).length cR0_13), (6, .int .i64 (r : Int)), (7, .int .i64 (c : Int)), (8, .pointer (some ⟨b193, 0, none⟩)), (9, .int .i64 (regionS a0 (r : Int) (c : Int)).2), (10, .int .i64 (cntS a0 r c n)), (12, .pointer (some ⟨b209, 0, none⟩)), (13, .int .i64 (getS a0 (r : Int) (c : Int)).2)] rfl ?_)
       refine C_seq ?_
       refine C_region ?_
       refine W_cons rfl (by decide) (Sv_val rfl (R_loadN (cs := [.int .i64 a0.Right, .slice Aa0_Widths a0.Widths.length ca0_Widths, .slice Aa0_Heights a0.Heights.length ca0_Heights, .slice Aa0_Cells a0.Cells.length ca0_Cells, .slice Aa0_Merges a0.Merges.length ca0_Merges]) rfl rfl agg39 size39 rfl (boxcells (hS.bx 1 rfl) 0 rfl)) ?_)
       refine W_cons rfl (by decide) (Sv_val rfl (R_fld rfl rfl fld33_0) ?_)
       refine W_cons rfl (by decide) (Sv_val rfl (R_load1 rfl rfl agg3 ((hS.bx 3 rfl).cell rfl)) ?_)
       refine W_cons rfl (by decide) (Sv_val rfl (R_fld rfl rfl fld33_1) ?_)
       refine W_cons rfl (by decide) (Sv_val rfl (R_load1 rfl rfl agg3 ((hS.bx 3 rfl).cell rfl)) ?_)
       refine W_cons rfl (by decide) (Sv_call rfl rfl rfl ent33 ?_)
       refine (get_calls a0 Aa0_Widths ca0_Widths Aa0_Heights ca0_Heights Aa0_Cells ca0_Cells Aa0_Merges ca0_Merges (regionS a0 (r : Int) (c : Int)).1.Row (regionS a0 (r : Int) (c : Int)).1.Col _ _ hS.out0 (hra0_Widths.mono (hS.zl [])) hca0_Widths (hra0_Heights.mono (hS.zl [])) hca0_Heights (hra0_Cells.mono (hS.zl [])) hca0_Cells (hra0_Merges.mono (hS.zl [])) hca0_Merges ).mono ?_
       rintro e_ w211 ⟨rfl, hS_⟩
       refine ⟨_, rfl, ?_⟩
       have hS := hS.call0 hS_
       refine W_cons rfl (by decide) (Sv_val rfl (R_move rfl rfl) ?_)
       refine W_cons rfl (by decide) (Sv_val rfl (R_extract rfl rfl rfl) ?_)
       refine W_cons rfl (by decide) (Sv_val rfl (R_extract rfl rfl rfl) ?_)
       refine W_cons rfl (by decide) (S_box hS rfl (R_alloc rfl alloc46) (fun b214 w213 hS => ?_))
       refine W_cons0 rfl (S_store hS 0 rfl rfl rfl rfl rfl size46 (one_cons rfl (one_cons rfl (one_cons rfl (one_cons rfl (one_cons rfl (one_cons rfl one_nil)))))) (Nat.le_of_ble_eq_true rfl) (fun w215 hS => ?_))
       have hS : Sp (FF []) w z w215 [bR b214 46 [.int .i64 (getS a0 (regionS a0 (r : Int) (c : Int)).1.Row (regionS a0 (r : Int) (c : Int)).1.Col).1.Row, .int .i64 (getS a0 (regionS a0 (r : Int) (c : Int)).1.Row (regionS a0 (r : Int) (c : Int)).1.Col).1.Col, vstr (getS a0 (regionS a0 (r : Int) (c : Int)).1.Row (regionS a0 (r : Int) (c : Int)).1.Col).1.Text, .int .i64 (getS a0 (regionS a0 (r : Int) (c : Int)).1.Row (regionS a0 (r : Int) (c : Int)).1.Col).1.Style.Align, .int .i64 (getS a0 (regionS a0 (r : Int) (c : Int)).1.Row (regionS a0 (r : Int) (c : Int)).1.Col).1.Style.Wrap, .int .i64 (getS a0 (regionS a0 (r : Int) (c : Int)).1.Row (regionS a0 (r : Int) (c : Int)).1.Col).1.Style.Dir], bR b209 46 [.int .i64 (getS a0 (r : Int) (c : Int)).1.Row, .int .i64 (getS a0 (r : Int) (c : Int)).1.Col, vstr (getS a0 (r : Int) (c : Int)).1.Text, .int .i64 (getS a0 (r : Int) (c : Int)).1.Style.Align, .int .i64 (getS a0 (r : Int) (c : Int)).1.Style.Wrap, .int .i64 (getS a0 (r : Int) (c : Int)).1.Style.Dir], bR b2 39 [.int .i64 a0.Right, .slice Aa0_Widths a0.Widths.length ca0_Widths, .slice Aa0_Heights a0.Heights.length ca0_Heights, .slice Aa0_Cells a0.Cells.length ca0_Cells, .slice Aa0_Merges a0.Merges.length ca0_Merges], oR kdTRect 33 zE AR0_13 cR0_13 (regionsS a0), bR b193 33 [.int .i64 (regionS a0 (r : Int) (c : Int)).1.Row, .int .i64 (regionS a0 (r : Int) (c : Int)).1.Col, .int .i64 (regionS a0 (r : Int) (c : Int)).1.Rows, .int .i64 (regionS a0 (r : Int) (c : Int)).1.Cols]] := hS
       refine W_cons rfl (by decide) (Sv_val rfl (R_assign rfl rfl) ?_)
       refine W_nil ?_
       refine E_then (C_fr [(1, .pointer (some ⟨b2, 0, none⟩)), (3, .slice AR0_13 (regionsS a0).length cR0_13), (6, .int .i64 (r : Int)), (7, .int .i64 (c : Int)), (8, .pointer (some ⟨b193, 0, none⟩)), (9, .int .i64 (regionS a0 (r : Int) (c : Int)).2), (10, .int .i64 (cntS a0 r c n)), (12, .pointer (some ⟨b209, 0, none⟩)), (13, .int .i64 (getS a0 (r : Int) (c : Int)).2), (14, .pointer (some ⟨b214, 0, none⟩)), (15, .int .i64 (getS a0 (regionS a0 (r : Int) (c : Int)).1.Row (regionS a0 (r : Int) (c : Int)).1.Col).2)] rfl ?_)
       refine C_seq ?_
       have hcn := cntS_end hgd (i := (r : Int)) (j := (c : Int)) (by omega) (by omega) (by omega) (by omega) (n := n) (by omega)
       refine C_region ?_
       refine W_cons rfl (by decide) (Sv_val rfl (R_move rfl rfl) ?_)
       refine W_cons rfl (by decide) (Sv_val rfl (R_bin rfl rfl rfl rfl rfl) ?_)
       refine W_cons rfl (by decide) (Sv_val rfl (R_move rfl rfl) ?_)
       have hk216 : (((regionS a0 (r : Int) (c : Int)).2 != 0)) = false := by simp [hrg, hgc, hgo, hgs, hcn]
       have hk216p : (regionS a0 (r : Int) (c : Int)).2 = 0 := by simpa using hk216
       refine W_cons rfl (by decide) (Sv_gt rfl rfl rfl hk216 (Sv_val rfl (R_move rfl rfl) ?_))
       refine W_cons rfl (by decide) (Sv_gt rfl rfl rfl hk216 (Sv_val rfl (R_bin rfl rfl rfl rfl rfl) ?_))
       refine W_cons rfl (by decide) (Sv_val rfl (R_pick_f rfl rfl hk216 rfl) ?_)
       refine W_cons rfl (by decide) (Sv_val rfl (R_move rfl rfl) ?_)
       have hk217 : (((getS a0 (r : Int) (c : Int)).2 != 0)) = false := by simp [hrg, hgc, hgo, hgs, hcn]
       have hk217p : (getS a0 (r : Int) (c : Int)).2 = 0 := by simpa using hk217
       refine W_cons rfl (by decide) (Sv_gt rfl rfl rfl hk217 (Sv_val rfl (R_move rfl rfl) ?_))
       refine W_cons rfl (by decide) (Sv_gt rfl rfl rfl hk217 (Sv_val rfl (R_bin rfl rfl rfl rfl rfl) ?_))
       refine W_cons rfl (by decide) (Sv_val rfl (R_pick_f rfl rfl hk217 rfl) ?_)
       refine W_cons rfl (by decide) (Sv_val rfl (R_move rfl rfl) ?_)
       have hk218 : (((getS a0 (regionS a0 (r : Int) (c : Int)).1.Row (regionS a0 (r : Int) (c : Int)).1.Col).2 != 0)) = false := by simp [hrg, hgc, hgo, hgs, hcn]
       have hk218p : (getS a0 (regionS a0 (r : Int) (c : Int)).1.Row (regionS a0 (r : Int) (c : Int)).1.Col).2 = 0 := by simpa using hk218
       refine W_cons rfl (by decide) (Sv_gt rfl rfl rfl hk218 (Sv_val rfl (R_move rfl rfl) ?_))
       refine W_cons rfl (by decide) (Sv_gt rfl rfl rfl hk218 (Sv_val rfl (R_bin rfl rfl rfl rfl rfl) ?_))
       refine W_cons rfl (by decide) (Sv_val rfl (R_pick_f rfl rfl hk218 rfl) ?_)
       refine W_cons rfl (by decide) (Sv_val rfl (R_move rfl rfl) ?_)
       have hk219 : (((cntS a0 r c n) != 1)) = false := by simp [hrg, hgc, hgo, hgs, hcn]
       have hk219p : (cntS a0 r c n) = 1 := by simpa using hk219
       refine W_cons rfl (by decide) (Sv_gt rfl rfl rfl hk219 (Sv_val rfl (R_loadN (cs := [.int .i64 (getS a0 (r : Int) (c : Int)).1.Row, .int .i64 (getS a0 (r : Int) (c : Int)).1.Col, vstr (getS a0 (r : Int) (c : Int)).1.Text, .int .i64 (getS a0 (r : Int) (c : Int)).1.Style.Align, .int .i64 (getS a0 (r : Int) (c : Int)).1.Style.Wrap, .int .i64 (getS a0 (r : Int) (c : Int)).1.Style.Dir]) rfl rfl agg46 size46 rfl (boxcells (hS.bx 1 rfl) 0 rfl)) ?_))
       refine W_cons rfl (by decide) (Sv_gt rfl rfl rfl hk219 (Sv_val rfl (R_loadN (cs := [.int .i64 (getS a0 (regionS a0 (r : Int) (c : Int)).1.Row (regionS a0 (r : Int) (c : Int)).1.Col).1.Row, .int .i64 (getS a0 (regionS a0 (r : Int) (c : Int)).1.Row (regionS a0 (r : Int) (c : Int)).1.Col).1.Col, vstr (getS a0 (regionS a0 (r : Int) (c : Int)).1.Row (regionS a0 (r : Int) (c : Int)).1.Col).1.Text, .int .i64 (getS a0 (regionS a0 (r : Int) (c : Int)).1.Row (regionS a0 (r : Int) (c : Int)).1.Col).1.Style.Align, .int .i64 (getS a0 (regionS a0 (r : Int) (c : Int)).1.Row (regionS a0 (r : Int) (c : Int)).1.Col).1.Style.Wrap, .int .i64 (getS a0 (regionS a0 (r : Int) (c : Int)).1.Row (regionS a0 (r : Int) (c : Int)).1.Col).1.Style.Dir]) rfl rfl agg46 size46 rfl (boxcells (hS.bx 0 rfl) 0 rfl)) ?_))
       refine W_cons rfl (by decide) (Sv_gt rfl rfl rfl hk219 (Sv_val rfl (R_neqv rfl rfl rfl eqg46 ((eqv46 (getS a0 (r : Int) (c : Int)).1 (getS a0 (regionS a0 (r : Int) (c : Int)).1.Row (regionS a0 (r : Int) (c : Int)).1.Col).1).up 1)) ?_))
       refine W_cons rfl (by decide) (Sv_val rfl (R_pick_f rfl rfl hk219 rfl) ?_)
       refine W_cons rfl (by decide) (Sv_val rfl (R_move rfl rfl) ?_)
       have hk220 : (!decide ((getS a0 (r : Int) (c : Int)).1 = (getS a0 (regionS a0 (r : Int) (c : Int)).1.Row (regionS a0 (r : Int) (c : Int)).1.Col).1)) = false := by simp [hrg, hgc, hgo, hgs, hcn]
       have hk220p : (getS a0 (r : Int) (c : Int)).1 = (getS a0 (regionS a0 (r : Int) (c : Int)).1.Row (regionS a0 (r : Int) (c : Int)).1.Col).1 := by simpa using hk220
       refine W_cons rfl (by decide) (Sv_gt rfl rfl rfl hk220 (Sv_val rfl (R_fld rfl rfl fld46_0) ?_))
       refine W_cons rfl (by decide) (Sv_gt rfl rfl rfl hk220 (Sv_val rfl (R_load1 rfl rfl agg3 ((hS.bx 1 rfl).cell rfl)) ?_))
       refine W_cons rfl (by decide) (Sv_gt rfl rfl rfl hk220 (Sv_val rfl (R_fld rfl rfl fld33_0) ?_))
       refine W_cons rfl (by decide) (Sv_gt rfl rfl rfl hk220 (Sv_val rfl (R_load1 rfl rfl agg3 ((hS.bx 4 rfl).cell rfl)) ?_))
       refine W_cons rfl (by decide) (Sv_gt rfl rfl rfl hk220 (Sv_val rfl (R_bin rfl rfl rfl rfl rfl) ?_))
       refine W_cons rfl (by decide) (Sv_val rfl (R_pick_f rfl rfl hk220 rfl) ?_)
       refine W_cons rfl (by decide) (Sv_val rfl (R_move rfl rfl) ?_)
       have hk221 : (((getS a0 (r : Int) (c : Int)).1.Row != (regionS a0 (r : Int) (c : Int)).1.Row)) = false := by simp [hrg, hgc, hgo, hgs, hcn]
       have hk221p : (getS a0 (r : Int) (c : Int)).1.Row = (regionS a0 (r : Int) (c : Int)).1.Row := by simpa using hk221
       refine W_cons rfl (by decide) (Sv_gt rfl rfl rfl hk221 (Sv_val rfl (R_fld rfl rfl fld46_1) ?_))
       refine W_cons rfl (by decide) (Sv_gt rfl rfl rfl hk221 (Sv_val rfl (R_load1 rfl rfl agg3 ((hS.bx 1 rfl).cell rfl)) ?_))
       refine W_cons rfl (by decide) (Sv_gt rfl rfl rfl hk221 (Sv_val rfl (R_fld rfl rfl fld33_1) ?_))
       refine W_cons rfl (by decide) (Sv_gt rfl rfl rfl hk221 (Sv_val rfl (R_load1 rfl rfl agg3 ((hS.bx 4 rfl).cell rfl)) ?_))
       refine W_cons rfl (by decide) (Sv_gt rfl rfl rfl hk221 (Sv_val rfl (R_bin rfl rfl rfl rfl rfl) ?_))
       refine W_cons rfl (by decide) (Sv_val rfl (R_pick_f rfl rfl hk221 rfl) ?_)
       refine W_nil ?_
       refine E_then (C_fr [(1, .pointer (some ⟨b2, 0, none⟩)), (3, .slice AR0_13 (regionsS a0).length cR0_13), (6, .int .i64 (r : Int)), (7, .int .i64 (c : Int)), (200, .bool ((getS a0 (r : Int) (c : Int)).1.Col != (regionS a0 (r : Int) (c : Int)).1.Col))] rfl ?_)
       have hk222 : (((getS a0 (r : Int) (c : Int)).1.Col != (regionS a0 (r : Int) (c : Int)).1.Col)) = false := by simp [hrg, hgc, hgo, hgs, hcn]
       have hk222p : (getS a0 (r : Int) (c : Int)).1.Col = (regionS a0 (r : Int) (c : Int)).1.Col := by simpa using hk222
       refine C_else rfl hk222 ?_
       refine C_skip ?_
       refine E_block_normal ?_
       refine E_then ?_
       refine C_region ?_
       refine W_cons rfl (by decide) (Sv_val rfl (R_move rfl rfl) ?_)
       refine W_cons rfl (by decide) (Sv_val rfl (R_add64 rfl rfl rfl (by omega) (by omega)) ?_)
       refine W_cons rfl (by decide) (Sv_val rfl (R_assign rfl rfl) ?_)
       refine W_nil ?_
       refine E_round [1, 3, 6, 7] ?_ ⟨(c + 1 : Nat), rfl, (by omega), rfl, hS.fin [2, 3] (by decide) rfl⟩
       omega
     ·have _hC6 := trivial
      have hC6p : ¬ ((c : Int) < (a0.Widths.length : Int)) := by simpa using hC6
      refine C_exit ?_
      refine E_then_exit ?_
      refine E_then_exit ?_
      refine E_block_hit ?_
      refine E_block_normal ?_
      refine E_then (C_fr [(1, .pointer (some ⟨b2, 0, none⟩)), (3, .slice AR0_13 (regionsS a0).length cR0_13), (6, .int .i64 (r : Int))] rfl ?_)
      refine C_region ?_
      refine W_cons rfl (by decide) (Sv_val rfl (R_move rfl rfl) ?_)
      refine W_cons rfl (by decide) (Sv_val rfl (R_add64 rfl rfl rfl (by omega) (by omega)) ?_)
      refine W_cons rfl (by decide) (Sv_val rfl (R_assign rfl rfl) ?_)
      refine W_nil ?_
      refine E_round [1, 3, 6] ?_ ⟨(r + 1 : Nat), rfl, (by omega), rfl, hS.fin [0, 1] (by decide) rfl⟩
      omega
    ·have _hC5 := trivial
     have hC5p : ¬ ((r : Int) < (a0.Heights.length : Int)) := by simpa using hC5
     refine C_exit ?_
     refine E_then_exit ?_
     refine E_then_exit ?_
     refine E_block_hit ?_
     refine E_then (C_fr [] rfl ?_)
     refine C_seq ?_
     refine C_region ?_
     refine W_cons rfl (by decide) (Sv_call rfl rfl rfl ent29 ?_)
     refine (lawk_calls  _ _ hS.out0  ).mono ?_
     rintro e_ w223 ⟨rfl, hS_⟩
     refine ⟨_, rfl, ?_⟩
     have hS := hS.call0 hS_
     refine W_cons rfl (by decide) (Sv_val rfl (R_assign rfl rfl) ?_)
     refine W_nil ?_
     refine E_then ?_
     refine C_ret ?_
     refine E_ret1 rfl rfl ?_
     exact ⟨Lret1 (Lbool (show true = true by rfl)), hS.fin [] (by decide) rfl⟩

end Go.Proofs.YtgjnhmidbapjmaaG
