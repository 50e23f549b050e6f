/- Walks, each function once: what it computes. -/
import Derived.Test.YtalpekmbknjeeaaU3
set_option linter.all false
namespace Go.Proofs.YtalpekmbknjeeaaG
open Go Go.RowKit
set_option maxHeartbeats 4000000 in
set_option maxRecDepth 20000 in
theorem rorder_calls (a0 : TSheet) (Aa0_Widths : Option Addr) (ca0_Widths : Nat) (Aa0_Heights : Option Addr) (ca0_Heights : Nat) (Aa0_Cells : Option Addr) (ca0_Cells : Nat) (Aa0_Merges : Option Addr) (ca0_Merges : Nat) (z : Z) (w : World) (hI : In z w []) (hra0_Widths : Rd (kint .i64) z Aa0_Widths a0.Widths) (hca0_Widths : Cap Aa0_Widths a0.Widths.length ca0_Widths) (hra0_Heights : Rd (kint .i64) z Aa0_Heights a0.Heights) (hca0_Heights : Cap Aa0_Heights a0.Heights.length ca0_Heights) (hra0_Cells : Rd kdTCell z Aa0_Cells a0.Cells) (hca0_Cells : Cap Aa0_Cells a0.Cells.length ca0_Cells) (hra0_Merges : Rd kdTRect z Aa0_Merges a0.Merges) (hca0_Merges : Cap Aa0_Merges a0.Merges.length ca0_Merges)  :
    Calls Try.prog 57 #[.agg #[.int .i64 a0.Right, .slice Aa0_Widths a0.Widths.length ca0_Widths, .slice Aa0_Heights a0.Heights.length ca0_Heights, .slice Aa0_Cells a0.Cells.length ca0_Cells, .slice Aa0_Merges a0.Merges.length ca0_Merges]] w fun e w' => e = .returned (.bool (rorderS a0)) ∧ Sp (FF []) w z w' [] := by
 have hla0_Widths := hca0_Widths.le
 have hma0_Widths := hca0_Widths.mx
 have hla0_Heights := hca0_Heights.le
 have hma0_Heights := hca0_Heights.mx
 have hla0_Cells := hca0_Cells.le
 have hma0_Cells := hca0_Cells.mx
 have hla0_Merges := hca0_Merges.le
 have hma0_Merges := hca0_Merges.mx
 have hS := hI.sp
 refine Calls_of (vs := [.agg #[.int .i64 a0.Right, .slice Aa0_Widths a0.Widths.length ca0_Widths, .slice Aa0_Heights a0.Heights.length ca0_Heights, .slice Aa0_Cells a0.Cells.length ca0_Cells, .slice Aa0_Merges a0.Merges.length ca0_Merges]]) (N := 176) Try.func57 rfl rfl (Nat.le_of_ble_eq_true rfl) ?_
 refine C_seq ?_
 refine C_region ?_
 refine W_cons rfl (by decide) (S_box hS rfl (R_box (cs := [.int .i64 a0.Right, .slice Aa0_Widths a0.Widths.length ca0_Widths, .slice Aa0_Heights a0.Heights.length ca0_Heights, .slice Aa0_Cells a0.Cells.length ca0_Cells, .slice Aa0_Merges a0.Merges.length ca0_Merges]) rfl rfl rfl) (fun b2 w1 hS => ?_))
 refine wv rfl rfl rfl (R_assign rfl rfl) ?_
 refine W_nil ?_
 refine E_then ?_
 refine C_seq ?_
 refine C_seq ?_
 refine C_region ?_
 refine wv rfl rfl rfl (R_fld rfl rfl fld26_0) <| wv rfl rfl rfl (R_load1 rfl rfl agg3 ((hS.bx 0 rfl).cell rfl)) <| wv rfl rfl rfl (R_bin rfl rfl rfl rfl rfl) <| wv rfl rfl rfl (R_move rfl rfl) <| wg rfl rfl (Gd.on rfl rfl rfl) (fun hB => R_fld rfl rfl fld26_0) <| wg rfl rfl (Gd.on rfl rfl rfl) (fun hB => Runs.at_ (i := 13) (gl rfl hB) (R_load1 rfl rfl agg3 ((hS.bx 0 rfl).cell rfl))) <| wg rfl rfl (Gd.on rfl rfl rfl) (fun hB => Runs.at_ (i := 14) (gl rfl hB) (R_bin rfl rfl rfl rfl rfl)) <| wv rfl rfl rfl (R_pick_and rfl rfl rfl rfl) <| wv rfl rfl rfl (R_move rfl rfl) <| wg rfl rfl (Gd.no rfl rfl rfl) (fun hB => R_fld rfl rfl fld26_1) <| wg rfl rfl (Gd.no rfl rfl rfl) (fun hB => Runs.at_ (i := 18) (gl rfl hB) (R_load1 rfl rfl agg22 ((hS.bx 0 rfl).cell rfl))) <| wg rfl rfl (Gd.no rfl rfl rfl) (fun hB => Runs.at_ (i := 19) (gl rfl hB) (R_len rfl rfl Try.underlying22)) <| wg rfl rfl (Gd.no rfl rfl rfl) (fun hB => Runs.at_ (i := 20) (gl rfl hB) (R_bin rfl rfl rfl rfl rfl)) <| wv rfl rfl rfl (R_pick_or rfl rfl rfl rfl) <| wv rfl rfl rfl (R_move rfl rfl) <| wg rfl rfl (Gd.no rfl rfl rfl) (fun hB => R_fld rfl rfl fld26_2) <| wg rfl rfl (Gd.no rfl rfl rfl) (fun hB => Runs.at_ (i := 24) (gl rfl hB) (R_load1 rfl rfl agg22 ((hS.bx 0 rfl).cell rfl))) <| wg rfl rfl (Gd.no rfl rfl rfl) (fun hB => Runs.at_ (i := 25) (gl rfl hB) (R_len rfl rfl Try.underlying22)) <| wg rfl rfl (Gd.no rfl rfl rfl) (fun hB => Runs.at_ (i := 26) (gl rfl hB) (R_bin rfl rfl rfl rfl rfl)) <| wv rfl rfl rfl (R_pick_or rfl rfl rfl rfl) ?_
 refine W_nil ?_
 refine E_then (C_fr [(1, .pointer (some ⟨b2, 0, none⟩)), (28, .bool ((((a0.Right != 0) && (a0.Right != 1)) || ((a0.Widths.length : Int) == 0)) || ((a0.Heights.length : Int) == 0)))] rfl ?_)
 refine C_ite rfl (fun hC0 => ?_) (fun hC0 => ?_)
 ·have _hC0 := trivial
  have hC0p : (((¬ a0.Right = 0 ∧ ¬ a0.Right = 1) ∨ (a0.Widths.length : Int) = 0) ∨ (a0.Heights.length : Int) = 0) := by simpa using hC0
  refine C_seq ?_
  refine C_region ?_
  refine wv rfl rfl rfl (R_assign rfl rfl) ?_
  refine W_nil ?_
  refine E_then ?_
  refine C_ret ?_
  refine E_then_ret ?_
  refine E_ret1 rfl rfl ?_
  exact ⟨Lret1 (Lbool (show false = (rorderS a0) by first | exact rord_top (by omega) | exact rord_ok (i := i) (j := j) (k := k) (l := l) (by omega) (by omega) hI0_1 (by omega) hI1_1 (by omega) (by omega) hI2_1 (by omega) (by omega) hI3_1 | exact rord_m (i := l) (by omega) (by unfold rmergeS; simp_all) | exact rord_c (i := k) (by omega) (by unfold rcellS; simp_all) | exact rord_h (i := j) (by omega) (by assumption) | exact rord_w (i := i) (by omega) (by assumption))), hS.fin [] (by decide) rfl⟩
 ·have _hC0 := trivial
  have hC0p : ¬ ((((¬ a0.Right = 0 ∧ ¬ a0.Right = 1) ∨ (a0.Widths.length : Int) = 0) ∨ (a0.Heights.length : Int) = 0)) := by simpa using hC0
  refine C_skip ?_
  refine E_then ?_
  refine C_seq ?_
  refine C_seq ?_
  refine C_region ?_
  refine wv rfl rfl rfl (R_assign rfl rfl) ?_
  refine W_nil ?_
  refine E_then ?_
  refine C_block ?_
  refine C_fr [(1, .pointer (some ⟨b2, 0, none⟩)), (3, .int .i64 0)] rfl ?_
  refine C_loop (fun m_ f_ w_ => ∃ (i : Nat), f_ = [(1, .pointer (some ⟨b2, 0, none⟩)), (3, .int .i64 (i : Int))] ∧ i ≤ a0.Widths.length ∧ (a0.Widths.take i).any (fun n => decide (n < 1)) = false ∧ m_ = a0.Widths.length - i ∧ Sp (FF []) w z w_ [bR b2 26 [.int .i64 a0.Right, .slice Aa0_Widths a0.Widths.length ca0_Widths, .slice Aa0_Heights a0.Heights.length ca0_Heights, .slice Aa0_Cells a0.Cells.length ca0_Cells, .slice Aa0_Merges a0.Merges.length ca0_Merges]]) (a0.Widths.length - (0 : Nat)) ⟨(0 : Nat), rfl, (by omega), (by rfl), rfl, hS.fin [0] (by decide) rfl⟩ ?_
  rintro m_ f_ w3 ⟨i, rfl, hI0_0, hI0_1, rfl, hS⟩
  refine C_seq ?_
  refine C_seq ?_
  refine C_region ?_
  refine wv rfl rfl rfl (R_move rfl rfl) <| wv rfl rfl rfl (R_fld rfl rfl fld26_1) <| wv rfl rfl rfl (R_load1 rfl rfl agg22 ((hS.bx 0 rfl).cell rfl)) <| wv rfl rfl rfl (R_len rfl rfl Try.underlying22) <| wv rfl rfl rfl (R_bin rfl rfl rfl rfl rfl) ?_
  refine W_nil ?_
  refine E_then ?_
  refine C_ite rfl (fun hC1 => ?_) (fun hC1 => ?_)
  ·have _hC1 := trivial
   have hC1p : (i : Int) < (a0.Widths.length : Int) := by simpa using hC1
   refine C_skip ?_
   refine E_then (C_fr [(1, .pointer (some ⟨b2, 0, none⟩)), (3, .int .i64 (i : Int))] rfl ?_)
   refine C_seq ?_
   refine C_block ?_
   refine C_seq ?_
   refine C_region ?_
   refine wv rfl rfl rfl (R_fld rfl rfl fld26_1) <| wv rfl rfl rfl (R_load1 rfl rfl agg22 ((hS.bx 0 rfl).cell rfl)) <| wv rfl rfl rfl (R_move rfl rfl) ?_
   obtain ⟨q4, csq4, hAq4, rfl, hkq4⟩ := hra0_Widths.at_ (0 : Int) (i := (i : Int)) (by omega) (by omega)
   have hkq4 : ∀ (j_ : Nat) (u_ : Value), ([.int .i64 (a0.Widths.getD i (0 : Int))] : List Value)[j_]? = some u_ → cz z (q4.add (i * 1 + j_)) = some u_ := hkq4
   refine wv rfl rfl rfl (R_idx rfl rfl hAq4 rfl Try.underlying22 size3 (by omega) (by omega)) <| wv rfl rfl rfl (R_load1 rfl rfl agg3 (hS.sub.cell (hkq4 0 _ rfl))) <| wv rfl rfl rfl (R_bin rfl rfl rfl rfl rfl) ?_
   refine W_nil ?_
   refine E_then (C_fr [(1, .pointer (some ⟨b2, 0, none⟩)), (3, .int .i64 (i : Int)), (41, .bool (decide ((a0.Widths.getD i (0 : Int)) < 1)))] rfl ?_)
   refine C_ite rfl (fun hC2 => ?_) (fun hC2 => ?_)
   ·have _hC2 := trivial
    have hC2p : (a0.Widths.getD i (0 : Int)) < 1 := by simpa using hC2
    refine C_seq ?_
    refine C_region ?_
    refine wv rfl rfl rfl (R_assign rfl rfl) ?_
    refine W_nil ?_
    refine E_then ?_
    refine C_ret ?_
    refine E_block_ret ?_
    refine E_then_ret ?_
    refine E_then_ret ?_
    refine E_block_ret ?_
    refine E_then_ret ?_
    refine E_ret1 rfl rfl ?_
    exact ⟨Lret1 (Lbool (show false = (rorderS a0) by first | exact rord_top (by omega) | exact rord_ok (i := i) (j := j) (k := k) (l := l) (by omega) (by omega) hI0_1 (by omega) hI1_1 (by omega) (by omega) hI2_1 (by omega) (by omega) hI3_1 | exact rord_m (i := l) (by omega) (by unfold rmergeS; simp_all) | exact rord_c (i := k) (by omega) (by unfold rcellS; simp_all) | exact rord_h (i := j) (by omega) (by assumption) | exact rord_w (i := i) (by omega) (by assumption))), hS.fin [] (by decide) rfl⟩
   ·have _hC2 := trivial
    have hC2p : ¬ ((a0.Widths.getD i (0 : Int)) < 1) := by simpa using hC2
    refine C_skip ?_
    refine E_block_normal ?_
    refine E_then ?_
    refine C_region ?_
    refine wv rfl rfl rfl (R_move rfl rfl) <| wv rfl rfl rfl (R_add64 rfl rfl rfl (by omega) (by omega)) <| wv rfl rfl rfl (R_assign rfl rfl) ?_
    refine W_nil ?_
    refine E_round [1, 3] ?_ ⟨(i + 1 : Nat), rfl, (by omega), (by exact any_step (p := (fun n => decide (n < 1))) 0 (by omega) hI0_1 (by simp_all)), rfl, hS.fin [0] (by decide) rfl⟩
    omega
  ·have _hC1 := trivial
   have hC1p : ¬ ((i : Int) < (a0.Widths.length : Int)) := by simpa using hC1
   refine C_exit ?_
   refine E_then_exit ?_
   refine E_then_exit ?_
   refine E_block_hit ?_
   refine E_then (C_fr [(1, .pointer (some ⟨b2, 0, none⟩))] rfl ?_)
   refine C_seq ?_
   refine C_seq ?_
   refine C_region ?_
   refine wv rfl rfl rfl (R_assign rfl rfl) ?_
   refine W_nil ?_
   refine E_then ?_
   refine C_block ?_
   refine C_fr [(1, .pointer (some ⟨b2, 0, none⟩)), (4, .int .i64 0)] rfl ?_
   refine C_loop (fun m_ f_ w_ => ∃ (j : Nat), f_ = [(1, .pointer (some ⟨b2, 0, none⟩)), (4, .int .i64 (j : Int))] ∧ j ≤ a0.Heights.length ∧ (a0.Heights.take j).any (fun n => decide (n < 1)) = false ∧ m_ = a0.Heights.length - j ∧ Sp (FF []) w z w_ [bR b2 26 [.int .i64 a0.Right, .slice Aa0_Widths a0.Widths.length ca0_Widths, .slice Aa0_Heights a0.Heights.length ca0_Heights, .slice Aa0_Cells a0.Cells.length ca0_Cells, .slice Aa0_Merges a0.Merges.length ca0_Merges]]) (a0.Heights.length - (0 : Nat)) ⟨(0 : Nat), rfl, (by omega), (by rfl), rfl, hS.fin [0] (by decide) rfl⟩ ?_
   rintro m_ f_ w5 ⟨j, rfl, hI1_0, hI1_1, rfl, hS⟩
   refine C_seq ?_
   refine C_seq ?_
   refine C_region ?_
   refine wv rfl rfl rfl (R_move rfl rfl) <| wv rfl rfl rfl (R_fld rfl rfl fld26_2) <| wv rfl rfl rfl (R_load1 rfl rfl agg22 ((hS.bx 0 rfl).cell rfl)) <| wv rfl rfl rfl (R_len rfl rfl Try.underlying22) <| wv rfl rfl rfl (R_bin rfl rfl rfl rfl rfl) ?_
   refine W_nil ?_
   refine E_then ?_
   refine C_ite rfl (fun hC3 => ?_) (fun hC3 => ?_)
   ·have _hC3 := trivial
    have hC3p : (j : Int) < (a0.Heights.length : Int) := by simpa using hC3
    refine C_skip ?_
    refine E_then (C_fr [(1, .pointer (some ⟨b2, 0, none⟩)), (4, .int .i64 (j : Int))] rfl ?_)
    refine C_seq ?_
    refine C_block ?_
    refine C_seq ?_
    refine C_region ?_
    refine wv rfl rfl rfl (R_fld rfl rfl fld26_2) <| wv rfl rfl rfl (R_load1 rfl rfl agg22 ((hS.bx 0 rfl).cell rfl)) <| wv rfl rfl rfl (R_move rfl rfl) ?_
    obtain ⟨q6, csq6, hAq6, rfl, hkq6⟩ := hra0_Heights.at_ (0 : Int) (i := (j : Int)) (by omega) (by omega)
    have hkq6 : ∀ (j_ : Nat) (u_ : Value), ([.int .i64 (a0.Heights.getD j (0 : Int))] : List Value)[j_]? = some u_ → cz z (q6.add (j * 1 + j_)) = some u_ := hkq6
    refine wv rfl rfl rfl (R_idx rfl rfl hAq6 rfl Try.underlying22 size3 (by omega) (by omega)) <| wv rfl rfl rfl (R_load1 rfl rfl agg3 (hS.sub.cell (hkq6 0 _ rfl))) <| wv rfl rfl rfl (R_bin rfl rfl rfl rfl rfl) ?_
    refine W_nil ?_
    refine E_then (C_fr [(1, .pointer (some ⟨b2, 0, none⟩)), (4, .int .i64 (j : Int)), (54, .bool (decide ((a0.Heights.getD j (0 : Int)) < 1)))] rfl ?_)
    refine C_ite rfl (fun hC4 => ?_) (fun hC4 => ?_)
    ·have _hC4 := trivial
     have hC4p : (a0.Heights.getD j (0 : Int)) < 1 := by simpa using hC4
     refine C_seq ?_
     refine C_region ?_
     refine wv rfl rfl rfl (R_assign rfl rfl) ?_
     refine W_nil ?_
     refine E_then ?_
     refine C_ret ?_
     refine E_block_ret ?_
     refine E_then_ret ?_
     refine E_then_ret ?_
     refine E_block_ret ?_
     refine E_then_ret ?_
     refine E_ret1 rfl rfl ?_
     exact ⟨Lret1 (Lbool (show false = (rorderS a0) by first | exact rord_top (by omega) | exact rord_ok (i := i) (j := j) (k := k) (l := l) (by omega) (by omega) hI0_1 (by omega) hI1_1 (by omega) (by omega) hI2_1 (by omega) (by omega) hI3_1 | exact rord_m (i := l) (by omega) (by unfold rmergeS; simp_all) | exact rord_c (i := k) (by omega) (by unfold rcellS; simp_all) | exact rord_h (i := j) (by omega) (by assumption) | exact rord_w (i := i) (by omega) (by assumption))), hS.fin [] (by decide) rfl⟩
    ·have _hC4 := trivial
     have hC4p : ¬ ((a0.Heights.getD j (0 : Int)) < 1) := by simpa using hC4
     refine C_skip ?_
     refine E_block_normal ?_
     refine E_then ?_
     refine C_region ?_
     refine wv rfl rfl rfl (R_move rfl rfl) <| wv rfl rfl rfl (R_add64 rfl rfl rfl (by omega) (by omega)) <| wv rfl rfl rfl (R_assign rfl rfl) ?_
     refine W_nil ?_
     refine E_round [1, 4] ?_ ⟨(j + 1 : Nat), rfl, (by omega), (by exact any_step (p := (fun n => decide (n < 1))) 0 (by omega) hI1_1 (by simp_all)), rfl, hS.fin [0] (by decide) rfl⟩
     omega
   ·have _hC3 := trivial
    have hC3p : ¬ ((j : Int) < (a0.Heights.length : Int)) := by simpa using hC3
    refine C_exit ?_
    refine E_then_exit ?_
    refine E_then_exit ?_
    refine E_block_hit ?_
    refine E_then (C_fr [(1, .pointer (some ⟨b2, 0, none⟩))] rfl ?_)
    refine C_seq ?_
    refine C_seq ?_
    refine C_region ?_
    refine wv rfl rfl rfl (R_assign rfl rfl) ?_
    refine W_nil ?_
    refine E_then ?_
    refine C_block ?_
    refine C_fr [(1, .pointer (some ⟨b2, 0, none⟩)), (5, .int .i64 0)] rfl ?_
    refine C_loop (fun m_ f_ w_ => ∃ (k : Nat), f_ = [(1, .pointer (some ⟨b2, 0, none⟩)), (5, .int .i64 (k : Int))] ∧ k ≤ a0.Cells.length ∧ (List.range k).any (rcellS a0) = false ∧ m_ = a0.Cells.length - k ∧ Sp (FF []) w z w_ [bR b2 26 [.int .i64 a0.Right, .slice Aa0_Widths a0.Widths.length ca0_Widths, .slice Aa0_Heights a0.Heights.length ca0_Heights, .slice Aa0_Cells a0.Cells.length ca0_Cells, .slice Aa0_Merges a0.Merges.length ca0_Merges]]) (a0.Cells.length - (0 : Nat)) ⟨(0 : Nat), rfl, (by omega), (by rfl), rfl, hS.fin [0] (by decide) rfl⟩ ?_
    rintro m_ f_ w7 ⟨k, rfl, hI2_0, hI2_1, rfl, hS⟩
    refine C_seq ?_
    refine C_seq ?_
    refine C_region ?_
    refine wv rfl rfl rfl (R_move rfl rfl) <| wv rfl rfl rfl (R_fld rfl rfl fld26_3) <| wv rfl rfl rfl (R_load1 rfl rfl agg23 ((hS.bx 0 rfl).cell rfl)) <| wv rfl rfl rfl (R_len rfl rfl Try.underlying23) <| wv rfl rfl rfl (R_bin rfl rfl rfl rfl rfl) ?_
    refine W_nil ?_
    refine E_then ?_
    refine C_ite rfl (fun hC5 => ?_) (fun hC5 => ?_)
    ·have _hC5 := trivial
     have hC5p : (k : Int) < (a0.Cells.length : Int) := by simpa using hC5
     refine C_skip ?_
     refine E_then (C_fr [(1, .pointer (some ⟨b2, 0, none⟩)), (5, .int .i64 (k : Int))] rfl ?_)
     refine C_seq ?_
     refine C_block ?_
     refine C_seq ?_
     refine C_region ?_
     refine wv rfl rfl rfl (R_fld rfl rfl fld26_3) <| wv rfl rfl rfl (R_load1 rfl rfl agg23 ((hS.bx 0 rfl).cell rfl)) <| wv rfl rfl rfl (R_move rfl rfl) ?_
     obtain ⟨q8, csq8, hAq8, rfl, hkq8⟩ := hra0_Cells.at_ (default : TCell) (i := (k : Int)) (by omega) (by omega)
     have hkq8 : ∀ (j_ : Nat) (u_ : Value), ([.int .i64 (a0.Cells.getD k (default : TCell)).Row, .int .i64 (a0.Cells.getD k (default : TCell)).Col, vstr (a0.Cells.getD k (default : TCell)).Text, .int .i64 (a0.Cells.getD k (default : TCell)).Style.Align, .int .i64 (a0.Cells.getD k (default : TCell)).Style.Wrap, .int .i64 (a0.Cells.getD k (default : TCell)).Style.Dir] : List Value)[j_]? = some u_ → cz z (q8.add (k * 6 + j_)) = some u_ := hkq8
     refine wv rfl rfl rfl (R_idx rfl rfl hAq8 rfl Try.underlying23 size60 (by omega) (by omega)) <| wv rfl rfl rfl (R_loadN (cs := [.int .i64 (a0.Cells.getD k (default : TCell)).Row, .int .i64 (a0.Cells.getD k (default : TCell)).Col, vstr (a0.Cells.getD k (default : TCell)).Text, .int .i64 (a0.Cells.getD k (default : TCell)).Style.Align, .int .i64 (a0.Cells.getD k (default : TCell)).Style.Wrap, .int .i64 (a0.Cells.getD k (default : TCell)).Style.Dir]) rfl rfl agg60 size60 rfl (fun j u h => cell_add (hS.sub.cell (hkq8 j u h)))) ?_
     refine W_cons rfl (by decide) (S_box hS rfl (R_alloc rfl alloc60) (fun b10 w9 hS => ?_))
     refine W_cons0 rfl (S_store hS 0 rfl rfl rfl rfl rfl size60 (one_cons rfl (one_cons rfl (one_cons rfl (one_cons rfl (one_cons rfl (one_cons rfl one_nil)))))) (Nat.le_of_ble_eq_true rfl) (fun w11 hS => ?_))
     have hS : Sp (FF []) w z w11 [bR b10 60 [.int .i64 (a0.Cells.getD k (default : TCell)).Row, .int .i64 (a0.Cells.getD k (default : TCell)).Col, vstr (a0.Cells.getD k (default : TCell)).Text, .int .i64 (a0.Cells.getD k (default : TCell)).Style.Align, .int .i64 (a0.Cells.getD k (default : TCell)).Style.Wrap, .int .i64 (a0.Cells.getD k (default : TCell)).Style.Dir], bR b2 26 [.int .i64 a0.Right, .slice Aa0_Widths a0.Widths.length ca0_Widths, .slice Aa0_Heights a0.Heights.length ca0_Heights, .slice Aa0_Cells a0.Cells.length ca0_Cells, .slice Aa0_Merges a0.Merges.length ca0_Merges]] := hS
     refine W_nil ?_
     refine E_then (C_fr [(1, .pointer (some ⟨b2, 0, none⟩)), (5, .int .i64 (k : Int)), (6, .pointer (some ⟨b10, 0, none⟩))] rfl ?_)
     refine C_seq ?_
     refine C_fr [(1, .pointer (some ⟨b2, 0, none⟩)), (5, .int .i64 (k : Int)), (6, .pointer (some ⟨b10, 0, none⟩))] rfl ?_
     refine C_drawn2 53 [[], [0], [1], [2], [3, 2], [2], [5, 2], [4, 6, 2], [7, 2], [8, 2], [2], [10, 2], [2], [12, 2], [11, 13, 2], [14, 2], [15, 2], [2], [17, 2], [2], [19, 2], [9, 16, 18, 20, 2, 2], [21, 2], [2, 22], [23, 21], [24], [25, 24], [26, 24, 24], [27, 24], [24, 28], [29, 27], [30], [31, 30], [32, 30], [33, 30, 30], [34], [35, 34], [36, 34], [37, 34], [34, 38, 30], [39, 34, 30], [40], [41, 40], [42, 40], [43, 40], [40, 44, 30], [45, 40, 30], [46], [47, 46], [48, 46], [49, 46], [46, 50, 30], [30, 51]] [some 67, some 68, some 69, some 70, some 71, some 72, some 73, some 74, some 75, some 76, some 77, some 78, some 79, some 80, some 81, some 82, some 83, some 84, some 85, some 86, some 87, some 88, some 89, some 90, some 91, some 92, some 93, some 94, some 95, some 96, some 97, some 98, some 99, some 100, some 101, some 102, some 103, some 104, some 105, some 106, some 107, some 108, some 109, some 110, some 111, some 112, some 113, some 114, some 115, some 116, some 117, some 118, some 119] [1, 5, 6] (List.replicate 53 53) (List.replicate 53 []) (List.replicate 53 []) [fun γ_ => .int .i64 (k : Int), fun γ_ => .bool (decide ((k : Int) > 0)), fun γ_ => .bool (decide ((k : Int) > 0)), fun γ_ => gv (decide ((k : Int) > 0)) (.pointer (some ⟨b2, 3, none⟩)), fun γ_ => gv (decide ((k : Int) > 0)) (.slice Aa0_Cells a0.Cells.length ca0_Cells), fun γ_ => gv (decide ((k : Int) > 0)) (.int .i64 (k : Int)), fun γ_ => gv (decide ((k : Int) > 0)) (.int .i64 ((k : Int) - 1)), fun γ_ => gv (decide ((k : Int) > 0)) (.pointer (Aa0_Cells.map (fun q_ => q_.add (((k : Int) - 1).toNat * 6)))), fun γ_ => gv (decide ((k : Int) > 0)) (.pointer (Aa0_Cells.map (fun q_ => (q_.add (((k : Int) - 1).toNat * 6)).add 0))), fun γ_ => gv (decide ((k : Int) > 0)) (.int .i64 (a0.Cells.getD ((k : Int) - 1).toNat (default : TCell)).Row), fun γ_ => gv (decide ((k : Int) > 0)) (.pointer (some ⟨b2, 3, none⟩)), fun γ_ => gv (decide ((k : Int) > 0)) (.slice Aa0_Cells a0.Cells.length ca0_Cells), fun γ_ => gv (decide ((k : Int) > 0)) (.int .i64 (k : Int)), fun γ_ => gv (decide ((k : Int) > 0)) (.int .i64 ((k : Int) - 1)), fun γ_ => gv (decide ((k : Int) > 0)) (.pointer (Aa0_Cells.map (fun q_ => q_.add (((k : Int) - 1).toNat * 6)))), fun γ_ => gv (decide ((k : Int) > 0)) (.pointer (Aa0_Cells.map (fun q_ => (q_.add (((k : Int) - 1).toNat * 6)).add 1))), fun γ_ => gv (decide ((k : Int) > 0)) (.int .i64 (a0.Cells.getD ((k : Int) - 1).toNat (default : TCell)).Col), fun γ_ => gv (decide ((k : Int) > 0)) (.pointer (some ⟨b10, 0, none⟩)), fun γ_ => gv (decide ((k : Int) > 0)) (.int .i64 (a0.Cells.getD k (default : TCell)).Row), fun γ_ => gv (decide ((k : Int) > 0)) (.pointer (some ⟨b10, 1, none⟩)), fun γ_ => gv (decide ((k : Int) > 0)) (.int .i64 (a0.Cells.getD k (default : TCell)).Col), fun γ_ => gv (decide ((k : Int) > 0)) (.bool (raheadS (a0.Cells.getD ((k : Int) - 1).toNat (default : TCell)).Row (a0.Cells.getD ((k : Int) - 1).toNat (default : TCell)).Col (a0.Cells.getD k (default : TCell)).Row (a0.Cells.getD k (default : TCell)).Col)), fun γ_ => gv (decide ((k : Int) > 0)) (.bool (!(raheadS (a0.Cells.getD ((k : Int) - 1).toNat (default : TCell)).Row (a0.Cells.getD ((k : Int) - 1).toNat (default : TCell)).Col (a0.Cells.getD k (default : TCell)).Row (a0.Cells.getD k (default : TCell)).Col))), fun γ_ => .bool ((decide ((k : Int) > 0)) && (!(raheadS (a0.Cells.getD ((k : Int) - 1).toNat (default : TCell)).Row (a0.Cells.getD ((k : Int) - 1).toNat (default : TCell)).Col (a0.Cells.getD k (default : TCell)).Row (a0.Cells.getD k (default : TCell)).Col))), fun γ_ => .bool ((decide ((k : Int) > 0)) && (!(raheadS (a0.Cells.getD ((k : Int) - 1).toNat (default : TCell)).Row (a0.Cells.getD ((k : Int) - 1).toNat (default : TCell)).Col (a0.Cells.getD k (default : TCell)).Row (a0.Cells.getD k (default : TCell)).Col))), fun γ_ => gv (!((decide ((k : Int) > 0)) && (!(raheadS (a0.Cells.getD ((k : Int) - 1).toNat (default : TCell)).Row (a0.Cells.getD ((k : Int) - 1).toNat (default : TCell)).Col (a0.Cells.getD k (default : TCell)).Row (a0.Cells.getD k (default : TCell)).Col)))) (.pointer (some ⟨b10, 3, none⟩)), fun γ_ => gv (!((decide ((k : Int) > 0)) && (!(raheadS (a0.Cells.getD ((k : Int) - 1).toNat (default : TCell)).Row (a0.Cells.getD ((k : Int) - 1).toNat (default : TCell)).Col (a0.Cells.getD k (default : TCell)).Row (a0.Cells.getD k (default : TCell)).Col)))) (.agg #[.int .i64 (a0.Cells.getD k (default : TCell)).Style.Align, .int .i64 (a0.Cells.getD k (default : TCell)).Style.Wrap, .int .i64 (a0.Cells.getD k (default : TCell)).Style.Dir]), fun γ_ => gv (!((decide ((k : Int) > 0)) && (!(raheadS (a0.Cells.getD ((k : Int) - 1).toNat (default : TCell)).Row (a0.Cells.getD ((k : Int) - 1).toNat (default : TCell)).Col (a0.Cells.getD k (default : TCell)).Row (a0.Cells.getD k (default : TCell)).Col)))) (.bool (rstyledS (a0.Cells.getD k (default : TCell)).Style)), fun γ_ => gv (!((decide ((k : Int) > 0)) && (!(raheadS (a0.Cells.getD ((k : Int) - 1).toNat (default : TCell)).Row (a0.Cells.getD ((k : Int) - 1).toNat (default : TCell)).Col (a0.Cells.getD k (default : TCell)).Row (a0.Cells.getD k (default : TCell)).Col)))) (.bool (!(rstyledS (a0.Cells.getD k (default : TCell)).Style))), fun γ_ => .bool (((decide ((k : Int) > 0)) && (!(raheadS (a0.Cells.getD ((k : Int) - 1).toNat (default : TCell)).Row (a0.Cells.getD ((k : Int) - 1).toNat (default : TCell)).Col (a0.Cells.getD k (default : TCell)).Row (a0.Cells.getD k (default : TCell)).Col))) || (!(rstyledS (a0.Cells.getD k (default : TCell)).Style))), fun γ_ => .bool (((decide ((k : Int) > 0)) && (!(raheadS (a0.Cells.getD ((k : Int) - 1).toNat (default : TCell)).Row (a0.Cells.getD ((k : Int) - 1).toNat (default : TCell)).Col (a0.Cells.getD k (default : TCell)).Row (a0.Cells.getD k (default : TCell)).Col))) || (!(rstyledS (a0.Cells.getD k (default : TCell)).Style))), fun γ_ => gv (!(((decide ((k : Int) > 0)) && (!(raheadS (a0.Cells.getD ((k : Int) - 1).toNat (default : TCell)).Row (a0.Cells.getD ((k : Int) - 1).toNat (default : TCell)).Col (a0.Cells.getD k (default : TCell)).Row (a0.Cells.getD k (default : TCell)).Col))) || (!(rstyledS (a0.Cells.getD k (default : TCell)).Style)))) (.pointer (some ⟨b10, 2, none⟩)), fun γ_ => gv (!(((decide ((k : Int) > 0)) && (!(raheadS (a0.Cells.getD ((k : Int) - 1).toNat (default : TCell)).Row (a0.Cells.getD ((k : Int) - 1).toNat (default : TCell)).Col (a0.Cells.getD k (default : TCell)).Row (a0.Cells.getD k (default : TCell)).Col))) || (!(rstyledS (a0.Cells.getD k (default : TCell)).Style)))) (vstr (a0.Cells.getD k (default : TCell)).Text), fun γ_ => gv (!(((decide ((k : Int) > 0)) && (!(raheadS (a0.Cells.getD ((k : Int) - 1).toNat (default : TCell)).Row (a0.Cells.getD ((k : Int) - 1).toNat (default : TCell)).Col (a0.Cells.getD k (default : TCell)).Row (a0.Cells.getD k (default : TCell)).Col))) || (!(rstyledS (a0.Cells.getD k (default : TCell)).Style)))) (.bool (decide ((a0.Cells.getD k (default : TCell)).Text = []))), fun γ_ => gv (!(((decide ((k : Int) > 0)) && (!(raheadS (a0.Cells.getD ((k : Int) - 1).toNat (default : TCell)).Row (a0.Cells.getD ((k : Int) - 1).toNat (default : TCell)).Col (a0.Cells.getD k (default : TCell)).Row (a0.Cells.getD k (default : TCell)).Col))) || (!(rstyledS (a0.Cells.getD k (default : TCell)).Style)))) (.bool (decide ((a0.Cells.getD k (default : TCell)).Text = []))), fun γ_ => gv ((!(((decide ((k : Int) > 0)) && (!(raheadS (a0.Cells.getD ((k : Int) - 1).toNat (default : TCell)).Row (a0.Cells.getD ((k : Int) - 1).toNat (default : TCell)).Col (a0.Cells.getD k (default : TCell)).Row (a0.Cells.getD k (default : TCell)).Col))) || (!(rstyledS (a0.Cells.getD k (default : TCell)).Style)))) && (decide ((a0.Cells.getD k (default : TCell)).Text = []))) (.pointer (some ⟨b10, 3, none⟩)), fun γ_ => gv ((!(((decide ((k : Int) > 0)) && (!(raheadS (a0.Cells.getD ((k : Int) - 1).toNat (default : TCell)).Row (a0.Cells.getD ((k : Int) - 1).toNat (default : TCell)).Col (a0.Cells.getD k (default : TCell)).Row (a0.Cells.getD k (default : TCell)).Col))) || (!(rstyledS (a0.Cells.getD k (default : TCell)).Style)))) && (decide ((a0.Cells.getD k (default : TCell)).Text = []))) (.pointer (some ⟨b10, 3, none⟩)), fun γ_ => gv ((!(((decide ((k : Int) > 0)) && (!(raheadS (a0.Cells.getD ((k : Int) - 1).toNat (default : TCell)).Row (a0.Cells.getD ((k : Int) - 1).toNat (default : TCell)).Col (a0.Cells.getD k (default : TCell)).Row (a0.Cells.getD k (default : TCell)).Col))) || (!(rstyledS (a0.Cells.getD k (default : TCell)).Style)))) && (decide ((a0.Cells.getD k (default : TCell)).Text = []))) (.int .i64 (a0.Cells.getD k (default : TCell)).Style.Align), fun γ_ => gv ((!(((decide ((k : Int) > 0)) && (!(raheadS (a0.Cells.getD ((k : Int) - 1).toNat (default : TCell)).Row (a0.Cells.getD ((k : Int) - 1).toNat (default : TCell)).Col (a0.Cells.getD k (default : TCell)).Row (a0.Cells.getD k (default : TCell)).Col))) || (!(rstyledS (a0.Cells.getD k (default : TCell)).Style)))) && (decide ((a0.Cells.getD k (default : TCell)).Text = []))) (.bool ((a0.Cells.getD k (default : TCell)).Style.Align == 0)), fun γ_ => gv (!(((decide ((k : Int) > 0)) && (!(raheadS (a0.Cells.getD ((k : Int) - 1).toNat (default : TCell)).Row (a0.Cells.getD ((k : Int) - 1).toNat (default : TCell)).Col (a0.Cells.getD k (default : TCell)).Row (a0.Cells.getD k (default : TCell)).Col))) || (!(rstyledS (a0.Cells.getD k (default : TCell)).Style)))) (.bool ((decide ((a0.Cells.getD k (default : TCell)).Text = [])) && ((a0.Cells.getD k (default : TCell)).Style.Align == 0))), fun γ_ => gv (!(((decide ((k : Int) > 0)) && (!(raheadS (a0.Cells.getD ((k : Int) - 1).toNat (default : TCell)).Row (a0.Cells.getD ((k : Int) - 1).toNat (default : TCell)).Col (a0.Cells.getD k (default : TCell)).Row (a0.Cells.getD k (default : TCell)).Col))) || (!(rstyledS (a0.Cells.getD k (default : TCell)).Style)))) (.bool ((decide ((a0.Cells.getD k (default : TCell)).Text = [])) && ((a0.Cells.getD k (default : TCell)).Style.Align == 0))), fun γ_ => gv ((!(((decide ((k : Int) > 0)) && (!(raheadS (a0.Cells.getD ((k : Int) - 1).toNat (default : TCell)).Row (a0.Cells.getD ((k : Int) - 1).toNat (default : TCell)).Col (a0.Cells.getD k (default : TCell)).Row (a0.Cells.getD k (default : TCell)).Col))) || (!(rstyledS (a0.Cells.getD k (default : TCell)).Style)))) && ((decide ((a0.Cells.getD k (default : TCell)).Text = [])) && ((a0.Cells.getD k (default : TCell)).Style.Align == 0))) (.pointer (some ⟨b10, 3, none⟩)), fun γ_ => gv ((!(((decide ((k : Int) > 0)) && (!(raheadS (a0.Cells.getD ((k : Int) - 1).toNat (default : TCell)).Row (a0.Cells.getD ((k : Int) - 1).toNat (default : TCell)).Col (a0.Cells.getD k (default : TCell)).Row (a0.Cells.getD k (default : TCell)).Col))) || (!(rstyledS (a0.Cells.getD k (default : TCell)).Style)))) && ((decide ((a0.Cells.getD k (default : TCell)).Text = [])) && ((a0.Cells.getD k (default : TCell)).Style.Align == 0))) (.pointer (some ⟨b10, 4, none⟩)), fun γ_ => gv ((!(((decide ((k : Int) > 0)) && (!(raheadS (a0.Cells.getD ((k : Int) - 1).toNat (default : TCell)).Row (a0.Cells.getD ((k : Int) - 1).toNat (default : TCell)).Col (a0.Cells.getD k (default : TCell)).Row (a0.Cells.getD k (default : TCell)).Col))) || (!(rstyledS (a0.Cells.getD k (default : TCell)).Style)))) && ((decide ((a0.Cells.getD k (default : TCell)).Text = [])) && ((a0.Cells.getD k (default : TCell)).Style.Align == 0))) (.int .i64 (a0.Cells.getD k (default : TCell)).Style.Wrap), fun γ_ => gv ((!(((decide ((k : Int) > 0)) && (!(raheadS (a0.Cells.getD ((k : Int) - 1).toNat (default : TCell)).Row (a0.Cells.getD ((k : Int) - 1).toNat (default : TCell)).Col (a0.Cells.getD k (default : TCell)).Row (a0.Cells.getD k (default : TCell)).Col))) || (!(rstyledS (a0.Cells.getD k (default : TCell)).Style)))) && ((decide ((a0.Cells.getD k (default : TCell)).Text = [])) && ((a0.Cells.getD k (default : TCell)).Style.Align == 0))) (.bool ((a0.Cells.getD k (default : TCell)).Style.Wrap == 0)), fun γ_ => gv (!(((decide ((k : Int) > 0)) && (!(raheadS (a0.Cells.getD ((k : Int) - 1).toNat (default : TCell)).Row (a0.Cells.getD ((k : Int) - 1).toNat (default : TCell)).Col (a0.Cells.getD k (default : TCell)).Row (a0.Cells.getD k (default : TCell)).Col))) || (!(rstyledS (a0.Cells.getD k (default : TCell)).Style)))) (.bool (((decide ((a0.Cells.getD k (default : TCell)).Text = [])) && ((a0.Cells.getD k (default : TCell)).Style.Align == 0)) && ((a0.Cells.getD k (default : TCell)).Style.Wrap == 0))), fun γ_ => gv (!(((decide ((k : Int) > 0)) && (!(raheadS (a0.Cells.getD ((k : Int) - 1).toNat (default : TCell)).Row (a0.Cells.getD ((k : Int) - 1).toNat (default : TCell)).Col (a0.Cells.getD k (default : TCell)).Row (a0.Cells.getD k (default : TCell)).Col))) || (!(rstyledS (a0.Cells.getD k (default : TCell)).Style)))) (.bool (((decide ((a0.Cells.getD k (default : TCell)).Text = [])) && ((a0.Cells.getD k (default : TCell)).Style.Align == 0)) && ((a0.Cells.getD k (default : TCell)).Style.Wrap == 0))), fun γ_ => gv ((!(((decide ((k : Int) > 0)) && (!(raheadS (a0.Cells.getD ((k : Int) - 1).toNat (default : TCell)).Row (a0.Cells.getD ((k : Int) - 1).toNat (default : TCell)).Col (a0.Cells.getD k (default : TCell)).Row (a0.Cells.getD k (default : TCell)).Col))) || (!(rstyledS (a0.Cells.getD k (default : TCell)).Style)))) && (((decide ((a0.Cells.getD k (default : TCell)).Text = [])) && ((a0.Cells.getD k (default : TCell)).Style.Align == 0)) && ((a0.Cells.getD k (default : TCell)).Style.Wrap == 0))) (.pointer (some ⟨b10, 3, none⟩)), fun γ_ => gv ((!(((decide ((k : Int) > 0)) && (!(raheadS (a0.Cells.getD ((k : Int) - 1).toNat (default : TCell)).Row (a0.Cells.getD ((k : Int) - 1).toNat (default : TCell)).Col (a0.Cells.getD k (default : TCell)).Row (a0.Cells.getD k (default : TCell)).Col))) || (!(rstyledS (a0.Cells.getD k (default : TCell)).Style)))) && (((decide ((a0.Cells.getD k (default : TCell)).Text = [])) && ((a0.Cells.getD k (default : TCell)).Style.Align == 0)) && ((a0.Cells.getD k (default : TCell)).Style.Wrap == 0))) (.pointer (some ⟨b10, 5, none⟩)), fun γ_ => gv ((!(((decide ((k : Int) > 0)) && (!(raheadS (a0.Cells.getD ((k : Int) - 1).toNat (default : TCell)).Row (a0.Cells.getD ((k : Int) - 1).toNat (default : TCell)).Col (a0.Cells.getD k (default : TCell)).Row (a0.Cells.getD k (default : TCell)).Col))) || (!(rstyledS (a0.Cells.getD k (default : TCell)).Style)))) && (((decide ((a0.Cells.getD k (default : TCell)).Text = [])) && ((a0.Cells.getD k (default : TCell)).Style.Align == 0)) && ((a0.Cells.getD k (default : TCell)).Style.Wrap == 0))) (.int .i64 (a0.Cells.getD k (default : TCell)).Style.Dir), fun γ_ => gv ((!(((decide ((k : Int) > 0)) && (!(raheadS (a0.Cells.getD ((k : Int) - 1).toNat (default : TCell)).Row (a0.Cells.getD ((k : Int) - 1).toNat (default : TCell)).Col (a0.Cells.getD k (default : TCell)).Row (a0.Cells.getD k (default : TCell)).Col))) || (!(rstyledS (a0.Cells.getD k (default : TCell)).Style)))) && (((decide ((a0.Cells.getD k (default : TCell)).Text = [])) && ((a0.Cells.getD k (default : TCell)).Style.Align == 0)) && ((a0.Cells.getD k (default : TCell)).Style.Wrap == 0))) (.bool ((a0.Cells.getD k (default : TCell)).Style.Dir == 0)), fun γ_ => gv (!(((decide ((k : Int) > 0)) && (!(raheadS (a0.Cells.getD ((k : Int) - 1).toNat (default : TCell)).Row (a0.Cells.getD ((k : Int) - 1).toNat (default : TCell)).Col (a0.Cells.getD k (default : TCell)).Row (a0.Cells.getD k (default : TCell)).Col))) || (!(rstyledS (a0.Cells.getD k (default : TCell)).Style)))) (.bool ((((decide ((a0.Cells.getD k (default : TCell)).Text = [])) && ((a0.Cells.getD k (default : TCell)).Style.Align == 0)) && ((a0.Cells.getD k (default : TCell)).Style.Wrap == 0)) && ((a0.Cells.getD k (default : TCell)).Style.Dir == 0))), fun γ_ => .bool ((((decide ((k : Int) > 0)) && (!(raheadS (a0.Cells.getD ((k : Int) - 1).toNat (default : TCell)).Row (a0.Cells.getD ((k : Int) - 1).toNat (default : TCell)).Col (a0.Cells.getD k (default : TCell)).Row (a0.Cells.getD k (default : TCell)).Col))) || (!(rstyledS (a0.Cells.getD k (default : TCell)).Style))) || ((((decide ((a0.Cells.getD k (default : TCell)).Text = [])) && ((a0.Cells.getD k (default : TCell)).Style.Align == 0)) && ((a0.Cells.getD k (default : TCell)).Style.Wrap == 0)) && ((a0.Cells.getD k (default : TCell)).Style.Dir == 0)))] (List.replicate 53 (fun _ => [])) rfl (by kernel_rfl) (by decide +kernel) hS ?_ ?_
     ·refine ⟨fun _ _ _ hS => Sv_val rfl (R_move rfl rfl) ⟨gh0, rfl, hS⟩, fun _ _ _ hS => Sv_val rfl (R_bin rfl rfl rfl rfl rfl) ⟨gh0, rfl, hS⟩, fun _ _ _ hS => Sv_val rfl (R_move rfl rfl) ⟨gh0, rfl, hS⟩, fun _ _ _ hS => Sv_gpure (Gd.on rfl rfl rfl) (fun hB => R_fld rfl rfl fld26_3) ⟨gh0, rfl, hS⟩, fun _ _ _ hS => Sv_gpure (Gd.on rfl rfl rfl) (fun hB => Runs.at_ (i := 70) (gl rfl hB) (R_load1 rfl rfl agg23 ((hS.bx 1 rfl).cell rfl))) ⟨gh0, rfl, hS⟩, fun _ _ _ hS => Sv_gpure (Gd.on rfl rfl rfl) (fun hB => R_move rfl rfl) ⟨gh0, rfl, hS⟩, fun _ _ _ hS => Sv_gpure (Gd.on rfl rfl rfl) (fun hB => by have hB0_ : (k : Int) > 0 := (by simpa using (hB)); exact Runs.at_ (i := 72) (gl rfl hB) (R_sub64 rfl rfl rfl (by omega) (by omega))) ⟨gh0, rfl, hS⟩, fun _ _ _ hS => Sv_gpure (v := .pointer (Aa0_Cells.map (fun q_ => q_.add (((k : Int) - 1).toNat * 6)))) (Gd.on rfl rfl rfl) (fun hB => by have hB0_ : (k : Int) > 0 := (by simpa using (hB)); obtain ⟨q34, csq34, hAq34, rfl, hkq34⟩ := hra0_Cells.at_ (default : TCell) (i := ((k : Int) - 1)) (by omega) (by omega); have e_ : Aa0_Cells.map (fun q_ => q_.add (((k : Int) - 1).toNat * 6)) = some (q34.add (((k : Int) - 1).toNat * 6)) := (by rw [hAq34]; rfl); rw [e_]; exact Runs.at_ (i := 73) (gl rfl hB) (Runs.at_ (i := 71) (gl rfl hB) (R_idx (iv := ((k : Int) - 1)) rfl rfl hAq34 rfl Try.underlying23 size60 (by omega) (by omega)))) ⟨gh0, rfl, hS⟩, fun _ _ _ hS => Sv_gpure (v := .pointer (Aa0_Cells.map (fun q_ => (q_.add (((k : Int) - 1).toNat * 6)).add 0))) (Gd.on rfl rfl rfl) (fun hB => by have hB0_ : (k : Int) > 0 := (by simpa using (hB)); obtain ⟨q37, csq37, hAq37, rfl, hkq37⟩ := hra0_Cells.at_ (default : TCell) (i := ((k : Int) - 1)) (by omega) (by omega); have e_ : Aa0_Cells.map (fun q_ => (q_.add (((k : Int) - 1).toNat * 6)).add 0) = some ((q37.add (((k : Int) - 1).toNat * 6)).add 0) := (by rw [hAq37]; rfl); rw [e_]; exact Runs.at_ (i := 74) (((gl rfl hB)).trans (by rw [hAq37]; rfl)) (R_fld rfl rfl fld60_0)) ⟨gh0, rfl, hS⟩, fun _ _ _ hS => Sv_gpure (Gd.on rfl rfl rfl) (fun hB => by have hB0_ : (k : Int) > 0 := (by simpa using (hB)); obtain ⟨q40, csq40, hAq40, rfl, hkq40⟩ := hra0_Cells.at_ (default : TCell) (i := ((k : Int) - 1)) (by omega) (by omega); exact Runs.at_ (i := 75) (((gl rfl hB)).trans (by rw [hAq40]; rfl)) (R_load1 rfl rfl agg3 (cell_add (hS.sub.cell (hkq40 0 _ rfl))))) ⟨gh0, rfl, hS⟩, fun _ _ _ hS => Sv_gpure (Gd.on rfl rfl rfl) (fun hB => R_fld rfl rfl fld26_3) ⟨gh0, rfl, hS⟩, fun _ _ _ hS => Sv_gpure (Gd.on rfl rfl rfl) (fun hB => Runs.at_ (i := 77) (gl rfl hB) (R_load1 rfl rfl agg23 ((hS.bx 1 rfl).cell rfl))) ⟨gh0, rfl, hS⟩, fun _ _ _ hS => Sv_gpure (Gd.on rfl rfl rfl) (fun hB => R_move rfl rfl) ⟨gh0, rfl, hS⟩, fun _ _ _ hS => Sv_gpure (Gd.on rfl rfl rfl) (fun hB => by have hB0_ : (k : Int) > 0 := (by simpa using (hB)); exact Runs.at_ (i := 79) (gl rfl hB) (R_sub64 rfl rfl rfl (by omega) (by omega))) ⟨gh0, rfl, hS⟩, fun _ _ _ hS => Sv_gpure (v := .pointer (Aa0_Cells.map (fun q_ => q_.add (((k : Int) - 1).toNat * 6)))) (Gd.on rfl rfl rfl) (fun hB => by have hB0_ : (k : Int) > 0 := (by simpa using (hB)); obtain ⟨q51, csq51, hAq51, rfl, hkq51⟩ := hra0_Cells.at_ (default : TCell) (i := ((k : Int) - 1)) (by omega) (by omega); have e_ : Aa0_Cells.map (fun q_ => q_.add (((k : Int) - 1).toNat * 6)) = some (q51.add (((k : Int) - 1).toNat * 6)) := (by rw [hAq51]; rfl); rw [e_]; exact Runs.at_ (i := 80) (gl rfl hB) (Runs.at_ (i := 78) (gl rfl hB) (R_idx (iv := ((k : Int) - 1)) rfl rfl hAq51 rfl Try.underlying23 size60 (by omega) (by omega)))) ⟨gh0, rfl, hS⟩, ?_⟩
      refine ⟨fun _ _ _ hS => Sv_gpure (v := .pointer (Aa0_Cells.map (fun q_ => (q_.add (((k : Int) - 1).toNat * 6)).add 1))) (Gd.on rfl rfl rfl) (fun hB => by have hB0_ : (k : Int) > 0 := (by simpa using (hB)); obtain ⟨q54, csq54, hAq54, rfl, hkq54⟩ := hra0_Cells.at_ (default : TCell) (i := ((k : Int) - 1)) (by omega) (by omega); have e_ : Aa0_Cells.map (fun q_ => (q_.add (((k : Int) - 1).toNat * 6)).add 1) = some ((q54.add (((k : Int) - 1).toNat * 6)).add 1) := (by rw [hAq54]; rfl); rw [e_]; exact Runs.at_ (i := 81) (((gl rfl hB)).trans (by rw [hAq54]; rfl)) (R_fld rfl rfl fld60_1)) ⟨gh0, rfl, hS⟩, fun _ _ _ hS => Sv_gpure (Gd.on rfl rfl rfl) (fun hB => by have hB0_ : (k : Int) > 0 := (by simpa using (hB)); obtain ⟨q57, csq57, hAq57, rfl, hkq57⟩ := hra0_Cells.at_ (default : TCell) (i := ((k : Int) - 1)) (by omega) (by omega); exact Runs.at_ (i := 82) (((gl rfl hB)).trans (by rw [hAq57]; rfl)) (R_load1 rfl rfl agg3 (cell_add (hS.sub.cell (hkq57 1 _ rfl))))) ⟨gh0, rfl, hS⟩, fun _ _ _ hS => Sv_gpure (Gd.on rfl rfl rfl) (fun hB => R_fld rfl rfl fld60_0) ⟨gh0, rfl, hS⟩, fun _ _ _ hS => Sv_gpure (Gd.on rfl rfl rfl) (fun hB => Runs.at_ (i := 84) (gl rfl hB) (R_load1 rfl rfl agg3 ((hS.bx 0 rfl).cell rfl))) ⟨gh0, rfl, hS⟩, fun _ _ _ hS => Sv_gpure (Gd.on rfl rfl rfl) (fun hB => R_fld rfl rfl fld60_1) ⟨gh0, rfl, hS⟩, fun _ _ _ hS => Sv_gpure (Gd.on rfl rfl rfl) (fun hB => Runs.at_ (i := 86) (gl rfl hB) (R_load1 rfl rfl agg3 ((hS.bx 0 rfl).cell rfl))) ⟨gh0, rfl, hS⟩, fun _ _ _ hS => Sv_gcall (Gd.on rfl rfl rfl) hS (fun hB => Sv.at_ (i := 87) (gl rfl hB) (Sv.at_ (i := 85) (gl rfl hB) (Sv.at_ (i := 83) (gl rfl hB) (Sv.at_ (i := 76) (gl rfl hB) (Sv_call rfl rfl rfl ent80 ((rahead_calls (a0.Cells.getD ((k : Int) - 1).toNat (default : TCell)).Row (a0.Cells.getD ((k : Int) - 1).toNat (default : TCell)).Col (a0.Cells.getD k (default : TCell)).Row (a0.Cells.getD k (default : TCell)).Col _ _ hS.out0  ).mono (fun _ _ h_ => ⟨_, h_.1, rfl, hS.call0 h_.2⟩))))))) (fun _ hS => ⟨gh0, rfl, hS⟩), fun _ _ _ hS => Sv_gpure (Gd.on rfl rfl rfl) (fun hB => Runs.at_ (i := 88) (gl rfl hB) (R_un rfl rfl rfl)) ⟨gh0, rfl, hS⟩, fun _ _ _ hS => Sv_val rfl (R_pick_and rfl rfl rfl rfl) ⟨gh0, rfl, hS⟩, fun _ _ _ hS => Sv_val rfl (R_move rfl rfl) ⟨gh0, rfl, hS⟩, fun _ _ _ hS => Sv_gpure (Gd.no rfl rfl rfl) (fun hB => R_fld rfl rfl fld60_3) ⟨gh0, rfl, hS⟩, fun _ _ _ hS => Sv_gpure (Gd.no rfl rfl rfl) (fun hB => Runs.at_ (i := 92) (gl rfl hB) (R_loadN (cs := [.int .i64 (a0.Cells.getD k (default : TCell)).Style.Align, .int .i64 (a0.Cells.getD k (default : TCell)).Style.Wrap, .int .i64 (a0.Cells.getD k (default : TCell)).Style.Dir]) rfl rfl agg58 size58 rfl (boxcells (hS.bx 0 rfl) 3 rfl))) ⟨gh0, rfl, hS⟩, fun _ _ _ hS => Sv_gcall (Gd.no rfl rfl rfl) hS (fun hB => Sv.at_ (i := 93) (gl rfl hB) (Sv_call rfl rfl rfl ent81 ((rstyled_calls (a0.Cells.getD k (default : TCell)).Style _ _ hS.out0  ).mono (fun _ _ h_ => ⟨_, h_.1, rfl, hS.call0 h_.2⟩)))) (fun _ hS => ⟨gh0, rfl, hS⟩), fun _ _ _ hS => Sv_gpure (Gd.no rfl rfl rfl) (fun hB => Runs.at_ (i := 94) (gl rfl hB) (R_un rfl rfl rfl)) ⟨gh0, rfl, hS⟩, ?_⟩
      refine ⟨fun _ _ _ hS => Sv_val rfl (R_pick_or rfl rfl rfl rfl) ⟨gh0, rfl, hS⟩, fun _ _ _ hS => Sv_val rfl (R_move rfl rfl) ⟨gh0, rfl, hS⟩, fun _ _ _ hS => Sv_gpure (Gd.no rfl rfl rfl) (fun hB => R_fld rfl rfl fld60_2) ⟨gh0, rfl, hS⟩, fun _ _ _ hS => Sv_gpure (Gd.no rfl rfl rfl) (fun hB => Runs.at_ (i := 98) (gl rfl hB) (R_load1 rfl rfl agg9 ((hS.bx 0 rfl).cell rfl))) ⟨gh0, rfl, hS⟩, fun _ _ _ hS => Sv_gpure (Gd.no rfl rfl rfl) (fun hB => Runs.at_ (i := 99) (gl rfl hB) (R_streql rfl rfl rfl)) ⟨gh0, rfl, hS⟩, fun _ _ _ hS => Sv_gpure (Gd.no rfl rfl rfl) (fun hB => Runs.at_ (i := 100) (gl rfl hB) (R_move rfl rfl)) ⟨gh0, rfl, hS⟩, fun _ _ _ hS => Sv_gpure (Gd.gon rfl rfl rfl) (fun hB => R_fld rfl rfl fld60_3) ⟨gh0, rfl, hS⟩, fun _ _ _ hS => Sv_gpure (Gd.gon rfl rfl rfl) (fun hB => Runs.at_ (i := 102) (gl rfl hB) (R_fld rfl rfl fld58_0)) ⟨gh0, rfl, hS⟩, fun _ _ _ hS => Sv_gpure (Gd.gon rfl rfl rfl) (fun hB => Runs.at_ (i := 103) (gl rfl hB) (R_load1 rfl rfl agg3 ((hS.bx 0 rfl).cell rfl))) ⟨gh0, rfl, hS⟩, fun _ _ _ hS => Sv_gpure (Gd.gon rfl rfl rfl) (fun hB => Runs.at_ (i := 104) (gl rfl hB) (R_bin rfl rfl rfl rfl rfl)) ⟨gh0, rfl, hS⟩, fun _ _ _ hS => Sv_gpure (Gd.no rfl rfl rfl) (fun hB => Runs.at_ (i := 105) (gl2 rfl hB) (Runs.at_ (i := 101) (gl rfl hB) (R_pick_and rfl rfl rfl rfl))) ⟨gh0, rfl, hS⟩, fun _ _ _ hS => Sv_gpure (Gd.no rfl rfl rfl) (fun hB => Runs.at_ (i := 106) (gl rfl hB) (R_move rfl rfl)) ⟨gh0, rfl, hS⟩, fun _ _ _ hS => Sv_gpure (Gd.gon rfl rfl rfl) (fun hB => R_fld rfl rfl fld60_3) ⟨gh0, rfl, hS⟩, fun _ _ _ hS => Sv_gpure (Gd.gon rfl rfl rfl) (fun hB => Runs.at_ (i := 108) (gl rfl hB) (R_fld rfl rfl fld58_1)) ⟨gh0, rfl, hS⟩, fun _ _ _ hS => Sv_gpure (Gd.gon rfl rfl rfl) (fun hB => Runs.at_ (i := 109) (gl rfl hB) (R_load1 rfl rfl agg3 ((hS.bx 0 rfl).cell rfl))) ⟨gh0, rfl, hS⟩, fun _ _ _ hS => Sv_gpure (Gd.gon rfl rfl rfl) (fun hB => Runs.at_ (i := 110) (gl rfl hB) (R_bin rfl rfl rfl rfl rfl)) ⟨gh0, rfl, hS⟩, fun _ _ _ hS => Sv_gpure (Gd.no rfl rfl rfl) (fun hB => Runs.at_ (i := 111) (gl2 rfl hB) (Runs.at_ (i := 107) (gl rfl hB) (R_pick_and rfl rfl rfl rfl))) ⟨gh0, rfl, hS⟩, fun _ _ _ hS => Sv_gpure (Gd.no rfl rfl rfl) (fun hB => Runs.at_ (i := 112) (gl rfl hB) (R_move rfl rfl)) ⟨gh0, rfl, hS⟩, fun _ _ _ hS => Sv_gpure (Gd.gon rfl rfl rfl) (fun hB => R_fld rfl rfl fld60_3) ⟨gh0, rfl, hS⟩, fun _ _ _ hS => Sv_gpure (Gd.gon rfl rfl rfl) (fun hB => Runs.at_ (i := 114) (gl rfl hB) (R_fld rfl rfl fld58_2)) ⟨gh0, rfl, hS⟩, fun _ _ _ hS => Sv_gpure (Gd.gon rfl rfl rfl) (fun hB => Runs.at_ (i := 115) (gl rfl hB) (R_load1 rfl rfl agg3 ((hS.bx 0 rfl).cell rfl))) ⟨gh0, rfl, hS⟩, fun _ _ _ hS => Sv_gpure (Gd.gon rfl rfl rfl) (fun hB => Runs.at_ (i := 116) (gl rfl hB) (R_bin rfl rfl rfl rfl rfl)) ⟨gh0, rfl, hS⟩, fun _ _ _ hS => Sv_gpure (Gd.no rfl rfl rfl) (fun hB => Runs.at_ (i := 117) (gl2 rfl hB) (Runs.at_ (i := 113) (gl rfl hB) (R_pick_and rfl rfl rfl rfl))) ⟨gh0, rfl, hS⟩, fun _ _ _ hS => Sv_val rfl (R_pick_or rfl rfl rfl rfl) ⟨gh0, rfl, hS⟩, ?_⟩
      exact trivial
     ·intro g_ w130 hS
      have hS : Sp (FF []) w z w130 [bR b10 60 [.int .i64 (a0.Cells.getD k (default : TCell)).Row, .int .i64 (a0.Cells.getD k (default : TCell)).Col, vstr (a0.Cells.getD k (default : TCell)).Text, .int .i64 (a0.Cells.getD k (default : TCell)).Style.Align, .int .i64 (a0.Cells.getD k (default : TCell)).Style.Wrap, .int .i64 (a0.Cells.getD k (default : TCell)).Style.Dir], bR b2 26 [.int .i64 a0.Right, .slice Aa0_Widths a0.Widths.length ca0_Widths, .slice Aa0_Heights a0.Heights.length ca0_Heights, .slice Aa0_Cells a0.Cells.length ca0_Cells, .slice Aa0_Merges a0.Merges.length ca0_Merges]] := hS
      refine An_fr [(1, .pointer (some ⟨b2, 0, none⟩)), (5, .int .i64 (k : Int)), (6, .pointer (some ⟨b10, 0, none⟩)), (119, .bool ((((decide ((k : Int) > 0)) && (!(raheadS (a0.Cells.getD ((k : Int) - 1).toNat (default : TCell)).Row (a0.Cells.getD ((k : Int) - 1).toNat (default : TCell)).Col (a0.Cells.getD k (default : TCell)).Row (a0.Cells.getD k (default : TCell)).Col))) || (!(rstyledS (a0.Cells.getD k (default : TCell)).Style))) || ((((decide ((a0.Cells.getD k (default : TCell)).Text = [])) && ((a0.Cells.getD k (default : TCell)).Style.Align == 0)) && ((a0.Cells.getD k (default : TCell)).Style.Wrap == 0)) && ((a0.Cells.getD k (default : TCell)).Style.Dir == 0))))] rfl ?_
      refine An_done (by decide +kernel) ?_
      refine E_then ?_
      refine C_ite rfl (fun hC6 => ?_) (fun hC6 => ?_)
      ·have _hC6 := trivial
       have hC6p : ((((k : Int) > 0 ∧ ¬ (raheadS (a0.Cells.getD ((k : Int) - 1).toNat (default : TCell)).Row (a0.Cells.getD ((k : Int) - 1).toNat (default : TCell)).Col (a0.Cells.getD k (default : TCell)).Row (a0.Cells.getD k (default : TCell)).Col = true)) ∨ ¬ (rstyledS (a0.Cells.getD k (default : TCell)).Style = true)) ∨ ((((a0.Cells.getD k (default : TCell)).Text = [] ∧ (a0.Cells.getD k (default : TCell)).Style.Align = 0) ∧ (a0.Cells.getD k (default : TCell)).Style.Wrap = 0) ∧ (a0.Cells.getD k (default : TCell)).Style.Dir = 0)) := by simpa using hC6
       refine C_seq ?_
       refine C_region ?_
       refine wv rfl rfl rfl (R_assign rfl rfl) ?_
       refine W_nil ?_
       refine E_then ?_
       refine C_ret ?_
       refine E_block_ret ?_
       refine E_then_ret ?_
       refine E_then_ret ?_
       refine E_block_ret ?_
       refine E_then_ret ?_
       refine E_ret1 rfl rfl ?_
       exact ⟨Lret1 (Lbool (show false = (rorderS a0) by first | exact rord_top (by omega) | exact rord_ok (i := i) (j := j) (k := k) (l := l) (by omega) (by omega) hI0_1 (by omega) hI1_1 (by omega) (by omega) hI2_1 (by omega) (by omega) hI3_1 | exact rord_m (i := l) (by omega) (by unfold rmergeS; simp_all) | exact rord_c (i := k) (by omega) (by unfold rcellS; simp_all) | exact rord_h (i := j) (by omega) (by assumption) | exact rord_w (i := i) (by omega) (by assumption))), hS.fin [] (by decide) rfl⟩
      ·have _hC6 := trivial
       have hC6p : ¬ (((((k : Int) > 0 ∧ ¬ (raheadS (a0.Cells.getD ((k : Int) - 1).toNat (default : TCell)).Row (a0.Cells.getD ((k : Int) - 1).toNat (default : TCell)).Col (a0.Cells.getD k (default : TCell)).Row (a0.Cells.getD k (default : TCell)).Col = true)) ∨ ¬ (rstyledS (a0.Cells.getD k (default : TCell)).Style = true)) ∨ ((((a0.Cells.getD k (default : TCell)).Text = [] ∧ (a0.Cells.getD k (default : TCell)).Style.Align = 0) ∧ (a0.Cells.getD k (default : TCell)).Style.Wrap = 0) ∧ (a0.Cells.getD k (default : TCell)).Style.Dir = 0))) := by simpa using hC6
       refine C_skip ?_
       refine E_block_normal ?_
       refine E_then ?_
       refine C_region ?_
       refine wv rfl rfl rfl (R_move rfl rfl) <| wv rfl rfl rfl (R_add64 rfl rfl rfl (by omega) (by omega)) <| wv rfl rfl rfl (R_assign rfl rfl) ?_
       refine W_nil ?_
       refine E_round [1, 5] ?_ ⟨(k + 1 : Nat), rfl, (by omega), (by exact range_any_next hI2_1 (by simp_all [rcellS])), rfl, hS.fin [1] (by decide) rfl⟩
       omega
    ·have _hC5 := trivial
     have hC5p : ¬ ((k : Int) < (a0.Cells.length : Int)) := by simpa using hC5
     refine C_exit ?_
     refine E_then_exit ?_
     refine E_then_exit ?_
     refine E_block_hit ?_
     refine E_then (C_fr [(1, .pointer (some ⟨b2, 0, none⟩))] rfl ?_)
     refine C_seq ?_
     refine C_seq ?_
     refine C_region ?_
     refine wv rfl rfl rfl (R_assign rfl rfl) ?_
     refine W_nil ?_
     refine E_then ?_
     refine C_block ?_
     refine C_fr [(1, .pointer (some ⟨b2, 0, none⟩)), (7, .int .i64 0)] rfl ?_
     refine C_loop (fun m_ f_ w_ => ∃ (l : Nat), f_ = [(1, .pointer (some ⟨b2, 0, none⟩)), (7, .int .i64 (l : Int))] ∧ l ≤ a0.Merges.length ∧ (List.range l).any (rmergeS a0) = false ∧ m_ = a0.Merges.length - l ∧ Sp (FF []) w z w_ [bR b2 26 [.int .i64 a0.Right, .slice Aa0_Widths a0.Widths.length ca0_Widths, .slice Aa0_Heights a0.Heights.length ca0_Heights, .slice Aa0_Cells a0.Cells.length ca0_Cells, .slice Aa0_Merges a0.Merges.length ca0_Merges]]) (a0.Merges.length - (0 : Nat)) ⟨(0 : Nat), rfl, (by omega), (by rfl), rfl, hS.fin [0] (by decide) rfl⟩ ?_
     rintro m_ f_ w132 ⟨l, rfl, hI3_0, hI3_1, rfl, hS⟩
     refine C_seq ?_
     refine C_seq ?_
     refine C_region ?_
     refine wv rfl rfl rfl (R_move rfl rfl) <| wv rfl rfl rfl (R_fld rfl rfl fld26_4) <| wv rfl rfl rfl (R_load1 rfl rfl agg24 ((hS.bx 0 rfl).cell rfl)) <| wv rfl rfl rfl (R_len rfl rfl Try.underlying24) <| wv rfl rfl rfl (R_bin rfl rfl rfl rfl rfl) ?_
     refine W_nil ?_
     refine E_then ?_
     refine C_ite rfl (fun hC7 => ?_) (fun hC7 => ?_)
     ·have _hC7 := trivial
      have hC7p : (l : Int) < (a0.Merges.length : Int) := by simpa using hC7
      refine C_skip ?_
      refine E_then (C_fr [(1, .pointer (some ⟨b2, 0, none⟩)), (7, .int .i64 (l : Int))] rfl ?_)
      refine C_seq ?_
      refine C_block ?_
      refine C_seq ?_
      refine C_region ?_
      refine wv rfl rfl rfl (R_fld rfl rfl fld26_4) <| wv rfl rfl rfl (R_load1 rfl rfl agg24 ((hS.bx 0 rfl).cell rfl)) <| wv rfl rfl rfl (R_move rfl rfl) ?_
      obtain ⟨q133, csq133, hAq133, rfl, hkq133⟩ := hra0_Merges.at_ (default : TRect) (i := (l : Int)) (by omega) (by omega)
      have hkq133 : ∀ (j_ : Nat) (u_ : Value), ([.int .i64 (a0.Merges.getD l (default : TRect)).Row, .int .i64 (a0.Merges.getD l (default : TRect)).Col, .int .i64 (a0.Merges.getD l (default : TRect)).Rows, .int .i64 (a0.Merges.getD l (default : TRect)).Cols] : List Value)[j_]? = some u_ → cz z (q133.add (l * 4 + j_)) = some u_ := hkq133
      refine wv rfl rfl rfl (R_idx rfl rfl hAq133 rfl Try.underlying24 size39 (by omega) (by omega)) <| wv rfl rfl rfl (R_loadN (cs := [.int .i64 (a0.Merges.getD l (default : TRect)).Row, .int .i64 (a0.Merges.getD l (default : TRect)).Col, .int .i64 (a0.Merges.getD l (default : TRect)).Rows, .int .i64 (a0.Merges.getD l (default : TRect)).Cols]) rfl rfl agg39 size39 rfl (fun j u h => cell_add (hS.sub.cell (hkq133 j u h)))) ?_
      refine W_cons rfl (by decide) (S_box hS rfl (R_alloc rfl alloc39) (fun b135 w134 hS => ?_))
      refine W_cons0 rfl (S_store hS 0 rfl rfl rfl rfl rfl size39 (one_cons rfl (one_cons rfl (one_cons rfl (one_cons rfl one_nil)))) (Nat.le_of_ble_eq_true rfl) (fun w136 hS => ?_))
      have hS : Sp (FF []) w z w136 [bR b135 39 [.int .i64 (a0.Merges.getD l (default : TRect)).Row, .int .i64 (a0.Merges.getD l (default : TRect)).Col, .int .i64 (a0.Merges.getD l (default : TRect)).Rows, .int .i64 (a0.Merges.getD l (default : TRect)).Cols], bR b2 26 [.int .i64 a0.Right, .slice Aa0_Widths a0.Widths.length ca0_Widths, .slice Aa0_Heights a0.Heights.length ca0_Heights, .slice Aa0_Cells a0.Cells.length ca0_Cells, .slice Aa0_Merges a0.Merges.length ca0_Merges]] := hS
      refine W_nil ?_
      refine E_then (C_fr [(1, .pointer (some ⟨b2, 0, none⟩)), (7, .int .i64 (l : Int)), (8, .pointer (some ⟨b135, 0, none⟩))] rfl ?_)
      refine C_seq ?_
      refine C_fr [(1, .pointer (some ⟨b2, 0, none⟩)), (7, .int .i64 (l : Int)), (8, .pointer (some ⟨b135, 0, none⟩))] rfl ?_
      refine C_drawn2 44 [[], [0], [1], [2], [3, 2], [2], [5, 2], [4, 6, 2], [7, 2], [8, 2], [2], [10, 2], [2], [12, 2], [11, 13, 2], [14, 2], [15, 2], [2], [17, 2], [2], [19, 2], [9, 16, 18, 20, 2, 2], [21, 2], [2, 22], [23, 21], [24], [25, 24], [26, 24], [24, 27], [28, 24], [29], [30, 29], [31, 29], [29, 32], [33, 29], [34], [35, 34], [36, 34], [37, 34, 34], [38], [39, 38], [40, 38], [38, 41, 34], [34, 42]] [some 132, some 133, some 134, some 135, some 136, some 137, some 138, some 139, some 140, some 141, some 142, some 143, some 144, some 145, some 146, some 147, some 148, some 149, some 150, some 151, some 152, some 153, some 154, some 155, some 156, some 157, some 158, some 159, some 160, some 161, some 162, some 163, some 164, some 165, some 166, some 167, some 168, some 169, some 170, some 171, some 172, some 173, some 174, some 175] [1, 7, 8] (List.replicate 44 44) (List.replicate 44 []) (List.replicate 44 []) [fun γ_ => .int .i64 (l : Int), fun γ_ => .bool (decide ((l : Int) > 0)), fun γ_ => .bool (decide ((l : Int) > 0)), fun γ_ => gv (decide ((l : Int) > 0)) (.pointer (some ⟨b2, 4, none⟩)), fun γ_ => gv (decide ((l : Int) > 0)) (.slice Aa0_Merges a0.Merges.length ca0_Merges), fun γ_ => gv (decide ((l : Int) > 0)) (.int .i64 (l : Int)), fun γ_ => gv (decide ((l : Int) > 0)) (.int .i64 ((l : Int) - 1)), fun γ_ => gv (decide ((l : Int) > 0)) (.pointer (Aa0_Merges.map (fun q_ => q_.add (((l : Int) - 1).toNat * 4)))), fun γ_ => gv (decide ((l : Int) > 0)) (.pointer (Aa0_Merges.map (fun q_ => (q_.add (((l : Int) - 1).toNat * 4)).add 0))), fun γ_ => gv (decide ((l : Int) > 0)) (.int .i64 (a0.Merges.getD ((l : Int) - 1).toNat (default : TRect)).Row), fun γ_ => gv (decide ((l : Int) > 0)) (.pointer (some ⟨b2, 4, none⟩)), fun γ_ => gv (decide ((l : Int) > 0)) (.slice Aa0_Merges a0.Merges.length ca0_Merges), fun γ_ => gv (decide ((l : Int) > 0)) (.int .i64 (l : Int)), fun γ_ => gv (decide ((l : Int) > 0)) (.int .i64 ((l : Int) - 1)), fun γ_ => gv (decide ((l : Int) > 0)) (.pointer (Aa0_Merges.map (fun q_ => q_.add (((l : Int) - 1).toNat * 4)))), fun γ_ => gv (decide ((l : Int) > 0)) (.pointer (Aa0_Merges.map (fun q_ => (q_.add (((l : Int) - 1).toNat * 4)).add 1))), fun γ_ => gv (decide ((l : Int) > 0)) (.int .i64 (a0.Merges.getD ((l : Int) - 1).toNat (default : TRect)).Col), fun γ_ => gv (decide ((l : Int) > 0)) (.pointer (some ⟨b135, 0, none⟩)), fun γ_ => gv (decide ((l : Int) > 0)) (.int .i64 (a0.Merges.getD l (default : TRect)).Row), fun γ_ => gv (decide ((l : Int) > 0)) (.pointer (some ⟨b135, 1, none⟩)), fun γ_ => gv (decide ((l : Int) > 0)) (.int .i64 (a0.Merges.getD l (default : TRect)).Col), fun γ_ => gv (decide ((l : Int) > 0)) (.bool (raheadS (a0.Merges.getD ((l : Int) - 1).toNat (default : TRect)).Row (a0.Merges.getD ((l : Int) - 1).toNat (default : TRect)).Col (a0.Merges.getD l (default : TRect)).Row (a0.Merges.getD l (default : TRect)).Col)), fun γ_ => gv (decide ((l : Int) > 0)) (.bool (!(raheadS (a0.Merges.getD ((l : Int) - 1).toNat (default : TRect)).Row (a0.Merges.getD ((l : Int) - 1).toNat (default : TRect)).Col (a0.Merges.getD l (default : TRect)).Row (a0.Merges.getD l (default : TRect)).Col))), fun γ_ => .bool ((decide ((l : Int) > 0)) && (!(raheadS (a0.Merges.getD ((l : Int) - 1).toNat (default : TRect)).Row (a0.Merges.getD ((l : Int) - 1).toNat (default : TRect)).Col (a0.Merges.getD l (default : TRect)).Row (a0.Merges.getD l (default : TRect)).Col))), fun γ_ => .bool ((decide ((l : Int) > 0)) && (!(raheadS (a0.Merges.getD ((l : Int) - 1).toNat (default : TRect)).Row (a0.Merges.getD ((l : Int) - 1).toNat (default : TRect)).Col (a0.Merges.getD l (default : TRect)).Row (a0.Merges.getD l (default : TRect)).Col))), fun γ_ => gv (!((decide ((l : Int) > 0)) && (!(raheadS (a0.Merges.getD ((l : Int) - 1).toNat (default : TRect)).Row (a0.Merges.getD ((l : Int) - 1).toNat (default : TRect)).Col (a0.Merges.getD l (default : TRect)).Row (a0.Merges.getD l (default : TRect)).Col)))) (.pointer (some ⟨b135, 2, none⟩)), fun γ_ => gv (!((decide ((l : Int) > 0)) && (!(raheadS (a0.Merges.getD ((l : Int) - 1).toNat (default : TRect)).Row (a0.Merges.getD ((l : Int) - 1).toNat (default : TRect)).Col (a0.Merges.getD l (default : TRect)).Row (a0.Merges.getD l (default : TRect)).Col)))) (.int .i64 (a0.Merges.getD l (default : TRect)).Rows), fun γ_ => gv (!((decide ((l : Int) > 0)) && (!(raheadS (a0.Merges.getD ((l : Int) - 1).toNat (default : TRect)).Row (a0.Merges.getD ((l : Int) - 1).toNat (default : TRect)).Col (a0.Merges.getD l (default : TRect)).Row (a0.Merges.getD l (default : TRect)).Col)))) (.bool (decide ((a0.Merges.getD l (default : TRect)).Rows < 1))), fun γ_ => .bool (((decide ((l : Int) > 0)) && (!(raheadS (a0.Merges.getD ((l : Int) - 1).toNat (default : TRect)).Row (a0.Merges.getD ((l : Int) - 1).toNat (default : TRect)).Col (a0.Merges.getD l (default : TRect)).Row (a0.Merges.getD l (default : TRect)).Col))) || (decide ((a0.Merges.getD l (default : TRect)).Rows < 1))), fun γ_ => .bool (((decide ((l : Int) > 0)) && (!(raheadS (a0.Merges.getD ((l : Int) - 1).toNat (default : TRect)).Row (a0.Merges.getD ((l : Int) - 1).toNat (default : TRect)).Col (a0.Merges.getD l (default : TRect)).Row (a0.Merges.getD l (default : TRect)).Col))) || (decide ((a0.Merges.getD l (default : TRect)).Rows < 1))), fun γ_ => gv (!(((decide ((l : Int) > 0)) && (!(raheadS (a0.Merges.getD ((l : Int) - 1).toNat (default : TRect)).Row (a0.Merges.getD ((l : Int) - 1).toNat (default : TRect)).Col (a0.Merges.getD l (default : TRect)).Row (a0.Merges.getD l (default : TRect)).Col))) || (decide ((a0.Merges.getD l (default : TRect)).Rows < 1)))) (.pointer (some ⟨b135, 3, none⟩)), fun γ_ => gv (!(((decide ((l : Int) > 0)) && (!(raheadS (a0.Merges.getD ((l : Int) - 1).toNat (default : TRect)).Row (a0.Merges.getD ((l : Int) - 1).toNat (default : TRect)).Col (a0.Merges.getD l (default : TRect)).Row (a0.Merges.getD l (default : TRect)).Col))) || (decide ((a0.Merges.getD l (default : TRect)).Rows < 1)))) (.int .i64 (a0.Merges.getD l (default : TRect)).Cols), fun γ_ => gv (!(((decide ((l : Int) > 0)) && (!(raheadS (a0.Merges.getD ((l : Int) - 1).toNat (default : TRect)).Row (a0.Merges.getD ((l : Int) - 1).toNat (default : TRect)).Col (a0.Merges.getD l (default : TRect)).Row (a0.Merges.getD l (default : TRect)).Col))) || (decide ((a0.Merges.getD l (default : TRect)).Rows < 1)))) (.bool (decide ((a0.Merges.getD l (default : TRect)).Cols < 1))), fun γ_ => .bool ((((decide ((l : Int) > 0)) && (!(raheadS (a0.Merges.getD ((l : Int) - 1).toNat (default : TRect)).Row (a0.Merges.getD ((l : Int) - 1).toNat (default : TRect)).Col (a0.Merges.getD l (default : TRect)).Row (a0.Merges.getD l (default : TRect)).Col))) || (decide ((a0.Merges.getD l (default : TRect)).Rows < 1))) || (decide ((a0.Merges.getD l (default : TRect)).Cols < 1))), fun γ_ => .bool ((((decide ((l : Int) > 0)) && (!(raheadS (a0.Merges.getD ((l : Int) - 1).toNat (default : TRect)).Row (a0.Merges.getD ((l : Int) - 1).toNat (default : TRect)).Col (a0.Merges.getD l (default : TRect)).Row (a0.Merges.getD l (default : TRect)).Col))) || (decide ((a0.Merges.getD l (default : TRect)).Rows < 1))) || (decide ((a0.Merges.getD l (default : TRect)).Cols < 1))), fun γ_ => gv (!((((decide ((l : Int) > 0)) && (!(raheadS (a0.Merges.getD ((l : Int) - 1).toNat (default : TRect)).Row (a0.Merges.getD ((l : Int) - 1).toNat (default : TRect)).Col (a0.Merges.getD l (default : TRect)).Row (a0.Merges.getD l (default : TRect)).Col))) || (decide ((a0.Merges.getD l (default : TRect)).Rows < 1))) || (decide ((a0.Merges.getD l (default : TRect)).Cols < 1)))) (.pointer (some ⟨b135, 2, none⟩)), fun γ_ => gv (!((((decide ((l : Int) > 0)) && (!(raheadS (a0.Merges.getD ((l : Int) - 1).toNat (default : TRect)).Row (a0.Merges.getD ((l : Int) - 1).toNat (default : TRect)).Col (a0.Merges.getD l (default : TRect)).Row (a0.Merges.getD l (default : TRect)).Col))) || (decide ((a0.Merges.getD l (default : TRect)).Rows < 1))) || (decide ((a0.Merges.getD l (default : TRect)).Cols < 1)))) (.int .i64 (a0.Merges.getD l (default : TRect)).Rows), fun γ_ => gv (!((((decide ((l : Int) > 0)) && (!(raheadS (a0.Merges.getD ((l : Int) - 1).toNat (default : TRect)).Row (a0.Merges.getD ((l : Int) - 1).toNat (default : TRect)).Col (a0.Merges.getD l (default : TRect)).Row (a0.Merges.getD l (default : TRect)).Col))) || (decide ((a0.Merges.getD l (default : TRect)).Rows < 1))) || (decide ((a0.Merges.getD l (default : TRect)).Cols < 1)))) (.bool ((a0.Merges.getD l (default : TRect)).Rows == 1)), fun γ_ => gv (!((((decide ((l : Int) > 0)) && (!(raheadS (a0.Merges.getD ((l : Int) - 1).toNat (default : TRect)).Row (a0.Merges.getD ((l : Int) - 1).toNat (default : TRect)).Col (a0.Merges.getD l (default : TRect)).Row (a0.Merges.getD l (default : TRect)).Col))) || (decide ((a0.Merges.getD l (default : TRect)).Rows < 1))) || (decide ((a0.Merges.getD l (default : TRect)).Cols < 1)))) (.bool ((a0.Merges.getD l (default : TRect)).Rows == 1)), fun γ_ => gv ((!((((decide ((l : Int) > 0)) && (!(raheadS (a0.Merges.getD ((l : Int) - 1).toNat (default : TRect)).Row (a0.Merges.getD ((l : Int) - 1).toNat (default : TRect)).Col (a0.Merges.getD l (default : TRect)).Row (a0.Merges.getD l (default : TRect)).Col))) || (decide ((a0.Merges.getD l (default : TRect)).Rows < 1))) || (decide ((a0.Merges.getD l (default : TRect)).Cols < 1)))) && ((a0.Merges.getD l (default : TRect)).Rows == 1)) (.pointer (some ⟨b135, 3, none⟩)), fun γ_ => gv ((!((((decide ((l : Int) > 0)) && (!(raheadS (a0.Merges.getD ((l : Int) - 1).toNat (default : TRect)).Row (a0.Merges.getD ((l : Int) - 1).toNat (default : TRect)).Col (a0.Merges.getD l (default : TRect)).Row (a0.Merges.getD l (default : TRect)).Col))) || (decide ((a0.Merges.getD l (default : TRect)).Rows < 1))) || (decide ((a0.Merges.getD l (default : TRect)).Cols < 1)))) && ((a0.Merges.getD l (default : TRect)).Rows == 1)) (.int .i64 (a0.Merges.getD l (default : TRect)).Cols), fun γ_ => gv ((!((((decide ((l : Int) > 0)) && (!(raheadS (a0.Merges.getD ((l : Int) - 1).toNat (default : TRect)).Row (a0.Merges.getD ((l : Int) - 1).toNat (default : TRect)).Col (a0.Merges.getD l (default : TRect)).Row (a0.Merges.getD l (default : TRect)).Col))) || (decide ((a0.Merges.getD l (default : TRect)).Rows < 1))) || (decide ((a0.Merges.getD l (default : TRect)).Cols < 1)))) && ((a0.Merges.getD l (default : TRect)).Rows == 1)) (.bool ((a0.Merges.getD l (default : TRect)).Cols == 1)), fun γ_ => gv (!((((decide ((l : Int) > 0)) && (!(raheadS (a0.Merges.getD ((l : Int) - 1).toNat (default : TRect)).Row (a0.Merges.getD ((l : Int) - 1).toNat (default : TRect)).Col (a0.Merges.getD l (default : TRect)).Row (a0.Merges.getD l (default : TRect)).Col))) || (decide ((a0.Merges.getD l (default : TRect)).Rows < 1))) || (decide ((a0.Merges.getD l (default : TRect)).Cols < 1)))) (.bool (((a0.Merges.getD l (default : TRect)).Rows == 1) && ((a0.Merges.getD l (default : TRect)).Cols == 1))), fun γ_ => .bool (((((decide ((l : Int) > 0)) && (!(raheadS (a0.Merges.getD ((l : Int) - 1).toNat (default : TRect)).Row (a0.Merges.getD ((l : Int) - 1).toNat (default : TRect)).Col (a0.Merges.getD l (default : TRect)).Row (a0.Merges.getD l (default : TRect)).Col))) || (decide ((a0.Merges.getD l (default : TRect)).Rows < 1))) || (decide ((a0.Merges.getD l (default : TRect)).Cols < 1))) || (((a0.Merges.getD l (default : TRect)).Rows == 1) && ((a0.Merges.getD l (default : TRect)).Cols == 1)))] (List.replicate 44 (fun _ => [])) rfl (by kernel_rfl) (by decide +kernel) hS ?_ ?_
      ·refine ⟨fun _ _ _ hS => Sv_val rfl (R_move rfl rfl) ⟨gh0, rfl, hS⟩, fun _ _ _ hS => Sv_val rfl (R_bin rfl rfl rfl rfl rfl) ⟨gh0, rfl, hS⟩, fun _ _ _ hS => Sv_val rfl (R_move rfl rfl) ⟨gh0, rfl, hS⟩, fun _ _ _ hS => Sv_gpure (Gd.on rfl rfl rfl) (fun hB => R_fld rfl rfl fld26_4) ⟨gh0, rfl, hS⟩, fun _ _ _ hS => Sv_gpure (Gd.on rfl rfl rfl) (fun hB => Runs.at_ (i := 135) (gl rfl hB) (R_load1 rfl rfl agg24 ((hS.bx 1 rfl).cell rfl))) ⟨gh0, rfl, hS⟩, fun _ _ _ hS => Sv_gpure (Gd.on rfl rfl rfl) (fun hB => R_move rfl rfl) ⟨gh0, rfl, hS⟩, fun _ _ _ hS => Sv_gpure (Gd.on rfl rfl rfl) (fun hB => by have hB0_ : (l : Int) > 0 := (by simpa using (hB)); exact Runs.at_ (i := 137) (gl rfl hB) (R_sub64 rfl rfl rfl (by omega) (by omega))) ⟨gh0, rfl, hS⟩, fun _ _ _ hS => Sv_gpure (v := .pointer (Aa0_Merges.map (fun q_ => q_.add (((l : Int) - 1).toNat * 4)))) (Gd.on rfl rfl rfl) (fun hB => by have hB0_ : (l : Int) > 0 := (by simpa using (hB)); obtain ⟨q159, csq159, hAq159, rfl, hkq159⟩ := hra0_Merges.at_ (default : TRect) (i := ((l : Int) - 1)) (by omega) (by omega); have e_ : Aa0_Merges.map (fun q_ => q_.add (((l : Int) - 1).toNat * 4)) = some (q159.add (((l : Int) - 1).toNat * 4)) := (by rw [hAq159]; rfl); rw [e_]; exact Runs.at_ (i := 138) (gl rfl hB) (Runs.at_ (i := 136) (gl rfl hB) (R_idx (iv := ((l : Int) - 1)) rfl rfl hAq159 rfl Try.underlying24 size39 (by omega) (by omega)))) ⟨gh0, rfl, hS⟩, fun _ _ _ hS => Sv_gpure (v := .pointer (Aa0_Merges.map (fun q_ => (q_.add (((l : Int) - 1).toNat * 4)).add 0))) (Gd.on rfl rfl rfl) (fun hB => by have hB0_ : (l : Int) > 0 := (by simpa using (hB)); obtain ⟨q162, csq162, hAq162, rfl, hkq162⟩ := hra0_Merges.at_ (default : TRect) (i := ((l : Int) - 1)) (by omega) (by omega); have e_ : Aa0_Merges.map (fun q_ => (q_.add (((l : Int) - 1).toNat * 4)).add 0) = some ((q162.add (((l : Int) - 1).toNat * 4)).add 0) := (by rw [hAq162]; rfl); rw [e_]; exact Runs.at_ (i := 139) (((gl rfl hB)).trans (by rw [hAq162]; rfl)) (R_fld rfl rfl fld39_0)) ⟨gh0, rfl, hS⟩, fun _ _ _ hS => Sv_gpure (Gd.on rfl rfl rfl) (fun hB => by have hB0_ : (l : Int) > 0 := (by simpa using (hB)); obtain ⟨q165, csq165, hAq165, rfl, hkq165⟩ := hra0_Merges.at_ (default : TRect) (i := ((l : Int) - 1)) (by omega) (by omega); exact Runs.at_ (i := 140) (((gl rfl hB)).trans (by rw [hAq165]; rfl)) (R_load1 rfl rfl agg3 (cell_add (hS.sub.cell (hkq165 0 _ rfl))))) ⟨gh0, rfl, hS⟩, fun _ _ _ hS => Sv_gpure (Gd.on rfl rfl rfl) (fun hB => R_fld rfl rfl fld26_4) ⟨gh0, rfl, hS⟩, fun _ _ _ hS => Sv_gpure (Gd.on rfl rfl rfl) (fun hB => Runs.at_ (i := 142) (gl rfl hB) (R_load1 rfl rfl agg24 ((hS.bx 1 rfl).cell rfl))) ⟨gh0, rfl, hS⟩, fun _ _ _ hS => Sv_gpure (Gd.on rfl rfl rfl) (fun hB => R_move rfl rfl) ⟨gh0, rfl, hS⟩, fun _ _ _ hS => Sv_gpure (Gd.on rfl rfl rfl) (fun hB => by have hB0_ : (l : Int) > 0 := (by simpa using (hB)); exact Runs.at_ (i := 144) (gl rfl hB) (R_sub64 rfl rfl rfl (by omega) (by omega))) ⟨gh0, rfl, hS⟩, fun _ _ _ hS => Sv_gpure (v := .pointer (Aa0_Merges.map (fun q_ => q_.add (((l : Int) - 1).toNat * 4)))) (Gd.on rfl rfl rfl) (fun hB => by have hB0_ : (l : Int) > 0 := (by simpa using (hB)); obtain ⟨q176, csq176, hAq176, rfl, hkq176⟩ := hra0_Merges.at_ (default : TRect) (i := ((l : Int) - 1)) (by omega) (by omega); have e_ : Aa0_Merges.map (fun q_ => q_.add (((l : Int) - 1).toNat * 4)) = some (q176.add (((l : Int) - 1).toNat * 4)) := (by rw [hAq176]; rfl); rw [e_]; exact Runs.at_ (i := 145) (gl rfl hB) (Runs.at_ (i := 143) (gl rfl hB) (R_idx (iv := ((l : Int) - 1)) rfl rfl hAq176 rfl Try.underlying24 size39 (by omega) (by omega)))) ⟨gh0, rfl, hS⟩, ?_⟩
       refine ⟨fun _ _ _ hS => Sv_gpure (v := .pointer (Aa0_Merges.map (fun q_ => (q_.add (((l : Int) - 1).toNat * 4)).add 1))) (Gd.on rfl rfl rfl) (fun hB => by have hB0_ : (l : Int) > 0 := (by simpa using (hB)); obtain ⟨q179, csq179, hAq179, rfl, hkq179⟩ := hra0_Merges.at_ (default : TRect) (i := ((l : Int) - 1)) (by omega) (by omega); have e_ : Aa0_Merges.map (fun q_ => (q_.add (((l : Int) - 1).toNat * 4)).add 1) = some ((q179.add (((l : Int) - 1).toNat * 4)).add 1) := (by rw [hAq179]; rfl); rw [e_]; exact Runs.at_ (i := 146) (((gl rfl hB)).trans (by rw [hAq179]; rfl)) (R_fld rfl rfl fld39_1)) ⟨gh0, rfl, hS⟩, fun _ _ _ hS => Sv_gpure (Gd.on rfl rfl rfl) (fun hB => by have hB0_ : (l : Int) > 0 := (by simpa using (hB)); obtain ⟨q182, csq182, hAq182, rfl, hkq182⟩ := hra0_Merges.at_ (default : TRect) (i := ((l : Int) - 1)) (by omega) (by omega); exact Runs.at_ (i := 147) (((gl rfl hB)).trans (by rw [hAq182]; rfl)) (R_load1 rfl rfl agg3 (cell_add (hS.sub.cell (hkq182 1 _ rfl))))) ⟨gh0, rfl, hS⟩, fun _ _ _ hS => Sv_gpure (Gd.on rfl rfl rfl) (fun hB => R_fld rfl rfl fld39_0) ⟨gh0, rfl, hS⟩, fun _ _ _ hS => Sv_gpure (Gd.on rfl rfl rfl) (fun hB => Runs.at_ (i := 149) (gl rfl hB) (R_load1 rfl rfl agg3 ((hS.bx 0 rfl).cell rfl))) ⟨gh0, rfl, hS⟩, fun _ _ _ hS => Sv_gpure (Gd.on rfl rfl rfl) (fun hB => R_fld rfl rfl fld39_1) ⟨gh0, rfl, hS⟩, fun _ _ _ hS => Sv_gpure (Gd.on rfl rfl rfl) (fun hB => Runs.at_ (i := 151) (gl rfl hB) (R_load1 rfl rfl agg3 ((hS.bx 0 rfl).cell rfl))) ⟨gh0, rfl, hS⟩, fun _ _ _ hS => Sv_gcall (Gd.on rfl rfl rfl) hS (fun hB => Sv.at_ (i := 152) (gl rfl hB) (Sv.at_ (i := 150) (gl rfl hB) (Sv.at_ (i := 148) (gl rfl hB) (Sv.at_ (i := 141) (gl rfl hB) (Sv_call rfl rfl rfl ent80 ((rahead_calls (a0.Merges.getD ((l : Int) - 1).toNat (default : TRect)).Row (a0.Merges.getD ((l : Int) - 1).toNat (default : TRect)).Col (a0.Merges.getD l (default : TRect)).Row (a0.Merges.getD l (default : TRect)).Col _ _ hS.out0  ).mono (fun _ _ h_ => ⟨_, h_.1, rfl, hS.call0 h_.2⟩))))))) (fun _ hS => ⟨gh0, rfl, hS⟩), fun _ _ _ hS => Sv_gpure (Gd.on rfl rfl rfl) (fun hB => Runs.at_ (i := 153) (gl rfl hB) (R_un rfl rfl rfl)) ⟨gh0, rfl, hS⟩, fun _ _ _ hS => Sv_val rfl (R_pick_and rfl rfl rfl rfl) ⟨gh0, rfl, hS⟩, fun _ _ _ hS => Sv_val rfl (R_move rfl rfl) ⟨gh0, rfl, hS⟩, fun _ _ _ hS => Sv_gpure (Gd.no rfl rfl rfl) (fun hB => R_fld rfl rfl fld39_2) ⟨gh0, rfl, hS⟩, fun _ _ _ hS => Sv_gpure (Gd.no rfl rfl rfl) (fun hB => Runs.at_ (i := 157) (gl rfl hB) (R_load1 rfl rfl agg3 ((hS.bx 0 rfl).cell rfl))) ⟨gh0, rfl, hS⟩, fun _ _ _ hS => Sv_gpure (Gd.no rfl rfl rfl) (fun hB => Runs.at_ (i := 158) (gl rfl hB) (R_bin rfl rfl rfl rfl rfl)) ⟨gh0, rfl, hS⟩, fun _ _ _ hS => Sv_val rfl (R_pick_or rfl rfl rfl rfl) ⟨gh0, rfl, hS⟩, fun _ _ _ hS => Sv_val rfl (R_move rfl rfl) ⟨gh0, rfl, hS⟩, fun _ _ _ hS => Sv_gpure (Gd.no rfl rfl rfl) (fun hB => R_fld rfl rfl fld39_3) ⟨gh0, rfl, hS⟩, fun _ _ _ hS => Sv_gpure (Gd.no rfl rfl rfl) (fun hB => Runs.at_ (i := 162) (gl rfl hB) (R_load1 rfl rfl agg3 ((hS.bx 0 rfl).cell rfl))) ⟨gh0, rfl, hS⟩, ?_⟩
       refine ⟨fun _ _ _ hS => Sv_gpure (Gd.no rfl rfl rfl) (fun hB => Runs.at_ (i := 163) (gl rfl hB) (R_bin rfl rfl rfl rfl rfl)) ⟨gh0, rfl, hS⟩, fun _ _ _ hS => Sv_val rfl (R_pick_or rfl rfl rfl rfl) ⟨gh0, rfl, hS⟩, fun _ _ _ hS => Sv_val rfl (R_move rfl rfl) ⟨gh0, rfl, hS⟩, fun _ _ _ hS => Sv_gpure (Gd.no rfl rfl rfl) (fun hB => R_fld rfl rfl fld39_2) ⟨gh0, rfl, hS⟩, fun _ _ _ hS => Sv_gpure (Gd.no rfl rfl rfl) (fun hB => Runs.at_ (i := 167) (gl rfl hB) (R_load1 rfl rfl agg3 ((hS.bx 0 rfl).cell rfl))) ⟨gh0, rfl, hS⟩, fun _ _ _ hS => Sv_gpure (Gd.no rfl rfl rfl) (fun hB => Runs.at_ (i := 168) (gl rfl hB) (R_bin rfl rfl rfl rfl rfl)) ⟨gh0, rfl, hS⟩, fun _ _ _ hS => Sv_gpure (Gd.no rfl rfl rfl) (fun hB => Runs.at_ (i := 169) (gl rfl hB) (R_move rfl rfl)) ⟨gh0, rfl, hS⟩, fun _ _ _ hS => Sv_gpure (Gd.gon rfl rfl rfl) (fun hB => R_fld rfl rfl fld39_3) ⟨gh0, rfl, hS⟩, fun _ _ _ hS => Sv_gpure (Gd.gon rfl rfl rfl) (fun hB => Runs.at_ (i := 171) (gl rfl hB) (R_load1 rfl rfl agg3 ((hS.bx 0 rfl).cell rfl))) ⟨gh0, rfl, hS⟩, fun _ _ _ hS => Sv_gpure (Gd.gon rfl rfl rfl) (fun hB => Runs.at_ (i := 172) (gl rfl hB) (R_bin rfl rfl rfl rfl rfl)) ⟨gh0, rfl, hS⟩, fun _ _ _ hS => Sv_gpure (Gd.no rfl rfl rfl) (fun hB => Runs.at_ (i := 173) (gl2 rfl hB) (Runs.at_ (i := 170) (gl rfl hB) (R_pick_and rfl rfl rfl rfl))) ⟨gh0, rfl, hS⟩, fun _ _ _ hS => Sv_val rfl (R_pick_or rfl rfl rfl rfl) ⟨gh0, rfl, hS⟩, ?_⟩
       exact trivial
      ·intro g_ w237 hS
       have hS : Sp (FF []) w z w237 [bR b135 39 [.int .i64 (a0.Merges.getD l (default : TRect)).Row, .int .i64 (a0.Merges.getD l (default : TRect)).Col, .int .i64 (a0.Merges.getD l (default : TRect)).Rows, .int .i64 (a0.Merges.getD l (default : TRect)).Cols], bR b2 26 [.int .i64 a0.Right, .slice Aa0_Widths a0.Widths.length ca0_Widths, .slice Aa0_Heights a0.Heights.length ca0_Heights, .slice Aa0_Cells a0.Cells.length ca0_Cells, .slice Aa0_Merges a0.Merges.length ca0_Merges]] := hS
       refine An_fr [(1, .pointer (some ⟨b2, 0, none⟩)), (7, .int .i64 (l : Int)), (8, .pointer (some ⟨b135, 0, none⟩)), (175, .bool (((((decide ((l : Int) > 0)) && (!(raheadS (a0.Merges.getD ((l : Int) - 1).toNat (default : TRect)).Row (a0.Merges.getD ((l : Int) - 1).toNat (default : TRect)).Col (a0.Merges.getD l (default : TRect)).Row (a0.Merges.getD l (default : TRect)).Col))) || (decide ((a0.Merges.getD l (default : TRect)).Rows < 1))) || (decide ((a0.Merges.getD l (default : TRect)).Cols < 1))) || (((a0.Merges.getD l (default : TRect)).Rows == 1) && ((a0.Merges.getD l (default : TRect)).Cols == 1))))] rfl ?_
       refine An_done (by decide +kernel) ?_
       refine E_then ?_
       refine C_ite rfl (fun hC8 => ?_) (fun hC8 => ?_)
       ·have _hC8 := trivial
        have hC8p : (((((l : Int) > 0 ∧ ¬ (raheadS (a0.Merges.getD ((l : Int) - 1).toNat (default : TRect)).Row (a0.Merges.getD ((l : Int) - 1).toNat (default : TRect)).Col (a0.Merges.getD l (default : TRect)).Row (a0.Merges.getD l (default : TRect)).Col = true)) ∨ (a0.Merges.getD l (default : TRect)).Rows < 1) ∨ (a0.Merges.getD l (default : TRect)).Cols < 1) ∨ ((a0.Merges.getD l (default : TRect)).Rows = 1 ∧ (a0.Merges.getD l (default : TRect)).Cols = 1)) := by simpa using hC8
        refine C_seq ?_
        refine C_region ?_
        refine wv rfl rfl rfl (R_assign rfl rfl) ?_
        refine W_nil ?_
        refine E_then ?_
        refine C_ret ?_
        refine E_block_ret ?_
        refine E_then_ret ?_
        refine E_then_ret ?_
        refine E_block_ret ?_
        refine E_then_ret ?_
        refine E_ret1 rfl rfl ?_
        exact ⟨Lret1 (Lbool (show false = (rorderS a0) by first | exact rord_top (by omega) | exact rord_ok (i := i) (j := j) (k := k) (l := l) (by omega) (by omega) hI0_1 (by omega) hI1_1 (by omega) (by omega) hI2_1 (by omega) (by omega) hI3_1 | exact rord_m (i := l) (by omega) (by unfold rmergeS; simp_all) | exact rord_c (i := k) (by omega) (by unfold rcellS; simp_all) | exact rord_h (i := j) (by omega) (by assumption) | exact rord_w (i := i) (by omega) (by assumption))), hS.fin [] (by decide) rfl⟩
       ·have _hC8 := trivial
        have hC8p : ¬ ((((((l : Int) > 0 ∧ ¬ (raheadS (a0.Merges.getD ((l : Int) - 1).toNat (default : TRect)).Row (a0.Merges.getD ((l : Int) - 1).toNat (default : TRect)).Col (a0.Merges.getD l (default : TRect)).Row (a0.Merges.getD l (default : TRect)).Col = true)) ∨ (a0.Merges.getD l (default : TRect)).Rows < 1) ∨ (a0.Merges.getD l (default : TRect)).Cols < 1) ∨ ((a0.Merges.getD l (default : TRect)).Rows = 1 ∧ (a0.Merges.getD l (default : TRect)).Cols = 1))) := by simpa using hC8
        refine C_skip ?_
        refine E_block_normal ?_
        refine E_then ?_
        refine C_region ?_
        refine wv rfl rfl rfl (R_move rfl rfl) <| wv rfl rfl rfl (R_add64 rfl rfl rfl (by omega) (by omega)) <| wv rfl rfl rfl (R_assign rfl rfl) ?_
        refine W_nil ?_
        refine E_round [1, 7] ?_ ⟨(l + 1 : Nat), rfl, (by omega), (by exact range_any_next hI3_1 (by simp_all [rmergeS])), rfl, hS.fin [1] (by decide) rfl⟩
        omega
     ·have _hC7 := trivial
      have hC7p : ¬ ((l : Int) < (a0.Merges.length : Int)) := by simpa using hC7
      refine C_exit ?_
      refine E_then_exit ?_
      refine E_then_exit ?_
      refine E_block_hit ?_
      refine E_then (C_fr [] rfl ?_)
      refine C_seq ?_
      refine C_region ?_
      refine wv rfl rfl rfl (R_assign rfl rfl) ?_
      refine W_nil ?_
      refine E_then ?_
      refine C_ret ?_
      refine E_ret1 rfl rfl ?_
      exact ⟨Lret1 (Lbool (show true = (rorderS a0) by first | exact rord_top (by omega) | exact rord_ok (i := i) (j := j) (k := k) (l := l) (by omega) (by omega) hI0_1 (by omega) hI1_1 (by omega) (by omega) hI2_1 (by omega) (by omega) hI3_1 | exact rord_m (i := l) (by omega) (by unfold rmergeS; simp_all) | exact rord_c (i := k) (by omega) (by unfold rcellS; simp_all) | exact rord_h (i := j) (by omega) (by assumption) | exact rord_w (i := i) (by omega) (by assumption))), hS.fin [] (by decide) rfl⟩

set_option maxHeartbeats 4000000 in
set_option maxRecDepth 20000 in
theorem rcheck_calls (a0 : TSheet) (Aa0_Widths : Option Addr) (ca0_Widths : Nat) (Aa0_Heights : Option Addr) (ca0_Heights : Nat) (Aa0_Cells : Option Addr) (ca0_Cells : Nat) (Aa0_Merges : Option Addr) (ca0_Merges : Nat) (z : Z) (w : World) (hI : In z w []) (hra0_Widths : Rd (kint .i64) z Aa0_Widths a0.Widths) (hca0_Widths : Cap Aa0_Widths a0.Widths.length ca0_Widths) (hra0_Heights : Rd (kint .i64) z Aa0_Heights a0.Heights) (hca0_Heights : Cap Aa0_Heights a0.Heights.length ca0_Heights) (hra0_Cells : Rd kdTCell z Aa0_Cells a0.Cells) (hca0_Cells : Cap Aa0_Cells a0.Cells.length ca0_Cells) (hra0_Merges : Rd kdTRect z Aa0_Merges a0.Merges) (hca0_Merges : Cap Aa0_Merges a0.Merges.length ca0_Merges)  :
    Calls Try.prog 27 #[.agg #[.int .i64 a0.Right, .slice Aa0_Widths a0.Widths.length ca0_Widths, .slice Aa0_Heights a0.Heights.length ca0_Heights, .slice Aa0_Cells a0.Cells.length ca0_Cells, .slice Aa0_Merges a0.Merges.length ca0_Merges]] w fun e w' => e = .returned (.int .i64 (rcheckSh a0)) ∧ Sp (FF []) w z w' [] := by
 have hla0_Widths := hca0_Widths.le
 have hma0_Widths := hca0_Widths.mx
 have hla0_Heights := hca0_Heights.le
 have hma0_Heights := hca0_Heights.mx
 have hla0_Cells := hca0_Cells.le
 have hma0_Cells := hca0_Cells.mx
 have hla0_Merges := hca0_Merges.le
 have hma0_Merges := hca0_Merges.mx
 have hS := hI.sp
 refine Calls_of (vs := [.agg #[.int .i64 a0.Right, .slice Aa0_Widths a0.Widths.length ca0_Widths, .slice Aa0_Heights a0.Heights.length ca0_Heights, .slice Aa0_Cells a0.Cells.length ca0_Cells, .slice Aa0_Merges a0.Merges.length ca0_Merges]]) (N := 131) Try.func27 rfl rfl (Nat.le_of_ble_eq_true rfl) ?_
 refine C_seq ?_
 refine C_region ?_
 refine W_cons rfl (by decide) (S_box hS rfl (R_box (cs := [.int .i64 a0.Right, .slice Aa0_Widths a0.Widths.length ca0_Widths, .slice Aa0_Heights a0.Heights.length ca0_Heights, .slice Aa0_Cells a0.Cells.length ca0_Cells, .slice Aa0_Merges a0.Merges.length ca0_Merges]) rfl rfl rfl) (fun b2 w1 hS => ?_))
 refine wv rfl rfl rfl (R_assign rfl rfl) ?_
 refine W_nil ?_
 refine E_then ?_
 refine C_seq ?_
 refine C_seq ?_
 refine C_region ?_
 refine wv rfl rfl rfl (R_loadN (cs := [.int .i64 a0.Right, .slice Aa0_Widths a0.Widths.length ca0_Widths, .slice Aa0_Heights a0.Heights.length ca0_Heights, .slice Aa0_Cells a0.Cells.length ca0_Cells, .slice Aa0_Merges a0.Merges.length ca0_Merges]) rfl rfl agg26 size26 rfl (boxcells (hS.bx 0 rfl) 0 rfl)) ?_
 refine W_cons rfl (by decide) (Sv_call rfl rfl rfl ent56 ?_)
 refine (rlimits_calls a0 Aa0_Widths ca0_Widths Aa0_Heights ca0_Heights Aa0_Cells ca0_Cells Aa0_Merges ca0_Merges _ _ hS.out0 (hra0_Widths.mono (hS.zl [])) hca0_Widths (hra0_Heights.mono (hS.zl [])) hca0_Heights (hra0_Cells.mono (hS.zl [])) hca0_Cells (hra0_Merges.mono (hS.zl [])) hca0_Merges ).mono ?_
 rintro e_ w3 ⟨rfl, hS_⟩
 refine ⟨_, rfl, ?_⟩
 have hS := hS.call0 hS_
 refine wv rfl rfl rfl (R_un rfl rfl rfl) ?_
 refine W_nil ?_
 refine E_then ?_
 refine C_ite rfl (fun hC0 => ?_) (fun hC0 => ?_)
 ·have _hC0 := trivial
  have hC0p : ¬ (rlimitsS a0 = true) := by simpa using hC0
  refine C_seq ?_
  refine C_region ?_
  refine wv rfl rfl rfl (R_assign rfl rfl) ?_
  refine W_nil ?_
  refine E_then (C_fr [(2, .int .i64 3)] rfl ?_)
  refine C_ret ?_
  refine E_then_ret ?_
  refine E_ret1 rfl rfl ?_
  exact ⟨Lret1 (Lint (show 3 = rcheckSh a0 by first | exact rck3 (by assumption) | exact rck1 (by assumption) (by assumption) | exact rck0 (by assumption) (by assumption) (i := i) (by omega) hI0_1 (j := j) (by omega) hI1_1 (k := k) (by omega) (by omega) hI2_1 (l := l) (by omega) hI4_1 | exact rck6 (by assumption) (by assumption) (i := i) (by omega) hI0_1 (j := j) (by omega) hI1_1 (k := k) (by omega) (by omega) hI2_1 (l := l) (by omega) (by unfold runderS; simp_all) | exact rck5 (by assumption) (by assumption) (i := i) (by omega) hI0_1 (j := j) (by omega) hI1_1 (k := k) (l := m) (by omega) (by omega) (by assumption) | exact rck4m (by assumption) (by assumption) (i := i) (by omega) hI0_1 (j := j) (by omega) (by assumption) | exact rck4 (by assumption) (by assumption) (i := i) (by omega) (by unfold rfarS; simp_all))), hS.fin [] (by decide) rfl⟩
 ·have _hC0 := trivial
  have hC0p : (rlimitsS a0 = true) := by simpa using hC0
  refine C_skip ?_
  refine E_then (C_fr [(1, .pointer (some ⟨b2, 0, none⟩))] rfl ?_)
  refine C_seq ?_
  refine C_seq ?_
  refine C_region ?_
  refine wv rfl rfl rfl (R_loadN (cs := [.int .i64 a0.Right, .slice Aa0_Widths a0.Widths.length ca0_Widths, .slice Aa0_Heights a0.Heights.length ca0_Heights, .slice Aa0_Cells a0.Cells.length ca0_Cells, .slice Aa0_Merges a0.Merges.length ca0_Merges]) rfl rfl agg26 size26 rfl (boxcells (hS.bx 0 rfl) 0 rfl)) ?_
  refine W_cons rfl (by decide) (Sv_call rfl rfl rfl ent57 ?_)
  refine (rorder_calls a0 Aa0_Widths ca0_Widths Aa0_Heights ca0_Heights Aa0_Cells ca0_Cells Aa0_Merges ca0_Merges _ _ hS.out0 (hra0_Widths.mono (hS.zl [])) hca0_Widths (hra0_Heights.mono (hS.zl [])) hca0_Heights (hra0_Cells.mono (hS.zl [])) hca0_Cells (hra0_Merges.mono (hS.zl [])) hca0_Merges ).mono ?_
  rintro e_ w5 ⟨rfl, hS_⟩
  refine ⟨_, rfl, ?_⟩
  have hS := hS.call0 hS_
  refine wv rfl rfl rfl (R_un rfl rfl rfl) ?_
  refine W_nil ?_
  refine E_then ?_
  refine C_ite rfl (fun hC1 => ?_) (fun hC1 => ?_)
  ·have _hC1 := trivial
   have hC1p : ¬ (rorderS a0 = true) := by simpa using hC1
   refine C_seq ?_
   refine C_region ?_
   refine wv rfl rfl rfl (R_assign rfl rfl) ?_
   refine W_nil ?_
   refine E_then ?_
   refine C_ret ?_
   refine E_then_ret ?_
   refine E_ret1 rfl rfl ?_
   exact ⟨Lret1 (Lint (show 1 = rcheckSh a0 by first | exact rck3 (by assumption) | exact rck1 (by assumption) (by assumption) | exact rck0 (by assumption) (by assumption) (i := i) (by omega) hI0_1 (j := j) (by omega) hI1_1 (k := k) (by omega) (by omega) hI2_1 (l := l) (by omega) hI4_1 | exact rck6 (by assumption) (by assumption) (i := i) (by omega) hI0_1 (j := j) (by omega) hI1_1 (k := k) (by omega) (by omega) hI2_1 (l := l) (by omega) (by unfold runderS; simp_all) | exact rck5 (by assumption) (by assumption) (i := i) (by omega) hI0_1 (j := j) (by omega) hI1_1 (k := k) (l := m) (by omega) (by omega) (by assumption) | exact rck4m (by assumption) (by assumption) (i := i) (by omega) hI0_1 (j := j) (by omega) (by assumption) | exact rck4 (by assumption) (by assumption) (i := i) (by omega) (by unfold rfarS; simp_all))), hS.fin [] (by decide) rfl⟩
  ·have _hC1 := trivial
   have hC1p : (rorderS a0 = true) := by simpa using hC1
   refine C_skip ?_
   refine E_then ?_
   refine C_seq ?_
   refine C_seq ?_
   refine C_region ?_
   refine wv rfl rfl rfl (R_assign rfl rfl) ?_
   refine W_nil ?_
   refine E_then ?_
   refine C_block ?_
   refine C_fr [(1, .pointer (some ⟨b2, 0, none⟩)), (3, .int .i64 0)] rfl ?_
   refine C_loop (fun m_ f_ w_ => ∃ (i : Nat), f_ = [(1, .pointer (some ⟨b2, 0, none⟩)), (3, .int .i64 (i : Int))] ∧ i ≤ a0.Cells.length ∧ (a0.Cells.take i).any (rfarS a0) = false ∧ m_ = a0.Cells.length - i ∧ Sp (FF []) w z w_ [bR b2 26 [.int .i64 a0.Right, .slice Aa0_Widths a0.Widths.length ca0_Widths, .slice Aa0_Heights a0.Heights.length ca0_Heights, .slice Aa0_Cells a0.Cells.length ca0_Cells, .slice Aa0_Merges a0.Merges.length ca0_Merges]]) (a0.Cells.length - (0 : Nat)) ⟨(0 : Nat), rfl, (by omega), (by rfl), rfl, hS.fin [0] (by decide) rfl⟩ ?_
   rintro m_ f_ w7 ⟨i, rfl, hI0_0, hI0_1, rfl, hS⟩
   refine C_seq ?_
   refine C_seq ?_
   refine C_region ?_
   refine wv rfl rfl rfl (R_move rfl rfl) <| wv rfl rfl rfl (R_fld rfl rfl fld26_3) <| wv rfl rfl rfl (R_load1 rfl rfl agg23 ((hS.bx 0 rfl).cell rfl)) <| wv rfl rfl rfl (R_len rfl rfl Try.underlying23) <| wv rfl rfl rfl (R_bin rfl rfl rfl rfl rfl) ?_
   refine W_nil ?_
   refine E_then ?_
   refine C_ite rfl (fun hC2 => ?_) (fun hC2 => ?_)
   ·have _hC2 := trivial
    have hC2p : (i : Int) < (a0.Cells.length : Int) := by simpa using hC2
    refine C_skip ?_
    refine E_then (C_fr [(1, .pointer (some ⟨b2, 0, none⟩)), (3, .int .i64 (i : Int))] rfl ?_)
    refine C_seq ?_
    refine C_block ?_
    refine C_seq ?_
    refine C_region ?_
    refine wv rfl rfl rfl (R_fld rfl rfl fld26_3) <| wv rfl rfl rfl (R_load1 rfl rfl agg23 ((hS.bx 0 rfl).cell rfl)) <| wv rfl rfl rfl (R_move rfl rfl) ?_
    obtain ⟨q8, csq8, hAq8, rfl, hkq8⟩ := hra0_Cells.at_ (default : TCell) (i := (i : Int)) (by omega) (by omega)
    have hkq8 : ∀ (j_ : Nat) (u_ : Value), ([.int .i64 (a0.Cells.getD i (default : TCell)).Row, .int .i64 (a0.Cells.getD i (default : TCell)).Col, vstr (a0.Cells.getD i (default : TCell)).Text, .int .i64 (a0.Cells.getD i (default : TCell)).Style.Align, .int .i64 (a0.Cells.getD i (default : TCell)).Style.Wrap, .int .i64 (a0.Cells.getD i (default : TCell)).Style.Dir] : List Value)[j_]? = some u_ → cz z (q8.add (i * 6 + j_)) = some u_ := hkq8
    refine wv rfl rfl rfl (R_idx rfl rfl hAq8 rfl Try.underlying23 size60 (by omega) (by omega)) <| wv rfl rfl rfl (R_loadN (cs := [.int .i64 (a0.Cells.getD i (default : TCell)).Row, .int .i64 (a0.Cells.getD i (default : TCell)).Col, vstr (a0.Cells.getD i (default : TCell)).Text, .int .i64 (a0.Cells.getD i (default : TCell)).Style.Align, .int .i64 (a0.Cells.getD i (default : TCell)).Style.Wrap, .int .i64 (a0.Cells.getD i (default : TCell)).Style.Dir]) rfl rfl agg60 size60 rfl (fun j u h => cell_add (hS.sub.cell (hkq8 j u h)))) ?_
    refine W_cons rfl (by decide) (S_box hS rfl (R_alloc rfl alloc60) (fun b10 w9 hS => ?_))
    refine W_cons0 rfl (S_store hS 0 rfl rfl rfl rfl rfl size60 (one_cons rfl (one_cons rfl (one_cons rfl (one_cons rfl (one_cons rfl (one_cons rfl one_nil)))))) (Nat.le_of_ble_eq_true rfl) (fun w11 hS => ?_))
    have hS : Sp (FF []) w z w11 [bR b10 60 [.int .i64 (a0.Cells.getD i (default : TCell)).Row, .int .i64 (a0.Cells.getD i (default : TCell)).Col, vstr (a0.Cells.getD i (default : TCell)).Text, .int .i64 (a0.Cells.getD i (default : TCell)).Style.Align, .int .i64 (a0.Cells.getD i (default : TCell)).Style.Wrap, .int .i64 (a0.Cells.getD i (default : TCell)).Style.Dir], bR b2 26 [.int .i64 a0.Right, .slice Aa0_Widths a0.Widths.length ca0_Widths, .slice Aa0_Heights a0.Heights.length ca0_Heights, .slice Aa0_Cells a0.Cells.length ca0_Cells, .slice Aa0_Merges a0.Merges.length ca0_Merges]] := hS
    refine W_nil ?_
    refine E_then (C_fr [(1, .pointer (some ⟨b2, 0, none⟩)), (3, .int .i64 (i : Int)), (4, .pointer (some ⟨b10, 0, none⟩))] rfl ?_)
    refine C_seq ?_
    refine C_region ?_
    refine wv rfl rfl rfl (R_fld rfl rfl fld60_0) <| wv rfl rfl rfl (R_load1 rfl rfl agg3 ((hS.bx 0 rfl).cell rfl)) <| wv rfl rfl rfl (R_bin rfl rfl rfl rfl rfl) <| wv rfl rfl rfl (R_move rfl rfl) <| wg rfl rfl (Gd.no rfl rfl rfl) (fun hB => R_fld rfl rfl fld60_1) <| wg rfl rfl (Gd.no rfl rfl rfl) (fun hB => Runs.at_ (i := 32) (gl rfl hB) (R_load1 rfl rfl agg3 ((hS.bx 0 rfl).cell rfl))) <| wg rfl rfl (Gd.no rfl rfl rfl) (fun hB => Runs.at_ (i := 33) (gl rfl hB) (R_bin rfl rfl rfl rfl rfl)) <| wv rfl rfl rfl (R_pick_or rfl rfl rfl rfl) <| wv rfl rfl rfl (R_move rfl rfl) <| wg rfl rfl (Gd.no rfl rfl rfl) (fun hB => R_fld rfl rfl fld60_0) <| wg rfl rfl (Gd.no rfl rfl rfl) (fun hB => Runs.at_ (i := 37) (gl rfl hB) (R_load1 rfl rfl agg3 ((hS.bx 0 rfl).cell rfl))) <| wg rfl rfl (Gd.no rfl rfl rfl) (fun hB => R_fld rfl rfl fld26_2) <| wg rfl rfl (Gd.no rfl rfl rfl) (fun hB => Runs.at_ (i := 39) (gl rfl hB) (R_load1 rfl rfl agg22 ((hS.bx 1 rfl).cell rfl))) <| wg rfl rfl (Gd.no rfl rfl rfl) (fun hB => Runs.at_ (i := 40) (gl rfl hB) (R_len rfl rfl Try.underlying22)) <| wg rfl rfl (Gd.no rfl rfl rfl) (fun hB => Runs.at_ (i := 41) (gl rfl hB) (Runs.at_ (i := 38) (gl rfl hB) (R_bin rfl rfl rfl rfl rfl))) <| wv rfl rfl rfl (R_pick_or rfl rfl rfl rfl) <| wv rfl rfl rfl (R_move rfl rfl) <| wg rfl rfl (Gd.no rfl rfl rfl) (fun hB => R_fld rfl rfl fld60_1) <| wg rfl rfl (Gd.no rfl rfl rfl) (fun hB => Runs.at_ (i := 45) (gl rfl hB) (R_load1 rfl rfl agg3 ((hS.bx 0 rfl).cell rfl))) <| wg rfl rfl (Gd.no rfl rfl rfl) (fun hB => R_fld rfl rfl fld26_1) <| wg rfl rfl (Gd.no rfl rfl rfl) (fun hB => Runs.at_ (i := 47) (gl rfl hB) (R_load1 rfl rfl agg22 ((hS.bx 1 rfl).cell rfl))) <| wg rfl rfl (Gd.no rfl rfl rfl) (fun hB => Runs.at_ (i := 48) (gl rfl hB) (R_len rfl rfl Try.underlying22)) <| wg rfl rfl (Gd.no rfl rfl rfl) (fun hB => Runs.at_ (i := 49) (gl rfl hB) (Runs.at_ (i := 46) (gl rfl hB) (R_bin rfl rfl rfl rfl rfl))) <| wv rfl rfl rfl (R_pick_or rfl rfl rfl rfl) ?_
    refine W_nil ?_
    refine E_then (C_fr [(1, .pointer (some ⟨b2, 0, none⟩)), (3, .int .i64 (i : Int)), (51, .bool ((((decide ((a0.Cells.getD i (default : TCell)).Row < 0)) || (decide ((a0.Cells.getD i (default : TCell)).Col < 0))) || (decide ((a0.Cells.getD i (default : TCell)).Row ≥ (a0.Heights.length : Int)))) || (decide ((a0.Cells.getD i (default : TCell)).Col ≥ (a0.Widths.length : Int)))))] rfl ?_)
    refine C_ite rfl (fun hC3 => ?_) (fun hC3 => ?_)
    ·have _hC3 := trivial
     have hC3p : ((((a0.Cells.getD i (default : TCell)).Row < 0 ∨ (a0.Cells.getD i (default : TCell)).Col < 0) ∨ (a0.Cells.getD i (default : TCell)).Row ≥ (a0.Heights.length : Int)) ∨ (a0.Cells.getD i (default : TCell)).Col ≥ (a0.Widths.length : Int)) := by simpa using hC3
     refine C_seq ?_
     refine C_region ?_
     refine wv rfl rfl rfl (R_assign rfl rfl) ?_
     refine W_nil ?_
     refine E_then ?_
     refine C_ret ?_
     refine E_block_ret ?_
     refine E_then_ret ?_
     refine E_then_ret ?_
     refine E_block_ret ?_
     refine E_then_ret ?_
     refine E_ret1 rfl rfl ?_
     exact ⟨Lret1 (Lint (show 4 = rcheckSh a0 by first | exact rck3 (by assumption) | exact rck1 (by assumption) (by assumption) | exact rck0 (by assumption) (by assumption) (i := i) (by omega) hI0_1 (j := j) (by omega) hI1_1 (k := k) (by omega) (by omega) hI2_1 (l := l) (by omega) hI4_1 | exact rck6 (by assumption) (by assumption) (i := i) (by omega) hI0_1 (j := j) (by omega) hI1_1 (k := k) (by omega) (by omega) hI2_1 (l := l) (by omega) (by unfold runderS; simp_all) | exact rck5 (by assumption) (by assumption) (i := i) (by omega) hI0_1 (j := j) (by omega) hI1_1 (k := k) (l := m) (by omega) (by omega) (by assumption) | exact rck4m (by assumption) (by assumption) (i := i) (by omega) hI0_1 (j := j) (by omega) (by assumption) | exact rck4 (by assumption) (by assumption) (i := i) (by omega) (by unfold rfarS; simp_all))), hS.fin [] (by decide) rfl⟩
    ·have _hC3 := trivial
     have hC3p : ¬ (((((a0.Cells.getD i (default : TCell)).Row < 0 ∨ (a0.Cells.getD i (default : TCell)).Col < 0) ∨ (a0.Cells.getD i (default : TCell)).Row ≥ (a0.Heights.length : Int)) ∨ (a0.Cells.getD i (default : TCell)).Col ≥ (a0.Widths.length : Int))) := by simpa using hC3
     refine C_skip ?_
     refine E_block_normal ?_
     refine E_then ?_
     refine C_region ?_
     refine wv rfl rfl rfl (R_move rfl rfl) <| wv rfl rfl rfl (R_add64 rfl rfl rfl (by omega) (by omega)) <| wv rfl rfl rfl (R_assign rfl rfl) ?_
     refine W_nil ?_
     refine E_round [1, 3] ?_ ⟨(i + 1 : Nat), rfl, (by omega), (by exact any_step (p := rfarS a0) default (by omega) hI0_1 (by unfold rfarS; simp_all)), rfl, hS.fin [1] (by decide) rfl⟩
     omega
   ·have _hC2 := trivial
    have hC2p : ¬ ((i : Int) < (a0.Cells.length : Int)) := by simpa using hC2
    refine C_exit ?_
    refine E_then_exit ?_
    refine E_then_exit ?_
    refine E_block_hit ?_
    refine E_then (C_fr [(1, .pointer (some ⟨b2, 0, none⟩))] rfl ?_)
    refine C_seq ?_
    refine C_seq ?_
    refine C_region ?_
    refine wv rfl rfl rfl (R_assign rfl rfl) ?_
    refine W_nil ?_
    refine E_then ?_
    refine C_block ?_
    refine C_fr [(1, .pointer (some ⟨b2, 0, none⟩)), (5, .int .i64 0)] rfl ?_
    refine C_loop (fun m_ f_ w_ => ∃ (j : Nat), f_ = [(1, .pointer (some ⟨b2, 0, none⟩)), (5, .int .i64 (j : Int))] ∧ j ≤ a0.Merges.length ∧ (a0.Merges.take j).any (fun r => !thereS a0 r) = false ∧ m_ = a0.Merges.length - j ∧ Sp (FF []) w z w_ [bR b2 26 [.int .i64 a0.Right, .slice Aa0_Widths a0.Widths.length ca0_Widths, .slice Aa0_Heights a0.Heights.length ca0_Heights, .slice Aa0_Cells a0.Cells.length ca0_Cells, .slice Aa0_Merges a0.Merges.length ca0_Merges]]) (a0.Merges.length - (0 : Nat)) ⟨(0 : Nat), rfl, (by omega), (by rfl), rfl, hS.fin [0] (by decide) rfl⟩ ?_
    rintro m_ f_ w12 ⟨j, rfl, hI1_0, hI1_1, rfl, hS⟩
    refine C_seq ?_
    refine C_seq ?_
    refine C_region ?_
    refine wv rfl rfl rfl (R_move rfl rfl) <| wv rfl rfl rfl (R_fld rfl rfl fld26_4) <| wv rfl rfl rfl (R_load1 rfl rfl agg24 ((hS.bx 0 rfl).cell rfl)) <| wv rfl rfl rfl (R_len rfl rfl Try.underlying24) <| wv rfl rfl rfl (R_bin rfl rfl rfl rfl rfl) ?_
    refine W_nil ?_
    refine E_then ?_
    refine C_ite rfl (fun hC4 => ?_) (fun hC4 => ?_)
    ·have _hC4 := trivial
     have hC4p : (j : Int) < (a0.Merges.length : Int) := by simpa using hC4
     refine C_skip ?_
     refine E_then (C_fr [(1, .pointer (some ⟨b2, 0, none⟩)), (5, .int .i64 (j : Int))] rfl ?_)
     refine C_seq ?_
     refine C_block ?_
     refine C_seq ?_
     refine C_fr [(1, .pointer (some ⟨b2, 0, none⟩)), (5, .int .i64 (j : Int))] rfl ?_
     obtain ⟨q13, csq13, hAq13, rfl, hkq13⟩ := hra0_Merges.at_ (default : TRect) (i := (j : Int)) (by omega) (by omega)
     have hkq13 : ∀ (j_ : Nat) (u_ : Value), ([.int .i64 (a0.Merges.getD j (default : TRect)).Row, .int .i64 (a0.Merges.getD j (default : TRect)).Col, .int .i64 (a0.Merges.getD j (default : TRect)).Rows, .int .i64 (a0.Merges.getD j (default : TRect)).Cols] : List Value)[j_]? = some u_ → cz z (q13.add (j * 4 + j_)) = some u_ := hkq13
     refine C_drawn2 8 [[], [], [1], [], [2, 3], [4], [0, 5], [6]] [some 59, some 60, some 61, some 62, some 63, some 64, some 65, some 66] [1, 5] (List.replicate 8 8) (List.replicate 8 []) (List.replicate 8 []) [fun γ_ => .agg #[.int .i64 a0.Right, .slice Aa0_Widths a0.Widths.length ca0_Widths, .slice Aa0_Heights a0.Heights.length ca0_Heights, .slice Aa0_Cells a0.Cells.length ca0_Cells, .slice Aa0_Merges a0.Merges.length ca0_Merges], fun γ_ => .pointer (some ⟨b2, 4, none⟩), fun γ_ => .slice Aa0_Merges a0.Merges.length ca0_Merges, fun γ_ => .int .i64 (j : Int), fun γ_ => .pointer (some (q13.add (j * 4))), fun γ_ => .agg #[.int .i64 (a0.Merges.getD j (default : TRect)).Row, .int .i64 (a0.Merges.getD j (default : TRect)).Col, .int .i64 (a0.Merges.getD j (default : TRect)).Rows, .int .i64 (a0.Merges.getD j (default : TRect)).Cols], fun γ_ => .bool (thereS a0 (a0.Merges.getD j (default : TRect))), fun γ_ => .bool (!(thereS a0 (a0.Merges.getD j (default : TRect))))] (List.replicate 8 (fun _ => [])) rfl (by kernel_rfl) (by decide +kernel) hS ?_ ?_
     ·refine ⟨fun _ _ _ hS => Sv_val rfl (R_loadN (cs := [.int .i64 a0.Right, .slice Aa0_Widths a0.Widths.length ca0_Widths, .slice Aa0_Heights a0.Heights.length ca0_Heights, .slice Aa0_Cells a0.Cells.length ca0_Cells, .slice Aa0_Merges a0.Merges.length ca0_Merges]) rfl rfl agg26 size26 rfl (boxcells (hS.bx 0 rfl) 0 rfl)) ⟨gh0, rfl, hS⟩, fun _ _ _ hS => Sv_val rfl (R_fld rfl rfl fld26_4) ⟨gh0, rfl, hS⟩, fun _ _ _ hS => Sv_val rfl (R_load1 rfl rfl agg24 ((hS.bx 0 rfl).cell rfl)) ⟨gh0, rfl, hS⟩, fun _ _ _ hS => Sv_val rfl (R_move rfl rfl) ⟨gh0, rfl, hS⟩, fun _ _ _ hS => Sv_val rfl (R_idx rfl rfl hAq13 rfl Try.underlying24 size39 (by omega) (by omega)) ⟨gh0, rfl, hS⟩, fun _ _ _ hS => Sv_val rfl (R_loadN (cs := [.int .i64 (a0.Merges.getD j (default : TRect)).Row, .int .i64 (a0.Merges.getD j (default : TRect)).Col, .int .i64 (a0.Merges.getD j (default : TRect)).Rows, .int .i64 (a0.Merges.getD j (default : TRect)).Cols]) rfl rfl agg39 size39 rfl (fun j u h => cell_add (hS.sub.cell (hkq13 j u h)))) ⟨gh0, rfl, hS⟩, fun g_ w28 fr29 hS => ?_, ?_⟩
      ·have _w28 := trivial
       have hS : Sp (FF []) w z w28 [bR b2 26 [.int .i64 a0.Right, .slice Aa0_Widths a0.Widths.length ca0_Widths, .slice Aa0_Heights a0.Heights.length ca0_Heights, .slice Aa0_Cells a0.Cells.length ca0_Cells, .slice Aa0_Merges a0.Merges.length ca0_Merges], allR fr29] := hS
       refine Sv_call rfl rfl rfl ent58 ?_
       refine (there_calls a0 Aa0_Widths ca0_Widths Aa0_Heights ca0_Heights Aa0_Cells ca0_Cells Aa0_Merges ca0_Merges (a0.Merges.getD j (default : TRect)) _ _ hS.out0 (hra0_Widths.mono (hS.zl [])) hca0_Widths (hra0_Heights.mono (hS.zl [])) hca0_Heights (hra0_Cells.mono (hS.zl [])) hca0_Cells (hra0_Merges.mono (hS.zl [])) hca0_Merges ).mono ?_
       rintro e_ w30 ⟨rfl, hS_⟩
       refine ⟨_, rfl, ?_⟩
       have hS := hS.call0 hS_
       exact ⟨⟨fun _ => none, fun _ => 0, fun _ => zE, fun _ => 0⟩, rfl, hS.fin [0, 1] (by decide) rfl⟩
      refine ⟨fun _ _ _ hS => Sv_val rfl (R_un rfl rfl rfl) ⟨gh0, rfl, hS⟩, ?_⟩
      exact trivial
     ·intro g_ w34 hS
      have hS : Sp (FF []) w z w34 [bR b2 26 [.int .i64 a0.Right, .slice Aa0_Widths a0.Widths.length ca0_Widths, .slice Aa0_Heights a0.Heights.length ca0_Heights, .slice Aa0_Cells a0.Cells.length ca0_Cells, .slice Aa0_Merges a0.Merges.length ca0_Merges]] := hS
      refine An_fr [(1, .pointer (some ⟨b2, 0, none⟩)), (5, .int .i64 (j : Int)), (66, .bool (!(thereS a0 (a0.Merges.getD j (default : TRect)))))] rfl ?_
      refine An_done (by decide +kernel) ?_
      refine E_then ?_
      refine C_ite rfl (fun hC5 => ?_) (fun hC5 => ?_)
      ·have _hC5 := trivial
       have hC5p : ¬ (thereS a0 (a0.Merges.getD j (default : TRect)) = true) := by simpa using hC5
       refine C_seq ?_
       refine C_region ?_
       refine wv rfl rfl rfl (R_assign rfl rfl) ?_
       refine W_nil ?_
       refine E_then ?_
       refine C_ret ?_
       refine E_block_ret ?_
       refine E_then_ret ?_
       refine E_then_ret ?_
       refine E_block_ret ?_
       refine E_then_ret ?_
       refine E_ret1 rfl rfl ?_
       exact ⟨Lret1 (Lint (show 4 = rcheckSh a0 by first | exact rck3 (by assumption) | exact rck1 (by assumption) (by assumption) | exact rck0 (by assumption) (by assumption) (i := i) (by omega) hI0_1 (j := j) (by omega) hI1_1 (k := k) (by omega) (by omega) hI2_1 (l := l) (by omega) hI4_1 | exact rck6 (by assumption) (by assumption) (i := i) (by omega) hI0_1 (j := j) (by omega) hI1_1 (k := k) (by omega) (by omega) hI2_1 (l := l) (by omega) (by unfold runderS; simp_all) | exact rck5 (by assumption) (by assumption) (i := i) (by omega) hI0_1 (j := j) (by omega) hI1_1 (k := k) (l := m) (by omega) (by omega) (by assumption) | exact rck4m (by assumption) (by assumption) (i := i) (by omega) hI0_1 (j := j) (by omega) (by assumption) | exact rck4 (by assumption) (by assumption) (i := i) (by omega) (by unfold rfarS; simp_all))), hS.fin [] (by decide) rfl⟩
      ·have _hC5 := trivial
       have hC5p : (thereS a0 (a0.Merges.getD j (default : TRect)) = true) := by simpa using hC5
       refine C_skip ?_
       refine E_block_normal ?_
       refine E_then ?_
       refine C_region ?_
       refine wv rfl rfl rfl (R_move rfl rfl) <| wv rfl rfl rfl (R_add64 rfl rfl rfl (by omega) (by omega)) <| wv rfl rfl rfl (R_assign rfl rfl) ?_
       refine W_nil ?_
       refine E_round [1, 5] ?_ ⟨(j + 1 : Nat), rfl, (by omega), (by exact any_step (p := (fun r => !thereS a0 r)) default (by omega) hI1_1 (by simp_all)), rfl, hS.fin [0] (by decide) rfl⟩
       omega
    ·have _hC4 := trivial
     have hC4p : ¬ ((j : Int) < (a0.Merges.length : Int)) := by simpa using hC4
     refine C_exit ?_
     refine E_then_exit ?_
     refine E_then_exit ?_
     refine E_block_hit ?_
     refine E_then (C_fr [(1, .pointer (some ⟨b2, 0, none⟩))] rfl ?_)
     refine C_seq ?_
     refine C_seq ?_
     refine C_region ?_
     refine wv rfl rfl rfl (R_assign rfl rfl) ?_
     refine W_nil ?_
     refine E_then ?_
     refine C_block ?_
     refine C_fr [(1, .pointer (some ⟨b2, 0, none⟩)), (6, .int .i64 0)] rfl ?_
     refine C_loop (fun m_ f_ w_ => ∃ (k : Nat), f_ = [(1, .pointer (some ⟨b2, 0, none⟩)), (6, .int .i64 (k : Int))] ∧ k ≤ a0.Merges.length ∧ (List.range k).any (rmeetsS a0) = false ∧ m_ = a0.Merges.length - k ∧ Sp (FF []) w z w_ [bR b2 26 [.int .i64 a0.Right, .slice Aa0_Widths a0.Widths.length ca0_Widths, .slice Aa0_Heights a0.Heights.length ca0_Heights, .slice Aa0_Cells a0.Cells.length ca0_Cells, .slice Aa0_Merges a0.Merges.length ca0_Merges]]) (a0.Merges.length - (0 : Nat)) ⟨(0 : Nat), rfl, (by omega), (by rfl), rfl, hS.fin [0] (by decide) rfl⟩ ?_
     rintro m_ f_ w36 ⟨k, rfl, hI2_0, hI2_1, rfl, hS⟩
     refine C_seq ?_
     refine C_seq ?_
     refine C_region ?_
     refine wv rfl rfl rfl (R_move rfl rfl) <| wv rfl rfl rfl (R_fld rfl rfl fld26_4) <| wv rfl rfl rfl (R_load1 rfl rfl agg24 ((hS.bx 0 rfl).cell rfl)) <| wv rfl rfl rfl (R_len rfl rfl Try.underlying24) <| wv rfl rfl rfl (R_bin rfl rfl rfl rfl rfl) ?_
     refine W_nil ?_
     refine E_then ?_
     refine C_ite rfl (fun hC6 => ?_) (fun hC6 => ?_)
     ·have _hC6 := trivial
      have hC6p : (k : Int) < (a0.Merges.length : Int) := by simpa using hC6
      refine C_skip ?_
      refine E_then (C_fr [(1, .pointer (some ⟨b2, 0, none⟩)), (6, .int .i64 (k : Int))] rfl ?_)
      refine C_seq ?_
      refine C_block ?_
      refine C_seq ?_
      refine C_region ?_
      refine wv rfl rfl rfl (R_assign rfl rfl) ?_
      refine W_nil ?_
      refine E_then ?_
      refine C_block ?_
      refine C_fr [(1, .pointer (some ⟨b2, 0, none⟩)), (6, .int .i64 (k : Int)), (7, .int .i64 0)] rfl ?_
      refine C_loop (fun m_ f_ w_ => ∃ (m : Nat), f_ = [(1, .pointer (some ⟨b2, 0, none⟩)), (6, .int .i64 (k : Int)), (7, .int .i64 (m : Int))] ∧ m ≤ k ∧ (List.range m).any (fun q => rmeetS (a0.Merges.getD k default) (a0.Merges.getD q default)) = false ∧ m_ = k - m ∧ Sp (FF []) w z w_ [bR b2 26 [.int .i64 a0.Right, .slice Aa0_Widths a0.Widths.length ca0_Widths, .slice Aa0_Heights a0.Heights.length ca0_Heights, .slice Aa0_Cells a0.Cells.length ca0_Cells, .slice Aa0_Merges a0.Merges.length ca0_Merges]]) (k - (0 : Nat)) ⟨(0 : Nat), rfl, (by omega), (by rfl), rfl, hS.fin [0] (by decide) rfl⟩ ?_
      rintro m_ f_ w37 ⟨m, rfl, hI3_0, hI3_1, rfl, hS⟩
      refine C_seq ?_
      refine C_seq ?_
      refine C_region ?_
      refine wv rfl rfl rfl (R_move rfl rfl) <| wv rfl rfl rfl (R_move rfl rfl) <| wv rfl rfl rfl (R_bin rfl rfl rfl rfl rfl) ?_
      refine W_nil ?_
      refine E_then ?_
      refine C_ite rfl (fun hC7 => ?_) (fun hC7 => ?_)
      ·have _hC7 := trivial
       have hC7p : (m : Int) < (k : Int) := by simpa using hC7
       refine C_skip ?_
       refine E_then ?_
       refine C_seq ?_
       refine C_block ?_
       refine C_seq ?_
       refine C_fr [(1, .pointer (some ⟨b2, 0, none⟩)), (6, .int .i64 (k : Int)), (7, .int .i64 (m : Int))] rfl ?_
       obtain ⟨q38, csq38, hAq38, rfl, hkq38⟩ := hra0_Merges.at_ (default : TRect) (i := (k : Int)) (by omega) (by omega)
       have hkq38 : ∀ (j_ : Nat) (u_ : Value), ([.int .i64 (a0.Merges.getD k (default : TRect)).Row, .int .i64 (a0.Merges.getD k (default : TRect)).Col, .int .i64 (a0.Merges.getD k (default : TRect)).Rows, .int .i64 (a0.Merges.getD k (default : TRect)).Cols] : List Value)[j_]? = some u_ → cz z (q38.add (k * 4 + j_)) = some u_ := hkq38
       obtain ⟨q39, csq39, hAq39, rfl, hkq39⟩ := hra0_Merges.at_ (default : TRect) (i := (m : Int)) (by omega) (by omega)
       have hkq39 : ∀ (j_ : Nat) (u_ : Value), ([.int .i64 (a0.Merges.getD m (default : TRect)).Row, .int .i64 (a0.Merges.getD m (default : TRect)).Col, .int .i64 (a0.Merges.getD m (default : TRect)).Rows, .int .i64 (a0.Merges.getD m (default : TRect)).Cols] : List Value)[j_]? = some u_ → cz z (q39.add (m * 4 + j_)) = some u_ := hkq39
       refine C_drawn2 11 [[], [0], [], [1, 2], [3], [], [5], [], [6, 7], [8], [4, 9]] [some 79, some 80, some 81, some 82, some 83, some 84, some 85, some 86, some 87, some 88, some 89] [1, 6, 7] (List.replicate 11 11) (List.replicate 11 []) (List.replicate 11 []) [fun γ_ => .pointer (some ⟨b2, 4, none⟩), fun γ_ => .slice Aa0_Merges a0.Merges.length ca0_Merges, fun γ_ => .int .i64 (k : Int), fun γ_ => .pointer (some (q38.add (k * 4))), fun γ_ => .agg #[.int .i64 (a0.Merges.getD k (default : TRect)).Row, .int .i64 (a0.Merges.getD k (default : TRect)).Col, .int .i64 (a0.Merges.getD k (default : TRect)).Rows, .int .i64 (a0.Merges.getD k (default : TRect)).Cols], fun γ_ => .pointer (some ⟨b2, 4, none⟩), fun γ_ => .slice Aa0_Merges a0.Merges.length ca0_Merges, fun γ_ => .int .i64 (m : Int), fun γ_ => .pointer (some (q39.add (m * 4))), fun γ_ => .agg #[.int .i64 (a0.Merges.getD m (default : TRect)).Row, .int .i64 (a0.Merges.getD m (default : TRect)).Col, .int .i64 (a0.Merges.getD m (default : TRect)).Rows, .int .i64 (a0.Merges.getD m (default : TRect)).Cols], fun γ_ => .bool (rmeetS (a0.Merges.getD k (default : TRect)) (a0.Merges.getD m (default : TRect)))] (List.replicate 11 (fun _ => [])) rfl (by kernel_rfl) (by decide +kernel) hS ?_ ?_
       ·refine ⟨fun _ _ _ hS => Sv_val rfl (R_fld rfl rfl fld26_4) ⟨gh0, rfl, hS⟩, fun _ _ _ hS => Sv_val rfl (R_load1 rfl rfl agg24 ((hS.bx 0 rfl).cell rfl)) ⟨gh0, rfl, hS⟩, fun _ _ _ hS => Sv_val rfl (R_move rfl rfl) ⟨gh0, rfl, hS⟩, fun _ _ _ hS => Sv_val rfl (R_idx rfl rfl hAq38 rfl Try.underlying24 size39 (by omega) (by omega)) ⟨gh0, rfl, hS⟩, fun _ _ _ hS => Sv_val rfl (R_loadN (cs := [.int .i64 (a0.Merges.getD k (default : TRect)).Row, .int .i64 (a0.Merges.getD k (default : TRect)).Col, .int .i64 (a0.Merges.getD k (default : TRect)).Rows, .int .i64 (a0.Merges.getD k (default : TRect)).Cols]) rfl rfl agg39 size39 rfl (fun j u h => cell_add (hS.sub.cell (hkq38 j u h)))) ⟨gh0, rfl, hS⟩, fun _ _ _ hS => Sv_val rfl (R_fld rfl rfl fld26_4) ⟨gh0, rfl, hS⟩, fun _ _ _ hS => Sv_val rfl (R_load1 rfl rfl agg24 ((hS.bx 0 rfl).cell rfl)) ⟨gh0, rfl, hS⟩, fun _ _ _ hS => Sv_val rfl (R_move rfl rfl) ⟨gh0, rfl, hS⟩, fun _ _ _ hS => Sv_val rfl (R_idx rfl rfl hAq39 rfl Try.underlying24 size39 (by omega) (by omega)) ⟨gh0, rfl, hS⟩, fun _ _ _ hS => Sv_val rfl (R_loadN (cs := [.int .i64 (a0.Merges.getD m (default : TRect)).Row, .int .i64 (a0.Merges.getD m (default : TRect)).Col, .int .i64 (a0.Merges.getD m (default : TRect)).Rows, .int .i64 (a0.Merges.getD m (default : TRect)).Cols]) rfl rfl agg39 size39 rfl (fun j u h => cell_add (hS.sub.cell (hkq39 j u h)))) ⟨gh0, rfl, hS⟩, fun g_ w62 fr63 hS => ?_, ?_⟩
        ·have _w62 := trivial
         have hS : Sp (FF []) w z w62 [bR b2 26 [.int .i64 a0.Right, .slice Aa0_Widths a0.Widths.length ca0_Widths, .slice Aa0_Heights a0.Heights.length ca0_Heights, .slice Aa0_Cells a0.Cells.length ca0_Cells, .slice Aa0_Merges a0.Merges.length ca0_Merges], allR fr63] := hS
         refine Sv_call rfl rfl rfl ent59 ?_
         refine (rmeet_calls (a0.Merges.getD k (default : TRect)) (a0.Merges.getD m (default : TRect)) _ _ hS.out0  ).mono ?_
         rintro e_ w64 ⟨rfl, hS_⟩
         refine ⟨_, rfl, ?_⟩
         have hS := hS.call0 hS_
         exact ⟨⟨fun _ => none, fun _ => 0, fun _ => zE, fun _ => 0⟩, rfl, hS.fin [0, 1] (by decide) rfl⟩
        exact trivial
       ·intro g_ w66 hS
        have hS : Sp (FF []) w z w66 [bR b2 26 [.int .i64 a0.Right, .slice Aa0_Widths a0.Widths.length ca0_Widths, .slice Aa0_Heights a0.Heights.length ca0_Heights, .slice Aa0_Cells a0.Cells.length ca0_Cells, .slice Aa0_Merges a0.Merges.length ca0_Merges]] := hS
        refine An_fr [(1, .pointer (some ⟨b2, 0, none⟩)), (6, .int .i64 (k : Int)), (7, .int .i64 (m : Int)), (89, .bool (rmeetS (a0.Merges.getD k (default : TRect)) (a0.Merges.getD m (default : TRect))))] rfl ?_
        refine An_done (by decide +kernel) ?_
        refine E_then ?_
        refine C_ite rfl (fun hC8 => ?_) (fun hC8 => ?_)
        ·have _hC8 := trivial
         refine C_seq ?_
         refine C_region ?_
         refine wv rfl rfl rfl (R_assign rfl rfl) ?_
         refine W_nil ?_
         refine E_then ?_
         refine C_ret ?_
         refine E_block_ret ?_
         refine E_then_ret ?_
         refine E_then_ret ?_
         refine E_block_ret ?_
         refine E_block_ret ?_
         refine E_then_ret ?_
         refine E_then_ret ?_
         refine E_block_ret ?_
         refine E_then_ret ?_
         refine E_ret1 rfl rfl ?_
         exact ⟨Lret1 (Lint (show 5 = rcheckSh a0 by first | exact rck3 (by assumption) | exact rck1 (by assumption) (by assumption) | exact rck0 (by assumption) (by assumption) (i := i) (by omega) hI0_1 (j := j) (by omega) hI1_1 (k := k) (by omega) (by omega) hI2_1 (l := l) (by omega) hI4_1 | exact rck6 (by assumption) (by assumption) (i := i) (by omega) hI0_1 (j := j) (by omega) hI1_1 (k := k) (by omega) (by omega) hI2_1 (l := l) (by omega) (by unfold runderS; simp_all) | exact rck5 (by assumption) (by assumption) (i := i) (by omega) hI0_1 (j := j) (by omega) hI1_1 (k := k) (l := m) (by omega) (by omega) (by assumption) | exact rck4m (by assumption) (by assumption) (i := i) (by omega) hI0_1 (j := j) (by omega) (by assumption) | exact rck4 (by assumption) (by assumption) (i := i) (by omega) (by unfold rfarS; simp_all))), hS.fin [] (by decide) rfl⟩
        ·have _hC8 := trivial
         refine C_skip ?_
         refine E_block_normal ?_
         refine E_then ?_
         refine C_region ?_
         refine wv rfl rfl rfl (R_move rfl rfl) <| wv rfl rfl rfl (R_add64 rfl rfl rfl (by omega) (by omega)) <| wv rfl rfl rfl (R_assign rfl rfl) ?_
         refine W_nil ?_
         refine E_round [1, 6, 7] ?_ ⟨(m + 1 : Nat), rfl, (by omega), (by exact range_any_next hI3_1 (by simp_all)), rfl, hS.fin [0] (by decide) rfl⟩
         omega
      ·have _hC7 := trivial
       have hC7p : ¬ ((m : Int) < (k : Int)) := by simpa using hC7
       refine C_exit ?_
       refine E_then_exit ?_
       refine E_then_exit ?_
       refine E_block_hit ?_
       refine E_block_normal ?_
       refine E_then ?_
       refine C_region ?_
       refine wv rfl rfl rfl (R_move rfl rfl) <| wv rfl rfl rfl (R_add64 rfl rfl rfl (by omega) (by omega)) <| wv rfl rfl rfl (R_assign rfl rfl) ?_
       refine W_nil ?_
       refine E_round [1, 6] ?_ ⟨(k + 1 : Nat), rfl, (by omega), (by exact range_any_next hI2_1 (by unfold rmeetsS; rw [show k = m from by omega]; rw [show m = k from by omega] at hI3_1 ⊢; exact hI3_1)), rfl, hS.fin [0] (by decide) rfl⟩
       omega
     ·have _hC6 := trivial
      have hC6p : ¬ ((k : Int) < (a0.Merges.length : Int)) := by simpa using hC6
      refine C_exit ?_
      refine E_then_exit ?_
      refine E_then_exit ?_
      refine E_block_hit ?_
      refine E_then (C_fr [(1, .pointer (some ⟨b2, 0, none⟩))] rfl ?_)
      refine C_seq ?_
      refine C_seq ?_
      refine C_region ?_
      refine wv rfl rfl rfl (R_assign rfl rfl) ?_
      refine W_nil ?_
      refine E_then ?_
      refine C_block ?_
      refine C_fr [(1, .pointer (some ⟨b2, 0, none⟩)), (8, .int .i64 0)] rfl ?_
      refine C_loop (fun m_ f_ w_ => ∃ (l : Nat), f_ = [(1, .pointer (some ⟨b2, 0, none⟩)), (8, .int .i64 (l : Int))] ∧ l ≤ a0.Cells.length ∧ (a0.Cells.take l).any (runderS a0) = false ∧ m_ = a0.Cells.length - l ∧ Sp (FF []) w z w_ [bR b2 26 [.int .i64 a0.Right, .slice Aa0_Widths a0.Widths.length ca0_Widths, .slice Aa0_Heights a0.Heights.length ca0_Heights, .slice Aa0_Cells a0.Cells.length ca0_Cells, .slice Aa0_Merges a0.Merges.length ca0_Merges]]) (a0.Cells.length - (0 : Nat)) ⟨(0 : Nat), rfl, (by omega), (by rfl), rfl, hS.fin [0] (by decide) rfl⟩ ?_
      rintro m_ f_ w68 ⟨l, rfl, hI4_0, hI4_1, rfl, hS⟩
      refine C_seq ?_
      refine C_seq ?_
      refine C_region ?_
      refine wv rfl rfl rfl (R_move rfl rfl) <| wv rfl rfl rfl (R_fld rfl rfl fld26_3) <| wv rfl rfl rfl (R_load1 rfl rfl agg23 ((hS.bx 0 rfl).cell rfl)) <| wv rfl rfl rfl (R_len rfl rfl Try.underlying23) <| wv rfl rfl rfl (R_bin rfl rfl rfl rfl rfl) ?_
      refine W_nil ?_
      refine E_then ?_
      refine C_ite rfl (fun hC9 => ?_) (fun hC9 => ?_)
      ·have _hC9 := trivial
       have hC9p : (l : Int) < (a0.Cells.length : Int) := by simpa using hC9
       refine C_skip ?_
       refine E_then (C_fr [(1, .pointer (some ⟨b2, 0, none⟩)), (8, .int .i64 (l : Int))] rfl ?_)
       refine C_seq ?_
       refine C_block ?_
       refine C_seq ?_
       refine C_fr [(1, .pointer (some ⟨b2, 0, none⟩)), (8, .int .i64 (l : Int))] rfl ?_
       obtain ⟨q69, csq69, hAq69, rfl, hkq69⟩ := hra0_Cells.at_ (default : TCell) (i := (l : Int)) (by omega) (by omega)
       have hkq69 : ∀ (j_ : Nat) (u_ : Value), ([.int .i64 (a0.Cells.getD l (default : TCell)).Row, .int .i64 (a0.Cells.getD l (default : TCell)).Col, vstr (a0.Cells.getD l (default : TCell)).Text, .int .i64 (a0.Cells.getD l (default : TCell)).Style.Align, .int .i64 (a0.Cells.getD l (default : TCell)).Style.Wrap, .int .i64 (a0.Cells.getD l (default : TCell)).Style.Dir] : List Value)[j_]? = some u_ → cz z (q69.add (l * 6 + j_)) = some u_ := hkq69
       obtain ⟨q70, csq70, hAq70, rfl, hkq70⟩ := hra0_Cells.at_ (default : TCell) (i := (l : Int)) (by omega) (by omega)
       have hkq70 : ∀ (j_ : Nat) (u_ : Value), ([.int .i64 (a0.Cells.getD l (default : TCell)).Row, .int .i64 (a0.Cells.getD l (default : TCell)).Col, vstr (a0.Cells.getD l (default : TCell)).Text, .int .i64 (a0.Cells.getD l (default : TCell)).Style.Align, .int .i64 (a0.Cells.getD l (default : TCell)).Style.Wrap, .int .i64 (a0.Cells.getD l (default : TCell)).Style.Dir] : List Value)[j_]? = some u_ → cz z (q70.add (l * 6 + j_)) = some u_ := hkq70
       refine C_drawn2 16 [[], [], [1], [], [2, 3], [4], [5], [], [7], [], [8, 9], [10], [11], [0, 6, 12], []] [some 97, some 98, some 99, some 100, some 101, some 102, some 103, some 104, some 105, some 106, some 107, some 108, some 109, some 110, some 9] [1, 8] (List.replicate 15 15) (List.replicate 15 []) (List.replicate 15 []) [fun γ_ => .agg #[.int .i64 a0.Right, .slice Aa0_Widths a0.Widths.length ca0_Widths, .slice Aa0_Heights a0.Heights.length ca0_Heights, .slice Aa0_Cells a0.Cells.length ca0_Cells, .slice Aa0_Merges a0.Merges.length ca0_Merges], fun γ_ => .pointer (some ⟨b2, 3, none⟩), fun γ_ => .slice Aa0_Cells a0.Cells.length ca0_Cells, fun γ_ => .int .i64 (l : Int), fun γ_ => .pointer (some (q69.add (l * 6))), fun γ_ => .pointer (some ((q69.add (l * 6)).add 0)), fun γ_ => .int .i64 (a0.Cells.getD l (default : TCell)).Row, fun γ_ => .pointer (some ⟨b2, 3, none⟩), fun γ_ => .slice Aa0_Cells a0.Cells.length ca0_Cells, fun γ_ => .int .i64 (l : Int), fun γ_ => .pointer (some (q70.add (l * 6))), fun γ_ => .pointer (some ((q70.add (l * 6)).add 1)), fun γ_ => .int .i64 (a0.Cells.getD l (default : TCell)).Col, fun γ_ => .agg #[.int .i64 (raroundS a0 (a0.Cells.getD l (default : TCell)).Row (a0.Cells.getD l (default : TCell)).Col).Row, .int .i64 (raroundS a0 (a0.Cells.getD l (default : TCell)).Row (a0.Cells.getD l (default : TCell)).Col).Col, .int .i64 (raroundS a0 (a0.Cells.getD l (default : TCell)).Row (a0.Cells.getD l (default : TCell)).Col).Rows, .int .i64 (raroundS a0 (a0.Cells.getD l (default : TCell)).Row (a0.Cells.getD l (default : TCell)).Col).Cols], fun γ_ => .pointer (some ⟨(γ_.b 0), 0, none⟩)] [fun γ_ => [], fun γ_ => [], fun γ_ => [], fun γ_ => [], fun γ_ => [], fun γ_ => [], fun γ_ => [], fun γ_ => [], fun γ_ => [], fun γ_ => [], fun γ_ => [], fun γ_ => [], fun γ_ => [], fun γ_ => [], fun γ_ => [bR (γ_.b 0) 39 [.int .i64 0, .int .i64 0, .int .i64 0, .int .i64 0]]] rfl (by kernel_rfl) (by decide +kernel) hS ?_ ?_
       ·refine ⟨fun _ _ _ hS => Sv_val rfl (R_loadN (cs := [.int .i64 a0.Right, .slice Aa0_Widths a0.Widths.length ca0_Widths, .slice Aa0_Heights a0.Heights.length ca0_Heights, .slice Aa0_Cells a0.Cells.length ca0_Cells, .slice Aa0_Merges a0.Merges.length ca0_Merges]) rfl rfl agg26 size26 rfl (boxcells (hS.bx 0 rfl) 0 rfl)) ⟨gh0, rfl, hS⟩, fun _ _ _ hS => Sv_val rfl (R_fld rfl rfl fld26_3) ⟨gh0, rfl, hS⟩, fun _ _ _ hS => Sv_val rfl (R_load1 rfl rfl agg23 ((hS.bx 0 rfl).cell rfl)) ⟨gh0, rfl, hS⟩, fun _ _ _ hS => Sv_val rfl (R_move rfl rfl) ⟨gh0, rfl, hS⟩, fun _ _ _ hS => Sv_val rfl (R_idx rfl rfl hAq69 rfl Try.underlying23 size60 (by omega) (by omega)) ⟨gh0, rfl, hS⟩, fun _ _ _ hS => Sv_val rfl (R_fld rfl rfl fld60_0) ⟨gh0, rfl, hS⟩, fun _ _ _ hS => Sv_val rfl (R_load1 rfl rfl agg3 (cell_add (hS.sub.cell (hkq69 0 _ rfl)))) ⟨gh0, rfl, hS⟩, fun _ _ _ hS => Sv_val rfl (R_fld rfl rfl fld26_3) ⟨gh0, rfl, hS⟩, fun _ _ _ hS => Sv_val rfl (R_load1 rfl rfl agg23 ((hS.bx 0 rfl).cell rfl)) ⟨gh0, rfl, hS⟩, fun _ _ _ hS => Sv_val rfl (R_move rfl rfl) ⟨gh0, rfl, hS⟩, fun _ _ _ hS => Sv_val rfl (R_idx rfl rfl hAq70 rfl Try.underlying23 size60 (by omega) (by omega)) ⟨gh0, rfl, hS⟩, fun _ _ _ hS => Sv_val rfl (R_fld rfl rfl fld60_1) ⟨gh0, rfl, hS⟩, fun _ _ _ hS => Sv_val rfl (R_load1 rfl rfl agg3 (cell_add (hS.sub.cell (hkq70 1 _ rfl)))) ⟨gh0, rfl, hS⟩, fun g_ w101 fr102 hS => ?_, ?_⟩
        ·have _w101 := trivial
         have hS : Sp (FF []) w z w101 [bR b2 26 [.int .i64 a0.Right, .slice Aa0_Widths a0.Widths.length ca0_Widths, .slice Aa0_Heights a0.Heights.length ca0_Heights, .slice Aa0_Cells a0.Cells.length ca0_Cells, .slice Aa0_Merges a0.Merges.length ca0_Merges], allR fr102] := hS
         refine Sv_call rfl rfl rfl ent60 ?_
         refine (raround_calls a0 Aa0_Widths ca0_Widths Aa0_Heights ca0_Heights Aa0_Cells ca0_Cells Aa0_Merges ca0_Merges (a0.Cells.getD l (default : TCell)).Row (a0.Cells.getD l (default : TCell)).Col _ _ hS.out0 (hra0_Widths.mono (hS.zl [])) hca0_Widths (hra0_Heights.mono (hS.zl [])) hca0_Heights (hra0_Cells.mono (hS.zl [])) hca0_Cells (hra0_Merges.mono (hS.zl [])) hca0_Merges ).mono ?_
         rintro e_ w103 ⟨rfl, hS_⟩
         refine ⟨_, rfl, ?_⟩
         have hS := hS.call0 hS_
         exact ⟨⟨fun _ => none, fun _ => 0, fun _ => zE, fun _ => 0⟩, rfl, hS.fin [0, 1] (by decide) rfl⟩
        refine ⟨fun g_ w105 fr106 hS => ?_, ?_⟩
        ·have _w105 := trivial
         have hS : Sp (FF []) w z w105 [bR b2 26 [.int .i64 a0.Right, .slice Aa0_Widths a0.Widths.length ca0_Widths, .slice Aa0_Heights a0.Heights.length ca0_Heights, .slice Aa0_Cells a0.Cells.length ca0_Cells, .slice Aa0_Merges a0.Merges.length ca0_Merges], allR fr106] := hS
         refine S_box hS rfl (R_alloc rfl alloc39) (fun b108 w107 hS => ?_)
         exact ⟨⟨fun _ => none, fun _ => 0, fun _ => zE, fun _ => b108⟩, rfl, hS.fin [0, 1, 2] (by decide) rfl⟩
        exact trivial
       ·intro g_ w109 hS
        have hS : Sp (FF []) w z w109 [bR ((g_ 14).b 0) 39 [.int .i64 0, .int .i64 0, .int .i64 0, .int .i64 0], bR b2 26 [.int .i64 a0.Right, .slice Aa0_Widths a0.Widths.length ca0_Widths, .slice Aa0_Heights a0.Heights.length ca0_Heights, .slice Aa0_Cells a0.Cells.length ca0_Cells, .slice Aa0_Merges a0.Merges.length ca0_Merges]] := hS
        refine An_fr [(1, .pointer (some ⟨b2, 0, none⟩)), (8, .int .i64 (l : Int)), (9, .pointer (some ⟨((g_ 14).b 0), 0, none⟩)), (110, .agg #[.int .i64 (raroundS a0 (a0.Cells.getD l (default : TCell)).Row (a0.Cells.getD l (default : TCell)).Col).Row, .int .i64 (raroundS a0 (a0.Cells.getD l (default : TCell)).Row (a0.Cells.getD l (default : TCell)).Col).Col, .int .i64 (raroundS a0 (a0.Cells.getD l (default : TCell)).Row (a0.Cells.getD l (default : TCell)).Col).Rows, .int .i64 (raroundS a0 (a0.Cells.getD l (default : TCell)).Row (a0.Cells.getD l (default : TCell)).Col).Cols])] rfl ?_
        generalize ((g_ 14).b 0) = b111 at hS ⊢
        refine An_one0 (i := 15) (by decide +kernel) rfl rfl (S_store hS 0 rfl rfl rfl rfl rfl size39 (one_cons rfl (one_cons rfl (one_cons rfl (one_cons rfl one_nil)))) (Nat.le_of_ble_eq_true rfl) (fun w112 hS => ?_))
        have hS : Sp (FF []) w z w112 [bR b111 39 [.int .i64 (raroundS a0 (a0.Cells.getD l (default : TCell)).Row (a0.Cells.getD l (default : TCell)).Col).Row, .int .i64 (raroundS a0 (a0.Cells.getD l (default : TCell)).Row (a0.Cells.getD l (default : TCell)).Col).Col, .int .i64 (raroundS a0 (a0.Cells.getD l (default : TCell)).Row (a0.Cells.getD l (default : TCell)).Col).Rows, .int .i64 (raroundS a0 (a0.Cells.getD l (default : TCell)).Row (a0.Cells.getD l (default : TCell)).Col).Cols], bR b2 26 [.int .i64 a0.Right, .slice Aa0_Widths a0.Widths.length ca0_Widths, .slice Aa0_Heights a0.Heights.length ca0_Heights, .slice Aa0_Cells a0.Cells.length ca0_Cells, .slice Aa0_Merges a0.Merges.length ca0_Merges]] := hS
        refine An_done (by decide +kernel) ?_
        refine E_then ?_
        refine C_seq ?_
        refine C_fr [(1, .pointer (some ⟨b2, 0, none⟩)), (8, .int .i64 (l : Int)), (9, .pointer (some ⟨b111, 0, none⟩))] rfl ?_
        obtain ⟨q113, csq113, hAq113, rfl, hkq113⟩ := hra0_Cells.at_ (default : TCell) (i := (l : Int)) (by omega) (by omega)
        have hkq113 : ∀ (j_ : Nat) (u_ : Value), ([.int .i64 (a0.Cells.getD l (default : TCell)).Row, .int .i64 (a0.Cells.getD l (default : TCell)).Col, vstr (a0.Cells.getD l (default : TCell)).Text, .int .i64 (a0.Cells.getD l (default : TCell)).Style.Align, .int .i64 (a0.Cells.getD l (default : TCell)).Style.Wrap, .int .i64 (a0.Cells.getD l (default : TCell)).Style.Dir] : List Value)[j_]? = some u_ → cz z (q113.add (l * 6 + j_)) = some u_ := hkq113
        refine C_drawn2 20 [[], [0], [], [2], [], [3, 4], [5], [6], [1, 7], [8], [9], [10, 9], [9], [12, 9], [9], [13, 14, 9], [15, 9], [16, 9], [11, 17, 9], [9, 18]] [some 111, some 112, some 113, some 114, some 115, some 116, some 117, some 118, some 119, some 120, some 121, some 122, some 123, some 124, some 125, some 126, some 127, some 128, some 129, some 130] [1, 8, 9] (List.replicate 20 20) (List.replicate 20 []) (List.replicate 20 []) [fun γ_ => .pointer (some ⟨b111, 0, none⟩), fun γ_ => .int .i64 (raroundS a0 (a0.Cells.getD l (default : TCell)).Row (a0.Cells.getD l (default : TCell)).Col).Row, fun γ_ => .pointer (some ⟨b2, 3, none⟩), fun γ_ => .slice Aa0_Cells a0.Cells.length ca0_Cells, fun γ_ => .int .i64 (l : Int), fun γ_ => .pointer (some (q113.add (l * 6))), fun γ_ => .pointer (some ((q113.add (l * 6)).add 0)), fun γ_ => .int .i64 (a0.Cells.getD l (default : TCell)).Row, fun γ_ => .bool ((raroundS a0 (a0.Cells.getD l (default : TCell)).Row (a0.Cells.getD l (default : TCell)).Col).Row != (a0.Cells.getD l (default : TCell)).Row), fun γ_ => .bool ((raroundS a0 (a0.Cells.getD l (default : TCell)).Row (a0.Cells.getD l (default : TCell)).Col).Row != (a0.Cells.getD l (default : TCell)).Row), fun γ_ => gv (!((raroundS a0 (a0.Cells.getD l (default : TCell)).Row (a0.Cells.getD l (default : TCell)).Col).Row != (a0.Cells.getD l (default : TCell)).Row)) (.pointer (some ⟨b111, 1, none⟩)), fun γ_ => gv (!((raroundS a0 (a0.Cells.getD l (default : TCell)).Row (a0.Cells.getD l (default : TCell)).Col).Row != (a0.Cells.getD l (default : TCell)).Row)) (.int .i64 (raroundS a0 (a0.Cells.getD l (default : TCell)).Row (a0.Cells.getD l (default : TCell)).Col).Col), fun γ_ => gv (!((raroundS a0 (a0.Cells.getD l (default : TCell)).Row (a0.Cells.getD l (default : TCell)).Col).Row != (a0.Cells.getD l (default : TCell)).Row)) (.pointer (some ⟨b2, 3, none⟩)), fun γ_ => gv (!((raroundS a0 (a0.Cells.getD l (default : TCell)).Row (a0.Cells.getD l (default : TCell)).Col).Row != (a0.Cells.getD l (default : TCell)).Row)) (.slice Aa0_Cells a0.Cells.length ca0_Cells), fun γ_ => gv (!((raroundS a0 (a0.Cells.getD l (default : TCell)).Row (a0.Cells.getD l (default : TCell)).Col).Row != (a0.Cells.getD l (default : TCell)).Row)) (.int .i64 (l : Int)), fun γ_ => gv (!((raroundS a0 (a0.Cells.getD l (default : TCell)).Row (a0.Cells.getD l (default : TCell)).Col).Row != (a0.Cells.getD l (default : TCell)).Row)) (.pointer (Aa0_Cells.map (fun q_ => q_.add (l * 6)))), fun γ_ => gv (!((raroundS a0 (a0.Cells.getD l (default : TCell)).Row (a0.Cells.getD l (default : TCell)).Col).Row != (a0.Cells.getD l (default : TCell)).Row)) (.pointer (Aa0_Cells.map (fun q_ => (q_.add (l * 6)).add 1))), fun γ_ => gv (!((raroundS a0 (a0.Cells.getD l (default : TCell)).Row (a0.Cells.getD l (default : TCell)).Col).Row != (a0.Cells.getD l (default : TCell)).Row)) (.int .i64 (a0.Cells.getD l (default : TCell)).Col), fun γ_ => gv (!((raroundS a0 (a0.Cells.getD l (default : TCell)).Row (a0.Cells.getD l (default : TCell)).Col).Row != (a0.Cells.getD l (default : TCell)).Row)) (.bool ((raroundS a0 (a0.Cells.getD l (default : TCell)).Row (a0.Cells.getD l (default : TCell)).Col).Col != (a0.Cells.getD l (default : TCell)).Col)), fun γ_ => .bool (((raroundS a0 (a0.Cells.getD l (default : TCell)).Row (a0.Cells.getD l (default : TCell)).Col).Row != (a0.Cells.getD l (default : TCell)).Row) || ((raroundS a0 (a0.Cells.getD l (default : TCell)).Row (a0.Cells.getD l (default : TCell)).Col).Col != (a0.Cells.getD l (default : TCell)).Col))] (List.replicate 20 (fun _ => [])) rfl (by kernel_rfl) (by decide +kernel) hS ?_ ?_
        ·refine ⟨fun _ _ _ hS => Sv_val rfl (R_fld rfl rfl fld39_0) ⟨gh0, rfl, hS⟩, fun _ _ _ hS => Sv_val rfl (R_load1 rfl rfl agg3 ((hS.bx 0 rfl).cell rfl)) ⟨gh0, rfl, hS⟩, fun _ _ _ hS => Sv_val rfl (R_fld rfl rfl fld26_3) ⟨gh0, rfl, hS⟩, fun _ _ _ hS => Sv_val rfl (R_load1 rfl rfl agg23 ((hS.bx 1 rfl).cell rfl)) ⟨gh0, rfl, hS⟩, fun _ _ _ hS => Sv_val rfl (R_move rfl rfl) ⟨gh0, rfl, hS⟩, fun _ _ _ hS => Sv_val rfl (R_idx rfl rfl hAq113 rfl Try.underlying23 size60 (by omega) (by omega)) ⟨gh0, rfl, hS⟩, fun _ _ _ hS => Sv_val rfl (R_fld rfl rfl fld60_0) ⟨gh0, rfl, hS⟩, fun _ _ _ hS => Sv_val rfl (R_load1 rfl rfl agg3 (cell_add (hS.sub.cell (hkq113 0 _ rfl)))) ⟨gh0, rfl, hS⟩, fun _ _ _ hS => Sv_val rfl (R_bin rfl rfl rfl rfl rfl) ⟨gh0, rfl, hS⟩, fun _ _ _ hS => Sv_val rfl (R_move rfl rfl) ⟨gh0, rfl, hS⟩, fun _ _ _ hS => Sv_gpure (Gd.no rfl rfl rfl) (fun hB => R_fld rfl rfl fld39_1) ⟨gh0, rfl, hS⟩, fun _ _ _ hS => Sv_gpure (Gd.no rfl rfl rfl) (fun hB => Runs.at_ (i := 121) (gl rfl hB) (R_load1 rfl rfl agg3 ((hS.bx 0 rfl).cell rfl))) ⟨gh0, rfl, hS⟩, fun _ _ _ hS => Sv_gpure (Gd.no rfl rfl rfl) (fun hB => R_fld rfl rfl fld26_3) ⟨gh0, rfl, hS⟩, fun _ _ _ hS => Sv_gpure (Gd.no rfl rfl rfl) (fun hB => Runs.at_ (i := 123) (gl rfl hB) (R_load1 rfl rfl agg23 ((hS.bx 1 rfl).cell rfl))) ⟨gh0, rfl, hS⟩, fun _ _ _ hS => Sv_gpure (Gd.no rfl rfl rfl) (fun hB => R_move rfl rfl) ⟨gh0, rfl, hS⟩, fun _ _ _ hS => Sv_gpure (v := .pointer (Aa0_Cells.map (fun q_ => q_.add (l * 6)))) (Gd.no rfl rfl rfl) (fun hB => by have hB0_ : (raroundS a0 (a0.Cells.getD l (default : TCell)).Row (a0.Cells.getD l (default : TCell)).Col).Row = (a0.Cells.getD l (default : TCell)).Row := (by simpa using (hB)); obtain ⟨q149, csq149, hAq149, rfl, hkq149⟩ := hra0_Cells.at_ (default : TCell) (i := (l : Int)) (by omega) (by omega); have hkq149 : ∀ (j_ : Nat) (u_ : Value), ([.int .i64 (a0.Cells.getD l (default : TCell)).Row, .int .i64 (a0.Cells.getD l (default : TCell)).Col, vstr (a0.Cells.getD l (default : TCell)).Text, .int .i64 (a0.Cells.getD l (default : TCell)).Style.Align, .int .i64 (a0.Cells.getD l (default : TCell)).Style.Wrap, .int .i64 (a0.Cells.getD l (default : TCell)).Style.Dir] : List Value)[j_]? = some u_ → cz z (q149.add (l * 6 + j_)) = some u_ := hkq149; have e_ : Aa0_Cells.map (fun q_ => q_.add (l * 6)) = some (q149.add (l * 6)) := (by rw [hAq149]; rfl); rw [e_]; exact Runs.at_ (i := 125) (gl rfl hB) (Runs.at_ (i := 124) (gl rfl hB) (R_idx (iv := (l : Int)) rfl rfl hAq149 rfl Try.underlying23 size60 (by omega) (by omega)))) ⟨gh0, rfl, hS⟩, fun _ _ _ hS => Sv_gpure (v := .pointer (Aa0_Cells.map (fun q_ => (q_.add (l * 6)).add 1))) (Gd.no rfl rfl rfl) (fun hB => by have hB0_ : (raroundS a0 (a0.Cells.getD l (default : TCell)).Row (a0.Cells.getD l (default : TCell)).Col).Row = (a0.Cells.getD l (default : TCell)).Row := (by simpa using (hB)); obtain ⟨q152, csq152, hAq152, rfl, hkq152⟩ := hra0_Cells.at_ (default : TCell) (i := (l : Int)) (by omega) (by omega); have hkq152 : ∀ (j_ : Nat) (u_ : Value), ([.int .i64 (a0.Cells.getD l (default : TCell)).Row, .int .i64 (a0.Cells.getD l (default : TCell)).Col, vstr (a0.Cells.getD l (default : TCell)).Text, .int .i64 (a0.Cells.getD l (default : TCell)).Style.Align, .int .i64 (a0.Cells.getD l (default : TCell)).Style.Wrap, .int .i64 (a0.Cells.getD l (default : TCell)).Style.Dir] : List Value)[j_]? = some u_ → cz z (q152.add (l * 6 + j_)) = some u_ := hkq152; have e_ : Aa0_Cells.map (fun q_ => (q_.add (l * 6)).add 1) = some ((q152.add (l * 6)).add 1) := (by rw [hAq152]; rfl); rw [e_]; exact Runs.at_ (i := 126) (((gl rfl hB)).trans (by rw [hAq152]; rfl)) (R_fld rfl rfl fld60_1)) ⟨gh0, rfl, hS⟩, ?_⟩
         refine ⟨fun _ _ _ hS => Sv_gpure (Gd.no rfl rfl rfl) (fun hB => by have hB0_ : (raroundS a0 (a0.Cells.getD l (default : TCell)).Row (a0.Cells.getD l (default : TCell)).Col).Row = (a0.Cells.getD l (default : TCell)).Row := (by simpa using (hB)); obtain ⟨q155, csq155, hAq155, rfl, hkq155⟩ := hra0_Cells.at_ (default : TCell) (i := (l : Int)) (by omega) (by omega); have hkq155 : ∀ (j_ : Nat) (u_ : Value), ([.int .i64 (a0.Cells.getD l (default : TCell)).Row, .int .i64 (a0.Cells.getD l (default : TCell)).Col, vstr (a0.Cells.getD l (default : TCell)).Text, .int .i64 (a0.Cells.getD l (default : TCell)).Style.Align, .int .i64 (a0.Cells.getD l (default : TCell)).Style.Wrap, .int .i64 (a0.Cells.getD l (default : TCell)).Style.Dir] : List Value)[j_]? = some u_ → cz z (q155.add (l * 6 + j_)) = some u_ := hkq155; exact Runs.at_ (i := 127) (((gl rfl hB)).trans (by rw [hAq155]; rfl)) (R_load1 rfl rfl agg3 (cell_add (hS.sub.cell (hkq155 1 _ rfl))))) ⟨gh0, rfl, hS⟩, fun _ _ _ hS => Sv_gpure (Gd.no rfl rfl rfl) (fun hB => Runs.at_ (i := 128) (gl rfl hB) (Runs.at_ (i := 122) (gl rfl hB) (R_bin rfl rfl rfl rfl rfl))) ⟨gh0, rfl, hS⟩, fun _ _ _ hS => Sv_val rfl (R_pick_or rfl rfl rfl rfl) ⟨gh0, rfl, hS⟩, ?_⟩
         exact trivial
        ·intro g_ w160 hS
         have hS : Sp (FF []) w z w160 [bR b111 39 [.int .i64 (raroundS a0 (a0.Cells.getD l (default : TCell)).Row (a0.Cells.getD l (default : TCell)).Col).Row, .int .i64 (raroundS a0 (a0.Cells.getD l (default : TCell)).Row (a0.Cells.getD l (default : TCell)).Col).Col, .int .i64 (raroundS a0 (a0.Cells.getD l (default : TCell)).Row (a0.Cells.getD l (default : TCell)).Col).Rows, .int .i64 (raroundS a0 (a0.Cells.getD l (default : TCell)).Row (a0.Cells.getD l (default : TCell)).Col).Cols], bR b2 26 [.int .i64 a0.Right, .slice Aa0_Widths a0.Widths.length ca0_Widths, .slice Aa0_Heights a0.Heights.length ca0_Heights, .slice Aa0_Cells a0.Cells.length ca0_Cells, .slice Aa0_Merges a0.Merges.length ca0_Merges]] := hS
         refine An_fr [(1, .pointer (some ⟨b2, 0, none⟩)), (8, .int .i64 (l : Int)), (9, .pointer (some ⟨b111, 0, none⟩)), (130, .bool (((raroundS a0 (a0.Cells.getD l (default : TCell)).Row (a0.Cells.getD l (default : TCell)).Col).Row != (a0.Cells.getD l (default : TCell)).Row) || ((raroundS a0 (a0.Cells.getD l (default : TCell)).Row (a0.Cells.getD l (default : TCell)).Col).Col != (a0.Cells.getD l (default : TCell)).Col)))] rfl ?_
         refine An_done (by decide +kernel) ?_
         refine E_then ?_
         refine C_ite rfl (fun hC10 => ?_) (fun hC10 => ?_)
         ·have _hC10 := trivial
          have hC10p : (¬ (raroundS a0 (a0.Cells.getD l (default : TCell)).Row (a0.Cells.getD l (default : TCell)).Col).Row = (a0.Cells.getD l (default : TCell)).Row ∨ ¬ (raroundS a0 (a0.Cells.getD l (default : TCell)).Row (a0.Cells.getD l (default : TCell)).Col).Col = (a0.Cells.getD l (default : TCell)).Col) := by simpa using hC10
          refine C_seq ?_
          refine C_region ?_
          refine wv rfl rfl rfl (R_assign rfl rfl) ?_
          refine W_nil ?_
          refine E_then ?_
          refine C_ret ?_
          refine E_block_ret ?_
          refine E_then_ret ?_
          refine E_then_ret ?_
          refine E_block_ret ?_
          refine E_then_ret ?_
          refine E_ret1 rfl rfl ?_
          exact ⟨Lret1 (Lint (show 6 = rcheckSh a0 by first | exact rck3 (by assumption) | exact rck1 (by assumption) (by assumption) | exact rck0 (by assumption) (by assumption) (i := i) (by omega) hI0_1 (j := j) (by omega) hI1_1 (k := k) (by omega) (by omega) hI2_1 (l := l) (by omega) hI4_1 | exact rck6 (by assumption) (by assumption) (i := i) (by omega) hI0_1 (j := j) (by omega) hI1_1 (k := k) (by omega) (by omega) hI2_1 (l := l) (by omega) (by unfold runderS; simp_all) | exact rck5 (by assumption) (by assumption) (i := i) (by omega) hI0_1 (j := j) (by omega) hI1_1 (k := k) (l := m) (by omega) (by omega) (by assumption) | exact rck4m (by assumption) (by assumption) (i := i) (by omega) hI0_1 (j := j) (by omega) (by assumption) | exact rck4 (by assumption) (by assumption) (i := i) (by omega) (by unfold rfarS; simp_all))), hS.fin [] (by decide) rfl⟩
         ·have _hC10 := trivial
          have hC10p : ¬ ((¬ (raroundS a0 (a0.Cells.getD l (default : TCell)).Row (a0.Cells.getD l (default : TCell)).Col).Row = (a0.Cells.getD l (default : TCell)).Row ∨ ¬ (raroundS a0 (a0.Cells.getD l (default : TCell)).Row (a0.Cells.getD l (default : TCell)).Col).Col = (a0.Cells.getD l (default : TCell)).Col)) := by simpa using hC10
          refine C_skip ?_
          refine E_block_normal ?_
          refine E_then ?_
          refine C_region ?_
          refine wv rfl rfl rfl (R_move rfl rfl) <| wv rfl rfl rfl (R_add64 rfl rfl rfl (by omega) (by omega)) <| wv rfl rfl rfl (R_assign rfl rfl) ?_
          refine W_nil ?_
          refine E_round [1, 8] ?_ ⟨(l + 1 : Nat), rfl, (by omega), (by exact any_step (p := runderS a0) default (by omega) hI4_1 (by unfold runderS; simp_all)), rfl, hS.fin [1] (by decide) rfl⟩
          omega
      ·have _hC9 := trivial
       have hC9p : ¬ ((l : Int) < (a0.Cells.length : Int)) := by simpa using hC9
       refine C_exit ?_
       refine E_then_exit ?_
       refine E_then_exit ?_
       refine E_block_hit ?_
       refine E_then (C_fr [] rfl ?_)
       refine C_seq ?_
       refine C_region ?_
       refine wv rfl rfl rfl (R_assign rfl rfl) ?_
       refine W_nil ?_
       refine E_then ?_
       refine C_ret ?_
       refine E_ret1 rfl rfl ?_
       exact ⟨Lret1 (Lint (show 0 = rcheckSh a0 by first | exact rck3 (by assumption) | exact rck1 (by assumption) (by assumption) | exact rck0 (by assumption) (by assumption) (i := i) (by omega) hI0_1 (j := j) (by omega) hI1_1 (k := k) (by omega) (by omega) hI2_1 (l := l) (by omega) hI4_1 | exact rck6 (by assumption) (by assumption) (i := i) (by omega) hI0_1 (j := j) (by omega) hI1_1 (k := k) (by omega) (by omega) hI2_1 (l := l) (by omega) (by unfold runderS; simp_all) | exact rck5 (by assumption) (by assumption) (i := i) (by omega) hI0_1 (j := j) (by omega) hI1_1 (k := k) (l := m) (by omega) (by omega) (by assumption) | exact rck4m (by assumption) (by assumption) (i := i) (by omega) hI0_1 (j := j) (by omega) (by assumption) | exact rck4 (by assumption) (by assumption) (i := i) (by omega) (by unfold rfarS; simp_all))), hS.fin [] (by decide) rfl⟩

end Go.Proofs.YtalpekmbknjeeaaG
