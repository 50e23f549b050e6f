/- Walks, each function once: what it computes. -/
import Derived.Test.YtgjnhmidbapjmaaU4
set_option linter.all false
namespace Go.Proofs.YtgjnhmidbapjmaaG
open Go Go.RowKit
set_option maxHeartbeats 4000000 in
set_option maxRecDepth 20000 in
theorem rorder_calls (a0 : TSheet) (Aa0_Widths : Option Addr) (ca0_Widths : Nat) (Aa0_Heights : Option Addr) (ca0_Heights : Nat) (Aa0_Cells : Option Addr) (ca0_Cells : Nat) (Aa0_Merges : Option Addr) (ca0_Merges : Nat) (z : Z) (w : World) (hI : In z w []) (hra0_Widths : Rd (kint .i64) z Aa0_Widths a0.Widths) (hca0_Widths : Cap Aa0_Widths a0.Widths.length ca0_Widths) (hra0_Heights : Rd (kint .i64) z Aa0_Heights a0.Heights) (hca0_Heights : Cap Aa0_Heights a0.Heights.length ca0_Heights) (hra0_Cells : Rd kdTCell z Aa0_Cells a0.Cells) (hca0_Cells : Cap Aa0_Cells a0.Cells.length ca0_Cells) (hra0_Merges : Rd kdTRect z Aa0_Merges a0.Merges) (hca0_Merges : Cap Aa0_Merges a0.Merges.length ca0_Merges)  :
    Calls Try.prog 82 #[.agg #[.int .i64 a0.Right, .slice Aa0_Widths a0.Widths.length ca0_Widths, .slice Aa0_Heights a0.Heights.length ca0_Heights, .slice Aa0_Cells a0.Cells.length ca0_Cells, .slice Aa0_Merges a0.Merges.length ca0_Merges]] w fun e w' => e = .returned (.bool (rorderS a0)) ∧ Sp (FF []) w z w' [] := by
 have hla0_Widths := hca0_Widths.le
 have hma0_Widths := hca0_Widths.mx
 have hla0_Heights := hca0_Heights.le
 have hma0_Heights := hca0_Heights.mx
 have hla0_Cells := hca0_Cells.le
 have hma0_Cells := hca0_Cells.mx
 have hla0_Merges := hca0_Merges.le
 have hma0_Merges := hca0_Merges.mx
 have hS := hI.sp
 refine Calls_of (vs := [.agg #[.int .i64 a0.Right, .slice Aa0_Widths a0.Widths.length ca0_Widths, .slice Aa0_Heights a0.Heights.length ca0_Heights, .slice Aa0_Cells a0.Cells.length ca0_Cells, .slice Aa0_Merges a0.Merges.length ca0_Merges]]) (N := 176) Try.func82 rfl rfl (Nat.le_of_ble_eq_true rfl) ?_
 refine C_seq ?_
 refine C_region ?_
 refine W_cons rfl (by decide) (S_box hS rfl (R_box (cs := [.int .i64 a0.Right, .slice Aa0_Widths a0.Widths.length ca0_Widths, .slice Aa0_Heights a0.Heights.length ca0_Heights, .slice Aa0_Cells a0.Cells.length ca0_Cells, .slice Aa0_Merges a0.Merges.length ca0_Merges]) rfl rfl rfl) (fun b2 w1 hS => ?_))
 refine W_cons rfl (by decide) (Sv_val rfl (R_assign rfl rfl) ?_)
 refine W_nil ?_
 refine E_then ?_
 refine C_seq ?_
 refine C_cut (fun f_ w_ => ∃ m_ : Nat, (f_ = [(1, .pointer (some ⟨b2, 0, none⟩)), (28, .bool (decide ((¬ a0.Right = 0 ∧ ¬ a0.Right = 1) ∨ (a0.Widths.length : Int) = 0 ∨ (a0.Heights.length : Int) = 0)))]) ∧ m_ = 0 ∧ Sp (FF []) w z w_ [bR b2 39 [.int .i64 a0.Right, .slice Aa0_Widths a0.Widths.length ca0_Widths, .slice Aa0_Heights a0.Heights.length ca0_Heights, .slice Aa0_Cells a0.Cells.length ca0_Cells, .slice Aa0_Merges a0.Merges.length ca0_Merges]]) ?_ ?_
 ·have _w3 := trivial
  refine C_region ?_
  refine W_cons rfl (by decide) (Sv_val rfl (R_fld rfl rfl fld39_0) ?_)
  refine W_cons rfl (by decide) (Sv_val rfl (R_load1 rfl rfl agg3 ((hS.bx 0 rfl).cell rfl)) ?_)
  refine W_cons rfl (by decide) (Sv_val rfl (R_bin rfl rfl rfl rfl rfl) ?_)
  refine W_cons rfl (by decide) (Sv_val rfl (R_move rfl rfl) ?_)
  refine W_split (t := 12) rfl (fun hg4 => ?_) (fun hg4 => ?_)
  ·have _hg4 := trivial
   have hg4p : ¬ a0.Right = 0 := by simpa using hg4
   refine W_cons rfl (by decide) (Sv_gt rfl rfl rfl hg4 (Sv_val rfl (R_fld rfl rfl fld39_0) ?_))
   refine W_cons rfl (by decide) (Sv_gt rfl rfl rfl hg4 (Sv_val rfl (R_load1 rfl rfl agg3 ((hS.bx 0 rfl).cell rfl)) ?_))
   refine W_cons rfl (by decide) (Sv_gt rfl rfl rfl hg4 (Sv_val rfl (R_bin rfl rfl rfl rfl rfl) ?_))
   refine W_cons rfl (by decide) (Sv_val rfl (R_pick_t rfl rfl hg4 rfl) ?_)
   refine W_cons rfl (by decide) (Sv_val rfl (R_move rfl rfl) ?_)
   refine W_split (t := 17) rfl (fun hg5 => ?_) (fun hg5 => ?_)
   ·have _hg5 := trivial
    have hg5p : ¬ a0.Right = 1 := by simpa using hg5
    refine W_cons rfl (by decide) (Sv_off rfl rfl rfl (by rw [hg5] <;> rfl) ?_)
    refine W_cons rfl (by decide) (Sv_off rfl rfl rfl (by rw [hg5] <;> rfl) ?_)
    refine W_cons rfl (by decide) (Sv_off rfl rfl rfl (by rw [hg5] <;> rfl) ?_)
    refine W_cons rfl (by decide) (Sv_off rfl rfl rfl (by rw [hg5] <;> rfl) ?_)
    refine W_cons rfl (by decide) (Sv_val rfl (R_pick_t rfl rfl hg5 rfl) ?_)
    refine W_cons rfl (by decide) (Sv_val rfl (R_move rfl rfl) ?_)
    refine W_cons rfl (by decide) (Sv_off rfl rfl rfl rfl ?_)
    refine W_cons rfl (by decide) (Sv_off rfl rfl rfl rfl ?_)
    refine W_cons rfl (by decide) (Sv_off rfl rfl rfl rfl ?_)
    refine W_cons rfl (by decide) (Sv_off rfl rfl rfl rfl ?_)
    refine W_cons rfl (by decide) (Sv_val rfl (R_pick_t rfl rfl rfl rfl) ?_)
    refine W_nil ?_
    have hs6 : true = decide ((¬ a0.Right = 0 ∧ ¬ a0.Right = 1) ∨ (a0.Widths.length : Int) = 0 ∨ (a0.Heights.length : Int) = 0) := by first | (simp_all; done) | (rw [Bool.eq_iff_iff]; simp_all)
    exact E_cut [1, 28] ⟨0, (by rw [← hs6] <;> rfl), rfl, hS.fin [0] (by decide) rfl⟩
   ·have _hg5 := trivial
    have hg5p : a0.Right = 1 := by simpa using hg5
    refine W_cons rfl (by decide) (Sv_gt rfl rfl rfl hg5 (Sv_val rfl (R_fld rfl rfl fld39_1) ?_))
    refine W_cons rfl (by decide) (Sv_gt rfl rfl rfl hg5 (Sv_val rfl (R_load1 rfl rfl agg35 ((hS.bx 0 rfl).cell rfl)) ?_))
    refine W_cons rfl (by decide) (Sv_gt rfl rfl rfl hg5 (Sv_val rfl (R_len rfl rfl Try.underlying35) ?_))
    refine W_cons rfl (by decide) (Sv_gt rfl rfl rfl hg5 (Sv_val rfl (R_bin rfl rfl rfl rfl rfl) ?_))
    refine W_cons rfl (by decide) (Sv_val rfl (R_pick_f rfl rfl hg5 rfl) ?_)
    refine W_cons rfl (by decide) (Sv_val rfl (R_move rfl rfl) ?_)
    refine W_split (t := 23) rfl (fun hg7 => ?_) (fun hg7 => ?_)
    ·have _hg7 := trivial
     have hg7p : (a0.Widths.length : Int) = 0 := by simpa using hg7
     refine W_cons rfl (by decide) (Sv_off rfl rfl rfl (by rw [hg7] <;> rfl) ?_)
     refine W_cons rfl (by decide) (Sv_off rfl rfl rfl (by rw [hg7] <;> rfl) ?_)
     refine W_cons rfl (by decide) (Sv_off rfl rfl rfl (by rw [hg7] <;> rfl) ?_)
     refine W_cons rfl (by decide) (Sv_off rfl rfl rfl (by rw [hg7] <;> rfl) ?_)
     refine W_cons rfl (by decide) (Sv_val rfl (R_pick_t rfl rfl hg7 rfl) ?_)
     refine W_nil ?_
     have hs8 : true = decide ((¬ a0.Right = 0 ∧ ¬ a0.Right = 1) ∨ (a0.Widths.length : Int) = 0 ∨ (a0.Heights.length : Int) = 0) := by first | (simp_all; done) | (rw [Bool.eq_iff_iff]; simp_all)
     exact E_cut [1, 28] ⟨0, (by rw [← hs8] <;> rfl), rfl, hS.fin [0] (by decide) rfl⟩
    ·have _hg7 := trivial
     have hg7p : ¬ ((a0.Widths.length : Int) = 0) := by simpa using hg7
     refine W_cons rfl (by decide) (Sv_gt rfl rfl rfl hg7 (Sv_val rfl (R_fld rfl rfl fld39_2) ?_))
     refine W_cons rfl (by decide) (Sv_gt rfl rfl rfl hg7 (Sv_val rfl (R_load1 rfl rfl agg35 ((hS.bx 0 rfl).cell rfl)) ?_))
     refine W_cons rfl (by decide) (Sv_gt rfl rfl rfl hg7 (Sv_val rfl (R_len rfl rfl Try.underlying35) ?_))
     refine W_cons rfl (by decide) (Sv_gt rfl rfl rfl hg7 (Sv_val rfl (R_bin rfl rfl rfl rfl rfl) ?_))
     refine W_cons rfl (by decide) (Sv_val rfl (R_pick_f rfl rfl hg7 rfl) ?_)
     refine W_nil ?_
     have hs9 : ((a0.Heights.length : Int) == 0) = decide ((¬ a0.Right = 0 ∧ ¬ a0.Right = 1) ∨ (a0.Widths.length : Int) = 0 ∨ (a0.Heights.length : Int) = 0) := by first | (simp_all; done) | (rw [Bool.eq_iff_iff]; simp_all)
     exact E_cut [1, 28] ⟨0, (by rw [← hs9] <;> rfl), rfl, hS.fin [0] (by decide) rfl⟩
  ·have _hg4 := trivial
   have hg4p : a0.Right = 0 := by simpa using hg4
   refine W_cons rfl (by decide) (Sv_off rfl rfl rfl (by rw [hg4] <;> rfl) ?_)
   refine W_cons rfl (by decide) (Sv_off rfl rfl rfl (by rw [hg4] <;> rfl) ?_)
   refine W_cons rfl (by decide) (Sv_off rfl rfl rfl (by rw [hg4] <;> rfl) ?_)
   refine W_cons rfl (by decide) (Sv_val rfl (R_pick_f rfl rfl hg4 rfl) ?_)
   refine W_cons rfl (by decide) (Sv_val rfl (R_move rfl rfl) ?_)
   refine W_cons rfl (by decide) (Sv_gt rfl rfl rfl rfl (Sv_val rfl (R_fld rfl rfl fld39_1) ?_))
   refine W_cons rfl (by decide) (Sv_gt rfl rfl rfl rfl (Sv_val rfl (R_load1 rfl rfl agg35 ((hS.bx 0 rfl).cell rfl)) ?_))
   refine W_cons rfl (by decide) (Sv_gt rfl rfl rfl rfl (Sv_val rfl (R_len rfl rfl Try.underlying35) ?_))
   refine W_cons rfl (by decide) (Sv_gt rfl rfl rfl rfl (Sv_val rfl (R_bin rfl rfl rfl rfl rfl) ?_))
   refine W_cons rfl (by decide) (Sv_val rfl (R_pick_f rfl rfl rfl rfl) ?_)
   refine W_cons rfl (by decide) (Sv_val rfl (R_move rfl rfl) ?_)
   refine W_split (t := 23) rfl (fun hg10 => ?_) (fun hg10 => ?_)
   ·have _hg10 := trivial
    have hg10p : (a0.Widths.length : Int) = 0 := by simpa using hg10
    refine W_cons rfl (by decide) (Sv_off rfl rfl rfl (by rw [hg10] <;> rfl) ?_)
    refine W_cons rfl (by decide) (Sv_off rfl rfl rfl (by rw [hg10] <;> rfl) ?_)
    refine W_cons rfl (by decide) (Sv_off rfl rfl rfl (by rw [hg10] <;> rfl) ?_)
    refine W_cons rfl (by decide) (Sv_off rfl rfl rfl (by rw [hg10] <;> rfl) ?_)
    refine W_cons rfl (by decide) (Sv_val rfl (R_pick_t rfl rfl hg10 rfl) ?_)
    refine W_nil ?_
    have hs11 : true = decide ((¬ a0.Right = 0 ∧ ¬ a0.Right = 1) ∨ (a0.Widths.length : Int) = 0 ∨ (a0.Heights.length : Int) = 0) := by first | (simp_all; done) | (rw [Bool.eq_iff_iff]; simp_all)
    exact E_cut [1, 28] ⟨0, (by rw [← hs11] <;> rfl), rfl, hS.fin [0] (by decide) rfl⟩
   ·have _hg10 := trivial
    have hg10p : ¬ ((a0.Widths.length : Int) = 0) := by simpa using hg10
    refine W_cons rfl (by decide) (Sv_gt rfl rfl rfl hg10 (Sv_val rfl (R_fld rfl rfl fld39_2) ?_))
    refine W_cons rfl (by decide) (Sv_gt rfl rfl rfl hg10 (Sv_val rfl (R_load1 rfl rfl agg35 ((hS.bx 0 rfl).cell rfl)) ?_))
    refine W_cons rfl (by decide) (Sv_gt rfl rfl rfl hg10 (Sv_val rfl (R_len rfl rfl Try.underlying35) ?_))
    refine W_cons rfl (by decide) (Sv_gt rfl rfl rfl hg10 (Sv_val rfl (R_bin rfl rfl rfl rfl rfl) ?_))
    refine W_cons rfl (by decide) (Sv_val rfl (R_pick_f rfl rfl hg10 rfl) ?_)
    refine W_nil ?_
    have hs12 : ((a0.Heights.length : Int) == 0) = decide ((¬ a0.Right = 0 ∧ ¬ a0.Right = 1) ∨ (a0.Widths.length : Int) = 0 ∨ (a0.Heights.length : Int) = 0) := by first | (simp_all; done) | (rw [Bool.eq_iff_iff]; simp_all)
    exact E_cut [1, 28] ⟨0, (by rw [← hs12] <;> rfl), rfl, hS.fin [0] (by decide) rfl⟩
 ·rintro f_ w3 ⟨m_, rfl, rfl, hS⟩
  refine C_ite rfl (fun hC0 => ?_) (fun hC0 => ?_)
  ·have _hC0 := trivial
   have hC0p : (¬ a0.Right = 0 ∧ ¬ a0.Right = 1) ∨ (a0.Widths.length : Int) = 0 ∨ (a0.Heights.length : Int) = 0 := by simpa using hC0
   refine C_seq ?_
   refine C_region ?_
   refine W_cons rfl (by decide) (Sv_val rfl (R_assign rfl rfl) ?_)
   refine W_nil ?_
   refine E_then ?_
   refine C_ret ?_
   refine E_then_ret ?_
   refine E_ret1 rfl rfl ?_
   exact ⟨Lret1 (Lbool (show false = (rorderS a0) by first | exact rord_top (by omega) | exact rord_ok (i := i) (j := j) (k := k) (l := l) (by omega) (by omega) hI0_1 (by omega) hI1_1 (by omega) (by omega) hI2_1 (by omega) (by omega) hI3_1 | exact rord_m (i := l) (by omega) (by unfold rmergeS; simp_all) | exact rord_c (i := k) (by omega) (by unfold rcellS; simp_all) | exact rord_h (i := j) (by omega) (by assumption) | exact rord_w (i := i) (by omega) (by assumption))), hS.fin [] (by decide) rfl⟩
  ·have _hC0 := trivial
   have hC0p : ¬ ((¬ a0.Right = 0 ∧ ¬ a0.Right = 1) ∨ (a0.Widths.length : Int) = 0 ∨ (a0.Heights.length : Int) = 0) := by simpa using hC0
   refine C_skip ?_
   refine E_then ?_
   refine C_seq ?_
   refine C_seq ?_
   refine C_region ?_
   refine W_cons rfl (by decide) (Sv_val rfl (R_assign rfl rfl) ?_)
   refine W_nil ?_
   refine E_then ?_
   refine C_block ?_
   refine C_fr [(1, .pointer (some ⟨b2, 0, none⟩)), (3, .int .i64 0)] rfl ?_
   refine C_loop (fun m_ f_ w_ => ∃ (i : Nat), f_ = [(1, .pointer (some ⟨b2, 0, none⟩)), (3, .int .i64 (i : Int))] ∧ i ≤ a0.Widths.length ∧ (a0.Widths.take i).any (fun n => decide (n < 1)) = false ∧ m_ = a0.Widths.length - i ∧ Sp (FF []) w z w_ [bR b2 39 [.int .i64 a0.Right, .slice Aa0_Widths a0.Widths.length ca0_Widths, .slice Aa0_Heights a0.Heights.length ca0_Heights, .slice Aa0_Cells a0.Cells.length ca0_Cells, .slice Aa0_Merges a0.Merges.length ca0_Merges]]) (a0.Widths.length - (0 : Nat)) ⟨(0 : Nat), rfl, (by omega), (by rfl), rfl, hS.fin [0] (by decide) rfl⟩ ?_
   rintro m_ f_ w13 ⟨i, rfl, hI0_0, hI0_1, rfl, hS⟩
   refine C_seq ?_
   refine C_seq ?_
   refine C_region ?_
   refine W_cons rfl (by decide) (Sv_val rfl (R_move rfl rfl) ?_)
   refine W_cons rfl (by decide) (Sv_val rfl (R_fld rfl rfl fld39_1) ?_)
   refine W_cons rfl (by decide) (Sv_val rfl (R_load1 rfl rfl agg35 ((hS.bx 0 rfl).cell rfl)) ?_)
   refine W_cons rfl (by decide) (Sv_val rfl (R_len rfl rfl Try.underlying35) ?_)
   refine W_cons rfl (by decide) (Sv_val rfl (R_bin rfl rfl rfl rfl rfl) ?_)
   refine W_nil ?_
   refine E_then ?_
   refine C_ite rfl (fun hC1 => ?_) (fun hC1 => ?_)
   ·have _hC1 := trivial
    have hC1p : (i : Int) < (a0.Widths.length : Int) := by simpa using hC1
    refine C_skip ?_
    refine E_then (C_fr [(1, .pointer (some ⟨b2, 0, none⟩)), (3, .int .i64 (i : Int))] rfl ?_)
    refine C_seq ?_
    refine C_block ?_
    refine C_seq ?_
    refine C_region ?_
    refine W_cons rfl (by decide) (Sv_val rfl (R_fld rfl rfl fld39_1) ?_)
    refine W_cons rfl (by decide) (Sv_val rfl (R_load1 rfl rfl agg35 ((hS.bx 0 rfl).cell rfl)) ?_)
    refine W_cons rfl (by decide) (Sv_val rfl (R_move rfl rfl) ?_)
    obtain ⟨q14, csq14, hAq14, rfl, hkq14⟩ := hra0_Widths.at_ (0 : Int) (i := (i : Int)) (by omega) (by omega)
    have hkq14 : ∀ (j_ : Nat) (u_ : Value), ([.int .i64 (a0.Widths.getD i (0 : Int))] : List Value)[j_]? = some u_ → cz z (q14.add (i * 1 + j_)) = some u_ := hkq14
    refine W_cons rfl (by decide) (Sv_val rfl (R_idx rfl rfl hAq14 rfl Try.underlying35 size3 (by omega) (by omega)) ?_)
    refine W_cons rfl (by decide) (Sv_val rfl (R_load1 rfl rfl agg3 (hS.sub.cell (hkq14 0 _ rfl))) ?_)
    refine W_cons rfl (by decide) (Sv_val rfl (R_bin rfl rfl rfl rfl rfl) ?_)
    refine W_nil ?_
    refine E_then (C_fr [(1, .pointer (some ⟨b2, 0, none⟩)), (3, .int .i64 (i : Int)), (41, .bool (decide ((a0.Widths.getD i (0 : Int)) < 1)))] rfl ?_)
    refine C_ite rfl (fun hC2 => ?_) (fun hC2 => ?_)
    ·have _hC2 := trivial
     have hC2p : (a0.Widths.getD i (0 : Int)) < 1 := by simpa using hC2
     refine C_seq ?_
     refine C_region ?_
     refine W_cons rfl (by decide) (Sv_val rfl (R_assign rfl rfl) ?_)
     refine W_nil ?_
     refine E_then ?_
     refine C_ret ?_
     refine E_block_ret ?_
     refine E_then_ret ?_
     refine E_then_ret ?_
     refine E_block_ret ?_
     refine E_then_ret ?_
     refine E_ret1 rfl rfl ?_
     exact ⟨Lret1 (Lbool (show false = (rorderS a0) by first | exact rord_top (by omega) | exact rord_ok (i := i) (j := j) (k := k) (l := l) (by omega) (by omega) hI0_1 (by omega) hI1_1 (by omega) (by omega) hI2_1 (by omega) (by omega) hI3_1 | exact rord_m (i := l) (by omega) (by unfold rmergeS; simp_all) | exact rord_c (i := k) (by omega) (by unfold rcellS; simp_all) | exact rord_h (i := j) (by omega) (by assumption) | exact rord_w (i := i) (by omega) (by assumption))), hS.fin [] (by decide) rfl⟩
    ·have _hC2 := trivial
     have hC2p : ¬ ((a0.Widths.getD i (0 : Int)) < 1) := by simpa using hC2
     refine C_skip ?_
     refine E_block_normal ?_
     refine E_then ?_
     refine C_region ?_
     refine W_cons rfl (by decide) (Sv_val rfl (R_move rfl rfl) ?_)
     refine W_cons rfl (by decide) (Sv_val rfl (R_add64 rfl rfl rfl (by omega) (by omega)) ?_)
     refine W_cons rfl (by decide) (Sv_val rfl (R_assign rfl rfl) ?_)
     refine W_nil ?_
     refine E_round [1, 3] ?_ ⟨(i + 1 : Nat), rfl, (by omega), (by exact any_step (p := (fun n => decide (n < 1))) 0 (by omega) hI0_1 (by simp_all)), rfl, hS.fin [0] (by decide) rfl⟩
     omega
   ·have _hC1 := trivial
    have hC1p : ¬ ((i : Int) < (a0.Widths.length : Int)) := by simpa using hC1
    refine C_exit ?_
    refine E_then_exit ?_
    refine E_then_exit ?_
    refine E_block_hit ?_
    refine E_then (C_fr [(1, .pointer (some ⟨b2, 0, none⟩))] rfl ?_)
    refine C_seq ?_
    refine C_seq ?_
    refine C_region ?_
    refine W_cons rfl (by decide) (Sv_val rfl (R_assign rfl rfl) ?_)
    refine W_nil ?_
    refine E_then ?_
    refine C_block ?_
    refine C_fr [(1, .pointer (some ⟨b2, 0, none⟩)), (4, .int .i64 0)] rfl ?_
    refine C_loop (fun m_ f_ w_ => ∃ (j : Nat), f_ = [(1, .pointer (some ⟨b2, 0, none⟩)), (4, .int .i64 (j : Int))] ∧ j ≤ a0.Heights.length ∧ (a0.Heights.take j).any (fun n => decide (n < 1)) = false ∧ m_ = a0.Heights.length - j ∧ Sp (FF []) w z w_ [bR b2 39 [.int .i64 a0.Right, .slice Aa0_Widths a0.Widths.length ca0_Widths, .slice Aa0_Heights a0.Heights.length ca0_Heights, .slice Aa0_Cells a0.Cells.length ca0_Cells, .slice Aa0_Merges a0.Merges.length ca0_Merges]]) (a0.Heights.length - (0 : Nat)) ⟨(0 : Nat), rfl, (by omega), (by rfl), rfl, hS.fin [0] (by decide) rfl⟩ ?_
    rintro m_ f_ w15 ⟨j, rfl, hI1_0, hI1_1, rfl, hS⟩
    refine C_seq ?_
    refine C_seq ?_
    refine C_region ?_
    refine W_cons rfl (by decide) (Sv_val rfl (R_move rfl rfl) ?_)
    refine W_cons rfl (by decide) (Sv_val rfl (R_fld rfl rfl fld39_2) ?_)
    refine W_cons rfl (by decide) (Sv_val rfl (R_load1 rfl rfl agg35 ((hS.bx 0 rfl).cell rfl)) ?_)
    refine W_cons rfl (by decide) (Sv_val rfl (R_len rfl rfl Try.underlying35) ?_)
    refine W_cons rfl (by decide) (Sv_val rfl (R_bin rfl rfl rfl rfl rfl) ?_)
    refine W_nil ?_
    refine E_then ?_
    refine C_ite rfl (fun hC3 => ?_) (fun hC3 => ?_)
    ·have _hC3 := trivial
     have hC3p : (j : Int) < (a0.Heights.length : Int) := by simpa using hC3
     refine C_skip ?_
     refine E_then (C_fr [(1, .pointer (some ⟨b2, 0, none⟩)), (4, .int .i64 (j : Int))] rfl ?_)
     refine C_seq ?_
     refine C_block ?_
     refine C_seq ?_
     refine C_region ?_
     refine W_cons rfl (by decide) (Sv_val rfl (R_fld rfl rfl fld39_2) ?_)
     refine W_cons rfl (by decide) (Sv_val rfl (R_load1 rfl rfl agg35 ((hS.bx 0 rfl).cell rfl)) ?_)
     refine W_cons rfl (by decide) (Sv_val rfl (R_move rfl rfl) ?_)
     obtain ⟨q16, csq16, hAq16, rfl, hkq16⟩ := hra0_Heights.at_ (0 : Int) (i := (j : Int)) (by omega) (by omega)
     have hkq16 : ∀ (j_ : Nat) (u_ : Value), ([.int .i64 (a0.Heights.getD j (0 : Int))] : List Value)[j_]? = some u_ → cz z (q16.add (j * 1 + j_)) = some u_ := hkq16
     refine W_cons rfl (by decide) (Sv_val rfl (R_idx rfl rfl hAq16 rfl Try.underlying35 size3 (by omega) (by omega)) ?_)
     refine W_cons rfl (by decide) (Sv_val rfl (R_load1 rfl rfl agg3 (hS.sub.cell (hkq16 0 _ rfl))) ?_)
     refine W_cons rfl (by decide) (Sv_val rfl (R_bin rfl rfl rfl rfl rfl) ?_)
     refine W_nil ?_
     refine E_then (C_fr [(1, .pointer (some ⟨b2, 0, none⟩)), (4, .int .i64 (j : Int)), (54, .bool (decide ((a0.Heights.getD j (0 : Int)) < 1)))] rfl ?_)
     refine C_ite rfl (fun hC4 => ?_) (fun hC4 => ?_)
     ·have _hC4 := trivial
      have hC4p : (a0.Heights.getD j (0 : Int)) < 1 := by simpa using hC4
      refine C_seq ?_
      refine C_region ?_
      refine W_cons rfl (by decide) (Sv_val rfl (R_assign rfl rfl) ?_)
      refine W_nil ?_
      refine E_then ?_
      refine C_ret ?_
      refine E_block_ret ?_
      refine E_then_ret ?_
      refine E_then_ret ?_
      refine E_block_ret ?_
      refine E_then_ret ?_
      refine E_ret1 rfl rfl ?_
      exact ⟨Lret1 (Lbool (show false = (rorderS a0) by first | exact rord_top (by omega) | exact rord_ok (i := i) (j := j) (k := k) (l := l) (by omega) (by omega) hI0_1 (by omega) hI1_1 (by omega) (by omega) hI2_1 (by omega) (by omega) hI3_1 | exact rord_m (i := l) (by omega) (by unfold rmergeS; simp_all) | exact rord_c (i := k) (by omega) (by unfold rcellS; simp_all) | exact rord_h (i := j) (by omega) (by assumption) | exact rord_w (i := i) (by omega) (by assumption))), hS.fin [] (by decide) rfl⟩
     ·have _hC4 := trivial
      have hC4p : ¬ ((a0.Heights.getD j (0 : Int)) < 1) := by simpa using hC4
      refine C_skip ?_
      refine E_block_normal ?_
      refine E_then ?_
      refine C_region ?_
      refine W_cons rfl (by decide) (Sv_val rfl (R_move rfl rfl) ?_)
      refine W_cons rfl (by decide) (Sv_val rfl (R_add64 rfl rfl rfl (by omega) (by omega)) ?_)
      refine W_cons rfl (by decide) (Sv_val rfl (R_assign rfl rfl) ?_)
      refine W_nil ?_
      refine E_round [1, 4] ?_ ⟨(j + 1 : Nat), rfl, (by omega), (by exact any_step (p := (fun n => decide (n < 1))) 0 (by omega) hI1_1 (by simp_all)), rfl, hS.fin [0] (by decide) rfl⟩
      omega
    ·have _hC3 := trivial
     have hC3p : ¬ ((j : Int) < (a0.Heights.length : Int)) := by simpa using hC3
     refine C_exit ?_
     refine E_then_exit ?_
     refine E_then_exit ?_
     refine E_block_hit ?_
     refine E_then (C_fr [(1, .pointer (some ⟨b2, 0, none⟩))] rfl ?_)
     refine C_seq ?_
     refine C_seq ?_
     refine C_region ?_
     refine W_cons rfl (by decide) (Sv_val rfl (R_assign rfl rfl) ?_)
     refine W_nil ?_
     refine E_then ?_
     refine C_block ?_
     refine C_fr [(1, .pointer (some ⟨b2, 0, none⟩)), (5, .int .i64 0)] rfl ?_
     refine C_loop (fun m_ f_ w_ => ∃ (k : Nat), f_ = [(1, .pointer (some ⟨b2, 0, none⟩)), (5, .int .i64 (k : Int))] ∧ k ≤ a0.Cells.length ∧ (List.range k).any (rcellS a0) = false ∧ m_ = a0.Cells.length - k ∧ Sp (FF []) w z w_ [bR b2 39 [.int .i64 a0.Right, .slice Aa0_Widths a0.Widths.length ca0_Widths, .slice Aa0_Heights a0.Heights.length ca0_Heights, .slice Aa0_Cells a0.Cells.length ca0_Cells, .slice Aa0_Merges a0.Merges.length ca0_Merges]]) (a0.Cells.length - (0 : Nat)) ⟨(0 : Nat), rfl, (by omega), (by rfl), rfl, hS.fin [0] (by decide) rfl⟩ ?_
     rintro m_ f_ w17 ⟨k, rfl, hI2_0, hI2_1, rfl, hS⟩
     refine C_seq ?_
     refine C_seq ?_
     refine C_region ?_
     refine W_cons rfl (by decide) (Sv_val rfl (R_move rfl rfl) ?_)
     refine W_cons rfl (by decide) (Sv_val rfl (R_fld rfl rfl fld39_3) ?_)
     refine W_cons rfl (by decide) (Sv_val rfl (R_load1 rfl rfl agg36 ((hS.bx 0 rfl).cell rfl)) ?_)
     refine W_cons rfl (by decide) (Sv_val rfl (R_len rfl rfl Try.underlying36) ?_)
     refine W_cons rfl (by decide) (Sv_val rfl (R_bin rfl rfl rfl rfl rfl) ?_)
     refine W_nil ?_
     refine E_then ?_
     refine C_ite rfl (fun hC5 => ?_) (fun hC5 => ?_)
     ·have _hC5 := trivial
      have hC5p : (k : Int) < (a0.Cells.length : Int) := by simpa using hC5
      refine C_skip ?_
      refine E_then (C_fr [(1, .pointer (some ⟨b2, 0, none⟩)), (5, .int .i64 (k : Int))] rfl ?_)
      refine C_seq ?_
      refine C_block ?_
      refine C_seq ?_
      refine C_region ?_
      refine W_cons rfl (by decide) (Sv_val rfl (R_fld rfl rfl fld39_3) ?_)
      refine W_cons rfl (by decide) (Sv_val rfl (R_load1 rfl rfl agg36 ((hS.bx 0 rfl).cell rfl)) ?_)
      refine W_cons rfl (by decide) (Sv_val rfl (R_move rfl rfl) ?_)
      obtain ⟨q18, csq18, hAq18, rfl, hkq18⟩ := hra0_Cells.at_ (default : TCell) (i := (k : Int)) (by omega) (by omega)
      have hkq18 : ∀ (j_ : Nat) (u_ : Value), ([.int .i64 (a0.Cells.getD k (default : TCell)).Row, .int .i64 (a0.Cells.getD k (default : TCell)).Col, vstr (a0.Cells.getD k (default : TCell)).Text, .int .i64 (a0.Cells.getD k (default : TCell)).Style.Align, .int .i64 (a0.Cells.getD k (default : TCell)).Style.Wrap, .int .i64 (a0.Cells.getD k (default : TCell)).Style.Dir] : List Value)[j_]? = some u_ → cz z (q18.add (k * 6 + j_)) = some u_ := hkq18
      refine W_cons rfl (by decide) (Sv_val rfl (R_idx rfl rfl hAq18 rfl Try.underlying36 size46 (by omega) (by omega)) ?_)
      refine W_cons rfl (by decide) (Sv_val rfl (R_loadN (cs := [.int .i64 (a0.Cells.getD k (default : TCell)).Row, .int .i64 (a0.Cells.getD k (default : TCell)).Col, vstr (a0.Cells.getD k (default : TCell)).Text, .int .i64 (a0.Cells.getD k (default : TCell)).Style.Align, .int .i64 (a0.Cells.getD k (default : TCell)).Style.Wrap, .int .i64 (a0.Cells.getD k (default : TCell)).Style.Dir]) rfl rfl agg46 size46 rfl (fun j u h => cell_add (hS.sub.cell (hkq18 j u h)))) ?_)
      refine W_cons rfl (by decide) (S_box hS rfl (R_alloc rfl alloc46) (fun b20 w19 hS => ?_))
      refine W_cons0 rfl (S_store hS 0 rfl rfl rfl rfl rfl size46 (one_cons rfl (one_cons rfl (one_cons rfl (one_cons rfl (one_cons rfl (one_cons rfl one_nil)))))) (Nat.le_of_ble_eq_true rfl) (fun w21 hS => ?_))
      have hS : Sp (FF []) w z w21 [bR b20 46 [.int .i64 (a0.Cells.getD k (default : TCell)).Row, .int .i64 (a0.Cells.getD k (default : TCell)).Col, vstr (a0.Cells.getD k (default : TCell)).Text, .int .i64 (a0.Cells.getD k (default : TCell)).Style.Align, .int .i64 (a0.Cells.getD k (default : TCell)).Style.Wrap, .int .i64 (a0.Cells.getD k (default : TCell)).Style.Dir], bR b2 39 [.int .i64 a0.Right, .slice Aa0_Widths a0.Widths.length ca0_Widths, .slice Aa0_Heights a0.Heights.length ca0_Heights, .slice Aa0_Cells a0.Cells.length ca0_Cells, .slice Aa0_Merges a0.Merges.length ca0_Merges]] := hS
      refine W_nil ?_
      refine E_then (C_fr [(1, .pointer (some ⟨b2, 0, none⟩)), (5, .int .i64 (k : Int)), (6, .pointer (some ⟨b20, 0, none⟩))] rfl ?_)
      refine C_seq ?_
      rcases Bool.eq_false_or_eq_true (decide ((k : Int) > 0)) with hg22 | hg22
      ·have _hg22 := trivial
       have hg22p : (k : Int) > 0 := by simpa using hg22
       rcases Bool.eq_false_or_eq_true (!(raheadS (a0.Cells.getD ((k : Int) - 1).toNat (default : TCell)).Row (a0.Cells.getD ((k : Int) - 1).toNat (default : TCell)).Col (a0.Cells.getD k (default : TCell)).Row (a0.Cells.getD k (default : TCell)).Col)) with hg23 | hg23
       ·have _hg23 := trivial
        have hg23p : ¬ (raheadS (a0.Cells.getD ((k : Int) - 1).toNat (default : TCell)).Row (a0.Cells.getD ((k : Int) - 1).toNat (default : TCell)).Col (a0.Cells.getD k (default : TCell)).Row (a0.Cells.getD k (default : TCell)).Col = true) := by simpa using hg23
        refine C_fr [(1, .pointer (some ⟨b2, 0, none⟩)), (5, .int .i64 (k : Int)), (6, .pointer (some ⟨b20, 0, none⟩))] rfl ?_
        obtain ⟨q24, csq24, hAq24, rfl, hkq24⟩ := hra0_Cells.at_ (default : TCell) (i := ((k : Int) - 1)) (by omega) (by omega)
        obtain ⟨q25, csq25, hAq25, rfl, hkq25⟩ := hra0_Cells.at_ (default : TCell) (i := ((k : Int) - 1)) (by omega) (by omega)
        refine C_drawn2 53 [[], [0], [1], [2], [3, 2], [2], [5, 2], [4, 6, 2], [7, 2], [8, 2], [2], [10, 2], [2], [12, 2], [11, 13, 2], [14, 2], [15, 2], [2], [17, 2], [2], [19, 2], [9, 16, 18, 20, 2, 2], [21, 2], [2, 22], [23, 21], [24], [25, 24], [26, 24, 24], [27, 24], [24, 28], [29, 27], [30], [31, 30], [32, 30], [33, 30, 30], [34], [35, 34], [36, 34], [37, 34], [34, 38, 30], [39, 34, 30], [40], [41, 40], [42, 40], [43, 40], [40, 44, 30], [45, 40, 30], [46], [47, 46], [48, 46], [49, 46], [46, 50, 30], [30, 51]] [some 67, some 68, some 69, some 70, some 71, some 72, some 73, some 74, some 75, some 76, some 77, some 78, some 79, some 80, some 81, some 82, some 83, some 84, some 85, some 86, some 87, some 88, some 89, some 90, some 91, some 92, some 93, some 94, some 95, some 96, some 97, some 98, some 99, some 100, some 101, some 102, some 103, some 104, some 105, some 106, some 107, some 108, some 109, some 110, some 111, some 112, some 113, some 114, some 115, some 116, some 117, some 118, some 119] [1, 5, 6] (List.replicate 53 53) (List.replicate 53 []) (List.replicate 53 []) [fun γ_ => .int .i64 (k : Int), fun γ_ => .bool (decide ((k : Int) > 0)), fun γ_ => .bool (decide ((k : Int) > 0)), fun γ_ => .pointer (some ⟨b2, 3, none⟩), fun γ_ => .slice Aa0_Cells a0.Cells.length ca0_Cells, fun γ_ => .int .i64 (k : Int), fun γ_ => .int .i64 ((k : Int) - 1), fun γ_ => .pointer (some (q24.add (((k : Int) - 1).toNat * 6))), fun γ_ => .pointer (some ((q24.add (((k : Int) - 1).toNat * 6)).add 0)), fun γ_ => .int .i64 (a0.Cells.getD ((k : Int) - 1).toNat (default : TCell)).Row, fun γ_ => .pointer (some ⟨b2, 3, none⟩), fun γ_ => .slice Aa0_Cells a0.Cells.length ca0_Cells, fun γ_ => .int .i64 (k : Int), fun γ_ => .int .i64 ((k : Int) - 1), fun γ_ => .pointer (some (q25.add (((k : Int) - 1).toNat * 6))), fun γ_ => .pointer (some ((q25.add (((k : Int) - 1).toNat * 6)).add 1)), fun γ_ => .int .i64 (a0.Cells.getD ((k : Int) - 1).toNat (default : TCell)).Col, fun γ_ => .pointer (some ⟨b20, 0, none⟩), fun γ_ => .int .i64 (a0.Cells.getD k (default : TCell)).Row, fun γ_ => .pointer (some ⟨b20, 1, none⟩), fun γ_ => .int .i64 (a0.Cells.getD k (default : TCell)).Col, fun γ_ => .bool (raheadS (a0.Cells.getD ((k : Int) - 1).toNat (default : TCell)).Row (a0.Cells.getD ((k : Int) - 1).toNat (default : TCell)).Col (a0.Cells.getD k (default : TCell)).Row (a0.Cells.getD k (default : TCell)).Col), fun γ_ => .bool (!(raheadS (a0.Cells.getD ((k : Int) - 1).toNat (default : TCell)).Row (a0.Cells.getD ((k : Int) - 1).toNat (default : TCell)).Col (a0.Cells.getD k (default : TCell)).Row (a0.Cells.getD k (default : TCell)).Col)), fun γ_ => .bool (!(raheadS (a0.Cells.getD ((k : Int) - 1).toNat (default : TCell)).Row (a0.Cells.getD ((k : Int) - 1).toNat (default : TCell)).Col (a0.Cells.getD k (default : TCell)).Row (a0.Cells.getD k (default : TCell)).Col)), fun γ_ => .bool (!(raheadS (a0.Cells.getD ((k : Int) - 1).toNat (default : TCell)).Row (a0.Cells.getD ((k : Int) - 1).toNat (default : TCell)).Col (a0.Cells.getD k (default : TCell)).Row (a0.Cells.getD k (default : TCell)).Col)), fun γ_ => undef, fun γ_ => undef, fun γ_ => undef, fun γ_ => undef, fun γ_ => .bool true, fun γ_ => .bool true, fun γ_ => undef, fun γ_ => undef, fun γ_ => undef, fun γ_ => undef, fun γ_ => undef, fun γ_ => undef, fun γ_ => undef, fun γ_ => undef, fun γ_ => undef, fun γ_ => undef, fun γ_ => undef, fun γ_ => undef, fun γ_ => undef, fun γ_ => undef, fun γ_ => undef, fun γ_ => undef, fun γ_ => undef, fun γ_ => undef, fun γ_ => undef, fun γ_ => undef, fun γ_ => undef, fun γ_ => .bool true] (List.replicate 53 (fun _ => [])) rfl (by kernel_rfl) (by decide +kernel) hS ?_ ?_
        ·refine ⟨fun g_ w28 fr29 hS => Sv_val rfl (R_move rfl rfl) ⟨gh0, rfl, hS⟩, ?_⟩
         refine ⟨fun g_ w30 fr31 hS => Sv_val rfl (R_bin rfl rfl rfl rfl rfl) ⟨gh0, rfl, hS⟩, ?_⟩
         refine ⟨fun g_ w32 fr33 hS => Sv_val rfl (R_move rfl rfl) ⟨gh0, rfl, hS⟩, ?_⟩
         refine ⟨fun g_ w34 fr35 hS => (Sv_gt rfl rfl rfl hg22 (Sv_val rfl (R_fld rfl rfl fld39_3) ⟨gh0, rfl, hS⟩)), ?_⟩
         refine ⟨fun g_ w36 fr37 hS => (Sv_gt rfl rfl rfl hg22 (Sv_val rfl (R_load1 rfl rfl agg36 ((hS.bx 1 rfl).cell rfl)) ⟨gh0, rfl, hS⟩)), ?_⟩
         refine ⟨fun g_ w38 fr39 hS => (Sv_gt rfl rfl rfl hg22 (Sv_val rfl (R_move rfl rfl) ⟨gh0, rfl, hS⟩)), ?_⟩
         refine ⟨fun g_ w40 fr41 hS => (Sv_gt rfl rfl rfl hg22 (Sv_val rfl (R_sub64 rfl rfl rfl (by omega) (by omega)) ⟨gh0, rfl, hS⟩)), ?_⟩
         refine ⟨fun g_ w42 fr43 hS => (Sv_gt rfl rfl rfl hg22 (Sv_val rfl (R_idx rfl rfl hAq24 rfl Try.underlying36 size46 (by omega) (by omega)) ⟨gh0, rfl, hS⟩)), ?_⟩
         refine ⟨fun g_ w44 fr45 hS => (Sv_gt rfl rfl rfl hg22 (Sv_val rfl (R_fld rfl rfl fld46_0) ⟨gh0, rfl, hS⟩)), ?_⟩
         refine ⟨fun g_ w46 fr47 hS => (Sv_gt rfl rfl rfl hg22 (Sv_val rfl (R_load1 rfl rfl agg3 (cell_add (hS.sub.cell (hkq24 0 _ rfl)))) ⟨gh0, rfl, hS⟩)), ?_⟩
         refine ⟨fun g_ w48 fr49 hS => (Sv_gt rfl rfl rfl hg22 (Sv_val rfl (R_fld rfl rfl fld39_3) ⟨gh0, rfl, hS⟩)), ?_⟩
         refine ⟨fun g_ w50 fr51 hS => (Sv_gt rfl rfl rfl hg22 (Sv_val rfl (R_load1 rfl rfl agg36 ((hS.bx 1 rfl).cell rfl)) ⟨gh0, rfl, hS⟩)), ?_⟩
         refine ⟨fun g_ w52 fr53 hS => (Sv_gt rfl rfl rfl hg22 (Sv_val rfl (R_move rfl rfl) ⟨gh0, rfl, hS⟩)), ?_⟩
         refine ⟨fun g_ w54 fr55 hS => (Sv_gt rfl rfl rfl hg22 (Sv_val rfl (R_sub64 rfl rfl rfl (by omega) (by omega)) ⟨gh0, rfl, hS⟩)), ?_⟩
         refine ⟨fun g_ w56 fr57 hS => (Sv_gt rfl rfl rfl hg22 (Sv_val rfl (R_idx rfl rfl hAq25 rfl Try.underlying36 size46 (by omega) (by omega)) ⟨gh0, rfl, hS⟩)), ?_⟩
         refine ⟨fun g_ w58 fr59 hS => (Sv_gt rfl rfl rfl hg22 (Sv_val rfl (R_fld rfl rfl fld46_1) ⟨gh0, rfl, hS⟩)), ?_⟩
         refine ⟨fun g_ w60 fr61 hS => (Sv_gt rfl rfl rfl hg22 (Sv_val rfl (R_load1 rfl rfl agg3 (cell_add (hS.sub.cell (hkq25 1 _ rfl)))) ⟨gh0, rfl, hS⟩)), ?_⟩
         refine ⟨fun g_ w62 fr63 hS => (Sv_gt rfl rfl rfl hg22 (Sv_val rfl (R_fld rfl rfl fld46_0) ⟨gh0, rfl, hS⟩)), ?_⟩
         refine ⟨fun g_ w64 fr65 hS => (Sv_gt rfl rfl rfl hg22 (Sv_val rfl (R_load1 rfl rfl agg3 ((hS.bx 0 rfl).cell rfl)) ⟨gh0, rfl, hS⟩)), ?_⟩
         refine ⟨fun g_ w66 fr67 hS => (Sv_gt rfl rfl rfl hg22 (Sv_val rfl (R_fld rfl rfl fld46_1) ⟨gh0, rfl, hS⟩)), ?_⟩
         refine ⟨fun g_ w68 fr69 hS => (Sv_gt rfl rfl rfl hg22 (Sv_val rfl (R_load1 rfl rfl agg3 ((hS.bx 0 rfl).cell rfl)) ⟨gh0, rfl, hS⟩)), ?_⟩
         refine ⟨fun g_ w70 fr71 hS => ?_, ?_⟩
         ·have _w70 := trivial
          have hS : Sp (FF []) w z w70 [bR b20 46 [.int .i64 (a0.Cells.getD k (default : TCell)).Row, .int .i64 (a0.Cells.getD k (default : TCell)).Col, vstr (a0.Cells.getD k (default : TCell)).Text, .int .i64 (a0.Cells.getD k (default : TCell)).Style.Align, .int .i64 (a0.Cells.getD k (default : TCell)).Style.Wrap, .int .i64 (a0.Cells.getD k (default : TCell)).Style.Dir], bR b2 39 [.int .i64 a0.Right, .slice Aa0_Widths a0.Widths.length ca0_Widths, .slice Aa0_Heights a0.Heights.length ca0_Heights, .slice Aa0_Cells a0.Cells.length ca0_Cells, .slice Aa0_Merges a0.Merges.length ca0_Merges], allR fr71] := hS
          refine  (Sv_gt rfl rfl rfl hg22 (Sv_call rfl rfl rfl ent92 ?_))
          refine (rahead_calls (a0.Cells.getD ((k : Int) - 1).toNat (default : TCell)).Row (a0.Cells.getD ((k : Int) - 1).toNat (default : TCell)).Col (a0.Cells.getD k (default : TCell)).Row (a0.Cells.getD k (default : TCell)).Col _ _ hS.out0  ).mono ?_
          rintro e_ w72 ⟨rfl, hS_⟩
          refine ⟨_, rfl, ?_⟩
          have hS := hS.call0 hS_
          exact ⟨⟨fun _ => none, fun _ => 0, fun _ => zE, fun _ => 0⟩, rfl, hS.fin [0, 1, 2] (by decide) rfl⟩
         refine ⟨fun g_ w74 fr75 hS => (Sv_gt rfl rfl rfl hg22 (Sv_val rfl (R_un rfl rfl rfl) ⟨gh0, rfl, hS⟩)), ?_⟩
         refine ⟨fun g_ w76 fr77 hS => Sv_val rfl (R_pick_t rfl rfl hg22 rfl) ⟨gh0, rfl, hS⟩, ?_⟩
         refine ⟨fun g_ w78 fr79 hS => Sv_val rfl (R_move rfl rfl) ⟨gh0, rfl, hS⟩, ?_⟩
         refine ⟨fun g_ w80 fr81 hS => Sv_off rfl rfl rfl (by rw [hg23]; rfl) ⟨gh0, rfl, hS⟩, ?_⟩
         refine ⟨fun g_ w82 fr83 hS => Sv_off rfl rfl rfl (by rw [hg23]; rfl) ⟨gh0, rfl, hS⟩, ?_⟩
         refine ⟨fun g_ w84 fr85 hS => Sv_off rfl rfl rfl (by rw [hg23]; rfl) ⟨gh0, rfl, hS⟩, ?_⟩
         refine ⟨fun g_ w86 fr87 hS => Sv_off rfl rfl rfl (by rw [hg23]; rfl) ⟨gh0, rfl, hS⟩, ?_⟩
         refine ⟨fun g_ w88 fr89 hS => Sv_val rfl (R_pick_t rfl rfl hg23 rfl) ⟨gh0, rfl, hS⟩, ?_⟩
         refine ⟨fun g_ w90 fr91 hS => Sv_val rfl (R_move rfl rfl) ⟨gh0, rfl, hS⟩, ?_⟩
         refine ⟨fun g_ w92 fr93 hS => Sv_off rfl rfl rfl rfl ⟨gh0, rfl, hS⟩, ?_⟩
         refine ⟨fun g_ w94 fr95 hS => Sv_off rfl rfl rfl rfl ⟨gh0, rfl, hS⟩, ?_⟩
         refine ⟨fun g_ w96 fr97 hS => Sv_off rfl rfl rfl rfl ⟨gh0, rfl, hS⟩, ?_⟩
         refine ⟨fun g_ w98 fr99 hS => Sv_off rfl rfl rfl rfl ⟨gh0, rfl, hS⟩, ?_⟩
         refine ⟨fun g_ w100 fr101 hS => Sv_offu rfl rfl rfl ⟨gh0, rfl, hS⟩, ?_⟩
         refine ⟨fun g_ w102 fr103 hS => Sv_offu rfl rfl rfl ⟨gh0, rfl, hS⟩, ?_⟩
         refine ⟨fun g_ w104 fr105 hS => Sv_offu rfl rfl rfl ⟨gh0, rfl, hS⟩, ?_⟩
         refine ⟨fun g_ w106 fr107 hS => Sv_offu rfl rfl rfl ⟨gh0, rfl, hS⟩, ?_⟩
         refine ⟨fun g_ w108 fr109 hS => Sv_off rfl rfl rfl rfl ⟨gh0, rfl, hS⟩, ?_⟩
         refine ⟨fun g_ w110 fr111 hS => Sv_off rfl rfl rfl rfl ⟨gh0, rfl, hS⟩, ?_⟩
         refine ⟨fun g_ w112 fr113 hS => Sv_offu rfl rfl rfl ⟨gh0, rfl, hS⟩, ?_⟩
         refine ⟨fun g_ w114 fr115 hS => Sv_offu rfl rfl rfl ⟨gh0, rfl, hS⟩, ?_⟩
         refine ⟨fun g_ w116 fr117 hS => Sv_offu rfl rfl rfl ⟨gh0, rfl, hS⟩, ?_⟩
         refine ⟨fun g_ w118 fr119 hS => Sv_offu rfl rfl rfl ⟨gh0, rfl, hS⟩, ?_⟩
         refine ⟨fun g_ w120 fr121 hS => Sv_off rfl rfl rfl rfl ⟨gh0, rfl, hS⟩, ?_⟩
         refine ⟨fun g_ w122 fr123 hS => Sv_off rfl rfl rfl rfl ⟨gh0, rfl, hS⟩, ?_⟩
         refine ⟨fun g_ w124 fr125 hS => Sv_offu rfl rfl rfl ⟨gh0, rfl, hS⟩, ?_⟩
         refine ⟨fun g_ w126 fr127 hS => Sv_offu rfl rfl rfl ⟨gh0, rfl, hS⟩, ?_⟩
         refine ⟨fun g_ w128 fr129 hS => Sv_offu rfl rfl rfl ⟨gh0, rfl, hS⟩, ?_⟩
         refine ⟨fun g_ w130 fr131 hS => Sv_offu rfl rfl rfl ⟨gh0, rfl, hS⟩, ?_⟩
         refine ⟨fun g_ w132 fr133 hS => Sv_off rfl rfl rfl rfl ⟨gh0, rfl, hS⟩, ?_⟩
         refine ⟨fun g_ w134 fr135 hS => Sv_val rfl (R_pick_t rfl rfl rfl rfl) ⟨gh0, rfl, hS⟩, ?_⟩
         exact trivial
        ·intro g_ w136 hS
         have hS : Sp (FF []) w z w136 [bR b20 46 [.int .i64 (a0.Cells.getD k (default : TCell)).Row, .int .i64 (a0.Cells.getD k (default : TCell)).Col, vstr (a0.Cells.getD k (default : TCell)).Text, .int .i64 (a0.Cells.getD k (default : TCell)).Style.Align, .int .i64 (a0.Cells.getD k (default : TCell)).Style.Wrap, .int .i64 (a0.Cells.getD k (default : TCell)).Style.Dir], bR b2 39 [.int .i64 a0.Right, .slice Aa0_Widths a0.Widths.length ca0_Widths, .slice Aa0_Heights a0.Heights.length ca0_Heights, .slice Aa0_Cells a0.Cells.length ca0_Cells, .slice Aa0_Merges a0.Merges.length ca0_Merges]] := hS
         refine An_fr [(1, .pointer (some ⟨b2, 0, none⟩)), (5, .int .i64 (k : Int)), (6, .pointer (some ⟨b20, 0, none⟩)), (119, .bool true)] rfl ?_
         refine An_done (by decide +kernel) ?_
         refine E_then ?_
         refine C_if rfl rfl ?_
         refine C_seq ?_
         refine C_region ?_
         refine W_cons rfl (by decide) (Sv_val rfl (R_assign rfl rfl) ?_)
         refine W_nil ?_
         refine E_then ?_
         refine C_ret ?_
         refine E_block_ret ?_
         refine E_then_ret ?_
         refine E_then_ret ?_
         refine E_block_ret ?_
         refine E_then_ret ?_
         refine E_ret1 rfl rfl ?_
         exact ⟨Lret1 (Lbool (show false = (rorderS a0) by first | exact rord_top (by omega) | exact rord_ok (i := i) (j := j) (k := k) (l := l) (by omega) (by omega) hI0_1 (by omega) hI1_1 (by omega) (by omega) hI2_1 (by omega) (by omega) hI3_1 | exact rord_m (i := l) (by omega) (by unfold rmergeS; simp_all) | exact rord_c (i := k) (by omega) (by unfold rcellS; simp_all) | exact rord_h (i := j) (by omega) (by assumption) | exact rord_w (i := i) (by omega) (by assumption))), hS.fin [] (by decide) rfl⟩
       ·have _hg23 := trivial
        have hg23p : (raheadS (a0.Cells.getD ((k : Int) - 1).toNat (default : TCell)).Row (a0.Cells.getD ((k : Int) - 1).toNat (default : TCell)).Col (a0.Cells.getD k (default : TCell)).Row (a0.Cells.getD k (default : TCell)).Col = true) := by simpa using hg23
        rcases Bool.eq_false_or_eq_true (!(rstyledS (a0.Cells.getD k (default : TCell)).Style)) with hg138 | hg138
        ·have _hg138 := trivial
         have hg138p : ¬ (rstyledS (a0.Cells.getD k (default : TCell)).Style = true) := by simpa using hg138
         refine C_fr [(1, .pointer (some ⟨b2, 0, none⟩)), (5, .int .i64 (k : Int)), (6, .pointer (some ⟨b20, 0, none⟩))] rfl ?_
         obtain ⟨q139, csq139, hAq139, rfl, hkq139⟩ := hra0_Cells.at_ (default : TCell) (i := ((k : Int) - 1)) (by omega) (by omega)
         obtain ⟨q140, csq140, hAq140, rfl, hkq140⟩ := hra0_Cells.at_ (default : TCell) (i := ((k : Int) - 1)) (by omega) (by omega)
         refine C_drawn2 53 [[], [0], [1], [2], [3, 2], [2], [5, 2], [4, 6, 2], [7, 2], [8, 2], [2], [10, 2], [2], [12, 2], [11, 13, 2], [14, 2], [15, 2], [2], [17, 2], [2], [19, 2], [9, 16, 18, 20, 2, 2], [21, 2], [2, 22], [23, 21], [24], [25, 24], [26, 24, 24], [27, 24], [24, 28], [29, 27], [30], [31, 30], [32, 30], [33, 30, 30], [34], [35, 34], [36, 34], [37, 34], [34, 38, 30], [39, 34, 30], [40], [41, 40], [42, 40], [43, 40], [40, 44, 30], [45, 40, 30], [46], [47, 46], [48, 46], [49, 46], [46, 50, 30], [30, 51]] [some 67, some 68, some 69, some 70, some 71, some 72, some 73, some 74, some 75, some 76, some 77, some 78, some 79, some 80, some 81, some 82, some 83, some 84, some 85, some 86, some 87, some 88, some 89, some 90, some 91, some 92, some 93, some 94, some 95, some 96, some 97, some 98, some 99, some 100, some 101, some 102, some 103, some 104, some 105, some 106, some 107, some 108, some 109, some 110, some 111, some 112, some 113, some 114, some 115, some 116, some 117, some 118, some 119] [1, 5, 6] (List.replicate 53 53) (List.replicate 53 []) (List.replicate 53 []) [fun γ_ => .int .i64 (k : Int), fun γ_ => .bool (decide ((k : Int) > 0)), fun γ_ => .bool (decide ((k : Int) > 0)), fun γ_ => .pointer (some ⟨b2, 3, none⟩), fun γ_ => .slice Aa0_Cells a0.Cells.length ca0_Cells, fun γ_ => .int .i64 (k : Int), fun γ_ => .int .i64 ((k : Int) - 1), fun γ_ => .pointer (some (q139.add (((k : Int) - 1).toNat * 6))), fun γ_ => .pointer (some ((q139.add (((k : Int) - 1).toNat * 6)).add 0)), fun γ_ => .int .i64 (a0.Cells.getD ((k : Int) - 1).toNat (default : TCell)).Row, fun γ_ => .pointer (some ⟨b2, 3, none⟩), fun γ_ => .slice Aa0_Cells a0.Cells.length ca0_Cells, fun γ_ => .int .i64 (k : Int), fun γ_ => .int .i64 ((k : Int) - 1), fun γ_ => .pointer (some (q140.add (((k : Int) - 1).toNat * 6))), fun γ_ => .pointer (some ((q140.add (((k : Int) - 1).toNat * 6)).add 1)), fun γ_ => .int .i64 (a0.Cells.getD ((k : Int) - 1).toNat (default : TCell)).Col, fun γ_ => .pointer (some ⟨b20, 0, none⟩), fun γ_ => .int .i64 (a0.Cells.getD k (default : TCell)).Row, fun γ_ => .pointer (some ⟨b20, 1, none⟩), fun γ_ => .int .i64 (a0.Cells.getD k (default : TCell)).Col, fun γ_ => .bool (raheadS (a0.Cells.getD ((k : Int) - 1).toNat (default : TCell)).Row (a0.Cells.getD ((k : Int) - 1).toNat (default : TCell)).Col (a0.Cells.getD k (default : TCell)).Row (a0.Cells.getD k (default : TCell)).Col), fun γ_ => .bool (!(raheadS (a0.Cells.getD ((k : Int) - 1).toNat (default : TCell)).Row (a0.Cells.getD ((k : Int) - 1).toNat (default : TCell)).Col (a0.Cells.getD k (default : TCell)).Row (a0.Cells.getD k (default : TCell)).Col)), fun γ_ => .bool (!(raheadS (a0.Cells.getD ((k : Int) - 1).toNat (default : TCell)).Row (a0.Cells.getD ((k : Int) - 1).toNat (default : TCell)).Col (a0.Cells.getD k (default : TCell)).Row (a0.Cells.getD k (default : TCell)).Col)), fun γ_ => .bool (!(raheadS (a0.Cells.getD ((k : Int) - 1).toNat (default : TCell)).Row (a0.Cells.getD ((k : Int) - 1).toNat (default : TCell)).Col (a0.Cells.getD k (default : TCell)).Row (a0.Cells.getD k (default : TCell)).Col)), fun γ_ => .pointer (some ⟨b20, 3, none⟩), fun γ_ => .agg #[.int .i64 (a0.Cells.getD k (default : TCell)).Style.Align, .int .i64 (a0.Cells.getD k (default : TCell)).Style.Wrap, .int .i64 (a0.Cells.getD k (default : TCell)).Style.Dir], fun γ_ => .bool (rstyledS (a0.Cells.getD k (default : TCell)).Style), fun γ_ => .bool (!(rstyledS (a0.Cells.getD k (default : TCell)).Style)), fun γ_ => .bool (!(rstyledS (a0.Cells.getD k (default : TCell)).Style)), fun γ_ => .bool (!(rstyledS (a0.Cells.getD k (default : TCell)).Style)), fun γ_ => undef, fun γ_ => undef, fun γ_ => undef, fun γ_ => undef, fun γ_ => undef, fun γ_ => undef, fun γ_ => undef, fun γ_ => undef, fun γ_ => undef, fun γ_ => undef, fun γ_ => undef, fun γ_ => undef, fun γ_ => undef, fun γ_ => undef, fun γ_ => undef, fun γ_ => undef, fun γ_ => undef, fun γ_ => undef, fun γ_ => undef, fun γ_ => undef, fun γ_ => undef, fun γ_ => .bool true] (List.replicate 53 (fun _ => [])) rfl (by kernel_rfl) (by decide +kernel) hS ?_ ?_
         ·refine ⟨fun g_ w145 fr146 hS => Sv_val rfl (R_move rfl rfl) ⟨gh0, rfl, hS⟩, ?_⟩
          refine ⟨fun g_ w147 fr148 hS => Sv_val rfl (R_bin rfl rfl rfl rfl rfl) ⟨gh0, rfl, hS⟩, ?_⟩
          refine ⟨fun g_ w149 fr150 hS => Sv_val rfl (R_move rfl rfl) ⟨gh0, rfl, hS⟩, ?_⟩
          refine ⟨fun g_ w151 fr152 hS => (Sv_gt rfl rfl rfl hg22 (Sv_val rfl (R_fld rfl rfl fld39_3) ⟨gh0, rfl, hS⟩)), ?_⟩
          refine ⟨fun g_ w153 fr154 hS => (Sv_gt rfl rfl rfl hg22 (Sv_val rfl (R_load1 rfl rfl agg36 ((hS.bx 1 rfl).cell rfl)) ⟨gh0, rfl, hS⟩)), ?_⟩
          refine ⟨fun g_ w155 fr156 hS => (Sv_gt rfl rfl rfl hg22 (Sv_val rfl (R_move rfl rfl) ⟨gh0, rfl, hS⟩)), ?_⟩
          refine ⟨fun g_ w157 fr158 hS => (Sv_gt rfl rfl rfl hg22 (Sv_val rfl (R_sub64 rfl rfl rfl (by omega) (by omega)) ⟨gh0, rfl, hS⟩)), ?_⟩
          refine ⟨fun g_ w159 fr160 hS => (Sv_gt rfl rfl rfl hg22 (Sv_val rfl (R_idx rfl rfl hAq139 rfl Try.underlying36 size46 (by omega) (by omega)) ⟨gh0, rfl, hS⟩)), ?_⟩
          refine ⟨fun g_ w161 fr162 hS => (Sv_gt rfl rfl rfl hg22 (Sv_val rfl (R_fld rfl rfl fld46_0) ⟨gh0, rfl, hS⟩)), ?_⟩
          refine ⟨fun g_ w163 fr164 hS => (Sv_gt rfl rfl rfl hg22 (Sv_val rfl (R_load1 rfl rfl agg3 (cell_add (hS.sub.cell (hkq139 0 _ rfl)))) ⟨gh0, rfl, hS⟩)), ?_⟩
          refine ⟨fun g_ w165 fr166 hS => (Sv_gt rfl rfl rfl hg22 (Sv_val rfl (R_fld rfl rfl fld39_3) ⟨gh0, rfl, hS⟩)), ?_⟩
          refine ⟨fun g_ w167 fr168 hS => (Sv_gt rfl rfl rfl hg22 (Sv_val rfl (R_load1 rfl rfl agg36 ((hS.bx 1 rfl).cell rfl)) ⟨gh0, rfl, hS⟩)), ?_⟩
          refine ⟨fun g_ w169 fr170 hS => (Sv_gt rfl rfl rfl hg22 (Sv_val rfl (R_move rfl rfl) ⟨gh0, rfl, hS⟩)), ?_⟩
          refine ⟨fun g_ w171 fr172 hS => (Sv_gt rfl rfl rfl hg22 (Sv_val rfl (R_sub64 rfl rfl rfl (by omega) (by omega)) ⟨gh0, rfl, hS⟩)), ?_⟩
          refine ⟨fun g_ w173 fr174 hS => (Sv_gt rfl rfl rfl hg22 (Sv_val rfl (R_idx rfl rfl hAq140 rfl Try.underlying36 size46 (by omega) (by omega)) ⟨gh0, rfl, hS⟩)), ?_⟩
          refine ⟨fun g_ w175 fr176 hS => (Sv_gt rfl rfl rfl hg22 (Sv_val rfl (R_fld rfl rfl fld46_1) ⟨gh0, rfl, hS⟩)), ?_⟩
          refine ⟨fun g_ w177 fr178 hS => (Sv_gt rfl rfl rfl hg22 (Sv_val rfl (R_load1 rfl rfl agg3 (cell_add (hS.sub.cell (hkq140 1 _ rfl)))) ⟨gh0, rfl, hS⟩)), ?_⟩
          refine ⟨fun g_ w179 fr180 hS => (Sv_gt rfl rfl rfl hg22 (Sv_val rfl (R_fld rfl rfl fld46_0) ⟨gh0, rfl, hS⟩)), ?_⟩
          refine ⟨fun g_ w181 fr182 hS => (Sv_gt rfl rfl rfl hg22 (Sv_val rfl (R_load1 rfl rfl agg3 ((hS.bx 0 rfl).cell rfl)) ⟨gh0, rfl, hS⟩)), ?_⟩
          refine ⟨fun g_ w183 fr184 hS => (Sv_gt rfl rfl rfl hg22 (Sv_val rfl (R_fld rfl rfl fld46_1) ⟨gh0, rfl, hS⟩)), ?_⟩
          refine ⟨fun g_ w185 fr186 hS => (Sv_gt rfl rfl rfl hg22 (Sv_val rfl (R_load1 rfl rfl agg3 ((hS.bx 0 rfl).cell rfl)) ⟨gh0, rfl, hS⟩)), ?_⟩
          refine ⟨fun g_ w187 fr188 hS => ?_, ?_⟩
          ·have _w187 := trivial
           have hS : Sp (FF []) w z w187 [bR b20 46 [.int .i64 (a0.Cells.getD k (default : TCell)).Row, .int .i64 (a0.Cells.getD k (default : TCell)).Col, vstr (a0.Cells.getD k (default : TCell)).Text, .int .i64 (a0.Cells.getD k (default : TCell)).Style.Align, .int .i64 (a0.Cells.getD k (default : TCell)).Style.Wrap, .int .i64 (a0.Cells.getD k (default : TCell)).Style.Dir], bR b2 39 [.int .i64 a0.Right, .slice Aa0_Widths a0.Widths.length ca0_Widths, .slice Aa0_Heights a0.Heights.length ca0_Heights, .slice Aa0_Cells a0.Cells.length ca0_Cells, .slice Aa0_Merges a0.Merges.length ca0_Merges], allR fr188] := hS
           refine  (Sv_gt rfl rfl rfl hg22 (Sv_call rfl rfl rfl ent92 ?_))
           refine (rahead_calls (a0.Cells.getD ((k : Int) - 1).toNat (default : TCell)).Row (a0.Cells.getD ((k : Int) - 1).toNat (default : TCell)).Col (a0.Cells.getD k (default : TCell)).Row (a0.Cells.getD k (default : TCell)).Col _ _ hS.out0  ).mono ?_
           rintro e_ w189 ⟨rfl, hS_⟩
           refine ⟨_, rfl, ?_⟩
           have hS := hS.call0 hS_
           exact ⟨⟨fun _ => none, fun _ => 0, fun _ => zE, fun _ => 0⟩, rfl, hS.fin [0, 1, 2] (by decide) rfl⟩
          refine ⟨fun g_ w191 fr192 hS => (Sv_gt rfl rfl rfl hg22 (Sv_val rfl (R_un rfl rfl rfl) ⟨gh0, rfl, hS⟩)), ?_⟩
          refine ⟨fun g_ w193 fr194 hS => Sv_val rfl (R_pick_t rfl rfl hg22 rfl) ⟨gh0, rfl, hS⟩, ?_⟩
          refine ⟨fun g_ w195 fr196 hS => Sv_val rfl (R_move rfl rfl) ⟨gh0, rfl, hS⟩, ?_⟩
          refine ⟨fun g_ w197 fr198 hS => (Sv_gt rfl rfl rfl hg23 (Sv_val rfl (R_fld rfl rfl fld46_3) ⟨gh0, rfl, hS⟩)), ?_⟩
          refine ⟨fun g_ w199 fr200 hS => (Sv_gt rfl rfl rfl hg23 (Sv_val rfl (R_loadN (cs := [.int .i64 (a0.Cells.getD k (default : TCell)).Style.Align, .int .i64 (a0.Cells.getD k (default : TCell)).Style.Wrap, .int .i64 (a0.Cells.getD k (default : TCell)).Style.Dir]) rfl rfl agg44 size44 rfl (boxcells (hS.bx 0 rfl) 3 rfl)) ⟨gh0, rfl, hS⟩)), ?_⟩
          refine ⟨fun g_ w201 fr202 hS => ?_, ?_⟩
          ·have _w201 := trivial
           have hS : Sp (FF []) w z w201 [bR b20 46 [.int .i64 (a0.Cells.getD k (default : TCell)).Row, .int .i64 (a0.Cells.getD k (default : TCell)).Col, vstr (a0.Cells.getD k (default : TCell)).Text, .int .i64 (a0.Cells.getD k (default : TCell)).Style.Align, .int .i64 (a0.Cells.getD k (default : TCell)).Style.Wrap, .int .i64 (a0.Cells.getD k (default : TCell)).Style.Dir], bR b2 39 [.int .i64 a0.Right, .slice Aa0_Widths a0.Widths.length ca0_Widths, .slice Aa0_Heights a0.Heights.length ca0_Heights, .slice Aa0_Cells a0.Cells.length ca0_Cells, .slice Aa0_Merges a0.Merges.length ca0_Merges], allR fr202] := hS
           refine  (Sv_gt rfl rfl rfl hg23 (Sv_call rfl rfl rfl ent93 ?_))
           refine (rstyled_calls (a0.Cells.getD k (default : TCell)).Style _ _ hS.out0  ).mono ?_
           rintro e_ w203 ⟨rfl, hS_⟩
           refine ⟨_, rfl, ?_⟩
           have hS := hS.call0 hS_
           exact ⟨⟨fun _ => none, fun _ => 0, fun _ => zE, fun _ => 0⟩, rfl, hS.fin [0, 1, 2] (by decide) rfl⟩
          refine ⟨fun g_ w205 fr206 hS => (Sv_gt rfl rfl rfl hg23 (Sv_val rfl (R_un rfl rfl rfl) ⟨gh0, rfl, hS⟩)), ?_⟩
          refine ⟨fun g_ w207 fr208 hS => Sv_val rfl (R_pick_f rfl rfl hg23 rfl) ⟨gh0, rfl, hS⟩, ?_⟩
          refine ⟨fun g_ w209 fr210 hS => Sv_val rfl (R_move rfl rfl) ⟨gh0, rfl, hS⟩, ?_⟩
          refine ⟨fun g_ w211 fr212 hS => Sv_off rfl rfl rfl (by rw [hg138]; rfl) ⟨gh0, rfl, hS⟩, ?_⟩
          refine ⟨fun g_ w213 fr214 hS => Sv_off rfl rfl rfl (by rw [hg138]; rfl) ⟨gh0, rfl, hS⟩, ?_⟩
          refine ⟨fun g_ w215 fr216 hS => Sv_off rfl rfl rfl (by rw [hg138]; rfl) ⟨gh0, rfl, hS⟩, ?_⟩
          refine ⟨fun g_ w217 fr218 hS => Sv_off rfl rfl rfl (by rw [hg138]; rfl) ⟨gh0, rfl, hS⟩, ?_⟩
          refine ⟨fun g_ w219 fr220 hS => Sv_offu rfl rfl rfl ⟨gh0, rfl, hS⟩, ?_⟩
          refine ⟨fun g_ w221 fr222 hS => Sv_offu rfl rfl rfl ⟨gh0, rfl, hS⟩, ?_⟩
          refine ⟨fun g_ w223 fr224 hS => Sv_offu rfl rfl rfl ⟨gh0, rfl, hS⟩, ?_⟩
          refine ⟨fun g_ w225 fr226 hS => Sv_offu rfl rfl rfl ⟨gh0, rfl, hS⟩, ?_⟩
          refine ⟨fun g_ w227 fr228 hS => Sv_off rfl rfl rfl (by rw [hg138]; rfl) ⟨gh0, rfl, hS⟩, ?_⟩
          refine ⟨fun g_ w229 fr230 hS => Sv_off rfl rfl rfl (by rw [hg138]; rfl) ⟨gh0, rfl, hS⟩, ?_⟩
          refine ⟨fun g_ w231 fr232 hS => Sv_offu rfl rfl rfl ⟨gh0, rfl, hS⟩, ?_⟩
          refine ⟨fun g_ w233 fr234 hS => Sv_offu rfl rfl rfl ⟨gh0, rfl, hS⟩, ?_⟩
          refine ⟨fun g_ w235 fr236 hS => Sv_offu rfl rfl rfl ⟨gh0, rfl, hS⟩, ?_⟩
          refine ⟨fun g_ w237 fr238 hS => Sv_offu rfl rfl rfl ⟨gh0, rfl, hS⟩, ?_⟩
          refine ⟨fun g_ w239 fr240 hS => Sv_off rfl rfl rfl (by rw [hg138]; rfl) ⟨gh0, rfl, hS⟩, ?_⟩
          refine ⟨fun g_ w241 fr242 hS => Sv_off rfl rfl rfl (by rw [hg138]; rfl) ⟨gh0, rfl, hS⟩, ?_⟩
          refine ⟨fun g_ w243 fr244 hS => Sv_offu rfl rfl rfl ⟨gh0, rfl, hS⟩, ?_⟩
          refine ⟨fun g_ w245 fr246 hS => Sv_offu rfl rfl rfl ⟨gh0, rfl, hS⟩, ?_⟩
          refine ⟨fun g_ w247 fr248 hS => Sv_offu rfl rfl rfl ⟨gh0, rfl, hS⟩, ?_⟩
          refine ⟨fun g_ w249 fr250 hS => Sv_offu rfl rfl rfl ⟨gh0, rfl, hS⟩, ?_⟩
          refine ⟨fun g_ w251 fr252 hS => Sv_off rfl rfl rfl (by rw [hg138]; rfl) ⟨gh0, rfl, hS⟩, ?_⟩
          refine ⟨fun g_ w253 fr254 hS => Sv_val rfl (R_pick_t rfl rfl hg138 rfl) ⟨gh0, rfl, hS⟩, ?_⟩
          exact trivial
         ·intro g_ w255 hS
          have hS : Sp (FF []) w z w255 [bR b20 46 [.int .i64 (a0.Cells.getD k (default : TCell)).Row, .int .i64 (a0.Cells.getD k (default : TCell)).Col, vstr (a0.Cells.getD k (default : TCell)).Text, .int .i64 (a0.Cells.getD k (default : TCell)).Style.Align, .int .i64 (a0.Cells.getD k (default : TCell)).Style.Wrap, .int .i64 (a0.Cells.getD k (default : TCell)).Style.Dir], bR b2 39 [.int .i64 a0.Right, .slice Aa0_Widths a0.Widths.length ca0_Widths, .slice Aa0_Heights a0.Heights.length ca0_Heights, .slice Aa0_Cells a0.Cells.length ca0_Cells, .slice Aa0_Merges a0.Merges.length ca0_Merges]] := hS
          refine An_fr [(1, .pointer (some ⟨b2, 0, none⟩)), (5, .int .i64 (k : Int)), (6, .pointer (some ⟨b20, 0, none⟩)), (119, .bool true)] rfl ?_
          refine An_done (by decide +kernel) ?_
          refine E_then ?_
          refine C_if rfl rfl ?_
          refine C_seq ?_
          refine C_region ?_
          refine W_cons rfl (by decide) (Sv_val rfl (R_assign rfl rfl) ?_)
          refine W_nil ?_
          refine E_then ?_
          refine C_ret ?_
          refine E_block_ret ?_
          refine E_then_ret ?_
          refine E_then_ret ?_
          refine E_block_ret ?_
          refine E_then_ret ?_
          refine E_ret1 rfl rfl ?_
          exact ⟨Lret1 (Lbool (show false = (rorderS a0) by first | exact rord_top (by omega) | exact rord_ok (i := i) (j := j) (k := k) (l := l) (by omega) (by omega) hI0_1 (by omega) hI1_1 (by omega) (by omega) hI2_1 (by omega) (by omega) hI3_1 | exact rord_m (i := l) (by omega) (by unfold rmergeS; simp_all) | exact rord_c (i := k) (by omega) (by unfold rcellS; simp_all) | exact rord_h (i := j) (by omega) (by assumption) | exact rord_w (i := i) (by omega) (by assumption))), hS.fin [] (by decide) rfl⟩
        ·have _hg138 := trivial
         have hg138p : (rstyledS (a0.Cells.getD k (default : TCell)).Style = true) := by simpa using hg138
         rcases Bool.eq_false_or_eq_true (decide ((a0.Cells.getD k (default : TCell)).Text = [])) with hg257 | hg257
         ·have _hg257 := trivial
          have hg257p : (a0.Cells.getD k (default : TCell)).Text = [] := by simpa using hg257
          rcases Bool.eq_false_or_eq_true ((a0.Cells.getD k (default : TCell)).Style.Align == 0) with hg258 | hg258
          ·have _hg258 := trivial
           have hg258p : (a0.Cells.getD k (default : TCell)).Style.Align = 0 := by simpa using hg258
           rcases Bool.eq_false_or_eq_true ((a0.Cells.getD k (default : TCell)).Style.Wrap == 0) with hg259 | hg259
           ·have _hg259 := trivial
            have hg259p : (a0.Cells.getD k (default : TCell)).Style.Wrap = 0 := by simpa using hg259
            refine C_fr [(1, .pointer (some ⟨b2, 0, none⟩)), (5, .int .i64 (k : Int)), (6, .pointer (some ⟨b20, 0, none⟩))] rfl ?_
            obtain ⟨q260, csq260, hAq260, rfl, hkq260⟩ := hra0_Cells.at_ (default : TCell) (i := ((k : Int) - 1)) (by omega) (by omega)
            obtain ⟨q261, csq261, hAq261, rfl, hkq261⟩ := hra0_Cells.at_ (default : TCell) (i := ((k : Int) - 1)) (by omega) (by omega)
            refine C_drawn2 53 [[], [0], [1], [2], [3, 2], [2], [5, 2], [4, 6, 2], [7, 2], [8, 2], [2], [10, 2], [2], [12, 2], [11, 13, 2], [14, 2], [15, 2], [2], [17, 2], [2], [19, 2], [9, 16, 18, 20, 2, 2], [21, 2], [2, 22], [23, 21], [24], [25, 24], [26, 24, 24], [27, 24], [24, 28], [29, 27], [30], [31, 30], [32, 30], [33, 30, 30], [34], [35, 34], [36, 34], [37, 34], [34, 38, 30], [39, 34, 30], [40], [41, 40], [42, 40], [43, 40], [40, 44, 30], [45, 40, 30], [46], [47, 46], [48, 46], [49, 46], [46, 50, 30], [30, 51]] [some 67, some 68, some 69, some 70, some 71, some 72, some 73, some 74, some 75, some 76, some 77, some 78, some 79, some 80, some 81, some 82, some 83, some 84, some 85, some 86, some 87, some 88, some 89, some 90, some 91, some 92, some 93, some 94, some 95, some 96, some 97, some 98, some 99, some 100, some 101, some 102, some 103, some 104, some 105, some 106, some 107, some 108, some 109, some 110, some 111, some 112, some 113, some 114, some 115, some 116, some 117, some 118, some 119] [1, 5, 6] (List.replicate 53 53) (List.replicate 53 []) (List.replicate 53 []) [fun γ_ => .int .i64 (k : Int), fun γ_ => .bool (decide ((k : Int) > 0)), fun γ_ => .bool (decide ((k : Int) > 0)), fun γ_ => .pointer (some ⟨b2, 3, none⟩), fun γ_ => .slice Aa0_Cells a0.Cells.length ca0_Cells, fun γ_ => .int .i64 (k : Int), fun γ_ => .int .i64 ((k : Int) - 1), fun γ_ => .pointer (some (q260.add (((k : Int) - 1).toNat * 6))), fun γ_ => .pointer (some ((q260.add (((k : Int) - 1).toNat * 6)).add 0)), fun γ_ => .int .i64 (a0.Cells.getD ((k : Int) - 1).toNat (default : TCell)).Row, fun γ_ => .pointer (some ⟨b2, 3, none⟩), fun γ_ => .slice Aa0_Cells a0.Cells.length ca0_Cells, fun γ_ => .int .i64 (k : Int), fun γ_ => .int .i64 ((k : Int) - 1), fun γ_ => .pointer (some (q261.add (((k : Int) - 1).toNat * 6))), fun γ_ => .pointer (some ((q261.add (((k : Int) - 1).toNat * 6)).add 1)), fun γ_ => .int .i64 (a0.Cells.getD ((k : Int) - 1).toNat (default : TCell)).Col, fun γ_ => .pointer (some ⟨b20, 0, none⟩), fun γ_ => .int .i64 (a0.Cells.getD k (default : TCell)).Row, fun γ_ => .pointer (some ⟨b20, 1, none⟩), fun γ_ => .int .i64 (a0.Cells.getD k (default : TCell)).Col, fun γ_ => .bool (raheadS (a0.Cells.getD ((k : Int) - 1).toNat (default : TCell)).Row (a0.Cells.getD ((k : Int) - 1).toNat (default : TCell)).Col (a0.Cells.getD k (default : TCell)).Row (a0.Cells.getD k (default : TCell)).Col), fun γ_ => .bool (!(raheadS (a0.Cells.getD ((k : Int) - 1).toNat (default : TCell)).Row (a0.Cells.getD ((k : Int) - 1).toNat (default : TCell)).Col (a0.Cells.getD k (default : TCell)).Row (a0.Cells.getD k (default : TCell)).Col)), fun γ_ => .bool (!(raheadS (a0.Cells.getD ((k : Int) - 1).toNat (default : TCell)).Row (a0.Cells.getD ((k : Int) - 1).toNat (default : TCell)).Col (a0.Cells.getD k (default : TCell)).Row (a0.Cells.getD k (default : TCell)).Col)), fun γ_ => .bool (!(raheadS (a0.Cells.getD ((k : Int) - 1).toNat (default : TCell)).Row (a0.Cells.getD ((k : Int) - 1).toNat (default : TCell)).Col (a0.Cells.getD k (default : TCell)).Row (a0.Cells.getD k (default : TCell)).Col)), fun γ_ => .pointer (some ⟨b20, 3, none⟩), fun γ_ => .agg #[.int .i64 (a0.Cells.getD k (default : TCell)).Style.Align, .int .i64 (a0.Cells.getD k (default : TCell)).Style.Wrap, .int .i64 (a0.Cells.getD k (default : TCell)).Style.Dir], fun γ_ => .bool (rstyledS (a0.Cells.getD k (default : TCell)).Style), fun γ_ => .bool (!(rstyledS (a0.Cells.getD k (default : TCell)).Style)), fun γ_ => .bool (!(rstyledS (a0.Cells.getD k (default : TCell)).Style)), fun γ_ => .bool (!(rstyledS (a0.Cells.getD k (default : TCell)).Style)), fun γ_ => .pointer (some ⟨b20, 2, none⟩), fun γ_ => vstr (a0.Cells.getD k (default : TCell)).Text, fun γ_ => .bool (decide ((a0.Cells.getD k (default : TCell)).Text = [])), fun γ_ => .bool (decide ((a0.Cells.getD k (default : TCell)).Text = [])), fun γ_ => .pointer (some ⟨b20, 3, none⟩), fun γ_ => .pointer (some ⟨b20, 3, none⟩), fun γ_ => .int .i64 (a0.Cells.getD k (default : TCell)).Style.Align, fun γ_ => .bool ((a0.Cells.getD k (default : TCell)).Style.Align == 0), fun γ_ => .bool ((a0.Cells.getD k (default : TCell)).Style.Align == 0), fun γ_ => .bool ((a0.Cells.getD k (default : TCell)).Style.Align == 0), fun γ_ => .pointer (some ⟨b20, 3, none⟩), fun γ_ => .pointer (some ⟨b20, 4, none⟩), fun γ_ => .int .i64 (a0.Cells.getD k (default : TCell)).Style.Wrap, fun γ_ => .bool ((a0.Cells.getD k (default : TCell)).Style.Wrap == 0), fun γ_ => .bool ((a0.Cells.getD k (default : TCell)).Style.Wrap == 0), fun γ_ => .bool ((a0.Cells.getD k (default : TCell)).Style.Wrap == 0), fun γ_ => .pointer (some ⟨b20, 3, none⟩), fun γ_ => .pointer (some ⟨b20, 5, none⟩), fun γ_ => .int .i64 (a0.Cells.getD k (default : TCell)).Style.Dir, fun γ_ => .bool ((a0.Cells.getD k (default : TCell)).Style.Dir == 0), fun γ_ => .bool ((a0.Cells.getD k (default : TCell)).Style.Dir == 0), fun γ_ => .bool ((a0.Cells.getD k (default : TCell)).Style.Dir == 0)] (List.replicate 53 (fun _ => [])) rfl (by kernel_rfl) (by decide +kernel) hS ?_ ?_
            ·refine ⟨fun g_ w266 fr267 hS => Sv_val rfl (R_move rfl rfl) ⟨gh0, rfl, hS⟩, ?_⟩
             refine ⟨fun g_ w268 fr269 hS => Sv_val rfl (R_bin rfl rfl rfl rfl rfl) ⟨gh0, rfl, hS⟩, ?_⟩
             refine ⟨fun g_ w270 fr271 hS => Sv_val rfl (R_move rfl rfl) ⟨gh0, rfl, hS⟩, ?_⟩
             refine ⟨fun g_ w272 fr273 hS => (Sv_gt rfl rfl rfl hg22 (Sv_val rfl (R_fld rfl rfl fld39_3) ⟨gh0, rfl, hS⟩)), ?_⟩
             refine ⟨fun g_ w274 fr275 hS => (Sv_gt rfl rfl rfl hg22 (Sv_val rfl (R_load1 rfl rfl agg36 ((hS.bx 1 rfl).cell rfl)) ⟨gh0, rfl, hS⟩)), ?_⟩
             refine ⟨fun g_ w276 fr277 hS => (Sv_gt rfl rfl rfl hg22 (Sv_val rfl (R_move rfl rfl) ⟨gh0, rfl, hS⟩)), ?_⟩
             refine ⟨fun g_ w278 fr279 hS => (Sv_gt rfl rfl rfl hg22 (Sv_val rfl (R_sub64 rfl rfl rfl (by omega) (by omega)) ⟨gh0, rfl, hS⟩)), ?_⟩
             refine ⟨fun g_ w280 fr281 hS => (Sv_gt rfl rfl rfl hg22 (Sv_val rfl (R_idx rfl rfl hAq260 rfl Try.underlying36 size46 (by omega) (by omega)) ⟨gh0, rfl, hS⟩)), ?_⟩
             refine ⟨fun g_ w282 fr283 hS => (Sv_gt rfl rfl rfl hg22 (Sv_val rfl (R_fld rfl rfl fld46_0) ⟨gh0, rfl, hS⟩)), ?_⟩
             refine ⟨fun g_ w284 fr285 hS => (Sv_gt rfl rfl rfl hg22 (Sv_val rfl (R_load1 rfl rfl agg3 (cell_add (hS.sub.cell (hkq260 0 _ rfl)))) ⟨gh0, rfl, hS⟩)), ?_⟩
             refine ⟨fun g_ w286 fr287 hS => (Sv_gt rfl rfl rfl hg22 (Sv_val rfl (R_fld rfl rfl fld39_3) ⟨gh0, rfl, hS⟩)), ?_⟩
             refine ⟨fun g_ w288 fr289 hS => (Sv_gt rfl rfl rfl hg22 (Sv_val rfl (R_load1 rfl rfl agg36 ((hS.bx 1 rfl).cell rfl)) ⟨gh0, rfl, hS⟩)), ?_⟩
             refine ⟨fun g_ w290 fr291 hS => (Sv_gt rfl rfl rfl hg22 (Sv_val rfl (R_move rfl rfl) ⟨gh0, rfl, hS⟩)), ?_⟩
             refine ⟨fun g_ w292 fr293 hS => (Sv_gt rfl rfl rfl hg22 (Sv_val rfl (R_sub64 rfl rfl rfl (by omega) (by omega)) ⟨gh0, rfl, hS⟩)), ?_⟩
             refine ⟨fun g_ w294 fr295 hS => (Sv_gt rfl rfl rfl hg22 (Sv_val rfl (R_idx rfl rfl hAq261 rfl Try.underlying36 size46 (by omega) (by omega)) ⟨gh0, rfl, hS⟩)), ?_⟩
             refine ⟨fun g_ w296 fr297 hS => (Sv_gt rfl rfl rfl hg22 (Sv_val rfl (R_fld rfl rfl fld46_1) ⟨gh0, rfl, hS⟩)), ?_⟩
             refine ⟨fun g_ w298 fr299 hS => (Sv_gt rfl rfl rfl hg22 (Sv_val rfl (R_load1 rfl rfl agg3 (cell_add (hS.sub.cell (hkq261 1 _ rfl)))) ⟨gh0, rfl, hS⟩)), ?_⟩
             refine ⟨fun g_ w300 fr301 hS => (Sv_gt rfl rfl rfl hg22 (Sv_val rfl (R_fld rfl rfl fld46_0) ⟨gh0, rfl, hS⟩)), ?_⟩
             refine ⟨fun g_ w302 fr303 hS => (Sv_gt rfl rfl rfl hg22 (Sv_val rfl (R_load1 rfl rfl agg3 ((hS.bx 0 rfl).cell rfl)) ⟨gh0, rfl, hS⟩)), ?_⟩
             refine ⟨fun g_ w304 fr305 hS => (Sv_gt rfl rfl rfl hg22 (Sv_val rfl (R_fld rfl rfl fld46_1) ⟨gh0, rfl, hS⟩)), ?_⟩
             refine ⟨fun g_ w306 fr307 hS => (Sv_gt rfl rfl rfl hg22 (Sv_val rfl (R_load1 rfl rfl agg3 ((hS.bx 0 rfl).cell rfl)) ⟨gh0, rfl, hS⟩)), ?_⟩
             refine ⟨fun g_ w308 fr309 hS => ?_, ?_⟩
             ·have _w308 := trivial
              have hS : Sp (FF []) w z w308 [bR b20 46 [.int .i64 (a0.Cells.getD k (default : TCell)).Row, .int .i64 (a0.Cells.getD k (default : TCell)).Col, vstr (a0.Cells.getD k (default : TCell)).Text, .int .i64 (a0.Cells.getD k (default : TCell)).Style.Align, .int .i64 (a0.Cells.getD k (default : TCell)).Style.Wrap, .int .i64 (a0.Cells.getD k (default : TCell)).Style.Dir], bR b2 39 [.int .i64 a0.Right, .slice Aa0_Widths a0.Widths.length ca0_Widths, .slice Aa0_Heights a0.Heights.length ca0_Heights, .slice Aa0_Cells a0.Cells.length ca0_Cells, .slice Aa0_Merges a0.Merges.length ca0_Merges], allR fr309] := hS
              refine  (Sv_gt rfl rfl rfl hg22 (Sv_call rfl rfl rfl ent92 ?_))
              refine (rahead_calls (a0.Cells.getD ((k : Int) - 1).toNat (default : TCell)).Row (a0.Cells.getD ((k : Int) - 1).toNat (default : TCell)).Col (a0.Cells.getD k (default : TCell)).Row (a0.Cells.getD k (default : TCell)).Col _ _ hS.out0  ).mono ?_
              rintro e_ w310 ⟨rfl, hS_⟩
              refine ⟨_, rfl, ?_⟩
              have hS := hS.call0 hS_
              exact ⟨⟨fun _ => none, fun _ => 0, fun _ => zE, fun _ => 0⟩, rfl, hS.fin [0, 1, 2] (by decide) rfl⟩
             refine ⟨fun g_ w312 fr313 hS => (Sv_gt rfl rfl rfl hg22 (Sv_val rfl (R_un rfl rfl rfl) ⟨gh0, rfl, hS⟩)), ?_⟩
             refine ⟨fun g_ w314 fr315 hS => Sv_val rfl (R_pick_t rfl rfl hg22 rfl) ⟨gh0, rfl, hS⟩, ?_⟩
             refine ⟨fun g_ w316 fr317 hS => Sv_val rfl (R_move rfl rfl) ⟨gh0, rfl, hS⟩, ?_⟩
             refine ⟨fun g_ w318 fr319 hS => (Sv_gt rfl rfl rfl hg23 (Sv_val rfl (R_fld rfl rfl fld46_3) ⟨gh0, rfl, hS⟩)), ?_⟩
             refine ⟨fun g_ w320 fr321 hS => (Sv_gt rfl rfl rfl hg23 (Sv_val rfl (R_loadN (cs := [.int .i64 (a0.Cells.getD k (default : TCell)).Style.Align, .int .i64 (a0.Cells.getD k (default : TCell)).Style.Wrap, .int .i64 (a0.Cells.getD k (default : TCell)).Style.Dir]) rfl rfl agg44 size44 rfl (boxcells (hS.bx 0 rfl) 3 rfl)) ⟨gh0, rfl, hS⟩)), ?_⟩
             refine ⟨fun g_ w322 fr323 hS => ?_, ?_⟩
             ·have _w322 := trivial
              have hS : Sp (FF []) w z w322 [bR b20 46 [.int .i64 (a0.Cells.getD k (default : TCell)).Row, .int .i64 (a0.Cells.getD k (default : TCell)).Col, vstr (a0.Cells.getD k (default : TCell)).Text, .int .i64 (a0.Cells.getD k (default : TCell)).Style.Align, .int .i64 (a0.Cells.getD k (default : TCell)).Style.Wrap, .int .i64 (a0.Cells.getD k (default : TCell)).Style.Dir], bR b2 39 [.int .i64 a0.Right, .slice Aa0_Widths a0.Widths.length ca0_Widths, .slice Aa0_Heights a0.Heights.length ca0_Heights, .slice Aa0_Cells a0.Cells.length ca0_Cells, .slice Aa0_Merges a0.Merges.length ca0_Merges], allR fr323] := hS
              refine  (Sv_gt rfl rfl rfl hg23 (Sv_call rfl rfl rfl ent93 ?_))
              refine (rstyled_calls (a0.Cells.getD k (default : TCell)).Style _ _ hS.out0  ).mono ?_
              rintro e_ w324 ⟨rfl, hS_⟩
              refine ⟨_, rfl, ?_⟩
              have hS := hS.call0 hS_
              exact ⟨⟨fun _ => none, fun _ => 0, fun _ => zE, fun _ => 0⟩, rfl, hS.fin [0, 1, 2] (by decide) rfl⟩
             refine ⟨fun g_ w326 fr327 hS => (Sv_gt rfl rfl rfl hg23 (Sv_val rfl (R_un rfl rfl rfl) ⟨gh0, rfl, hS⟩)), ?_⟩
             refine ⟨fun g_ w328 fr329 hS => Sv_val rfl (R_pick_f rfl rfl hg23 rfl) ⟨gh0, rfl, hS⟩, ?_⟩
             refine ⟨fun g_ w330 fr331 hS => Sv_val rfl (R_move rfl rfl) ⟨gh0, rfl, hS⟩, ?_⟩
             refine ⟨fun g_ w332 fr333 hS => (Sv_gt rfl rfl rfl hg138 (Sv_val rfl (R_fld rfl rfl fld46_2) ⟨gh0, rfl, hS⟩)), ?_⟩
             refine ⟨fun g_ w334 fr335 hS => (Sv_gt rfl rfl rfl hg138 (Sv_val rfl (R_load1 rfl rfl agg9 ((hS.bx 0 rfl).cell rfl)) ⟨gh0, rfl, hS⟩)), ?_⟩
             refine ⟨fun g_ w336 fr337 hS => (Sv_gt rfl rfl rfl hg138 (Sv_val rfl (R_streql rfl rfl rfl) ⟨gh0, rfl, hS⟩)), ?_⟩
             refine ⟨fun g_ w338 fr339 hS => (Sv_gt rfl rfl rfl hg138 (Sv_val rfl (R_move rfl rfl) ⟨gh0, rfl, hS⟩)), ?_⟩
             refine ⟨fun g_ w340 fr341 hS => (Sv_gt rfl rfl rfl hg257 (Sv_val rfl (R_fld rfl rfl fld46_3) ⟨gh0, rfl, hS⟩)), ?_⟩
             refine ⟨fun g_ w342 fr343 hS => (Sv_gt rfl rfl rfl hg257 (Sv_val rfl (R_fld rfl rfl fld44_0) ⟨gh0, rfl, hS⟩)), ?_⟩
             refine ⟨fun g_ w344 fr345 hS => (Sv_gt rfl rfl rfl hg257 (Sv_val rfl (R_load1 rfl rfl agg3 ((hS.bx 0 rfl).cell rfl)) ⟨gh0, rfl, hS⟩)), ?_⟩
             refine ⟨fun g_ w346 fr347 hS => (Sv_gt rfl rfl rfl hg257 (Sv_val rfl (R_bin rfl rfl rfl rfl rfl) ⟨gh0, rfl, hS⟩)), ?_⟩
             refine ⟨fun g_ w348 fr349 hS => (Sv_gt rfl rfl rfl hg138 (Sv_val rfl (R_pick_t rfl rfl hg257 rfl) ⟨gh0, rfl, hS⟩)), ?_⟩
             refine ⟨fun g_ w350 fr351 hS => (Sv_gt rfl rfl rfl hg138 (Sv_val rfl (R_move rfl rfl) ⟨gh0, rfl, hS⟩)), ?_⟩
             refine ⟨fun g_ w352 fr353 hS => (Sv_gt rfl rfl rfl hg258 (Sv_val rfl (R_fld rfl rfl fld46_3) ⟨gh0, rfl, hS⟩)), ?_⟩
             refine ⟨fun g_ w354 fr355 hS => (Sv_gt rfl rfl rfl hg258 (Sv_val rfl (R_fld rfl rfl fld44_1) ⟨gh0, rfl, hS⟩)), ?_⟩
             refine ⟨fun g_ w356 fr357 hS => (Sv_gt rfl rfl rfl hg258 (Sv_val rfl (R_load1 rfl rfl agg3 ((hS.bx 0 rfl).cell rfl)) ⟨gh0, rfl, hS⟩)), ?_⟩
             refine ⟨fun g_ w358 fr359 hS => (Sv_gt rfl rfl rfl hg258 (Sv_val rfl (R_bin rfl rfl rfl rfl rfl) ⟨gh0, rfl, hS⟩)), ?_⟩
             refine ⟨fun g_ w360 fr361 hS => (Sv_gt rfl rfl rfl hg138 (Sv_val rfl (R_pick_t rfl rfl hg258 rfl) ⟨gh0, rfl, hS⟩)), ?_⟩
             refine ⟨fun g_ w362 fr363 hS => (Sv_gt rfl rfl rfl hg138 (Sv_val rfl (R_move rfl rfl) ⟨gh0, rfl, hS⟩)), ?_⟩
             refine ⟨fun g_ w364 fr365 hS => (Sv_gt rfl rfl rfl hg259 (Sv_val rfl (R_fld rfl rfl fld46_3) ⟨gh0, rfl, hS⟩)), ?_⟩
             refine ⟨fun g_ w366 fr367 hS => (Sv_gt rfl rfl rfl hg259 (Sv_val rfl (R_fld rfl rfl fld44_2) ⟨gh0, rfl, hS⟩)), ?_⟩
             refine ⟨fun g_ w368 fr369 hS => (Sv_gt rfl rfl rfl hg259 (Sv_val rfl (R_load1 rfl rfl agg3 ((hS.bx 0 rfl).cell rfl)) ⟨gh0, rfl, hS⟩)), ?_⟩
             refine ⟨fun g_ w370 fr371 hS => (Sv_gt rfl rfl rfl hg259 (Sv_val rfl (R_bin rfl rfl rfl rfl rfl) ⟨gh0, rfl, hS⟩)), ?_⟩
             refine ⟨fun g_ w372 fr373 hS => (Sv_gt rfl rfl rfl hg138 (Sv_val rfl (R_pick_t rfl rfl hg259 rfl) ⟨gh0, rfl, hS⟩)), ?_⟩
             refine ⟨fun g_ w374 fr375 hS => Sv_val rfl (R_pick_f rfl rfl hg138 rfl) ⟨gh0, rfl, hS⟩, ?_⟩
             exact trivial
            ·intro g_ w376 hS
             have hS : Sp (FF []) w z w376 [bR b20 46 [.int .i64 (a0.Cells.getD k (default : TCell)).Row, .int .i64 (a0.Cells.getD k (default : TCell)).Col, vstr (a0.Cells.getD k (default : TCell)).Text, .int .i64 (a0.Cells.getD k (default : TCell)).Style.Align, .int .i64 (a0.Cells.getD k (default : TCell)).Style.Wrap, .int .i64 (a0.Cells.getD k (default : TCell)).Style.Dir], bR b2 39 [.int .i64 a0.Right, .slice Aa0_Widths a0.Widths.length ca0_Widths, .slice Aa0_Heights a0.Heights.length ca0_Heights, .slice Aa0_Cells a0.Cells.length ca0_Cells, .slice Aa0_Merges a0.Merges.length ca0_Merges]] := hS
             refine An_fr [(1, .pointer (some ⟨b2, 0, none⟩)), (5, .int .i64 (k : Int)), (6, .pointer (some ⟨b20, 0, none⟩)), (119, .bool ((a0.Cells.getD k (default : TCell)).Style.Dir == 0))] rfl ?_
             refine An_done (by decide +kernel) ?_
             refine E_then ?_
             refine C_ite rfl (fun hC6 => ?_) (fun hC6 => ?_)
             ·have _hC6 := trivial
              have hC6p : (a0.Cells.getD k (default : TCell)).Style.Dir = 0 := by simpa using hC6
              refine C_seq ?_
              refine C_region ?_
              refine W_cons rfl (by decide) (Sv_val rfl (R_assign rfl rfl) ?_)
              refine W_nil ?_
              refine E_then ?_
              refine C_ret ?_
              refine E_block_ret ?_
              refine E_then_ret ?_
              refine E_then_ret ?_
              refine E_block_ret ?_
              refine E_then_ret ?_
              refine E_ret1 rfl rfl ?_
              exact ⟨Lret1 (Lbool (show false = (rorderS a0) by first | exact rord_top (by omega) | exact rord_ok (i := i) (j := j) (k := k) (l := l) (by omega) (by omega) hI0_1 (by omega) hI1_1 (by omega) (by omega) hI2_1 (by omega) (by omega) hI3_1 | exact rord_m (i := l) (by omega) (by unfold rmergeS; simp_all) | exact rord_c (i := k) (by omega) (by unfold rcellS; simp_all) | exact rord_h (i := j) (by omega) (by assumption) | exact rord_w (i := i) (by omega) (by assumption))), hS.fin [] (by decide) rfl⟩
             ·have _hC6 := trivial
              have hC6p : ¬ ((a0.Cells.getD k (default : TCell)).Style.Dir = 0) := by simpa using hC6
              refine C_skip ?_
              refine E_block_normal ?_
              refine E_then ?_
              refine C_region ?_
              refine W_cons rfl (by decide) (Sv_val rfl (R_move rfl rfl) ?_)
              refine W_cons rfl (by decide) (Sv_val rfl (R_add64 rfl rfl rfl (by omega) (by omega)) ?_)
              refine W_cons rfl (by decide) (Sv_val rfl (R_assign rfl rfl) ?_)
              refine W_nil ?_
              refine E_round [1, 5] ?_ ⟨(k + 1 : Nat), rfl, (by omega), (by exact range_any_next hI2_1 (by simp_all [rcellS])), rfl, hS.fin [1] (by decide) rfl⟩
              omega
           ·have _hg259 := trivial
            have hg259p : ¬ ((a0.Cells.getD k (default : TCell)).Style.Wrap = 0) := by simpa using hg259
            refine C_fr [(1, .pointer (some ⟨b2, 0, none⟩)), (5, .int .i64 (k : Int)), (6, .pointer (some ⟨b20, 0, none⟩))] rfl ?_
            obtain ⟨q378, csq378, hAq378, rfl, hkq378⟩ := hra0_Cells.at_ (default : TCell) (i := ((k : Int) - 1)) (by omega) (by omega)
            obtain ⟨q379, csq379, hAq379, rfl, hkq379⟩ := hra0_Cells.at_ (default : TCell) (i := ((k : Int) - 1)) (by omega) (by omega)
            refine C_drawn2 53 [[], [0], [1], [2], [3, 2], [2], [5, 2], [4, 6, 2], [7, 2], [8, 2], [2], [10, 2], [2], [12, 2], [11, 13, 2], [14, 2], [15, 2], [2], [17, 2], [2], [19, 2], [9, 16, 18, 20, 2, 2], [21, 2], [2, 22], [23, 21], [24], [25, 24], [26, 24, 24], [27, 24], [24, 28], [29, 27], [30], [31, 30], [32, 30], [33, 30, 30], [34], [35, 34], [36, 34], [37, 34], [34, 38, 30], [39, 34, 30], [40], [41, 40], [42, 40], [43, 40], [40, 44, 30], [45, 40, 30], [46], [47, 46], [48, 46], [49, 46], [46, 50, 30], [30, 51]] [some 67, some 68, some 69, some 70, some 71, some 72, some 73, some 74, some 75, some 76, some 77, some 78, some 79, some 80, some 81, some 82, some 83, some 84, some 85, some 86, some 87, some 88, some 89, some 90, some 91, some 92, some 93, some 94, some 95, some 96, some 97, some 98, some 99, some 100, some 101, some 102, some 103, some 104, some 105, some 106, some 107, some 108, some 109, some 110, some 111, some 112, some 113, some 114, some 115, some 116, some 117, some 118, some 119] [1, 5, 6] (List.replicate 53 53) (List.replicate 53 []) (List.replicate 53 []) [fun γ_ => .int .i64 (k : Int), fun γ_ => .bool (decide ((k : Int) > 0)), fun γ_ => .bool (decide ((k : Int) > 0)), fun γ_ => .pointer (some ⟨b2, 3, none⟩), fun γ_ => .slice Aa0_Cells a0.Cells.length ca0_Cells, fun γ_ => .int .i64 (k : Int), fun γ_ => .int .i64 ((k : Int) - 1), fun γ_ => .pointer (some (q378.add (((k : Int) - 1).toNat * 6))), fun γ_ => .pointer (some ((q378.add (((k : Int) - 1).toNat * 6)).add 0)), fun γ_ => .int .i64 (a0.Cells.getD ((k : Int) - 1).toNat (default : TCell)).Row, fun γ_ => .pointer (some ⟨b2, 3, none⟩), fun γ_ => .slice Aa0_Cells a0.Cells.length ca0_Cells, fun γ_ => .int .i64 (k : Int), fun γ_ => .int .i64 ((k : Int) - 1), fun γ_ => .pointer (some (q379.add (((k : Int) - 1).toNat * 6))), fun γ_ => .pointer (some ((q379.add (((k : Int) - 1).toNat * 6)).add 1)), fun γ_ => .int .i64 (a0.Cells.getD ((k : Int) - 1).toNat (default : TCell)).Col, fun γ_ => .pointer (some ⟨b20, 0, none⟩), fun γ_ => .int .i64 (a0.Cells.getD k (default : TCell)).Row, fun γ_ => .pointer (some ⟨b20, 1, none⟩), fun γ_ => .int .i64 (a0.Cells.getD k (default : TCell)).Col, fun γ_ => .bool (raheadS (a0.Cells.getD ((k : Int) - 1).toNat (default : TCell)).Row (a0.Cells.getD ((k : Int) - 1).toNat (default : TCell)).Col (a0.Cells.getD k (default : TCell)).Row (a0.Cells.getD k (default : TCell)).Col), fun γ_ => .bool (!(raheadS (a0.Cells.getD ((k : Int) - 1).toNat (default : TCell)).Row (a0.Cells.getD ((k : Int) - 1).toNat (default : TCell)).Col (a0.Cells.getD k (default : TCell)).Row (a0.Cells.getD k (default : TCell)).Col)), fun γ_ => .bool (!(raheadS (a0.Cells.getD ((k : Int) - 1).toNat (default : TCell)).Row (a0.Cells.getD ((k : Int) - 1).toNat (default : TCell)).Col (a0.Cells.getD k (default : TCell)).Row (a0.Cells.getD k (default : TCell)).Col)), fun γ_ => .bool (!(raheadS (a0.Cells.getD ((k : Int) - 1).toNat (default : TCell)).Row (a0.Cells.getD ((k : Int) - 1).toNat (default : TCell)).Col (a0.Cells.getD k (default : TCell)).Row (a0.Cells.getD k (default : TCell)).Col)), fun γ_ => .pointer (some ⟨b20, 3, none⟩), fun γ_ => .agg #[.int .i64 (a0.Cells.getD k (default : TCell)).Style.Align, .int .i64 (a0.Cells.getD k (default : TCell)).Style.Wrap, .int .i64 (a0.Cells.getD k (default : TCell)).Style.Dir], fun γ_ => .bool (rstyledS (a0.Cells.getD k (default : TCell)).Style), fun γ_ => .bool (!(rstyledS (a0.Cells.getD k (default : TCell)).Style)), fun γ_ => .bool (!(rstyledS (a0.Cells.getD k (default : TCell)).Style)), fun γ_ => .bool (!(rstyledS (a0.Cells.getD k (default : TCell)).Style)), fun γ_ => .pointer (some ⟨b20, 2, none⟩), fun γ_ => vstr (a0.Cells.getD k (default : TCell)).Text, fun γ_ => .bool (decide ((a0.Cells.getD k (default : TCell)).Text = [])), fun γ_ => .bool (decide ((a0.Cells.getD k (default : TCell)).Text = [])), fun γ_ => .pointer (some ⟨b20, 3, none⟩), fun γ_ => .pointer (some ⟨b20, 3, none⟩), fun γ_ => .int .i64 (a0.Cells.getD k (default : TCell)).Style.Align, fun γ_ => .bool ((a0.Cells.getD k (default : TCell)).Style.Align == 0), fun γ_ => .bool ((a0.Cells.getD k (default : TCell)).Style.Align == 0), fun γ_ => .bool ((a0.Cells.getD k (default : TCell)).Style.Align == 0), fun γ_ => .pointer (some ⟨b20, 3, none⟩), fun γ_ => .pointer (some ⟨b20, 4, none⟩), fun γ_ => .int .i64 (a0.Cells.getD k (default : TCell)).Style.Wrap, fun γ_ => .bool ((a0.Cells.getD k (default : TCell)).Style.Wrap == 0), fun γ_ => .bool ((a0.Cells.getD k (default : TCell)).Style.Wrap == 0), fun γ_ => .bool ((a0.Cells.getD k (default : TCell)).Style.Wrap == 0), fun γ_ => undef, fun γ_ => undef, fun γ_ => undef, fun γ_ => undef, fun γ_ => .bool false, fun γ_ => .bool false] (List.replicate 53 (fun _ => [])) rfl (by kernel_rfl) (by decide +kernel) hS ?_ ?_
            ·refine ⟨fun g_ w384 fr385 hS => Sv_val rfl (R_move rfl rfl) ⟨gh0, rfl, hS⟩, ?_⟩
             refine ⟨fun g_ w386 fr387 hS => Sv_val rfl (R_bin rfl rfl rfl rfl rfl) ⟨gh0, rfl, hS⟩, ?_⟩
             refine ⟨fun g_ w388 fr389 hS => Sv_val rfl (R_move rfl rfl) ⟨gh0, rfl, hS⟩, ?_⟩
             refine ⟨fun g_ w390 fr391 hS => (Sv_gt rfl rfl rfl hg22 (Sv_val rfl (R_fld rfl rfl fld39_3) ⟨gh0, rfl, hS⟩)), ?_⟩
             refine ⟨fun g_ w392 fr393 hS => (Sv_gt rfl rfl rfl hg22 (Sv_val rfl (R_load1 rfl rfl agg36 ((hS.bx 1 rfl).cell rfl)) ⟨gh0, rfl, hS⟩)), ?_⟩
             refine ⟨fun g_ w394 fr395 hS => (Sv_gt rfl rfl rfl hg22 (Sv_val rfl (R_move rfl rfl) ⟨gh0, rfl, hS⟩)), ?_⟩
             refine ⟨fun g_ w396 fr397 hS => (Sv_gt rfl rfl rfl hg22 (Sv_val rfl (R_sub64 rfl rfl rfl (by omega) (by omega)) ⟨gh0, rfl, hS⟩)), ?_⟩
             refine ⟨fun g_ w398 fr399 hS => (Sv_gt rfl rfl rfl hg22 (Sv_val rfl (R_idx rfl rfl hAq378 rfl Try.underlying36 size46 (by omega) (by omega)) ⟨gh0, rfl, hS⟩)), ?_⟩
             refine ⟨fun g_ w400 fr401 hS => (Sv_gt rfl rfl rfl hg22 (Sv_val rfl (R_fld rfl rfl fld46_0) ⟨gh0, rfl, hS⟩)), ?_⟩
             refine ⟨fun g_ w402 fr403 hS => (Sv_gt rfl rfl rfl hg22 (Sv_val rfl (R_load1 rfl rfl agg3 (cell_add (hS.sub.cell (hkq378 0 _ rfl)))) ⟨gh0, rfl, hS⟩)), ?_⟩
             refine ⟨fun g_ w404 fr405 hS => (Sv_gt rfl rfl rfl hg22 (Sv_val rfl (R_fld rfl rfl fld39_3) ⟨gh0, rfl, hS⟩)), ?_⟩
             refine ⟨fun g_ w406 fr407 hS => (Sv_gt rfl rfl rfl hg22 (Sv_val rfl (R_load1 rfl rfl agg36 ((hS.bx 1 rfl).cell rfl)) ⟨gh0, rfl, hS⟩)), ?_⟩
             refine ⟨fun g_ w408 fr409 hS => (Sv_gt rfl rfl rfl hg22 (Sv_val rfl (R_move rfl rfl) ⟨gh0, rfl, hS⟩)), ?_⟩
             refine ⟨fun g_ w410 fr411 hS => (Sv_gt rfl rfl rfl hg22 (Sv_val rfl (R_sub64 rfl rfl rfl (by omega) (by omega)) ⟨gh0, rfl, hS⟩)), ?_⟩
             refine ⟨fun g_ w412 fr413 hS => (Sv_gt rfl rfl rfl hg22 (Sv_val rfl (R_idx rfl rfl hAq379 rfl Try.underlying36 size46 (by omega) (by omega)) ⟨gh0, rfl, hS⟩)), ?_⟩
             refine ⟨fun g_ w414 fr415 hS => (Sv_gt rfl rfl rfl hg22 (Sv_val rfl (R_fld rfl rfl fld46_1) ⟨gh0, rfl, hS⟩)), ?_⟩
             refine ⟨fun g_ w416 fr417 hS => (Sv_gt rfl rfl rfl hg22 (Sv_val rfl (R_load1 rfl rfl agg3 (cell_add (hS.sub.cell (hkq379 1 _ rfl)))) ⟨gh0, rfl, hS⟩)), ?_⟩
             refine ⟨fun g_ w418 fr419 hS => (Sv_gt rfl rfl rfl hg22 (Sv_val rfl (R_fld rfl rfl fld46_0) ⟨gh0, rfl, hS⟩)), ?_⟩
             refine ⟨fun g_ w420 fr421 hS => (Sv_gt rfl rfl rfl hg22 (Sv_val rfl (R_load1 rfl rfl agg3 ((hS.bx 0 rfl).cell rfl)) ⟨gh0, rfl, hS⟩)), ?_⟩
             refine ⟨fun g_ w422 fr423 hS => (Sv_gt rfl rfl rfl hg22 (Sv_val rfl (R_fld rfl rfl fld46_1) ⟨gh0, rfl, hS⟩)), ?_⟩
             refine ⟨fun g_ w424 fr425 hS => (Sv_gt rfl rfl rfl hg22 (Sv_val rfl (R_load1 rfl rfl agg3 ((hS.bx 0 rfl).cell rfl)) ⟨gh0, rfl, hS⟩)), ?_⟩
             refine ⟨fun g_ w426 fr427 hS => ?_, ?_⟩
             ·have _w426 := trivial
              have hS : Sp (FF []) w z w426 [bR b20 46 [.int .i64 (a0.Cells.getD k (default : TCell)).Row, .int .i64 (a0.Cells.getD k (default : TCell)).Col, vstr (a0.Cells.getD k (default : TCell)).Text, .int .i64 (a0.Cells.getD k (default : TCell)).Style.Align, .int .i64 (a0.Cells.getD k (default : TCell)).Style.Wrap, .int .i64 (a0.Cells.getD k (default : TCell)).Style.Dir], bR b2 39 [.int .i64 a0.Right, .slice Aa0_Widths a0.Widths.length ca0_Widths, .slice Aa0_Heights a0.Heights.length ca0_Heights, .slice Aa0_Cells a0.Cells.length ca0_Cells, .slice Aa0_Merges a0.Merges.length ca0_Merges], allR fr427] := hS
              refine  (Sv_gt rfl rfl rfl hg22 (Sv_call rfl rfl rfl ent92 ?_))
              refine (rahead_calls (a0.Cells.getD ((k : Int) - 1).toNat (default : TCell)).Row (a0.Cells.getD ((k : Int) - 1).toNat (default : TCell)).Col (a0.Cells.getD k (default : TCell)).Row (a0.Cells.getD k (default : TCell)).Col _ _ hS.out0  ).mono ?_
              rintro e_ w428 ⟨rfl, hS_⟩
              refine ⟨_, rfl, ?_⟩
              have hS := hS.call0 hS_
              exact ⟨⟨fun _ => none, fun _ => 0, fun _ => zE, fun _ => 0⟩, rfl, hS.fin [0, 1, 2] (by decide) rfl⟩
             refine ⟨fun g_ w430 fr431 hS => (Sv_gt rfl rfl rfl hg22 (Sv_val rfl (R_un rfl rfl rfl) ⟨gh0, rfl, hS⟩)), ?_⟩
             refine ⟨fun g_ w432 fr433 hS => Sv_val rfl (R_pick_t rfl rfl hg22 rfl) ⟨gh0, rfl, hS⟩, ?_⟩
             refine ⟨fun g_ w434 fr435 hS => Sv_val rfl (R_move rfl rfl) ⟨gh0, rfl, hS⟩, ?_⟩
             refine ⟨fun g_ w436 fr437 hS => (Sv_gt rfl rfl rfl hg23 (Sv_val rfl (R_fld rfl rfl fld46_3) ⟨gh0, rfl, hS⟩)), ?_⟩
             refine ⟨fun g_ w438 fr439 hS => (Sv_gt rfl rfl rfl hg23 (Sv_val rfl (R_loadN (cs := [.int .i64 (a0.Cells.getD k (default : TCell)).Style.Align, .int .i64 (a0.Cells.getD k (default : TCell)).Style.Wrap, .int .i64 (a0.Cells.getD k (default : TCell)).Style.Dir]) rfl rfl agg44 size44 rfl (boxcells (hS.bx 0 rfl) 3 rfl)) ⟨gh0, rfl, hS⟩)), ?_⟩
             refine ⟨fun g_ w440 fr441 hS => ?_, ?_⟩
             ·have _w440 := trivial
              have hS : Sp (FF []) w z w440 [bR b20 46 [.int .i64 (a0.Cells.getD k (default : TCell)).Row, .int .i64 (a0.Cells.getD k (default : TCell)).Col, vstr (a0.Cells.getD k (default : TCell)).Text, .int .i64 (a0.Cells.getD k (default : TCell)).Style.Align, .int .i64 (a0.Cells.getD k (default : TCell)).Style.Wrap, .int .i64 (a0.Cells.getD k (default : TCell)).Style.Dir], bR b2 39 [.int .i64 a0.Right, .slice Aa0_Widths a0.Widths.length ca0_Widths, .slice Aa0_Heights a0.Heights.length ca0_Heights, .slice Aa0_Cells a0.Cells.length ca0_Cells, .slice Aa0_Merges a0.Merges.length ca0_Merges], allR fr441] := hS
              refine  (Sv_gt rfl rfl rfl hg23 (Sv_call rfl rfl rfl ent93 ?_))
              refine (rstyled_calls (a0.Cells.getD k (default : TCell)).Style _ _ hS.out0  ).mono ?_
              rintro e_ w442 ⟨rfl, hS_⟩
              refine ⟨_, rfl, ?_⟩
              have hS := hS.call0 hS_
              exact ⟨⟨fun _ => none, fun _ => 0, fun _ => zE, fun _ => 0⟩, rfl, hS.fin [0, 1, 2] (by decide) rfl⟩
             refine ⟨fun g_ w444 fr445 hS => (Sv_gt rfl rfl rfl hg23 (Sv_val rfl (R_un rfl rfl rfl) ⟨gh0, rfl, hS⟩)), ?_⟩
             refine ⟨fun g_ w446 fr447 hS => Sv_val rfl (R_pick_f rfl rfl hg23 rfl) ⟨gh0, rfl, hS⟩, ?_⟩
             refine ⟨fun g_ w448 fr449 hS => Sv_val rfl (R_move rfl rfl) ⟨gh0, rfl, hS⟩, ?_⟩
             refine ⟨fun g_ w450 fr451 hS => (Sv_gt rfl rfl rfl hg138 (Sv_val rfl (R_fld rfl rfl fld46_2) ⟨gh0, rfl, hS⟩)), ?_⟩
             refine ⟨fun g_ w452 fr453 hS => (Sv_gt rfl rfl rfl hg138 (Sv_val rfl (R_load1 rfl rfl agg9 ((hS.bx 0 rfl).cell rfl)) ⟨gh0, rfl, hS⟩)), ?_⟩
             refine ⟨fun g_ w454 fr455 hS => (Sv_gt rfl rfl rfl hg138 (Sv_val rfl (R_streql rfl rfl rfl) ⟨gh0, rfl, hS⟩)), ?_⟩
             refine ⟨fun g_ w456 fr457 hS => (Sv_gt rfl rfl rfl hg138 (Sv_val rfl (R_move rfl rfl) ⟨gh0, rfl, hS⟩)), ?_⟩
             refine ⟨fun g_ w458 fr459 hS => (Sv_gt rfl rfl rfl hg257 (Sv_val rfl (R_fld rfl rfl fld46_3) ⟨gh0, rfl, hS⟩)), ?_⟩
             refine ⟨fun g_ w460 fr461 hS => (Sv_gt rfl rfl rfl hg257 (Sv_val rfl (R_fld rfl rfl fld44_0) ⟨gh0, rfl, hS⟩)), ?_⟩
             refine ⟨fun g_ w462 fr463 hS => (Sv_gt rfl rfl rfl hg257 (Sv_val rfl (R_load1 rfl rfl agg3 ((hS.bx 0 rfl).cell rfl)) ⟨gh0, rfl, hS⟩)), ?_⟩
             refine ⟨fun g_ w464 fr465 hS => (Sv_gt rfl rfl rfl hg257 (Sv_val rfl (R_bin rfl rfl rfl rfl rfl) ⟨gh0, rfl, hS⟩)), ?_⟩
             refine ⟨fun g_ w466 fr467 hS => (Sv_gt rfl rfl rfl hg138 (Sv_val rfl (R_pick_t rfl rfl hg257 rfl) ⟨gh0, rfl, hS⟩)), ?_⟩
             refine ⟨fun g_ w468 fr469 hS => (Sv_gt rfl rfl rfl hg138 (Sv_val rfl (R_move rfl rfl) ⟨gh0, rfl, hS⟩)), ?_⟩
             refine ⟨fun g_ w470 fr471 hS => (Sv_gt rfl rfl rfl hg258 (Sv_val rfl (R_fld rfl rfl fld46_3) ⟨gh0, rfl, hS⟩)), ?_⟩
             refine ⟨fun g_ w472 fr473 hS => (Sv_gt rfl rfl rfl hg258 (Sv_val rfl (R_fld rfl rfl fld44_1) ⟨gh0, rfl, hS⟩)), ?_⟩
             refine ⟨fun g_ w474 fr475 hS => (Sv_gt rfl rfl rfl hg258 (Sv_val rfl (R_load1 rfl rfl agg3 ((hS.bx 0 rfl).cell rfl)) ⟨gh0, rfl, hS⟩)), ?_⟩
             refine ⟨fun g_ w476 fr477 hS => (Sv_gt rfl rfl rfl hg258 (Sv_val rfl (R_bin rfl rfl rfl rfl rfl) ⟨gh0, rfl, hS⟩)), ?_⟩
             refine ⟨fun g_ w478 fr479 hS => (Sv_gt rfl rfl rfl hg138 (Sv_val rfl (R_pick_t rfl rfl hg258 rfl) ⟨gh0, rfl, hS⟩)), ?_⟩
             refine ⟨fun g_ w480 fr481 hS => (Sv_gt rfl rfl rfl hg138 (Sv_val rfl (R_move rfl rfl) ⟨gh0, rfl, hS⟩)), ?_⟩
             refine ⟨fun g_ w482 fr483 hS => Sv_off rfl rfl rfl (by rw [hg259]; rfl) ⟨gh0, rfl, hS⟩, ?_⟩
             refine ⟨fun g_ w484 fr485 hS => Sv_off rfl rfl rfl (by rw [hg259]; rfl) ⟨gh0, rfl, hS⟩, ?_⟩
             refine ⟨fun g_ w486 fr487 hS => Sv_off rfl rfl rfl (by rw [hg259]; rfl) ⟨gh0, rfl, hS⟩, ?_⟩
             refine ⟨fun g_ w488 fr489 hS => Sv_off rfl rfl rfl (by rw [hg259]; rfl) ⟨gh0, rfl, hS⟩, ?_⟩
             refine ⟨fun g_ w490 fr491 hS => (Sv_gt rfl rfl rfl hg138 (Sv_val rfl (R_pick_f rfl rfl hg259 rfl) ⟨gh0, rfl, hS⟩)), ?_⟩
             refine ⟨fun g_ w492 fr493 hS => Sv_val rfl (R_pick_f rfl rfl hg138 rfl) ⟨gh0, rfl, hS⟩, ?_⟩
             exact trivial
            ·intro g_ w494 hS
             have hS : Sp (FF []) w z w494 [bR b20 46 [.int .i64 (a0.Cells.getD k (default : TCell)).Row, .int .i64 (a0.Cells.getD k (default : TCell)).Col, vstr (a0.Cells.getD k (default : TCell)).Text, .int .i64 (a0.Cells.getD k (default : TCell)).Style.Align, .int .i64 (a0.Cells.getD k (default : TCell)).Style.Wrap, .int .i64 (a0.Cells.getD k (default : TCell)).Style.Dir], bR b2 39 [.int .i64 a0.Right, .slice Aa0_Widths a0.Widths.length ca0_Widths, .slice Aa0_Heights a0.Heights.length ca0_Heights, .slice Aa0_Cells a0.Cells.length ca0_Cells, .slice Aa0_Merges a0.Merges.length ca0_Merges]] := hS
             refine An_fr [(1, .pointer (some ⟨b2, 0, none⟩)), (5, .int .i64 (k : Int)), (6, .pointer (some ⟨b20, 0, none⟩)), (119, .bool false)] rfl ?_
             refine An_done (by decide +kernel) ?_
             refine E_then ?_
             refine C_else rfl rfl ?_
             refine C_skip ?_
             refine E_block_normal ?_
             refine E_then ?_
             refine C_region ?_
             refine W_cons rfl (by decide) (Sv_val rfl (R_move rfl rfl) ?_)
             refine W_cons rfl (by decide) (Sv_val rfl (R_add64 rfl rfl rfl (by omega) (by omega)) ?_)
             refine W_cons rfl (by decide) (Sv_val rfl (R_assign rfl rfl) ?_)
             refine W_nil ?_
             refine E_round [1, 5] ?_ ⟨(k + 1 : Nat), rfl, (by omega), (by exact range_any_next hI2_1 (by simp_all [rcellS])), rfl, hS.fin [1] (by decide) rfl⟩
             omega
          ·have _hg258 := trivial
           have hg258p : ¬ ((a0.Cells.getD k (default : TCell)).Style.Align = 0) := by simpa using hg258
           refine C_fr [(1, .pointer (some ⟨b2, 0, none⟩)), (5, .int .i64 (k : Int)), (6, .pointer (some ⟨b20, 0, none⟩))] rfl ?_
           obtain ⟨q496, csq496, hAq496, rfl, hkq496⟩ := hra0_Cells.at_ (default : TCell) (i := ((k : Int) - 1)) (by omega) (by omega)
           obtain ⟨q497, csq497, hAq497, rfl, hkq497⟩ := hra0_Cells.at_ (default : TCell) (i := ((k : Int) - 1)) (by omega) (by omega)
           refine C_drawn2 53 [[], [0], [1], [2], [3, 2], [2], [5, 2], [4, 6, 2], [7, 2], [8, 2], [2], [10, 2], [2], [12, 2], [11, 13, 2], [14, 2], [15, 2], [2], [17, 2], [2], [19, 2], [9, 16, 18, 20, 2, 2], [21, 2], [2, 22], [23, 21], [24], [25, 24], [26, 24, 24], [27, 24], [24, 28], [29, 27], [30], [31, 30], [32, 30], [33, 30, 30], [34], [35, 34], [36, 34], [37, 34], [34, 38, 30], [39, 34, 30], [40], [41, 40], [42, 40], [43, 40], [40, 44, 30], [45, 40, 30], [46], [47, 46], [48, 46], [49, 46], [46, 50, 30], [30, 51]] [some 67, some 68, some 69, some 70, some 71, some 72, some 73, some 74, some 75, some 76, some 77, some 78, some 79, some 80, some 81, some 82, some 83, some 84, some 85, some 86, some 87, some 88, some 89, some 90, some 91, some 92, some 93, some 94, some 95, some 96, some 97, some 98, some 99, some 100, some 101, some 102, some 103, some 104, some 105, some 106, some 107, some 108, some 109, some 110, some 111, some 112, some 113, some 114, some 115, some 116, some 117, some 118, some 119] [1, 5, 6] (List.replicate 53 53) (List.replicate 53 []) (List.replicate 53 []) [fun γ_ => .int .i64 (k : Int), fun γ_ => .bool (decide ((k : Int) > 0)), fun γ_ => .bool (decide ((k : Int) > 0)), fun γ_ => .pointer (some ⟨b2, 3, none⟩), fun γ_ => .slice Aa0_Cells a0.Cells.length ca0_Cells, fun γ_ => .int .i64 (k : Int), fun γ_ => .int .i64 ((k : Int) - 1), fun γ_ => .pointer (some (q496.add (((k : Int) - 1).toNat * 6))), fun γ_ => .pointer (some ((q496.add (((k : Int) - 1).toNat * 6)).add 0)), fun γ_ => .int .i64 (a0.Cells.getD ((k : Int) - 1).toNat (default : TCell)).Row, fun γ_ => .pointer (some ⟨b2, 3, none⟩), fun γ_ => .slice Aa0_Cells a0.Cells.length ca0_Cells, fun γ_ => .int .i64 (k : Int), fun γ_ => .int .i64 ((k : Int) - 1), fun γ_ => .pointer (some (q497.add (((k : Int) - 1).toNat * 6))), fun γ_ => .pointer (some ((q497.add (((k : Int) - 1).toNat * 6)).add 1)), fun γ_ => .int .i64 (a0.Cells.getD ((k : Int) - 1).toNat (default : TCell)).Col, fun γ_ => .pointer (some ⟨b20, 0, none⟩), fun γ_ => .int .i64 (a0.Cells.getD k (default : TCell)).Row, fun γ_ => .pointer (some ⟨b20, 1, none⟩), fun γ_ => .int .i64 (a0.Cells.getD k (default : TCell)).Col, fun γ_ => .bool (raheadS (a0.Cells.getD ((k : Int) - 1).toNat (default : TCell)).Row (a0.Cells.getD ((k : Int) - 1).toNat (default : TCell)).Col (a0.Cells.getD k (default : TCell)).Row (a0.Cells.getD k (default : TCell)).Col), fun γ_ => .bool (!(raheadS (a0.Cells.getD ((k : Int) - 1).toNat (default : TCell)).Row (a0.Cells.getD ((k : Int) - 1).toNat (default : TCell)).Col (a0.Cells.getD k (default : TCell)).Row (a0.Cells.getD k (default : TCell)).Col)), fun γ_ => .bool (!(raheadS (a0.Cells.getD ((k : Int) - 1).toNat (default : TCell)).Row (a0.Cells.getD ((k : Int) - 1).toNat (default : TCell)).Col (a0.Cells.getD k (default : TCell)).Row (a0.Cells.getD k (default : TCell)).Col)), fun γ_ => .bool (!(raheadS (a0.Cells.getD ((k : Int) - 1).toNat (default : TCell)).Row (a0.Cells.getD ((k : Int) - 1).toNat (default : TCell)).Col (a0.Cells.getD k (default : TCell)).Row (a0.Cells.getD k (default : TCell)).Col)), fun γ_ => .pointer (some ⟨b20, 3, none⟩), fun γ_ => .agg #[.int .i64 (a0.Cells.getD k (default : TCell)).Style.Align, .int .i64 (a0.Cells.getD k (default : TCell)).Style.Wrap, .int .i64 (a0.Cells.getD k (default : TCell)).Style.Dir], fun γ_ => .bool (rstyledS (a0.Cells.getD k (default : TCell)).Style), fun γ_ => .bool (!(rstyledS (a0.Cells.getD k (default : TCell)).Style)), fun γ_ => .bool (!(rstyledS (a0.Cells.getD k (default : TCell)).Style)), fun γ_ => .bool (!(rstyledS (a0.Cells.getD k (default : TCell)).Style)), fun γ_ => .pointer (some ⟨b20, 2, none⟩), fun γ_ => vstr (a0.Cells.getD k (default : TCell)).Text, fun γ_ => .bool (decide ((a0.Cells.getD k (default : TCell)).Text = [])), fun γ_ => .bool (decide ((a0.Cells.getD k (default : TCell)).Text = [])), fun γ_ => .pointer (some ⟨b20, 3, none⟩), fun γ_ => .pointer (some ⟨b20, 3, none⟩), fun γ_ => .int .i64 (a0.Cells.getD k (default : TCell)).Style.Align, fun γ_ => .bool ((a0.Cells.getD k (default : TCell)).Style.Align == 0), fun γ_ => .bool ((a0.Cells.getD k (default : TCell)).Style.Align == 0), fun γ_ => .bool ((a0.Cells.getD k (default : TCell)).Style.Align == 0), fun γ_ => undef, fun γ_ => undef, fun γ_ => undef, fun γ_ => undef, fun γ_ => .bool false, fun γ_ => .bool false, fun γ_ => undef, fun γ_ => undef, fun γ_ => undef, fun γ_ => undef, fun γ_ => .bool false, fun γ_ => .bool false] (List.replicate 53 (fun _ => [])) rfl (by kernel_rfl) (by decide +kernel) hS ?_ ?_
           ·refine ⟨fun g_ w502 fr503 hS => Sv_val rfl (R_move rfl rfl) ⟨gh0, rfl, hS⟩, ?_⟩
            refine ⟨fun g_ w504 fr505 hS => Sv_val rfl (R_bin rfl rfl rfl rfl rfl) ⟨gh0, rfl, hS⟩, ?_⟩
            refine ⟨fun g_ w506 fr507 hS => Sv_val rfl (R_move rfl rfl) ⟨gh0, rfl, hS⟩, ?_⟩
            refine ⟨fun g_ w508 fr509 hS => (Sv_gt rfl rfl rfl hg22 (Sv_val rfl (R_fld rfl rfl fld39_3) ⟨gh0, rfl, hS⟩)), ?_⟩
            refine ⟨fun g_ w510 fr511 hS => (Sv_gt rfl rfl rfl hg22 (Sv_val rfl (R_load1 rfl rfl agg36 ((hS.bx 1 rfl).cell rfl)) ⟨gh0, rfl, hS⟩)), ?_⟩
            refine ⟨fun g_ w512 fr513 hS => (Sv_gt rfl rfl rfl hg22 (Sv_val rfl (R_move rfl rfl) ⟨gh0, rfl, hS⟩)), ?_⟩
            refine ⟨fun g_ w514 fr515 hS => (Sv_gt rfl rfl rfl hg22 (Sv_val rfl (R_sub64 rfl rfl rfl (by omega) (by omega)) ⟨gh0, rfl, hS⟩)), ?_⟩
            refine ⟨fun g_ w516 fr517 hS => (Sv_gt rfl rfl rfl hg22 (Sv_val rfl (R_idx rfl rfl hAq496 rfl Try.underlying36 size46 (by omega) (by omega)) ⟨gh0, rfl, hS⟩)), ?_⟩
            refine ⟨fun g_ w518 fr519 hS => (Sv_gt rfl rfl rfl hg22 (Sv_val rfl (R_fld rfl rfl fld46_0) ⟨gh0, rfl, hS⟩)), ?_⟩
            refine ⟨fun g_ w520 fr521 hS => (Sv_gt rfl rfl rfl hg22 (Sv_val rfl (R_load1 rfl rfl agg3 (cell_add (hS.sub.cell (hkq496 0 _ rfl)))) ⟨gh0, rfl, hS⟩)), ?_⟩
            refine ⟨fun g_ w522 fr523 hS => (Sv_gt rfl rfl rfl hg22 (Sv_val rfl (R_fld rfl rfl fld39_3) ⟨gh0, rfl, hS⟩)), ?_⟩
            refine ⟨fun g_ w524 fr525 hS => (Sv_gt rfl rfl rfl hg22 (Sv_val rfl (R_load1 rfl rfl agg36 ((hS.bx 1 rfl).cell rfl)) ⟨gh0, rfl, hS⟩)), ?_⟩
            refine ⟨fun g_ w526 fr527 hS => (Sv_gt rfl rfl rfl hg22 (Sv_val rfl (R_move rfl rfl) ⟨gh0, rfl, hS⟩)), ?_⟩
            refine ⟨fun g_ w528 fr529 hS => (Sv_gt rfl rfl rfl hg22 (Sv_val rfl (R_sub64 rfl rfl rfl (by omega) (by omega)) ⟨gh0, rfl, hS⟩)), ?_⟩
            refine ⟨fun g_ w530 fr531 hS => (Sv_gt rfl rfl rfl hg22 (Sv_val rfl (R_idx rfl rfl hAq497 rfl Try.underlying36 size46 (by omega) (by omega)) ⟨gh0, rfl, hS⟩)), ?_⟩
            refine ⟨fun g_ w532 fr533 hS => (Sv_gt rfl rfl rfl hg22 (Sv_val rfl (R_fld rfl rfl fld46_1) ⟨gh0, rfl, hS⟩)), ?_⟩
            refine ⟨fun g_ w534 fr535 hS => (Sv_gt rfl rfl rfl hg22 (Sv_val rfl (R_load1 rfl rfl agg3 (cell_add (hS.sub.cell (hkq497 1 _ rfl)))) ⟨gh0, rfl, hS⟩)), ?_⟩
            refine ⟨fun g_ w536 fr537 hS => (Sv_gt rfl rfl rfl hg22 (Sv_val rfl (R_fld rfl rfl fld46_0) ⟨gh0, rfl, hS⟩)), ?_⟩
            refine ⟨fun g_ w538 fr539 hS => (Sv_gt rfl rfl rfl hg22 (Sv_val rfl (R_load1 rfl rfl agg3 ((hS.bx 0 rfl).cell rfl)) ⟨gh0, rfl, hS⟩)), ?_⟩
            refine ⟨fun g_ w540 fr541 hS => (Sv_gt rfl rfl rfl hg22 (Sv_val rfl (R_fld rfl rfl fld46_1) ⟨gh0, rfl, hS⟩)), ?_⟩
            refine ⟨fun g_ w542 fr543 hS => (Sv_gt rfl rfl rfl hg22 (Sv_val rfl (R_load1 rfl rfl agg3 ((hS.bx 0 rfl).cell rfl)) ⟨gh0, rfl, hS⟩)), ?_⟩
            refine ⟨fun g_ w544 fr545 hS => ?_, ?_⟩
            ·have _w544 := trivial
             have hS : Sp (FF []) w z w544 [bR b20 46 [.int .i64 (a0.Cells.getD k (default : TCell)).Row, .int .i64 (a0.Cells.getD k (default : TCell)).Col, vstr (a0.Cells.getD k (default : TCell)).Text, .int .i64 (a0.Cells.getD k (default : TCell)).Style.Align, .int .i64 (a0.Cells.getD k (default : TCell)).Style.Wrap, .int .i64 (a0.Cells.getD k (default : TCell)).Style.Dir], bR b2 39 [.int .i64 a0.Right, .slice Aa0_Widths a0.Widths.length ca0_Widths, .slice Aa0_Heights a0.Heights.length ca0_Heights, .slice Aa0_Cells a0.Cells.length ca0_Cells, .slice Aa0_Merges a0.Merges.length ca0_Merges], allR fr545] := hS
             refine  (Sv_gt rfl rfl rfl hg22 (Sv_call rfl rfl rfl ent92 ?_))
             refine (rahead_calls (a0.Cells.getD ((k : Int) - 1).toNat (default : TCell)).Row (a0.Cells.getD ((k : Int) - 1).toNat (default : TCell)).Col (a0.Cells.getD k (default : TCell)).Row (a0.Cells.getD k (default : TCell)).Col _ _ hS.out0  ).mono ?_
             rintro e_ w546 ⟨rfl, hS_⟩
             refine ⟨_, rfl, ?_⟩
             have hS := hS.call0 hS_
             exact ⟨⟨fun _ => none, fun _ => 0, fun _ => zE, fun _ => 0⟩, rfl, hS.fin [0, 1, 2] (by decide) rfl⟩
            refine ⟨fun g_ w548 fr549 hS => (Sv_gt rfl rfl rfl hg22 (Sv_val rfl (R_un rfl rfl rfl) ⟨gh0, rfl, hS⟩)), ?_⟩
            refine ⟨fun g_ w550 fr551 hS => Sv_val rfl (R_pick_t rfl rfl hg22 rfl) ⟨gh0, rfl, hS⟩, ?_⟩
            refine ⟨fun g_ w552 fr553 hS => Sv_val rfl (R_move rfl rfl) ⟨gh0, rfl, hS⟩, ?_⟩
            refine ⟨fun g_ w554 fr555 hS => (Sv_gt rfl rfl rfl hg23 (Sv_val rfl (R_fld rfl rfl fld46_3) ⟨gh0, rfl, hS⟩)), ?_⟩
            refine ⟨fun g_ w556 fr557 hS => (Sv_gt rfl rfl rfl hg23 (Sv_val rfl (R_loadN (cs := [.int .i64 (a0.Cells.getD k (default : TCell)).Style.Align, .int .i64 (a0.Cells.getD k (default : TCell)).Style.Wrap, .int .i64 (a0.Cells.getD k (default : TCell)).Style.Dir]) rfl rfl agg44 size44 rfl (boxcells (hS.bx 0 rfl) 3 rfl)) ⟨gh0, rfl, hS⟩)), ?_⟩
            refine ⟨fun g_ w558 fr559 hS => ?_, ?_⟩
            ·have _w558 := trivial
             have hS : Sp (FF []) w z w558 [bR b20 46 [.int .i64 (a0.Cells.getD k (default : TCell)).Row, .int .i64 (a0.Cells.getD k (default : TCell)).Col, vstr (a0.Cells.getD k (default : TCell)).Text, .int .i64 (a0.Cells.getD k (default : TCell)).Style.Align, .int .i64 (a0.Cells.getD k (default : TCell)).Style.Wrap, .int .i64 (a0.Cells.getD k (default : TCell)).Style.Dir], bR b2 39 [.int .i64 a0.Right, .slice Aa0_Widths a0.Widths.length ca0_Widths, .slice Aa0_Heights a0.Heights.length ca0_Heights, .slice Aa0_Cells a0.Cells.length ca0_Cells, .slice Aa0_Merges a0.Merges.length ca0_Merges], allR fr559] := hS
             refine  (Sv_gt rfl rfl rfl hg23 (Sv_call rfl rfl rfl ent93 ?_))
             refine (rstyled_calls (a0.Cells.getD k (default : TCell)).Style _ _ hS.out0  ).mono ?_
             rintro e_ w560 ⟨rfl, hS_⟩
             refine ⟨_, rfl, ?_⟩
             have hS := hS.call0 hS_
             exact ⟨⟨fun _ => none, fun _ => 0, fun _ => zE, fun _ => 0⟩, rfl, hS.fin [0, 1, 2] (by decide) rfl⟩
            refine ⟨fun g_ w562 fr563 hS => (Sv_gt rfl rfl rfl hg23 (Sv_val rfl (R_un rfl rfl rfl) ⟨gh0, rfl, hS⟩)), ?_⟩
            refine ⟨fun g_ w564 fr565 hS => Sv_val rfl (R_pick_f rfl rfl hg23 rfl) ⟨gh0, rfl, hS⟩, ?_⟩
            refine ⟨fun g_ w566 fr567 hS => Sv_val rfl (R_move rfl rfl) ⟨gh0, rfl, hS⟩, ?_⟩
            refine ⟨fun g_ w568 fr569 hS => (Sv_gt rfl rfl rfl hg138 (Sv_val rfl (R_fld rfl rfl fld46_2) ⟨gh0, rfl, hS⟩)), ?_⟩
            refine ⟨fun g_ w570 fr571 hS => (Sv_gt rfl rfl rfl hg138 (Sv_val rfl (R_load1 rfl rfl agg9 ((hS.bx 0 rfl).cell rfl)) ⟨gh0, rfl, hS⟩)), ?_⟩
            refine ⟨fun g_ w572 fr573 hS => (Sv_gt rfl rfl rfl hg138 (Sv_val rfl (R_streql rfl rfl rfl) ⟨gh0, rfl, hS⟩)), ?_⟩
            refine ⟨fun g_ w574 fr575 hS => (Sv_gt rfl rfl rfl hg138 (Sv_val rfl (R_move rfl rfl) ⟨gh0, rfl, hS⟩)), ?_⟩
            refine ⟨fun g_ w576 fr577 hS => (Sv_gt rfl rfl rfl hg257 (Sv_val rfl (R_fld rfl rfl fld46_3) ⟨gh0, rfl, hS⟩)), ?_⟩
            refine ⟨fun g_ w578 fr579 hS => (Sv_gt rfl rfl rfl hg257 (Sv_val rfl (R_fld rfl rfl fld44_0) ⟨gh0, rfl, hS⟩)), ?_⟩
            refine ⟨fun g_ w580 fr581 hS => (Sv_gt rfl rfl rfl hg257 (Sv_val rfl (R_load1 rfl rfl agg3 ((hS.bx 0 rfl).cell rfl)) ⟨gh0, rfl, hS⟩)), ?_⟩
            refine ⟨fun g_ w582 fr583 hS => (Sv_gt rfl rfl rfl hg257 (Sv_val rfl (R_bin rfl rfl rfl rfl rfl) ⟨gh0, rfl, hS⟩)), ?_⟩
            refine ⟨fun g_ w584 fr585 hS => (Sv_gt rfl rfl rfl hg138 (Sv_val rfl (R_pick_t rfl rfl hg257 rfl) ⟨gh0, rfl, hS⟩)), ?_⟩
            refine ⟨fun g_ w586 fr587 hS => (Sv_gt rfl rfl rfl hg138 (Sv_val rfl (R_move rfl rfl) ⟨gh0, rfl, hS⟩)), ?_⟩
            refine ⟨fun g_ w588 fr589 hS => Sv_off rfl rfl rfl (by rw [hg258]; rfl) ⟨gh0, rfl, hS⟩, ?_⟩
            refine ⟨fun g_ w590 fr591 hS => Sv_off rfl rfl rfl (by rw [hg258]; rfl) ⟨gh0, rfl, hS⟩, ?_⟩
            refine ⟨fun g_ w592 fr593 hS => Sv_off rfl rfl rfl (by rw [hg258]; rfl) ⟨gh0, rfl, hS⟩, ?_⟩
            refine ⟨fun g_ w594 fr595 hS => Sv_off rfl rfl rfl (by rw [hg258]; rfl) ⟨gh0, rfl, hS⟩, ?_⟩
            refine ⟨fun g_ w596 fr597 hS => (Sv_gt rfl rfl rfl hg138 (Sv_val rfl (R_pick_f rfl rfl hg258 rfl) ⟨gh0, rfl, hS⟩)), ?_⟩
            refine ⟨fun g_ w598 fr599 hS => (Sv_gt rfl rfl rfl hg138 (Sv_val rfl (R_move rfl rfl) ⟨gh0, rfl, hS⟩)), ?_⟩
            refine ⟨fun g_ w600 fr601 hS => Sv_off rfl rfl rfl rfl ⟨gh0, rfl, hS⟩, ?_⟩
            refine ⟨fun g_ w602 fr603 hS => Sv_off rfl rfl rfl rfl ⟨gh0, rfl, hS⟩, ?_⟩
            refine ⟨fun g_ w604 fr605 hS => Sv_off rfl rfl rfl rfl ⟨gh0, rfl, hS⟩, ?_⟩
            refine ⟨fun g_ w606 fr607 hS => Sv_off rfl rfl rfl rfl ⟨gh0, rfl, hS⟩, ?_⟩
            refine ⟨fun g_ w608 fr609 hS => (Sv_gt rfl rfl rfl hg138 (Sv_val rfl (R_pick_f rfl rfl rfl rfl) ⟨gh0, rfl, hS⟩)), ?_⟩
            refine ⟨fun g_ w610 fr611 hS => Sv_val rfl (R_pick_f rfl rfl hg138 rfl) ⟨gh0, rfl, hS⟩, ?_⟩
            exact trivial
           ·intro g_ w612 hS
            have hS : Sp (FF []) w z w612 [bR b20 46 [.int .i64 (a0.Cells.getD k (default : TCell)).Row, .int .i64 (a0.Cells.getD k (default : TCell)).Col, vstr (a0.Cells.getD k (default : TCell)).Text, .int .i64 (a0.Cells.getD k (default : TCell)).Style.Align, .int .i64 (a0.Cells.getD k (default : TCell)).Style.Wrap, .int .i64 (a0.Cells.getD k (default : TCell)).Style.Dir], bR b2 39 [.int .i64 a0.Right, .slice Aa0_Widths a0.Widths.length ca0_Widths, .slice Aa0_Heights a0.Heights.length ca0_Heights, .slice Aa0_Cells a0.Cells.length ca0_Cells, .slice Aa0_Merges a0.Merges.length ca0_Merges]] := hS
            refine An_fr [(1, .pointer (some ⟨b2, 0, none⟩)), (5, .int .i64 (k : Int)), (6, .pointer (some ⟨b20, 0, none⟩)), (119, .bool false)] rfl ?_
            refine An_done (by decide +kernel) ?_
            refine E_then ?_
            refine C_else rfl rfl ?_
            refine C_skip ?_
            refine E_block_normal ?_
            refine E_then ?_
            refine C_region ?_
            refine W_cons rfl (by decide) (Sv_val rfl (R_move rfl rfl) ?_)
            refine W_cons rfl (by decide) (Sv_val rfl (R_add64 rfl rfl rfl (by omega) (by omega)) ?_)
            refine W_cons rfl (by decide) (Sv_val rfl (R_assign rfl rfl) ?_)
            refine W_nil ?_
            refine E_round [1, 5] ?_ ⟨(k + 1 : Nat), rfl, (by omega), (by exact range_any_next hI2_1 (by simp_all [rcellS])), rfl, hS.fin [1] (by decide) rfl⟩
            omega
         ·have _hg257 := trivial
          have hg257p : ¬ ((a0.Cells.getD k (default : TCell)).Text = []) := by simpa using hg257
          refine C_fr [(1, .pointer (some ⟨b2, 0, none⟩)), (5, .int .i64 (k : Int)), (6, .pointer (some ⟨b20, 0, none⟩))] rfl ?_
          obtain ⟨q614, csq614, hAq614, rfl, hkq614⟩ := hra0_Cells.at_ (default : TCell) (i := ((k : Int) - 1)) (by omega) (by omega)
          obtain ⟨q615, csq615, hAq615, rfl, hkq615⟩ := hra0_Cells.at_ (default : TCell) (i := ((k : Int) - 1)) (by omega) (by omega)
          refine C_drawn2 53 [[], [0], [1], [2], [3, 2], [2], [5, 2], [4, 6, 2], [7, 2], [8, 2], [2], [10, 2], [2], [12, 2], [11, 13, 2], [14, 2], [15, 2], [2], [17, 2], [2], [19, 2], [9, 16, 18, 20, 2, 2], [21, 2], [2, 22], [23, 21], [24], [25, 24], [26, 24, 24], [27, 24], [24, 28], [29, 27], [30], [31, 30], [32, 30], [33, 30, 30], [34], [35, 34], [36, 34], [37, 34], [34, 38, 30], [39, 34, 30], [40], [41, 40], [42, 40], [43, 40], [40, 44, 30], [45, 40, 30], [46], [47, 46], [48, 46], [49, 46], [46, 50, 30], [30, 51]] [some 67, some 68, some 69, some 70, some 71, some 72, some 73, some 74, some 75, some 76, some 77, some 78, some 79, some 80, some 81, some 82, some 83, some 84, some 85, some 86, some 87, some 88, some 89, some 90, some 91, some 92, some 93, some 94, some 95, some 96, some 97, some 98, some 99, some 100, some 101, some 102, some 103, some 104, some 105, some 106, some 107, some 108, some 109, some 110, some 111, some 112, some 113, some 114, some 115, some 116, some 117, some 118, some 119] [1, 5, 6] (List.replicate 53 53) (List.replicate 53 []) (List.replicate 53 []) [fun γ_ => .int .i64 (k : Int), fun γ_ => .bool (decide ((k : Int) > 0)), fun γ_ => .bool (decide ((k : Int) > 0)), fun γ_ => .pointer (some ⟨b2, 3, none⟩), fun γ_ => .slice Aa0_Cells a0.Cells.length ca0_Cells, fun γ_ => .int .i64 (k : Int), fun γ_ => .int .i64 ((k : Int) - 1), fun γ_ => .pointer (some (q614.add (((k : Int) - 1).toNat * 6))), fun γ_ => .pointer (some ((q614.add (((k : Int) - 1).toNat * 6)).add 0)), fun γ_ => .int .i64 (a0.Cells.getD ((k : Int) - 1).toNat (default : TCell)).Row, fun γ_ => .pointer (some ⟨b2, 3, none⟩), fun γ_ => .slice Aa0_Cells a0.Cells.length ca0_Cells, fun γ_ => .int .i64 (k : Int), fun γ_ => .int .i64 ((k : Int) - 1), fun γ_ => .pointer (some (q615.add (((k : Int) - 1).toNat * 6))), fun γ_ => .pointer (some ((q615.add (((k : Int) - 1).toNat * 6)).add 1)), fun γ_ => .int .i64 (a0.Cells.getD ((k : Int) - 1).toNat (default : TCell)).Col, fun γ_ => .pointer (some ⟨b20, 0, none⟩), fun γ_ => .int .i64 (a0.Cells.getD k (default : TCell)).Row, fun γ_ => .pointer (some ⟨b20, 1, none⟩), fun γ_ => .int .i64 (a0.Cells.getD k (default : TCell)).Col, fun γ_ => .bool (raheadS (a0.Cells.getD ((k : Int) - 1).toNat (default : TCell)).Row (a0.Cells.getD ((k : Int) - 1).toNat (default : TCell)).Col (a0.Cells.getD k (default : TCell)).Row (a0.Cells.getD k (default : TCell)).Col), fun γ_ => .bool (!(raheadS (a0.Cells.getD ((k : Int) - 1).toNat (default : TCell)).Row (a0.Cells.getD ((k : Int) - 1).toNat (default : TCell)).Col (a0.Cells.getD k (default : TCell)).Row (a0.Cells.getD k (default : TCell)).Col)), fun γ_ => .bool (!(raheadS (a0.Cells.getD ((k : Int) - 1).toNat (default : TCell)).Row (a0.Cells.getD ((k : Int) - 1).toNat (default : TCell)).Col (a0.Cells.getD k (default : TCell)).Row (a0.Cells.getD k (default : TCell)).Col)), fun γ_ => .bool (!(raheadS (a0.Cells.getD ((k : Int) - 1).toNat (default : TCell)).Row (a0.Cells.getD ((k : Int) - 1).toNat (default : TCell)).Col (a0.Cells.getD k (default : TCell)).Row (a0.Cells.getD k (default : TCell)).Col)), fun γ_ => .pointer (some ⟨b20, 3, none⟩), fun γ_ => .agg #[.int .i64 (a0.Cells.getD k (default : TCell)).Style.Align, .int .i64 (a0.Cells.getD k (default : TCell)).Style.Wrap, .int .i64 (a0.Cells.getD k (default : TCell)).Style.Dir], fun γ_ => .bool (rstyledS (a0.Cells.getD k (default : TCell)).Style), fun γ_ => .bool (!(rstyledS (a0.Cells.getD k (default : TCell)).Style)), fun γ_ => .bool (!(rstyledS (a0.Cells.getD k (default : TCell)).Style)), fun γ_ => .bool (!(rstyledS (a0.Cells.getD k (default : TCell)).Style)), fun γ_ => .pointer (some ⟨b20, 2, none⟩), fun γ_ => vstr (a0.Cells.getD k (default : TCell)).Text, fun γ_ => .bool (decide ((a0.Cells.getD k (default : TCell)).Text = [])), fun γ_ => .bool (decide ((a0.Cells.getD k (default : TCell)).Text = [])), fun γ_ => undef, fun γ_ => undef, fun γ_ => undef, fun γ_ => undef, fun γ_ => .bool false, fun γ_ => .bool false, fun γ_ => undef, fun γ_ => undef, fun γ_ => undef, fun γ_ => undef, fun γ_ => .bool false, fun γ_ => .bool false, fun γ_ => undef, fun γ_ => undef, fun γ_ => undef, fun γ_ => undef, fun γ_ => .bool false, fun γ_ => .bool false] (List.replicate 53 (fun _ => [])) rfl (by kernel_rfl) (by decide +kernel) hS ?_ ?_
          ·refine ⟨fun g_ w620 fr621 hS => Sv_val rfl (R_move rfl rfl) ⟨gh0, rfl, hS⟩, ?_⟩
           refine ⟨fun g_ w622 fr623 hS => Sv_val rfl (R_bin rfl rfl rfl rfl rfl) ⟨gh0, rfl, hS⟩, ?_⟩
           refine ⟨fun g_ w624 fr625 hS => Sv_val rfl (R_move rfl rfl) ⟨gh0, rfl, hS⟩, ?_⟩
           refine ⟨fun g_ w626 fr627 hS => (Sv_gt rfl rfl rfl hg22 (Sv_val rfl (R_fld rfl rfl fld39_3) ⟨gh0, rfl, hS⟩)), ?_⟩
           refine ⟨fun g_ w628 fr629 hS => (Sv_gt rfl rfl rfl hg22 (Sv_val rfl (R_load1 rfl rfl agg36 ((hS.bx 1 rfl).cell rfl)) ⟨gh0, rfl, hS⟩)), ?_⟩
           refine ⟨fun g_ w630 fr631 hS => (Sv_gt rfl rfl rfl hg22 (Sv_val rfl (R_move rfl rfl) ⟨gh0, rfl, hS⟩)), ?_⟩
           refine ⟨fun g_ w632 fr633 hS => (Sv_gt rfl rfl rfl hg22 (Sv_val rfl (R_sub64 rfl rfl rfl (by omega) (by omega)) ⟨gh0, rfl, hS⟩)), ?_⟩
           refine ⟨fun g_ w634 fr635 hS => (Sv_gt rfl rfl rfl hg22 (Sv_val rfl (R_idx rfl rfl hAq614 rfl Try.underlying36 size46 (by omega) (by omega)) ⟨gh0, rfl, hS⟩)), ?_⟩
           refine ⟨fun g_ w636 fr637 hS => (Sv_gt rfl rfl rfl hg22 (Sv_val rfl (R_fld rfl rfl fld46_0) ⟨gh0, rfl, hS⟩)), ?_⟩
           refine ⟨fun g_ w638 fr639 hS => (Sv_gt rfl rfl rfl hg22 (Sv_val rfl (R_load1 rfl rfl agg3 (cell_add (hS.sub.cell (hkq614 0 _ rfl)))) ⟨gh0, rfl, hS⟩)), ?_⟩
           refine ⟨fun g_ w640 fr641 hS => (Sv_gt rfl rfl rfl hg22 (Sv_val rfl (R_fld rfl rfl fld39_3) ⟨gh0, rfl, hS⟩)), ?_⟩
           refine ⟨fun g_ w642 fr643 hS => (Sv_gt rfl rfl rfl hg22 (Sv_val rfl (R_load1 rfl rfl agg36 ((hS.bx 1 rfl).cell rfl)) ⟨gh0, rfl, hS⟩)), ?_⟩
           refine ⟨fun g_ w644 fr645 hS => (Sv_gt rfl rfl rfl hg22 (Sv_val rfl (R_move rfl rfl) ⟨gh0, rfl, hS⟩)), ?_⟩
           refine ⟨fun g_ w646 fr647 hS => (Sv_gt rfl rfl rfl hg22 (Sv_val rfl (R_sub64 rfl rfl rfl (by omega) (by omega)) ⟨gh0, rfl, hS⟩)), ?_⟩
           refine ⟨fun g_ w648 fr649 hS => (Sv_gt rfl rfl rfl hg22 (Sv_val rfl (R_idx rfl rfl hAq615 rfl Try.underlying36 size46 (by omega) (by omega)) ⟨gh0, rfl, hS⟩)), ?_⟩
           refine ⟨fun g_ w650 fr651 hS => (Sv_gt rfl rfl rfl hg22 (Sv_val rfl (R_fld rfl rfl fld46_1) ⟨gh0, rfl, hS⟩)), ?_⟩
           refine ⟨fun g_ w652 fr653 hS => (Sv_gt rfl rfl rfl hg22 (Sv_val rfl (R_load1 rfl rfl agg3 (cell_add (hS.sub.cell (hkq615 1 _ rfl)))) ⟨gh0, rfl, hS⟩)), ?_⟩
           refine ⟨fun g_ w654 fr655 hS => (Sv_gt rfl rfl rfl hg22 (Sv_val rfl (R_fld rfl rfl fld46_0) ⟨gh0, rfl, hS⟩)), ?_⟩
           refine ⟨fun g_ w656 fr657 hS => (Sv_gt rfl rfl rfl hg22 (Sv_val rfl (R_load1 rfl rfl agg3 ((hS.bx 0 rfl).cell rfl)) ⟨gh0, rfl, hS⟩)), ?_⟩
           refine ⟨fun g_ w658 fr659 hS => (Sv_gt rfl rfl rfl hg22 (Sv_val rfl (R_fld rfl rfl fld46_1) ⟨gh0, rfl, hS⟩)), ?_⟩
           refine ⟨fun g_ w660 fr661 hS => (Sv_gt rfl rfl rfl hg22 (Sv_val rfl (R_load1 rfl rfl agg3 ((hS.bx 0 rfl).cell rfl)) ⟨gh0, rfl, hS⟩)), ?_⟩
           refine ⟨fun g_ w662 fr663 hS => ?_, ?_⟩
           ·have _w662 := trivial
            have hS : Sp (FF []) w z w662 [bR b20 46 [.int .i64 (a0.Cells.getD k (default : TCell)).Row, .int .i64 (a0.Cells.getD k (default : TCell)).Col, vstr (a0.Cells.getD k (default : TCell)).Text, .int .i64 (a0.Cells.getD k (default : TCell)).Style.Align, .int .i64 (a0.Cells.getD k (default : TCell)).Style.Wrap, .int .i64 (a0.Cells.getD k (default : TCell)).Style.Dir], bR b2 39 [.int .i64 a0.Right, .slice Aa0_Widths a0.Widths.length ca0_Widths, .slice Aa0_Heights a0.Heights.length ca0_Heights, .slice Aa0_Cells a0.Cells.length ca0_Cells, .slice Aa0_Merges a0.Merges.length ca0_Merges], allR fr663] := hS
            refine  (Sv_gt rfl rfl rfl hg22 (Sv_call rfl rfl rfl ent92 ?_))
            refine (rahead_calls (a0.Cells.getD ((k : Int) - 1).toNat (default : TCell)).Row (a0.Cells.getD ((k : Int) - 1).toNat (default : TCell)).Col (a0.Cells.getD k (default : TCell)).Row (a0.Cells.getD k (default : TCell)).Col _ _ hS.out0  ).mono ?_
            rintro e_ w664 ⟨rfl, hS_⟩
            refine ⟨_, rfl, ?_⟩
            have hS := hS.call0 hS_
            exact ⟨⟨fun _ => none, fun _ => 0, fun _ => zE, fun _ => 0⟩, rfl, hS.fin [0, 1, 2] (by decide) rfl⟩
           refine ⟨fun g_ w666 fr667 hS => (Sv_gt rfl rfl rfl hg22 (Sv_val rfl (R_un rfl rfl rfl) ⟨gh0, rfl, hS⟩)), ?_⟩
           refine ⟨fun g_ w668 fr669 hS => Sv_val rfl (R_pick_t rfl rfl hg22 rfl) ⟨gh0, rfl, hS⟩, ?_⟩
           refine ⟨fun g_ w670 fr671 hS => Sv_val rfl (R_move rfl rfl) ⟨gh0, rfl, hS⟩, ?_⟩
           refine ⟨fun g_ w672 fr673 hS => (Sv_gt rfl rfl rfl hg23 (Sv_val rfl (R_fld rfl rfl fld46_3) ⟨gh0, rfl, hS⟩)), ?_⟩
           refine ⟨fun g_ w674 fr675 hS => (Sv_gt rfl rfl rfl hg23 (Sv_val rfl (R_loadN (cs := [.int .i64 (a0.Cells.getD k (default : TCell)).Style.Align, .int .i64 (a0.Cells.getD k (default : TCell)).Style.Wrap, .int .i64 (a0.Cells.getD k (default : TCell)).Style.Dir]) rfl rfl agg44 size44 rfl (boxcells (hS.bx 0 rfl) 3 rfl)) ⟨gh0, rfl, hS⟩)), ?_⟩
           refine ⟨fun g_ w676 fr677 hS => ?_, ?_⟩
           ·have _w676 := trivial
            have hS : Sp (FF []) w z w676 [bR b20 46 [.int .i64 (a0.Cells.getD k (default : TCell)).Row, .int .i64 (a0.Cells.getD k (default : TCell)).Col, vstr (a0.Cells.getD k (default : TCell)).Text, .int .i64 (a0.Cells.getD k (default : TCell)).Style.Align, .int .i64 (a0.Cells.getD k (default : TCell)).Style.Wrap, .int .i64 (a0.Cells.getD k (default : TCell)).Style.Dir], bR b2 39 [.int .i64 a0.Right, .slice Aa0_Widths a0.Widths.length ca0_Widths, .slice Aa0_Heights a0.Heights.length ca0_Heights, .slice Aa0_Cells a0.Cells.length ca0_Cells, .slice Aa0_Merges a0.Merges.length ca0_Merges], allR fr677] := hS
            refine  (Sv_gt rfl rfl rfl hg23 (Sv_call rfl rfl rfl ent93 ?_))
            refine (rstyled_calls (a0.Cells.getD k (default : TCell)).Style _ _ hS.out0  ).mono ?_
            rintro e_ w678 ⟨rfl, hS_⟩
            refine ⟨_, rfl, ?_⟩
            have hS := hS.call0 hS_
            exact ⟨⟨fun _ => none, fun _ => 0, fun _ => zE, fun _ => 0⟩, rfl, hS.fin [0, 1, 2] (by decide) rfl⟩
           refine ⟨fun g_ w680 fr681 hS => (Sv_gt rfl rfl rfl hg23 (Sv_val rfl (R_un rfl rfl rfl) ⟨gh0, rfl, hS⟩)), ?_⟩
           refine ⟨fun g_ w682 fr683 hS => Sv_val rfl (R_pick_f rfl rfl hg23 rfl) ⟨gh0, rfl, hS⟩, ?_⟩
           refine ⟨fun g_ w684 fr685 hS => Sv_val rfl (R_move rfl rfl) ⟨gh0, rfl, hS⟩, ?_⟩
           refine ⟨fun g_ w686 fr687 hS => (Sv_gt rfl rfl rfl hg138 (Sv_val rfl (R_fld rfl rfl fld46_2) ⟨gh0, rfl, hS⟩)), ?_⟩
           refine ⟨fun g_ w688 fr689 hS => (Sv_gt rfl rfl rfl hg138 (Sv_val rfl (R_load1 rfl rfl agg9 ((hS.bx 0 rfl).cell rfl)) ⟨gh0, rfl, hS⟩)), ?_⟩
           refine ⟨fun g_ w690 fr691 hS => (Sv_gt rfl rfl rfl hg138 (Sv_val rfl (R_streql rfl rfl rfl) ⟨gh0, rfl, hS⟩)), ?_⟩
           refine ⟨fun g_ w692 fr693 hS => (Sv_gt rfl rfl rfl hg138 (Sv_val rfl (R_move rfl rfl) ⟨gh0, rfl, hS⟩)), ?_⟩
           refine ⟨fun g_ w694 fr695 hS => Sv_off rfl rfl rfl (by rw [hg257]; rfl) ⟨gh0, rfl, hS⟩, ?_⟩
           refine ⟨fun g_ w696 fr697 hS => Sv_off rfl rfl rfl (by rw [hg257]; rfl) ⟨gh0, rfl, hS⟩, ?_⟩
           refine ⟨fun g_ w698 fr699 hS => Sv_off rfl rfl rfl (by rw [hg257]; rfl) ⟨gh0, rfl, hS⟩, ?_⟩
           refine ⟨fun g_ w700 fr701 hS => Sv_off rfl rfl rfl (by rw [hg257]; rfl) ⟨gh0, rfl, hS⟩, ?_⟩
           refine ⟨fun g_ w702 fr703 hS => (Sv_gt rfl rfl rfl hg138 (Sv_val rfl (R_pick_f rfl rfl hg257 rfl) ⟨gh0, rfl, hS⟩)), ?_⟩
           refine ⟨fun g_ w704 fr705 hS => (Sv_gt rfl rfl rfl hg138 (Sv_val rfl (R_move rfl rfl) ⟨gh0, rfl, hS⟩)), ?_⟩
           refine ⟨fun g_ w706 fr707 hS => Sv_off rfl rfl rfl rfl ⟨gh0, rfl, hS⟩, ?_⟩
           refine ⟨fun g_ w708 fr709 hS => Sv_off rfl rfl rfl rfl ⟨gh0, rfl, hS⟩, ?_⟩
           refine ⟨fun g_ w710 fr711 hS => Sv_off rfl rfl rfl rfl ⟨gh0, rfl, hS⟩, ?_⟩
           refine ⟨fun g_ w712 fr713 hS => Sv_off rfl rfl rfl rfl ⟨gh0, rfl, hS⟩, ?_⟩
           refine ⟨fun g_ w714 fr715 hS => (Sv_gt rfl rfl rfl hg138 (Sv_val rfl (R_pick_f rfl rfl rfl rfl) ⟨gh0, rfl, hS⟩)), ?_⟩
           refine ⟨fun g_ w716 fr717 hS => (Sv_gt rfl rfl rfl hg138 (Sv_val rfl (R_move rfl rfl) ⟨gh0, rfl, hS⟩)), ?_⟩
           refine ⟨fun g_ w718 fr719 hS => Sv_off rfl rfl rfl rfl ⟨gh0, rfl, hS⟩, ?_⟩
           refine ⟨fun g_ w720 fr721 hS => Sv_off rfl rfl rfl rfl ⟨gh0, rfl, hS⟩, ?_⟩
           refine ⟨fun g_ w722 fr723 hS => Sv_off rfl rfl rfl rfl ⟨gh0, rfl, hS⟩, ?_⟩
           refine ⟨fun g_ w724 fr725 hS => Sv_off rfl rfl rfl rfl ⟨gh0, rfl, hS⟩, ?_⟩
           refine ⟨fun g_ w726 fr727 hS => (Sv_gt rfl rfl rfl hg138 (Sv_val rfl (R_pick_f rfl rfl rfl rfl) ⟨gh0, rfl, hS⟩)), ?_⟩
           refine ⟨fun g_ w728 fr729 hS => Sv_val rfl (R_pick_f rfl rfl hg138 rfl) ⟨gh0, rfl, hS⟩, ?_⟩
           exact trivial
          ·intro g_ w730 hS
           have hS : Sp (FF []) w z w730 [bR b20 46 [.int .i64 (a0.Cells.getD k (default : TCell)).Row, .int .i64 (a0.Cells.getD k (default : TCell)).Col, vstr (a0.Cells.getD k (default : TCell)).Text, .int .i64 (a0.Cells.getD k (default : TCell)).Style.Align, .int .i64 (a0.Cells.getD k (default : TCell)).Style.Wrap, .int .i64 (a0.Cells.getD k (default : TCell)).Style.Dir], bR b2 39 [.int .i64 a0.Right, .slice Aa0_Widths a0.Widths.length ca0_Widths, .slice Aa0_Heights a0.Heights.length ca0_Heights, .slice Aa0_Cells a0.Cells.length ca0_Cells, .slice Aa0_Merges a0.Merges.length ca0_Merges]] := hS
           refine An_fr [(1, .pointer (some ⟨b2, 0, none⟩)), (5, .int .i64 (k : Int)), (6, .pointer (some ⟨b20, 0, none⟩)), (119, .bool false)] rfl ?_
           refine An_done (by decide +kernel) ?_
           refine E_then ?_
           refine C_else rfl rfl ?_
           refine C_skip ?_
           refine E_block_normal ?_
           refine E_then ?_
           refine C_region ?_
           refine W_cons rfl (by decide) (Sv_val rfl (R_move rfl rfl) ?_)
           refine W_cons rfl (by decide) (Sv_val rfl (R_add64 rfl rfl rfl (by omega) (by omega)) ?_)
           refine W_cons rfl (by decide) (Sv_val rfl (R_assign rfl rfl) ?_)
           refine W_nil ?_
           refine E_round [1, 5] ?_ ⟨(k + 1 : Nat), rfl, (by omega), (by exact range_any_next hI2_1 (by simp_all [rcellS])), rfl, hS.fin [1] (by decide) rfl⟩
           omega
      ·have _hg22 := trivial
       have hg22p : ¬ ((k : Int) > 0) := by simpa using hg22
       rcases Bool.eq_false_or_eq_true (!(rstyledS (a0.Cells.getD k (default : TCell)).Style)) with hg732 | hg732
       ·have _hg732 := trivial
        have hg732p : ¬ (rstyledS (a0.Cells.getD k (default : TCell)).Style = true) := by simpa using hg732
        refine C_fr [(1, .pointer (some ⟨b2, 0, none⟩)), (5, .int .i64 (k : Int)), (6, .pointer (some ⟨b20, 0, none⟩))] rfl ?_
        refine C_drawn2 53 [[], [0], [1], [2], [3, 2], [2], [5, 2], [4, 6, 2], [7, 2], [8, 2], [2], [10, 2], [2], [12, 2], [11, 13, 2], [14, 2], [15, 2], [2], [17, 2], [2], [19, 2], [9, 16, 18, 20, 2, 2], [21, 2], [2, 22], [23, 21], [24], [25, 24], [26, 24, 24], [27, 24], [24, 28], [29, 27], [30], [31, 30], [32, 30], [33, 30, 30], [34], [35, 34], [36, 34], [37, 34], [34, 38, 30], [39, 34, 30], [40], [41, 40], [42, 40], [43, 40], [40, 44, 30], [45, 40, 30], [46], [47, 46], [48, 46], [49, 46], [46, 50, 30], [30, 51]] [some 67, some 68, some 69, some 70, some 71, some 72, some 73, some 74, some 75, some 76, some 77, some 78, some 79, some 80, some 81, some 82, some 83, some 84, some 85, some 86, some 87, some 88, some 89, some 90, some 91, some 92, some 93, some 94, some 95, some 96, some 97, some 98, some 99, some 100, some 101, some 102, some 103, some 104, some 105, some 106, some 107, some 108, some 109, some 110, some 111, some 112, some 113, some 114, some 115, some 116, some 117, some 118, some 119] [1, 5, 6] (List.replicate 53 53) (List.replicate 53 []) (List.replicate 53 []) [fun γ_ => .int .i64 (k : Int), fun γ_ => .bool (decide ((k : Int) > 0)), fun γ_ => .bool (decide ((k : Int) > 0)), fun γ_ => undef, fun γ_ => undef, fun γ_ => undef, fun γ_ => undef, fun γ_ => undef, fun γ_ => undef, fun γ_ => undef, fun γ_ => undef, fun γ_ => undef, fun γ_ => undef, fun γ_ => undef, fun γ_ => undef, fun γ_ => undef, fun γ_ => undef, fun γ_ => undef, fun γ_ => undef, fun γ_ => undef, fun γ_ => undef, fun γ_ => undef, fun γ_ => undef, fun γ_ => .bool false, fun γ_ => .bool false, fun γ_ => .pointer (some ⟨b20, 3, none⟩), fun γ_ => .agg #[.int .i64 (a0.Cells.getD k (default : TCell)).Style.Align, .int .i64 (a0.Cells.getD k (default : TCell)).Style.Wrap, .int .i64 (a0.Cells.getD k (default : TCell)).Style.Dir], fun γ_ => .bool (rstyledS (a0.Cells.getD k (default : TCell)).Style), fun γ_ => .bool (!(rstyledS (a0.Cells.getD k (default : TCell)).Style)), fun γ_ => .bool (!(rstyledS (a0.Cells.getD k (default : TCell)).Style)), fun γ_ => .bool (!(rstyledS (a0.Cells.getD k (default : TCell)).Style)), fun γ_ => undef, fun γ_ => undef, fun γ_ => undef, fun γ_ => undef, fun γ_ => undef, fun γ_ => undef, fun γ_ => undef, fun γ_ => undef, fun γ_ => undef, fun γ_ => undef, fun γ_ => undef, fun γ_ => undef, fun γ_ => undef, fun γ_ => undef, fun γ_ => undef, fun γ_ => undef, fun γ_ => undef, fun γ_ => undef, fun γ_ => undef, fun γ_ => undef, fun γ_ => undef, fun γ_ => .bool true] (List.replicate 53 (fun _ => [])) rfl (by kernel_rfl) (by decide +kernel) hS ?_ ?_
        ·refine ⟨fun g_ w735 fr736 hS => Sv_val rfl (R_move rfl rfl) ⟨gh0, rfl, hS⟩, ?_⟩
         refine ⟨fun g_ w737 fr738 hS => Sv_val rfl (R_bin rfl rfl rfl rfl rfl) ⟨gh0, rfl, hS⟩, ?_⟩
         refine ⟨fun g_ w739 fr740 hS => Sv_val rfl (R_move rfl rfl) ⟨gh0, rfl, hS⟩, ?_⟩
         refine ⟨fun g_ w741 fr742 hS => Sv_off rfl rfl rfl (by rw [hg22]; rfl) ⟨gh0, rfl, hS⟩, ?_⟩
         refine ⟨fun g_ w743 fr744 hS => Sv_off rfl rfl rfl (by rw [hg22]; rfl) ⟨gh0, rfl, hS⟩, ?_⟩
         refine ⟨fun g_ w745 fr746 hS => Sv_off rfl rfl rfl (by rw [hg22]; rfl) ⟨gh0, rfl, hS⟩, ?_⟩
         refine ⟨fun g_ w747 fr748 hS => Sv_off rfl rfl rfl (by rw [hg22]; rfl) ⟨gh0, rfl, hS⟩, ?_⟩
         refine ⟨fun g_ w749 fr750 hS => Sv_off rfl rfl rfl (by rw [hg22]; rfl) ⟨gh0, rfl, hS⟩, ?_⟩
         refine ⟨fun g_ w751 fr752 hS => Sv_off rfl rfl rfl (by rw [hg22]; rfl) ⟨gh0, rfl, hS⟩, ?_⟩
         refine ⟨fun g_ w753 fr754 hS => Sv_off rfl rfl rfl (by rw [hg22]; rfl) ⟨gh0, rfl, hS⟩, ?_⟩
         refine ⟨fun g_ w755 fr756 hS => Sv_off rfl rfl rfl (by rw [hg22]; rfl) ⟨gh0, rfl, hS⟩, ?_⟩
         refine ⟨fun g_ w757 fr758 hS => Sv_off rfl rfl rfl (by rw [hg22]; rfl) ⟨gh0, rfl, hS⟩, ?_⟩
         refine ⟨fun g_ w759 fr760 hS => Sv_off rfl rfl rfl (by rw [hg22]; rfl) ⟨gh0, rfl, hS⟩, ?_⟩
         refine ⟨fun g_ w761 fr762 hS => Sv_off rfl rfl rfl (by rw [hg22]; rfl) ⟨gh0, rfl, hS⟩, ?_⟩
         refine ⟨fun g_ w763 fr764 hS => Sv_off rfl rfl rfl (by rw [hg22]; rfl) ⟨gh0, rfl, hS⟩, ?_⟩
         refine ⟨fun g_ w765 fr766 hS => Sv_off rfl rfl rfl (by rw [hg22]; rfl) ⟨gh0, rfl, hS⟩, ?_⟩
         refine ⟨fun g_ w767 fr768 hS => Sv_off rfl rfl rfl (by rw [hg22]; rfl) ⟨gh0, rfl, hS⟩, ?_⟩
         refine ⟨fun g_ w769 fr770 hS => Sv_off rfl rfl rfl (by rw [hg22]; rfl) ⟨gh0, rfl, hS⟩, ?_⟩
         refine ⟨fun g_ w771 fr772 hS => Sv_off rfl rfl rfl (by rw [hg22]; rfl) ⟨gh0, rfl, hS⟩, ?_⟩
         refine ⟨fun g_ w773 fr774 hS => Sv_off rfl rfl rfl (by rw [hg22]; rfl) ⟨gh0, rfl, hS⟩, ?_⟩
         refine ⟨fun g_ w775 fr776 hS => Sv_off rfl rfl rfl (by rw [hg22]; rfl) ⟨gh0, rfl, hS⟩, ?_⟩
         refine ⟨fun g_ w777 fr778 hS => Sv_off rfl rfl rfl (by rw [hg22]; rfl) ⟨gh0, rfl, hS⟩, ?_⟩
         refine ⟨fun g_ w779 fr780 hS => Sv_off rfl rfl rfl (by rw [hg22]; rfl) ⟨gh0, rfl, hS⟩, ?_⟩
         refine ⟨fun g_ w781 fr782 hS => Sv_val rfl (R_pick_f rfl rfl hg22 rfl) ⟨gh0, rfl, hS⟩, ?_⟩
         refine ⟨fun g_ w783 fr784 hS => Sv_val rfl (R_move rfl rfl) ⟨gh0, rfl, hS⟩, ?_⟩
         refine ⟨fun g_ w785 fr786 hS => (Sv_gt rfl rfl rfl rfl (Sv_val rfl (R_fld rfl rfl fld46_3) ⟨gh0, rfl, hS⟩)), ?_⟩
         refine ⟨fun g_ w787 fr788 hS => (Sv_gt rfl rfl rfl rfl (Sv_val rfl (R_loadN (cs := [.int .i64 (a0.Cells.getD k (default : TCell)).Style.Align, .int .i64 (a0.Cells.getD k (default : TCell)).Style.Wrap, .int .i64 (a0.Cells.getD k (default : TCell)).Style.Dir]) rfl rfl agg44 size44 rfl (boxcells (hS.bx 0 rfl) 3 rfl)) ⟨gh0, rfl, hS⟩)), ?_⟩
         refine ⟨fun g_ w789 fr790 hS => ?_, ?_⟩
         ·have _w789 := trivial
          have hS : Sp (FF []) w z w789 [bR b20 46 [.int .i64 (a0.Cells.getD k (default : TCell)).Row, .int .i64 (a0.Cells.getD k (default : TCell)).Col, vstr (a0.Cells.getD k (default : TCell)).Text, .int .i64 (a0.Cells.getD k (default : TCell)).Style.Align, .int .i64 (a0.Cells.getD k (default : TCell)).Style.Wrap, .int .i64 (a0.Cells.getD k (default : TCell)).Style.Dir], bR b2 39 [.int .i64 a0.Right, .slice Aa0_Widths a0.Widths.length ca0_Widths, .slice Aa0_Heights a0.Heights.length ca0_Heights, .slice Aa0_Cells a0.Cells.length ca0_Cells, .slice Aa0_Merges a0.Merges.length ca0_Merges], allR fr790] := hS
          refine  (Sv_gt rfl rfl rfl rfl (Sv_call rfl rfl rfl ent93 ?_))
          refine (rstyled_calls (a0.Cells.getD k (default : TCell)).Style _ _ hS.out0  ).mono ?_
          rintro e_ w791 ⟨rfl, hS_⟩
          refine ⟨_, rfl, ?_⟩
          have hS := hS.call0 hS_
          exact ⟨⟨fun _ => none, fun _ => 0, fun _ => zE, fun _ => 0⟩, rfl, hS.fin [0, 1, 2] (by decide) rfl⟩
         refine ⟨fun g_ w793 fr794 hS => (Sv_gt rfl rfl rfl rfl (Sv_val rfl (R_un rfl rfl rfl) ⟨gh0, rfl, hS⟩)), ?_⟩
         refine ⟨fun g_ w795 fr796 hS => Sv_val rfl (R_pick_f rfl rfl rfl rfl) ⟨gh0, rfl, hS⟩, ?_⟩
         refine ⟨fun g_ w797 fr798 hS => Sv_val rfl (R_move rfl rfl) ⟨gh0, rfl, hS⟩, ?_⟩
         refine ⟨fun g_ w799 fr800 hS => Sv_off rfl rfl rfl (by rw [hg732]; rfl) ⟨gh0, rfl, hS⟩, ?_⟩
         refine ⟨fun g_ w801 fr802 hS => Sv_off rfl rfl rfl (by rw [hg732]; rfl) ⟨gh0, rfl, hS⟩, ?_⟩
         refine ⟨fun g_ w803 fr804 hS => Sv_off rfl rfl rfl (by rw [hg732]; rfl) ⟨gh0, rfl, hS⟩, ?_⟩
         refine ⟨fun g_ w805 fr806 hS => Sv_off rfl rfl rfl (by rw [hg732]; rfl) ⟨gh0, rfl, hS⟩, ?_⟩
         refine ⟨fun g_ w807 fr808 hS => Sv_offu rfl rfl rfl ⟨gh0, rfl, hS⟩, ?_⟩
         refine ⟨fun g_ w809 fr810 hS => Sv_offu rfl rfl rfl ⟨gh0, rfl, hS⟩, ?_⟩
         refine ⟨fun g_ w811 fr812 hS => Sv_offu rfl rfl rfl ⟨gh0, rfl, hS⟩, ?_⟩
         refine ⟨fun g_ w813 fr814 hS => Sv_offu rfl rfl rfl ⟨gh0, rfl, hS⟩, ?_⟩
         refine ⟨fun g_ w815 fr816 hS => Sv_off rfl rfl rfl (by rw [hg732]; rfl) ⟨gh0, rfl, hS⟩, ?_⟩
         refine ⟨fun g_ w817 fr818 hS => Sv_off rfl rfl rfl (by rw [hg732]; rfl) ⟨gh0, rfl, hS⟩, ?_⟩
         refine ⟨fun g_ w819 fr820 hS => Sv_offu rfl rfl rfl ⟨gh0, rfl, hS⟩, ?_⟩
         refine ⟨fun g_ w821 fr822 hS => Sv_offu rfl rfl rfl ⟨gh0, rfl, hS⟩, ?_⟩
         refine ⟨fun g_ w823 fr824 hS => Sv_offu rfl rfl rfl ⟨gh0, rfl, hS⟩, ?_⟩
         refine ⟨fun g_ w825 fr826 hS => Sv_offu rfl rfl rfl ⟨gh0, rfl, hS⟩, ?_⟩
         refine ⟨fun g_ w827 fr828 hS => Sv_off rfl rfl rfl (by rw [hg732]; rfl) ⟨gh0, rfl, hS⟩, ?_⟩
         refine ⟨fun g_ w829 fr830 hS => Sv_off rfl rfl rfl (by rw [hg732]; rfl) ⟨gh0, rfl, hS⟩, ?_⟩
         refine ⟨fun g_ w831 fr832 hS => Sv_offu rfl rfl rfl ⟨gh0, rfl, hS⟩, ?_⟩
         refine ⟨fun g_ w833 fr834 hS => Sv_offu rfl rfl rfl ⟨gh0, rfl, hS⟩, ?_⟩
         refine ⟨fun g_ w835 fr836 hS => Sv_offu rfl rfl rfl ⟨gh0, rfl, hS⟩, ?_⟩
         refine ⟨fun g_ w837 fr838 hS => Sv_offu rfl rfl rfl ⟨gh0, rfl, hS⟩, ?_⟩
         refine ⟨fun g_ w839 fr840 hS => Sv_off rfl rfl rfl (by rw [hg732]; rfl) ⟨gh0, rfl, hS⟩, ?_⟩
         refine ⟨fun g_ w841 fr842 hS => Sv_val rfl (R_pick_t rfl rfl hg732 rfl) ⟨gh0, rfl, hS⟩, ?_⟩
         exact trivial
        ·intro g_ w843 hS
         have hS : Sp (FF []) w z w843 [bR b20 46 [.int .i64 (a0.Cells.getD k (default : TCell)).Row, .int .i64 (a0.Cells.getD k (default : TCell)).Col, vstr (a0.Cells.getD k (default : TCell)).Text, .int .i64 (a0.Cells.getD k (default : TCell)).Style.Align, .int .i64 (a0.Cells.getD k (default : TCell)).Style.Wrap, .int .i64 (a0.Cells.getD k (default : TCell)).Style.Dir], bR b2 39 [.int .i64 a0.Right, .slice Aa0_Widths a0.Widths.length ca0_Widths, .slice Aa0_Heights a0.Heights.length ca0_Heights, .slice Aa0_Cells a0.Cells.length ca0_Cells, .slice Aa0_Merges a0.Merges.length ca0_Merges]] := hS
         refine An_fr [(1, .pointer (some ⟨b2, 0, none⟩)), (5, .int .i64 (k : Int)), (6, .pointer (some ⟨b20, 0, none⟩)), (119, .bool true)] rfl ?_
         refine An_done (by decide +kernel) ?_
         refine E_then ?_
         refine C_if rfl rfl ?_
         refine C_seq ?_
         refine C_region ?_
         refine W_cons rfl (by decide) (Sv_val rfl (R_assign rfl rfl) ?_)
         refine W_nil ?_
         refine E_then ?_
         refine C_ret ?_
         refine E_block_ret ?_
         refine E_then_ret ?_
         refine E_then_ret ?_
         refine E_block_ret ?_
         refine E_then_ret ?_
         refine E_ret1 rfl rfl ?_
         exact ⟨Lret1 (Lbool (show false = (rorderS a0) by first | exact rord_top (by omega) | exact rord_ok (i := i) (j := j) (k := k) (l := l) (by omega) (by omega) hI0_1 (by omega) hI1_1 (by omega) (by omega) hI2_1 (by omega) (by omega) hI3_1 | exact rord_m (i := l) (by omega) (by unfold rmergeS; simp_all) | exact rord_c (i := k) (by omega) (by unfold rcellS; simp_all) | exact rord_h (i := j) (by omega) (by assumption) | exact rord_w (i := i) (by omega) (by assumption))), hS.fin [] (by decide) rfl⟩
       ·have _hg732 := trivial
        have hg732p : (rstyledS (a0.Cells.getD k (default : TCell)).Style = true) := by simpa using hg732
        rcases Bool.eq_false_or_eq_true (decide ((a0.Cells.getD k (default : TCell)).Text = [])) with hg845 | hg845
        ·have _hg845 := trivial
         have hg845p : (a0.Cells.getD k (default : TCell)).Text = [] := by simpa using hg845
         rcases Bool.eq_false_or_eq_true ((a0.Cells.getD k (default : TCell)).Style.Align == 0) with hg846 | hg846
         ·have _hg846 := trivial
          have hg846p : (a0.Cells.getD k (default : TCell)).Style.Align = 0 := by simpa using hg846
          rcases Bool.eq_false_or_eq_true ((a0.Cells.getD k (default : TCell)).Style.Wrap == 0) with hg847 | hg847
          ·have _hg847 := trivial
           have hg847p : (a0.Cells.getD k (default : TCell)).Style.Wrap = 0 := by simpa using hg847
           refine C_fr [(1, .pointer (some ⟨b2, 0, none⟩)), (5, .int .i64 (k : Int)), (6, .pointer (some ⟨b20, 0, none⟩))] rfl ?_
           refine C_drawn2 53 [[], [0], [1], [2], [3, 2], [2], [5, 2], [4, 6, 2], [7, 2], [8, 2], [2], [10, 2], [2], [12, 2], [11, 13, 2], [14, 2], [15, 2], [2], [17, 2], [2], [19, 2], [9, 16, 18, 20, 2, 2], [21, 2], [2, 22], [23, 21], [24], [25, 24], [26, 24, 24], [27, 24], [24, 28], [29, 27], [30], [31, 30], [32, 30], [33, 30, 30], [34], [35, 34], [36, 34], [37, 34], [34, 38, 30], [39, 34, 30], [40], [41, 40], [42, 40], [43, 40], [40, 44, 30], [45, 40, 30], [46], [47, 46], [48, 46], [49, 46], [46, 50, 30], [30, 51]] [some 67, some 68, some 69, some 70, some 71, some 72, some 73, some 74, some 75, some 76, some 77, some 78, some 79, some 80, some 81, some 82, some 83, some 84, some 85, some 86, some 87, some 88, some 89, some 90, some 91, some 92, some 93, some 94, some 95, some 96, some 97, some 98, some 99, some 100, some 101, some 102, some 103, some 104, some 105, some 106, some 107, some 108, some 109, some 110, some 111, some 112, some 113, some 114, some 115, some 116, some 117, some 118, some 119] [1, 5, 6] (List.replicate 53 53) (List.replicate 53 []) (List.replicate 53 []) [fun γ_ => .int .i64 (k : Int), fun γ_ => .bool (decide ((k : Int) > 0)), fun γ_ => .bool (decide ((k : Int) > 0)), fun γ_ => undef, fun γ_ => undef, fun γ_ => undef, fun γ_ => undef, fun γ_ => undef, fun γ_ => undef, fun γ_ => undef, fun γ_ => undef, fun γ_ => undef, fun γ_ => undef, fun γ_ => undef, fun γ_ => undef, fun γ_ => undef, fun γ_ => undef, fun γ_ => undef, fun γ_ => undef, fun γ_ => undef, fun γ_ => undef, fun γ_ => undef, fun γ_ => undef, fun γ_ => .bool false, fun γ_ => .bool false, fun γ_ => .pointer (some ⟨b20, 3, none⟩), fun γ_ => .agg #[.int .i64 (a0.Cells.getD k (default : TCell)).Style.Align, .int .i64 (a0.Cells.getD k (default : TCell)).Style.Wrap, .int .i64 (a0.Cells.getD k (default : TCell)).Style.Dir], fun γ_ => .bool (rstyledS (a0.Cells.getD k (default : TCell)).Style), fun γ_ => .bool (!(rstyledS (a0.Cells.getD k (default : TCell)).Style)), fun γ_ => .bool (!(rstyledS (a0.Cells.getD k (default : TCell)).Style)), fun γ_ => .bool (!(rstyledS (a0.Cells.getD k (default : TCell)).Style)), fun γ_ => .pointer (some ⟨b20, 2, none⟩), fun γ_ => vstr (a0.Cells.getD k (default : TCell)).Text, fun γ_ => .bool (decide ((a0.Cells.getD k (default : TCell)).Text = [])), fun γ_ => .bool (decide ((a0.Cells.getD k (default : TCell)).Text = [])), fun γ_ => .pointer (some ⟨b20, 3, none⟩), fun γ_ => .pointer (some ⟨b20, 3, none⟩), fun γ_ => .int .i64 (a0.Cells.getD k (default : TCell)).Style.Align, fun γ_ => .bool ((a0.Cells.getD k (default : TCell)).Style.Align == 0), fun γ_ => .bool ((a0.Cells.getD k (default : TCell)).Style.Align == 0), fun γ_ => .bool ((a0.Cells.getD k (default : TCell)).Style.Align == 0), fun γ_ => .pointer (some ⟨b20, 3, none⟩), fun γ_ => .pointer (some ⟨b20, 4, none⟩), fun γ_ => .int .i64 (a0.Cells.getD k (default : TCell)).Style.Wrap, fun γ_ => .bool ((a0.Cells.getD k (default : TCell)).Style.Wrap == 0), fun γ_ => .bool ((a0.Cells.getD k (default : TCell)).Style.Wrap == 0), fun γ_ => .bool ((a0.Cells.getD k (default : TCell)).Style.Wrap == 0), fun γ_ => .pointer (some ⟨b20, 3, none⟩), fun γ_ => .pointer (some ⟨b20, 5, none⟩), fun γ_ => .int .i64 (a0.Cells.getD k (default : TCell)).Style.Dir, fun γ_ => .bool ((a0.Cells.getD k (default : TCell)).Style.Dir == 0), fun γ_ => .bool ((a0.Cells.getD k (default : TCell)).Style.Dir == 0), fun γ_ => .bool ((a0.Cells.getD k (default : TCell)).Style.Dir == 0)] (List.replicate 53 (fun _ => [])) rfl (by kernel_rfl) (by decide +kernel) hS ?_ ?_
           ·refine ⟨fun g_ w850 fr851 hS => Sv_val rfl (R_move rfl rfl) ⟨gh0, rfl, hS⟩, ?_⟩
            refine ⟨fun g_ w852 fr853 hS => Sv_val rfl (R_bin rfl rfl rfl rfl rfl) ⟨gh0, rfl, hS⟩, ?_⟩
            refine ⟨fun g_ w854 fr855 hS => Sv_val rfl (R_move rfl rfl) ⟨gh0, rfl, hS⟩, ?_⟩
            refine ⟨fun g_ w856 fr857 hS => Sv_off rfl rfl rfl (by rw [hg22]; rfl) ⟨gh0, rfl, hS⟩, ?_⟩
            refine ⟨fun g_ w858 fr859 hS => Sv_off rfl rfl rfl (by rw [hg22]; rfl) ⟨gh0, rfl, hS⟩, ?_⟩
            refine ⟨fun g_ w860 fr861 hS => Sv_off rfl rfl rfl (by rw [hg22]; rfl) ⟨gh0, rfl, hS⟩, ?_⟩
            refine ⟨fun g_ w862 fr863 hS => Sv_off rfl rfl rfl (by rw [hg22]; rfl) ⟨gh0, rfl, hS⟩, ?_⟩
            refine ⟨fun g_ w864 fr865 hS => Sv_off rfl rfl rfl (by rw [hg22]; rfl) ⟨gh0, rfl, hS⟩, ?_⟩
            refine ⟨fun g_ w866 fr867 hS => Sv_off rfl rfl rfl (by rw [hg22]; rfl) ⟨gh0, rfl, hS⟩, ?_⟩
            refine ⟨fun g_ w868 fr869 hS => Sv_off rfl rfl rfl (by rw [hg22]; rfl) ⟨gh0, rfl, hS⟩, ?_⟩
            refine ⟨fun g_ w870 fr871 hS => Sv_off rfl rfl rfl (by rw [hg22]; rfl) ⟨gh0, rfl, hS⟩, ?_⟩
            refine ⟨fun g_ w872 fr873 hS => Sv_off rfl rfl rfl (by rw [hg22]; rfl) ⟨gh0, rfl, hS⟩, ?_⟩
            refine ⟨fun g_ w874 fr875 hS => Sv_off rfl rfl rfl (by rw [hg22]; rfl) ⟨gh0, rfl, hS⟩, ?_⟩
            refine ⟨fun g_ w876 fr877 hS => Sv_off rfl rfl rfl (by rw [hg22]; rfl) ⟨gh0, rfl, hS⟩, ?_⟩
            refine ⟨fun g_ w878 fr879 hS => Sv_off rfl rfl rfl (by rw [hg22]; rfl) ⟨gh0, rfl, hS⟩, ?_⟩
            refine ⟨fun g_ w880 fr881 hS => Sv_off rfl rfl rfl (by rw [hg22]; rfl) ⟨gh0, rfl, hS⟩, ?_⟩
            refine ⟨fun g_ w882 fr883 hS => Sv_off rfl rfl rfl (by rw [hg22]; rfl) ⟨gh0, rfl, hS⟩, ?_⟩
            refine ⟨fun g_ w884 fr885 hS => Sv_off rfl rfl rfl (by rw [hg22]; rfl) ⟨gh0, rfl, hS⟩, ?_⟩
            refine ⟨fun g_ w886 fr887 hS => Sv_off rfl rfl rfl (by rw [hg22]; rfl) ⟨gh0, rfl, hS⟩, ?_⟩
            refine ⟨fun g_ w888 fr889 hS => Sv_off rfl rfl rfl (by rw [hg22]; rfl) ⟨gh0, rfl, hS⟩, ?_⟩
            refine ⟨fun g_ w890 fr891 hS => Sv_off rfl rfl rfl (by rw [hg22]; rfl) ⟨gh0, rfl, hS⟩, ?_⟩
            refine ⟨fun g_ w892 fr893 hS => Sv_off rfl rfl rfl (by rw [hg22]; rfl) ⟨gh0, rfl, hS⟩, ?_⟩
            refine ⟨fun g_ w894 fr895 hS => Sv_off rfl rfl rfl (by rw [hg22]; rfl) ⟨gh0, rfl, hS⟩, ?_⟩
            refine ⟨fun g_ w896 fr897 hS => Sv_val rfl (R_pick_f rfl rfl hg22 rfl) ⟨gh0, rfl, hS⟩, ?_⟩
            refine ⟨fun g_ w898 fr899 hS => Sv_val rfl (R_move rfl rfl) ⟨gh0, rfl, hS⟩, ?_⟩
            refine ⟨fun g_ w900 fr901 hS => (Sv_gt rfl rfl rfl rfl (Sv_val rfl (R_fld rfl rfl fld46_3) ⟨gh0, rfl, hS⟩)), ?_⟩
            refine ⟨fun g_ w902 fr903 hS => (Sv_gt rfl rfl rfl rfl (Sv_val rfl (R_loadN (cs := [.int .i64 (a0.Cells.getD k (default : TCell)).Style.Align, .int .i64 (a0.Cells.getD k (default : TCell)).Style.Wrap, .int .i64 (a0.Cells.getD k (default : TCell)).Style.Dir]) rfl rfl agg44 size44 rfl (boxcells (hS.bx 0 rfl) 3 rfl)) ⟨gh0, rfl, hS⟩)), ?_⟩
            refine ⟨fun g_ w904 fr905 hS => ?_, ?_⟩
            ·have _w904 := trivial
             have hS : Sp (FF []) w z w904 [bR b20 46 [.int .i64 (a0.Cells.getD k (default : TCell)).Row, .int .i64 (a0.Cells.getD k (default : TCell)).Col, vstr (a0.Cells.getD k (default : TCell)).Text, .int .i64 (a0.Cells.getD k (default : TCell)).Style.Align, .int .i64 (a0.Cells.getD k (default : TCell)).Style.Wrap, .int .i64 (a0.Cells.getD k (default : TCell)).Style.Dir], bR b2 39 [.int .i64 a0.Right, .slice Aa0_Widths a0.Widths.length ca0_Widths, .slice Aa0_Heights a0.Heights.length ca0_Heights, .slice Aa0_Cells a0.Cells.length ca0_Cells, .slice Aa0_Merges a0.Merges.length ca0_Merges], allR fr905] := hS
             refine  (Sv_gt rfl rfl rfl rfl (Sv_call rfl rfl rfl ent93 ?_))
             refine (rstyled_calls (a0.Cells.getD k (default : TCell)).Style _ _ hS.out0  ).mono ?_
             rintro e_ w906 ⟨rfl, hS_⟩
             refine ⟨_, rfl, ?_⟩
             have hS := hS.call0 hS_
             exact ⟨⟨fun _ => none, fun _ => 0, fun _ => zE, fun _ => 0⟩, rfl, hS.fin [0, 1, 2] (by decide) rfl⟩
            refine ⟨fun g_ w908 fr909 hS => (Sv_gt rfl rfl rfl rfl (Sv_val rfl (R_un rfl rfl rfl) ⟨gh0, rfl, hS⟩)), ?_⟩
            refine ⟨fun g_ w910 fr911 hS => Sv_val rfl (R_pick_f rfl rfl rfl rfl) ⟨gh0, rfl, hS⟩, ?_⟩
            refine ⟨fun g_ w912 fr913 hS => Sv_val rfl (R_move rfl rfl) ⟨gh0, rfl, hS⟩, ?_⟩
            refine ⟨fun g_ w914 fr915 hS => (Sv_gt rfl rfl rfl hg732 (Sv_val rfl (R_fld rfl rfl fld46_2) ⟨gh0, rfl, hS⟩)), ?_⟩
            refine ⟨fun g_ w916 fr917 hS => (Sv_gt rfl rfl rfl hg732 (Sv_val rfl (R_load1 rfl rfl agg9 ((hS.bx 0 rfl).cell rfl)) ⟨gh0, rfl, hS⟩)), ?_⟩
            refine ⟨fun g_ w918 fr919 hS => (Sv_gt rfl rfl rfl hg732 (Sv_val rfl (R_streql rfl rfl rfl) ⟨gh0, rfl, hS⟩)), ?_⟩
            refine ⟨fun g_ w920 fr921 hS => (Sv_gt rfl rfl rfl hg732 (Sv_val rfl (R_move rfl rfl) ⟨gh0, rfl, hS⟩)), ?_⟩
            refine ⟨fun g_ w922 fr923 hS => (Sv_gt rfl rfl rfl hg845 (Sv_val rfl (R_fld rfl rfl fld46_3) ⟨gh0, rfl, hS⟩)), ?_⟩
            refine ⟨fun g_ w924 fr925 hS => (Sv_gt rfl rfl rfl hg845 (Sv_val rfl (R_fld rfl rfl fld44_0) ⟨gh0, rfl, hS⟩)), ?_⟩
            refine ⟨fun g_ w926 fr927 hS => (Sv_gt rfl rfl rfl hg845 (Sv_val rfl (R_load1 rfl rfl agg3 ((hS.bx 0 rfl).cell rfl)) ⟨gh0, rfl, hS⟩)), ?_⟩
            refine ⟨fun g_ w928 fr929 hS => (Sv_gt rfl rfl rfl hg845 (Sv_val rfl (R_bin rfl rfl rfl rfl rfl) ⟨gh0, rfl, hS⟩)), ?_⟩
            refine ⟨fun g_ w930 fr931 hS => (Sv_gt rfl rfl rfl hg732 (Sv_val rfl (R_pick_t rfl rfl hg845 rfl) ⟨gh0, rfl, hS⟩)), ?_⟩
            refine ⟨fun g_ w932 fr933 hS => (Sv_gt rfl rfl rfl hg732 (Sv_val rfl (R_move rfl rfl) ⟨gh0, rfl, hS⟩)), ?_⟩
            refine ⟨fun g_ w934 fr935 hS => (Sv_gt rfl rfl rfl hg846 (Sv_val rfl (R_fld rfl rfl fld46_3) ⟨gh0, rfl, hS⟩)), ?_⟩
            refine ⟨fun g_ w936 fr937 hS => (Sv_gt rfl rfl rfl hg846 (Sv_val rfl (R_fld rfl rfl fld44_1) ⟨gh0, rfl, hS⟩)), ?_⟩
            refine ⟨fun g_ w938 fr939 hS => (Sv_gt rfl rfl rfl hg846 (Sv_val rfl (R_load1 rfl rfl agg3 ((hS.bx 0 rfl).cell rfl)) ⟨gh0, rfl, hS⟩)), ?_⟩
            refine ⟨fun g_ w940 fr941 hS => (Sv_gt rfl rfl rfl hg846 (Sv_val rfl (R_bin rfl rfl rfl rfl rfl) ⟨gh0, rfl, hS⟩)), ?_⟩
            refine ⟨fun g_ w942 fr943 hS => (Sv_gt rfl rfl rfl hg732 (Sv_val rfl (R_pick_t rfl rfl hg846 rfl) ⟨gh0, rfl, hS⟩)), ?_⟩
            refine ⟨fun g_ w944 fr945 hS => (Sv_gt rfl rfl rfl hg732 (Sv_val rfl (R_move rfl rfl) ⟨gh0, rfl, hS⟩)), ?_⟩
            refine ⟨fun g_ w946 fr947 hS => (Sv_gt rfl rfl rfl hg847 (Sv_val rfl (R_fld rfl rfl fld46_3) ⟨gh0, rfl, hS⟩)), ?_⟩
            refine ⟨fun g_ w948 fr949 hS => (Sv_gt rfl rfl rfl hg847 (Sv_val rfl (R_fld rfl rfl fld44_2) ⟨gh0, rfl, hS⟩)), ?_⟩
            refine ⟨fun g_ w950 fr951 hS => (Sv_gt rfl rfl rfl hg847 (Sv_val rfl (R_load1 rfl rfl agg3 ((hS.bx 0 rfl).cell rfl)) ⟨gh0, rfl, hS⟩)), ?_⟩
            refine ⟨fun g_ w952 fr953 hS => (Sv_gt rfl rfl rfl hg847 (Sv_val rfl (R_bin rfl rfl rfl rfl rfl) ⟨gh0, rfl, hS⟩)), ?_⟩
            refine ⟨fun g_ w954 fr955 hS => (Sv_gt rfl rfl rfl hg732 (Sv_val rfl (R_pick_t rfl rfl hg847 rfl) ⟨gh0, rfl, hS⟩)), ?_⟩
            refine ⟨fun g_ w956 fr957 hS => Sv_val rfl (R_pick_f rfl rfl hg732 rfl) ⟨gh0, rfl, hS⟩, ?_⟩
            exact trivial
           ·intro g_ w958 hS
            have hS : Sp (FF []) w z w958 [bR b20 46 [.int .i64 (a0.Cells.getD k (default : TCell)).Row, .int .i64 (a0.Cells.getD k (default : TCell)).Col, vstr (a0.Cells.getD k (default : TCell)).Text, .int .i64 (a0.Cells.getD k (default : TCell)).Style.Align, .int .i64 (a0.Cells.getD k (default : TCell)).Style.Wrap, .int .i64 (a0.Cells.getD k (default : TCell)).Style.Dir], bR b2 39 [.int .i64 a0.Right, .slice Aa0_Widths a0.Widths.length ca0_Widths, .slice Aa0_Heights a0.Heights.length ca0_Heights, .slice Aa0_Cells a0.Cells.length ca0_Cells, .slice Aa0_Merges a0.Merges.length ca0_Merges]] := hS
            refine An_fr [(1, .pointer (some ⟨b2, 0, none⟩)), (5, .int .i64 (k : Int)), (6, .pointer (some ⟨b20, 0, none⟩)), (119, .bool ((a0.Cells.getD k (default : TCell)).Style.Dir == 0))] rfl ?_
            refine An_done (by decide +kernel) ?_
            refine E_then ?_
            refine C_ite rfl (fun hC6 => ?_) (fun hC6 => ?_)
            ·have _hC6 := trivial
             have hC6p : (a0.Cells.getD k (default : TCell)).Style.Dir = 0 := by simpa using hC6
             refine C_seq ?_
             refine C_region ?_
             refine W_cons rfl (by decide) (Sv_val rfl (R_assign rfl rfl) ?_)
             refine W_nil ?_
             refine E_then ?_
             refine C_ret ?_
             refine E_block_ret ?_
             refine E_then_ret ?_
             refine E_then_ret ?_
             refine E_block_ret ?_
             refine E_then_ret ?_
             refine E_ret1 rfl rfl ?_
             exact ⟨Lret1 (Lbool (show false = (rorderS a0) by first | exact rord_top (by omega) | exact rord_ok (i := i) (j := j) (k := k) (l := l) (by omega) (by omega) hI0_1 (by omega) hI1_1 (by omega) (by omega) hI2_1 (by omega) (by omega) hI3_1 | exact rord_m (i := l) (by omega) (by unfold rmergeS; simp_all) | exact rord_c (i := k) (by omega) (by unfold rcellS; simp_all) | exact rord_h (i := j) (by omega) (by assumption) | exact rord_w (i := i) (by omega) (by assumption))), hS.fin [] (by decide) rfl⟩
            ·have _hC6 := trivial
             have hC6p : ¬ ((a0.Cells.getD k (default : TCell)).Style.Dir = 0) := by simpa using hC6
             refine C_skip ?_
             refine E_block_normal ?_
             refine E_then ?_
             refine C_region ?_
             refine W_cons rfl (by decide) (Sv_val rfl (R_move rfl rfl) ?_)
             refine W_cons rfl (by decide) (Sv_val rfl (R_add64 rfl rfl rfl (by omega) (by omega)) ?_)
             refine W_cons rfl (by decide) (Sv_val rfl (R_assign rfl rfl) ?_)
             refine W_nil ?_
             refine E_round [1, 5] ?_ ⟨(k + 1 : Nat), rfl, (by omega), (by exact range_any_next hI2_1 (by simp_all [rcellS])), rfl, hS.fin [1] (by decide) rfl⟩
             omega
          ·have _hg847 := trivial
           have hg847p : ¬ ((a0.Cells.getD k (default : TCell)).Style.Wrap = 0) := by simpa using hg847
           refine C_fr [(1, .pointer (some ⟨b2, 0, none⟩)), (5, .int .i64 (k : Int)), (6, .pointer (some ⟨b20, 0, none⟩))] rfl ?_
           refine C_drawn2 53 [[], [0], [1], [2], [3, 2], [2], [5, 2], [4, 6, 2], [7, 2], [8, 2], [2], [10, 2], [2], [12, 2], [11, 13, 2], [14, 2], [15, 2], [2], [17, 2], [2], [19, 2], [9, 16, 18, 20, 2, 2], [21, 2], [2, 22], [23, 21], [24], [25, 24], [26, 24, 24], [27, 24], [24, 28], [29, 27], [30], [31, 30], [32, 30], [33, 30, 30], [34], [35, 34], [36, 34], [37, 34], [34, 38, 30], [39, 34, 30], [40], [41, 40], [42, 40], [43, 40], [40, 44, 30], [45, 40, 30], [46], [47, 46], [48, 46], [49, 46], [46, 50, 30], [30, 51]] [some 67, some 68, some 69, some 70, some 71, some 72, some 73, some 74, some 75, some 76, some 77, some 78, some 79, some 80, some 81, some 82, some 83, some 84, some 85, some 86, some 87, some 88, some 89, some 90, some 91, some 92, some 93, some 94, some 95, some 96, some 97, some 98, some 99, some 100, some 101, some 102, some 103, some 104, some 105, some 106, some 107, some 108, some 109, some 110, some 111, some 112, some 113, some 114, some 115, some 116, some 117, some 118, some 119] [1, 5, 6] (List.replicate 53 53) (List.replicate 53 []) (List.replicate 53 []) [fun γ_ => .int .i64 (k : Int), fun γ_ => .bool (decide ((k : Int) > 0)), fun γ_ => .bool (decide ((k : Int) > 0)), fun γ_ => undef, fun γ_ => undef, fun γ_ => undef, fun γ_ => undef, fun γ_ => undef, fun γ_ => undef, fun γ_ => undef, fun γ_ => undef, fun γ_ => undef, fun γ_ => undef, fun γ_ => undef, fun γ_ => undef, fun γ_ => undef, fun γ_ => undef, fun γ_ => undef, fun γ_ => undef, fun γ_ => undef, fun γ_ => undef, fun γ_ => undef, fun γ_ => undef, fun γ_ => .bool false, fun γ_ => .bool false, fun γ_ => .pointer (some ⟨b20, 3, none⟩), fun γ_ => .agg #[.int .i64 (a0.Cells.getD k (default : TCell)).Style.Align, .int .i64 (a0.Cells.getD k (default : TCell)).Style.Wrap, .int .i64 (a0.Cells.getD k (default : TCell)).Style.Dir], fun γ_ => .bool (rstyledS (a0.Cells.getD k (default : TCell)).Style), fun γ_ => .bool (!(rstyledS (a0.Cells.getD k (default : TCell)).Style)), fun γ_ => .bool (!(rstyledS (a0.Cells.getD k (default : TCell)).Style)), fun γ_ => .bool (!(rstyledS (a0.Cells.getD k (default : TCell)).Style)), fun γ_ => .pointer (some ⟨b20, 2, none⟩), fun γ_ => vstr (a0.Cells.getD k (default : TCell)).Text, fun γ_ => .bool (decide ((a0.Cells.getD k (default : TCell)).Text = [])), fun γ_ => .bool (decide ((a0.Cells.getD k (default : TCell)).Text = [])), fun γ_ => .pointer (some ⟨b20, 3, none⟩), fun γ_ => .pointer (some ⟨b20, 3, none⟩), fun γ_ => .int .i64 (a0.Cells.getD k (default : TCell)).Style.Align, fun γ_ => .bool ((a0.Cells.getD k (default : TCell)).Style.Align == 0), fun γ_ => .bool ((a0.Cells.getD k (default : TCell)).Style.Align == 0), fun γ_ => .bool ((a0.Cells.getD k (default : TCell)).Style.Align == 0), fun γ_ => .pointer (some ⟨b20, 3, none⟩), fun γ_ => .pointer (some ⟨b20, 4, none⟩), fun γ_ => .int .i64 (a0.Cells.getD k (default : TCell)).Style.Wrap, fun γ_ => .bool ((a0.Cells.getD k (default : TCell)).Style.Wrap == 0), fun γ_ => .bool ((a0.Cells.getD k (default : TCell)).Style.Wrap == 0), fun γ_ => .bool ((a0.Cells.getD k (default : TCell)).Style.Wrap == 0), fun γ_ => undef, fun γ_ => undef, fun γ_ => undef, fun γ_ => undef, fun γ_ => .bool false, fun γ_ => .bool false] (List.replicate 53 (fun _ => [])) rfl (by kernel_rfl) (by decide +kernel) hS ?_ ?_
           ·refine ⟨fun g_ w962 fr963 hS => Sv_val rfl (R_move rfl rfl) ⟨gh0, rfl, hS⟩, ?_⟩
            refine ⟨fun g_ w964 fr965 hS => Sv_val rfl (R_bin rfl rfl rfl rfl rfl) ⟨gh0, rfl, hS⟩, ?_⟩
            refine ⟨fun g_ w966 fr967 hS => Sv_val rfl (R_move rfl rfl) ⟨gh0, rfl, hS⟩, ?_⟩
            refine ⟨fun g_ w968 fr969 hS => Sv_off rfl rfl rfl (by rw [hg22]; rfl) ⟨gh0, rfl, hS⟩, ?_⟩
            refine ⟨fun g_ w970 fr971 hS => Sv_off rfl rfl rfl (by rw [hg22]; rfl) ⟨gh0, rfl, hS⟩, ?_⟩
            refine ⟨fun g_ w972 fr973 hS => Sv_off rfl rfl rfl (by rw [hg22]; rfl) ⟨gh0, rfl, hS⟩, ?_⟩
            refine ⟨fun g_ w974 fr975 hS => Sv_off rfl rfl rfl (by rw [hg22]; rfl) ⟨gh0, rfl, hS⟩, ?_⟩
            refine ⟨fun g_ w976 fr977 hS => Sv_off rfl rfl rfl (by rw [hg22]; rfl) ⟨gh0, rfl, hS⟩, ?_⟩
            refine ⟨fun g_ w978 fr979 hS => Sv_off rfl rfl rfl (by rw [hg22]; rfl) ⟨gh0, rfl, hS⟩, ?_⟩
            refine ⟨fun g_ w980 fr981 hS => Sv_off rfl rfl rfl (by rw [hg22]; rfl) ⟨gh0, rfl, hS⟩, ?_⟩
            refine ⟨fun g_ w982 fr983 hS => Sv_off rfl rfl rfl (by rw [hg22]; rfl) ⟨gh0, rfl, hS⟩, ?_⟩
            refine ⟨fun g_ w984 fr985 hS => Sv_off rfl rfl rfl (by rw [hg22]; rfl) ⟨gh0, rfl, hS⟩, ?_⟩
            refine ⟨fun g_ w986 fr987 hS => Sv_off rfl rfl rfl (by rw [hg22]; rfl) ⟨gh0, rfl, hS⟩, ?_⟩
            refine ⟨fun g_ w988 fr989 hS => Sv_off rfl rfl rfl (by rw [hg22]; rfl) ⟨gh0, rfl, hS⟩, ?_⟩
            refine ⟨fun g_ w990 fr991 hS => Sv_off rfl rfl rfl (by rw [hg22]; rfl) ⟨gh0, rfl, hS⟩, ?_⟩
            refine ⟨fun g_ w992 fr993 hS => Sv_off rfl rfl rfl (by rw [hg22]; rfl) ⟨gh0, rfl, hS⟩, ?_⟩
            refine ⟨fun g_ w994 fr995 hS => Sv_off rfl rfl rfl (by rw [hg22]; rfl) ⟨gh0, rfl, hS⟩, ?_⟩
            refine ⟨fun g_ w996 fr997 hS => Sv_off rfl rfl rfl (by rw [hg22]; rfl) ⟨gh0, rfl, hS⟩, ?_⟩
            refine ⟨fun g_ w998 fr999 hS => Sv_off rfl rfl rfl (by rw [hg22]; rfl) ⟨gh0, rfl, hS⟩, ?_⟩
            refine ⟨fun g_ w1000 fr1001 hS => Sv_off rfl rfl rfl (by rw [hg22]; rfl) ⟨gh0, rfl, hS⟩, ?_⟩
            refine ⟨fun g_ w1002 fr1003 hS => Sv_off rfl rfl rfl (by rw [hg22]; rfl) ⟨gh0, rfl, hS⟩, ?_⟩
            refine ⟨fun g_ w1004 fr1005 hS => Sv_off rfl rfl rfl (by rw [hg22]; rfl) ⟨gh0, rfl, hS⟩, ?_⟩
            refine ⟨fun g_ w1006 fr1007 hS => Sv_off rfl rfl rfl (by rw [hg22]; rfl) ⟨gh0, rfl, hS⟩, ?_⟩
            refine ⟨fun g_ w1008 fr1009 hS => Sv_val rfl (R_pick_f rfl rfl hg22 rfl) ⟨gh0, rfl, hS⟩, ?_⟩
            refine ⟨fun g_ w1010 fr1011 hS => Sv_val rfl (R_move rfl rfl) ⟨gh0, rfl, hS⟩, ?_⟩
            refine ⟨fun g_ w1012 fr1013 hS => (Sv_gt rfl rfl rfl rfl (Sv_val rfl (R_fld rfl rfl fld46_3) ⟨gh0, rfl, hS⟩)), ?_⟩
            refine ⟨fun g_ w1014 fr1015 hS => (Sv_gt rfl rfl rfl rfl (Sv_val rfl (R_loadN (cs := [.int .i64 (a0.Cells.getD k (default : TCell)).Style.Align, .int .i64 (a0.Cells.getD k (default : TCell)).Style.Wrap, .int .i64 (a0.Cells.getD k (default : TCell)).Style.Dir]) rfl rfl agg44 size44 rfl (boxcells (hS.bx 0 rfl) 3 rfl)) ⟨gh0, rfl, hS⟩)), ?_⟩
            refine ⟨fun g_ w1016 fr1017 hS => ?_, ?_⟩
            ·have _w1016 := trivial
             have hS : Sp (FF []) w z w1016 [bR b20 46 [.int .i64 (a0.Cells.getD k (default : TCell)).Row, .int .i64 (a0.Cells.getD k (default : TCell)).Col, vstr (a0.Cells.getD k (default : TCell)).Text, .int .i64 (a0.Cells.getD k (default : TCell)).Style.Align, .int .i64 (a0.Cells.getD k (default : TCell)).Style.Wrap, .int .i64 (a0.Cells.getD k (default : TCell)).Style.Dir], bR b2 39 [.int .i64 a0.Right, .slice Aa0_Widths a0.Widths.length ca0_Widths, .slice Aa0_Heights a0.Heights.length ca0_Heights, .slice Aa0_Cells a0.Cells.length ca0_Cells, .slice Aa0_Merges a0.Merges.length ca0_Merges], allR fr1017] := hS
             refine  (Sv_gt rfl rfl rfl rfl (Sv_call rfl rfl rfl ent93 ?_))
             refine (rstyled_calls (a0.Cells.getD k (default : TCell)).Style _ _ hS.out0  ).mono ?_
             rintro e_ w1018 ⟨rfl, hS_⟩
             refine ⟨_, rfl, ?_⟩
             have hS := hS.call0 hS_
             exact ⟨⟨fun _ => none, fun _ => 0, fun _ => zE, fun _ => 0⟩, rfl, hS.fin [0, 1, 2] (by decide) rfl⟩
            refine ⟨fun g_ w1020 fr1021 hS => (Sv_gt rfl rfl rfl rfl (Sv_val rfl (R_un rfl rfl rfl) ⟨gh0, rfl, hS⟩)), ?_⟩
            refine ⟨fun g_ w1022 fr1023 hS => Sv_val rfl (R_pick_f rfl rfl rfl rfl) ⟨gh0, rfl, hS⟩, ?_⟩
            refine ⟨fun g_ w1024 fr1025 hS => Sv_val rfl (R_move rfl rfl) ⟨gh0, rfl, hS⟩, ?_⟩
            refine ⟨fun g_ w1026 fr1027 hS => (Sv_gt rfl rfl rfl hg732 (Sv_val rfl (R_fld rfl rfl fld46_2) ⟨gh0, rfl, hS⟩)), ?_⟩
            refine ⟨fun g_ w1028 fr1029 hS => (Sv_gt rfl rfl rfl hg732 (Sv_val rfl (R_load1 rfl rfl agg9 ((hS.bx 0 rfl).cell rfl)) ⟨gh0, rfl, hS⟩)), ?_⟩
            refine ⟨fun g_ w1030 fr1031 hS => (Sv_gt rfl rfl rfl hg732 (Sv_val rfl (R_streql rfl rfl rfl) ⟨gh0, rfl, hS⟩)), ?_⟩
            refine ⟨fun g_ w1032 fr1033 hS => (Sv_gt rfl rfl rfl hg732 (Sv_val rfl (R_move rfl rfl) ⟨gh0, rfl, hS⟩)), ?_⟩
            refine ⟨fun g_ w1034 fr1035 hS => (Sv_gt rfl rfl rfl hg845 (Sv_val rfl (R_fld rfl rfl fld46_3) ⟨gh0, rfl, hS⟩)), ?_⟩
            refine ⟨fun g_ w1036 fr1037 hS => (Sv_gt rfl rfl rfl hg845 (Sv_val rfl (R_fld rfl rfl fld44_0) ⟨gh0, rfl, hS⟩)), ?_⟩
            refine ⟨fun g_ w1038 fr1039 hS => (Sv_gt rfl rfl rfl hg845 (Sv_val rfl (R_load1 rfl rfl agg3 ((hS.bx 0 rfl).cell rfl)) ⟨gh0, rfl, hS⟩)), ?_⟩
            refine ⟨fun g_ w1040 fr1041 hS => (Sv_gt rfl rfl rfl hg845 (Sv_val rfl (R_bin rfl rfl rfl rfl rfl) ⟨gh0, rfl, hS⟩)), ?_⟩
            refine ⟨fun g_ w1042 fr1043 hS => (Sv_gt rfl rfl rfl hg732 (Sv_val rfl (R_pick_t rfl rfl hg845 rfl) ⟨gh0, rfl, hS⟩)), ?_⟩
            refine ⟨fun g_ w1044 fr1045 hS => (Sv_gt rfl rfl rfl hg732 (Sv_val rfl (R_move rfl rfl) ⟨gh0, rfl, hS⟩)), ?_⟩
            refine ⟨fun g_ w1046 fr1047 hS => (Sv_gt rfl rfl rfl hg846 (Sv_val rfl (R_fld rfl rfl fld46_3) ⟨gh0, rfl, hS⟩)), ?_⟩
            refine ⟨fun g_ w1048 fr1049 hS => (Sv_gt rfl rfl rfl hg846 (Sv_val rfl (R_fld rfl rfl fld44_1) ⟨gh0, rfl, hS⟩)), ?_⟩
            refine ⟨fun g_ w1050 fr1051 hS => (Sv_gt rfl rfl rfl hg846 (Sv_val rfl (R_load1 rfl rfl agg3 ((hS.bx 0 rfl).cell rfl)) ⟨gh0, rfl, hS⟩)), ?_⟩
            refine ⟨fun g_ w1052 fr1053 hS => (Sv_gt rfl rfl rfl hg846 (Sv_val rfl (R_bin rfl rfl rfl rfl rfl) ⟨gh0, rfl, hS⟩)), ?_⟩
            refine ⟨fun g_ w1054 fr1055 hS => (Sv_gt rfl rfl rfl hg732 (Sv_val rfl (R_pick_t rfl rfl hg846 rfl) ⟨gh0, rfl, hS⟩)), ?_⟩
            refine ⟨fun g_ w1056 fr1057 hS => (Sv_gt rfl rfl rfl hg732 (Sv_val rfl (R_move rfl rfl) ⟨gh0, rfl, hS⟩)), ?_⟩
            refine ⟨fun g_ w1058 fr1059 hS => Sv_off rfl rfl rfl (by rw [hg847]; rfl) ⟨gh0, rfl, hS⟩, ?_⟩
            refine ⟨fun g_ w1060 fr1061 hS => Sv_off rfl rfl rfl (by rw [hg847]; rfl) ⟨gh0, rfl, hS⟩, ?_⟩
            refine ⟨fun g_ w1062 fr1063 hS => Sv_off rfl rfl rfl (by rw [hg847]; rfl) ⟨gh0, rfl, hS⟩, ?_⟩
            refine ⟨fun g_ w1064 fr1065 hS => Sv_off rfl rfl rfl (by rw [hg847]; rfl) ⟨gh0, rfl, hS⟩, ?_⟩
            refine ⟨fun g_ w1066 fr1067 hS => (Sv_gt rfl rfl rfl hg732 (Sv_val rfl (R_pick_f rfl rfl hg847 rfl) ⟨gh0, rfl, hS⟩)), ?_⟩
            refine ⟨fun g_ w1068 fr1069 hS => Sv_val rfl (R_pick_f rfl rfl hg732 rfl) ⟨gh0, rfl, hS⟩, ?_⟩
            exact trivial
           ·intro g_ w1070 hS
            have hS : Sp (FF []) w z w1070 [bR b20 46 [.int .i64 (a0.Cells.getD k (default : TCell)).Row, .int .i64 (a0.Cells.getD k (default : TCell)).Col, vstr (a0.Cells.getD k (default : TCell)).Text, .int .i64 (a0.Cells.getD k (default : TCell)).Style.Align, .int .i64 (a0.Cells.getD k (default : TCell)).Style.Wrap, .int .i64 (a0.Cells.getD k (default : TCell)).Style.Dir], bR b2 39 [.int .i64 a0.Right, .slice Aa0_Widths a0.Widths.length ca0_Widths, .slice Aa0_Heights a0.Heights.length ca0_Heights, .slice Aa0_Cells a0.Cells.length ca0_Cells, .slice Aa0_Merges a0.Merges.length ca0_Merges]] := hS
            refine An_fr [(1, .pointer (some ⟨b2, 0, none⟩)), (5, .int .i64 (k : Int)), (6, .pointer (some ⟨b20, 0, none⟩)), (119, .bool false)] rfl ?_
            refine An_done (by decide +kernel) ?_
            refine E_then ?_
            refine C_else rfl rfl ?_
            refine C_skip ?_
            refine E_block_normal ?_
            refine E_then ?_
            refine C_region ?_
            refine W_cons rfl (by decide) (Sv_val rfl (R_move rfl rfl) ?_)
            refine W_cons rfl (by decide) (Sv_val rfl (R_add64 rfl rfl rfl (by omega) (by omega)) ?_)
            refine W_cons rfl (by decide) (Sv_val rfl (R_assign rfl rfl) ?_)
            refine W_nil ?_
            refine E_round [1, 5] ?_ ⟨(k + 1 : Nat), rfl, (by omega), (by exact range_any_next hI2_1 (by simp_all [rcellS])), rfl, hS.fin [1] (by decide) rfl⟩
            omega
         ·have _hg846 := trivial
          have hg846p : ¬ ((a0.Cells.getD k (default : TCell)).Style.Align = 0) := by simpa using hg846
          refine C_fr [(1, .pointer (some ⟨b2, 0, none⟩)), (5, .int .i64 (k : Int)), (6, .pointer (some ⟨b20, 0, none⟩))] rfl ?_
          refine C_drawn2 53 [[], [0], [1], [2], [3, 2], [2], [5, 2], [4, 6, 2], [7, 2], [8, 2], [2], [10, 2], [2], [12, 2], [11, 13, 2], [14, 2], [15, 2], [2], [17, 2], [2], [19, 2], [9, 16, 18, 20, 2, 2], [21, 2], [2, 22], [23, 21], [24], [25, 24], [26, 24, 24], [27, 24], [24, 28], [29, 27], [30], [31, 30], [32, 30], [33, 30, 30], [34], [35, 34], [36, 34], [37, 34], [34, 38, 30], [39, 34, 30], [40], [41, 40], [42, 40], [43, 40], [40, 44, 30], [45, 40, 30], [46], [47, 46], [48, 46], [49, 46], [46, 50, 30], [30, 51]] [some 67, some 68, some 69, some 70, some 71, some 72, some 73, some 74, some 75, some 76, some 77, some 78, some 79, some 80, some 81, some 82, some 83, some 84, some 85, some 86, some 87, some 88, some 89, some 90, some 91, some 92, some 93, some 94, some 95, some 96, some 97, some 98, some 99, some 100, some 101, some 102, some 103, some 104, some 105, some 106, some 107, some 108, some 109, some 110, some 111, some 112, some 113, some 114, some 115, some 116, some 117, some 118, some 119] [1, 5, 6] (List.replicate 53 53) (List.replicate 53 []) (List.replicate 53 []) [fun γ_ => .int .i64 (k : Int), fun γ_ => .bool (decide ((k : Int) > 0)), fun γ_ => .bool (decide ((k : Int) > 0)), fun γ_ => undef, fun γ_ => undef, fun γ_ => undef, fun γ_ => undef, fun γ_ => undef, fun γ_ => undef, fun γ_ => undef, fun γ_ => undef, fun γ_ => undef, fun γ_ => undef, fun γ_ => undef, fun γ_ => undef, fun γ_ => undef, fun γ_ => undef, fun γ_ => undef, fun γ_ => undef, fun γ_ => undef, fun γ_ => undef, fun γ_ => undef, fun γ_ => undef, fun γ_ => .bool false, fun γ_ => .bool false, fun γ_ => .pointer (some ⟨b20, 3, none⟩), fun γ_ => .agg #[.int .i64 (a0.Cells.getD k (default : TCell)).Style.Align, .int .i64 (a0.Cells.getD k (default : TCell)).Style.Wrap, .int .i64 (a0.Cells.getD k (default : TCell)).Style.Dir], fun γ_ => .bool (rstyledS (a0.Cells.getD k (default : TCell)).Style), fun γ_ => .bool (!(rstyledS (a0.Cells.getD k (default : TCell)).Style)), fun γ_ => .bool (!(rstyledS (a0.Cells.getD k (default : TCell)).Style)), fun γ_ => .bool (!(rstyledS (a0.Cells.getD k (default : TCell)).Style)), fun γ_ => .pointer (some ⟨b20, 2, none⟩), fun γ_ => vstr (a0.Cells.getD k (default : TCell)).Text, fun γ_ => .bool (decide ((a0.Cells.getD k (default : TCell)).Text = [])), fun γ_ => .bool (decide ((a0.Cells.getD k (default : TCell)).Text = [])), fun γ_ => .pointer (some ⟨b20, 3, none⟩), fun γ_ => .pointer (some ⟨b20, 3, none⟩), fun γ_ => .int .i64 (a0.Cells.getD k (default : TCell)).Style.Align, fun γ_ => .bool ((a0.Cells.getD k (default : TCell)).Style.Align == 0), fun γ_ => .bool ((a0.Cells.getD k (default : TCell)).Style.Align == 0), fun γ_ => .bool ((a0.Cells.getD k (default : TCell)).Style.Align == 0), fun γ_ => undef, fun γ_ => undef, fun γ_ => undef, fun γ_ => undef, fun γ_ => .bool false, fun γ_ => .bool false, fun γ_ => undef, fun γ_ => undef, fun γ_ => undef, fun γ_ => undef, fun γ_ => .bool false, fun γ_ => .bool false] (List.replicate 53 (fun _ => [])) rfl (by kernel_rfl) (by decide +kernel) hS ?_ ?_
          ·refine ⟨fun g_ w1074 fr1075 hS => Sv_val rfl (R_move rfl rfl) ⟨gh0, rfl, hS⟩, ?_⟩
           refine ⟨fun g_ w1076 fr1077 hS => Sv_val rfl (R_bin rfl rfl rfl rfl rfl) ⟨gh0, rfl, hS⟩, ?_⟩
           refine ⟨fun g_ w1078 fr1079 hS => Sv_val rfl (R_move rfl rfl) ⟨gh0, rfl, hS⟩, ?_⟩
           refine ⟨fun g_ w1080 fr1081 hS => Sv_off rfl rfl rfl (by rw [hg22]; rfl) ⟨gh0, rfl, hS⟩, ?_⟩
           refine ⟨fun g_ w1082 fr1083 hS => Sv_off rfl rfl rfl (by rw [hg22]; rfl) ⟨gh0, rfl, hS⟩, ?_⟩
           refine ⟨fun g_ w1084 fr1085 hS => Sv_off rfl rfl rfl (by rw [hg22]; rfl) ⟨gh0, rfl, hS⟩, ?_⟩
           refine ⟨fun g_ w1086 fr1087 hS => Sv_off rfl rfl rfl (by rw [hg22]; rfl) ⟨gh0, rfl, hS⟩, ?_⟩
           refine ⟨fun g_ w1088 fr1089 hS => Sv_off rfl rfl rfl (by rw [hg22]; rfl) ⟨gh0, rfl, hS⟩, ?_⟩
           refine ⟨fun g_ w1090 fr1091 hS => Sv_off rfl rfl rfl (by rw [hg22]; rfl) ⟨gh0, rfl, hS⟩, ?_⟩
           refine ⟨fun g_ w1092 fr1093 hS => Sv_off rfl rfl rfl (by rw [hg22]; rfl) ⟨gh0, rfl, hS⟩, ?_⟩
           refine ⟨fun g_ w1094 fr1095 hS => Sv_off rfl rfl rfl (by rw [hg22]; rfl) ⟨gh0, rfl, hS⟩, ?_⟩
           refine ⟨fun g_ w1096 fr1097 hS => Sv_off rfl rfl rfl (by rw [hg22]; rfl) ⟨gh0, rfl, hS⟩, ?_⟩
           refine ⟨fun g_ w1098 fr1099 hS => Sv_off rfl rfl rfl (by rw [hg22]; rfl) ⟨gh0, rfl, hS⟩, ?_⟩
           refine ⟨fun g_ w1100 fr1101 hS => Sv_off rfl rfl rfl (by rw [hg22]; rfl) ⟨gh0, rfl, hS⟩, ?_⟩
           refine ⟨fun g_ w1102 fr1103 hS => Sv_off rfl rfl rfl (by rw [hg22]; rfl) ⟨gh0, rfl, hS⟩, ?_⟩
           refine ⟨fun g_ w1104 fr1105 hS => Sv_off rfl rfl rfl (by rw [hg22]; rfl) ⟨gh0, rfl, hS⟩, ?_⟩
           refine ⟨fun g_ w1106 fr1107 hS => Sv_off rfl rfl rfl (by rw [hg22]; rfl) ⟨gh0, rfl, hS⟩, ?_⟩
           refine ⟨fun g_ w1108 fr1109 hS => Sv_off rfl rfl rfl (by rw [hg22]; rfl) ⟨gh0, rfl, hS⟩, ?_⟩
           refine ⟨fun g_ w1110 fr1111 hS => Sv_off rfl rfl rfl (by rw [hg22]; rfl) ⟨gh0, rfl, hS⟩, ?_⟩
           refine ⟨fun g_ w1112 fr1113 hS => Sv_off rfl rfl rfl (by rw [hg22]; rfl) ⟨gh0, rfl, hS⟩, ?_⟩
           refine ⟨fun g_ w1114 fr1115 hS => Sv_off rfl rfl rfl (by rw [hg22]; rfl) ⟨gh0, rfl, hS⟩, ?_⟩
           refine ⟨fun g_ w1116 fr1117 hS => Sv_off rfl rfl rfl (by rw [hg22]; rfl) ⟨gh0, rfl, hS⟩, ?_⟩
           refine ⟨fun g_ w1118 fr1119 hS => Sv_off rfl rfl rfl (by rw [hg22]; rfl) ⟨gh0, rfl, hS⟩, ?_⟩
           refine ⟨fun g_ w1120 fr1121 hS => Sv_val rfl (R_pick_f rfl rfl hg22 rfl) ⟨gh0, rfl, hS⟩, ?_⟩
           refine ⟨fun g_ w1122 fr1123 hS => Sv_val rfl (R_move rfl rfl) ⟨gh0, rfl, hS⟩, ?_⟩
           refine ⟨fun g_ w1124 fr1125 hS => (Sv_gt rfl rfl rfl rfl (Sv_val rfl (R_fld rfl rfl fld46_3) ⟨gh0, rfl, hS⟩)), ?_⟩
           refine ⟨fun g_ w1126 fr1127 hS => (Sv_gt rfl rfl rfl rfl (Sv_val rfl (R_loadN (cs := [.int .i64 (a0.Cells.getD k (default : TCell)).Style.Align, .int .i64 (a0.Cells.getD k (default : TCell)).Style.Wrap, .int .i64 (a0.Cells.getD k (default : TCell)).Style.Dir]) rfl rfl agg44 size44 rfl (boxcells (hS.bx 0 rfl) 3 rfl)) ⟨gh0, rfl, hS⟩)), ?_⟩
           refine ⟨fun g_ w1128 fr1129 hS => ?_, ?_⟩
           ·have _w1128 := trivial
            have hS : Sp (FF []) w z w1128 [bR b20 46 [.int .i64 (a0.Cells.getD k (default : TCell)).Row, .int .i64 (a0.Cells.getD k (default : TCell)).Col, vstr (a0.Cells.getD k (default : TCell)).Text, .int .i64 (a0.Cells.getD k (default : TCell)).Style.Align, .int .i64 (a0.Cells.getD k (default : TCell)).Style.Wrap, .int .i64 (a0.Cells.getD k (default : TCell)).Style.Dir], bR b2 39 [.int .i64 a0.Right, .slice Aa0_Widths a0.Widths.length ca0_Widths, .slice Aa0_Heights a0.Heights.length ca0_Heights, .slice Aa0_Cells a0.Cells.length ca0_Cells, .slice Aa0_Merges a0.Merges.length ca0_Merges], allR fr1129] := hS
            refine  (Sv_gt rfl rfl rfl rfl (Sv_call rfl rfl rfl ent93 ?_))
            refine (rstyled_calls (a0.Cells.getD k (default : TCell)).Style _ _ hS.out0  ).mono ?_
            rintro e_ w1130 ⟨rfl, hS_⟩
            refine ⟨_, rfl, ?_⟩
            have hS := hS.call0 hS_
            exact ⟨⟨fun _ => none, fun _ => 0, fun _ => zE, fun _ => 0⟩, rfl, hS.fin [0, 1, 2] (by decide) rfl⟩
           refine ⟨fun g_ w1132 fr1133 hS => (Sv_gt rfl rfl rfl rfl (Sv_val rfl (R_un rfl rfl rfl) ⟨gh0, rfl, hS⟩)), ?_⟩
           refine ⟨fun g_ w1134 fr1135 hS => Sv_val rfl (R_pick_f rfl rfl rfl rfl) ⟨gh0, rfl, hS⟩, ?_⟩
           refine ⟨fun g_ w1136 fr1137 hS => Sv_val rfl (R_move rfl rfl) ⟨gh0, rfl, hS⟩, ?_⟩
           refine ⟨fun g_ w1138 fr1139 hS => (Sv_gt rfl rfl rfl hg732 (Sv_val rfl (R_fld rfl rfl fld46_2) ⟨gh0, rfl, hS⟩)), ?_⟩
           refine ⟨fun g_ w1140 fr1141 hS => (Sv_gt rfl rfl rfl hg732 (Sv_val rfl (R_load1 rfl rfl agg9 ((hS.bx 0 rfl).cell rfl)) ⟨gh0, rfl, hS⟩)), ?_⟩
           refine ⟨fun g_ w1142 fr1143 hS => (Sv_gt rfl rfl rfl hg732 (Sv_val rfl (R_streql rfl rfl rfl) ⟨gh0, rfl, hS⟩)), ?_⟩
           refine ⟨fun g_ w1144 fr1145 hS => (Sv_gt rfl rfl rfl hg732 (Sv_val rfl (R_move rfl rfl) ⟨gh0, rfl, hS⟩)), ?_⟩
           refine ⟨fun g_ w1146 fr1147 hS => (Sv_gt rfl rfl rfl hg845 (Sv_val rfl (R_fld rfl rfl fld46_3) ⟨gh0, rfl, hS⟩)), ?_⟩
           refine ⟨fun g_ w1148 fr1149 hS => (Sv_gt rfl rfl rfl hg845 (Sv_val rfl (R_fld rfl rfl fld44_0) ⟨gh0, rfl, hS⟩)), ?_⟩
           refine ⟨fun g_ w1150 fr1151 hS => (Sv_gt rfl rfl rfl hg845 (Sv_val rfl (R_load1 rfl rfl agg3 ((hS.bx 0 rfl).cell rfl)) ⟨gh0, rfl, hS⟩)), ?_⟩
           refine ⟨fun g_ w1152 fr1153 hS => (Sv_gt rfl rfl rfl hg845 (Sv_val rfl (R_bin rfl rfl rfl rfl rfl) ⟨gh0, rfl, hS⟩)), ?_⟩
           refine ⟨fun g_ w1154 fr1155 hS => (Sv_gt rfl rfl rfl hg732 (Sv_val rfl (R_pick_t rfl rfl hg845 rfl) ⟨gh0, rfl, hS⟩)), ?_⟩
           refine ⟨fun g_ w1156 fr1157 hS => (Sv_gt rfl rfl rfl hg732 (Sv_val rfl (R_move rfl rfl) ⟨gh0, rfl, hS⟩)), ?_⟩
           refine ⟨fun g_ w1158 fr1159 hS => Sv_off rfl rfl rfl (by rw [hg846]; rfl) ⟨gh0, rfl, hS⟩, ?_⟩
           refine ⟨fun g_ w1160 fr1161 hS => Sv_off rfl rfl rfl (by rw [hg846]; rfl) ⟨gh0, rfl, hS⟩, ?_⟩
           refine ⟨fun g_ w1162 fr1163 hS => Sv_off rfl rfl rfl (by rw [hg846]; rfl) ⟨gh0, rfl, hS⟩, ?_⟩
           refine ⟨fun g_ w1164 fr1165 hS => Sv_off rfl rfl rfl (by rw [hg846]; rfl) ⟨gh0, rfl, hS⟩, ?_⟩
           refine ⟨fun g_ w1166 fr1167 hS => (Sv_gt rfl rfl rfl hg732 (Sv_val rfl (R_pick_f rfl rfl hg846 rfl) ⟨gh0, rfl, hS⟩)), ?_⟩
           refine ⟨fun g_ w1168 fr1169 hS => (Sv_gt rfl rfl rfl hg732 (Sv_val rfl (R_move rfl rfl) ⟨gh0, rfl, hS⟩)), ?_⟩
           refine ⟨fun g_ w1170 fr1171 hS => Sv_off rfl rfl rfl rfl ⟨gh0, rfl, hS⟩, ?_⟩
           refine ⟨fun g_ w1172 fr1173 hS => Sv_off rfl rfl rfl rfl ⟨gh0, rfl, hS⟩, ?_⟩
           refine ⟨fun g_ w1174 fr1175 hS => Sv_off rfl rfl rfl rfl ⟨gh0, rfl, hS⟩, ?_⟩
           refine ⟨fun g_ w1176 fr1177 hS => Sv_off rfl rfl rfl rfl ⟨gh0, rfl, hS⟩, ?_⟩
           refine ⟨fun g_ w1178 fr1179 hS => (Sv_gt rfl rfl rfl hg732 (Sv_val rfl (R_pick_f rfl rfl rfl rfl) ⟨gh0, rfl, hS⟩)), ?_⟩
           refine ⟨fun g_ w1180 fr1181 hS => Sv_val rfl (R_pick_f rfl rfl hg732 rfl) ⟨gh0, rfl, hS⟩, ?_⟩
           exact trivial
          ·intro g_ w1182 hS
           have hS : Sp (FF []) w z w1182 [bR b20 46 [.int .i64 (a0.Cells.getD k (default : TCell)).Row, .int .i64 (a0.Cells.getD k (default : TCell)).Col, vstr (a0.Cells.getD k (default : TCell)).Text, .int .i64 (a0.Cells.getD k (default : TCell)).Style.Align, .int .i64 (a0.Cells.getD k (default : TCell)).Style.Wrap, .int .i64 (a0.Cells.getD k (default : TCell)).Style.Dir], bR b2 39 [.int .i64 a0.Right, .slice Aa0_Widths a0.Widths.length ca0_Widths, .slice Aa0_Heights a0.Heights.length ca0_Heights, .slice Aa0_Cells a0.Cells.length ca0_Cells, .slice Aa0_Merges a0.Merges.length ca0_Merges]] := hS
           refine An_fr [(1, .pointer (some ⟨b2, 0, none⟩)), (5, .int .i64 (k : Int)), (6, .pointer (some ⟨b20, 0, none⟩)), (119, .bool false)] rfl ?_
           refine An_done (by decide +kernel) ?_
           refine E_then ?_
           refine C_else rfl rfl ?_
           refine C_skip ?_
           refine E_block_normal ?_
           refine E_then ?_
           refine C_region ?_
           refine W_cons rfl (by decide) (Sv_val rfl (R_move rfl rfl) ?_)
           refine W_cons rfl (by decide) (Sv_val rfl (R_add64 rfl rfl rfl (by omega) (by omega)) ?_)
           refine W_cons rfl (by decide) (Sv_val rfl (R_assign rfl rfl) ?_)
           refine W_nil ?_
           refine E_round [1, 5] ?_ ⟨(k + 1 : Nat), rfl, (by omega), (by exact range_any_next hI2_1 (by simp_all [rcellS])), rfl, hS.fin [1] (by decide) rfl⟩
           omega
        ·have _hg845 := trivial
         have hg845p : ¬ ((a0.Cells.getD k (default : TCell)).Text = []) := by simpa using hg845
         refine C_fr [(1, .pointer (some ⟨b2, 0, none⟩)), (5, .int .i64 (k : Int)), (6, .pointer (some ⟨b20, 0, none⟩))] rfl ?_
         refine C_drawn2 53 [[], [0], [1], [2], [3, 2], [2], [5, 2], [4, 6, 2], [7, 2], [8, 2], [2], [10, 2], [2], [12, 2], [11, 13, 2], [14, 2], [15, 2], [2], [17, 2], [2], [19, 2], [9, 16, 18, 20, 2, 2], [21, 2], [2, 22], [23, 21], [24], [25, 24], [26, 24, 24], [27, 24], [24, 28], [29, 27], [30], [31, 30], [32, 30], [33, 30, 30], [34], [35, 34], [36, 34], [37, 34], [34, 38, 30], [39, 34, 30], [40], [41, 40], [42, 40], [43, 40], [40, 44, 30], [45, 40, 30], [46], [47, 46], [48, 46], [49, 46], [46, 50, 30], [30, 51]] [some 67, some 68, some 69, some 70, some 71, some 72, some 73, some 74, some 75, some 76, some 77, some 78, some 79, some 80, some 81, some 82, some 83, some 84, some 85, some 86, some 87, some 88, some 89, some 90, some 91, some 92, some 93, some 94, some 95, some 96, some 97, some 98, some 99, some 100, some 101, some 102, some 103, some 104, some 105, some 106, some 107, some 108, some 109, some 110, some 111, some 112, some 113, some 114, some 115, some 116, some 117, some 118, some 119] [1, 5, 6] (List.replicate 53 53) (List.replicate 53 []) (List.replicate 53 []) [fun γ_ => .int .i64 (k : Int), fun γ_ => .bool (decide ((k : Int) > 0)), fun γ_ => .bool (decide ((k : Int) > 0)), fun γ_ => undef, fun γ_ => undef, fun γ_ => undef, fun γ_ => undef, fun γ_ => undef, fun γ_ => undef, fun γ_ => undef, fun γ_ => undef, fun γ_ => undef, fun γ_ => undef, fun γ_ => undef, fun γ_ => undef, fun γ_ => undef, fun γ_ => undef, fun γ_ => undef, fun γ_ => undef, fun γ_ => undef, fun γ_ => undef, fun γ_ => undef, fun γ_ => undef, fun γ_ => .bool false, fun γ_ => .bool false, fun γ_ => .pointer (some ⟨b20, 3, none⟩), fun γ_ => .agg #[.int .i64 (a0.Cells.getD k (default : TCell)).Style.Align, .int .i64 (a0.Cells.getD k (default : TCell)).Style.Wrap, .int .i64 (a0.Cells.getD k (default : TCell)).Style.Dir], fun γ_ => .bool (rstyledS (a0.Cells.getD k (default : TCell)).Style), fun γ_ => .bool (!(rstyledS (a0.Cells.getD k (default : TCell)).Style)), fun γ_ => .bool (!(rstyledS (a0.Cells.getD k (default : TCell)).Style)), fun γ_ => .bool (!(rstyledS (a0.Cells.getD k (default : TCell)).Style)), fun γ_ => .pointer (some ⟨b20, 2, none⟩), fun γ_ => vstr (a0.Cells.getD k (default : TCell)).Text, fun γ_ => .bool (decide ((a0.Cells.getD k (default : TCell)).Text = [])), fun γ_ => .bool (decide ((a0.Cells.getD k (default : TCell)).Text = [])), fun γ_ => undef, fun γ_ => undef, fun γ_ => undef, fun γ_ => undef, fun γ_ => .bool false, fun γ_ => .bool false, fun γ_ => undef, fun γ_ => undef, fun γ_ => undef, fun γ_ => undef, fun γ_ => .bool false, fun γ_ => .bool false, fun γ_ => undef, fun γ_ => undef, fun γ_ => undef, fun γ_ => undef, fun γ_ => .bool false, fun γ_ => .bool false] (List.replicate 53 (fun _ => [])) rfl (by kernel_rfl) (by decide +kernel) hS ?_ ?_
         ·refine ⟨fun g_ w1186 fr1187 hS => Sv_val rfl (R_move rfl rfl) ⟨gh0, rfl, hS⟩, ?_⟩
          refine ⟨fun g_ w1188 fr1189 hS => Sv_val rfl (R_bin rfl rfl rfl rfl rfl) ⟨gh0, rfl, hS⟩, ?_⟩
          refine ⟨fun g_ w1190 fr1191 hS => Sv_val rfl (R_move rfl rfl) ⟨gh0, rfl, hS⟩, ?_⟩
          refine ⟨fun g_ w1192 fr1193 hS => Sv_off rfl rfl rfl (by rw [hg22]; rfl) ⟨gh0, rfl, hS⟩, ?_⟩
          refine ⟨fun g_ w1194 fr1195 hS => Sv_off rfl rfl rfl (by rw [hg22]; rfl) ⟨gh0, rfl, hS⟩, ?_⟩
          refine ⟨fun g_ w1196 fr1197 hS => Sv_off rfl rfl rfl (by rw [hg22]; rfl) ⟨gh0, rfl, hS⟩, ?_⟩
          refine ⟨fun g_ w1198 fr1199 hS => Sv_off rfl rfl rfl (by rw [hg22]; rfl) ⟨gh0, rfl, hS⟩, ?_⟩
          refine ⟨fun g_ w1200 fr1201 hS => Sv_off rfl rfl rfl (by rw [hg22]; rfl) ⟨gh0, rfl, hS⟩, ?_⟩
          refine ⟨fun g_ w1202 fr1203 hS => Sv_off rfl rfl rfl (by rw [hg22]; rfl) ⟨gh0, rfl, hS⟩, ?_⟩
          refine ⟨fun g_ w1204 fr1205 hS => Sv_off rfl rfl rfl (by rw [hg22]; rfl) ⟨gh0, rfl, hS⟩, ?_⟩
          refine ⟨fun g_ w1206 fr1207 hS => Sv_off rfl rfl rfl (by rw [hg22]; rfl) ⟨gh0, rfl, hS⟩, ?_⟩
          refine ⟨fun g_ w1208 fr1209 hS => Sv_off rfl rfl rfl (by rw [hg22]; rfl) ⟨gh0, rfl, hS⟩, ?_⟩
          refine ⟨fun g_ w1210 fr1211 hS => Sv_off rfl rfl rfl (by rw [hg22]; rfl) ⟨gh0, rfl, hS⟩, ?_⟩
          refine ⟨fun g_ w1212 fr1213 hS => Sv_off rfl rfl rfl (by rw [hg22]; rfl) ⟨gh0, rfl, hS⟩, ?_⟩
          refine ⟨fun g_ w1214 fr1215 hS => Sv_off rfl rfl rfl (by rw [hg22]; rfl) ⟨gh0, rfl, hS⟩, ?_⟩
          refine ⟨fun g_ w1216 fr1217 hS => Sv_off rfl rfl rfl (by rw [hg22]; rfl) ⟨gh0, rfl, hS⟩, ?_⟩
          refine ⟨fun g_ w1218 fr1219 hS => Sv_off rfl rfl rfl (by rw [hg22]; rfl) ⟨gh0, rfl, hS⟩, ?_⟩
          refine ⟨fun g_ w1220 fr1221 hS => Sv_off rfl rfl rfl (by rw [hg22]; rfl) ⟨gh0, rfl, hS⟩, ?_⟩
          refine ⟨fun g_ w1222 fr1223 hS => Sv_off rfl rfl rfl (by rw [hg22]; rfl) ⟨gh0, rfl, hS⟩, ?_⟩
          refine ⟨fun g_ w1224 fr1225 hS => Sv_off rfl rfl rfl (by rw [hg22]; rfl) ⟨gh0, rfl, hS⟩, ?_⟩
          refine ⟨fun g_ w1226 fr1227 hS => Sv_off rfl rfl rfl (by rw [hg22]; rfl) ⟨gh0, rfl, hS⟩, ?_⟩
          refine ⟨fun g_ w1228 fr1229 hS => Sv_off rfl rfl rfl (by rw [hg22]; rfl) ⟨gh0, rfl, hS⟩, ?_⟩
          refine ⟨fun g_ w1230 fr1231 hS => Sv_off rfl rfl rfl (by rw [hg22]; rfl) ⟨gh0, rfl, hS⟩, ?_⟩
          refine ⟨fun g_ w1232 fr1233 hS => Sv_val rfl (R_pick_f rfl rfl hg22 rfl) ⟨gh0, rfl, hS⟩, ?_⟩
          refine ⟨fun g_ w1234 fr1235 hS => Sv_val rfl (R_move rfl rfl) ⟨gh0, rfl, hS⟩, ?_⟩
          refine ⟨fun g_ w1236 fr1237 hS => (Sv_gt rfl rfl rfl rfl (Sv_val rfl (R_fld rfl rfl fld46_3) ⟨gh0, rfl, hS⟩)), ?_⟩
          refine ⟨fun g_ w1238 fr1239 hS => (Sv_gt rfl rfl rfl rfl (Sv_val rfl (R_loadN (cs := [.int .i64 (a0.Cells.getD k (default : TCell)).Style.Align, .int .i64 (a0.Cells.getD k (default : TCell)).Style.Wrap, .int .i64 (a0.Cells.getD k (default : TCell)).Style.Dir]) rfl rfl agg44 size44 rfl (boxcells (hS.bx 0 rfl) 3 rfl)) ⟨gh0, rfl, hS⟩)), ?_⟩
          refine ⟨fun g_ w1240 fr1241 hS => ?_, ?_⟩
          ·have _w1240 := trivial
           have hS : Sp (FF []) w z w1240 [bR b20 46 [.int .i64 (a0.Cells.getD k (default : TCell)).Row, .int .i64 (a0.Cells.getD k (default : TCell)).Col, vstr (a0.Cells.getD k (default : TCell)).Text, .int .i64 (a0.Cells.getD k (default : TCell)).Style.Align, .int .i64 (a0.Cells.getD k (default : TCell)).Style.Wrap, .int .i64 (a0.Cells.getD k (default : TCell)).Style.Dir], bR b2 39 [.int .i64 a0.Right, .slice Aa0_Widths a0.Widths.length ca0_Widths, .slice Aa0_Heights a0.Heights.length ca0_Heights, .slice Aa0_Cells a0.Cells.length ca0_Cells, .slice Aa0_Merges a0.Merges.length ca0_Merges], allR fr1241] := hS
           refine  (Sv_gt rfl rfl rfl rfl (Sv_call rfl rfl rfl ent93 ?_))
           refine (rstyled_calls (a0.Cells.getD k (default : TCell)).Style _ _ hS.out0  ).mono ?_
           rintro e_ w1242 ⟨rfl, hS_⟩
           refine ⟨_, rfl, ?_⟩
           have hS := hS.call0 hS_
           exact ⟨⟨fun _ => none, fun _ => 0, fun _ => zE, fun _ => 0⟩, rfl, hS.fin [0, 1, 2] (by decide) rfl⟩
          refine ⟨fun g_ w1244 fr1245 hS => (Sv_gt rfl rfl rfl rfl (Sv_val rfl (R_un rfl rfl rfl) ⟨gh0, rfl, hS⟩)), ?_⟩
          refine ⟨fun g_ w1246 fr1247 hS => Sv_val rfl (R_pick_f rfl rfl rfl rfl) ⟨gh0, rfl, hS⟩, ?_⟩
          refine ⟨fun g_ w1248 fr1249 hS => Sv_val rfl (R_move rfl rfl) ⟨gh0, rfl, hS⟩, ?_⟩
          refine ⟨fun g_ w1250 fr1251 hS => (Sv_gt rfl rfl rfl hg732 (Sv_val rfl (R_fld rfl rfl fld46_2) ⟨gh0, rfl, hS⟩)), ?_⟩
          refine ⟨fun g_ w1252 fr1253 hS => (Sv_gt rfl rfl rfl hg732 (Sv_val rfl (R_load1 rfl rfl agg9 ((hS.bx 0 rfl).cell rfl)) ⟨gh0, rfl, hS⟩)), ?_⟩
          refine ⟨fun g_ w1254 fr1255 hS => (Sv_gt rfl rfl rfl hg732 (Sv_val rfl (R_streql rfl rfl rfl) ⟨gh0, rfl, hS⟩)), ?_⟩
          refine ⟨fun g_ w1256 fr1257 hS => (Sv_gt rfl rfl rfl hg732 (Sv_val rfl (R_move rfl rfl) ⟨gh0, rfl, hS⟩)), ?_⟩
          refine ⟨fun g_ w1258 fr1259 hS => Sv_off rfl rfl rfl (by rw [hg845]; rfl) ⟨gh0, rfl, hS⟩, ?_⟩
          refine ⟨fun g_ w1260 fr1261 hS => Sv_off rfl rfl rfl (by rw [hg845]; rfl) ⟨gh0, rfl, hS⟩, ?_⟩
          refine ⟨fun g_ w1262 fr1263 hS => Sv_off rfl rfl rfl (by rw [hg845]; rfl) ⟨gh0, rfl, hS⟩, ?_⟩
          refine ⟨fun g_ w1264 fr1265 hS => Sv_off rfl rfl rfl (by rw [hg845]; rfl) ⟨gh0, rfl, hS⟩, ?_⟩
          refine ⟨fun g_ w1266 fr1267 hS => (Sv_gt rfl rfl rfl hg732 (Sv_val rfl (R_pick_f rfl rfl hg845 rfl) ⟨gh0, rfl, hS⟩)), ?_⟩
          refine ⟨fun g_ w1268 fr1269 hS => (Sv_gt rfl rfl rfl hg732 (Sv_val rfl (R_move rfl rfl) ⟨gh0, rfl, hS⟩)), ?_⟩
          refine ⟨fun g_ w1270 fr1271 hS => Sv_off rfl rfl rfl rfl ⟨gh0, rfl, hS⟩, ?_⟩
          refine ⟨fun g_ w1272 fr1273 hS => Sv_off rfl rfl rfl rfl ⟨gh0, rfl, hS⟩, ?_⟩
          refine ⟨fun g_ w1274 fr1275 hS => Sv_off rfl rfl rfl rfl ⟨gh0, rfl, hS⟩, ?_⟩
          refine ⟨fun g_ w1276 fr1277 hS => Sv_off rfl rfl rfl rfl ⟨gh0, rfl, hS⟩, ?_⟩
          refine ⟨fun g_ w1278 fr1279 hS => (Sv_gt rfl rfl rfl hg732 (Sv_val rfl (R_pick_f rfl rfl rfl rfl) ⟨gh0, rfl, hS⟩)), ?_⟩
          refine ⟨fun g_ w1280 fr1281 hS => (Sv_gt rfl rfl rfl hg732 (Sv_val rfl (R_move rfl rfl) ⟨gh0, rfl, hS⟩)), ?_⟩
          refine ⟨fun g_ w1282 fr1283 hS => Sv_off rfl rfl rfl rfl ⟨gh0, rfl, hS⟩, ?_⟩
          refine ⟨fun g_ w1284 fr1285 hS => Sv_off rfl rfl rfl rfl ⟨gh0, rfl, hS⟩, ?_⟩
          refine ⟨fun g_ w1286 fr1287 hS => Sv_off rfl rfl rfl rfl ⟨gh0, rfl, hS⟩, ?_⟩
          refine ⟨fun g_ w1288 fr1289 hS => Sv_off rfl rfl rfl rfl ⟨gh0, rfl, hS⟩, ?_⟩
          refine ⟨fun g_ w1290 fr1291 hS => (Sv_gt rfl rfl rfl hg732 (Sv_val rfl (R_pick_f rfl rfl rfl rfl) ⟨gh0, rfl, hS⟩)), ?_⟩
          refine ⟨fun g_ w1292 fr1293 hS => Sv_val rfl (R_pick_f rfl rfl hg732 rfl) ⟨gh0, rfl, hS⟩, ?_⟩
          exact trivial
         ·intro g_ w1294 hS
          have hS : Sp (FF []) w z w1294 [bR b20 46 [.int .i64 (a0.Cells.getD k (default : TCell)).Row, .int .i64 (a0.Cells.getD k (default : TCell)).Col, vstr (a0.Cells.getD k (default : TCell)).Text, .int .i64 (a0.Cells.getD k (default : TCell)).Style.Align, .int .i64 (a0.Cells.getD k (default : TCell)).Style.Wrap, .int .i64 (a0.Cells.getD k (default : TCell)).Style.Dir], bR b2 39 [.int .i64 a0.Right, .slice Aa0_Widths a0.Widths.length ca0_Widths, .slice Aa0_Heights a0.Heights.length ca0_Heights, .slice Aa0_Cells a0.Cells.length ca0_Cells, .slice Aa0_Merges a0.Merges.length ca0_Merges]] := hS
          refine An_fr [(1, .pointer (some ⟨b2, 0, none⟩)), (5, .int .i64 (k : Int)), (6, .pointer (some ⟨b20, 0, none⟩)), (119, .bool false)] rfl ?_
          refine An_done (by decide +kernel) ?_
          refine E_then ?_
          refine C_else rfl rfl ?_
          refine C_skip ?_
          refine E_block_normal ?_
          refine E_then ?_
          refine C_region ?_
          refine W_cons rfl (by decide) (Sv_val rfl (R_move rfl rfl) ?_)
          refine W_cons rfl (by decide) (Sv_val rfl (R_add64 rfl rfl rfl (by omega) (by omega)) ?_)
          refine W_cons rfl (by decide) (Sv_val rfl (R_assign rfl rfl) ?_)
          refine W_nil ?_
          refine E_round [1, 5] ?_ ⟨(k + 1 : Nat), rfl, (by omega), (by exact range_any_next hI2_1 (by simp_all [rcellS])), rfl, hS.fin [1] (by decide) rfl⟩
          omega
     ·have _hC5 := trivial
      have hC5p : ¬ ((k : Int) < (a0.Cells.length : Int)) := by simpa using hC5
      refine C_exit ?_
      refine E_then_exit ?_
      refine E_then_exit ?_
      refine E_block_hit ?_
      refine E_then (C_fr [(1, .pointer (some ⟨b2, 0, none⟩))] rfl ?_)
      refine C_seq ?_
      refine C_seq ?_
      refine C_region ?_
      refine W_cons rfl (by decide) (Sv_val rfl (R_assign rfl rfl) ?_)
      refine W_nil ?_
      refine E_then ?_
      refine C_block ?_
      refine C_fr [(1, .pointer (some ⟨b2, 0, none⟩)), (7, .int .i64 0)] rfl ?_
      refine C_loop (fun m_ f_ w_ => ∃ (l : Nat), f_ = [(1, .pointer (some ⟨b2, 0, none⟩)), (7, .int .i64 (l : Int))] ∧ l ≤ a0.Merges.length ∧ (List.range l).any (rmergeS a0) = false ∧ m_ = a0.Merges.length - l ∧ Sp (FF []) w z w_ [bR b2 39 [.int .i64 a0.Right, .slice Aa0_Widths a0.Widths.length ca0_Widths, .slice Aa0_Heights a0.Heights.length ca0_Heights, .slice Aa0_Cells a0.Cells.length ca0_Cells, .slice Aa0_Merges a0.Merges.length ca0_Merges]]) (a0.Merges.length - (0 : Nat)) ⟨(0 : Nat), rfl, (by omega), (by rfl), rfl, hS.fin [0] (by decide) rfl⟩ ?_
      rintro m_ f_ w1296 ⟨l, rfl, hI3_0, hI3_1, rfl, hS⟩
      refine C_seq ?_
      refine C_seq ?_
      refine C_region ?_
      refine W_cons rfl (by decide) (Sv_val rfl (R_move rfl rfl) ?_)
      refine W_cons rfl (by decide) (Sv_val rfl (R_fld rfl rfl fld39_4) ?_)
      refine W_cons rfl (by decide) (Sv_val rfl (R_load1 rfl rfl agg37 ((hS.bx 0 rfl).cell rfl)) ?_)
      refine W_cons rfl (by decide) (Sv_val rfl (R_len rfl rfl Try.underlying37) ?_)
      refine W_cons rfl (by decide) (Sv_val rfl (R_bin rfl rfl rfl rfl rfl) ?_)
      refine W_nil ?_
      refine E_then ?_
      refine C_ite rfl (fun hC7 => ?_) (fun hC7 => ?_)
      ·have _hC7 := trivial
       have hC7p : (l : Int) < (a0.Merges.length : Int) := by simpa using hC7
       refine C_skip ?_
       refine E_then (C_fr [(1, .pointer (some ⟨b2, 0, none⟩)), (7, .int .i64 (l : Int))] rfl ?_)
       refine C_seq ?_
       refine C_block ?_
       refine C_seq ?_
       refine C_region ?_
       refine W_cons rfl (by decide) (Sv_val rfl (R_fld rfl rfl fld39_4) ?_)
       refine W_cons rfl (by decide) (Sv_val rfl (R_load1 rfl rfl agg37 ((hS.bx 0 rfl).cell rfl)) ?_)
       refine W_cons rfl (by decide) (Sv_val rfl (R_move rfl rfl) ?_)
       obtain ⟨q1297, csq1297, hAq1297, rfl, hkq1297⟩ := hra0_Merges.at_ (default : TRect) (i := (l : Int)) (by omega) (by omega)
       have hkq1297 : ∀ (j_ : Nat) (u_ : Value), ([.int .i64 (a0.Merges.getD l (default : TRect)).Row, .int .i64 (a0.Merges.getD l (default : TRect)).Col, .int .i64 (a0.Merges.getD l (default : TRect)).Rows, .int .i64 (a0.Merges.getD l (default : TRect)).Cols] : List Value)[j_]? = some u_ → cz z (q1297.add (l * 4 + j_)) = some u_ := hkq1297
       refine W_cons rfl (by decide) (Sv_val rfl (R_idx rfl rfl hAq1297 rfl Try.underlying37 size33 (by omega) (by omega)) ?_)
       refine W_cons rfl (by decide) (Sv_val rfl (R_loadN (cs := [.int .i64 (a0.Merges.getD l (default : TRect)).Row, .int .i64 (a0.Merges.getD l (default : TRect)).Col, .int .i64 (a0.Merges.getD l (default : TRect)).Rows, .int .i64 (a0.Merges.getD l (default : TRect)).Cols]) rfl rfl agg33 size33 rfl (fun j u h => cell_add (hS.sub.cell (hkq1297 j u h)))) ?_)
       refine W_cons rfl (by decide) (S_box hS rfl (R_alloc rfl alloc33) (fun b1299 w1298 hS => ?_))
       refine W_cons0 rfl (S_store hS 0 rfl rfl rfl rfl rfl size33 (one_cons rfl (one_cons rfl (one_cons rfl (one_cons rfl one_nil)))) (Nat.le_of_ble_eq_true rfl) (fun w1300 hS => ?_))
       have hS : Sp (FF []) w z w1300 [bR b1299 33 [.int .i64 (a0.Merges.getD l (default : TRect)).Row, .int .i64 (a0.Merges.getD l (default : TRect)).Col, .int .i64 (a0.Merges.getD l (default : TRect)).Rows, .int .i64 (a0.Merges.getD l (default : TRect)).Cols], bR b2 39 [.int .i64 a0.Right, .slice Aa0_Widths a0.Widths.length ca0_Widths, .slice Aa0_Heights a0.Heights.length ca0_Heights, .slice Aa0_Cells a0.Cells.length ca0_Cells, .slice Aa0_Merges a0.Merges.length ca0_Merges]] := hS
       refine W_nil ?_
       refine E_then (C_fr [(1, .pointer (some ⟨b2, 0, none⟩)), (7, .int .i64 (l : Int)), (8, .pointer (some ⟨b1299, 0, none⟩))] rfl ?_)
       refine C_seq ?_
       rcases Bool.eq_false_or_eq_true (decide ((l : Int) > 0)) with hg1301 | hg1301
       ·have _hg1301 := trivial
        have hg1301p : (l : Int) > 0 := by simpa using hg1301
        rcases Bool.eq_false_or_eq_true (!(raheadS (a0.Merges.getD ((l : Int) - 1).toNat (default : TRect)).Row (a0.Merges.getD ((l : Int) - 1).toNat (default : TRect)).Col (a0.Merges.getD l (default : TRect)).Row (a0.Merges.getD l (default : TRect)).Col)) with hg1302 | hg1302
        ·have _hg1302 := trivial
         have hg1302p : ¬ (raheadS (a0.Merges.getD ((l : Int) - 1).toNat (default : TRect)).Row (a0.Merges.getD ((l : Int) - 1).toNat (default : TRect)).Col (a0.Merges.getD l (default : TRect)).Row (a0.Merges.getD l (default : TRect)).Col = true) := by simpa using hg1302
         refine C_fr [(1, .pointer (some ⟨b2, 0, none⟩)), (7, .int .i64 (l : Int)), (8, .pointer (some ⟨b1299, 0, none⟩))] rfl ?_
         obtain ⟨q1303, csq1303, hAq1303, rfl, hkq1303⟩ := hra0_Merges.at_ (default : TRect) (i := ((l : Int) - 1)) (by omega) (by omega)
         obtain ⟨q1304, csq1304, hAq1304, rfl, hkq1304⟩ := hra0_Merges.at_ (default : TRect) (i := ((l : Int) - 1)) (by omega) (by omega)
         refine C_drawn2 44 [[], [0], [1], [2], [3, 2], [2], [5, 2], [4, 6, 2], [7, 2], [8, 2], [2], [10, 2], [2], [12, 2], [11, 13, 2], [14, 2], [15, 2], [2], [17, 2], [2], [19, 2], [9, 16, 18, 20, 2, 2], [21, 2], [2, 22], [23, 21], [24], [25, 24], [26, 24], [24, 27], [28, 24], [29], [30, 29], [31, 29], [29, 32], [33, 29], [34], [35, 34], [36, 34], [37, 34, 34], [38], [39, 38], [40, 38], [38, 41, 34], [34, 42]] [some 132, some 133, some 134, some 135, some 136, some 137, some 138, some 139, some 140, some 141, some 142, some 143, some 144, some 145, some 146, some 147, some 148, some 149, some 150, some 151, some 152, some 153, some 154, some 155, some 156, some 157, some 158, some 159, some 160, some 161, some 162, some 163, some 164, some 165, some 166, some 167, some 168, some 169, some 170, some 171, some 172, some 173, some 174, some 175] [1, 7, 8] (List.replicate 44 44) (List.replicate 44 []) (List.replicate 44 []) [fun γ_ => .int .i64 (l : Int), fun γ_ => .bool (decide ((l : Int) > 0)), fun γ_ => .bool (decide ((l : Int) > 0)), fun γ_ => .pointer (some ⟨b2, 4, none⟩), fun γ_ => .slice Aa0_Merges a0.Merges.length ca0_Merges, fun γ_ => .int .i64 (l : Int), fun γ_ => .int .i64 ((l : Int) - 1), fun γ_ => .pointer (some (q1303.add (((l : Int) - 1).toNat * 4))), fun γ_ => .pointer (some ((q1303.add (((l : Int) - 1).toNat * 4)).add 0)), fun γ_ => .int .i64 (a0.Merges.getD ((l : Int) - 1).toNat (default : TRect)).Row, fun γ_ => .pointer (some ⟨b2, 4, none⟩), fun γ_ => .slice Aa0_Merges a0.Merges.length ca0_Merges, fun γ_ => .int .i64 (l : Int), fun γ_ => .int .i64 ((l : Int) - 1), fun γ_ => .pointer (some (q1304.add (((l : Int) - 1).toNat * 4))), fun γ_ => .pointer (some ((q1304.add (((l : Int) - 1).toNat * 4)).add 1)), fun γ_ => .int .i64 (a0.Merges.getD ((l : Int) - 1).toNat (default : TRect)).Col, fun γ_ => .pointer (some ⟨b1299, 0, none⟩), fun γ_ => .int .i64 (a0.Merges.getD l (default : TRect)).Row, fun γ_ => .pointer (some ⟨b1299, 1, none⟩), fun γ_ => .int .i64 (a0.Merges.getD l (default : TRect)).Col, fun γ_ => .bool (raheadS (a0.Merges.getD ((l : Int) - 1).toNat (default : TRect)).Row (a0.Merges.getD ((l : Int) - 1).toNat (default : TRect)).Col (a0.Merges.getD l (default : TRect)).Row (a0.Merges.getD l (default : TRect)).Col), fun γ_ => .bool (!(raheadS (a0.Merges.getD ((l : Int) - 1).toNat (default : TRect)).Row (a0.Merges.getD ((l : Int) - 1).toNat (default : TRect)).Col (a0.Merges.getD l (default : TRect)).Row (a0.Merges.getD l (default : TRect)).Col)), fun γ_ => .bool (!(raheadS (a0.Merges.getD ((l : Int) - 1).toNat (default : TRect)).Row (a0.Merges.getD ((l : Int) - 1).toNat (default : TRect)).Col (a0.Merges.getD l (default : TRect)).Row (a0.Merges.getD l (default : TRect)).Col)), fun γ_ => .bool (!(raheadS (a0.Merges.getD ((l : Int) - 1).toNat (default : TRect)).Row (a0.Merges.getD ((l : Int) - 1).toNat (default : TRect)).Col (a0.Merges.getD l (default : TRect)).Row (a0.Merges.getD l (default : TRect)).Col)), fun γ_ => undef, fun γ_ => undef, fun γ_ => undef, fun γ_ => .bool true, fun γ_ => .bool true, fun γ_ => undef, fun γ_ => undef, fun γ_ => undef, fun γ_ => .bool true, fun γ_ => .bool true, fun γ_ => undef, fun γ_ => undef, fun γ_ => undef, fun γ_ => undef, fun γ_ => undef, fun γ_ => undef, fun γ_ => undef, fun γ_ => undef, fun γ_ => .bool true] (List.replicate 44 (fun _ => [])) rfl (by kernel_rfl) (by decide +kernel) hS ?_ ?_
         ·refine ⟨fun g_ w1307 fr1308 hS => Sv_val rfl (R_move rfl rfl) ⟨gh0, rfl, hS⟩, ?_⟩
          refine ⟨fun g_ w1309 fr1310 hS => Sv_val rfl (R_bin rfl rfl rfl rfl rfl) ⟨gh0, rfl, hS⟩, ?_⟩
          refine ⟨fun g_ w1311 fr1312 hS => Sv_val rfl (R_move rfl rfl) ⟨gh0, rfl, hS⟩, ?_⟩
          refine ⟨fun g_ w1313 fr1314 hS => (Sv_gt rfl rfl rfl hg1301 (Sv_val rfl (R_fld rfl rfl fld39_4) ⟨gh0, rfl, hS⟩)), ?_⟩
          refine ⟨fun g_ w1315 fr1316 hS => (Sv_gt rfl rfl rfl hg1301 (Sv_val rfl (R_load1 rfl rfl agg37 ((hS.bx 1 rfl).cell rfl)) ⟨gh0, rfl, hS⟩)), ?_⟩
          refine ⟨fun g_ w1317 fr1318 hS => (Sv_gt rfl rfl rfl hg1301 (Sv_val rfl (R_move rfl rfl) ⟨gh0, rfl, hS⟩)), ?_⟩
          refine ⟨fun g_ w1319 fr1320 hS => (Sv_gt rfl rfl rfl hg1301 (Sv_val rfl (R_sub64 rfl rfl rfl (by omega) (by omega)) ⟨gh0, rfl, hS⟩)), ?_⟩
          refine ⟨fun g_ w1321 fr1322 hS => (Sv_gt rfl rfl rfl hg1301 (Sv_val rfl (R_idx rfl rfl hAq1303 rfl Try.underlying37 size33 (by omega) (by omega)) ⟨gh0, rfl, hS⟩)), ?_⟩
          refine ⟨fun g_ w1323 fr1324 hS => (Sv_gt rfl rfl rfl hg1301 (Sv_val rfl (R_fld rfl rfl fld33_0) ⟨gh0, rfl, hS⟩)), ?_⟩
          refine ⟨fun g_ w1325 fr1326 hS => (Sv_gt rfl rfl rfl hg1301 (Sv_val rfl (R_load1 rfl rfl agg3 (cell_add (hS.sub.cell (hkq1303 0 _ rfl)))) ⟨gh0, rfl, hS⟩)), ?_⟩
          refine ⟨fun g_ w1327 fr1328 hS => (Sv_gt rfl rfl rfl hg1301 (Sv_val rfl (R_fld rfl rfl fld39_4) ⟨gh0, rfl, hS⟩)), ?_⟩
          refine ⟨fun g_ w1329 fr1330 hS => (Sv_gt rfl rfl rfl hg1301 (Sv_val rfl (R_load1 rfl rfl agg37 ((hS.bx 1 rfl).cell rfl)) ⟨gh0, rfl, hS⟩)), ?_⟩
          refine ⟨fun g_ w1331 fr1332 hS => (Sv_gt rfl rfl rfl hg1301 (Sv_val rfl (R_move rfl rfl) ⟨gh0, rfl, hS⟩)), ?_⟩
          refine ⟨fun g_ w1333 fr1334 hS => (Sv_gt rfl rfl rfl hg1301 (Sv_val rfl (R_sub64 rfl rfl rfl (by omega) (by omega)) ⟨gh0, rfl, hS⟩)), ?_⟩
          refine ⟨fun g_ w1335 fr1336 hS => (Sv_gt rfl rfl rfl hg1301 (Sv_val rfl (R_idx rfl rfl hAq1304 rfl Try.underlying37 size33 (by omega) (by omega)) ⟨gh0, rfl, hS⟩)), ?_⟩
          refine ⟨fun g_ w1337 fr1338 hS => (Sv_gt rfl rfl rfl hg1301 (Sv_val rfl (R_fld rfl rfl fld33_1) ⟨gh0, rfl, hS⟩)), ?_⟩
          refine ⟨fun g_ w1339 fr1340 hS => (Sv_gt rfl rfl rfl hg1301 (Sv_val rfl (R_load1 rfl rfl agg3 (cell_add (hS.sub.cell (hkq1304 1 _ rfl)))) ⟨gh0, rfl, hS⟩)), ?_⟩
          refine ⟨fun g_ w1341 fr1342 hS => (Sv_gt rfl rfl rfl hg1301 (Sv_val rfl (R_fld rfl rfl fld33_0) ⟨gh0, rfl, hS⟩)), ?_⟩
          refine ⟨fun g_ w1343 fr1344 hS => (Sv_gt rfl rfl rfl hg1301 (Sv_val rfl (R_load1 rfl rfl agg3 ((hS.bx 0 rfl).cell rfl)) ⟨gh0, rfl, hS⟩)), ?_⟩
          refine ⟨fun g_ w1345 fr1346 hS => (Sv_gt rfl rfl rfl hg1301 (Sv_val rfl (R_fld rfl rfl fld33_1) ⟨gh0, rfl, hS⟩)), ?_⟩
          refine ⟨fun g_ w1347 fr1348 hS => (Sv_gt rfl rfl rfl hg1301 (Sv_val rfl (R_load1 rfl rfl agg3 ((hS.bx 0 rfl).cell rfl)) ⟨gh0, rfl, hS⟩)), ?_⟩
          refine ⟨fun g_ w1349 fr1350 hS => ?_, ?_⟩
          ·have _w1349 := trivial
           have hS : Sp (FF []) w z w1349 [bR b1299 33 [.int .i64 (a0.Merges.getD l (default : TRect)).Row, .int .i64 (a0.Merges.getD l (default : TRect)).Col, .int .i64 (a0.Merges.getD l (default : TRect)).Rows, .int .i64 (a0.Merges.getD l (default : TRect)).Cols], bR b2 39 [.int .i64 a0.Right, .slice Aa0_Widths a0.Widths.length ca0_Widths, .slice Aa0_Heights a0.Heights.length ca0_Heights, .slice Aa0_Cells a0.Cells.length ca0_Cells, .slice Aa0_Merges a0.Merges.length ca0_Merges], allR fr1350] := hS
           refine  (Sv_gt rfl rfl rfl hg1301 (Sv_call rfl rfl rfl ent92 ?_))
           refine (rahead_calls (a0.Merges.getD ((l : Int) - 1).toNat (default : TRect)).Row (a0.Merges.getD ((l : Int) - 1).toNat (default : TRect)).Col (a0.Merges.getD l (default : TRect)).Row (a0.Merges.getD l (default : TRect)).Col _ _ hS.out0  ).mono ?_
           rintro e_ w1351 ⟨rfl, hS_⟩
           refine ⟨_, rfl, ?_⟩
           have hS := hS.call0 hS_
           exact ⟨⟨fun _ => none, fun _ => 0, fun _ => zE, fun _ => 0⟩, rfl, hS.fin [0, 1, 2] (by decide) rfl⟩
          refine ⟨fun g_ w1353 fr1354 hS => (Sv_gt rfl rfl rfl hg1301 (Sv_val rfl (R_un rfl rfl rfl) ⟨gh0, rfl, hS⟩)), ?_⟩
          refine ⟨fun g_ w1355 fr1356 hS => Sv_val rfl (R_pick_t rfl rfl hg1301 rfl) ⟨gh0, rfl, hS⟩, ?_⟩
          refine ⟨fun g_ w1357 fr1358 hS => Sv_val rfl (R_move rfl rfl) ⟨gh0, rfl, hS⟩, ?_⟩
          refine ⟨fun g_ w1359 fr1360 hS => Sv_off rfl rfl rfl (by rw [hg1302]; rfl) ⟨gh0, rfl, hS⟩, ?_⟩
          refine ⟨fun g_ w1361 fr1362 hS => Sv_off rfl rfl rfl (by rw [hg1302]; rfl) ⟨gh0, rfl, hS⟩, ?_⟩
          refine ⟨fun g_ w1363 fr1364 hS => Sv_off rfl rfl rfl (by rw [hg1302]; rfl) ⟨gh0, rfl, hS⟩, ?_⟩
          refine ⟨fun g_ w1365 fr1366 hS => Sv_val rfl (R_pick_t rfl rfl hg1302 rfl) ⟨gh0, rfl, hS⟩, ?_⟩
          refine ⟨fun g_ w1367 fr1368 hS => Sv_val rfl (R_move rfl rfl) ⟨gh0, rfl, hS⟩, ?_⟩
          refine ⟨fun g_ w1369 fr1370 hS => Sv_off rfl rfl rfl rfl ⟨gh0, rfl, hS⟩, ?_⟩
          refine ⟨fun g_ w1371 fr1372 hS => Sv_off rfl rfl rfl rfl ⟨gh0, rfl, hS⟩, ?_⟩
          refine ⟨fun g_ w1373 fr1374 hS => Sv_off rfl rfl rfl rfl ⟨gh0, rfl, hS⟩, ?_⟩
          refine ⟨fun g_ w1375 fr1376 hS => Sv_val rfl (R_pick_t rfl rfl rfl rfl) ⟨gh0, rfl, hS⟩, ?_⟩
          refine ⟨fun g_ w1377 fr1378 hS => Sv_val rfl (R_move rfl rfl) ⟨gh0, rfl, hS⟩, ?_⟩
          refine ⟨fun g_ w1379 fr1380 hS => Sv_off rfl rfl rfl rfl ⟨gh0, rfl, hS⟩, ?_⟩
          refine ⟨fun g_ w1381 fr1382 hS => Sv_off rfl rfl rfl rfl ⟨gh0, rfl, hS⟩, ?_⟩
          refine ⟨fun g_ w1383 fr1384 hS => Sv_off rfl rfl rfl rfl ⟨gh0, rfl, hS⟩, ?_⟩
          refine ⟨fun g_ w1385 fr1386 hS => Sv_off rfl rfl rfl rfl ⟨gh0, rfl, hS⟩, ?_⟩
          refine ⟨fun g_ w1387 fr1388 hS => Sv_offu rfl rfl rfl ⟨gh0, rfl, hS⟩, ?_⟩
          refine ⟨fun g_ w1389 fr1390 hS => Sv_offu rfl rfl rfl ⟨gh0, rfl, hS⟩, ?_⟩
          refine ⟨fun g_ w1391 fr1392 hS => Sv_offu rfl rfl rfl ⟨gh0, rfl, hS⟩, ?_⟩
          refine ⟨fun g_ w1393 fr1394 hS => Sv_off rfl rfl rfl rfl ⟨gh0, rfl, hS⟩, ?_⟩
          refine ⟨fun g_ w1395 fr1396 hS => Sv_val rfl (R_pick_t rfl rfl rfl rfl) ⟨gh0, rfl, hS⟩, ?_⟩
          exact trivial
         ·intro g_ w1397 hS
          have hS : Sp (FF []) w z w1397 [bR b1299 33 [.int .i64 (a0.Merges.getD l (default : TRect)).Row, .int .i64 (a0.Merges.getD l (default : TRect)).Col, .int .i64 (a0.Merges.getD l (default : TRect)).Rows, .int .i64 (a0.Merges.getD l (default : TRect)).Cols], bR b2 39 [.int .i64 a0.Right, .slice Aa0_Widths a0.Widths.length ca0_Widths, .slice Aa0_Heights a0.Heights.length ca0_Heights, .slice Aa0_Cells a0.Cells.length ca0_Cells, .slice Aa0_Merges a0.Merges.length ca0_Merges]] := hS
          refine An_fr [(1, .pointer (some ⟨b2, 0, none⟩)), (7, .int .i64 (l : Int)), (8, .pointer (some ⟨b1299, 0, none⟩)), (175, .bool true)] rfl ?_
          refine An_done (by decide +kernel) ?_
          refine E_then ?_
          refine C_if rfl rfl ?_
          refine C_seq ?_
          refine C_region ?_
          refine W_cons rfl (by decide) (Sv_val rfl (R_assign rfl rfl) ?_)
          refine W_nil ?_
          refine E_then ?_
          refine C_ret ?_
          refine E_block_ret ?_
          refine E_then_ret ?_
          refine E_then_ret ?_
          refine E_block_ret ?_
          refine E_then_ret ?_
          refine E_ret1 rfl rfl ?_
          exact ⟨Lret1 (Lbool (show false = (rorderS a0) by first | exact rord_top (by omega) | exact rord_ok (i := i) (j := j) (k := k) (l := l) (by omega) (by omega) hI0_1 (by omega) hI1_1 (by omega) (by omega) hI2_1 (by omega) (by omega) hI3_1 | exact rord_m (i := l) (by omega) (by unfold rmergeS; simp_all) | exact rord_c (i := k) (by omega) (by unfold rcellS; simp_all) | exact rord_h (i := j) (by omega) (by assumption) | exact rord_w (i := i) (by omega) (by assumption))), hS.fin [] (by decide) rfl⟩
        ·have _hg1302 := trivial
         have hg1302p : (raheadS (a0.Merges.getD ((l : Int) - 1).toNat (default : TRect)).Row (a0.Merges.getD ((l : Int) - 1).toNat (default : TRect)).Col (a0.Merges.getD l (default : TRect)).Row (a0.Merges.getD l (default : TRect)).Col = true) := by simpa using hg1302
         rcases Bool.eq_false_or_eq_true (decide ((a0.Merges.getD l (default : TRect)).Rows < 1)) with hg1399 | hg1399
         ·have _hg1399 := trivial
          have hg1399p : (a0.Merges.getD l (default : TRect)).Rows < 1 := by simpa using hg1399
          refine C_fr [(1, .pointer (some ⟨b2, 0, none⟩)), (7, .int .i64 (l : Int)), (8, .pointer (some ⟨b1299, 0, none⟩))] rfl ?_
          obtain ⟨q1400, csq1400, hAq1400, rfl, hkq1400⟩ := hra0_Merges.at_ (default : TRect) (i := ((l : Int) - 1)) (by omega) (by omega)
          obtain ⟨q1401, csq1401, hAq1401, rfl, hkq1401⟩ := hra0_Merges.at_ (default : TRect) (i := ((l : Int) - 1)) (by omega) (by omega)
          refine C_drawn2 44 [[], [0], [1], [2], [3, 2], [2], [5, 2], [4, 6, 2], [7, 2], [8, 2], [2], [10, 2], [2], [12, 2], [11, 13, 2], [14, 2], [15, 2], [2], [17, 2], [2], [19, 2], [9, 16, 18, 20, 2, 2], [21, 2], [2, 22], [23, 21], [24], [25, 24], [26, 24], [24, 27], [28, 24], [29], [30, 29], [31, 29], [29, 32], [33, 29], [34], [35, 34], [36, 34], [37, 34, 34], [38], [39, 38], [40, 38], [38, 41, 34], [34, 42]] [some 132, some 133, some 134, some 135, some 136, some 137, some 138, some 139, some 140, some 141, some 142, some 143, some 144, some 145, some 146, some 147, some 148, some 149, some 150, some 151, some 152, some 153, some 154, some 155, some 156, some 157, some 158, some 159, some 160, some 161, some 162, some 163, some 164, some 165, some 166, some 167, some 168, some 169, some 170, some 171, some 172, some 173, some 174, some 175] [1, 7, 8] (List.replicate 44 44) (List.replicate 44 []) (List.replicate 44 []) [fun γ_ => .int .i64 (l : Int), fun γ_ => .bool (decide ((l : Int) > 0)), fun γ_ => .bool (decide ((l : Int) > 0)), fun γ_ => .pointer (some ⟨b2, 4, none⟩), fun γ_ => .slice Aa0_Merges a0.Merges.length ca0_Merges, fun γ_ => .int .i64 (l : Int), fun γ_ => .int .i64 ((l : Int) - 1), fun γ_ => .pointer (some (q1400.add (((l : Int) - 1).toNat * 4))), fun γ_ => .pointer (some ((q1400.add (((l : Int) - 1).toNat * 4)).add 0)), fun γ_ => .int .i64 (a0.Merges.getD ((l : Int) - 1).toNat (default : TRect)).Row, fun γ_ => .pointer (some ⟨b2, 4, none⟩), fun γ_ => .slice Aa0_Merges a0.Merges.length ca0_Merges, fun γ_ => .int .i64 (l : Int), fun γ_ => .int .i64 ((l : Int) - 1), fun γ_ => .pointer (some (q1401.add (((l : Int) - 1).toNat * 4))), fun γ_ => .pointer (some ((q1401.add (((l : Int) - 1).toNat * 4)).add 1)), fun γ_ => .int .i64 (a0.Merges.getD ((l : Int) - 1).toNat (default : TRect)).Col, fun γ_ => .pointer (some ⟨b1299, 0, none⟩), fun γ_ => .int .i64 (a0.Merges.getD l (default : TRect)).Row, fun γ_ => .pointer (some ⟨b1299, 1, none⟩), fun γ_ => .int .i64 (a0.Merges.getD l (default : TRect)).Col, fun γ_ => .bool (raheadS (a0.Merges.getD ((l : Int) - 1).toNat (default : TRect)).Row (a0.Merges.getD ((l : Int) - 1).toNat (default : TRect)).Col (a0.Merges.getD l (default : TRect)).Row (a0.Merges.getD l (default : TRect)).Col), fun γ_ => .bool (!(raheadS (a0.Merges.getD ((l : Int) - 1).toNat (default : TRect)).Row (a0.Merges.getD ((l : Int) - 1).toNat (default : TRect)).Col (a0.Merges.getD l (default : TRect)).Row (a0.Merges.getD l (default : TRect)).Col)), fun γ_ => .bool (!(raheadS (a0.Merges.getD ((l : Int) - 1).toNat (default : TRect)).Row (a0.Merges.getD ((l : Int) - 1).toNat (default : TRect)).Col (a0.Merges.getD l (default : TRect)).Row (a0.Merges.getD l (default : TRect)).Col)), fun γ_ => .bool (!(raheadS (a0.Merges.getD ((l : Int) - 1).toNat (default : TRect)).Row (a0.Merges.getD ((l : Int) - 1).toNat (default : TRect)).Col (a0.Merges.getD l (default : TRect)).Row (a0.Merges.getD l (default : TRect)).Col)), fun γ_ => .pointer (some ⟨b1299, 2, none⟩), fun γ_ => .int .i64 (a0.Merges.getD l (default : TRect)).Rows, fun γ_ => .bool (decide ((a0.Merges.getD l (default : TRect)).Rows < 1)), fun γ_ => .bool (decide ((a0.Merges.getD l (default : TRect)).Rows < 1)), fun γ_ => .bool (decide ((a0.Merges.getD l (default : TRect)).Rows < 1)), fun γ_ => undef, fun γ_ => undef, fun γ_ => undef, fun γ_ => .bool true, fun γ_ => .bool true, fun γ_ => undef, fun γ_ => undef, fun γ_ => undef, fun γ_ => undef, fun γ_ => undef, fun γ_ => undef, fun γ_ => undef, fun γ_ => undef, fun γ_ => .bool true] (List.replicate 44 (fun _ => [])) rfl (by kernel_rfl) (by decide +kernel) hS ?_ ?_
          ·refine ⟨fun g_ w1404 fr1405 hS => Sv_val rfl (R_move rfl rfl) ⟨gh0, rfl, hS⟩, ?_⟩
           refine ⟨fun g_ w1406 fr1407 hS => Sv_val rfl (R_bin rfl rfl rfl rfl rfl) ⟨gh0, rfl, hS⟩, ?_⟩
           refine ⟨fun g_ w1408 fr1409 hS => Sv_val rfl (R_move rfl rfl) ⟨gh0, rfl, hS⟩, ?_⟩
           refine ⟨fun g_ w1410 fr1411 hS => (Sv_gt rfl rfl rfl hg1301 (Sv_val rfl (R_fld rfl rfl fld39_4) ⟨gh0, rfl, hS⟩)), ?_⟩
           refine ⟨fun g_ w1412 fr1413 hS => (Sv_gt rfl rfl rfl hg1301 (Sv_val rfl (R_load1 rfl rfl agg37 ((hS.bx 1 rfl).cell rfl)) ⟨gh0, rfl, hS⟩)), ?_⟩
           refine ⟨fun g_ w1414 fr1415 hS => (Sv_gt rfl rfl rfl hg1301 (Sv_val rfl (R_move rfl rfl) ⟨gh0, rfl, hS⟩)), ?_⟩
           refine ⟨fun g_ w1416 fr1417 hS => (Sv_gt rfl rfl rfl hg1301 (Sv_val rfl (R_sub64 rfl rfl rfl (by omega) (by omega)) ⟨gh0, rfl, hS⟩)), ?_⟩
           refine ⟨fun g_ w1418 fr1419 hS => (Sv_gt rfl rfl rfl hg1301 (Sv_val rfl (R_idx rfl rfl hAq1400 rfl Try.underlying37 size33 (by omega) (by omega)) ⟨gh0, rfl, hS⟩)), ?_⟩
           refine ⟨fun g_ w1420 fr1421 hS => (Sv_gt rfl rfl rfl hg1301 (Sv_val rfl (R_fld rfl rfl fld33_0) ⟨gh0, rfl, hS⟩)), ?_⟩
           refine ⟨fun g_ w1422 fr1423 hS => (Sv_gt rfl rfl rfl hg1301 (Sv_val rfl (R_load1 rfl rfl agg3 (cell_add (hS.sub.cell (hkq1400 0 _ rfl)))) ⟨gh0, rfl, hS⟩)), ?_⟩
           refine ⟨fun g_ w1424 fr1425 hS => (Sv_gt rfl rfl rfl hg1301 (Sv_val rfl (R_fld rfl rfl fld39_4) ⟨gh0, rfl, hS⟩)), ?_⟩
           refine ⟨fun g_ w1426 fr1427 hS => (Sv_gt rfl rfl rfl hg1301 (Sv_val rfl (R_load1 rfl rfl agg37 ((hS.bx 1 rfl).cell rfl)) ⟨gh0, rfl, hS⟩)), ?_⟩
           refine ⟨fun g_ w1428 fr1429 hS => (Sv_gt rfl rfl rfl hg1301 (Sv_val rfl (R_move rfl rfl) ⟨gh0, rfl, hS⟩)), ?_⟩
           refine ⟨fun g_ w1430 fr1431 hS => (Sv_gt rfl rfl rfl hg1301 (Sv_val rfl (R_sub64 rfl rfl rfl (by omega) (by omega)) ⟨gh0, rfl, hS⟩)), ?_⟩
           refine ⟨fun g_ w1432 fr1433 hS => (Sv_gt rfl rfl rfl hg1301 (Sv_val rfl (R_idx rfl rfl hAq1401 rfl Try.underlying37 size33 (by omega) (by omega)) ⟨gh0, rfl, hS⟩)), ?_⟩
           refine ⟨fun g_ w1434 fr1435 hS => (Sv_gt rfl rfl rfl hg1301 (Sv_val rfl (R_fld rfl rfl fld33_1) ⟨gh0, rfl, hS⟩)), ?_⟩
           refine ⟨fun g_ w1436 fr1437 hS => (Sv_gt rfl rfl rfl hg1301 (Sv_val rfl (R_load1 rfl rfl agg3 (cell_add (hS.sub.cell (hkq1401 1 _ rfl)))) ⟨gh0, rfl, hS⟩)), ?_⟩
           refine ⟨fun g_ w1438 fr1439 hS => (Sv_gt rfl rfl rfl hg1301 (Sv_val rfl (R_fld rfl rfl fld33_0) ⟨gh0, rfl, hS⟩)), ?_⟩
           refine ⟨fun g_ w1440 fr1441 hS => (Sv_gt rfl rfl rfl hg1301 (Sv_val rfl (R_load1 rfl rfl agg3 ((hS.bx 0 rfl).cell rfl)) ⟨gh0, rfl, hS⟩)), ?_⟩
           refine ⟨fun g_ w1442 fr1443 hS => (Sv_gt rfl rfl rfl hg1301 (Sv_val rfl (R_fld rfl rfl fld33_1) ⟨gh0, rfl, hS⟩)), ?_⟩
           refine ⟨fun g_ w1444 fr1445 hS => (Sv_gt rfl rfl rfl hg1301 (Sv_val rfl (R_load1 rfl rfl agg3 ((hS.bx 0 rfl).cell rfl)) ⟨gh0, rfl, hS⟩)), ?_⟩
           refine ⟨fun g_ w1446 fr1447 hS => ?_, ?_⟩
           ·have _w1446 := trivial
            have hS : Sp (FF []) w z w1446 [bR b1299 33 [.int .i64 (a0.Merges.getD l (default : TRect)).Row, .int .i64 (a0.Merges.getD l (default : TRect)).Col, .int .i64 (a0.Merges.getD l (default : TRect)).Rows, .int .i64 (a0.Merges.getD l (default : TRect)).Cols], bR b2 39 [.int .i64 a0.Right, .slice Aa0_Widths a0.Widths.length ca0_Widths, .slice Aa0_Heights a0.Heights.length ca0_Heights, .slice Aa0_Cells a0.Cells.length ca0_Cells, .slice Aa0_Merges a0.Merges.length ca0_Merges], allR fr1447] := hS
            refine  (Sv_gt rfl rfl rfl hg1301 (Sv_call rfl rfl rfl ent92 ?_))
            refine (rahead_calls (a0.Merges.getD ((l : Int) - 1).toNat (default : TRect)).Row (a0.Merges.getD ((l : Int) - 1).toNat (default : TRect)).Col (a0.Merges.getD l (default : TRect)).Row (a0.Merges.getD l (default : TRect)).Col _ _ hS.out0  ).mono ?_
            rintro e_ w1448 ⟨rfl, hS_⟩
            refine ⟨_, rfl, ?_⟩
            have hS := hS.call0 hS_
            exact ⟨⟨fun _ => none, fun _ => 0, fun _ => zE, fun _ => 0⟩, rfl, hS.fin [0, 1, 2] (by decide) rfl⟩
           refine ⟨fun g_ w1450 fr1451 hS => (Sv_gt rfl rfl rfl hg1301 (Sv_val rfl (R_un rfl rfl rfl) ⟨gh0, rfl, hS⟩)), ?_⟩
           refine ⟨fun g_ w1452 fr1453 hS => Sv_val rfl (R_pick_t rfl rfl hg1301 rfl) ⟨gh0, rfl, hS⟩, ?_⟩
           refine ⟨fun g_ w1454 fr1455 hS => Sv_val rfl (R_move rfl rfl) ⟨gh0, rfl, hS⟩, ?_⟩
           refine ⟨fun g_ w1456 fr1457 hS => (Sv_gt rfl rfl rfl hg1302 (Sv_val rfl (R_fld rfl rfl fld33_2) ⟨gh0, rfl, hS⟩)), ?_⟩
           refine ⟨fun g_ w1458 fr1459 hS => (Sv_gt rfl rfl rfl hg1302 (Sv_val rfl (R_load1 rfl rfl agg3 ((hS.bx 0 rfl).cell rfl)) ⟨gh0, rfl, hS⟩)), ?_⟩
           refine ⟨fun g_ w1460 fr1461 hS => (Sv_gt rfl rfl rfl hg1302 (Sv_val rfl (R_bin rfl rfl rfl rfl rfl) ⟨gh0, rfl, hS⟩)), ?_⟩
           refine ⟨fun g_ w1462 fr1463 hS => Sv_val rfl (R_pick_f rfl rfl hg1302 rfl) ⟨gh0, rfl, hS⟩, ?_⟩
           refine ⟨fun g_ w1464 fr1465 hS => Sv_val rfl (R_move rfl rfl) ⟨gh0, rfl, hS⟩, ?_⟩
           refine ⟨fun g_ w1466 fr1467 hS => Sv_off rfl rfl rfl (by rw [hg1399]; rfl) ⟨gh0, rfl, hS⟩, ?_⟩
           refine ⟨fun g_ w1468 fr1469 hS => Sv_off rfl rfl rfl (by rw [hg1399]; rfl) ⟨gh0, rfl, hS⟩, ?_⟩
           refine ⟨fun g_ w1470 fr1471 hS => Sv_off rfl rfl rfl (by rw [hg1399]; rfl) ⟨gh0, rfl, hS⟩, ?_⟩
           refine ⟨fun g_ w1472 fr1473 hS => Sv_val rfl (R_pick_t rfl rfl hg1399 rfl) ⟨gh0, rfl, hS⟩, ?_⟩
           refine ⟨fun g_ w1474 fr1475 hS => Sv_val rfl (R_move rfl rfl) ⟨gh0, rfl, hS⟩, ?_⟩
           refine ⟨fun g_ w1476 fr1477 hS => Sv_off rfl rfl rfl rfl ⟨gh0, rfl, hS⟩, ?_⟩
           refine ⟨fun g_ w1478 fr1479 hS => Sv_off rfl rfl rfl rfl ⟨gh0, rfl, hS⟩, ?_⟩
           refine ⟨fun g_ w1480 fr1481 hS => Sv_off rfl rfl rfl rfl ⟨gh0, rfl, hS⟩, ?_⟩
           refine ⟨fun g_ w1482 fr1483 hS => Sv_off rfl rfl rfl rfl ⟨gh0, rfl, hS⟩, ?_⟩
           refine ⟨fun g_ w1484 fr1485 hS => Sv_offu rfl rfl rfl ⟨gh0, rfl, hS⟩, ?_⟩
           refine ⟨fun g_ w1486 fr1487 hS => Sv_offu rfl rfl rfl ⟨gh0, rfl, hS⟩, ?_⟩
           refine ⟨fun g_ w1488 fr1489 hS => Sv_offu rfl rfl rfl ⟨gh0, rfl, hS⟩, ?_⟩
           refine ⟨fun g_ w1490 fr1491 hS => Sv_off rfl rfl rfl rfl ⟨gh0, rfl, hS⟩, ?_⟩
           refine ⟨fun g_ w1492 fr1493 hS => Sv_val rfl (R_pick_t rfl rfl rfl rfl) ⟨gh0, rfl, hS⟩, ?_⟩
           exact trivial
          ·intro g_ w1494 hS
           have hS : Sp (FF []) w z w1494 [bR b1299 33 [.int .i64 (a0.Merges.getD l (default : TRect)).Row, .int .i64 (a0.Merges.getD l (default : TRect)).Col, .int .i64 (a0.Merges.getD l (default : TRect)).Rows, .int .i64 (a0.Merges.getD l (default : TRect)).Cols], bR b2 39 [.int .i64 a0.Right, .slice Aa0_Widths a0.Widths.length ca0_Widths, .slice Aa0_Heights a0.Heights.length ca0_Heights, .slice Aa0_Cells a0.Cells.length ca0_Cells, .slice Aa0_Merges a0.Merges.length ca0_Merges]] := hS
           refine An_fr [(1, .pointer (some ⟨b2, 0, none⟩)), (7, .int .i64 (l : Int)), (8, .pointer (some ⟨b1299, 0, none⟩)), (175, .bool true)] rfl ?_
           refine An_done (by decide +kernel) ?_
           refine E_then ?_
           refine C_if rfl rfl ?_
           refine C_seq ?_
           refine C_region ?_
           refine W_cons rfl (by decide) (Sv_val rfl (R_assign rfl rfl) ?_)
           refine W_nil ?_
           refine E_then ?_
           refine C_ret ?_
           refine E_block_ret ?_
           refine E_then_ret ?_
           refine E_then_ret ?_
           refine E_block_ret ?_
           refine E_then_ret ?_
           refine E_ret1 rfl rfl ?_
           exact ⟨Lret1 (Lbool (show false = (rorderS a0) by first | exact rord_top (by omega) | exact rord_ok (i := i) (j := j) (k := k) (l := l) (by omega) (by omega) hI0_1 (by omega) hI1_1 (by omega) (by omega) hI2_1 (by omega) (by omega) hI3_1 | exact rord_m (i := l) (by omega) (by unfold rmergeS; simp_all) | exact rord_c (i := k) (by omega) (by unfold rcellS; simp_all) | exact rord_h (i := j) (by omega) (by assumption) | exact rord_w (i := i) (by omega) (by assumption))), hS.fin [] (by decide) rfl⟩
         ·have _hg1399 := trivial
          have hg1399p : ¬ ((a0.Merges.getD l (default : TRect)).Rows < 1) := by simpa using hg1399
          rcases Bool.eq_false_or_eq_true (decide ((a0.Merges.getD l (default : TRect)).Cols < 1)) with hg1496 | hg1496
          ·have _hg1496 := trivial
           have hg1496p : (a0.Merges.getD l (default : TRect)).Cols < 1 := by simpa using hg1496
           refine C_fr [(1, .pointer (some ⟨b2, 0, none⟩)), (7, .int .i64 (l : Int)), (8, .pointer (some ⟨b1299, 0, none⟩))] rfl ?_
           obtain ⟨q1497, csq1497, hAq1497, rfl, hkq1497⟩ := hra0_Merges.at_ (default : TRect) (i := ((l : Int) - 1)) (by omega) (by omega)
           obtain ⟨q1498, csq1498, hAq1498, rfl, hkq1498⟩ := hra0_Merges.at_ (default : TRect) (i := ((l : Int) - 1)) (by omega) (by omega)
           refine C_drawn2 44 [[], [0], [1], [2], [3, 2], [2], [5, 2], [4, 6, 2], [7, 2], [8, 2], [2], [10, 2], [2], [12, 2], [11, 13, 2], [14, 2], [15, 2], [2], [17, 2], [2], [19, 2], [9, 16, 18, 20, 2, 2], [21, 2], [2, 22], [23, 21], [24], [25, 24], [26, 24], [24, 27], [28, 24], [29], [30, 29], [31, 29], [29, 32], [33, 29], [34], [35, 34], [36, 34], [37, 34, 34], [38], [39, 38], [40, 38], [38, 41, 34], [34, 42]] [some 132, some 133, some 134, some 135, some 136, some 137, some 138, some 139, some 140, some 141, some 142, some 143, some 144, some 145, some 146, some 147, some 148, some 149, some 150, some 151, some 152, some 153, some 154, some 155, some 156, some 157, some 158, some 159, some 160, some 161, some 162, some 163, some 164, some 165, some 166, some 167, some 168, some 169, some 170, some 171, some 172, some 173, some 174, some 175] [1, 7, 8] (List.replicate 44 44) (List.replicate 44 []) (List.replicate 44 []) [fun γ_ => .int .i64 (l : Int), fun γ_ => .bool (decide ((l : Int) > 0)), fun γ_ => .bool (decide ((l : Int) > 0)), fun γ_ => .pointer (some ⟨b2, 4, none⟩), fun γ_ => .slice Aa0_Merges a0.Merges.length ca0_Merges, fun γ_ => .int .i64 (l : Int), fun γ_ => .int .i64 ((l : Int) - 1), fun γ_ => .pointer (some (q1497.add (((l : Int) - 1).toNat * 4))), fun γ_ => .pointer (some ((q1497.add (((l : Int) - 1).toNat * 4)).add 0)), fun γ_ => .int .i64 (a0.Merges.getD ((l : Int) - 1).toNat (default : TRect)).Row, fun γ_ => .pointer (some ⟨b2, 4, none⟩), fun γ_ => .slice Aa0_Merges a0.Merges.length ca0_Merges, fun γ_ => .int .i64 (l : Int), fun γ_ => .int .i64 ((l : Int) - 1), fun γ_ => .pointer (some (q1498.add (((l : Int) - 1).toNat * 4))), fun γ_ => .pointer (some ((q1498.add (((l : Int) - 1).toNat * 4)).add 1)), fun γ_ => .int .i64 (a0.Merges.getD ((l : Int) - 1).toNat (default : TRect)).Col, fun γ_ => .pointer (some ⟨b1299, 0, none⟩), fun γ_ => .int .i64 (a0.Merges.getD l (default : TRect)).Row, fun γ_ => .pointer (some ⟨b1299, 1, none⟩), fun γ_ => .int .i64 (a0.Merges.getD l (default : TRect)).Col, fun γ_ => .bool (raheadS (a0.Merges.getD ((l : Int) - 1).toNat (default : TRect)).Row (a0.Merges.getD ((l : Int) - 1).toNat (default : TRect)).Col (a0.Merges.getD l (default : TRect)).Row (a0.Merges.getD l (default : TRect)).Col), fun γ_ => .bool (!(raheadS (a0.Merges.getD ((l : Int) - 1).toNat (default : TRect)).Row (a0.Merges.getD ((l : Int) - 1).toNat (default : TRect)).Col (a0.Merges.getD l (default : TRect)).Row (a0.Merges.getD l (default : TRect)).Col)), fun γ_ => .bool (!(raheadS (a0.Merges.getD ((l : Int) - 1).toNat (default : TRect)).Row (a0.Merges.getD ((l : Int) - 1).toNat (default : TRect)).Col (a0.Merges.getD l (default : TRect)).Row (a0.Merges.getD l (default : TRect)).Col)), fun γ_ => .bool (!(raheadS (a0.Merges.getD ((l : Int) - 1).toNat (default : TRect)).Row (a0.Merges.getD ((l : Int) - 1).toNat (default : TRect)).Col (a0.Merges.getD l (default : TRect)).Row (a0.Merges.getD l (default : TRect)).Col)), fun γ_ => .pointer (some ⟨b1299, 2, none⟩), fun γ_ => .int .i64 (a0.Merges.getD l (default : TRect)).Rows, fun γ_ => .bool (decide ((a0.Merges.getD l (default : TRect)).Rows < 1)), fun γ_ => .bool (decide ((a0.Merges.getD l (default : TRect)).Rows < 1)), fun γ_ => .bool (decide ((a0.Merges.getD l (default : TRect)).Rows < 1)), fun γ_ => .pointer (some ⟨b1299, 3, none⟩), fun γ_ => .int .i64 (a0.Merges.getD l (default : TRect)).Cols, fun γ_ => .bool (decide ((a0.Merges.getD l (default : TRect)).Cols < 1)), fun γ_ => .bool (decide ((a0.Merges.getD l (default : TRect)).Cols < 1)), fun γ_ => .bool (decide ((a0.Merges.getD l (default : TRect)).Cols < 1)), fun γ_ => undef, fun γ_ => undef, fun γ_ => undef, fun γ_ => undef, fun γ_ => undef, fun γ_ => undef, fun γ_ => undef, fun γ_ => undef, fun γ_ => .bool true] (List.replicate 44 (fun _ => [])) rfl (by kernel_rfl) (by decide +kernel) hS ?_ ?_
           ·refine ⟨fun g_ w1501 fr1502 hS => Sv_val rfl (R_move rfl rfl) ⟨gh0, rfl, hS⟩, ?_⟩
            refine ⟨fun g_ w1503 fr1504 hS => Sv_val rfl (R_bin rfl rfl rfl rfl rfl) ⟨gh0, rfl, hS⟩, ?_⟩
            refine ⟨fun g_ w1505 fr1506 hS => Sv_val rfl (R_move rfl rfl) ⟨gh0, rfl, hS⟩, ?_⟩
            refine ⟨fun g_ w1507 fr1508 hS => (Sv_gt rfl rfl rfl hg1301 (Sv_val rfl (R_fld rfl rfl fld39_4) ⟨gh0, rfl, hS⟩)), ?_⟩
            refine ⟨fun g_ w1509 fr1510 hS => (Sv_gt rfl rfl rfl hg1301 (Sv_val rfl (R_load1 rfl rfl agg37 ((hS.bx 1 rfl).cell rfl)) ⟨gh0, rfl, hS⟩)), ?_⟩
            refine ⟨fun g_ w1511 fr1512 hS => (Sv_gt rfl rfl rfl hg1301 (Sv_val rfl (R_move rfl rfl) ⟨gh0, rfl, hS⟩)), ?_⟩
            refine ⟨fun g_ w1513 fr1514 hS => (Sv_gt rfl rfl rfl hg1301 (Sv_val rfl (R_sub64 rfl rfl rfl (by omega) (by omega)) ⟨gh0, rfl, hS⟩)), ?_⟩
            refine ⟨fun g_ w1515 fr1516 hS => (Sv_gt rfl rfl rfl hg1301 (Sv_val rfl (R_idx rfl rfl hAq1497 rfl Try.underlying37 size33 (by omega) (by omega)) ⟨gh0, rfl, hS⟩)), ?_⟩
            refine ⟨fun g_ w1517 fr1518 hS => (Sv_gt rfl rfl rfl hg1301 (Sv_val rfl (R_fld rfl rfl fld33_0) ⟨gh0, rfl, hS⟩)), ?_⟩
            refine ⟨fun g_ w1519 fr1520 hS => (Sv_gt rfl rfl rfl hg1301 (Sv_val rfl (R_load1 rfl rfl agg3 (cell_add (hS.sub.cell (hkq1497 0 _ rfl)))) ⟨gh0, rfl, hS⟩)), ?_⟩
            refine ⟨fun g_ w1521 fr1522 hS => (Sv_gt rfl rfl rfl hg1301 (Sv_val rfl (R_fld rfl rfl fld39_4) ⟨gh0, rfl, hS⟩)), ?_⟩
            refine ⟨fun g_ w1523 fr1524 hS => (Sv_gt rfl rfl rfl hg1301 (Sv_val rfl (R_load1 rfl rfl agg37 ((hS.bx 1 rfl).cell rfl)) ⟨gh0, rfl, hS⟩)), ?_⟩
            refine ⟨fun g_ w1525 fr1526 hS => (Sv_gt rfl rfl rfl hg1301 (Sv_val rfl (R_move rfl rfl) ⟨gh0, rfl, hS⟩)), ?_⟩
            refine ⟨fun g_ w1527 fr1528 hS => (Sv_gt rfl rfl rfl hg1301 (Sv_val rfl (R_sub64 rfl rfl rfl (by omega) (by omega)) ⟨gh0, rfl, hS⟩)), ?_⟩
            refine ⟨fun g_ w1529 fr1530 hS => (Sv_gt rfl rfl rfl hg1301 (Sv_val rfl (R_idx rfl rfl hAq1498 rfl Try.underlying37 size33 (by omega) (by omega)) ⟨gh0, rfl, hS⟩)), ?_⟩
            refine ⟨fun g_ w1531 fr1532 hS => (Sv_gt rfl rfl rfl hg1301 (Sv_val rfl (R_fld rfl rfl fld33_1) ⟨gh0, rfl, hS⟩)), ?_⟩
            refine ⟨fun g_ w1533 fr1534 hS => (Sv_gt rfl rfl rfl hg1301 (Sv_val rfl (R_load1 rfl rfl agg3 (cell_add (hS.sub.cell (hkq1498 1 _ rfl)))) ⟨gh0, rfl, hS⟩)), ?_⟩
            refine ⟨fun g_ w1535 fr1536 hS => (Sv_gt rfl rfl rfl hg1301 (Sv_val rfl (R_fld rfl rfl fld33_0) ⟨gh0, rfl, hS⟩)), ?_⟩
            refine ⟨fun g_ w1537 fr1538 hS => (Sv_gt rfl rfl rfl hg1301 (Sv_val rfl (R_load1 rfl rfl agg3 ((hS.bx 0 rfl).cell rfl)) ⟨gh0, rfl, hS⟩)), ?_⟩
            refine ⟨fun g_ w1539 fr1540 hS => (Sv_gt rfl rfl rfl hg1301 (Sv_val rfl (R_fld rfl rfl fld33_1) ⟨gh0, rfl, hS⟩)), ?_⟩
            refine ⟨fun g_ w1541 fr1542 hS => (Sv_gt rfl rfl rfl hg1301 (Sv_val rfl (R_load1 rfl rfl agg3 ((hS.bx 0 rfl).cell rfl)) ⟨gh0, rfl, hS⟩)), ?_⟩
            refine ⟨fun g_ w1543 fr1544 hS => ?_, ?_⟩
            ·have _w1543 := trivial
             have hS : Sp (FF []) w z w1543 [bR b1299 33 [.int .i64 (a0.Merges.getD l (default : TRect)).Row, .int .i64 (a0.Merges.getD l (default : TRect)).Col, .int .i64 (a0.Merges.getD l (default : TRect)).Rows, .int .i64 (a0.Merges.getD l (default : TRect)).Cols], bR b2 39 [.int .i64 a0.Right, .slice Aa0_Widths a0.Widths.length ca0_Widths, .slice Aa0_Heights a0.Heights.length ca0_Heights, .slice Aa0_Cells a0.Cells.length ca0_Cells, .slice Aa0_Merges a0.Merges.length ca0_Merges], allR fr1544] := hS
             refine  (Sv_gt rfl rfl rfl hg1301 (Sv_call rfl rfl rfl ent92 ?_))
             refine (rahead_calls (a0.Merges.getD ((l : Int) - 1).toNat (default : TRect)).Row (a0.Merges.getD ((l : Int) - 1).toNat (default : TRect)).Col (a0.Merges.getD l (default : TRect)).Row (a0.Merges.getD l (default : TRect)).Col _ _ hS.out0  ).mono ?_
             rintro e_ w1545 ⟨rfl, hS_⟩
             refine ⟨_, rfl, ?_⟩
             have hS := hS.call0 hS_
             exact ⟨⟨fun _ => none, fun _ => 0, fun _ => zE, fun _ => 0⟩, rfl, hS.fin [0, 1, 2] (by decide) rfl⟩
            refine ⟨fun g_ w1547 fr1548 hS => (Sv_gt rfl rfl rfl hg1301 (Sv_val rfl (R_un rfl rfl rfl) ⟨gh0, rfl, hS⟩)), ?_⟩
            refine ⟨fun g_ w1549 fr1550 hS => Sv_val rfl (R_pick_t rfl rfl hg1301 rfl) ⟨gh0, rfl, hS⟩, ?_⟩
            refine ⟨fun g_ w1551 fr1552 hS => Sv_val rfl (R_move rfl rfl) ⟨gh0, rfl, hS⟩, ?_⟩
            refine ⟨fun g_ w1553 fr1554 hS => (Sv_gt rfl rfl rfl hg1302 (Sv_val rfl (R_fld rfl rfl fld33_2) ⟨gh0, rfl, hS⟩)), ?_⟩
            refine ⟨fun g_ w1555 fr1556 hS => (Sv_gt rfl rfl rfl hg1302 (Sv_val rfl (R_load1 rfl rfl agg3 ((hS.bx 0 rfl).cell rfl)) ⟨gh0, rfl, hS⟩)), ?_⟩
            refine ⟨fun g_ w1557 fr1558 hS => (Sv_gt rfl rfl rfl hg1302 (Sv_val rfl (R_bin rfl rfl rfl rfl rfl) ⟨gh0, rfl, hS⟩)), ?_⟩
            refine ⟨fun g_ w1559 fr1560 hS => Sv_val rfl (R_pick_f rfl rfl hg1302 rfl) ⟨gh0, rfl, hS⟩, ?_⟩
            refine ⟨fun g_ w1561 fr1562 hS => Sv_val rfl (R_move rfl rfl) ⟨gh0, rfl, hS⟩, ?_⟩
            refine ⟨fun g_ w1563 fr1564 hS => (Sv_gt rfl rfl rfl hg1399 (Sv_val rfl (R_fld rfl rfl fld33_3) ⟨gh0, rfl, hS⟩)), ?_⟩
            refine ⟨fun g_ w1565 fr1566 hS => (Sv_gt rfl rfl rfl hg1399 (Sv_val rfl (R_load1 rfl rfl agg3 ((hS.bx 0 rfl).cell rfl)) ⟨gh0, rfl, hS⟩)), ?_⟩
            refine ⟨fun g_ w1567 fr1568 hS => (Sv_gt rfl rfl rfl hg1399 (Sv_val rfl (R_bin rfl rfl rfl rfl rfl) ⟨gh0, rfl, hS⟩)), ?_⟩
            refine ⟨fun g_ w1569 fr1570 hS => Sv_val rfl (R_pick_f rfl rfl hg1399 rfl) ⟨gh0, rfl, hS⟩, ?_⟩
            refine ⟨fun g_ w1571 fr1572 hS => Sv_val rfl (R_move rfl rfl) ⟨gh0, rfl, hS⟩, ?_⟩
            refine ⟨fun g_ w1573 fr1574 hS => Sv_off rfl rfl rfl (by rw [hg1496]; rfl) ⟨gh0, rfl, hS⟩, ?_⟩
            refine ⟨fun g_ w1575 fr1576 hS => Sv_off rfl rfl rfl (by rw [hg1496]; rfl) ⟨gh0, rfl, hS⟩, ?_⟩
            refine ⟨fun g_ w1577 fr1578 hS => Sv_off rfl rfl rfl (by rw [hg1496]; rfl) ⟨gh0, rfl, hS⟩, ?_⟩
            refine ⟨fun g_ w1579 fr1580 hS => Sv_off rfl rfl rfl (by rw [hg1496]; rfl) ⟨gh0, rfl, hS⟩, ?_⟩
            refine ⟨fun g_ w1581 fr1582 hS => Sv_offu rfl rfl rfl ⟨gh0, rfl, hS⟩, ?_⟩
            refine ⟨fun g_ w1583 fr1584 hS => Sv_offu rfl rfl rfl ⟨gh0, rfl, hS⟩, ?_⟩
            refine ⟨fun g_ w1585 fr1586 hS => Sv_offu rfl rfl rfl ⟨gh0, rfl, hS⟩, ?_⟩
            refine ⟨fun g_ w1587 fr1588 hS => Sv_off rfl rfl rfl (by rw [hg1496]; rfl) ⟨gh0, rfl, hS⟩, ?_⟩
            refine ⟨fun g_ w1589 fr1590 hS => Sv_val rfl (R_pick_t rfl rfl hg1496 rfl) ⟨gh0, rfl, hS⟩, ?_⟩
            exact trivial
           ·intro g_ w1591 hS
            have hS : Sp (FF []) w z w1591 [bR b1299 33 [.int .i64 (a0.Merges.getD l (default : TRect)).Row, .int .i64 (a0.Merges.getD l (default : TRect)).Col, .int .i64 (a0.Merges.getD l (default : TRect)).Rows, .int .i64 (a0.Merges.getD l (default : TRect)).Cols], bR b2 39 [.int .i64 a0.Right, .slice Aa0_Widths a0.Widths.length ca0_Widths, .slice Aa0_Heights a0.Heights.length ca0_Heights, .slice Aa0_Cells a0.Cells.length ca0_Cells, .slice Aa0_Merges a0.Merges.length ca0_Merges]] := hS
            refine An_fr [(1, .pointer (some ⟨b2, 0, none⟩)), (7, .int .i64 (l : Int)), (8, .pointer (some ⟨b1299, 0, none⟩)), (175, .bool true)] rfl ?_
            refine An_done (by decide +kernel) ?_
            refine E_then ?_
            refine C_if rfl rfl ?_
            refine C_seq ?_
            refine C_region ?_
            refine W_cons rfl (by decide) (Sv_val rfl (R_assign rfl rfl) ?_)
            refine W_nil ?_
            refine E_then ?_
            refine C_ret ?_
            refine E_block_ret ?_
            refine E_then_ret ?_
            refine E_then_ret ?_
            refine E_block_ret ?_
            refine E_then_ret ?_
            refine E_ret1 rfl rfl ?_
            exact ⟨Lret1 (Lbool (show false = (rorderS a0) by first | exact rord_top (by omega) | exact rord_ok (i := i) (j := j) (k := k) (l := l) (by omega) (by omega) hI0_1 (by omega) hI1_1 (by omega) (by omega) hI2_1 (by omega) (by omega) hI3_1 | exact rord_m (i := l) (by omega) (by unfold rmergeS; simp_all) | exact rord_c (i := k) (by omega) (by unfold rcellS; simp_all) | exact rord_h (i := j) (by omega) (by assumption) | exact rord_w (i := i) (by omega) (by assumption))), hS.fin [] (by decide) rfl⟩
          ·have _hg1496 := trivial
           have hg1496p : ¬ ((a0.Merges.getD l (default : TRect)).Cols < 1) := by simpa using hg1496
           rcases Bool.eq_false_or_eq_true ((a0.Merges.getD l (default : TRect)).Rows == 1) with hg1593 | hg1593
           ·have _hg1593 := trivial
            have hg1593p : (a0.Merges.getD l (default : TRect)).Rows = 1 := by simpa using hg1593
            refine C_fr [(1, .pointer (some ⟨b2, 0, none⟩)), (7, .int .i64 (l : Int)), (8, .pointer (some ⟨b1299, 0, none⟩))] rfl ?_
            obtain ⟨q1594, csq1594, hAq1594, rfl, hkq1594⟩ := hra0_Merges.at_ (default : TRect) (i := ((l : Int) - 1)) (by omega) (by omega)
            obtain ⟨q1595, csq1595, hAq1595, rfl, hkq1595⟩ := hra0_Merges.at_ (default : TRect) (i := ((l : Int) - 1)) (by omega) (by omega)
            refine C_drawn2 44 [[], [0], [1], [2], [3, 2], [2], [5, 2], [4, 6, 2], [7, 2], [8, 2], [2], [10, 2], [2], [12, 2], [11, 13, 2], [14, 2], [15, 2], [2], [17, 2], [2], [19, 2], [9, 16, 18, 20, 2, 2], [21, 2], [2, 22], [23, 21], [24], [25, 24], [26, 24], [24, 27], [28, 24], [29], [30, 29], [31, 29], [29, 32], [33, 29], [34], [35, 34], [36, 34], [37, 34, 34], [38], [39, 38], [40, 38], [38, 41, 34], [34, 42]] [some 132, some 133, some 134, some 135, some 136, some 137, some 138, some 139, some 140, some 141, some 142, some 143, some 144, some 145, some 146, some 147, some 148, some 149, some 150, some 151, some 152, some 153, some 154, some 155, some 156, some 157, some 158, some 159, some 160, some 161, some 162, some 163, some 164, some 165, some 166, some 167, some 168, some 169, some 170, some 171, some 172, some 173, some 174, some 175] [1, 7, 8] (List.replicate 44 44) (List.replicate 44 []) (List.replicate 44 []) [fun γ_ => .int .i64 (l : Int), fun γ_ => .bool (decide ((l : Int) > 0)), fun γ_ => .bool (decide ((l : Int) > 0)), fun γ_ => .pointer (some ⟨b2, 4, none⟩), fun γ_ => .slice Aa0_Merges a0.Merges.length ca0_Merges, fun γ_ => .int .i64 (l : Int), fun γ_ => .int .i64 ((l : Int) - 1), fun γ_ => .pointer (some (q1594.add (((l : Int) - 1).toNat * 4))), fun γ_ => .pointer (some ((q1594.add (((l : Int) - 1).toNat * 4)).add 0)), fun γ_ => .int .i64 (a0.Merges.getD ((l : Int) - 1).toNat (default : TRect)).Row, fun γ_ => .pointer (some ⟨b2, 4, none⟩), fun γ_ => .slice Aa0_Merges a0.Merges.length ca0_Merges, fun γ_ => .int .i64 (l : Int), fun γ_ => .int .i64 ((l : Int) - 1), fun γ_ => .pointer (some (q1595.add (((l : Int) - 1).toNat * 4))), fun γ_ => .pointer (some ((q1595.add (((l : Int) - 1).toNat * 4)).add 1)), fun γ_ => .int .i64 (a0.Merges.getD ((l : Int) - 1).toNat (default : TRect)).Col, fun γ_ => .pointer (some ⟨b1299, 0, none⟩), fun γ_ => .int .i64 (a0.Merges.getD l (default : TRect)).Row, fun γ_ => .pointer (some ⟨b1299, 1, none⟩), fun γ_ => .int .i64 (a0.Merges.getD l (default : TRect)).Col, fun γ_ => .bool (raheadS (a0.Merges.getD ((l : Int) - 1).toNat (default : TRect)).Row (a0.Merges.getD ((l : Int) - 1).toNat (default : TRect)).Col (a0.Merges.getD l (default : TRect)).Row (a0.Merges.getD l (default : TRect)).Col), fun γ_ => .bool (!(raheadS (a0.Merges.getD ((l : Int) - 1).toNat (default : TRect)).Row (a0.Merges.getD ((l : Int) - 1).toNat (default : TRect)).Col (a0.Merges.getD l (default : TRect)).Row (a0.Merges.getD l (default : TRect)).Col)), fun γ_ => .bool (!(raheadS (a0.Merges.getD ((l : Int) - 1).toNat (default : TRect)).Row (a0.Merges.getD ((l : Int) - 1).toNat (default : TRect)).Col (a0.Merges.getD l (default : TRect)).Row (a0.Merges.getD l (default : TRect)).Col)), fun γ_ => .bool (!(raheadS (a0.Merges.getD ((l : Int) - 1).toNat (default : TRect)).Row (a0.Merges.getD ((l : Int) - 1).toNat (default : TRect)).Col (a0.Merges.getD l (default : TRect)).Row (a0.Merges.getD l (default : TRect)).Col)), fun γ_ => .pointer (some ⟨b1299, 2, none⟩), fun γ_ => .int .i64 (a0.Merges.getD l (default : TRect)).Rows, fun γ_ => .bool (decide ((a0.Merges.getD l (default : TRect)).Rows < 1)), fun γ_ => .bool (decide ((a0.Merges.getD l (default : TRect)).Rows < 1)), fun γ_ => .bool (decide ((a0.Merges.getD l (default : TRect)).Rows < 1)), fun γ_ => .pointer (some ⟨b1299, 3, none⟩), fun γ_ => .int .i64 (a0.Merges.getD l (default : TRect)).Cols, fun γ_ => .bool (decide ((a0.Merges.getD l (default : TRect)).Cols < 1)), fun γ_ => .bool (decide ((a0.Merges.getD l (default : TRect)).Cols < 1)), fun γ_ => .bool (decide ((a0.Merges.getD l (default : TRect)).Cols < 1)), fun γ_ => .pointer (some ⟨b1299, 2, none⟩), fun γ_ => .int .i64 (a0.Merges.getD l (default : TRect)).Rows, fun γ_ => .bool ((a0.Merges.getD l (default : TRect)).Rows == 1), fun γ_ => .bool ((a0.Merges.getD l (default : TRect)).Rows == 1), fun γ_ => .pointer (some ⟨b1299, 3, none⟩), fun γ_ => .int .i64 (a0.Merges.getD l (default : TRect)).Cols, fun γ_ => .bool ((a0.Merges.getD l (default : TRect)).Cols == 1), fun γ_ => .bool ((a0.Merges.getD l (default : TRect)).Cols == 1), fun γ_ => .bool ((a0.Merges.getD l (default : TRect)).Cols == 1)] (List.replicate 44 (fun _ => [])) rfl (by kernel_rfl) (by decide +kernel) hS ?_ ?_
            ·refine ⟨fun g_ w1598 fr1599 hS => Sv_val rfl (R_move rfl rfl) ⟨gh0, rfl, hS⟩, ?_⟩
             refine ⟨fun g_ w1600 fr1601 hS => Sv_val rfl (R_bin rfl rfl rfl rfl rfl) ⟨gh0, rfl, hS⟩, ?_⟩
             refine ⟨fun g_ w1602 fr1603 hS => Sv_val rfl (R_move rfl rfl) ⟨gh0, rfl, hS⟩, ?_⟩
             refine ⟨fun g_ w1604 fr1605 hS => (Sv_gt rfl rfl rfl hg1301 (Sv_val rfl (R_fld rfl rfl fld39_4) ⟨gh0, rfl, hS⟩)), ?_⟩
             refine ⟨fun g_ w1606 fr1607 hS => (Sv_gt rfl rfl rfl hg1301 (Sv_val rfl (R_load1 rfl rfl agg37 ((hS.bx 1 rfl).cell rfl)) ⟨gh0, rfl, hS⟩)), ?_⟩
             refine ⟨fun g_ w1608 fr1609 hS => (Sv_gt rfl rfl rfl hg1301 (Sv_val rfl (R_move rfl rfl) ⟨gh0, rfl, hS⟩)), ?_⟩
             refine ⟨fun g_ w1610 fr1611 hS => (Sv_gt rfl rfl rfl hg1301 (Sv_val rfl (R_sub64 rfl rfl rfl (by omega) (by omega)) ⟨gh0, rfl, hS⟩)), ?_⟩
             refine ⟨fun g_ w1612 fr1613 hS => (Sv_gt rfl rfl rfl hg1301 (Sv_val rfl (R_idx rfl rfl hAq1594 rfl Try.underlying37 size33 (by omega) (by omega)) ⟨gh0, rfl, hS⟩)), ?_⟩
             refine ⟨fun g_ w1614 fr1615 hS => (Sv_gt rfl rfl rfl hg1301 (Sv_val rfl (R_fld rfl rfl fld33_0) ⟨gh0, rfl, hS⟩)), ?_⟩
             refine ⟨fun g_ w1616 fr1617 hS => (Sv_gt rfl rfl rfl hg1301 (Sv_val rfl (R_load1 rfl rfl agg3 (cell_add (hS.sub.cell (hkq1594 0 _ rfl)))) ⟨gh0, rfl, hS⟩)), ?_⟩
             refine ⟨fun g_ w1618 fr1619 hS => (Sv_gt rfl rfl rfl hg1301 (Sv_val rfl (R_fld rfl rfl fld39_4) ⟨gh0, rfl, hS⟩)), ?_⟩
             refine ⟨fun g_ w1620 fr1621 hS => (Sv_gt rfl rfl rfl hg1301 (Sv_val rfl (R_load1 rfl rfl agg37 ((hS.bx 1 rfl).cell rfl)) ⟨gh0, rfl, hS⟩)), ?_⟩
             refine ⟨fun g_ w1622 fr1623 hS => (Sv_gt rfl rfl rfl hg1301 (Sv_val rfl (R_move rfl rfl) ⟨gh0, rfl, hS⟩)), ?_⟩
             refine ⟨fun g_ w1624 fr1625 hS => (Sv_gt rfl rfl rfl hg1301 (Sv_val rfl (R_sub64 rfl rfl rfl (by omega) (by omega)) ⟨gh0, rfl, hS⟩)), ?_⟩
             refine ⟨fun g_ w1626 fr1627 hS => (Sv_gt rfl rfl rfl hg1301 (Sv_val rfl (R_idx rfl rfl hAq1595 rfl Try.underlying37 size33 (by omega) (by omega)) ⟨gh0, rfl, hS⟩)), ?_⟩
             refine ⟨fun g_ w1628 fr1629 hS => (Sv_gt rfl rfl rfl hg1301 (Sv_val rfl (R_fld rfl rfl fld33_1) ⟨gh0, rfl, hS⟩)), ?_⟩
             refine ⟨fun g_ w1630 fr1631 hS => (Sv_gt rfl rfl rfl hg1301 (Sv_val rfl (R_load1 rfl rfl agg3 (cell_add (hS.sub.cell (hkq1595 1 _ rfl)))) ⟨gh0, rfl, hS⟩)), ?_⟩
             refine ⟨fun g_ w1632 fr1633 hS => (Sv_gt rfl rfl rfl hg1301 (Sv_val rfl (R_fld rfl rfl fld33_0) ⟨gh0, rfl, hS⟩)), ?_⟩
             refine ⟨fun g_ w1634 fr1635 hS => (Sv_gt rfl rfl rfl hg1301 (Sv_val rfl (R_load1 rfl rfl agg3 ((hS.bx 0 rfl).cell rfl)) ⟨gh0, rfl, hS⟩)), ?_⟩
             refine ⟨fun g_ w1636 fr1637 hS => (Sv_gt rfl rfl rfl hg1301 (Sv_val rfl (R_fld rfl rfl fld33_1) ⟨gh0, rfl, hS⟩)), ?_⟩
             refine ⟨fun g_ w1638 fr1639 hS => (Sv_gt rfl rfl rfl hg1301 (Sv_val rfl (R_load1 rfl rfl agg3 ((hS.bx 0 rfl).cell rfl)) ⟨gh0, rfl, hS⟩)), ?_⟩
             refine ⟨fun g_ w1640 fr1641 hS => ?_, ?_⟩
             ·have _w1640 := trivial
              have hS : Sp (FF []) w z w1640 [bR b1299 33 [.int .i64 (a0.Merges.getD l (default : TRect)).Row, .int .i64 (a0.Merges.getD l (default : TRect)).Col, .int .i64 (a0.Merges.getD l (default : TRect)).Rows, .int .i64 (a0.Merges.getD l (default : TRect)).Cols], bR b2 39 [.int .i64 a0.Right, .slice Aa0_Widths a0.Widths.length ca0_Widths, .slice Aa0_Heights a0.Heights.length ca0_Heights, .slice Aa0_Cells a0.Cells.length ca0_Cells, .slice Aa0_Merges a0.Merges.length ca0_Merges], allR fr1641] := hS
              refine  (Sv_gt rfl rfl rfl hg1301 (Sv_call rfl rfl rfl ent92 ?_))
              refine (rahead_calls (a0.Merges.getD ((l : Int) - 1).toNat (default : TRect)).Row (a0.Merges.getD ((l : Int) - 1).toNat (default : TRect)).Col (a0.Merges.getD l (default : TRect)).Row (a0.Merges.getD l (default : TRect)).Col _ _ hS.out0  ).mono ?_
              rintro e_ w1642 ⟨rfl, hS_⟩
              refine ⟨_, rfl, ?_⟩
              have hS := hS.call0 hS_
              exact ⟨⟨fun _ => none, fun _ => 0, fun _ => zE, fun _ => 0⟩, rfl, hS.fin [0, 1, 2] (by decide) rfl⟩
             refine ⟨fun g_ w1644 fr1645 hS => (Sv_gt rfl rfl rfl hg1301 (Sv_val rfl (R_un rfl rfl rfl) ⟨gh0, rfl, hS⟩)), ?_⟩
             refine ⟨fun g_ w1646 fr1647 hS => Sv_val rfl (R_pick_t rfl rfl hg1301 rfl) ⟨gh0, rfl, hS⟩, ?_⟩
             refine ⟨fun g_ w1648 fr1649 hS => Sv_val rfl (R_move rfl rfl) ⟨gh0, rfl, hS⟩, ?_⟩
             refine ⟨fun g_ w1650 fr1651 hS => (Sv_gt rfl rfl rfl hg1302 (Sv_val rfl (R_fld rfl rfl fld33_2) ⟨gh0, rfl, hS⟩)), ?_⟩
             refine ⟨fun g_ w1652 fr1653 hS => (Sv_gt rfl rfl rfl hg1302 (Sv_val rfl (R_load1 rfl rfl agg3 ((hS.bx 0 rfl).cell rfl)) ⟨gh0, rfl, hS⟩)), ?_⟩
             refine ⟨fun g_ w1654 fr1655 hS => (Sv_gt rfl rfl rfl hg1302 (Sv_val rfl (R_bin rfl rfl rfl rfl rfl) ⟨gh0, rfl, hS⟩)), ?_⟩
             refine ⟨fun g_ w1656 fr1657 hS => Sv_val rfl (R_pick_f rfl rfl hg1302 rfl) ⟨gh0, rfl, hS⟩, ?_⟩
             refine ⟨fun g_ w1658 fr1659 hS => Sv_val rfl (R_move rfl rfl) ⟨gh0, rfl, hS⟩, ?_⟩
             refine ⟨fun g_ w1660 fr1661 hS => (Sv_gt rfl rfl rfl hg1399 (Sv_val rfl (R_fld rfl rfl fld33_3) ⟨gh0, rfl, hS⟩)), ?_⟩
             refine ⟨fun g_ w1662 fr1663 hS => (Sv_gt rfl rfl rfl hg1399 (Sv_val rfl (R_load1 rfl rfl agg3 ((hS.bx 0 rfl).cell rfl)) ⟨gh0, rfl, hS⟩)), ?_⟩
             refine ⟨fun g_ w1664 fr1665 hS => (Sv_gt rfl rfl rfl hg1399 (Sv_val rfl (R_bin rfl rfl rfl rfl rfl) ⟨gh0, rfl, hS⟩)), ?_⟩
             refine ⟨fun g_ w1666 fr1667 hS => Sv_val rfl (R_pick_f rfl rfl hg1399 rfl) ⟨gh0, rfl, hS⟩, ?_⟩
             refine ⟨fun g_ w1668 fr1669 hS => Sv_val rfl (R_move rfl rfl) ⟨gh0, rfl, hS⟩, ?_⟩
             refine ⟨fun g_ w1670 fr1671 hS => (Sv_gt rfl rfl rfl hg1496 (Sv_val rfl (R_fld rfl rfl fld33_2) ⟨gh0, rfl, hS⟩)), ?_⟩
             refine ⟨fun g_ w1672 fr1673 hS => (Sv_gt rfl rfl rfl hg1496 (Sv_val rfl (R_load1 rfl rfl agg3 ((hS.bx 0 rfl).cell rfl)) ⟨gh0, rfl, hS⟩)), ?_⟩
             refine ⟨fun g_ w1674 fr1675 hS => (Sv_gt rfl rfl rfl hg1496 (Sv_val rfl (R_bin rfl rfl rfl rfl rfl) ⟨gh0, rfl, hS⟩)), ?_⟩
             refine ⟨fun g_ w1676 fr1677 hS => (Sv_gt rfl rfl rfl hg1496 (Sv_val rfl (R_move rfl rfl) ⟨gh0, rfl, hS⟩)), ?_⟩
             refine ⟨fun g_ w1678 fr1679 hS => (Sv_gt rfl rfl rfl hg1593 (Sv_val rfl (R_fld rfl rfl fld33_3) ⟨gh0, rfl, hS⟩)), ?_⟩
             refine ⟨fun g_ w1680 fr1681 hS => (Sv_gt rfl rfl rfl hg1593 (Sv_val rfl (R_load1 rfl rfl agg3 ((hS.bx 0 rfl).cell rfl)) ⟨gh0, rfl, hS⟩)), ?_⟩
             refine ⟨fun g_ w1682 fr1683 hS => (Sv_gt rfl rfl rfl hg1593 (Sv_val rfl (R_bin rfl rfl rfl rfl rfl) ⟨gh0, rfl, hS⟩)), ?_⟩
             refine ⟨fun g_ w1684 fr1685 hS => (Sv_gt rfl rfl rfl hg1496 (Sv_val rfl (R_pick_t rfl rfl hg1593 rfl) ⟨gh0, rfl, hS⟩)), ?_⟩
             refine ⟨fun g_ w1686 fr1687 hS => Sv_val rfl (R_pick_f rfl rfl hg1496 rfl) ⟨gh0, rfl, hS⟩, ?_⟩
             exact trivial
            ·intro g_ w1688 hS
             have hS : Sp (FF []) w z w1688 [bR b1299 33 [.int .i64 (a0.Merges.getD l (default : TRect)).Row, .int .i64 (a0.Merges.getD l (default : TRect)).Col, .int .i64 (a0.Merges.getD l (default : TRect)).Rows, .int .i64 (a0.Merges.getD l (default : TRect)).Cols], bR b2 39 [.int .i64 a0.Right, .slice Aa0_Widths a0.Widths.length ca0_Widths, .slice Aa0_Heights a0.Heights.length ca0_Heights, .slice Aa0_Cells a0.Cells.length ca0_Cells, .slice Aa0_Merges a0.Merges.length ca0_Merges]] := hS
             refine An_fr [(1, .pointer (some ⟨b2, 0, none⟩)), (7, .int .i64 (l : Int)), (8, .pointer (some ⟨b1299, 0, none⟩)), (175, .bool ((a0.Merges.getD l (default : TRect)).Cols == 1))] rfl ?_
             refine An_done (by decide +kernel) ?_
             refine E_then ?_
             refine C_ite rfl (fun hC8 => ?_) (fun hC8 => ?_)
             ·have _hC8 := trivial
              have hC8p : (a0.Merges.getD l (default : TRect)).Cols = 1 := by simpa using hC8
              refine C_seq ?_
              refine C_region ?_
              refine W_cons rfl (by decide) (Sv_val rfl (R_assign rfl rfl) ?_)
              refine W_nil ?_
              refine E_then ?_
              refine C_ret ?_
              refine E_block_ret ?_
              refine E_then_ret ?_
              refine E_then_ret ?_
              refine E_block_ret ?_
              refine E_then_ret ?_
              refine E_ret1 rfl rfl ?_
              exact ⟨Lret1 (Lbool (show false = (rorderS a0) by first | exact rord_top (by omega) | exact rord_ok (i := i) (j := j) (k := k) (l := l) (by omega) (by omega) hI0_1 (by omega) hI1_1 (by omega) (by omega) hI2_1 (by omega) (by omega) hI3_1 | exact rord_m (i := l) (by omega) (by unfold rmergeS; simp_all) | exact rord_c (i := k) (by omega) (by unfold rcellS; simp_all) | exact rord_h (i := j) (by omega) (by assumption) | exact rord_w (i := i) (by omega) (by assumption))), hS.fin [] (by decide) rfl⟩
             ·have _hC8 := trivial
              have hC8p : ¬ ((a0.Merges.getD l (default : TRect)).Cols = 1) := by simpa using hC8
              refine C_skip ?_
              refine E_block_normal ?_
              refine E_then ?_
              refine C_region ?_
              refine W_cons rfl (by decide) (Sv_val rfl (R_move rfl rfl) ?_)
              refine W_cons rfl (by decide) (Sv_val rfl (R_add64 rfl rfl rfl (by omega) (by omega)) ?_)
              refine W_cons rfl (by decide) (Sv_val rfl (R_assign rfl rfl) ?_)
              refine W_nil ?_
              refine E_round [1, 7] ?_ ⟨(l + 1 : Nat), rfl, (by omega), (by exact range_any_next hI3_1 (by simp_all [rmergeS])), rfl, hS.fin [1] (by decide) rfl⟩
              omega
           ·have _hg1593 := trivial
            have hg1593p : ¬ ((a0.Merges.getD l (default : TRect)).Rows = 1) := by simpa using hg1593
            refine C_fr [(1, .pointer (some ⟨b2, 0, none⟩)), (7, .int .i64 (l : Int)), (8, .pointer (some ⟨b1299, 0, none⟩))] rfl ?_
            obtain ⟨q1690, csq1690, hAq1690, rfl, hkq1690⟩ := hra0_Merges.at_ (default : TRect) (i := ((l : Int) - 1)) (by omega) (by omega)
            obtain ⟨q1691, csq1691, hAq1691, rfl, hkq1691⟩ := hra0_Merges.at_ (default : TRect) (i := ((l : Int) - 1)) (by omega) (by omega)
            refine C_drawn2 44 [[], [0], [1], [2], [3, 2], [2], [5, 2], [4, 6, 2], [7, 2], [8, 2], [2], [10, 2], [2], [12, 2], [11, 13, 2], [14, 2], [15, 2], [2], [17, 2], [2], [19, 2], [9, 16, 18, 20, 2, 2], [21, 2], [2, 22], [23, 21], [24], [25, 24], [26, 24], [24, 27], [28, 24], [29], [30, 29], [31, 29], [29, 32], [33, 29], [34], [35, 34], [36, 34], [37, 34, 34], [38], [39, 38], [40, 38], [38, 41, 34], [34, 42]] [some 132, some 133, some 134, some 135, some 136, some 137, some 138, some 139, some 140, some 141, some 142, some 143, some 144, some 145, some 146, some 147, some 148, some 149, some 150, some 151, some 152, some 153, some 154, some 155, some 156, some 157, some 158, some 159, some 160, some 161, some 162, some 163, some 164, some 165, some 166, some 167, some 168, some 169, some 170, some 171, some 172, some 173, some 174, some 175] [1, 7, 8] (List.replicate 44 44) (List.replicate 44 []) (List.replicate 44 []) [fun γ_ => .int .i64 (l : Int), fun γ_ => .bool (decide ((l : Int) > 0)), fun γ_ => .bool (decide ((l : Int) > 0)), fun γ_ => .pointer (some ⟨b2, 4, none⟩), fun γ_ => .slice Aa0_Merges a0.Merges.length ca0_Merges, fun γ_ => .int .i64 (l : Int), fun γ_ => .int .i64 ((l : Int) - 1), fun γ_ => .pointer (some (q1690.add (((l : Int) - 1).toNat * 4))), fun γ_ => .pointer (some ((q1690.add (((l : Int) - 1).toNat * 4)).add 0)), fun γ_ => .int .i64 (a0.Merges.getD ((l : Int) - 1).toNat (default : TRect)).Row, fun γ_ => .pointer (some ⟨b2, 4, none⟩), fun γ_ => .slice Aa0_Merges a0.Merges.length ca0_Merges, fun γ_ => .int .i64 (l : Int), fun γ_ => .int .i64 ((l : Int) - 1), fun γ_ => .pointer (some (q1691.add (((l : Int) - 1).toNat * 4))), fun γ_ => .pointer (some ((q1691.add (((l : Int) - 1).toNat * 4)).add 1)), fun γ_ => .int .i64 (a0.Merges.getD ((l : Int) - 1).toNat (default : TRect)).Col, fun γ_ => .pointer (some ⟨b1299, 0, none⟩), fun γ_ => .int .i64 (a0.Merges.getD l (default : TRect)).Row, fun γ_ => .pointer (some ⟨b1299, 1, none⟩), fun γ_ => .int .i64 (a0.Merges.getD l (default : TRect)).Col, fun γ_ => .bool (raheadS (a0.Merges.getD ((l : Int) - 1).toNat (default : TRect)).Row (a0.Merges.getD ((l : Int) - 1).toNat (default : TRect)).Col (a0.Merges.getD l (default : TRect)).Row (a0.Merges.getD l (default : TRect)).Col), fun γ_ => .bool (!(raheadS (a0.Merges.getD ((l : Int) - 1).toNat (default : TRect)).Row (a0.Merges.getD ((l : Int) - 1).toNat (default : TRect)).Col (a0.Merges.getD l (default : TRect)).Row (a0.Merges.getD l (default : TRect)).Col)), fun γ_ => .bool (!(raheadS (a0.Merges.getD ((l : Int) - 1).toNat (default : TRect)).Row (a0.Merges.getD ((l : Int) - 1).toNat (default : TRect)).Col (a0.Merges.getD l (default : TRect)).Row (a0.Merges.getD l (default : TRect)).Col)), fun γ_ => .bool (!(raheadS (a0.Merges.getD ((l : Int) - 1).toNat (default : TRect)).Row (a0.Merges.getD ((l : Int) - 1).toNat (default : TRect)).Col (a0.Merges.getD l (default : TRect)).Row (a0.Merges.getD l (default : TRect)).Col)), fun γ_ => .pointer (some ⟨b1299, 2, none⟩), fun γ_ => .int .i64 (a0.Merges.getD l (default : TRect)).Rows, fun γ_ => .bool (decide ((a0.Merges.getD l (default : TRect)).Rows < 1)), fun γ_ => .bool (decide ((a0.Merges.getD l (default : TRect)).Rows < 1)), fun γ_ => .bool (decide ((a0.Merges.getD l (default : TRect)).Rows < 1)), fun γ_ => .pointer (some ⟨b1299, 3, none⟩), fun γ_ => .int .i64 (a0.Merges.getD l (default : TRect)).Cols, fun γ_ => .bool (decide ((a0.Merges.getD l (default : TRect)).Cols < 1)), fun γ_ => .bool (decide ((a0.Merges.getD l (default : TRect)).Cols < 1)), fun γ_ => .bool (decide ((a0.Merges.getD l (default : TRect)).Cols < 1)), fun γ_ => .pointer (some ⟨b1299, 2, none⟩), fun γ_ => .int .i64 (a0.Merges.getD l (default : TRect)).Rows, fun γ_ => .bool ((a0.Merges.getD l (default : TRect)).Rows == 1), fun γ_ => .bool ((a0.Merges.getD l (default : TRect)).Rows == 1), fun γ_ => undef, fun γ_ => undef, fun γ_ => undef, fun γ_ => .bool false, fun γ_ => .bool false] (List.replicate 44 (fun _ => [])) rfl (by kernel_rfl) (by decide +kernel) hS ?_ ?_
            ·refine ⟨fun g_ w1694 fr1695 hS => Sv_val rfl (R_move rfl rfl) ⟨gh0, rfl, hS⟩, ?_⟩
             refine ⟨fun g_ w1696 fr1697 hS => Sv_val rfl (R_bin rfl rfl rfl rfl rfl) ⟨gh0, rfl, hS⟩, ?_⟩
             refine ⟨fun g_ w1698 fr1699 hS => Sv_val rfl (R_move rfl rfl) ⟨gh0, rfl, hS⟩, ?_⟩
             refine ⟨fun g_ w1700 fr1701 hS => (Sv_gt rfl rfl rfl hg1301 (Sv_val rfl (R_fld rfl rfl fld39_4) ⟨gh0, rfl, hS⟩)), ?_⟩
             refine ⟨fun g_ w1702 fr1703 hS => (Sv_gt rfl rfl rfl hg1301 (Sv_val rfl (R_load1 rfl rfl agg37 ((hS.bx 1 rfl).cell rfl)) ⟨gh0, rfl, hS⟩)), ?_⟩
             refine ⟨fun g_ w1704 fr1705 hS => (Sv_gt rfl rfl rfl hg1301 (Sv_val rfl (R_move rfl rfl) ⟨gh0, rfl, hS⟩)), ?_⟩
             refine ⟨fun g_ w1706 fr1707 hS => (Sv_gt rfl rfl rfl hg1301 (Sv_val rfl (R_sub64 rfl rfl rfl (by omega) (by omega)) ⟨gh0, rfl, hS⟩)), ?_⟩
             refine ⟨fun g_ w1708 fr1709 hS => (Sv_gt rfl rfl rfl hg1301 (Sv_val rfl (R_idx rfl rfl hAq1690 rfl Try.underlying37 size33 (by omega) (by omega)) ⟨gh0, rfl, hS⟩)), ?_⟩
             refine ⟨fun g_ w1710 fr1711 hS => (Sv_gt rfl rfl rfl hg1301 (Sv_val rfl (R_fld rfl rfl fld33_0) ⟨gh0, rfl, hS⟩)), ?_⟩
             refine ⟨fun g_ w1712 fr1713 hS => (Sv_gt rfl rfl rfl hg1301 (Sv_val rfl (R_load1 rfl rfl agg3 (cell_add (hS.sub.cell (hkq1690 0 _ rfl)))) ⟨gh0, rfl, hS⟩)), ?_⟩
             refine ⟨fun g_ w1714 fr1715 hS => (Sv_gt rfl rfl rfl hg1301 (Sv_val rfl (R_fld rfl rfl fld39_4) ⟨gh0, rfl, hS⟩)), ?_⟩
             refine ⟨fun g_ w1716 fr1717 hS => (Sv_gt rfl rfl rfl hg1301 (Sv_val rfl (R_load1 rfl rfl agg37 ((hS.bx 1 rfl).cell rfl)) ⟨gh0, rfl, hS⟩)), ?_⟩
             refine ⟨fun g_ w1718 fr1719 hS => (Sv_gt rfl rfl rfl hg1301 (Sv_val rfl (R_move rfl rfl) ⟨gh0, rfl, hS⟩)), ?_⟩
             refine ⟨fun g_ w1720 fr1721 hS => (Sv_gt rfl rfl rfl hg1301 (Sv_val rfl (R_sub64 rfl rfl rfl (by omega) (by omega)) ⟨gh0, rfl, hS⟩)), ?_⟩
             refine ⟨fun g_ w1722 fr1723 hS => (Sv_gt rfl rfl rfl hg1301 (Sv_val rfl (R_idx rfl rfl hAq1691 rfl Try.underlying37 size33 (by omega) (by omega)) ⟨gh0, rfl, hS⟩)), ?_⟩
             refine ⟨fun g_ w1724 fr1725 hS => (Sv_gt rfl rfl rfl hg1301 (Sv_val rfl (R_fld rfl rfl fld33_1) ⟨gh0, rfl, hS⟩)), ?_⟩
             refine ⟨fun g_ w1726 fr1727 hS => (Sv_gt rfl rfl rfl hg1301 (Sv_val rfl (R_load1 rfl rfl agg3 (cell_add (hS.sub.cell (hkq1691 1 _ rfl)))) ⟨gh0, rfl, hS⟩)), ?_⟩
             refine ⟨fun g_ w1728 fr1729 hS => (Sv_gt rfl rfl rfl hg1301 (Sv_val rfl (R_fld rfl rfl fld33_0) ⟨gh0, rfl, hS⟩)), ?_⟩
             refine ⟨fun g_ w1730 fr1731 hS => (Sv_gt rfl rfl rfl hg1301 (Sv_val rfl (R_load1 rfl rfl agg3 ((hS.bx 0 rfl).cell rfl)) ⟨gh0, rfl, hS⟩)), ?_⟩
             refine ⟨fun g_ w1732 fr1733 hS => (Sv_gt rfl rfl rfl hg1301 (Sv_val rfl (R_fld rfl rfl fld33_1) ⟨gh0, rfl, hS⟩)), ?_⟩
             refine ⟨fun g_ w1734 fr1735 hS => (Sv_gt rfl rfl rfl hg1301 (Sv_val rfl (R_load1 rfl rfl agg3 ((hS.bx 0 rfl).cell rfl)) ⟨gh0, rfl, hS⟩)), ?_⟩
             refine ⟨fun g_ w1736 fr1737 hS => ?_, ?_⟩
             ·have _w1736 := trivial
              have hS : Sp (FF []) w z w1736 [bR b1299 33 [.int .i64 (a0.Merges.getD l (default : TRect)).Row, .int .i64 (a0.Merges.getD l (default : TRect)).Col, .int .i64 (a0.Merges.getD l (default : TRect)).Rows, .int .i64 (a0.Merges.getD l (default : TRect)).Cols], bR b2 39 [.int .i64 a0.Right, .slice Aa0_Widths a0.Widths.length ca0_Widths, .slice Aa0_Heights a0.Heights.length ca0_Heights, .slice Aa0_Cells a0.Cells.length ca0_Cells, .slice Aa0_Merges a0.Merges.length ca0_Merges], allR fr1737] := hS
              refine  (Sv_gt rfl rfl rfl hg1301 (Sv_call rfl rfl rfl ent92 ?_))
              refine (rahead_calls (a0.Merges.getD ((l : Int) - 1).toNat (default : TRect)).Row (a0.Merges.getD ((l : Int) - 1).toNat (default : TRect)).Col (a0.Merges.getD l (default : TRect)).Row (a0.Merges.getD l (default : TRect)).Col _ _ hS.out0  ).mono ?_
              rintro e_ w1738 ⟨rfl, hS_⟩
              refine ⟨_, rfl, ?_⟩
              have hS := hS.call0 hS_
              exact ⟨⟨fun _ => none, fun _ => 0, fun _ => zE, fun _ => 0⟩, rfl, hS.fin [0, 1, 2] (by decide) rfl⟩
             refine ⟨fun g_ w1740 fr1741 hS => (Sv_gt rfl rfl rfl hg1301 (Sv_val rfl (R_un rfl rfl rfl) ⟨gh0, rfl, hS⟩)), ?_⟩
             refine ⟨fun g_ w1742 fr1743 hS => Sv_val rfl (R_pick_t rfl rfl hg1301 rfl) ⟨gh0, rfl, hS⟩, ?_⟩
             refine ⟨fun g_ w1744 fr1745 hS => Sv_val rfl (R_move rfl rfl) ⟨gh0, rfl, hS⟩, ?_⟩
             refine ⟨fun g_ w1746 fr1747 hS => (Sv_gt rfl rfl rfl hg1302 (Sv_val rfl (R_fld rfl rfl fld33_2) ⟨gh0, rfl, hS⟩)), ?_⟩
             refine ⟨fun g_ w1748 fr1749 hS => (Sv_gt rfl rfl rfl hg1302 (Sv_val rfl (R_load1 rfl rfl agg3 ((hS.bx 0 rfl).cell rfl)) ⟨gh0, rfl, hS⟩)), ?_⟩
             refine ⟨fun g_ w1750 fr1751 hS => (Sv_gt rfl rfl rfl hg1302 (Sv_val rfl (R_bin rfl rfl rfl rfl rfl) ⟨gh0, rfl, hS⟩)), ?_⟩
             refine ⟨fun g_ w1752 fr1753 hS => Sv_val rfl (R_pick_f rfl rfl hg1302 rfl) ⟨gh0, rfl, hS⟩, ?_⟩
             refine ⟨fun g_ w1754 fr1755 hS => Sv_val rfl (R_move rfl rfl) ⟨gh0, rfl, hS⟩, ?_⟩
             refine ⟨fun g_ w1756 fr1757 hS => (Sv_gt rfl rfl rfl hg1399 (Sv_val rfl (R_fld rfl rfl fld33_3) ⟨gh0, rfl, hS⟩)), ?_⟩
             refine ⟨fun g_ w1758 fr1759 hS => (Sv_gt rfl rfl rfl hg1399 (Sv_val rfl (R_load1 rfl rfl agg3 ((hS.bx 0 rfl).cell rfl)) ⟨gh0, rfl, hS⟩)), ?_⟩
             refine ⟨fun g_ w1760 fr1761 hS => (Sv_gt rfl rfl rfl hg1399 (Sv_val rfl (R_bin rfl rfl rfl rfl rfl) ⟨gh0, rfl, hS⟩)), ?_⟩
             refine ⟨fun g_ w1762 fr1763 hS => Sv_val rfl (R_pick_f rfl rfl hg1399 rfl) ⟨gh0, rfl, hS⟩, ?_⟩
             refine ⟨fun g_ w1764 fr1765 hS => Sv_val rfl (R_move rfl rfl) ⟨gh0, rfl, hS⟩, ?_⟩
             refine ⟨fun g_ w1766 fr1767 hS => (Sv_gt rfl rfl rfl hg1496 (Sv_val rfl (R_fld rfl rfl fld33_2) ⟨gh0, rfl, hS⟩)), ?_⟩
             refine ⟨fun g_ w1768 fr1769 hS => (Sv_gt rfl rfl rfl hg1496 (Sv_val rfl (R_load1 rfl rfl agg3 ((hS.bx 0 rfl).cell rfl)) ⟨gh0, rfl, hS⟩)), ?_⟩
             refine ⟨fun g_ w1770 fr1771 hS => (Sv_gt rfl rfl rfl hg1496 (Sv_val rfl (R_bin rfl rfl rfl rfl rfl) ⟨gh0, rfl, hS⟩)), ?_⟩
             refine ⟨fun g_ w1772 fr1773 hS => (Sv_gt rfl rfl rfl hg1496 (Sv_val rfl (R_move rfl rfl) ⟨gh0, rfl, hS⟩)), ?_⟩
             refine ⟨fun g_ w1774 fr1775 hS => Sv_off rfl rfl rfl (by rw [hg1593]; rfl) ⟨gh0, rfl, hS⟩, ?_⟩
             refine ⟨fun g_ w1776 fr1777 hS => Sv_off rfl rfl rfl (by rw [hg1593]; rfl) ⟨gh0, rfl, hS⟩, ?_⟩
             refine ⟨fun g_ w1778 fr1779 hS => Sv_off rfl rfl rfl (by rw [hg1593]; rfl) ⟨gh0, rfl, hS⟩, ?_⟩
             refine ⟨fun g_ w1780 fr1781 hS => (Sv_gt rfl rfl rfl hg1496 (Sv_val rfl (R_pick_f rfl rfl hg1593 rfl) ⟨gh0, rfl, hS⟩)), ?_⟩
             refine ⟨fun g_ w1782 fr1783 hS => Sv_val rfl (R_pick_f rfl rfl hg1496 rfl) ⟨gh0, rfl, hS⟩, ?_⟩
             exact trivial
            ·intro g_ w1784 hS
             have hS : Sp (FF []) w z w1784 [bR b1299 33 [.int .i64 (a0.Merges.getD l (default : TRect)).Row, .int .i64 (a0.Merges.getD l (default : TRect)).Col, .int .i64 (a0.Merges.getD l (default : TRect)).Rows, .int .i64 (a0.Merges.getD l (default : TRect)).Cols], bR b2 39 [.int .i64 a0.Right, .slice Aa0_Widths a0.Widths.length ca0_Widths, .slice Aa0_Heights a0.Heights.length ca0_Heights, .slice Aa0_Cells a0.Cells.length ca0_Cells, .slice Aa0_Merges a0.Merges.length ca0_Merges]] := hS
             refine An_fr [(1, .pointer (some ⟨b2, 0, none⟩)), (7, .int .i64 (l : Int)), (8, .pointer (some ⟨b1299, 0, none⟩)), (175, .bool false)] rfl ?_
             refine An_done (by decide +kernel) ?_
             refine E_then ?_
             refine C_else rfl rfl ?_
             refine C_skip ?_
             refine E_block_normal ?_
             refine E_then ?_
             refine C_region ?_
             refine W_cons rfl (by decide) (Sv_val rfl (R_move rfl rfl) ?_)
             refine W_cons rfl (by decide) (Sv_val rfl (R_add64 rfl rfl rfl (by omega) (by omega)) ?_)
             refine W_cons rfl (by decide) (Sv_val rfl (R_assign rfl rfl) ?_)
             refine W_nil ?_
             refine E_round [1, 7] ?_ ⟨(l + 1 : Nat), rfl, (by omega), (by exact range_any_next hI3_1 (by simp_all [rmergeS])), rfl, hS.fin [1] (by decide) rfl⟩
             omega
       ·have _hg1301 := trivial
        have hg1301p : ¬ ((l : Int) > 0) := by simpa using hg1301
        rcases Bool.eq_false_or_eq_true (decide ((a0.Merges.getD l (default : TRect)).Rows < 1)) with hg1786 | hg1786
        ·have _hg1786 := trivial
         have hg1786p : (a0.Merges.getD l (default : TRect)).Rows < 1 := by simpa using hg1786
         refine C_fr [(1, .pointer (some ⟨b2, 0, none⟩)), (7, .int .i64 (l : Int)), (8, .pointer (some ⟨b1299, 0, none⟩))] rfl ?_
         refine C_drawn2 44 [[], [0], [1], [2], [3, 2], [2], [5, 2], [4, 6, 2], [7, 2], [8, 2], [2], [10, 2], [2], [12, 2], [11, 13, 2], [14, 2], [15, 2], [2], [17, 2], [2], [19, 2], [9, 16, 18, 20, 2, 2], [21, 2], [2, 22], [23, 21], [24], [25, 24], [26, 24], [24, 27], [28, 24], [29], [30, 29], [31, 29], [29, 32], [33, 29], [34], [35, 34], [36, 34], [37, 34, 34], [38], [39, 38], [40, 38], [38, 41, 34], [34, 42]] [some 132, some 133, some 134, some 135, some 136, some 137, some 138, some 139, some 140, some 141, some 142, some 143, some 144, some 145, some 146, some 147, some 148, some 149, some 150, some 151, some 152, some 153, some 154, some 155, some 156, some 157, some 158, some 159, some 160, some 161, some 162, some 163, some 164, some 165, some 166, some 167, some 168, some 169, some 170, some 171, some 172, some 173, some 174, some 175] [1, 7, 8] (List.replicate 44 44) (List.replicate 44 []) (List.replicate 44 []) [fun γ_ => .int .i64 (l : Int), fun γ_ => .bool (decide ((l : Int) > 0)), fun γ_ => .bool (decide ((l : Int) > 0)), fun γ_ => undef, fun γ_ => undef, fun γ_ => undef, fun γ_ => undef, fun γ_ => undef, fun γ_ => undef, fun γ_ => undef, fun γ_ => undef, fun γ_ => undef, fun γ_ => undef, fun γ_ => undef, fun γ_ => undef, fun γ_ => undef, fun γ_ => undef, fun γ_ => undef, fun γ_ => undef, fun γ_ => undef, fun γ_ => undef, fun γ_ => undef, fun γ_ => undef, fun γ_ => .bool false, fun γ_ => .bool false, fun γ_ => .pointer (some ⟨b1299, 2, none⟩), fun γ_ => .int .i64 (a0.Merges.getD l (default : TRect)).Rows, fun γ_ => .bool (decide ((a0.Merges.getD l (default : TRect)).Rows < 1)), fun γ_ => .bool (decide ((a0.Merges.getD l (default : TRect)).Rows < 1)), fun γ_ => .bool (decide ((a0.Merges.getD l (default : TRect)).Rows < 1)), fun γ_ => undef, fun γ_ => undef, fun γ_ => undef, fun γ_ => .bool true, fun γ_ => .bool true, fun γ_ => undef, fun γ_ => undef, fun γ_ => undef, fun γ_ => undef, fun γ_ => undef, fun γ_ => undef, fun γ_ => undef, fun γ_ => undef, fun γ_ => .bool true] (List.replicate 44 (fun _ => [])) rfl (by kernel_rfl) (by decide +kernel) hS ?_ ?_
         ·refine ⟨fun g_ w1787 fr1788 hS => Sv_val rfl (R_move rfl rfl) ⟨gh0, rfl, hS⟩, ?_⟩
          refine ⟨fun g_ w1789 fr1790 hS => Sv_val rfl (R_bin rfl rfl rfl rfl rfl) ⟨gh0, rfl, hS⟩, ?_⟩
          refine ⟨fun g_ w1791 fr1792 hS => Sv_val rfl (R_move rfl rfl) ⟨gh0, rfl, hS⟩, ?_⟩
          refine ⟨fun g_ w1793 fr1794 hS => Sv_off rfl rfl rfl (by rw [hg1301]; rfl) ⟨gh0, rfl, hS⟩, ?_⟩
          refine ⟨fun g_ w1795 fr1796 hS => Sv_off rfl rfl rfl (by rw [hg1301]; rfl) ⟨gh0, rfl, hS⟩, ?_⟩
          refine ⟨fun g_ w1797 fr1798 hS => Sv_off rfl rfl rfl (by rw [hg1301]; rfl) ⟨gh0, rfl, hS⟩, ?_⟩
          refine ⟨fun g_ w1799 fr1800 hS => Sv_off rfl rfl rfl (by rw [hg1301]; rfl) ⟨gh0, rfl, hS⟩, ?_⟩
          refine ⟨fun g_ w1801 fr1802 hS => Sv_off rfl rfl rfl (by rw [hg1301]; rfl) ⟨gh0, rfl, hS⟩, ?_⟩
          refine ⟨fun g_ w1803 fr1804 hS => Sv_off rfl rfl rfl (by rw [hg1301]; rfl) ⟨gh0, rfl, hS⟩, ?_⟩
          refine ⟨fun g_ w1805 fr1806 hS => Sv_off rfl rfl rfl (by rw [hg1301]; rfl) ⟨gh0, rfl, hS⟩, ?_⟩
          refine ⟨fun g_ w1807 fr1808 hS => Sv_off rfl rfl rfl (by rw [hg1301]; rfl) ⟨gh0, rfl, hS⟩, ?_⟩
          refine ⟨fun g_ w1809 fr1810 hS => Sv_off rfl rfl rfl (by rw [hg1301]; rfl) ⟨gh0, rfl, hS⟩, ?_⟩
          refine ⟨fun g_ w1811 fr1812 hS => Sv_off rfl rfl rfl (by rw [hg1301]; rfl) ⟨gh0, rfl, hS⟩, ?_⟩
          refine ⟨fun g_ w1813 fr1814 hS => Sv_off rfl rfl rfl (by rw [hg1301]; rfl) ⟨gh0, rfl, hS⟩, ?_⟩
          refine ⟨fun g_ w1815 fr1816 hS => Sv_off rfl rfl rfl (by rw [hg1301]; rfl) ⟨gh0, rfl, hS⟩, ?_⟩
          refine ⟨fun g_ w1817 fr1818 hS => Sv_off rfl rfl rfl (by rw [hg1301]; rfl) ⟨gh0, rfl, hS⟩, ?_⟩
          refine ⟨fun g_ w1819 fr1820 hS => Sv_off rfl rfl rfl (by rw [hg1301]; rfl) ⟨gh0, rfl, hS⟩, ?_⟩
          refine ⟨fun g_ w1821 fr1822 hS => Sv_off rfl rfl rfl (by rw [hg1301]; rfl) ⟨gh0, rfl, hS⟩, ?_⟩
          refine ⟨fun g_ w1823 fr1824 hS => Sv_off rfl rfl rfl (by rw [hg1301]; rfl) ⟨gh0, rfl, hS⟩, ?_⟩
          refine ⟨fun g_ w1825 fr1826 hS => Sv_off rfl rfl rfl (by rw [hg1301]; rfl) ⟨gh0, rfl, hS⟩, ?_⟩
          refine ⟨fun g_ w1827 fr1828 hS => Sv_off rfl rfl rfl (by rw [hg1301]; rfl) ⟨gh0, rfl, hS⟩, ?_⟩
          refine ⟨fun g_ w1829 fr1830 hS => Sv_off rfl rfl rfl (by rw [hg1301]; rfl) ⟨gh0, rfl, hS⟩, ?_⟩
          refine ⟨fun g_ w1831 fr1832 hS => Sv_off rfl rfl rfl (by rw [hg1301]; rfl) ⟨gh0, rfl, hS⟩, ?_⟩
          refine ⟨fun g_ w1833 fr1834 hS => Sv_val rfl (R_pick_f rfl rfl hg1301 rfl) ⟨gh0, rfl, hS⟩, ?_⟩
          refine ⟨fun g_ w1835 fr1836 hS => Sv_val rfl (R_move rfl rfl) ⟨gh0, rfl, hS⟩, ?_⟩
          refine ⟨fun g_ w1837 fr1838 hS => (Sv_gt rfl rfl rfl rfl (Sv_val rfl (R_fld rfl rfl fld33_2) ⟨gh0, rfl, hS⟩)), ?_⟩
          refine ⟨fun g_ w1839 fr1840 hS => (Sv_gt rfl rfl rfl rfl (Sv_val rfl (R_load1 rfl rfl agg3 ((hS.bx 0 rfl).cell rfl)) ⟨gh0, rfl, hS⟩)), ?_⟩
          refine ⟨fun g_ w1841 fr1842 hS => (Sv_gt rfl rfl rfl rfl (Sv_val rfl (R_bin rfl rfl rfl rfl rfl) ⟨gh0, rfl, hS⟩)), ?_⟩
          refine ⟨fun g_ w1843 fr1844 hS => Sv_val rfl (R_pick_f rfl rfl rfl rfl) ⟨gh0, rfl, hS⟩, ?_⟩
          refine ⟨fun g_ w1845 fr1846 hS => Sv_val rfl (R_move rfl rfl) ⟨gh0, rfl, hS⟩, ?_⟩
          refine ⟨fun g_ w1847 fr1848 hS => Sv_off rfl rfl rfl (by rw [hg1786]; rfl) ⟨gh0, rfl, hS⟩, ?_⟩
          refine ⟨fun g_ w1849 fr1850 hS => Sv_off rfl rfl rfl (by rw [hg1786]; rfl) ⟨gh0, rfl, hS⟩, ?_⟩
          refine ⟨fun g_ w1851 fr1852 hS => Sv_off rfl rfl rfl (by rw [hg1786]; rfl) ⟨gh0, rfl, hS⟩, ?_⟩
          refine ⟨fun g_ w1853 fr1854 hS => Sv_val rfl (R_pick_t rfl rfl hg1786 rfl) ⟨gh0, rfl, hS⟩, ?_⟩
          refine ⟨fun g_ w1855 fr1856 hS => Sv_val rfl (R_move rfl rfl) ⟨gh0, rfl, hS⟩, ?_⟩
          refine ⟨fun g_ w1857 fr1858 hS => Sv_off rfl rfl rfl rfl ⟨gh0, rfl, hS⟩, ?_⟩
          refine ⟨fun g_ w1859 fr1860 hS => Sv_off rfl rfl rfl rfl ⟨gh0, rfl, hS⟩, ?_⟩
          refine ⟨fun g_ w1861 fr1862 hS => Sv_off rfl rfl rfl rfl ⟨gh0, rfl, hS⟩, ?_⟩
          refine ⟨fun g_ w1863 fr1864 hS => Sv_off rfl rfl rfl rfl ⟨gh0, rfl, hS⟩, ?_⟩
          refine ⟨fun g_ w1865 fr1866 hS => Sv_offu rfl rfl rfl ⟨gh0, rfl, hS⟩, ?_⟩
          refine ⟨fun g_ w1867 fr1868 hS => Sv_offu rfl rfl rfl ⟨gh0, rfl, hS⟩, ?_⟩
          refine ⟨fun g_ w1869 fr1870 hS => Sv_offu rfl rfl rfl ⟨gh0, rfl, hS⟩, ?_⟩
          refine ⟨fun g_ w1871 fr1872 hS => Sv_off rfl rfl rfl rfl ⟨gh0, rfl, hS⟩, ?_⟩
          refine ⟨fun g_ w1873 fr1874 hS => Sv_val rfl (R_pick_t rfl rfl rfl rfl) ⟨gh0, rfl, hS⟩, ?_⟩
          exact trivial
         ·intro g_ w1875 hS
          have hS : Sp (FF []) w z w1875 [bR b1299 33 [.int .i64 (a0.Merges.getD l (default : TRect)).Row, .int .i64 (a0.Merges.getD l (default : TRect)).Col, .int .i64 (a0.Merges.getD l (default : TRect)).Rows, .int .i64 (a0.Merges.getD l (default : TRect)).Cols], bR b2 39 [.int .i64 a0.Right, .slice Aa0_Widths a0.Widths.length ca0_Widths, .slice Aa0_Heights a0.Heights.length ca0_Heights, .slice Aa0_Cells a0.Cells.length ca0_Cells, .slice Aa0_Merges a0.Merges.length ca0_Merges]] := hS
          refine An_fr [(1, .pointer (some ⟨b2, 0, none⟩)), (7, .int .i64 (l : Int)), (8, .pointer (some ⟨b1299, 0, none⟩)), (175, .bool true)] rfl ?_
          refine An_done (by decide +kernel) ?_
          refine E_then ?_
          refine C_if rfl rfl ?_
          refine C_seq ?_
          refine C_region ?_
          refine W_cons rfl (by decide) (Sv_val rfl (R_assign rfl rfl) ?_)
          refine W_nil ?_
          refine E_then ?_
          refine C_ret ?_
          refine E_block_ret ?_
          refine E_then_ret ?_
          refine E_then_ret ?_
          refine E_block_ret ?_
          refine E_then_ret ?_
          refine E_ret1 rfl rfl ?_
          exact ⟨Lret1 (Lbool (show false = (rorderS a0) by first | exact rord_top (by omega) | exact rord_ok (i := i) (j := j) (k := k) (l := l) (by omega) (by omega) hI0_1 (by omega) hI1_1 (by omega) (by omega) hI2_1 (by omega) (by omega) hI3_1 | exact rord_m (i := l) (by omega) (by unfold rmergeS; simp_all) | exact rord_c (i := k) (by omega) (by unfold rcellS; simp_all) | exact rord_h (i := j) (by omega) (by assumption) | exact rord_w (i := i) (by omega) (by assumption))), hS.fin [] (by decide) rfl⟩
        ·have _hg1786 := trivial
         have hg1786p : ¬ ((a0.Merges.getD l (default : TRect)).Rows < 1) := by simpa using hg1786
         rcases Bool.eq_false_or_eq_true (decide ((a0.Merges.getD l (default : TRect)).Cols < 1)) with hg1877 | hg1877
         ·have _hg1877 := trivial
          have hg1877p : (a0.Merges.getD l (default : TRect)).Cols < 1 := by simpa using hg1877
          refine C_fr [(1, .pointer (some ⟨b2, 0, none⟩)), (7, .int .i64 (l : Int)), (8, .pointer (some ⟨b1299, 0, none⟩))] rfl ?_
          refine C_drawn2 44 [[], [0], [1], [2], [3, 2], [2], [5, 2], [4, 6, 2], [7, 2], [8, 2], [2], [10, 2], [2], [12, 2], [11, 13, 2], [14, 2], [15, 2], [2], [17, 2], [2], [19, 2], [9, 16, 18, 20, 2, 2], [21, 2], [2, 22], [23, 21], [24], [25, 24], [26, 24], [24, 27], [28, 24], [29], [30, 29], [31, 29], [29, 32], [33, 29], [34], [35, 34], [36, 34], [37, 34, 34], [38], [39, 38], [40, 38], [38, 41, 34], [34, 42]] [some 132, some 133, some 134, some 135, some 136, some 137, some 138, some 139, some 140, some 141, some 142, some 143, some 144, some 145, some 146, some 147, some 148, some 149, some 150, some 151, some 152, some 153, some 154, some 155, some 156, some 157, some 158, some 159, some 160, some 161, some 162, some 163, some 164, some 165, some 166, some 167, some 168, some 169, some 170, some 171, some 172, some 173, some 174, some 175] [1, 7, 8] (List.replicate 44 44) (List.replicate 44 []) (List.replicate 44 []) [fun γ_ => .int .i64 (l : Int), fun γ_ => .bool (decide ((l : Int) > 0)), fun γ_ => .bool (decide ((l : Int) > 0)), fun γ_ => undef, fun γ_ => undef, fun γ_ => undef, fun γ_ => undef, fun γ_ => undef, fun γ_ => undef, fun γ_ => undef, fun γ_ => undef, fun γ_ => undef, fun γ_ => undef, fun γ_ => undef, fun γ_ => undef, fun γ_ => undef, fun γ_ => undef, fun γ_ => undef, fun γ_ => undef, fun γ_ => undef, fun γ_ => undef, fun γ_ => undef, fun γ_ => undef, fun γ_ => .bool false, fun γ_ => .bool false, fun γ_ => .pointer (some ⟨b1299, 2, none⟩), fun γ_ => .int .i64 (a0.Merges.getD l (default : TRect)).Rows, fun γ_ => .bool (decide ((a0.Merges.getD l (default : TRect)).Rows < 1)), fun γ_ => .bool (decide ((a0.Merges.getD l (default : TRect)).Rows < 1)), fun γ_ => .bool (decide ((a0.Merges.getD l (default : TRect)).Rows < 1)), fun γ_ => .pointer (some ⟨b1299, 3, none⟩), fun γ_ => .int .i64 (a0.Merges.getD l (default : TRect)).Cols, fun γ_ => .bool (decide ((a0.Merges.getD l (default : TRect)).Cols < 1)), fun γ_ => .bool (decide ((a0.Merges.getD l (default : TRect)).Cols < 1)), fun γ_ => .bool (decide ((a0.Merges.getD l (default : TRect)).Cols < 1)), fun γ_ => undef, fun γ_ => undef, fun γ_ => undef, fun γ_ => undef, fun γ_ => undef, fun γ_ => undef, fun γ_ => undef, fun γ_ => undef, fun γ_ => .bool true] (List.replicate 44 (fun _ => [])) rfl (by kernel_rfl) (by decide +kernel) hS ?_ ?_
          ·refine ⟨fun g_ w1878 fr1879 hS => Sv_val rfl (R_move rfl rfl) ⟨gh0, rfl, hS⟩, ?_⟩
           refine ⟨fun g_ w1880 fr1881 hS => Sv_val rfl (R_bin rfl rfl rfl rfl rfl) ⟨gh0, rfl, hS⟩, ?_⟩
           refine ⟨fun g_ w1882 fr1883 hS => Sv_val rfl (R_move rfl rfl) ⟨gh0, rfl, hS⟩, ?_⟩
           refine ⟨fun g_ w1884 fr1885 hS => Sv_off rfl rfl rfl (by rw [hg1301]; rfl) ⟨gh0, rfl, hS⟩, ?_⟩
           refine ⟨fun g_ w1886 fr1887 hS => Sv_off rfl rfl rfl (by rw [hg1301]; rfl) ⟨gh0, rfl, hS⟩, ?_⟩
           refine ⟨fun g_ w1888 fr1889 hS => Sv_off rfl rfl rfl (by rw [hg1301]; rfl) ⟨gh0, rfl, hS⟩, ?_⟩
           refine ⟨fun g_ w1890 fr1891 hS => Sv_off rfl rfl rfl (by rw [hg1301]; rfl) ⟨gh0, rfl, hS⟩, ?_⟩
           refine ⟨fun g_ w1892 fr1893 hS => Sv_off rfl rfl rfl (by rw [hg1301]; rfl) ⟨gh0, rfl, hS⟩, ?_⟩
           refine ⟨fun g_ w1894 fr1895 hS => Sv_off rfl rfl rfl (by rw [hg1301]; rfl) ⟨gh0, rfl, hS⟩, ?_⟩
           refine ⟨fun g_ w1896 fr1897 hS => Sv_off rfl rfl rfl (by rw [hg1301]; rfl) ⟨gh0, rfl, hS⟩, ?_⟩
           refine ⟨fun g_ w1898 fr1899 hS => Sv_off rfl rfl rfl (by rw [hg1301]; rfl) ⟨gh0, rfl, hS⟩, ?_⟩
           refine ⟨fun g_ w1900 fr1901 hS => Sv_off rfl rfl rfl (by rw [hg1301]; rfl) ⟨gh0, rfl, hS⟩, ?_⟩
           refine ⟨fun g_ w1902 fr1903 hS => Sv_off rfl rfl rfl (by rw [hg1301]; rfl) ⟨gh0, rfl, hS⟩, ?_⟩
           refine ⟨fun g_ w1904 fr1905 hS => Sv_off rfl rfl rfl (by rw [hg1301]; rfl) ⟨gh0, rfl, hS⟩, ?_⟩
           refine ⟨fun g_ w1906 fr1907 hS => Sv_off rfl rfl rfl (by rw [hg1301]; rfl) ⟨gh0, rfl, hS⟩, ?_⟩
           refine ⟨fun g_ w1908 fr1909 hS => Sv_off rfl rfl rfl (by rw [hg1301]; rfl) ⟨gh0, rfl, hS⟩, ?_⟩
           refine ⟨fun g_ w1910 fr1911 hS => Sv_off rfl rfl rfl (by rw [hg1301]; rfl) ⟨gh0, rfl, hS⟩, ?_⟩
           refine ⟨fun g_ w1912 fr1913 hS => Sv_off rfl rfl rfl (by rw [hg1301]; rfl) ⟨gh0, rfl, hS⟩, ?_⟩
           refine ⟨fun g_ w1914 fr1915 hS => Sv_off rfl rfl rfl (by rw [hg1301]; rfl) ⟨gh0, rfl, hS⟩, ?_⟩
           refine ⟨fun g_ w1916 fr1917 hS => Sv_off rfl rfl rfl (by rw [hg1301]; rfl) ⟨gh0, rfl, hS⟩, ?_⟩
           refine ⟨fun g_ w1918 fr1919 hS => Sv_off rfl rfl rfl (by rw [hg1301]; rfl) ⟨gh0, rfl, hS⟩, ?_⟩
           refine ⟨fun g_ w1920 fr1921 hS => Sv_off rfl rfl rfl (by rw [hg1301]; rfl) ⟨gh0, rfl, hS⟩, ?_⟩
           refine ⟨fun g_ w1922 fr1923 hS => Sv_off rfl rfl rfl (by rw [hg1301]; rfl) ⟨gh0, rfl, hS⟩, ?_⟩
           refine ⟨fun g_ w1924 fr1925 hS => Sv_val rfl (R_pick_f rfl rfl hg1301 rfl) ⟨gh0, rfl, hS⟩, ?_⟩
           refine ⟨fun g_ w1926 fr1927 hS => Sv_val rfl (R_move rfl rfl) ⟨gh0, rfl, hS⟩, ?_⟩
           refine ⟨fun g_ w1928 fr1929 hS => (Sv_gt rfl rfl rfl rfl (Sv_val rfl (R_fld rfl rfl fld33_2) ⟨gh0, rfl, hS⟩)), ?_⟩
           refine ⟨fun g_ w1930 fr1931 hS => (Sv_gt rfl rfl rfl rfl (Sv_val rfl (R_load1 rfl rfl agg3 ((hS.bx 0 rfl).cell rfl)) ⟨gh0, rfl, hS⟩)), ?_⟩
           refine ⟨fun g_ w1932 fr1933 hS => (Sv_gt rfl rfl rfl rfl (Sv_val rfl (R_bin rfl rfl rfl rfl rfl) ⟨gh0, rfl, hS⟩)), ?_⟩
           refine ⟨fun g_ w1934 fr1935 hS => Sv_val rfl (R_pick_f rfl rfl rfl rfl) ⟨gh0, rfl, hS⟩, ?_⟩
           refine ⟨fun g_ w1936 fr1937 hS => Sv_val rfl (R_move rfl rfl) ⟨gh0, rfl, hS⟩, ?_⟩
           refine ⟨fun g_ w1938 fr1939 hS => (Sv_gt rfl rfl rfl hg1786 (Sv_val rfl (R_fld rfl rfl fld33_3) ⟨gh0, rfl, hS⟩)), ?_⟩
           refine ⟨fun g_ w1940 fr1941 hS => (Sv_gt rfl rfl rfl hg1786 (Sv_val rfl (R_load1 rfl rfl agg3 ((hS.bx 0 rfl).cell rfl)) ⟨gh0, rfl, hS⟩)), ?_⟩
           refine ⟨fun g_ w1942 fr1943 hS => (Sv_gt rfl rfl rfl hg1786 (Sv_val rfl (R_bin rfl rfl rfl rfl rfl) ⟨gh0, rfl, hS⟩)), ?_⟩
           refine ⟨fun g_ w1944 fr1945 hS => Sv_val rfl (R_pick_f rfl rfl hg1786 rfl) ⟨gh0, rfl, hS⟩, ?_⟩
           refine ⟨fun g_ w1946 fr1947 hS => Sv_val rfl (R_move rfl rfl) ⟨gh0, rfl, hS⟩, ?_⟩
           refine ⟨fun g_ w1948 fr1949 hS => Sv_off rfl rfl rfl (by rw [hg1877]; rfl) ⟨gh0, rfl, hS⟩, ?_⟩
           refine ⟨fun g_ w1950 fr1951 hS => Sv_off rfl rfl rfl (by rw [hg1877]; rfl) ⟨gh0, rfl, hS⟩, ?_⟩
           refine ⟨fun g_ w1952 fr1953 hS => Sv_off rfl rfl rfl (by rw [hg1877]; rfl) ⟨gh0, rfl, hS⟩, ?_⟩
           refine ⟨fun g_ w1954 fr1955 hS => Sv_off rfl rfl rfl (by rw [hg1877]; rfl) ⟨gh0, rfl, hS⟩, ?_⟩
           refine ⟨fun g_ w1956 fr1957 hS => Sv_offu rfl rfl rfl ⟨gh0, rfl, hS⟩, ?_⟩
           refine ⟨fun g_ w1958 fr1959 hS => Sv_offu rfl rfl rfl ⟨gh0, rfl, hS⟩, ?_⟩
           refine ⟨fun g_ w1960 fr1961 hS => Sv_offu rfl rfl rfl ⟨gh0, rfl, hS⟩, ?_⟩
           refine ⟨fun g_ w1962 fr1963 hS => Sv_off rfl rfl rfl (by rw [hg1877]; rfl) ⟨gh0, rfl, hS⟩, ?_⟩
           refine ⟨fun g_ w1964 fr1965 hS => Sv_val rfl (R_pick_t rfl rfl hg1877 rfl) ⟨gh0, rfl, hS⟩, ?_⟩
           exact trivial
          ·intro g_ w1966 hS
           have hS : Sp (FF []) w z w1966 [bR b1299 33 [.int .i64 (a0.Merges.getD l (default : TRect)).Row, .int .i64 (a0.Merges.getD l (default : TRect)).Col, .int .i64 (a0.Merges.getD l (default : TRect)).Rows, .int .i64 (a0.Merges.getD l (default : TRect)).Cols], bR b2 39 [.int .i64 a0.Right, .slice Aa0_Widths a0.Widths.length ca0_Widths, .slice Aa0_Heights a0.Heights.length ca0_Heights, .slice Aa0_Cells a0.Cells.length ca0_Cells, .slice Aa0_Merges a0.Merges.length ca0_Merges]] := hS
           refine An_fr [(1, .pointer (some ⟨b2, 0, none⟩)), (7, .int .i64 (l : Int)), (8, .pointer (some ⟨b1299, 0, none⟩)), (175, .bool true)] rfl ?_
           refine An_done (by decide +kernel) ?_
           refine E_then ?_
           refine C_if rfl rfl ?_
           refine C_seq ?_
           refine C_region ?_
           refine W_cons rfl (by decide) (Sv_val rfl (R_assign rfl rfl) ?_)
           refine W_nil ?_
           refine E_then ?_
           refine C_ret ?_
           refine E_block_ret ?_
           refine E_then_ret ?_
           refine E_then_ret ?_
           refine E_block_ret ?_
           refine E_then_ret ?_
           refine E_ret1 rfl rfl ?_
           exact ⟨Lret1 (Lbool (show false = (rorderS a0) by first | exact rord_top (by omega) | exact rord_ok (i := i) (j := j) (k := k) (l := l) (by omega) (by omega) hI0_1 (by omega) hI1_1 (by omega) (by omega) hI2_1 (by omega) (by omega) hI3_1 | exact rord_m (i := l) (by omega) (by unfold rmergeS; simp_all) | exact rord_c (i := k) (by omega) (by unfold rcellS; simp_all) | exact rord_h (i := j) (by omega) (by assumption) | exact rord_w (i := i) (by omega) (by assumption))), hS.fin [] (by decide) rfl⟩
         ·have _hg1877 := trivial
          have hg1877p : ¬ ((a0.Merges.getD l (default : TRect)).Cols < 1) := by simpa using hg1877
          rcases Bool.eq_false_or_eq_true ((a0.Merges.getD l (default : TRect)).Rows == 1) with hg1968 | hg1968
          ·have _hg1968 := trivial
           have hg1968p : (a0.Merges.getD l (default : TRect)).Rows = 1 := by simpa using hg1968
           refine C_fr [(1, .pointer (some ⟨b2, 0, none⟩)), (7, .int .i64 (l : Int)), (8, .pointer (some ⟨b1299, 0, none⟩))] rfl ?_
           refine C_drawn2 44 [[], [0], [1], [2], [3, 2], [2], [5, 2], [4, 6, 2], [7, 2], [8, 2], [2], [10, 2], [2], [12, 2], [11, 13, 2], [14, 2], [15, 2], [2], [17, 2], [2], [19, 2], [9, 16, 18, 20, 2, 2], [21, 2], [2, 22], [23, 21], [24], [25, 24], [26, 24], [24, 27], [28, 24], [29], [30, 29], [31, 29], [29, 32], [33, 29], [34], [35, 34], [36, 34], [37, 34, 34], [38], [39, 38], [40, 38], [38, 41, 34], [34, 42]] [some 132, some 133, some 134, some 135, some 136, some 137, some 138, some 139, some 140, some 141, some 142, some 143, some 144, some 145, some 146, some 147, some 148, some 149, some 150, some 151, some 152, some 153, some 154, some 155, some 156, some 157, some 158, some 159, some 160, some 161, some 162, some 163, some 164, some 165, some 166, some 167, some 168, some 169, some 170, some 171, some 172, some 173, some 174, some 175] [1, 7, 8] (List.replicate 44 44) (List.replicate 44 []) (List.replicate 44 []) [fun γ_ => .int .i64 (l : Int), fun γ_ => .bool (decide ((l : Int) > 0)), fun γ_ => .bool (decide ((l : Int) > 0)), fun γ_ => undef, fun γ_ => undef, fun γ_ => undef, fun γ_ => undef, fun γ_ => undef, fun γ_ => undef, fun γ_ => undef, fun γ_ => undef, fun γ_ => undef, fun γ_ => undef, fun γ_ => undef, fun γ_ => undef, fun γ_ => undef, fun γ_ => undef, fun γ_ => undef, fun γ_ => undef, fun γ_ => undef, fun γ_ => undef, fun γ_ => undef, fun γ_ => undef, fun γ_ => .bool false, fun γ_ => .bool false, fun γ_ => .pointer (some ⟨b1299, 2, none⟩), fun γ_ => .int .i64 (a0.Merges.getD l (default : TRect)).Rows, fun γ_ => .bool (decide ((a0.Merges.getD l (default : TRect)).Rows < 1)), fun γ_ => .bool (decide ((a0.Merges.getD l (default : TRect)).Rows < 1)), fun γ_ => .bool (decide ((a0.Merges.getD l (default : TRect)).Rows < 1)), fun γ_ => .pointer (some ⟨b1299, 3, none⟩), fun γ_ => .int .i64 (a0.Merges.getD l (default : TRect)).Cols, fun γ_ => .bool (decide ((a0.Merges.getD l (default : TRect)).Cols < 1)), fun γ_ => .bool (decide ((a0.Merges.getD l (default : TRect)).Cols < 1)), fun γ_ => .bool (decide ((a0.Merges.getD l (default : TRect)).Cols < 1)), fun γ_ => .pointer (some ⟨b1299, 2, none⟩), fun γ_ => .int .i64 (a0.Merges.getD l (default : TRect)).Rows, fun γ_ => .bool ((a0.Merges.getD l (default : TRect)).Rows == 1), fun γ_ => .bool ((a0.Merges.getD l (default : TRect)).Rows == 1), fun γ_ => .pointer (some ⟨b1299, 3, none⟩), fun γ_ => .int .i64 (a0.Merges.getD l (default : TRect)).Cols, fun γ_ => .bool ((a0.Merges.getD l (default : TRect)).Cols == 1), fun γ_ => .bool ((a0.Merges.getD l (default : TRect)).Cols == 1), fun γ_ => .bool ((a0.Merges.getD l (default : TRect)).Cols == 1)] (List.replicate 44 (fun _ => [])) rfl (by kernel_rfl) (by decide +kernel) hS ?_ ?_
           ·refine ⟨fun g_ w1969 fr1970 hS => Sv_val rfl (R_move rfl rfl) ⟨gh0, rfl, hS⟩, ?_⟩
            refine ⟨fun g_ w1971 fr1972 hS => Sv_val rfl (R_bin rfl rfl rfl rfl rfl) ⟨gh0, rfl, hS⟩, ?_⟩
            refine ⟨fun g_ w1973 fr1974 hS => Sv_val rfl (R_move rfl rfl) ⟨gh0, rfl, hS⟩, ?_⟩
            refine ⟨fun g_ w1975 fr1976 hS => Sv_off rfl rfl rfl (by rw [hg1301]; rfl) ⟨gh0, rfl, hS⟩, ?_⟩
            refine ⟨fun g_ w1977 fr1978 hS => Sv_off rfl rfl rfl (by rw [hg1301]; rfl) ⟨gh0, rfl, hS⟩, ?_⟩
            refine ⟨fun g_ w1979 fr1980 hS => Sv_off rfl rfl rfl (by rw [hg1301]; rfl) ⟨gh0, rfl, hS⟩, ?_⟩
            refine ⟨fun g_ w1981 fr1982 hS => Sv_off rfl rfl rfl (by rw [hg1301]; rfl) ⟨gh0, rfl, hS⟩, ?_⟩
            refine ⟨fun g_ w1983 fr1984 hS => Sv_off rfl rfl rfl (by rw [hg1301]; rfl) ⟨gh0, rfl, hS⟩, ?_⟩
            refine ⟨fun g_ w1985 fr1986 hS => Sv_off rfl rfl rfl (by rw [hg1301]; rfl) ⟨gh0, rfl, hS⟩, ?_⟩
            refine ⟨fun g_ w1987 fr1988 hS => Sv_off rfl rfl rfl (by rw [hg1301]; rfl) ⟨gh0, rfl, hS⟩, ?_⟩
            refine ⟨fun g_ w1989 fr1990 hS => Sv_off rfl rfl rfl (by rw [hg1301]; rfl) ⟨gh0, rfl, hS⟩, ?_⟩
            refine ⟨fun g_ w1991 fr1992 hS => Sv_off rfl rfl rfl (by rw [hg1301]; rfl) ⟨gh0, rfl, hS⟩, ?_⟩
            refine ⟨fun g_ w1993 fr1994 hS => Sv_off rfl rfl rfl (by rw [hg1301]; rfl) ⟨gh0, rfl, hS⟩, ?_⟩
            refine ⟨fun g_ w1995 fr1996 hS => Sv_off rfl rfl rfl (by rw [hg1301]; rfl) ⟨gh0, rfl, hS⟩, ?_⟩
            refine ⟨fun g_ w1997 fr1998 hS => Sv_off rfl rfl rfl (by rw [hg1301]; rfl) ⟨gh0, rfl, hS⟩, ?_⟩
            refine ⟨fun g_ w1999 fr2000 hS => Sv_off rfl rfl rfl (by rw [hg1301]; rfl) ⟨gh0, rfl, hS⟩, ?_⟩
            refine ⟨fun g_ w2001 fr2002 hS => Sv_off rfl rfl rfl (by rw [hg1301]; rfl) ⟨gh0, rfl, hS⟩, ?_⟩
            refine ⟨fun g_ w2003 fr2004 hS => Sv_off rfl rfl rfl (by rw [hg1301]; rfl) ⟨gh0, rfl, hS⟩, ?_⟩
            refine ⟨fun g_ w2005 fr2006 hS => Sv_off rfl rfl rfl (by rw [hg1301]; rfl) ⟨gh0, rfl, hS⟩, ?_⟩
            refine ⟨fun g_ w2007 fr2008 hS => Sv_off rfl rfl rfl (by rw [hg1301]; rfl) ⟨gh0, rfl, hS⟩, ?_⟩
            refine ⟨fun g_ w2009 fr2010 hS => Sv_off rfl rfl rfl (by rw [hg1301]; rfl) ⟨gh0, rfl, hS⟩, ?_⟩
            refine ⟨fun g_ w2011 fr2012 hS => Sv_off rfl rfl rfl (by rw [hg1301]; rfl) ⟨gh0, rfl, hS⟩, ?_⟩
            refine ⟨fun g_ w2013 fr2014 hS => Sv_off rfl rfl rfl (by rw [hg1301]; rfl) ⟨gh0, rfl, hS⟩, ?_⟩
            refine ⟨fun g_ w2015 fr2016 hS => Sv_val rfl (R_pick_f rfl rfl hg1301 rfl) ⟨gh0, rfl, hS⟩, ?_⟩
            refine ⟨fun g_ w2017 fr2018 hS => Sv_val rfl (R_move rfl rfl) ⟨gh0, rfl, hS⟩, ?_⟩
            refine ⟨fun g_ w2019 fr2020 hS => (Sv_gt rfl rfl rfl rfl (Sv_val rfl (R_fld rfl rfl fld33_2) ⟨gh0, rfl, hS⟩)), ?_⟩
            refine ⟨fun g_ w2021 fr2022 hS => (Sv_gt rfl rfl rfl rfl (Sv_val rfl (R_load1 rfl rfl agg3 ((hS.bx 0 rfl).cell rfl)) ⟨gh0, rfl, hS⟩)), ?_⟩
            refine ⟨fun g_ w2023 fr2024 hS => (Sv_gt rfl rfl rfl rfl (Sv_val rfl (R_bin rfl rfl rfl rfl rfl) ⟨gh0, rfl, hS⟩)), ?_⟩
            refine ⟨fun g_ w2025 fr2026 hS => Sv_val rfl (R_pick_f rfl rfl rfl rfl) ⟨gh0, rfl, hS⟩, ?_⟩
            refine ⟨fun g_ w2027 fr2028 hS => Sv_val rfl (R_move rfl rfl) ⟨gh0, rfl, hS⟩, ?_⟩
            refine ⟨fun g_ w2029 fr2030 hS => (Sv_gt rfl rfl rfl hg1786 (Sv_val rfl (R_fld rfl rfl fld33_3) ⟨gh0, rfl, hS⟩)), ?_⟩
            refine ⟨fun g_ w2031 fr2032 hS => (Sv_gt rfl rfl rfl hg1786 (Sv_val rfl (R_load1 rfl rfl agg3 ((hS.bx 0 rfl).cell rfl)) ⟨gh0, rfl, hS⟩)), ?_⟩
            refine ⟨fun g_ w2033 fr2034 hS => (Sv_gt rfl rfl rfl hg1786 (Sv_val rfl (R_bin rfl rfl rfl rfl rfl) ⟨gh0, rfl, hS⟩)), ?_⟩
            refine ⟨fun g_ w2035 fr2036 hS => Sv_val rfl (R_pick_f rfl rfl hg1786 rfl) ⟨gh0, rfl, hS⟩, ?_⟩
            refine ⟨fun g_ w2037 fr2038 hS => Sv_val rfl (R_move rfl rfl) ⟨gh0, rfl, hS⟩, ?_⟩
            refine ⟨fun g_ w2039 fr2040 hS => (Sv_gt rfl rfl rfl hg1877 (Sv_val rfl (R_fld rfl rfl fld33_2) ⟨gh0, rfl, hS⟩)), ?_⟩
            refine ⟨fun g_ w2041 fr2042 hS => (Sv_gt rfl rfl rfl hg1877 (Sv_val rfl (R_load1 rfl rfl agg3 ((hS.bx 0 rfl).cell rfl)) ⟨gh0, rfl, hS⟩)), ?_⟩
            refine ⟨fun g_ w2043 fr2044 hS => (Sv_gt rfl rfl rfl hg1877 (Sv_val rfl (R_bin rfl rfl rfl rfl rfl) ⟨gh0, rfl, hS⟩)), ?_⟩
            refine ⟨fun g_ w2045 fr2046 hS => (Sv_gt rfl rfl rfl hg1877 (Sv_val rfl (R_move rfl rfl) ⟨gh0, rfl, hS⟩)), ?_⟩
            refine ⟨fun g_ w2047 fr2048 hS => (Sv_gt rfl rfl rfl hg1968 (Sv_val rfl (R_fld rfl rfl fld33_3) ⟨gh0, rfl, hS⟩)), ?_⟩
            refine ⟨fun g_ w2049 fr2050 hS => (Sv_gt rfl rfl rfl hg1968 (Sv_val rfl (R_load1 rfl rfl agg3 ((hS.bx 0 rfl).cell rfl)) ⟨gh0, rfl, hS⟩)), ?_⟩
            refine ⟨fun g_ w2051 fr2052 hS => (Sv_gt rfl rfl rfl hg1968 (Sv_val rfl (R_bin rfl rfl rfl rfl rfl) ⟨gh0, rfl, hS⟩)), ?_⟩
            refine ⟨fun g_ w2053 fr2054 hS => (Sv_gt rfl rfl rfl hg1877 (Sv_val rfl (R_pick_t rfl rfl hg1968 rfl) ⟨gh0, rfl, hS⟩)), ?_⟩
            refine ⟨fun g_ w2055 fr2056 hS => Sv_val rfl (R_pick_f rfl rfl hg1877 rfl) ⟨gh0, rfl, hS⟩, ?_⟩
            exact trivial
           ·intro g_ w2057 hS
            have hS : Sp (FF []) w z w2057 [bR b1299 33 [.int .i64 (a0.Merges.getD l (default : TRect)).Row, .int .i64 (a0.Merges.getD l (default : TRect)).Col, .int .i64 (a0.Merges.getD l (default : TRect)).Rows, .int .i64 (a0.Merges.getD l (default : TRect)).Cols], bR b2 39 [.int .i64 a0.Right, .slice Aa0_Widths a0.Widths.length ca0_Widths, .slice Aa0_Heights a0.Heights.length ca0_Heights, .slice Aa0_Cells a0.Cells.length ca0_Cells, .slice Aa0_Merges a0.Merges.length ca0_Merges]] := hS
            refine An_fr [(1, .pointer (some ⟨b2, 0, none⟩)), (7, .int .i64 (l : Int)), (8, .pointer (some ⟨b1299, 0, none⟩)), (175, .bool ((a0.Merges.getD l (default : TRect)).Cols == 1))] rfl ?_
            refine An_done (by decide +kernel) ?_
            refine E_then ?_
            refine C_ite rfl (fun hC8 => ?_) (fun hC8 => ?_)
            ·have _hC8 := trivial
             have hC8p : (a0.Merges.getD l (default : TRect)).Cols = 1 := by simpa using hC8
             refine C_seq ?_
             refine C_region ?_
             refine W_cons rfl (by decide) (Sv_val rfl (R_assign rfl rfl) ?_)
             refine W_nil ?_
             refine E_then ?_
             refine C_ret ?_
             refine E_block_ret ?_
             refine E_then_ret ?_
             refine E_then_ret ?_
             refine E_block_ret ?_
             refine E_then_ret ?_
             refine E_ret1 rfl rfl ?_
             exact ⟨Lret1 (Lbool (show false = (rorderS a0) by first | exact rord_top (by omega) | exact rord_ok (i := i) (j := j) (k := k) (l := l) (by omega) (by omega) hI0_1 (by omega) hI1_1 (by omega) (by omega) hI2_1 (by omega) (by omega) hI3_1 | exact rord_m (i := l) (by omega) (by unfold rmergeS; simp_all) | exact rord_c (i := k) (by omega) (by unfold rcellS; simp_all) | exact rord_h (i := j) (by omega) (by assumption) | exact rord_w (i := i) (by omega) (by assumption))), hS.fin [] (by decide) rfl⟩
            ·have _hC8 := trivial
             have hC8p : ¬ ((a0.Merges.getD l (default : TRect)).Cols = 1) := by simpa using hC8
             refine C_skip ?_
             refine E_block_normal ?_
             refine E_then ?_
             refine C_region ?_
             refine W_cons rfl (by decide) (Sv_val rfl (R_move rfl rfl) ?_)
             refine W_cons rfl (by decide) (Sv_val rfl (R_add64 rfl rfl rfl (by omega) (by omega)) ?_)
             refine W_cons rfl (by decide) (Sv_val rfl (R_assign rfl rfl) ?_)
             refine W_nil ?_
             refine E_round [1, 7] ?_ ⟨(l + 1 : Nat), rfl, (by omega), (by exact range_any_next hI3_1 (by simp_all [rmergeS])), rfl, hS.fin [1] (by decide) rfl⟩
             omega
          ·have _hg1968 := trivial
           have hg1968p : ¬ ((a0.Merges.getD l (default : TRect)).Rows = 1) := by simpa using hg1968
           refine C_fr [(1, .pointer (some ⟨b2, 0, none⟩)), (7, .int .i64 (l : Int)), (8, .pointer (some ⟨b1299, 0, none⟩))] rfl ?_
           refine C_drawn2 44 [[], [0], [1], [2], [3, 2], [2], [5, 2], [4, 6, 2], [7, 2], [8, 2], [2], [10, 2], [2], [12, 2], [11, 13, 2], [14, 2], [15, 2], [2], [17, 2], [2], [19, 2], [9, 16, 18, 20, 2, 2], [21, 2], [2, 22], [23, 21], [24], [25, 24], [26, 24], [24, 27], [28, 24], [29], [30, 29], [31, 29], [29, 32], [33, 29], [34], [35, 34], [36, 34], [37, 34, 34], [38], [39, 38], [40, 38], [38, 41, 34], [34, 42]] [some 132, some 133, some 134, some 135, some 136, some 137, some 138, some 139, some 140, some 141, some 142, some 143, some 144, some 145, some 146, some 147, some 148, some 149, some 150, some 151, some 152, some 153, some 154, some 155, some 156, some 157, some 158, some 159, some 160, some 161, some 162, some 163, some 164, some 165, some 166, some 167, some 168, some 169, some 170, some 171, some 172, some 173, some 174, some 175] [1, 7, 8] (List.replicate 44 44) (List.replicate 44 []) (List.replicate 44 []) [fun γ_ => .int .i64 (l : Int), fun γ_ => .bool (decide ((l : Int) > 0)), fun γ_ => .bool (decide ((l : Int) > 0)), fun γ_ => undef, fun γ_ => undef, fun γ_ => undef, fun γ_ => undef, fun γ_ => undef, fun γ_ => undef, fun γ_ => undef, fun γ_ => undef, fun γ_ => undef, fun γ_ => undef, fun γ_ => undef, fun γ_ => undef, fun γ_ => undef, fun γ_ => undef, fun γ_ => undef, fun γ_ => undef, fun γ_ => undef, fun γ_ => undef, fun γ_ => undef, fun γ_ => undef, fun γ_ => .bool false, fun γ_ => .bool false, fun γ_ => .pointer (some ⟨b1299, 2, none⟩), fun γ_ => .int .i64 (a0.Merges.getD l (default : TRect)).Rows, fun γ_ => .bool (decide ((a0.Merges.getD l (default : TRect)).Rows < 1)), fun γ_ => .bool (decide ((a0.Merges.getD l (default : TRect)).Rows < 1)), fun γ_ => .bool (decide ((a0.Merges.getD l (default : TRect)).Rows < 1)), fun γ_ => .pointer (some ⟨b1299, 3, none⟩), fun γ_ => .int .i64 (a0.Merges.getD l (default : TRect)).Cols, fun γ_ => .bool (decide ((a0.Merges.getD l (default : TRect)).Cols < 1)), fun γ_ => .bool (decide ((a0.Merges.getD l (default : TRect)).Cols < 1)), fun γ_ => .bool (decide ((a0.Merges.getD l (default : TRect)).Cols < 1)), fun γ_ => .pointer (some ⟨b1299, 2, none⟩), fun γ_ => .int .i64 (a0.Merges.getD l (default : TRect)).Rows, fun γ_ => .bool ((a0.Merges.getD l (default : TRect)).Rows == 1), fun γ_ => .bool ((a0.Merges.getD l (default : TRect)).Rows == 1), fun γ_ => undef, fun γ_ => undef, fun γ_ => undef, fun γ_ => .bool false, fun γ_ => .bool false] (List.replicate 44 (fun _ => [])) rfl (by kernel_rfl) (by decide +kernel) hS ?_ ?_
           ·refine ⟨fun g_ w2059 fr2060 hS => Sv_val rfl (R_move rfl rfl) ⟨gh0, rfl, hS⟩, ?_⟩
            refine ⟨fun g_ w2061 fr2062 hS => Sv_val rfl (R_bin rfl rfl rfl rfl rfl) ⟨gh0, rfl, hS⟩, ?_⟩
            refine ⟨fun g_ w2063 fr2064 hS => Sv_val rfl (R_move rfl rfl) ⟨gh0, rfl, hS⟩, ?_⟩
            refine ⟨fun g_ w2065 fr2066 hS => Sv_off rfl rfl rfl (by rw [hg1301]; rfl) ⟨gh0, rfl, hS⟩, ?_⟩
            refine ⟨fun g_ w2067 fr2068 hS => Sv_off rfl rfl rfl (by rw [hg1301]; rfl) ⟨gh0, rfl, hS⟩, ?_⟩
            refine ⟨fun g_ w2069 fr2070 hS => Sv_off rfl rfl rfl (by rw [hg1301]; rfl) ⟨gh0, rfl, hS⟩, ?_⟩
            refine ⟨fun g_ w2071 fr2072 hS => Sv_off rfl rfl rfl (by rw [hg1301]; rfl) ⟨gh0, rfl, hS⟩, ?_⟩
            refine ⟨fun g_ w2073 fr2074 hS => Sv_off rfl rfl rfl (by rw [hg1301]; rfl) ⟨gh0, rfl, hS⟩, ?_⟩
            refine ⟨fun g_ w2075 fr2076 hS => Sv_off rfl rfl rfl (by rw [hg1301]; rfl) ⟨gh0, rfl, hS⟩, ?_⟩
            refine ⟨fun g_ w2077 fr2078 hS => Sv_off rfl rfl rfl (by rw [hg1301]; rfl) ⟨gh0, rfl, hS⟩, ?_⟩
            refine ⟨fun g_ w2079 fr2080 hS => Sv_off rfl rfl rfl (by rw [hg1301]; rfl) ⟨gh0, rfl, hS⟩, ?_⟩
            refine ⟨fun g_ w2081 fr2082 hS => Sv_off rfl rfl rfl (by rw [hg1301]; rfl) ⟨gh0, rfl, hS⟩, ?_⟩
            refine ⟨fun g_ w2083 fr2084 hS => Sv_off rfl rfl rfl (by rw [hg1301]; rfl) ⟨gh0, rfl, hS⟩, ?_⟩
            refine ⟨fun g_ w2085 fr2086 hS => Sv_off rfl rfl rfl (by rw [hg1301]; rfl) ⟨gh0, rfl, hS⟩, ?_⟩
            refine ⟨fun g_ w2087 fr2088 hS => Sv_off rfl rfl rfl (by rw [hg1301]; rfl) ⟨gh0, rfl, hS⟩, ?_⟩
            refine ⟨fun g_ w2089 fr2090 hS => Sv_off rfl rfl rfl (by rw [hg1301]; rfl) ⟨gh0, rfl, hS⟩, ?_⟩
            refine ⟨fun g_ w2091 fr2092 hS => Sv_off rfl rfl rfl (by rw [hg1301]; rfl) ⟨gh0, rfl, hS⟩, ?_⟩
            refine ⟨fun g_ w2093 fr2094 hS => Sv_off rfl rfl rfl (by rw [hg1301]; rfl) ⟨gh0, rfl, hS⟩, ?_⟩
            refine ⟨fun g_ w2095 fr2096 hS => Sv_off rfl rfl rfl (by rw [hg1301]; rfl) ⟨gh0, rfl, hS⟩, ?_⟩
            refine ⟨fun g_ w2097 fr2098 hS => Sv_off rfl rfl rfl (by rw [hg1301]; rfl) ⟨gh0, rfl, hS⟩, ?_⟩
            refine ⟨fun g_ w2099 fr2100 hS => Sv_off rfl rfl rfl (by rw [hg1301]; rfl) ⟨gh0, rfl, hS⟩, ?_⟩
            refine ⟨fun g_ w2101 fr2102 hS => Sv_off rfl rfl rfl (by rw [hg1301]; rfl) ⟨gh0, rfl, hS⟩, ?_⟩
            refine ⟨fun g_ w2103 fr2104 hS => Sv_off rfl rfl rfl (by rw [hg1301]; rfl) ⟨gh0, rfl, hS⟩, ?_⟩
            refine ⟨fun g_ w2105 fr2106 hS => Sv_val rfl (R_pick_f rfl rfl hg1301 rfl) ⟨gh0, rfl, hS⟩, ?_⟩
            refine ⟨fun g_ w2107 fr2108 hS => Sv_val rfl (R_move rfl rfl) ⟨gh0, rfl, hS⟩, ?_⟩
            refine ⟨fun g_ w2109 fr2110 hS => (Sv_gt rfl rfl rfl rfl (Sv_val rfl (R_fld rfl rfl fld33_2) ⟨gh0, rfl, hS⟩)), ?_⟩
            refine ⟨fun g_ w2111 fr2112 hS => (Sv_gt rfl rfl rfl rfl (Sv_val rfl (R_load1 rfl rfl agg3 ((hS.bx 0 rfl).cell rfl)) ⟨gh0, rfl, hS⟩)), ?_⟩
            refine ⟨fun g_ w2113 fr2114 hS => (Sv_gt rfl rfl rfl rfl (Sv_val rfl (R_bin rfl rfl rfl rfl rfl) ⟨gh0, rfl, hS⟩)), ?_⟩
            refine ⟨fun g_ w2115 fr2116 hS => Sv_val rfl (R_pick_f rfl rfl rfl rfl) ⟨gh0, rfl, hS⟩, ?_⟩
            refine ⟨fun g_ w2117 fr2118 hS => Sv_val rfl (R_move rfl rfl) ⟨gh0, rfl, hS⟩, ?_⟩
            refine ⟨fun g_ w2119 fr2120 hS => (Sv_gt rfl rfl rfl hg1786 (Sv_val rfl (R_fld rfl rfl fld33_3) ⟨gh0, rfl, hS⟩)), ?_⟩
            refine ⟨fun g_ w2121 fr2122 hS => (Sv_gt rfl rfl rfl hg1786 (Sv_val rfl (R_load1 rfl rfl agg3 ((hS.bx 0 rfl).cell rfl)) ⟨gh0, rfl, hS⟩)), ?_⟩
            refine ⟨fun g_ w2123 fr2124 hS => (Sv_gt rfl rfl rfl hg1786 (Sv_val rfl (R_bin rfl rfl rfl rfl rfl) ⟨gh0, rfl, hS⟩)), ?_⟩
            refine ⟨fun g_ w2125 fr2126 hS => Sv_val rfl (R_pick_f rfl rfl hg1786 rfl) ⟨gh0, rfl, hS⟩, ?_⟩
            refine ⟨fun g_ w2127 fr2128 hS => Sv_val rfl (R_move rfl rfl) ⟨gh0, rfl, hS⟩, ?_⟩
            refine ⟨fun g_ w2129 fr2130 hS => (Sv_gt rfl rfl rfl hg1877 (Sv_val rfl (R_fld rfl rfl fld33_2) ⟨gh0, rfl, hS⟩)), ?_⟩
            refine ⟨fun g_ w2131 fr2132 hS => (Sv_gt rfl rfl rfl hg1877 (Sv_val rfl (R_load1 rfl rfl agg3 ((hS.bx 0 rfl).cell rfl)) ⟨gh0, rfl, hS⟩)), ?_⟩
            refine ⟨fun g_ w2133 fr2134 hS => (Sv_gt rfl rfl rfl hg1877 (Sv_val rfl (R_bin rfl rfl rfl rfl rfl) ⟨gh0, rfl, hS⟩)), ?_⟩
            refine ⟨fun g_ w2135 fr2136 hS => (Sv_gt rfl rfl rfl hg1877 (Sv_val rfl (R_move rfl rfl) ⟨gh0, rfl, hS⟩)), ?_⟩
            refine ⟨fun g_ w2137 fr2138 hS => Sv_off rfl rfl rfl (by rw [hg1968]; rfl) ⟨gh0, rfl, hS⟩, ?_⟩
            refine ⟨fun g_ w2139 fr2140 hS => Sv_off rfl rfl rfl (by rw [hg1968]; rfl) ⟨gh0, rfl, hS⟩, ?_⟩
            refine ⟨fun g_ w2141 fr2142 hS => Sv_off rfl rfl rfl (by rw [hg1968]; rfl) ⟨gh0, rfl, hS⟩, ?_⟩
            refine ⟨fun g_ w2143 fr2144 hS => (Sv_gt rfl rfl rfl hg1877 (Sv_val rfl (R_pick_f rfl rfl hg1968 rfl) ⟨gh0, rfl, hS⟩)), ?_⟩
            refine ⟨fun g_ w2145 fr2146 hS => Sv_val rfl (R_pick_f rfl rfl hg1877 rfl) ⟨gh0, rfl, hS⟩, ?_⟩
            exact trivial
           ·intro g_ w2147 hS
            have hS : Sp (FF []) w z w2147 [bR b1299 33 [.int .i64 (a0.Merges.getD l (default : TRect)).Row, .int .i64 (a0.Merges.getD l (default : TRect)).Col, .int .i64 (a0.Merges.getD l (default : TRect)).Rows, .int .i64 (a0.Merges.getD l (default : TRect)).Cols], bR b2 39 [.int .i64 a0.Right, .slice Aa0_Widths a0.Widths.length ca0_Widths, .slice Aa0_Heights a0.Heights.length ca0_Heights, .slice Aa0_Cells a0.Cells.length ca0_Cells, .slice Aa0_Merges a0.Merges.length ca0_Merges]] := hS
            refine An_fr [(1, .pointer (some ⟨b2, 0, none⟩)), (7, .int .i64 (l : Int)), (8, .pointer (some ⟨b1299, 0, none⟩)), (175, .bool false)] rfl ?_
            refine An_done (by decide +kernel) ?_
            refine E_then ?_
            refine C_else rfl rfl ?_
            refine C_skip ?_
            refine E_block_normal ?_
            refine E_then ?_
            refine C_region ?_
            refine W_cons rfl (by decide) (Sv_val rfl (R_move rfl rfl) ?_)
            refine W_cons rfl (by decide) (Sv_val rfl (R_add64 rfl rfl rfl (by omega) (by omega)) ?_)
            refine W_cons rfl (by decide) (Sv_val rfl (R_assign rfl rfl) ?_)
            refine W_nil ?_
            refine E_round [1, 7] ?_ ⟨(l + 1 : Nat), rfl, (by omega), (by exact range_any_next hI3_1 (by simp_all [rmergeS])), rfl, hS.fin [1] (by decide) rfl⟩
            omega
      ·have _hC7 := trivial
       have hC7p : ¬ ((l : Int) < (a0.Merges.length : Int)) := by simpa using hC7
       refine C_exit ?_
       refine E_then_exit ?_
       refine E_then_exit ?_
       refine E_block_hit ?_
       refine E_then (C_fr [] rfl ?_)
       refine C_seq ?_
       refine C_region ?_
       refine W_cons rfl (by decide) (Sv_val rfl (R_assign rfl rfl) ?_)
       refine W_nil ?_
       refine E_then ?_
       refine C_ret ?_
       refine E_ret1 rfl rfl ?_
       exact ⟨Lret1 (Lbool (show true = (rorderS a0) by first | exact rord_top (by omega) | exact rord_ok (i := i) (j := j) (k := k) (l := l) (by omega) (by omega) hI0_1 (by omega) hI1_1 (by omega) (by omega) hI2_1 (by omega) (by omega) hI3_1 | exact rord_m (i := l) (by omega) (by unfold rmergeS; simp_all) | exact rord_c (i := k) (by omega) (by unfold rcellS; simp_all) | exact rord_h (i := j) (by omega) (by assumption) | exact rord_w (i := i) (by omega) (by assumption))), hS.fin [] (by decide) rfl⟩

end Go.Proofs.YtgjnhmidbapjmaaG
