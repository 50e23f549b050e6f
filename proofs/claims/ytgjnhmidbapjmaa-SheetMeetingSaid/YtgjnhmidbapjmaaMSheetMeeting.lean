/- The walk of the law SheetMeeting: it returns true. -/
import Derived.Test.YtgjnhmidbapjmaaU4
set_option linter.all false
namespace Go.Proofs.YtgjnhmidbapjmaaG
open Go Go.RowKit
set_option maxHeartbeats 2000000 in
set_option maxRecDepth 20000 in
theorem sheetMeeting_calls (a0 : TRect) (a1 : TRect) (z : Z) (w : World) (hI : In z w [])   :
    Calls Try.prog 10 #[.agg #[.int .i64 a0.Row, .int .i64 a0.Col, .int .i64 a0.Rows, .int .i64 a0.Cols], .agg #[.int .i64 a1.Row, .int .i64 a1.Col, .int .i64 a1.Rows, .int .i64 a1.Cols]] w fun e w' => e = .returned (.bool true) ∧ Sp (FF []) w z w' [] := by
 have hS := hI.sp
 refine Calls_of (vs := [.agg #[.int .i64 a0.Row, .int .i64 a0.Col, .int .i64 a0.Rows, .int .i64 a0.Cols], .agg #[.int .i64 a1.Row, .int .i64 a1.Col, .int .i64 a1.Rows, .int .i64 a1.Cols]]) (N := 67) Try.func10 rfl rfl (Nat.le_of_ble_eq_true rfl) ?_
 refine C_seq ?_
 refine C_region ?_
 refine W_cons rfl (by decide) (S_box hS rfl (R_box (cs := [.int .i64 a0.Row, .int .i64 a0.Col, .int .i64 a0.Rows, .int .i64 a0.Cols]) rfl rfl rfl) (fun b2 w1 hS => ?_))
 refine W_cons rfl (by decide) (S_box hS rfl (R_box (cs := [.int .i64 a1.Row, .int .i64 a1.Col, .int .i64 a1.Rows, .int .i64 a1.Cols]) rfl rfl rfl) (fun b4 w3 hS => ?_))
 refine W_cons rfl (by decide) (Sv_val rfl (R_assign rfl rfl) ?_)
 refine W_nil ?_
 refine E_then ?_
 refine C_seq ?_
 refine C_seq ?_
 refine C_region ?_
 refine W_cons rfl (by decide) (Sv_val rfl (R_fld rfl rfl fld33_0) ?_)
 refine W_cons rfl (by decide) (Sv_val rfl (R_load1 rfl rfl agg3 ((hS.bx 1 rfl).cell rfl)) ?_)
 refine W_cons rfl (by decide) (Sv_val rfl (R_fld rfl rfl fld33_1) ?_)
 refine W_cons rfl (by decide) (Sv_val rfl (R_load1 rfl rfl agg3 ((hS.bx 1 rfl).cell rfl)) ?_)
 refine W_cons rfl (by decide) (Sv_val rfl (R_fld rfl rfl fld33_0) ?_)
 refine W_cons rfl (by decide) (Sv_val rfl (R_load1 rfl rfl agg3 ((hS.bx 0 rfl).cell rfl)) ?_)
 refine W_cons rfl (by decide) (Sv_val rfl (R_fld rfl rfl fld33_1) ?_)
 refine W_cons rfl (by decide) (Sv_val rfl (R_load1 rfl rfl agg3 ((hS.bx 0 rfl).cell rfl)) ?_)
 refine W_cons rfl (by decide) (Sv_val rfl (R_fld rfl rfl fld33_2) ?_)
 refine W_cons rfl (by decide) (Sv_val rfl (R_load1 rfl rfl agg3 ((hS.bx 1 rfl).cell rfl)) ?_)
 refine W_cons rfl (by decide) (Sv_val rfl (R_fld rfl rfl fld33_3) ?_)
 refine W_cons rfl (by decide) (Sv_val rfl (R_load1 rfl rfl agg3 ((hS.bx 1 rfl).cell rfl)) ?_)
 refine W_cons rfl (by decide) (Sv_val rfl (R_fld rfl rfl fld33_2) ?_)
 refine W_cons rfl (by decide) (Sv_val rfl (R_load1 rfl rfl agg3 ((hS.bx 0 rfl).cell rfl)) ?_)
 refine W_cons rfl (by decide) (Sv_val rfl (R_fld rfl rfl fld33_3) ?_)
 refine W_cons rfl (by decide) (Sv_val rfl (R_load1 rfl rfl agg3 ((hS.bx 0 rfl).cell rfl)) ?_)
 refine W_cons rfl (by decide) (Sv_val rfl (R_build (w' := w3) (ps := [(0, (.tmp 11)), (1, (.tmp 13)), (2, (.tmp 15)), (3, (.tmp 17)), (4, (.tmp 19)), (5, (.tmp 21)), (6, (.tmp 23)), (7, (.tmp 25))]) (vs := [.int .i64 a0.Row, .int .i64 a0.Col, .int .i64 a1.Row, .int .i64 a1.Col, .int .i64 a0.Rows, .int .i64 a0.Cols, .int .i64 a1.Rows, .int .i64 a1.Cols]) (r := .agg #[.int .i64 a0.Row, .int .i64 a0.Col, .int .i64 a1.Row, .int .i64 a1.Col, .int .i64 a0.Rows, .int .i64 a0.Cols, .int .i64 a1.Rows, .int .i64 a1.Cols]) rfl rfl rfl (by kernel_rfl)) ?_)
 refine W_cons rfl (by decide) (Sv_val rfl (R_move rfl rfl) ?_)
 refine W_nil ?_
 refine E_then (C_fr [(2, .pointer (some ⟨b2, 0, none⟩)), (3, .pointer (some ⟨b4, 0, none⟩)), (26, .agg #[.int .i64 a0.Row, .int .i64 a0.Col, .int .i64 a1.Row, .int .i64 a1.Col, .int .i64 a0.Rows, .int .i64 a0.Cols, .int .i64 a1.Rows, .int .i64 a1.Cols]), (27, .int .i64 0)] rfl ?_)
 refine C_block ?_
 refine C_fr [(2, .pointer (some ⟨b2, 0, none⟩)), (3, .pointer (some ⟨b4, 0, none⟩)), (26, .agg #[.int .i64 a0.Row, .int .i64 a0.Col, .int .i64 a1.Row, .int .i64 a1.Col, .int .i64 a0.Rows, .int .i64 a0.Cols, .int .i64 a1.Rows, .int .i64 a1.Cols]), (27, .int .i64 0)] rfl ?_
 refine C_loop (fun m_ f_ w_ => ∃ (i : Nat), f_ = [(2, .pointer (some ⟨b2, 0, none⟩)), (3, .pointer (some ⟨b4, 0, none⟩)), (26, .agg #[.int .i64 a0.Row, .int .i64 a0.Col, .int .i64 a1.Row, .int .i64 a1.Col, .int .i64 a0.Rows, .int .i64 a0.Cols, .int .i64 a1.Rows, .int .i64 a1.Cols]), (27, .int .i64 (i : Int))] ∧ i ≤ 8 ∧ (∀ k, k < i → 0 ≤ (eight a0 a1).getD k 0 ∧ (eight a0 a1).getD k 0 ≤ 20) ∧ m_ = 9 - i ∧ Sp (FF []) w z w_ [bR b2 33 [.int .i64 a0.Row, .int .i64 a0.Col, .int .i64 a0.Rows, .int .i64 a0.Cols], bR b4 33 [.int .i64 a1.Row, .int .i64 a1.Col, .int .i64 a1.Rows, .int .i64 a1.Cols]]) (9 - (0 : Nat)) ⟨(0 : Nat), rfl, (by omega), (by omega), rfl, hS.fin [1, 0] (by decide) rfl⟩ ?_
 rintro m_ f_ w5 ⟨i, rfl, hI0_0, hI0_1, rfl, hS⟩
 refine C_seq ?_
 refine C_region ?_
 refine W_cons rfl (by decide) (Sv_val rfl (R_bin rfl rfl rfl rfl rfl) ?_)
 refine W_nil ?_
 refine E_then ?_
 refine C_seq ?_
 refine C_ite rfl (fun hC0 => ?_) (fun hC0 => ?_)
 ·have _hC0 := trivial
  have hC0p : (i : Int) < 8 := by simpa using hC0
  refine C_skip ?_
  refine E_then ?_
  refine C_seq ?_
  refine C_block ?_
  refine C_seq ?_
  refine C_region ?_
  refine W_cons rfl (by decide) (Sv_val rfl (R_aridx (xs := [a0.Row, a0.Col, a1.Row, a1.Col, a0.Rows, a0.Cols, a1.Rows, a1.Cols]) rfl rfl rfl Try.underlying53 agg3 size3 rfl (by omega) (by simp only [List.length_cons, List.length_nil]; omega)) ?_)
  refine W_cons rfl (by decide) (Sv_val rfl (R_assign rfl rfl) ?_)
  refine W_nil ?_
  refine E_then ?_
  refine C_seq ?_
  refine C_region ?_
  refine W_cons rfl (by decide) (Sv_val rfl (R_move rfl rfl) ?_)
  refine W_cons rfl (by decide) (Sv_val rfl (R_bin rfl rfl rfl rfl rfl) ?_)
  refine W_cons rfl (by decide) (Sv_val rfl (R_move rfl rfl) ?_)
  refine W_split (t := 32) rfl (fun hg6 => ?_) (fun hg6 => ?_)
  ·have _hg6 := trivial
   have hg6p : (([a0.Row, a0.Col, a1.Row, a1.Col, a0.Rows, a0.Cols, a1.Rows, a1.Cols] : List Int).getD i 0) < 0 := by simpa using hg6
   refine W_cons rfl (by decide) (Sv_off rfl rfl rfl (by rw [hg6] <;> rfl) ?_)
   refine W_cons rfl (by decide) (Sv_off rfl rfl rfl (by rw [hg6] <;> rfl) ?_)
   refine W_cons rfl (by decide) (Sv_val rfl (R_pick_t rfl rfl hg6 rfl) ?_)
   refine W_nil ?_
   refine E_then (C_fr [(2, .pointer (some ⟨b2, 0, none⟩)), (3, .pointer (some ⟨b4, 0, none⟩)), (26, .agg #[.int .i64 a0.Row, .int .i64 a0.Col, .int .i64 a1.Row, .int .i64 a1.Col, .int .i64 a0.Rows, .int .i64 a0.Cols, .int .i64 a1.Rows, .int .i64 a1.Cols]), (27, .int .i64 (i : Int)), (35, .bool true)] rfl ?_)
   refine C_if rfl rfl ?_
   refine C_seq ?_
   refine C_region ?_
   refine W_cons rfl (by decide) (Sv_call rfl rfl rfl ent29 ?_)
   refine (lawk_calls  _ _ hS.out0  ).mono ?_
   rintro e_ w7 ⟨rfl, hS_⟩
   refine ⟨_, rfl, ?_⟩
   have hS := hS.call0 hS_
   refine W_cons rfl (by decide) (Sv_val rfl (R_assign rfl rfl) ?_)
   refine W_nil ?_
   refine E_then (C_fr [(4, .bool true)] rfl ?_)
   refine C_ret ?_
   refine E_block_ret ?_
   refine E_then_ret ?_
   refine E_then_ret ?_
   refine E_block_ret ?_
   refine E_then_ret ?_
   refine E_ret1 rfl rfl ?_
   exact ⟨Lret1 (Lbool (show true = true by rfl)), hS.fin [] (by decide) rfl⟩
  ·have _hg6 := trivial
   have hg6p : ¬ ((([a0.Row, a0.Col, a1.Row, a1.Col, a0.Rows, a0.Cols, a1.Rows, a1.Cols] : List Int).getD i 0) < 0) := by simpa using hg6
   refine W_cons rfl (by decide) (Sv_gt rfl rfl rfl hg6 (Sv_val rfl (R_move rfl rfl) ?_))
   refine W_cons rfl (by decide) (Sv_gt rfl rfl rfl hg6 (Sv_val rfl (R_bin rfl rfl rfl rfl rfl) ?_))
   refine W_cons rfl (by decide) (Sv_val rfl (R_pick_f rfl rfl hg6 rfl) ?_)
   refine W_nil ?_
   refine E_then (C_fr [(2, .pointer (some ⟨b2, 0, none⟩)), (3, .pointer (some ⟨b4, 0, none⟩)), (26, .agg #[.int .i64 a0.Row, .int .i64 a0.Col, .int .i64 a1.Row, .int .i64 a1.Col, .int .i64 a0.Rows, .int .i64 a0.Cols, .int .i64 a1.Rows, .int .i64 a1.Cols]), (27, .int .i64 (i : Int)), (35, .bool (decide ((([a0.Row, a0.Col, a1.Row, a1.Col, a0.Rows, a0.Cols, a1.Rows, a1.Cols] : List Int).getD i 0) > 20)))] rfl ?_)
   refine C_ite rfl (fun hC1 => ?_) (fun hC1 => ?_)
   ·have _hC1 := trivial
    have hC1p : (([a0.Row, a0.Col, a1.Row, a1.Col, a0.Rows, a0.Cols, a1.Rows, a1.Cols] : List Int).getD i 0) > 20 := by simpa using hC1
    refine C_seq ?_
    refine C_region ?_
    refine W_cons rfl (by decide) (Sv_call rfl rfl rfl ent29 ?_)
    refine (lawk_calls  _ _ hS.out0  ).mono ?_
    rintro e_ w9 ⟨rfl, hS_⟩
    refine ⟨_, rfl, ?_⟩
    have hS := hS.call0 hS_
    refine W_cons rfl (by decide) (Sv_val rfl (R_assign rfl rfl) ?_)
    refine W_nil ?_
    refine E_then (C_fr [(4, .bool true)] rfl ?_)
    refine C_ret ?_
    refine E_block_ret ?_
    refine E_then_ret ?_
    refine E_then_ret ?_
    refine E_block_ret ?_
    refine E_then_ret ?_
    refine E_ret1 rfl rfl ?_
    exact ⟨Lret1 (Lbool (show true = true by rfl)), hS.fin [] (by decide) rfl⟩
   ·have _hC1 := trivial
    have hC1p : ¬ ((([a0.Row, a0.Col, a1.Row, a1.Col, a0.Rows, a0.Cols, a1.Rows, a1.Cols] : List Int).getD i 0) > 20) := by simpa using hC1
    refine C_skip ?_
    refine E_block_normal ?_
    refine E_then ?_
    refine C_region ?_
    refine W_cons rfl (by decide) (Sv_val rfl (R_add64 rfl rfl rfl (by omega) (by omega)) ?_)
    refine W_cons rfl (by decide) (Sv_val rfl (R_move rfl rfl) ?_)
    refine W_nil ?_
    refine E_round [2, 3, 26, 27] ?_ ⟨(i + 1 : Nat), rfl, (by omega), (by exact eight_next hI0_1 (by unfold eight; omega) (by unfold eight; omega)), rfl, hS.fin [0, 1] (by decide) rfl⟩
    omega
 ·have _hC0 := trivial
  have hC0p : ¬ ((i : Int) < 8) := by simpa using hC0
  refine C_exit ?_
  refine E_then_exit ?_
  refine E_then_exit ?_
  refine E_block_hit ?_
  refine E_then ?_
  refine C_seq ?_
  obtain ⟨hs1, hs2⟩ := eight_small (a := a0) (b := a1) (i := i) (by omega) hI0_1
  refine C_region ?_
  refine W_cons rfl (by decide) (Sv_val rfl (R_assign rfl rfl) ?_)
  refine W_nil ?_
  refine E_then ?_
  refine C_seq ?_
  refine C_seq ?_
  refine C_region ?_
  refine W_cons rfl (by decide) (Sv_val rfl (R_assign rfl rfl) ?_)
  refine W_nil ?_
  refine E_then ?_
  refine C_block ?_
  have hs12 : false = cellS a0 a1 (0 : Nat) := by rfl
  refine C_fr [(2, .pointer (some ⟨b2, 0, none⟩)), (3, .pointer (some ⟨b4, 0, none⟩)), (7, .bool false), (8, .int .i64 0)] rfl ?_
  refine C_loop (fun m_ f_ w_ => ∃ (n : Nat), f_ = [(2, .pointer (some ⟨b2, 0, none⟩)), (3, .pointer (some ⟨b4, 0, none⟩)), (7, .bool (cellS a0 a1 n)), (8, .int .i64 (n : Int))] ∧ n ≤ 41 ∧ m_ = 42 - n ∧ Sp (FF []) w z w_ [bR b2 33 [.int .i64 a0.Row, .int .i64 a0.Col, .int .i64 a0.Rows, .int .i64 a0.Cols], bR b4 33 [.int .i64 a1.Row, .int .i64 a1.Col, .int .i64 a1.Rows, .int .i64 a1.Cols]]) (42 - (0 : Nat)) ⟨(0 : Nat), (by rw [← hs12] <;> rfl), (by omega), rfl, hS.fin [0, 1] (by decide) rfl⟩ ?_
  rintro m_ f_ w11 ⟨n, rfl, hI1_0, rfl, hS⟩
  refine C_seq ?_
  refine C_seq ?_
  refine C_region ?_
  refine W_cons rfl (by decide) (Sv_val rfl (R_move rfl rfl) ?_)
  refine W_cons rfl (by decide) (Sv_val rfl (R_bin rfl rfl rfl rfl rfl) ?_)
  refine W_nil ?_
  refine E_then ?_
  refine C_ite rfl (fun hC2 => ?_) (fun hC2 => ?_)
  ·have _hC2 := trivial
   have hC2p : (n : Int) < 41 := by simpa using hC2
   refine C_skip ?_
   refine E_then ?_
   refine C_seq ?_
   refine C_block ?_
   refine C_seq ?_
   refine C_region ?_
   refine W_cons rfl (by decide) (Sv_val rfl (R_assign rfl rfl) ?_)
   refine W_nil ?_
   refine E_then ?_
   refine C_block ?_
   have hs14 : cellS a0 a1 n = (cellS a0 a1 n || cellAtS a0 a1 n (0 : Nat)) := by simp [cellAtS]
   refine C_fr [(2, .pointer (some ⟨b2, 0, none⟩)), (3, .pointer (some ⟨b4, 0, none⟩)), (7, .bool (cellS a0 a1 n)), (8, .int .i64 (n : Int)), (9, .int .i64 0)] rfl ?_
   refine C_loop (fun m_ f_ w_ => ∃ (m : Nat), f_ = [(2, .pointer (some ⟨b2, 0, none⟩)), (3, .pointer (some ⟨b4, 0, none⟩)), (7, .bool (cellS a0 a1 n || cellAtS a0 a1 n m)), (8, .int .i64 (n : Int)), (9, .int .i64 (m : Int))] ∧ m ≤ 41 ∧ m_ = 42 - m ∧ Sp (FF []) w z w_ [bR b2 33 [.int .i64 a0.Row, .int .i64 a0.Col, .int .i64 a0.Rows, .int .i64 a0.Cols], bR b4 33 [.int .i64 a1.Row, .int .i64 a1.Col, .int .i64 a1.Rows, .int .i64 a1.Cols]]) (42 - (0 : Nat)) ⟨(0 : Nat), (by rw [← hs14] <;> rfl), (by omega), rfl, hS.fin [0, 1] (by decide) rfl⟩ ?_
   rintro m_ f_ w13 ⟨m, rfl, hI2_0, rfl, hS⟩
   refine C_seq ?_
   refine C_seq ?_
   refine C_region ?_
   refine W_cons rfl (by decide) (Sv_val rfl (R_move rfl rfl) ?_)
   refine W_cons rfl (by decide) (Sv_val rfl (R_bin rfl rfl rfl rfl rfl) ?_)
   refine W_nil ?_
   refine E_then ?_
   refine C_ite rfl (fun hC3 => ?_) (fun hC3 => ?_)
   ·have _hC3 := trivial
    have hC3p : (m : Int) < 41 := by simpa using hC3
    refine C_skip ?_
    refine E_then ?_
    refine C_seq ?_
    refine C_block ?_
    refine C_region ?_
    refine W_cons rfl (by decide) (Sv_val rfl (R_move rfl rfl) ?_)
    refine W_cons rfl (by decide) (Sv_val rfl (R_move rfl rfl) ?_)
    refine W_split (t := 47) rfl (fun hg15 => ?_) (fun hg15 => ?_)
    ·have _hg15 := trivial
     refine W_cons rfl (by decide) (Sv_off rfl rfl rfl (by rw [hg15] <;> rfl) ?_)
     refine W_cons rfl (by decide) (Sv_off rfl rfl rfl (by rw [hg15] <;> rfl) ?_)
     refine W_cons rfl (by decide) (Sv_off rfl rfl rfl (by rw [hg15] <;> rfl) ?_)
     refine W_cons rfl (by decide) (Sv_off rfl rfl rfl (by rw [hg15] <;> rfl) ?_)
     refine W_cons rfl (by decide) (Sv_off rfl rfl rfl (by rw [hg15] <;> rfl) ?_)
     refine W_cons rfl (by decide) (Sv_offu rfl rfl rfl ?_)
     refine W_cons rfl (by decide) (Sv_offu rfl rfl rfl ?_)
     refine W_cons rfl (by decide) (Sv_offu rfl rfl rfl ?_)
     refine W_cons rfl (by decide) (Sv_offu rfl rfl rfl ?_)
     refine W_cons rfl (by decide) (Sv_off rfl rfl rfl (by rw [hg15] <;> rfl) ?_)
     refine W_cons rfl (by decide) (Sv_val rfl (R_pick_t rfl rfl hg15 rfl) ?_)
     refine W_cons rfl (by decide) (Sv_val rfl (R_assign rfl rfl) ?_)
     refine W_nil ?_
     refine E_block_normal ?_
     refine E_then (C_fr [(2, .pointer (some ⟨b2, 0, none⟩)), (3, .pointer (some ⟨b4, 0, none⟩)), (7, .bool true), (8, .int .i64 (n : Int)), (9, .int .i64 (m : Int))] rfl ?_)
     refine C_region ?_
     refine W_cons rfl (by decide) (Sv_val rfl (R_move rfl rfl) ?_)
     refine W_cons rfl (by decide) (Sv_val rfl (R_add64 rfl rfl rfl (by omega) (by omega)) ?_)
     refine W_cons rfl (by decide) (Sv_val rfl (R_assign rfl rfl) ?_)
     refine W_nil ?_
     have hs16 : true = (cellS a0 a1 n || cellAtS a0 a1 n (m + 1 : Nat)) := by rw [cellAtS_next, ← Bool.or_assoc]; generalize (cellS a0 a1 n || cellAtS a0 a1 n m) = p_ at *; simp_all
     refine E_round [2, 3, 7, 8, 9] ?_ ⟨(m + 1 : Nat), (by rw [← hs16] <;> rfl), (by omega), rfl, hS.fin [0, 1] (by decide) rfl⟩
     omega
    ·have _hg15 := trivial
     refine W_cons rfl (by decide) (Sv_gt rfl rfl rfl hg15 (Sv_val rfl (R_loadN (cs := [.int .i64 a0.Row, .int .i64 a0.Col, .int .i64 a0.Rows, .int .i64 a0.Cols]) rfl rfl agg33 size33 rfl (boxcells (hS.bx 0 rfl) 0 rfl)) ?_))
     refine W_cons rfl (by decide) (Sv_gt rfl rfl rfl hg15 (Sv_val rfl (R_move rfl rfl) ?_))
     refine W_cons rfl (by decide) (Sv_gt rfl rfl rfl hg15 (Sv_val rfl (R_move rfl rfl) ?_))
     refine W_cons rfl (by decide) (Sv_gt rfl rfl rfl hg15 (Sv_call rfl rfl rfl ent37 ?_))
     refine (within_calls a0 (n : Int) (m : Int) _ _ hS.out0  ).mono ?_
     rintro e_ w17 ⟨rfl, hS_⟩
     refine ⟨_, rfl, ?_⟩
     have hS := hS.call0 hS_
     refine W_cons rfl (by decide) (Sv_gt rfl rfl rfl hg15 (Sv_val rfl (R_move rfl rfl) ?_))
     refine W_split (t := 52) rfl (fun hg19 => ?_) (fun hg19 => ?_)
     ·have _hg19 := trivial
      refine W_cons rfl (by decide) (Sv_gt rfl rfl rfl hg19 (Sv_val rfl (R_loadN (cs := [.int .i64 a1.Row, .int .i64 a1.Col, .int .i64 a1.Rows, .int .i64 a1.Cols]) rfl rfl agg33 size33 rfl (boxcells (hS.bx 1 rfl) 0 rfl)) ?_))
      refine W_cons rfl (by decide) (Sv_gt rfl rfl rfl hg19 (Sv_val rfl (R_move rfl rfl) ?_))
      refine W_cons rfl (by decide) (Sv_gt rfl rfl rfl hg19 (Sv_val rfl (R_move rfl rfl) ?_))
      refine W_cons rfl (by decide) (Sv_gt rfl rfl rfl hg19 (Sv_call rfl rfl rfl ent37 ?_))
      refine (within_calls a1 (n : Int) (m : Int) _ _ hS.out0  ).mono ?_
      rintro e_ w20 ⟨rfl, hS_⟩
      refine ⟨_, rfl, ?_⟩
      have hS := hS.call0 hS_
      refine W_cons rfl (by decide) (Sv_gt rfl rfl rfl hg15 (Sv_val rfl (R_pick_t rfl rfl hg19 rfl) ?_))
      refine W_cons rfl (by decide) (Sv_val rfl (R_pick_f rfl rfl hg15 rfl) ?_)
      refine W_cons rfl (by decide) (Sv_val rfl (R_assign rfl rfl) ?_)
      refine W_nil ?_
      refine E_block_normal ?_
      refine E_then (C_fr [(2, .pointer (some ⟨b2, 0, none⟩)), (3, .pointer (some ⟨b4, 0, none⟩)), (7, .bool (withinS a1 (n : Int) (m : Int))), (8, .int .i64 (n : Int)), (9, .int .i64 (m : Int))] rfl ?_)
      refine C_region ?_
      refine W_cons rfl (by decide) (Sv_val rfl (R_move rfl rfl) ?_)
      refine W_cons rfl (by decide) (Sv_val rfl (R_add64 rfl rfl rfl (by omega) (by omega)) ?_)
      refine W_cons rfl (by decide) (Sv_val rfl (R_assign rfl rfl) ?_)
      refine W_nil ?_
      have hs22 : withinS a1 (n : Int) (m : Int) = (cellS a0 a1 n || cellAtS a0 a1 n (m + 1 : Nat)) := by rw [cellAtS_next, ← Bool.or_assoc]; generalize (cellS a0 a1 n || cellAtS a0 a1 n m) = p_ at *; simp_all
      refine E_round [2, 3, 7, 8, 9] ?_ ⟨(m + 1 : Nat), (by rw [← hs22] <;> rfl), (by omega), rfl, hS.fin [0, 1] (by decide) rfl⟩
      omega
     ·have _hg19 := trivial
      refine W_cons rfl (by decide) (Sv_off rfl rfl rfl (by rw [hg19] <;> rfl) ?_)
      refine W_cons rfl (by decide) (Sv_off rfl rfl rfl (by rw [hg19] <;> rfl) ?_)
      refine W_cons rfl (by decide) (Sv_off rfl rfl rfl (by rw [hg19] <;> rfl) ?_)
      refine W_cons rfl (by decide) (Sv_off rfl rfl rfl (by rw [hg19] <;> rfl) ?_)
      refine W_cons rfl (by decide) (Sv_gt rfl rfl rfl hg15 (Sv_val rfl (R_pick_f rfl rfl hg19 rfl) ?_))
      refine W_cons rfl (by decide) (Sv_val rfl (R_pick_f rfl rfl hg15 rfl) ?_)
      refine W_cons rfl (by decide) (Sv_val rfl (R_assign rfl rfl) ?_)
      refine W_nil ?_
      refine E_block_normal ?_
      refine E_then (C_fr [(2, .pointer (some ⟨b2, 0, none⟩)), (3, .pointer (some ⟨b4, 0, none⟩)), (7, .bool false), (8, .int .i64 (n : Int)), (9, .int .i64 (m : Int))] rfl ?_)
      refine C_region ?_
      refine W_cons rfl (by decide) (Sv_val rfl (R_move rfl rfl) ?_)
      refine W_cons rfl (by decide) (Sv_val rfl (R_add64 rfl rfl rfl (by omega) (by omega)) ?_)
      refine W_cons rfl (by decide) (Sv_val rfl (R_assign rfl rfl) ?_)
      refine W_nil ?_
      have hs23 : false = (cellS a0 a1 n || cellAtS a0 a1 n (m + 1 : Nat)) := by rw [cellAtS_next, ← Bool.or_assoc]; generalize (cellS a0 a1 n || cellAtS a0 a1 n m) = p_ at *; simp_all
      refine E_round [2, 3, 7, 8, 9] ?_ ⟨(m + 1 : Nat), (by rw [← hs23] <;> rfl), (by omega), rfl, hS.fin [0, 1] (by decide) rfl⟩
      omega
   ·have _hC3 := trivial
    have hC3p : ¬ ((m : Int) < 41) := by simpa using hC3
    refine C_exit ?_
    refine E_then_exit ?_
    refine E_then_exit ?_
    refine E_block_hit ?_
    refine E_block_normal ?_
    refine E_then ?_
    refine C_region ?_
    refine W_cons rfl (by decide) (Sv_val rfl (R_move rfl rfl) ?_)
    refine W_cons rfl (by decide) (Sv_val rfl (R_add64 rfl rfl rfl (by omega) (by omega)) ?_)
    refine W_cons rfl (by decide) (Sv_val rfl (R_assign rfl rfl) ?_)
    refine W_nil ?_
    have hs24 : (cellS a0 a1 n || cellAtS a0 a1 n m) = cellS a0 a1 (n + 1 : Nat) := by rw [cellS_next, show m = 41 from by omega]
    refine E_round [2, 3, 7, 8] ?_ ⟨(n + 1 : Nat), (by rw [← hs24] <;> rfl), (by omega), rfl, hS.fin [0, 1] (by decide) rfl⟩
    omega
  ·have _hC2 := trivial
   have hC2p : ¬ ((n : Int) < 41) := by simpa using hC2
   refine C_exit ?_
   refine E_then_exit ?_
   refine E_then_exit ?_
   refine E_block_hit ?_
   refine E_then ?_
   refine C_seq ?_
   refine C_region ?_
   refine W_cons rfl (by decide) (Sv_val rfl (R_loadN (cs := [.int .i64 a0.Row, .int .i64 a0.Col, .int .i64 a0.Rows, .int .i64 a0.Cols]) rfl rfl agg33 size33 rfl (boxcells (hS.bx 0 rfl) 0 rfl)) ?_)
   refine W_cons rfl (by decide) (Sv_val rfl (R_loadN (cs := [.int .i64 a1.Row, .int .i64 a1.Col, .int .i64 a1.Rows, .int .i64 a1.Cols]) rfl rfl agg33 size33 rfl (boxcells (hS.bx 1 rfl) 0 rfl)) ?_)
   refine W_cons rfl (by decide) (Sv_call rfl rfl rfl ent27 ?_)
   refine (meet_calls a0 a1 _ _ hS.out0  ).mono ?_
   rintro e_ w25 ⟨rfl, hS_⟩
   refine ⟨_, rfl, ?_⟩
   have hS := hS.call0 hS_
   refine W_cons rfl (by decide) (Sv_val rfl (R_move rfl rfl) ?_)
   refine W_cons rfl (by decide) (Sv_val rfl (R_bleql rfl rfl rfl Try.underlying4) ?_)
   refine W_cons rfl (by decide) (Sv_val rfl (R_move rfl rfl) ?_)
   have hk27 : (((meetS a0 a1) == (cellS a0 a1 n))) = true := by rw [show n = 41 from by omega, meeting_law hs1 hs2]; simp
   refine W_cons rfl (by decide) (Sv_gt rfl rfl rfl hk27 (Sv_call rfl rfl rfl ent29 ?_))
   refine (lawk_calls  _ _ hS.out0  ).mono ?_
   rintro e_ w28 ⟨rfl, hS_⟩
   refine ⟨_, rfl, ?_⟩
   have hS := hS.call0 hS_
   refine W_cons rfl (by decide) (Sv_val rfl (R_pick_t rfl rfl hk27 rfl) ?_)
   refine W_cons rfl (by decide) (Sv_val rfl (R_assign rfl rfl) ?_)
   refine W_nil ?_
   refine E_then (C_fr [(4, .bool true)] rfl ?_)
   refine C_ret ?_
   refine E_ret1 rfl rfl ?_
   exact ⟨Lret1 (Lbool (show true = true by rfl)), hS.fin [] (by decide) rfl⟩

end Go.Proofs.YtgjnhmidbapjmaaG
