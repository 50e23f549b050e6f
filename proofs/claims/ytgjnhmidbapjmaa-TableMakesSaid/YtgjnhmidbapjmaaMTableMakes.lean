/- The walk of the law TableMakes: it returns true. -/
import Derived.Test.YtgjnhmidbapjmaaT2
set_option linter.all false
namespace Go.Proofs.YtgjnhmidbapjmaaG
open Go Go.RowKit
set_option maxHeartbeats 400000 in
set_option maxRecDepth 20000 in
theorem tableMakes_calls (a0 : List (List St)) (Aa0 : Option Addr) (ca0 : Nat) (z : Z) (w : World) (hI : In z w []) (hra0 : Rd (kslice kstr) z Aa0 a0) (hca0 : Cap Aa0 a0.length ca0)  :
    Calls Try.prog 4 #[.slice Aa0 a0.length ca0] w fun e w' => e = .returned (.bool true) ∧ Sp (FF []) w z w' [] := by
 have hla0 := hca0.le
 have hma0 := hca0.mx
 have hS := hI.sp
 refine Calls_of (vs := [.slice Aa0 a0.length ca0]) (N := 49) Try.func4 rfl rfl (Nat.le_of_ble_eq_true rfl) ?_
 refine C_seq ?_
 refine C_region ?_
 refine W_cons rfl (by decide) (Sv_val rfl (R_assign rfl rfl) ?_)
 refine W_nil ?_
 refine E_then ?_
 refine C_seq ?_
 refine C_seq ?_
 refine C_region ?_
 refine W_cons rfl (by decide) (Sv_val rfl (R_move rfl rfl) ?_)
 refine W_cons rfl (by decide) (Sv_call rfl rfl rfl ent12 ?_)
 refine (wide_calls a0 Aa0 ca0 _ _ hS.out0 (hra0.mono (hS.zl [])) hca0 ).mono ?_
 rintro e_ w1 ⟨rfl, hS_⟩
 refine ⟨_, rfl, ?_⟩
 have hS := hS.call0 hS_
 refine W_nil ?_
 refine E_then ?_
 refine C_ite rfl (fun hC0 => ?_) (fun hC0 => ?_)
 ·have _hC0 := trivial
  refine C_seq ?_
  refine C_region ?_
  refine W_cons rfl (by decide) (Sv_call rfl rfl rfl ent13 ?_)
  refine (tawake_calls  _ _ hS.out0  ).mono ?_
  rintro e_ w3 ⟨rfl, hS_⟩
  refine ⟨_, rfl, ?_⟩
  have hS := hS.call0 hS_
  refine W_cons rfl (by decide) (Sv_val rfl (R_assign rfl rfl) ?_)
  refine W_nil ?_
  refine E_then ?_
  refine C_ret ?_
  refine E_then_ret ?_
  refine E_ret1 rfl rfl ?_
  exact ⟨Lret1 (Lbool (show true = true by rfl)), hS.fin [] (by decide) rfl⟩
 ·have _hC0 := trivial
  obtain ⟨hw1, hw2, hw3⟩ := wide_not hC0
  have hwn := widthS_nonneg a0
  refine C_skip ?_
  refine E_then ?_
  refine C_seq ?_
  refine C_region ?_
  refine W_cons rfl (by decide) (Sv_val rfl (R_move rfl rfl) ?_)
  refine W_cons rfl (by decide) (Sv_call rfl rfl rfl ent18 ?_)
  refine (own_calls a0 Aa0 ca0 _ _ hS.out0 (hra0.mono (hS.zl [])) hca0 (by omega) (by omega)).mono ?_
  rintro e_ w5 ⟨AR0_6, cR0_6, qR0_6, rfl, hS_⟩
  refine ⟨_, rfl, ?_⟩
  have hS := hS.call0 hS_
  have hp7 := hS.cap 1 rfl
  have hlhp7 := hp7.le
  have hmhp7 := hp7.mx
  refine W_cons rfl (by decide) (Sv_val rfl (R_assign rfl rfl) ?_)
  refine W_nil ?_
  refine E_then (C_fr [(0, .slice Aa0 a0.length ca0), (3, .slice AR0_6 a0.length cR0_6)] rfl ?_)
  refine C_seq ?_
  refine C_region ?_
  refine W_cons rfl (by decide) (Sv_val rfl (R_move rfl rfl) ?_)
  refine W_cons rfl (by decide) (Sv_call rfl rfl rfl ent19 ?_)
  refine (fill_calls a0 AR0_6 cR0_6 _ _ hS.out0 (hS.ow [] 1 rfl rfl (hS.zq [] 0 rfl rfl)) (hS.cap 1 rfl) (by omega) (by omega)).mono ?_
  rintro e_ w8 ⟨AR0_9, cR0_9, qR0_9, rfl, hS_⟩
  refine ⟨_, rfl, ?_⟩
  have hS := hS.call0 hS_
  have hp10 := hS.cap 1 rfl
  have hlhp10 := hp10.le
  have hmhp10 := hp10.mx
  refine W_cons rfl (by decide) (Sv_val rfl (R_move rfl rfl) ?_)
  refine W_cons rfl (by decide) (Sv_call rfl rfl rfl ent20 ?_)
  refine (trim_calls a0 AR0_6 cR0_6 _ _ hS.out0 (hS.ow [] 3 rfl rfl (hS.zq [] 2 rfl rfl)) (hS.cap 3 rfl) (by omega) (by omega)).mono ?_
  rintro e_ w11 ⟨AR0_12, cR0_12, qR0_12, rfl, hS_⟩
  refine ⟨_, rfl, ?_⟩
  have hS := hS.call0 hS_
  have hp13 := hS.cap 1 rfl
  have hlhp13 := hp13.le
  have hmhp13 := hp13.mx
  refine W_cons rfl (by decide) (Sv_val rfl (R_move rfl rfl) ?_)
  refine W_cons rfl (by decide) (Sv_call rfl rfl rfl ent21 ?_)
  refine (turn_calls a0 AR0_6 cR0_6 _ _ hS.out0 (hS.ow [] 5 rfl rfl (hS.zq [] 4 rfl rfl)) (hS.cap 5 rfl) (by omega) (by omega)).mono ?_
  rintro e_ w14 ⟨AR0_15, cR0_15, qR0_15, rfl, hS_⟩
  refine ⟨_, rfl, ?_⟩
  have hS := hS.call0 hS_
  have hp16 := hS.cap 1 rfl
  have hlhp16 := hp16.le
  have hmhp16 := hp16.mx
  refine W_cons rfl (by decide) (Sv_val rfl (R_assign rfl rfl) ?_)
  refine W_cons rfl (by decide) (Sv_val rfl (R_assign rfl rfl) ?_)
  refine W_cons rfl (by decide) (Sv_val rfl (R_assign rfl rfl) ?_)
  refine W_nil ?_
  refine E_then (C_fr [(0, .slice Aa0 a0.length ca0), (3, .slice AR0_6 a0.length cR0_6), (4, .slice AR0_9 (fillS a0).length cR0_9), (5, .slice AR0_12 (trimS a0).length cR0_12), (6, .slice AR0_15 (turnS a0).length cR0_15)] rfl ?_)
  refine C_seq ?_
  refine C_seq ?_
  refine C_region ?_
  refine W_cons rfl (by decide) (Sv_val rfl (R_move rfl rfl) ?_)
  refine W_cons rfl (by decide) (Sv_val rfl (R_move rfl rfl) ?_)
  refine W_cons rfl (by decide) (Sv_call rfl rfl rfl ent23 ?_)
  refine (rfill_calls a0 Aa0 ca0 _ _ hS.out0 (hra0.mono (hS.zl [])) hca0 (by omega) (by omega)).mono ?_
  rintro e_ w17 ⟨AR0_18, cR0_18, qR0_18, rfl, hS_⟩
  refine ⟨_, rfl, ?_⟩
  have hS := hS.call0 hS_
  have hp19 := hS.cap 1 rfl
  have hlhp19 := hp19.le
  have hmhp19 := hp19.mx
  refine W_cons rfl (by decide) (Sv_call rfl rfl rfl ent22 ?_)
  refine (same_calls (fillS a0) AR0_9 cR0_9 (fillS a0) AR0_18 cR0_18 _ _ hS.out0 (hS.ow [] 7 rfl rfl (hS.zq [] 6 rfl rfl)) (hS.cap 7 rfl) (hS.ow [] 1 rfl rfl (hS.zq [] 0 rfl rfl)) (hS.cap 1 rfl) ).mono ?_
  rintro e_ w20 ⟨rfl, hS_⟩
  refine ⟨_, rfl, ?_⟩
  have hS := hS.call0 hS_
  refine W_cons rfl (by decide) (Sv_val rfl (R_un rfl rfl rfl) ?_)
  refine W_cons rfl (by decide) (Sv_val rfl (R_move rfl rfl) ?_)
  have hk22 : (!(decide ((fillS a0) = (fillS a0)))) = false := by first | (simp; done) | (simp [rtrim_eq]; done) | (simp [rturn_eq]; done)
  have hk22p : (decide ((fillS a0) = (fillS a0)) = true) := by simpa using hk22
  refine W_cons rfl (by decide) (Sv_gt rfl rfl rfl hk22 (Sv_val rfl (R_move rfl rfl) ?_))
  refine W_cons rfl (by decide) (Sv_gt rfl rfl rfl hk22 (Sv_val rfl (R_move rfl rfl) ?_))
  refine W_cons rfl (by decide) (Sv_gt rfl rfl rfl hk22 (Sv_call rfl rfl rfl ent24 ?_))
  refine (rtrim_calls a0 Aa0 ca0 _ _ hS.out0 (hra0.mono (hS.zl [])) hca0 (by omega) (by omega)).mono ?_
  rintro e_ w23 ⟨AR0_24, cR0_24, qR0_24, rfl, hS_⟩
  refine ⟨_, rfl, ?_⟩
  have hS := hS.call0 hS_
  have hp25 := hS.cap 1 rfl
  have hlhp25 := hp25.le
  have hmhp25 := hp25.mx
  refine W_cons rfl (by decide) (Sv_gt rfl rfl rfl hk22 (Sv_call rfl rfl rfl ent22 ?_))
  refine (same_calls (trimS a0) AR0_12 cR0_12 (rtrimS a0) AR0_24 cR0_24 _ _ hS.out0 (hS.ow [] 7 rfl rfl (hS.zq [] 6 rfl rfl)) (hS.cap 7 rfl) (hS.ow [] 1 rfl rfl (hS.zq [] 0 rfl rfl)) (hS.cap 1 rfl) ).mono ?_
  rintro e_ w26 ⟨rfl, hS_⟩
  refine ⟨_, rfl, ?_⟩
  have hS := hS.call0 hS_
  refine W_cons rfl (by decide) (Sv_gt rfl rfl rfl hk22 (Sv_val rfl (R_un rfl rfl rfl) ?_))
  refine W_cons rfl (by decide) (Sv_val rfl (R_pick_f rfl rfl hk22 rfl) ?_)
  refine W_cons rfl (by decide) (Sv_val rfl (R_move rfl rfl) ?_)
  have hk28 : (!(decide ((trimS a0) = (rtrimS a0)))) = false := by first | (simp; done) | (simp [rtrim_eq]; done) | (simp [rturn_eq]; done)
  have hk28p : (decide ((trimS a0) = (rtrimS a0)) = true) := by simpa using hk28
  refine W_cons rfl (by decide) (Sv_gt rfl rfl rfl hk28 (Sv_val rfl (R_move rfl rfl) ?_))
  refine W_cons rfl (by decide) (Sv_gt rfl rfl rfl hk28 (Sv_val rfl (R_move rfl rfl) ?_))
  refine W_cons rfl (by decide) (Sv_gt rfl rfl rfl hk28 (Sv_call rfl rfl rfl ent25 ?_))
  refine (rturn_calls a0 Aa0 ca0 _ _ hS.out0 (hra0.mono (hS.zl [])) hca0 (by omega) (by omega)).mono ?_
  rintro e_ w29 ⟨AR0_30, cR0_30, qR0_30, rfl, hS_⟩
  refine ⟨_, rfl, ?_⟩
  have hS := hS.call0 hS_
  have hp31 := hS.cap 1 rfl
  have hlhp31 := hp31.le
  have hmhp31 := hp31.mx
  refine W_cons rfl (by decide) (Sv_gt rfl rfl rfl hk28 (Sv_call rfl rfl rfl ent22 ?_))
  refine (same_calls (turnS a0) AR0_15 cR0_15 (rturnS a0) AR0_30 cR0_30 _ _ hS.out0 (hS.ow [] 7 rfl rfl (hS.zq [] 6 rfl rfl)) (hS.cap 7 rfl) (hS.ow [] 1 rfl rfl (hS.zq [] 0 rfl rfl)) (hS.cap 1 rfl) ).mono ?_
  rintro e_ w32 ⟨rfl, hS_⟩
  refine ⟨_, rfl, ?_⟩
  have hS := hS.call0 hS_
  refine W_cons rfl (by decide) (Sv_gt rfl rfl rfl hk28 (Sv_val rfl (R_un rfl rfl rfl) ?_))
  refine W_cons rfl (by decide) (Sv_val rfl (R_pick_f rfl rfl hk28 rfl) ?_)
  refine W_nil ?_
  refine E_then (C_fr [(0, .slice Aa0 a0.length ca0), (3, .slice AR0_6 a0.length cR0_6), (4, .slice AR0_9 (fillS a0).length cR0_9), (5, .slice AR0_12 (trimS a0).length cR0_12), (6, .slice AR0_15 (turnS a0).length cR0_15), (36, .bool (!(decide ((turnS a0) = (rturnS a0)))))] rfl ?_)
  have hk34 : (!(decide ((turnS a0) = (rturnS a0)))) = false := by first | (simp; done) | (simp [rtrim_eq]; done) | (simp [rturn_eq]; done)
  have hk34p : (decide ((turnS a0) = (rturnS a0)) = true) := by simpa using hk34
  refine C_else rfl hk34 ?_
  refine C_skip ?_
  refine E_then ?_
  refine C_seq ?_
  refine C_region ?_
  refine W_cons rfl (by decide) (Sv_val rfl (R_move rfl rfl) ?_)
  refine W_cons rfl (by decide) (Sv_call rfl rfl rfl ent26 ?_)
  refine (spoil_calls (fillS a0) AR0_9 cR0_9 qR0_9 _ _ (hS.out [10, 11] (by decide))  ).mono ?_
  rintro e_ w35 ⟨rfl, hS_⟩
  refine ⟨_, rfl, ?_⟩
  have hS := hS.call [10, 11] (by decide) hS_
  refine W_nil ?_
  refine E_then ?_
  refine C_seq ?_
  refine C_region ?_
  refine W_cons rfl (by decide) (Sv_val rfl (R_move rfl rfl) ?_)
  refine W_cons rfl (by decide) (Sv_call rfl rfl rfl ent26 ?_)
  refine (spoil_calls (trimS a0) AR0_12 cR0_12 qR0_12 _ _ (hS.out [8, 9] (by decide))  ).mono ?_
  rintro e_ w37 ⟨rfl, hS_⟩
  refine ⟨_, rfl, ?_⟩
  have hS := hS.call [8, 9] (by decide) hS_
  refine W_nil ?_
  refine E_then (C_fr [(0, .slice Aa0 a0.length ca0), (3, .slice AR0_6 a0.length cR0_6), (6, .slice AR0_15 (turnS a0).length cR0_15)] rfl ?_)
  refine C_seq ?_
  refine C_region ?_
  refine W_cons rfl (by decide) (Sv_val rfl (R_move rfl rfl) ?_)
  refine W_cons rfl (by decide) (Sv_call rfl rfl rfl ent26 ?_)
  refine (spoil_calls (turnS a0) AR0_15 cR0_15 qR0_15 _ _ (hS.out [6, 7] (by decide))  ).mono ?_
  rintro e_ w39 ⟨rfl, hS_⟩
  refine ⟨_, rfl, ?_⟩
  have hS := hS.call [6, 7] (by decide) hS_
  refine W_nil ?_
  refine E_then ?_
  refine C_seq ?_
  refine C_region ?_
  refine W_cons rfl (by decide) (Sv_val rfl (R_move rfl rfl) ?_)
  refine W_cons rfl (by decide) (Sv_val rfl (R_move rfl rfl) ?_)
  refine W_cons rfl (by decide) (Sv_call rfl rfl rfl ent22 ?_)
  refine (same_calls a0 AR0_6 cR0_6 a0 Aa0 ca0 _ _ hS.out0 (hS.ow [] 7 rfl rfl (hS.zq [] 6 rfl rfl)) (hS.cap 7 rfl) (hra0.mono (hS.zl [])) hca0 ).mono ?_
  rintro e_ w41 ⟨rfl, hS_⟩
  refine ⟨_, rfl, ?_⟩
  have hS := hS.call0 hS_
  refine W_cons rfl (by decide) (Sv_val rfl (R_move rfl rfl) ?_)
  have hk43 : (decide (a0 = a0)) = true := by simp
  refine W_cons rfl (by decide) (Sv_gt rfl rfl rfl hk43 (Sv_call rfl rfl rfl ent13 ?_))
  refine (tawake_calls  _ _ hS.out0  ).mono ?_
  rintro e_ w44 ⟨rfl, hS_⟩
  refine ⟨_, rfl, ?_⟩
  have hS := hS.call0 hS_
  refine W_cons rfl (by decide) (Sv_val rfl (R_pick_t rfl rfl hk43 rfl) ?_)
  refine W_cons rfl (by decide) (Sv_val rfl (R_assign rfl rfl) ?_)
  refine W_nil ?_
  refine E_then (C_fr [(2, .bool true)] rfl ?_)
  refine C_ret ?_
  refine E_ret1 rfl rfl ?_
  exact ⟨Lret1 (Lbool (show true = true by rfl)), hS.fin [] (by decide) rfl⟩

end Go.Proofs.YtgjnhmidbapjmaaG
