/- The walk of the law TableStays: it returns true. -/
import Derived.Test.YtgjnhmidbapjmaaT2
set_option linter.all false
namespace Go.Proofs.YtgjnhmidbapjmaaG
open Go Go.RowKit
set_option maxHeartbeats 4000000 in
set_option maxRecDepth 20000 in
theorem tableStays_calls (a0 : List (List St)) (Aa0 : Option Addr) (ca0 : Nat) (z : Z) (w : World) (hI : In z w []) (hra0 : Rd (kslice kstr) z Aa0 a0) (hca0 : Cap Aa0 a0.length ca0)  :
    Calls Try.prog 5 #[.slice Aa0 a0.length ca0] w fun e w' => e = .returned (.bool true) ∧ Sp (FF []) w z w' [] := by
 have hla0 := hca0.le
 have hma0 := hca0.mx
 have hS := hI.sp
 refine Calls_of (vs := [.slice Aa0 a0.length ca0]) (N := 138) Try.func5 rfl rfl (Nat.le_of_ble_eq_true rfl) ?_
 refine C_seq ?_
 refine C_region ?_
 refine W_cons rfl (by decide) (Sv_val rfl (R_assign rfl rfl) ?_)
 refine W_nil ?_
 refine E_then ?_
 refine C_seq ?_
 refine C_seq ?_
 refine C_region ?_
 refine W_cons rfl (by decide) (Sv_val rfl (R_move rfl rfl) ?_)
 refine W_cons rfl (by decide) (Sv_call rfl rfl rfl ent12 ?_)
 refine (wide_calls a0 Aa0 ca0 _ _ hS.out0 (hra0.mono (hS.zl [])) hca0 ).mono ?_
 rintro e_ w1 ⟨rfl, hS_⟩
 refine ⟨_, rfl, ?_⟩
 have hS := hS.call0 hS_
 refine W_nil ?_
 refine E_then ?_
 refine C_ite rfl (fun hC0 => ?_) (fun hC0 => ?_)
 ·have _hC0 := trivial
  refine C_seq ?_
  refine C_region ?_
  refine W_cons rfl (by decide) (Sv_call rfl rfl rfl ent13 ?_)
  refine (tawake_calls  _ _ hS.out0  ).mono ?_
  rintro e_ w3 ⟨rfl, hS_⟩
  refine ⟨_, rfl, ?_⟩
  have hS := hS.call0 hS_
  refine W_cons rfl (by decide) (Sv_val rfl (R_assign rfl rfl) ?_)
  refine W_nil ?_
  refine E_then ?_
  refine C_ret ?_
  refine E_then_ret ?_
  refine E_ret1 rfl rfl ?_
  exact ⟨Lret1 (Lbool (show true = true by rfl)), hS.fin [] (by decide) rfl⟩
 ·have _hC0 := trivial
  obtain ⟨hw1, hw2, hw3⟩ := wide_not hC0
  have hwn := widthS_nonneg a0
  refine C_skip ?_
  refine E_then ?_
  refine C_seq ?_
  refine C_region ?_
  refine W_cons rfl (by decide) (Sv_val rfl (R_move rfl rfl) ?_)
  refine W_cons rfl (by decide) (Sv_call rfl rfl rfl ent19 ?_)
  refine (fill_calls a0 Aa0 ca0 _ _ hS.out0 (hra0.mono (hS.zl [])) hca0 (by omega) (by omega)).mono ?_
  rintro e_ w5 ⟨AR0_6, cR0_6, qR0_6, rfl, hS_⟩
  refine ⟨_, rfl, ?_⟩
  have hS := hS.call0 hS_
  have hp7 := hS.cap 1 rfl
  have hlhp7 := hp7.le
  have hmhp7 := hp7.mx
  refine W_cons rfl (by decide) (Sv_val rfl (R_move rfl rfl) ?_)
  refine W_cons rfl (by decide) (Sv_call rfl rfl rfl ent20 ?_)
  refine (trim_calls a0 Aa0 ca0 _ _ hS.out0 (hra0.mono (hS.zl [])) hca0 (by omega) (by omega)).mono ?_
  rintro e_ w8 ⟨AR0_9, cR0_9, qR0_9, rfl, hS_⟩
  refine ⟨_, rfl, ?_⟩
  have hS := hS.call0 hS_
  have hp10 := hS.cap 1 rfl
  have hlhp10 := hp10.le
  have hmhp10 := hp10.mx
  refine W_cons rfl (by decide) (Sv_val rfl (R_move rfl rfl) ?_)
  refine W_cons rfl (by decide) (Sv_call rfl rfl rfl ent21 ?_)
  refine (turn_calls a0 Aa0 ca0 _ _ hS.out0 (hra0.mono (hS.zl [])) hca0 (by omega) (by omega)).mono ?_
  rintro e_ w11 ⟨AR0_12, cR0_12, qR0_12, rfl, hS_⟩
  refine ⟨_, rfl, ?_⟩
  have hS := hS.call0 hS_
  have hp13 := hS.cap 1 rfl
  have hlhp13 := hp13.le
  have hmhp13 := hp13.mx
  refine W_cons rfl (by decide) (Sv_val rfl (R_assign rfl rfl) ?_)
  refine W_cons rfl (by decide) (Sv_val rfl (R_assign rfl rfl) ?_)
  refine W_cons rfl (by decide) (Sv_val rfl (R_assign rfl rfl) ?_)
  refine W_nil ?_
  refine E_then (C_fr [(0, .slice Aa0 a0.length ca0), (3, .slice AR0_6 (fillS a0).length cR0_6), (4, .slice AR0_9 (trimS a0).length cR0_9), (5, .slice AR0_12 (turnS a0).length cR0_12)] rfl ?_)
  refine C_seq ?_
  refine C_seq ?_
  have hz1 := fill_w a0
  have hz2 := turn_w a0
  obtain ⟨hz3, hz4, hz5, hz6⟩ := trim_size a0
  have hz7 := hz6 0 (by omega)
  refine C_region ?_
  refine W_cons rfl (by decide) (Sv_val rfl (R_move rfl rfl) ?_)
  refine W_cons rfl (by decide) (Sv_val rfl (R_len rfl rfl Try.underlying22) ?_)
  refine W_cons rfl (by decide) (Sv_val rfl (R_bin rfl rfl rfl rfl rfl) ?_)
  refine W_cons rfl (by decide) (Sv_val rfl (R_move rfl rfl) ?_)
  have hk14 : ((((trimS a0).length : Int) == 0)) = false := by refine beq_eq_false_iff_ne.2 (fun h_ => ?_); omega
  have hk14p : ¬ (((trimS a0).length : Int) = 0) := by simpa using hk14
  refine W_cons rfl (by decide) (Sv_gt rfl rfl rfl hk14 (Sv_val rfl (R_move rfl rfl) ?_))
  obtain ⟨q15, csq15, hAq15, ⟨Aq15, cq15, rfl, hcq15, hrq15⟩, hkq15⟩ := (hS.rw 3 rfl).el [] (i := 0) (by omega) (by omega)
  have hkq15 : ∀ (j_ : Nat) (u_ : Value), ([.slice Aq15 ((trimS a0).getD 0 []).length cq15] : List Value)[j_]? = some u_ → World.cell? w11 (q15.add (0 * 1 + j_)) = some u_ := hkq15
  have hrq15 : Rd kstr qR0_9 Aq15 (((trimS a0).getD 0 [])) := hrq15
  have hcq15 : Cap Aq15 (((trimS a0).getD 0 [])).length cq15 := hcq15
  have hlq15 := hcq15.le
  have hmq15 := hcq15.mx
  refine W_cons rfl (by decide) (Sv_gt rfl rfl rfl hk14 (Sv_val rfl (R_idx rfl rfl hAq15 rfl Try.underlying22 size31 (by omega) (by omega)) ?_))
  refine W_cons rfl (by decide) (Sv_gt rfl rfl rfl hk14 (Sv_val rfl (R_load1 rfl rfl agg31 (hkq15 0 _ rfl)) ?_))
  refine W_cons rfl (by decide) (Sv_gt rfl rfl rfl hk14 (Sv_val rfl (R_len rfl rfl Try.underlying31) ?_))
  refine W_cons rfl (by decide) (Sv_gt rfl rfl rfl hk14 (Sv_val rfl (R_bin rfl rfl rfl rfl rfl) ?_))
  refine W_cons rfl (by decide) (Sv_val rfl (R_pick_f rfl rfl hk14 rfl) ?_)
  refine W_nil ?_
  refine E_then (C_fr [(0, .slice Aa0 a0.length ca0), (3, .slice AR0_6 (fillS a0).length cR0_6), (4, .slice AR0_9 (trimS a0).length cR0_9), (5, .slice AR0_12 (turnS a0).length cR0_12), (29, .bool ((((trimS a0).getD 0 []).length : Int) == 0))] rfl ?_)
  have hk16 : (((((trimS a0).getD 0 []).length : Int) == 0)) = false := by refine beq_eq_false_iff_ne.2 (fun h_ => ?_); omega
  have hk16p : ¬ ((((trimS a0).getD 0 []).length : Int) = 0) := by simpa using hk16
  refine C_else rfl hk16 ?_
  refine C_skip ?_
  refine E_then ?_
  refine C_seq ?_
  refine C_seq ?_
  refine C_region ?_
  refine W_cons rfl (by decide) (Sv_val rfl (R_move rfl rfl) ?_)
  refine W_cons rfl (by decide) (Sv_call rfl rfl rfl ent16 ?_)
  refine (tcheck_calls (fillS a0) AR0_6 cR0_6 _ _ hS.out0 (hS.ow [] 5 rfl rfl (hS.zq [] 4 rfl rfl)) (hS.cap 5 rfl) (by omega) (by omega)).mono ?_
  rintro e_ w17 ⟨rfl, hS_⟩
  refine ⟨_, rfl, ?_⟩
  have hS := hS.call0 hS_
  refine W_cons rfl (by decide) (Sv_val rfl (R_bin rfl rfl rfl rfl rfl) ?_)
  refine W_cons rfl (by decide) (Sv_val rfl (R_move rfl rfl) ?_)
  have hk19 : (((checkS (fillS a0)) == 1)) = false := by simp [chk_fill]
  have hk19p : ¬ ((checkS (fillS a0)) = 1) := by simpa using hk19
  refine W_cons rfl (by decide) (Sv_gt rfl rfl rfl hk19 (Sv_val rfl (R_move rfl rfl) ?_))
  refine W_cons rfl (by decide) (Sv_gt rfl rfl rfl hk19 (Sv_call rfl rfl rfl ent16 ?_))
  refine (tcheck_calls (trimS a0) AR0_9 cR0_9 _ _ hS.out0 (hS.ow [] 3 rfl rfl (hS.zq [] 2 rfl rfl)) (hS.cap 3 rfl) (by omega) (by omega)).mono ?_
  rintro e_ w20 ⟨rfl, hS_⟩
  refine ⟨_, rfl, ?_⟩
  have hS := hS.call0 hS_
  refine W_cons rfl (by decide) (Sv_gt rfl rfl rfl hk19 (Sv_val rfl (R_bin rfl rfl rfl rfl rfl) ?_))
  refine W_cons rfl (by decide) (Sv_val rfl (R_pick_f rfl rfl hk19 rfl) ?_)
  refine W_cons rfl (by decide) (Sv_val rfl (R_move rfl rfl) ?_)
  have hk22 : (((checkS (trimS a0)) == 1)) = false := by simp [chk_trim]
  have hk22p : ¬ ((checkS (trimS a0)) = 1) := by simpa using hk22
  refine W_cons rfl (by decide) (Sv_gt rfl rfl rfl hk22 (Sv_val rfl (R_move rfl rfl) ?_))
  refine W_cons rfl (by decide) (Sv_gt rfl rfl rfl hk22 (Sv_call rfl rfl rfl ent16 ?_))
  refine (tcheck_calls (turnS a0) AR0_12 cR0_12 _ _ hS.out0 (hS.ow [] 1 rfl rfl (hS.zq [] 0 rfl rfl)) (hS.cap 1 rfl) (by omega) (by omega)).mono ?_
  rintro e_ w23 ⟨rfl, hS_⟩
  refine ⟨_, rfl, ?_⟩
  have hS := hS.call0 hS_
  refine W_cons rfl (by decide) (Sv_gt rfl rfl rfl hk22 (Sv_val rfl (R_bin rfl rfl rfl rfl rfl) ?_))
  refine W_cons rfl (by decide) (Sv_val rfl (R_pick_f rfl rfl hk22 rfl) ?_)
  refine W_cons rfl (by decide) (Sv_val rfl (R_move rfl rfl) ?_)
  have hk25 : (((checkS (turnS a0)) == 1)) = false := by simp [chk_turn]
  have hk25p : ¬ ((checkS (turnS a0)) = 1) := by simpa using hk25
  refine W_cons rfl (by decide) (Sv_gt rfl rfl rfl hk25 (Sv_val rfl (R_move rfl rfl) ?_))
  refine W_cons rfl (by decide) (Sv_gt rfl rfl rfl hk25 (Sv_call rfl rfl rfl ent16 ?_))
  refine (tcheck_calls a0 Aa0 ca0 _ _ hS.out0 (hra0.mono (hS.zl [])) hca0 (by omega) (by omega)).mono ?_
  rintro e_ w26 ⟨rfl, hS_⟩
  refine ⟨_, rfl, ?_⟩
  have hS := hS.call0 hS_
  refine W_cons rfl (by decide) (Sv_gt rfl rfl rfl hk25 (Sv_val rfl (R_bin rfl rfl rfl rfl rfl) ?_))
  refine W_cons rfl (by decide) (Sv_gt rfl rfl rfl hk25 (Sv_val rfl (R_move rfl rfl) ?_))
  refine W_split (t := 47) rfl (fun hg28 => ?_) (fun hg28 => ?_)
  ·have _hg28 := trivial
   have hg28p : ¬ (checkS a0) = 1 := by simpa using hg28
   refine W_cons rfl (by decide) (Sv_gt rfl rfl rfl hg28 (Sv_val rfl (R_move rfl rfl) ?_))
   refine W_cons rfl (by decide) (Sv_gt rfl rfl rfl hg28 (Sv_val rfl (R_move rfl rfl) ?_))
   refine W_cons rfl (by decide) (Sv_gt rfl rfl rfl hg28 (Sv_call rfl rfl rfl ent22 ?_))
   refine (same_calls (fillS a0) AR0_6 cR0_6 a0 Aa0 ca0 _ _ hS.out0 (hS.ow [] 5 rfl rfl (hS.zq [] 4 rfl rfl)) (hS.cap 5 rfl) (hra0.mono (hS.zl [])) hca0 ).mono ?_
   rintro e_ w29 ⟨rfl, hS_⟩
   refine ⟨_, rfl, ?_⟩
   have hS := hS.call0 hS_
   refine W_cons rfl (by decide) (Sv_gt rfl rfl rfl hg28 (Sv_val rfl (R_un rfl rfl rfl) ?_))
   refine W_cons rfl (by decide) (Sv_gt rfl rfl rfl hk25 (Sv_val rfl (R_pick_t rfl rfl hg28 rfl) ?_))
   refine W_cons rfl (by decide) (Sv_val rfl (R_pick_f rfl rfl hk25 rfl) ?_)
   refine W_nil ?_
   refine E_then (C_fr [(3, .slice AR0_6 (fillS a0).length cR0_6), (4, .slice AR0_9 (trimS a0).length cR0_9), (53, .bool (!(decide ((fillS a0) = a0))))] rfl ?_)
   have hk31 : (!(decide ((fillS a0) = a0))) = false := by rw [fill_same (l := a0) (by assumption)]; simp
   have hk31p : (decide ((fillS a0) = a0) = true) := by simpa using hk31
   refine C_else rfl hk31 ?_
   refine C_skip ?_
   refine E_then ?_
   refine C_seq ?_
   refine C_seq ?_
   refine C_region ?_
   refine W_cons rfl (by decide) (Sv_val rfl (R_move rfl rfl) ?_)
   refine W_cons rfl (by decide) (Sv_call rfl rfl rfl ent19 ?_)
   refine (fill_calls (fillS a0) AR0_6 cR0_6 _ _ hS.out0 (hS.ow [] 5 rfl rfl (hS.zq [] 4 rfl rfl)) (hS.cap 5 rfl) (by omega) (by omega)).mono ?_
   rintro e_ w32 ⟨AR0_33, cR0_33, qR0_33, rfl, hS_⟩
   refine ⟨_, rfl, ?_⟩
   have hS := hS.call0 hS_
   have hp34 := hS.cap 1 rfl
   have hlhp34 := hp34.le
   have hmhp34 := hp34.mx
   refine W_cons rfl (by decide) (Sv_val rfl (R_move rfl rfl) ?_)
   refine W_cons rfl (by decide) (Sv_call rfl rfl rfl ent22 ?_)
   refine (same_calls (fillS (fillS a0)) AR0_33 cR0_33 (fillS a0) AR0_6 cR0_6 _ _ hS.out0 (hS.ow [] 1 rfl rfl (hS.zq [] 0 rfl rfl)) (hS.cap 1 rfl) (hS.ow [] 7 rfl rfl (hS.zq [] 6 rfl rfl)) (hS.cap 7 rfl) ).mono ?_
   rintro e_ w35 ⟨rfl, hS_⟩
   refine ⟨_, rfl, ?_⟩
   have hS := hS.call0 hS_
   refine W_cons rfl (by decide) (Sv_val rfl (R_un rfl rfl rfl) ?_)
   refine W_cons rfl (by decide) (Sv_val rfl (R_move rfl rfl) ?_)
   have hk37 : (!(decide ((fillS (fillS a0)) = (fillS a0)))) = false := by first | (simp [fill_fill]; done) | (simp [trim_trim]; done) | (simp [trim_fill]; done) | (simp [turn_turn]; done)
   have hk37p : (decide ((fillS (fillS a0)) = (fillS a0)) = true) := by simpa using hk37
   refine W_cons rfl (by decide) (Sv_gt rfl rfl rfl hk37 (Sv_val rfl (R_move rfl rfl) ?_))
   refine W_cons rfl (by decide) (Sv_gt rfl rfl rfl hk37 (Sv_call rfl rfl rfl ent20 ?_))
   refine (trim_calls (trimS a0) AR0_9 cR0_9 _ _ hS.out0 (hS.ow [] 5 rfl rfl (hS.zq [] 4 rfl rfl)) (hS.cap 5 rfl) (by omega) (by omega)).mono ?_
   rintro e_ w38 ⟨AR0_39, cR0_39, qR0_39, rfl, hS_⟩
   refine ⟨_, rfl, ?_⟩
   have hS := hS.call0 hS_
   have hp40 := hS.cap 1 rfl
   have hlhp40 := hp40.le
   have hmhp40 := hp40.mx
   refine W_cons rfl (by decide) (Sv_gt rfl rfl rfl hk37 (Sv_val rfl (R_move rfl rfl) ?_))
   refine W_cons rfl (by decide) (Sv_gt rfl rfl rfl hk37 (Sv_call rfl rfl rfl ent22 ?_))
   refine (same_calls (trimS (trimS a0)) AR0_39 cR0_39 (trimS a0) AR0_9 cR0_9 _ _ hS.out0 (hS.ow [] 1 rfl rfl (hS.zq [] 0 rfl rfl)) (hS.cap 1 rfl) (hS.ow [] 7 rfl rfl (hS.zq [] 6 rfl rfl)) (hS.cap 7 rfl) ).mono ?_
   rintro e_ w41 ⟨rfl, hS_⟩
   refine ⟨_, rfl, ?_⟩
   have hS := hS.call0 hS_
   refine W_cons rfl (by decide) (Sv_gt rfl rfl rfl hk37 (Sv_val rfl (R_un rfl rfl rfl) ?_))
   refine W_cons rfl (by decide) (Sv_val rfl (R_pick_f rfl rfl hk37 rfl) ?_)
   refine W_cons rfl (by decide) (Sv_val rfl (R_move rfl rfl) ?_)
   have hk43 : (!(decide ((trimS (trimS a0)) = (trimS a0)))) = false := by first | (simp [fill_fill]; done) | (simp [trim_trim]; done) | (simp [trim_fill]; done) | (simp [turn_turn]; done)
   have hk43p : (decide ((trimS (trimS a0)) = (trimS a0)) = true) := by simpa using hk43
   refine W_cons rfl (by decide) (Sv_gt rfl rfl rfl hk43 (Sv_val rfl (R_move rfl rfl) ?_))
   refine W_cons rfl (by decide) (Sv_gt rfl rfl rfl hk43 (Sv_call rfl rfl rfl ent20 ?_))
   refine (trim_calls (fillS a0) AR0_6 cR0_6 _ _ hS.out0 (hS.ow [] 9 rfl rfl (hS.zq [] 8 rfl rfl)) (hS.cap 9 rfl) (by omega) (by omega)).mono ?_
   rintro e_ w44 ⟨AR0_45, cR0_45, qR0_45, rfl, hS_⟩
   refine ⟨_, rfl, ?_⟩
   have hS := hS.call0 hS_
   have hp46 := hS.cap 1 rfl
   have hlhp46 := hp46.le
   have hmhp46 := hp46.mx
   refine W_cons rfl (by decide) (Sv_gt rfl rfl rfl hk43 (Sv_val rfl (R_move rfl rfl) ?_))
   refine W_cons rfl (by decide) (Sv_gt rfl rfl rfl hk43 (Sv_call rfl rfl rfl ent22 ?_))
   refine (same_calls (trimS (fillS a0)) AR0_45 cR0_45 (trimS a0) AR0_9 cR0_9 _ _ hS.out0 (hS.ow [] 1 rfl rfl (hS.zq [] 0 rfl rfl)) (hS.cap 1 rfl) (hS.ow [] 9 rfl rfl (hS.zq [] 8 rfl rfl)) (hS.cap 9 rfl) ).mono ?_
   rintro e_ w47 ⟨rfl, hS_⟩
   refine ⟨_, rfl, ?_⟩
   have hS := hS.call0 hS_
   refine W_cons rfl (by decide) (Sv_gt rfl rfl rfl hk43 (Sv_val rfl (R_un rfl rfl rfl) ?_))
   refine W_cons rfl (by decide) (Sv_val rfl (R_pick_f rfl rfl hk43 rfl) ?_)
   refine W_nil ?_
   refine E_then (C_fr [(4, .slice AR0_9 (trimS a0).length cR0_9), (72, .bool (!(decide ((trimS (fillS a0)) = (trimS a0)))))] rfl ?_)
   have hk49 : (!(decide ((trimS (fillS a0)) = (trimS a0)))) = false := by first | (simp [fill_fill]; done) | (simp [trim_trim]; done) | (simp [trim_fill]; done) | (simp [turn_turn]; done)
   have hk49p : (decide ((trimS (fillS a0)) = (trimS a0)) = true) := by simpa using hk49
   refine C_else rfl hk49 ?_
   refine C_skip ?_
   refine E_then ?_
   refine C_seq ?_
   refine C_fr [(4, .slice AR0_9 (trimS a0).length cR0_9)] rfl ?_
   obtain ⟨q52, csq52, hAq52, ⟨Aq52, cq52, rfl, hcq52, hrq52⟩, hkq52⟩ := (hS.rw 9 rfl).el [] (i := 0) (by omega) (by omega)
   have hkq52 : ∀ (j_ : Nat) (u_ : Value), ([.slice Aq52 ((trimS a0).getD 0 []).length cq52] : List Value)[j_]? = some u_ → World.cell? w47 (q52.add (0 * 1 + j_)) = some u_ := hkq52
   have hrq52 : Rd kstr qR0_9 Aq52 (((trimS a0).getD 0 [])) := hrq52
   have hcq52 : Cap Aq52 (((trimS a0).getD 0 [])).length cq52 := hcq52
   have hlq52 := hcq52.le
   have hmq52 := hcq52.mx
   refine C_drawn 10 [[], [0], [1], [], [3], [4], [5], [6], [2, 0, 1, 2], [7, 8, 0, 1, 2, 3, 4, 5, 6, 7, 8]] [73, 74, 75, 76, 77, 78, 79, 80, 6, 7] [4] rfl (by kernel_rfl) (by decide +kernel) [fun v_ _ => v_ = .slice AR0_9 (trimS a0).length cR0_9, fun v_ _ => v_ = .int .i64 ((trimS a0).length : Int), fun v_ _ => v_ = .bool (((trimS a0).length : Int) == 1), fun v_ _ => v_ = .slice AR0_9 (trimS a0).length cR0_9, fun v_ _ => v_ = .pointer (some (q52.add (0 * 1))), fun v_ _ => v_ = .slice Aq52 ((trimS a0).getD 0 []).length cq52, fun v_ _ => v_ = .int .i64 (((trimS a0).getD 0 []).length : Int), fun v_ _ => v_ = .bool ((((trimS a0).getD 0 []).length : Int) == 1), fun v_ _ => v_ = .bool (((trimS a0).length : Int) == 1), fun v_ _ => v_ = .bool ((((trimS a0).getD 0 []).length : Int) == 1)] ⟨fun _ _ _ h _ => h, ⟨fun _ _ _ h _ => h, ⟨fun _ _ _ h _ => h, ⟨fun _ _ _ h _ => h, ⟨fun _ _ _ h _ => h, ⟨fun _ _ _ h _ => h, ⟨fun _ _ _ h _ => h, ⟨fun _ _ _ h _ => h, ⟨fun _ _ _ h _ => h, ⟨fun _ _ _ h _ => h, trivial⟩⟩⟩⟩⟩⟩⟩⟩⟩⟩ ⟨fun w50 hc51 => by have hS := hS.chg0 hc51; exact Sv_val rfl (R_move rfl rfl) ⟨Chg.refl _ _, rfl⟩, ⟨fun w50 hc51 => by have hS := hS.chg0 hc51; rintro _ rfl; exact Sv_val rfl (R_len rfl rfl Try.underlying22) ⟨Chg.refl _ _, rfl⟩, ⟨fun w50 hc51 => by have hS := hS.chg0 hc51; rintro _ rfl; exact Sv_val rfl (R_bin rfl rfl rfl rfl rfl) ⟨Chg.refl _ _, rfl⟩, ⟨fun w50 hc51 => by have hS := hS.chg0 hc51; exact Sv_val rfl (R_move rfl rfl) ⟨Chg.refl _ _, rfl⟩, ⟨fun w50 hc51 => by have hS := hS.chg0 hc51; rintro _ rfl; exact Sv_val rfl (R_idx rfl rfl hAq52 rfl Try.underlying22 size31 (by omega) (by omega)) ⟨Chg.refl _ _, rfl⟩, ⟨fun w50 hc51 => by have hS := hS.chg0 hc51; rintro _ rfl; exact Sv_val rfl (R_load1 rfl rfl agg31 (cell_chg0 (hkq52 0 _ rfl) hc51)) ⟨Chg.refl _ _, rfl⟩, ⟨fun w50 hc51 => by have hS := hS.chg0 hc51; rintro _ rfl; exact Sv_val rfl (R_len rfl rfl Try.underlying31) ⟨Chg.refl _ _, rfl⟩, ⟨fun w50 hc51 => by have hS := hS.chg0 hc51; rintro _ rfl; exact Sv_val rfl (R_bin rfl rfl rfl rfl rfl) ⟨Chg.refl _ _, rfl⟩, ⟨fun w50 hc51 => by have hS := hS.chg0 hc51; rintro _ rfl _ rfl _ rfl _ rfl; exact Sv_val rfl (R_assign rfl rfl) ⟨Chg.refl _ _, rfl⟩, ⟨fun w50 hc51 => by have hS := hS.chg0 hc51; rintro _ rfl _ rfl _ rfl _ rfl _ rfl _ rfl _ rfl _ rfl _ rfl _ rfl _ rfl; exact Sv_val rfl (R_assign rfl rfl) ⟨Chg.refl _ _, rfl⟩, trivial⟩⟩⟩⟩⟩⟩⟩⟩⟩⟩ ?_
   intro w50 hc51
   have hS := hS.chg0 hc51
   rintro _ rfl _ rfl _ rfl _ rfl _ rfl _ rfl _ rfl _ rfl _ rfl _ rfl
   refine An_fr [(4, .slice AR0_9 (trimS a0).length cR0_9), (6, .bool (((trimS a0).length : Int) == 1)), (7, .bool ((((trimS a0).getD 0 []).length : Int) == 1))] rfl ?_
   refine An_done (by decide +kernel) ?_
   refine E_then ?_
   refine C_seq ?_
   refine C_seq ?_
   refine C_region ?_
   refine W_cons rfl (by decide) (Sv_val rfl (R_assign rfl rfl) ?_)
   refine W_nil ?_
   refine E_then ?_
   refine C_block ?_
   refine C_fr [(4, .slice AR0_9 (trimS a0).length cR0_9), (6, .bool (((trimS a0).length : Int) == 1)), (7, .bool ((((trimS a0).getD 0 []).length : Int) == 1)), (8, .int .i64 0)] rfl ?_
   refine C_loop (fun m_ f_ w_ => ∃ (i : Nat) (b6 : Bool) (b7 : Bool), f_ = [(4, .slice AR0_9 (trimS a0).length cR0_9), (6, .bool b6), (7, .bool b7), (8, .int .i64 (i : Int))] ∧ i ≤ (trimS a0).length ∧ ((trimS a0).length = 1 → b6 = true) ∧ (i = (trimS a0).length → (∃ c, c < ((trimS a0).getD ((trimS a0).length - 1) []).length ∧ ¬ ((trimS a0).getD ((trimS a0).length - 1) []).getD c [] = []) → b6 = true) ∧ (((trimS a0).getD 0 []).length = 1 → b7 = true) ∧ ((∃ r, r < i ∧ ¬ ((trimS a0).getD r []).getD (((trimS a0).getD r []).length - 1) [] = []) → b7 = true) ∧ m_ = (trimS a0).length - i ∧ Sp (FF []) w z w_ [zR qR0_9, oR (kslice kstr) 31 qR0_9 AR0_9 cR0_9 (trimS a0)]) ((trimS a0).length - (0 : Nat)) ⟨(0 : Nat), ((((trimS a0).length : Int) == 1) : Bool), (((((trimS a0).getD 0 []).length : Int) == 1) : Bool), rfl, (by omega), (by intro h_; simp [h_]), (by intro h_; omega), (by intro h_; rw [beq_iff_eq]; omega), (by rintro ⟨r, h_, _⟩; omega), rfl, hS.fin [8, 9] (by decide) rfl⟩ ?_
   rintro m_ f_ w53 ⟨i, b6, b7, rfl, hI0_0, hI0_1, hI0_2, hI0_3, hI0_4, rfl, hS⟩
   refine C_seq ?_
   refine C_seq ?_
   refine C_region ?_
   refine W_cons rfl (by decide) (Sv_val rfl (R_move rfl rfl) ?_)
   refine W_cons rfl (by decide) (Sv_val rfl (R_move rfl rfl) ?_)
   refine W_cons rfl (by decide) (Sv_val rfl (R_len rfl rfl Try.underlying22) ?_)
   refine W_cons rfl (by decide) (Sv_val rfl (R_bin rfl rfl rfl rfl rfl) ?_)
   refine W_nil ?_
   refine E_then ?_
   refine C_ite rfl (fun hC4 => ?_) (fun hC4 => ?_)
   ·have _hC4 := trivial
    have hC4p : (i : Int) < ((trimS a0).length : Int) := by simpa using hC4
    refine C_skip ?_
    refine E_then ?_
    refine C_seq ?_
    refine C_block ?_
    refine C_seq ?_
    have hz8 := hz6 i (by omega)
    refine C_region ?_
    refine W_cons rfl (by decide) (Sv_val rfl (R_move rfl rfl) ?_)
    refine W_cons rfl (by decide) (Sv_val rfl (R_move rfl rfl) ?_)
    obtain ⟨q54, csq54, hAq54, ⟨Aq54, cq54, rfl, hcq54, hrq54⟩, hkq54⟩ := (hS.rw 1 rfl).el [] (i := (i : Int)) (by omega) (by omega)
    have hkq54 : ∀ (j_ : Nat) (u_ : Value), ([.slice Aq54 ((trimS a0).getD i []).length cq54] : List Value)[j_]? = some u_ → World.cell? w53 (q54.add (i * 1 + j_)) = some u_ := hkq54
    have hrq54 : Rd kstr qR0_9 Aq54 (((trimS a0).getD i [])) := hrq54
    have hcq54 : Cap Aq54 (((trimS a0).getD i [])).length cq54 := hcq54
    have hlq54 := hcq54.le
    have hmq54 := hcq54.mx
    refine W_cons rfl (by decide) (Sv_val rfl (R_idx rfl rfl hAq54 rfl Try.underlying22 size31 (by omega) (by omega)) ?_)
    refine W_cons rfl (by decide) (Sv_val rfl (R_load1 rfl rfl agg31 (hkq54 0 _ rfl)) ?_)
    refine W_cons rfl (by decide) (Sv_val rfl (R_len rfl rfl Try.underlying31) ?_)
    refine W_cons rfl (by decide) (Sv_val rfl (R_sub64 rfl rfl rfl (by omega) (by omega)) ?_)
    refine W_cons rfl (by decide) (Sv_val rfl (R_assign rfl rfl) ?_)
    refine W_nil ?_
    refine E_then (C_fr [(4, .slice AR0_9 (trimS a0).length cR0_9), (6, .bool b6), (7, .bool b7), (8, .int .i64 (i : Int)), (9, .int .i64 ((((trimS a0).getD i []).length : Int) - 1))] rfl ?_)
    refine C_seq ?_
    refine C_region ?_
    refine W_cons rfl (by decide) (Sv_val rfl (R_move rfl rfl) ?_)
    refine W_cons rfl (by decide) (Sv_val rfl (R_move rfl rfl) ?_)
    refine W_split (t := 94) rfl (fun hg55 => ?_) (fun hg55 => ?_)
    ·have _hg55 := trivial
     refine W_cons rfl (by decide) (Sv_off rfl rfl rfl (by rw [hg55] <;> rfl) ?_)
     refine W_cons rfl (by decide) (Sv_off rfl rfl rfl (by rw [hg55] <;> rfl) ?_)
     refine W_cons rfl (by decide) (Sv_off rfl rfl rfl (by rw [hg55] <;> rfl) ?_)
     refine W_cons rfl (by decide) (Sv_off rfl rfl rfl (by rw [hg55] <;> rfl) ?_)
     refine W_cons rfl (by decide) (Sv_off rfl rfl rfl (by rw [hg55] <;> rfl) ?_)
     refine W_cons rfl (by decide) (Sv_off rfl rfl rfl (by rw [hg55] <;> rfl) ?_)
     refine W_cons rfl (by decide) (Sv_off rfl rfl rfl (by rw [hg55] <;> rfl) ?_)
     refine W_cons rfl (by decide) (Sv_off rfl rfl rfl (by rw [hg55] <;> rfl) ?_)
     refine W_cons rfl (by decide) (Sv_val rfl (R_pick_t rfl rfl hg55 rfl) ?_)
     refine W_cons rfl (by decide) (Sv_val rfl (R_assign rfl rfl) ?_)
     refine W_nil ?_
     refine E_then ?_
     refine C_seq ?_
     refine C_region ?_
     refine W_cons rfl (by decide) (Sv_val rfl (R_assign rfl rfl) ?_)
     refine W_nil ?_
     refine E_then ?_
     refine C_block ?_
     refine C_fr [(4, .slice AR0_9 (trimS a0).length cR0_9), (6, .bool b6), (7, .bool true), (8, .int .i64 (i : Int)), (10, .int .i64 0), (95, undef), (96, undef), (97, undef), (98, undef), (99, undef), (100, undef), (101, undef), (102, undef)] rfl ?_
     refine C_loop (fun m_ f_ w_ => ∃ (k : Nat) (d6 : Bool), f_ = [(4, .slice AR0_9 (trimS a0).length cR0_9), (6, .bool d6), (7, .bool true), (8, .int .i64 (i : Int)), (10, .int .i64 (k : Int)), (95, undef), (96, undef), (97, undef), (98, undef), (99, undef), (100, undef), (101, undef), (102, undef)] ∧ k ≤ ((trimS a0).getD i []).length ∧ ((trimS a0).length = 1 → d6 = true) ∧ (i + 1 = (trimS a0).length → (∃ c, c < k ∧ ¬ ((trimS a0).getD i []).getD c [] = []) → d6 = true) ∧ m_ = ((trimS a0).getD i []).length - k ∧ Sp (FF []) w z w_ [zR qR0_9, oR (kslice kstr) 31 qR0_9 AR0_9 cR0_9 (trimS a0)]) (((trimS a0).getD i []).length - (0 : Nat)) ⟨(0 : Nat), (b6 : Bool), rfl, (by omega), (by assumption), (by rintro _ ⟨c, h_, _⟩; omega), rfl, hS.fin [0, 1] (by decide) rfl⟩ ?_
     rintro m_ f_ w56 ⟨k, d6, rfl, hI1_0, hI1_1, hI1_2, rfl, hS⟩
     refine C_seq ?_
     refine C_seq ?_
     refine C_region ?_
     refine W_cons rfl (by decide) (Sv_val rfl (R_move rfl rfl) ?_)
     refine W_cons rfl (by decide) (Sv_val rfl (R_move rfl rfl) ?_)
     refine W_cons rfl (by decide) (Sv_val rfl (R_move rfl rfl) ?_)
     obtain ⟨q57, csq57, hAq57, ⟨Aq57, cq57, rfl, hcq57, hrq57⟩, hkq57⟩ := (hS.rw 1 rfl).el [] (i := (i : Int)) (by omega) (by omega)
     have hkq57 : ∀ (j_ : Nat) (u_ : Value), ([.slice Aq57 ((trimS a0).getD i []).length cq57] : List Value)[j_]? = some u_ → World.cell? w56 (q57.add (i * 1 + j_)) = some u_ := hkq57
     have hrq57 : Rd kstr qR0_9 Aq57 (((trimS a0).getD i [])) := hrq57
     have hcq57 : Cap Aq57 (((trimS a0).getD i [])).length cq57 := hcq57
     have hlq57 := hcq57.le
     have hmq57 := hcq57.mx
     refine W_cons rfl (by decide) (Sv_val rfl (R_idx rfl rfl hAq57 rfl Try.underlying22 size31 (by omega) (by omega)) ?_)
     refine W_cons rfl (by decide) (Sv_val rfl (R_load1 rfl rfl agg31 (hkq57 0 _ rfl)) ?_)
     refine W_cons rfl (by decide) (Sv_val rfl (R_len rfl rfl Try.underlying31) ?_)
     refine W_cons rfl (by decide) (Sv_val rfl (R_bin rfl rfl rfl rfl rfl) ?_)
     refine W_nil ?_
     refine E_then (C_fr [(4, .slice AR0_9 (trimS a0).length cR0_9), (6, .bool d6), (7, .bool true), (8, .int .i64 (i : Int)), (10, .int .i64 (k : Int)), (95, undef), (96, undef), (97, undef), (98, undef), (99, undef), (100, undef), (101, undef), (102, undef), (110, .bool (decide ((k : Int) < (((trimS a0).getD i []).length : Int))))] rfl ?_)
     refine C_ite rfl (fun hC5 => ?_) (fun hC5 => ?_)
     ·have _hC5 := trivial
      have hC5p : (k : Int) < (((trimS a0).getD i []).length : Int) := by simpa using hC5
      refine C_skip ?_
      refine E_then ?_
      refine C_seq ?_
      refine C_block ?_
      refine C_region ?_
      refine W_cons rfl (by decide) (Sv_val rfl (R_move rfl rfl) ?_)
      refine W_cons rfl (by decide) (Sv_val rfl (R_move rfl rfl) ?_)
      refine W_split (t := 114) rfl (fun hg58 => ?_) (fun hg58 => ?_)
      ·have _hg58 := trivial
       refine W_cons rfl (by decide) (Sv_off rfl rfl rfl (by rw [hg58] <;> rfl) ?_)
       refine W_cons rfl (by decide) (Sv_off rfl rfl rfl (by rw [hg58] <;> rfl) ?_)
       refine W_cons rfl (by decide) (Sv_off rfl rfl rfl (by rw [hg58] <;> rfl) ?_)
       refine W_cons rfl (by decide) (Sv_off rfl rfl rfl (by rw [hg58] <;> rfl) ?_)
       refine W_cons rfl (by decide) (Sv_off rfl rfl rfl (by rw [hg58] <;> rfl) ?_)
       refine W_cons rfl (by decide) (Sv_off rfl rfl rfl (by rw [hg58] <;> rfl) ?_)
       refine W_cons rfl (by decide) (Sv_offu rfl rfl rfl ?_)
       refine W_cons rfl (by decide) (Sv_offu rfl rfl rfl ?_)
       refine W_cons rfl (by decide) (Sv_offu rfl rfl rfl ?_)
       refine W_cons rfl (by decide) (Sv_offu rfl rfl rfl ?_)
       refine W_cons rfl (by decide) (Sv_offu rfl rfl rfl ?_)
       refine W_cons rfl (by decide) (Sv_offu rfl rfl rfl ?_)
       refine W_cons rfl (by decide) (Sv_offu rfl rfl rfl ?_)
       refine W_cons rfl (by decide) (Sv_offu rfl rfl rfl ?_)
       refine W_cons rfl (by decide) (Sv_off rfl rfl rfl (by rw [hg58] <;> rfl) ?_)
       refine W_cons rfl (by decide) (Sv_val rfl (R_pick_t rfl rfl hg58 rfl) ?_)
       refine W_cons rfl (by decide) (Sv_val rfl (R_assign rfl rfl) ?_)
       refine W_nil ?_
       refine E_block_normal ?_
       refine E_then ?_
       refine C_region ?_
       refine W_cons rfl (by decide) (Sv_val rfl (R_move rfl rfl) ?_)
       refine W_cons rfl (by decide) (Sv_val rfl (R_add64 rfl rfl rfl (by omega) (by omega)) ?_)
       refine W_cons rfl (by decide) (Sv_val rfl (R_assign rfl rfl) ?_)
       refine W_nil ?_
       refine E_round [4, 6, 7, 8, 10, 95, 96, 97, 98, 99, 100, 101, 102] ?_ ⟨(k + 1 : Nat), (true : Bool), rfl, (by omega), (by exact fun _ => rfl), (by exact fun _ _ => rfl), rfl, hS.fin [0, 1] (by decide) rfl⟩
       omega
      ·have _hg58 := trivial
       refine W_cons rfl (by decide) (Sv_gt rfl rfl rfl hg58 (Sv_val rfl (R_move rfl rfl) ?_))
       refine W_cons rfl (by decide) (Sv_gt rfl rfl rfl hg58 (Sv_val rfl (R_move rfl rfl) ?_))
       refine W_cons rfl (by decide) (Sv_gt rfl rfl rfl hg58 (Sv_val rfl (R_len rfl rfl Try.underlying22) ?_))
       refine W_cons rfl (by decide) (Sv_gt rfl rfl rfl hg58 (Sv_val rfl (R_sub64 rfl rfl rfl (by omega) (by omega)) ?_))
       refine W_cons rfl (by decide) (Sv_gt rfl rfl rfl hg58 (Sv_val rfl (R_bin rfl rfl rfl rfl rfl) ?_))
       refine W_cons rfl (by decide) (Sv_gt rfl rfl rfl hg58 (Sv_val rfl (R_move rfl rfl) ?_))
       refine W_split (t := 120) rfl (fun hg59 => ?_) (fun hg59 => ?_)
       ·have _hg59 := trivial
        have hg59p : (i : Int) = (((trimS a0).length : Int) - 1) := by simpa using hg59
        refine W_cons rfl (by decide) (Sv_gt rfl rfl rfl hg59 (Sv_val rfl (R_move rfl rfl) ?_))
        refine W_cons rfl (by decide) (Sv_gt rfl rfl rfl hg59 (Sv_val rfl (R_move rfl rfl) ?_))
        obtain ⟨q60, csq60, hAq60, ⟨Aq60, cq60, rfl, hcq60, hrq60⟩, hkq60⟩ := (hS.rw 1 rfl).el [] (i := (i : Int)) (by omega) (by omega)
        have hkq60 : ∀ (j_ : Nat) (u_ : Value), ([.slice Aq60 ((trimS a0).getD i []).length cq60] : List Value)[j_]? = some u_ → World.cell? w56 (q60.add (i * 1 + j_)) = some u_ := hkq60
        have hrq60 : Rd kstr qR0_9 Aq60 (((trimS a0).getD i [])) := hrq60
        have hcq60 : Cap Aq60 (((trimS a0).getD i [])).length cq60 := hcq60
        have hlq60 := hcq60.le
        have hmq60 := hcq60.mx
        refine W_cons rfl (by decide) (Sv_gt rfl rfl rfl hg59 (Sv_val rfl (R_idx rfl rfl hAq60 rfl Try.underlying22 size31 (by omega) (by omega)) ?_))
        refine W_cons rfl (by decide) (Sv_gt rfl rfl rfl hg59 (Sv_val rfl (R_load1 rfl rfl agg31 (hkq60 0 _ rfl)) ?_))
        refine W_cons rfl (by decide) (Sv_gt rfl rfl rfl hg59 (Sv_val rfl (R_move rfl rfl) ?_))
        obtain ⟨q61, csq61, hAq61, rfl, hkq61⟩ := hrq60.at_ ([] : St) (i := (k : Int)) (by omega) (by omega)
        have hkq61 : ∀ (j_ : Nat) (u_ : Value), ([vstr (((trimS a0).getD i []).getD k ([] : St))] : List Value)[j_]? = some u_ → cz qR0_9 (q61.add (k * 1 + j_)) = some u_ := hkq61
        refine W_cons rfl (by decide) (Sv_gt rfl rfl rfl hg59 (Sv_val rfl (R_idx rfl rfl hAq61 rfl Try.underlying31 size9 (by omega) (by omega)) ?_))
        refine W_cons rfl (by decide) (Sv_gt rfl rfl rfl hg59 (Sv_val rfl (R_load1 rfl rfl agg9 ((hS.zs 0 rfl).cell (hkq61 0 _ rfl))) ?_))
        refine W_cons rfl (by decide) (Sv_gt rfl rfl rfl hg59 (Sv_val rfl (R_strneq rfl rfl rfl) ?_))
        refine W_cons rfl (by decide) (Sv_gt rfl rfl rfl hg58 (Sv_val rfl (R_pick_t rfl rfl hg59 rfl) ?_))
        refine W_cons rfl (by decide) (Sv_val rfl (R_pick_f rfl rfl hg58 rfl) ?_)
        refine W_cons rfl (by decide) (Sv_val rfl (R_assign rfl rfl) ?_)
        refine W_nil ?_
        refine E_block_normal ?_
        refine E_then ?_
        refine C_region ?_
        refine W_cons rfl (by decide) (Sv_val rfl (R_move rfl rfl) ?_)
        refine W_cons rfl (by decide) (Sv_val rfl (R_add64 rfl rfl rfl (by omega) (by omega)) ?_)
        refine W_cons rfl (by decide) (Sv_val rfl (R_assign rfl rfl) ?_)
        refine W_nil ?_
        refine E_round [4, 6, 7, 8, 10, 95, 96, 97, 98, 99, 100, 101, 102] ?_ ⟨(k + 1 : Nat), (!decide ((((trimS a0).getD i []).getD k ([] : St)) = []) : Bool), rfl, (by omega), (by intro h_; have := hI1_1 h_; simp_all), (by rintro h_ ⟨c, hc, hc2⟩; exact (if hk : c = k then (by subst hk; simp only [Bool.not_eq_true', decide_eq_false_iff_not]; exact hc2) else (by have := hI1_2 h_ ⟨c, by omega, hc2⟩; simp_all))), rfl, hS.fin [0, 1] (by decide) rfl⟩
        omega
       ·have _hg59 := trivial
        have hg59p : ¬ ((i : Int) = (((trimS a0).length : Int) - 1)) := by simpa using hg59
        refine W_cons rfl (by decide) (Sv_off rfl rfl rfl (by rw [hg59] <;> rfl) ?_)
        refine W_cons rfl (by decide) (Sv_off rfl rfl rfl (by rw [hg59] <;> rfl) ?_)
        refine W_cons rfl (by decide) (Sv_off rfl rfl rfl (by rw [hg59] <;> rfl) ?_)
        refine W_cons rfl (by decide) (Sv_off rfl rfl rfl (by rw [hg59] <;> rfl) ?_)
        refine W_cons rfl (by decide) (Sv_off rfl rfl rfl (by rw [hg59] <;> rfl) ?_)
        refine W_cons rfl (by decide) (Sv_off rfl rfl rfl (by rw [hg59] <;> rfl) ?_)
        refine W_cons rfl (by decide) (Sv_off rfl rfl rfl (by rw [hg59] <;> rfl) ?_)
        refine W_cons rfl (by decide) (Sv_off rfl rfl rfl (by rw [hg59] <;> rfl) ?_)
        refine W_cons rfl (by decide) (Sv_gt rfl rfl rfl hg58 (Sv_val rfl (R_pick_f rfl rfl hg59 rfl) ?_))
        refine W_cons rfl (by decide) (Sv_val rfl (R_pick_f rfl rfl hg58 rfl) ?_)
        refine W_cons rfl (by decide) (Sv_val rfl (R_assign rfl rfl) ?_)
        refine W_nil ?_
        refine E_block_normal ?_
        refine E_then ?_
        refine C_region ?_
        refine W_cons rfl (by decide) (Sv_val rfl (R_move rfl rfl) ?_)
        refine W_cons rfl (by decide) (Sv_val rfl (R_add64 rfl rfl rfl (by omega) (by omega)) ?_)
        refine W_cons rfl (by decide) (Sv_val rfl (R_assign rfl rfl) ?_)
        refine W_nil ?_
        refine E_round [4, 6, 7, 8, 10, 95, 96, 97, 98, 99, 100, 101, 102] ?_ ⟨(k + 1 : Nat), (false : Bool), rfl, (by omega), (by intro h_; have := hI1_1 h_; simp_all), (by intro h_; exfalso; omega), rfl, hS.fin [0, 1] (by decide) rfl⟩
        omega
     ·have _hC5 := trivial
      have hC5p : ¬ ((k : Int) < (((trimS a0).getD i []).length : Int)) := by simpa using hC5
      refine C_exit ?_
      refine E_then_exit ?_
      refine E_then_exit ?_
      refine E_block_hit ?_
      refine E_block_normal ?_
      refine E_then ?_
      refine C_region ?_
      refine W_cons rfl (by decide) (Sv_val rfl (R_move rfl rfl) ?_)
      refine W_cons rfl (by decide) (Sv_val rfl (R_add64 rfl rfl rfl (by omega) (by omega)) ?_)
      refine W_cons rfl (by decide) (Sv_val rfl (R_assign rfl rfl) ?_)
      refine W_nil ?_
      refine E_round [4, 6, 7, 8] ?_ ⟨(i + 1 : Nat), (d6 : Bool), (true : Bool), rfl, (by omega), (by exact hI1_1), (by intro h_ h2_; refine hI1_2 h_ ?_; rw [show (trimS a0).length - 1 = i from by omega] at h2_; obtain ⟨c, hc, hc2⟩ := h2_; exact ⟨c, by omega, hc2⟩), (by exact fun _ => rfl), (by exact fun _ => rfl), rfl, hS.fin [0, 1] (by decide) rfl⟩
      omega
    ·have _hg55 := trivial
     refine W_cons rfl (by decide) (Sv_gt rfl rfl rfl hg55 (Sv_val rfl (R_move rfl rfl) ?_))
     refine W_cons rfl (by decide) (Sv_gt rfl rfl rfl hg55 (Sv_val rfl (R_move rfl rfl) ?_))
     obtain ⟨q62, csq62, hAq62, ⟨Aq62, cq62, rfl, hcq62, hrq62⟩, hkq62⟩ := (hS.rw 1 rfl).el [] (i := (i : Int)) (by omega) (by omega)
     have hkq62 : ∀ (j_ : Nat) (u_ : Value), ([.slice Aq62 ((trimS a0).getD i []).length cq62] : List Value)[j_]? = some u_ → World.cell? w53 (q62.add (i * 1 + j_)) = some u_ := hkq62
     have hrq62 : Rd kstr qR0_9 Aq62 (((trimS a0).getD i [])) := hrq62
     have hcq62 : Cap Aq62 (((trimS a0).getD i [])).length cq62 := hcq62
     have hlq62 := hcq62.le
     have hmq62 := hcq62.mx
     refine W_cons rfl (by decide) (Sv_gt rfl rfl rfl hg55 (Sv_val rfl (R_idx rfl rfl hAq62 rfl Try.underlying22 size31 (by omega) (by omega)) ?_))
     refine W_cons rfl (by decide) (Sv_gt rfl rfl rfl hg55 (Sv_val rfl (R_load1 rfl rfl agg31 (hkq62 0 _ rfl)) ?_))
     refine W_cons rfl (by decide) (Sv_gt rfl rfl rfl hg55 (Sv_val rfl (R_move rfl rfl) ?_))
     obtain ⟨q63, csq63, hAq63, rfl, hkq63⟩ := hrq62.at_ ([] : St) (i := ((((trimS a0).getD i []).length : Int) - 1)) (by omega) (by omega)
     refine W_cons rfl (by decide) (Sv_gt rfl rfl rfl hg55 (Sv_val rfl (R_idx rfl rfl hAq63 rfl Try.underlying31 size9 (by omega) (by omega)) ?_))
     refine W_cons rfl (by decide) (Sv_gt rfl rfl rfl hg55 (Sv_val rfl (R_load1 rfl rfl agg9 ((hS.zs 0 rfl).cell (hkq63 0 _ rfl))) ?_))
     refine W_cons rfl (by decide) (Sv_gt rfl rfl rfl hg55 (Sv_val rfl (R_strneq rfl rfl rfl) ?_))
     refine W_cons rfl (by decide) (Sv_val rfl (R_pick_f rfl rfl hg55 rfl) ?_)
     refine W_cons rfl (by decide) (Sv_val rfl (R_assign rfl rfl) ?_)
     refine W_nil ?_
     refine E_then ?_
     refine C_seq ?_
     refine C_region ?_
     refine W_cons rfl (by decide) (Sv_val rfl (R_assign rfl rfl) ?_)
     refine W_nil ?_
     refine E_then ?_
     refine C_block ?_
     refine C_fr [(4, .slice AR0_9 (trimS a0).length cR0_9), (6, .bool b6), (7, .bool (!decide ((((trimS a0).getD i []).getD ((((trimS a0).getD i []).length : Int) - 1).toNat ([] : St)) = []))), (8, .int .i64 (i : Int)), (10, .int .i64 0), (95, .slice AR0_9 (trimS a0).length cR0_9), (96, .int .i64 (i : Int)), (97, .pointer (some (q62.add (i * 1)))), (98, .slice Aq62 ((trimS a0).getD i []).length cq62), (99, .int .i64 ((((trimS a0).getD i []).length : Int) - 1)), (100, .pointer (some (q63.add (((((trimS a0).getD i []).length : Int) - 1).toNat * 1)))), (101, vstr (((trimS a0).getD i []).getD ((((trimS a0).getD i []).length : Int) - 1).toNat ([] : St))), (102, .bool (!decide ((((trimS a0).getD i []).getD ((((trimS a0).getD i []).length : Int) - 1).toNat ([] : St)) = [])))] rfl ?_
     refine C_loop (fun m_ f_ w_ => ∃ (k : Nat) (d6 : Bool), f_ = [(4, .slice AR0_9 (trimS a0).length cR0_9), (6, .bool d6), (7, .bool (!decide ((((trimS a0).getD i []).getD ((((trimS a0).getD i []).length : Int) - 1).toNat ([] : St)) = []))), (8, .int .i64 (i : Int)), (10, .int .i64 (k : Int)), (95, .slice AR0_9 (trimS a0).length cR0_9), (96, .int .i64 (i : Int)), (97, .pointer (some (q62.add (i * 1)))), (98, .slice Aq62 ((trimS a0).getD i []).length cq62), (99, .int .i64 ((((trimS a0).getD i []).length : Int) - 1)), (100, .pointer (some (q63.add (((((trimS a0).getD i []).length : Int) - 1).toNat * 1)))), (101, vstr (((trimS a0).getD i []).getD ((((trimS a0).getD i []).length : Int) - 1).toNat ([] : St))), (102, .bool (!decide ((((trimS a0).getD i []).getD ((((trimS a0).getD i []).length : Int) - 1).toNat ([] : St)) = [])))] ∧ k ≤ ((trimS a0).getD i []).length ∧ ((trimS a0).length = 1 → d6 = true) ∧ (i + 1 = (trimS a0).length → (∃ c, c < k ∧ ¬ ((trimS a0).getD i []).getD c [] = []) → d6 = true) ∧ m_ = ((trimS a0).getD i []).length - k ∧ Sp (FF []) w z w_ [zR qR0_9, oR (kslice kstr) 31 qR0_9 AR0_9 cR0_9 (trimS a0)]) (((trimS a0).getD i []).length - (0 : Nat)) ⟨(0 : Nat), (b6 : Bool), rfl, (by omega), (by assumption), (by rintro _ ⟨c, h_, _⟩; omega), rfl, hS.fin [0, 1] (by decide) rfl⟩ ?_
     rintro m_ f_ w64 ⟨k, d6, rfl, hI1_0, hI1_1, hI1_2, rfl, hS⟩
     refine C_seq ?_
     refine C_seq ?_
     refine C_region ?_
     refine W_cons rfl (by decide) (Sv_val rfl (R_move rfl rfl) ?_)
     refine W_cons rfl (by decide) (Sv_val rfl (R_move rfl rfl) ?_)
     refine W_cons rfl (by decide) (Sv_val rfl (R_move rfl rfl) ?_)
     obtain ⟨q65, csq65, hAq65, ⟨Aq65, cq65, rfl, hcq65, hrq65⟩, hkq65⟩ := (hS.rw 1 rfl).el [] (i := (i : Int)) (by omega) (by omega)
     have hkq65 : ∀ (j_ : Nat) (u_ : Value), ([.slice Aq65 ((trimS a0).getD i []).length cq65] : List Value)[j_]? = some u_ → World.cell? w64 (q65.add (i * 1 + j_)) = some u_ := hkq65
     have hrq65 : Rd kstr qR0_9 Aq65 (((trimS a0).getD i [])) := hrq65
     have hcq65 : Cap Aq65 (((trimS a0).getD i [])).length cq65 := hcq65
     have hlq65 := hcq65.le
     have hmq65 := hcq65.mx
     refine W_cons rfl (by decide) (Sv_val rfl (R_idx rfl rfl hAq65 rfl Try.underlying22 size31 (by omega) (by omega)) ?_)
     refine W_cons rfl (by decide) (Sv_val rfl (R_load1 rfl rfl agg31 (hkq65 0 _ rfl)) ?_)
     refine W_cons rfl (by decide) (Sv_val rfl (R_len rfl rfl Try.underlying31) ?_)
     refine W_cons rfl (by decide) (Sv_val rfl (R_bin rfl rfl rfl rfl rfl) ?_)
     refine W_nil ?_
     refine E_then (C_fr [(4, .slice AR0_9 (trimS a0).length cR0_9), (6, .bool d6), (7, .bool (!decide ((((trimS a0).getD i []).getD ((((trimS a0).getD i []).length : Int) - 1).toNat ([] : St)) = []))), (8, .int .i64 (i : Int)), (10, .int .i64 (k : Int)), (95, .slice AR0_9 (trimS a0).length cR0_9), (96, .int .i64 (i : Int)), (97, .pointer (some (q62.add (i * 1)))), (98, .slice Aq62 ((trimS a0).getD i []).length cq62), (99, .int .i64 ((((trimS a0).getD i []).length : Int) - 1)), (100, .pointer (some (q63.add (((((trimS a0).getD i []).length : Int) - 1).toNat * 1)))), (101, vstr (((trimS a0).getD i []).getD ((((trimS a0).getD i []).length : Int) - 1).toNat ([] : St))), (102, .bool (!decide ((((trimS a0).getD i []).getD ((((trimS a0).getD i []).length : Int) - 1).toNat ([] : St)) = []))), (110, .bool (decide ((k : Int) < (((trimS a0).getD i []).length : Int))))] rfl ?_)
     refine C_ite rfl (fun hC5 => ?_) (fun hC5 => ?_)
     ·have _hC5 := trivial
      have hC5p : (k : Int) < (((trimS a0).getD i []).length : Int) := by simpa using hC5
      refine C_skip ?_
      refine E_then ?_
      refine C_seq ?_
      refine C_block ?_
      refine C_region ?_
      refine W_cons rfl (by decide) (Sv_val rfl (R_move rfl rfl) ?_)
      refine W_cons rfl (by decide) (Sv_val rfl (R_move rfl rfl) ?_)
      refine W_split (t := 114) rfl (fun hg66 => ?_) (fun hg66 => ?_)
      ·have _hg66 := trivial
       refine W_cons rfl (by decide) (Sv_off rfl rfl rfl (by rw [hg66] <;> rfl) ?_)
       refine W_cons rfl (by decide) (Sv_off rfl rfl rfl (by rw [hg66] <;> rfl) ?_)
       refine W_cons rfl (by decide) (Sv_off rfl rfl rfl (by rw [hg66] <;> rfl) ?_)
       refine W_cons rfl (by decide) (Sv_off rfl rfl rfl (by rw [hg66] <;> rfl) ?_)
       refine W_cons rfl (by decide) (Sv_off rfl rfl rfl (by rw [hg66] <;> rfl) ?_)
       refine W_cons rfl (by decide) (Sv_off rfl rfl rfl (by rw [hg66] <;> rfl) ?_)
       refine W_cons rfl (by decide) (Sv_offu rfl rfl rfl ?_)
       refine W_cons rfl (by decide) (Sv_offu rfl rfl rfl ?_)
       refine W_cons rfl (by decide) (Sv_offu rfl rfl rfl ?_)
       refine W_cons rfl (by decide) (Sv_offu rfl rfl rfl ?_)
       refine W_cons rfl (by decide) (Sv_offu rfl rfl rfl ?_)
       refine W_cons rfl (by decide) (Sv_offu rfl rfl rfl ?_)
       refine W_cons rfl (by decide) (Sv_offu rfl rfl rfl ?_)
       refine W_cons rfl (by decide) (Sv_offu rfl rfl rfl ?_)
       refine W_cons rfl (by decide) (Sv_off rfl rfl rfl (by rw [hg66] <;> rfl) ?_)
       refine W_cons rfl (by decide) (Sv_val rfl (R_pick_t rfl rfl hg66 rfl) ?_)
       refine W_cons rfl (by decide) (Sv_val rfl (R_assign rfl rfl) ?_)
       refine W_nil ?_
       refine E_block_normal ?_
       refine E_then ?_
       refine C_region ?_
       refine W_cons rfl (by decide) (Sv_val rfl (R_move rfl rfl) ?_)
       refine W_cons rfl (by decide) (Sv_val rfl (R_add64 rfl rfl rfl (by omega) (by omega)) ?_)
       refine W_cons rfl (by decide) (Sv_val rfl (R_assign rfl rfl) ?_)
       refine W_nil ?_
       refine E_round [4, 6, 7, 8, 10, 95, 96, 97, 98, 99, 100, 101, 102] ?_ ⟨(k + 1 : Nat), (true : Bool), rfl, (by omega), (by exact fun _ => rfl), (by exact fun _ _ => rfl), rfl, hS.fin [0, 1] (by decide) rfl⟩
       omega
      ·have _hg66 := trivial
       refine W_cons rfl (by decide) (Sv_gt rfl rfl rfl hg66 (Sv_val rfl (R_move rfl rfl) ?_))
       refine W_cons rfl (by decide) (Sv_gt rfl rfl rfl hg66 (Sv_val rfl (R_move rfl rfl) ?_))
       refine W_cons rfl (by decide) (Sv_gt rfl rfl rfl hg66 (Sv_val rfl (R_len rfl rfl Try.underlying22) ?_))
       refine W_cons rfl (by decide) (Sv_gt rfl rfl rfl hg66 (Sv_val rfl (R_sub64 rfl rfl rfl (by omega) (by omega)) ?_))
       refine W_cons rfl (by decide) (Sv_gt rfl rfl rfl hg66 (Sv_val rfl (R_bin rfl rfl rfl rfl rfl) ?_))
       refine W_cons rfl (by decide) (Sv_gt rfl rfl rfl hg66 (Sv_val rfl (R_move rfl rfl) ?_))
       refine W_split (t := 120) rfl (fun hg67 => ?_) (fun hg67 => ?_)
       ·have _hg67 := trivial
        have hg67p : (i : Int) = (((trimS a0).length : Int) - 1) := by simpa using hg67
        refine W_cons rfl (by decide) (Sv_gt rfl rfl rfl hg67 (Sv_val rfl (R_move rfl rfl) ?_))
        refine W_cons rfl (by decide) (Sv_gt rfl rfl rfl hg67 (Sv_val rfl (R_move rfl rfl) ?_))
        obtain ⟨q68, csq68, hAq68, ⟨Aq68, cq68, rfl, hcq68, hrq68⟩, hkq68⟩ := (hS.rw 1 rfl).el [] (i := (i : Int)) (by omega) (by omega)
        have hkq68 : ∀ (j_ : Nat) (u_ : Value), ([.slice Aq68 ((trimS a0).getD i []).length cq68] : List Value)[j_]? = some u_ → World.cell? w64 (q68.add (i * 1 + j_)) = some u_ := hkq68
        have hrq68 : Rd kstr qR0_9 Aq68 (((trimS a0).getD i [])) := hrq68
        have hcq68 : Cap Aq68 (((trimS a0).getD i [])).length cq68 := hcq68
        have hlq68 := hcq68.le
        have hmq68 := hcq68.mx
        refine W_cons rfl (by decide) (Sv_gt rfl rfl rfl hg67 (Sv_val rfl (R_idx rfl rfl hAq68 rfl Try.underlying22 size31 (by omega) (by omega)) ?_))
        refine W_cons rfl (by decide) (Sv_gt rfl rfl rfl hg67 (Sv_val rfl (R_load1 rfl rfl agg31 (hkq68 0 _ rfl)) ?_))
        refine W_cons rfl (by decide) (Sv_gt rfl rfl rfl hg67 (Sv_val rfl (R_move rfl rfl) ?_))
        obtain ⟨q69, csq69, hAq69, rfl, hkq69⟩ := hrq68.at_ ([] : St) (i := (k : Int)) (by omega) (by omega)
        have hkq69 : ∀ (j_ : Nat) (u_ : Value), ([vstr (((trimS a0).getD i []).getD k ([] : St))] : List Value)[j_]? = some u_ → cz qR0_9 (q69.add (k * 1 + j_)) = some u_ := hkq69
        refine W_cons rfl (by decide) (Sv_gt rfl rfl rfl hg67 (Sv_val rfl (R_idx rfl rfl hAq69 rfl Try.underlying31 size9 (by omega) (by omega)) ?_))
        refine W_cons rfl (by decide) (Sv_gt rfl rfl rfl hg67 (Sv_val rfl (R_load1 rfl rfl agg9 ((hS.zs 0 rfl).cell (hkq69 0 _ rfl))) ?_))
        refine W_cons rfl (by decide) (Sv_gt rfl rfl rfl hg67 (Sv_val rfl (R_strneq rfl rfl rfl) ?_))
        refine W_cons rfl (by decide) (Sv_gt rfl rfl rfl hg66 (Sv_val rfl (R_pick_t rfl rfl hg67 rfl) ?_))
        refine W_cons rfl (by decide) (Sv_val rfl (R_pick_f rfl rfl hg66 rfl) ?_)
        refine W_cons rfl (by decide) (Sv_val rfl (R_assign rfl rfl) ?_)
        refine W_nil ?_
        refine E_block_normal ?_
        refine E_then ?_
        refine C_region ?_
        refine W_cons rfl (by decide) (Sv_val rfl (R_move rfl rfl) ?_)
        refine W_cons rfl (by decide) (Sv_val rfl (R_add64 rfl rfl rfl (by omega) (by omega)) ?_)
        refine W_cons rfl (by decide) (Sv_val rfl (R_assign rfl rfl) ?_)
        refine W_nil ?_
        refine E_round [4, 6, 7, 8, 10, 95, 96, 97, 98, 99, 100, 101, 102] ?_ ⟨(k + 1 : Nat), (!decide ((((trimS a0).getD i []).getD k ([] : St)) = []) : Bool), rfl, (by omega), (by intro h_; have := hI1_1 h_; simp_all), (by rintro h_ ⟨c, hc, hc2⟩; exact (if hk : c = k then (by subst hk; simp only [Bool.not_eq_true', decide_eq_false_iff_not]; exact hc2) else (by have := hI1_2 h_ ⟨c, by omega, hc2⟩; simp_all))), rfl, hS.fin [0, 1] (by decide) rfl⟩
        omega
       ·have _hg67 := trivial
        have hg67p : ¬ ((i : Int) = (((trimS a0).length : Int) - 1)) := by simpa using hg67
        refine W_cons rfl (by decide) (Sv_off rfl rfl rfl (by rw [hg67] <;> rfl) ?_)
        refine W_cons rfl (by decide) (Sv_off rfl rfl rfl (by rw [hg67] <;> rfl) ?_)
        refine W_cons rfl (by decide) (Sv_off rfl rfl rfl (by rw [hg67] <;> rfl) ?_)
        refine W_cons rfl (by decide) (Sv_off rfl rfl rfl (by rw [hg67] <;> rfl) ?_)
        refine W_cons rfl (by decide) (Sv_off rfl rfl rfl (by rw [hg67] <;> rfl) ?_)
        refine W_cons rfl (by decide) (Sv_off rfl rfl rfl (by rw [hg67] <;> rfl) ?_)
        refine W_cons rfl (by decide) (Sv_off rfl rfl rfl (by rw [hg67] <;> rfl) ?_)
        refine W_cons rfl (by decide) (Sv_off rfl rfl rfl (by rw [hg67] <;> rfl) ?_)
        refine W_cons rfl (by decide) (Sv_gt rfl rfl rfl hg66 (Sv_val rfl (R_pick_f rfl rfl hg67 rfl) ?_))
        refine W_cons rfl (by decide) (Sv_val rfl (R_pick_f rfl rfl hg66 rfl) ?_)
        refine W_cons rfl (by decide) (Sv_val rfl (R_assign rfl rfl) ?_)
        refine W_nil ?_
        refine E_block_normal ?_
        refine E_then ?_
        refine C_region ?_
        refine W_cons rfl (by decide) (Sv_val rfl (R_move rfl rfl) ?_)
        refine W_cons rfl (by decide) (Sv_val rfl (R_add64 rfl rfl rfl (by omega) (by omega)) ?_)
        refine W_cons rfl (by decide) (Sv_val rfl (R_assign rfl rfl) ?_)
        refine W_nil ?_
        refine E_round [4, 6, 7, 8, 10, 95, 96, 97, 98, 99, 100, 101, 102] ?_ ⟨(k + 1 : Nat), (false : Bool), rfl, (by omega), (by intro h_; have := hI1_1 h_; simp_all), (by intro h_; exfalso; omega), rfl, hS.fin [0, 1] (by decide) rfl⟩
        omega
     ·have _hC5 := trivial
      have hC5p : ¬ ((k : Int) < (((trimS a0).getD i []).length : Int)) := by simpa using hC5
      refine C_exit ?_
      refine E_then_exit ?_
      refine E_then_exit ?_
      refine E_block_hit ?_
      refine E_block_normal ?_
      refine E_then ?_
      refine C_region ?_
      refine W_cons rfl (by decide) (Sv_val rfl (R_move rfl rfl) ?_)
      refine W_cons rfl (by decide) (Sv_val rfl (R_add64 rfl rfl rfl (by omega) (by omega)) ?_)
      refine W_cons rfl (by decide) (Sv_val rfl (R_assign rfl rfl) ?_)
      refine W_nil ?_
      refine E_round [4, 6, 7, 8] ?_ ⟨(i + 1 : Nat), (d6 : Bool), (!decide ((((trimS a0).getD i []).getD ((((trimS a0).getD i []).length : Int) - 1).toNat ([] : St)) = []) : Bool), rfl, (by omega), (by exact hI1_1), (by intro h_ h2_; refine hI1_2 h_ ?_; rw [show (trimS a0).length - 1 = i from by omega] at h2_; obtain ⟨c, hc, hc2⟩ := h2_; exact ⟨c, by omega, hc2⟩), (by intro h_; have := hI0_3 h_; simp_all), (by rintro ⟨r, hr, hr2⟩; exact (if h_ : r = i then (by subst h_; rw [show ((((trimS a0).getD r []).length : Int) - 1).toNat = ((trimS a0).getD r []).length - 1 from by omega]; simp only [Bool.not_eq_true', decide_eq_false_iff_not]; exact hr2) else (by have := hI0_4 ⟨r, by omega, hr2⟩; simp_all))), rfl, hS.fin [0, 1] (by decide) rfl⟩
      omega
   ·have _hC4 := trivial
    have hC4p : ¬ ((i : Int) < ((trimS a0).length : Int)) := by simpa using hC4
    refine C_exit ?_
    refine E_then_exit ?_
    refine E_then_exit ?_
    refine E_block_hit ?_
    refine E_then (C_fr [(6, .bool b6), (7, .bool b7)] rfl ?_)
    refine C_seq ?_
    have hl := trim_last a0
    have hb6 : b6 = true := hl.1.elim hI0_1 (hI0_2 (by omega))
    have hb7 : b7 = true := hl.2.elim hI0_3 (fun ⟨r, h1, h2⟩ => hI0_4 ⟨r, by omega, h2⟩)
    refine C_region ?_
    refine W_cons rfl (by decide) (Sv_val rfl (R_move rfl rfl) ?_)
    refine W_cons rfl (by decide) (Sv_val rfl (R_move rfl rfl) ?_)
    refine W_cons rfl (by decide) (Sv_gt rfl rfl rfl hb6 (Sv_val rfl (R_move rfl rfl) ?_))
    refine W_cons rfl (by decide) (Sv_val rfl (R_pick_t rfl rfl hb6 rfl) ?_)
    refine W_cons rfl (by decide) (Sv_val rfl (R_move rfl rfl) ?_)
    refine W_cons rfl (by decide) (Sv_gt rfl rfl rfl hb7 (Sv_call rfl rfl rfl ent13 ?_))
    refine (tawake_calls  _ _ hS.out0  ).mono ?_
    rintro e_ w70 ⟨rfl, hS_⟩
    refine ⟨_, rfl, ?_⟩
    have hS := hS.call0 hS_
    refine W_cons rfl (by decide) (Sv_val rfl (R_pick_t rfl rfl hb7 rfl) ?_)
    refine W_cons rfl (by decide) (Sv_val rfl (R_assign rfl rfl) ?_)
    refine W_nil ?_
    refine E_then (C_fr [(2, .bool true)] rfl ?_)
    refine C_ret ?_
    refine E_ret1 rfl rfl ?_
    exact ⟨Lret1 (Lbool (show true = true by rfl)), hS.fin [] (by decide) rfl⟩
  ·have _hg28 := trivial
   have hg28p : (checkS a0) = 1 := by simpa using hg28
   refine W_cons rfl (by decide) (Sv_off rfl rfl rfl (by rw [hg28] <;> rfl) ?_)
   refine W_cons rfl (by decide) (Sv_off rfl rfl rfl (by rw [hg28] <;> rfl) ?_)
   refine W_cons rfl (by decide) (Sv_off rfl rfl rfl (by rw [hg28] <;> rfl) ?_)
   refine W_cons rfl (by decide) (Sv_off rfl rfl rfl (by rw [hg28] <;> rfl) ?_)
   refine W_cons rfl (by decide) (Sv_gt rfl rfl rfl hk25 (Sv_val rfl (R_pick_f rfl rfl hg28 rfl) ?_))
   refine W_cons rfl (by decide) (Sv_val rfl (R_pick_f rfl rfl hk25 rfl) ?_)
   refine W_nil ?_
   refine E_then (C_fr [(3, .slice AR0_6 (fillS a0).length cR0_6), (4, .slice AR0_9 (trimS a0).length cR0_9), (53, .bool false)] rfl ?_)
   refine C_else rfl rfl ?_
   refine C_skip ?_
   refine E_then ?_
   refine C_seq ?_
   refine C_seq ?_
   refine C_region ?_
   refine W_cons rfl (by decide) (Sv_val rfl (R_move rfl rfl) ?_)
   refine W_cons rfl (by decide) (Sv_call rfl rfl rfl ent19 ?_)
   refine (fill_calls (fillS a0) AR0_6 cR0_6 _ _ hS.out0 (hS.ow [] 5 rfl rfl (hS.zq [] 4 rfl rfl)) (hS.cap 5 rfl) (by omega) (by omega)).mono ?_
   rintro e_ w72 ⟨AR0_73, cR0_73, qR0_73, rfl, hS_⟩
   refine ⟨_, rfl, ?_⟩
   have hS := hS.call0 hS_
   have hp74 := hS.cap 1 rfl
   have hlhp74 := hp74.le
   have hmhp74 := hp74.mx
   refine W_cons rfl (by decide) (Sv_val rfl (R_move rfl rfl) ?_)
   refine W_cons rfl (by decide) (Sv_call rfl rfl rfl ent22 ?_)
   refine (same_calls (fillS (fillS a0)) AR0_73 cR0_73 (fillS a0) AR0_6 cR0_6 _ _ hS.out0 (hS.ow [] 1 rfl rfl (hS.zq [] 0 rfl rfl)) (hS.cap 1 rfl) (hS.ow [] 7 rfl rfl (hS.zq [] 6 rfl rfl)) (hS.cap 7 rfl) ).mono ?_
   rintro e_ w75 ⟨rfl, hS_⟩
   refine ⟨_, rfl, ?_⟩
   have hS := hS.call0 hS_
   refine W_cons rfl (by decide) (Sv_val rfl (R_un rfl rfl rfl) ?_)
   refine W_cons rfl (by decide) (Sv_val rfl (R_move rfl rfl) ?_)
   have hk77 : (!(decide ((fillS (fillS a0)) = (fillS a0)))) = false := by first | (simp [fill_fill]; done) | (simp [trim_trim]; done) | (simp [trim_fill]; done) | (simp [turn_turn]; done)
   have hk77p : (decide ((fillS (fillS a0)) = (fillS a0)) = true) := by simpa using hk77
   refine W_cons rfl (by decide) (Sv_gt rfl rfl rfl hk77 (Sv_val rfl (R_move rfl rfl) ?_))
   refine W_cons rfl (by decide) (Sv_gt rfl rfl rfl hk77 (Sv_call rfl rfl rfl ent20 ?_))
   refine (trim_calls (trimS a0) AR0_9 cR0_9 _ _ hS.out0 (hS.ow [] 5 rfl rfl (hS.zq [] 4 rfl rfl)) (hS.cap 5 rfl) (by omega) (by omega)).mono ?_
   rintro e_ w78 ⟨AR0_79, cR0_79, qR0_79, rfl, hS_⟩
   refine ⟨_, rfl, ?_⟩
   have hS := hS.call0 hS_
   have hp80 := hS.cap 1 rfl
   have hlhp80 := hp80.le
   have hmhp80 := hp80.mx
   refine W_cons rfl (by decide) (Sv_gt rfl rfl rfl hk77 (Sv_val rfl (R_move rfl rfl) ?_))
   refine W_cons rfl (by decide) (Sv_gt rfl rfl rfl hk77 (Sv_call rfl rfl rfl ent22 ?_))
   refine (same_calls (trimS (trimS a0)) AR0_79 cR0_79 (trimS a0) AR0_9 cR0_9 _ _ hS.out0 (hS.ow [] 1 rfl rfl (hS.zq [] 0 rfl rfl)) (hS.cap 1 rfl) (hS.ow [] 7 rfl rfl (hS.zq [] 6 rfl rfl)) (hS.cap 7 rfl) ).mono ?_
   rintro e_ w81 ⟨rfl, hS_⟩
   refine ⟨_, rfl, ?_⟩
   have hS := hS.call0 hS_
   refine W_cons rfl (by decide) (Sv_gt rfl rfl rfl hk77 (Sv_val rfl (R_un rfl rfl rfl) ?_))
   refine W_cons rfl (by decide) (Sv_val rfl (R_pick_f rfl rfl hk77 rfl) ?_)
   refine W_cons rfl (by decide) (Sv_val rfl (R_move rfl rfl) ?_)
   have hk83 : (!(decide ((trimS (trimS a0)) = (trimS a0)))) = false := by first | (simp [fill_fill]; done) | (simp [trim_trim]; done) | (simp [trim_fill]; done) | (simp [turn_turn]; done)
   have hk83p : (decide ((trimS (trimS a0)) = (trimS a0)) = true) := by simpa using hk83
   refine W_cons rfl (by decide) (Sv_gt rfl rfl rfl hk83 (Sv_val rfl (R_move rfl rfl) ?_))
   refine W_cons rfl (by decide) (Sv_gt rfl rfl rfl hk83 (Sv_call rfl rfl rfl ent20 ?_))
   refine (trim_calls (fillS a0) AR0_6 cR0_6 _ _ hS.out0 (hS.ow [] 9 rfl rfl (hS.zq [] 8 rfl rfl)) (hS.cap 9 rfl) (by omega) (by omega)).mono ?_
   rintro e_ w84 ⟨AR0_85, cR0_85, qR0_85, rfl, hS_⟩
   refine ⟨_, rfl, ?_⟩
   have hS := hS.call0 hS_
   have hp86 := hS.cap 1 rfl
   have hlhp86 := hp86.le
   have hmhp86 := hp86.mx
   refine W_cons rfl (by decide) (Sv_gt rfl rfl rfl hk83 (Sv_val rfl (R_move rfl rfl) ?_))
   refine W_cons rfl (by decide) (Sv_gt rfl rfl rfl hk83 (Sv_call rfl rfl rfl ent22 ?_))
   refine (same_calls (trimS (fillS a0)) AR0_85 cR0_85 (trimS a0) AR0_9 cR0_9 _ _ hS.out0 (hS.ow [] 1 rfl rfl (hS.zq [] 0 rfl rfl)) (hS.cap 1 rfl) (hS.ow [] 9 rfl rfl (hS.zq [] 8 rfl rfl)) (hS.cap 9 rfl) ).mono ?_
   rintro e_ w87 ⟨rfl, hS_⟩
   refine ⟨_, rfl, ?_⟩
   have hS := hS.call0 hS_
   refine W_cons rfl (by decide) (Sv_gt rfl rfl rfl hk83 (Sv_val rfl (R_un rfl rfl rfl) ?_))
   refine W_cons rfl (by decide) (Sv_val rfl (R_pick_f rfl rfl hk83 rfl) ?_)
   refine W_nil ?_
   refine E_then (C_fr [(4, .slice AR0_9 (trimS a0).length cR0_9), (72, .bool (!(decide ((trimS (fillS a0)) = (trimS a0)))))] rfl ?_)
   have hk89 : (!(decide ((trimS (fillS a0)) = (trimS a0)))) = false := by first | (simp [fill_fill]; done) | (simp [trim_trim]; done) | (simp [trim_fill]; done) | (simp [turn_turn]; done)
   have hk89p : (decide ((trimS (fillS a0)) = (trimS a0)) = true) := by simpa using hk89
   refine C_else rfl hk89 ?_
   refine C_skip ?_
   refine E_then ?_
   refine C_seq ?_
   refine C_fr [(4, .slice AR0_9 (trimS a0).length cR0_9)] rfl ?_
   obtain ⟨q92, csq92, hAq92, ⟨Aq92, cq92, rfl, hcq92, hrq92⟩, hkq92⟩ := (hS.rw 9 rfl).el [] (i := 0) (by omega) (by omega)
   have hkq92 : ∀ (j_ : Nat) (u_ : Value), ([.slice Aq92 ((trimS a0).getD 0 []).length cq92] : List Value)[j_]? = some u_ → World.cell? w87 (q92.add (0 * 1 + j_)) = some u_ := hkq92
   have hrq92 : Rd kstr qR0_9 Aq92 (((trimS a0).getD 0 [])) := hrq92
   have hcq92 : Cap Aq92 (((trimS a0).getD 0 [])).length cq92 := hcq92
   have hlq92 := hcq92.le
   have hmq92 := hcq92.mx
   refine C_drawn 10 [[], [0], [1], [], [3], [4], [5], [6], [2, 0, 1, 2], [7, 8, 0, 1, 2, 3, 4, 5, 6, 7, 8]] [73, 74, 75, 76, 77, 78, 79, 80, 6, 7] [4] rfl (by kernel_rfl) (by decide +kernel) [fun v_ _ => v_ = .slice AR0_9 (trimS a0).length cR0_9, fun v_ _ => v_ = .int .i64 ((trimS a0).length : Int), fun v_ _ => v_ = .bool (((trimS a0).length : Int) == 1), fun v_ _ => v_ = .slice AR0_9 (trimS a0).length cR0_9, fun v_ _ => v_ = .pointer (some (q92.add (0 * 1))), fun v_ _ => v_ = .slice Aq92 ((trimS a0).getD 0 []).length cq92, fun v_ _ => v_ = .int .i64 (((trimS a0).getD 0 []).length : Int), fun v_ _ => v_ = .bool ((((trimS a0).getD 0 []).length : Int) == 1), fun v_ _ => v_ = .bool (((trimS a0).length : Int) == 1), fun v_ _ => v_ = .bool ((((trimS a0).getD 0 []).length : Int) == 1)] ⟨fun _ _ _ h _ => h, ⟨fun _ _ _ h _ => h, ⟨fun _ _ _ h _ => h, ⟨fun _ _ _ h _ => h, ⟨fun _ _ _ h _ => h, ⟨fun _ _ _ h _ => h, ⟨fun _ _ _ h _ => h, ⟨fun _ _ _ h _ => h, ⟨fun _ _ _ h _ => h, ⟨fun _ _ _ h _ => h, trivial⟩⟩⟩⟩⟩⟩⟩⟩⟩⟩ ⟨fun w90 hc91 => by have hS := hS.chg0 hc91; exact Sv_val rfl (R_move rfl rfl) ⟨Chg.refl _ _, rfl⟩, ⟨fun w90 hc91 => by have hS := hS.chg0 hc91; rintro _ rfl; exact Sv_val rfl (R_len rfl rfl Try.underlying22) ⟨Chg.refl _ _, rfl⟩, ⟨fun w90 hc91 => by have hS := hS.chg0 hc91; rintro _ rfl; exact Sv_val rfl (R_bin rfl rfl rfl rfl rfl) ⟨Chg.refl _ _, rfl⟩, ⟨fun w90 hc91 => by have hS := hS.chg0 hc91; exact Sv_val rfl (R_move rfl rfl) ⟨Chg.refl _ _, rfl⟩, ⟨fun w90 hc91 => by have hS := hS.chg0 hc91; rintro _ rfl; exact Sv_val rfl (R_idx rfl rfl hAq92 rfl Try.underlying22 size31 (by omega) (by omega)) ⟨Chg.refl _ _, rfl⟩, ⟨fun w90 hc91 => by have hS := hS.chg0 hc91; rintro _ rfl; exact Sv_val rfl (R_load1 rfl rfl agg31 (cell_chg0 (hkq92 0 _ rfl) hc91)) ⟨Chg.refl _ _, rfl⟩, ⟨fun w90 hc91 => by have hS := hS.chg0 hc91; rintro _ rfl; exact Sv_val rfl (R_len rfl rfl Try.underlying31) ⟨Chg.refl _ _, rfl⟩, ⟨fun w90 hc91 => by have hS := hS.chg0 hc91; rintro _ rfl; exact Sv_val rfl (R_bin rfl rfl rfl rfl rfl) ⟨Chg.refl _ _, rfl⟩, ⟨fun w90 hc91 => by have hS := hS.chg0 hc91; rintro _ rfl _ rfl _ rfl _ rfl; exact Sv_val rfl (R_assign rfl rfl) ⟨Chg.refl _ _, rfl⟩, ⟨fun w90 hc91 => by have hS := hS.chg0 hc91; rintro _ rfl _ rfl _ rfl _ rfl _ rfl _ rfl _ rfl _ rfl _ rfl _ rfl _ rfl; exact Sv_val rfl (R_assign rfl rfl) ⟨Chg.refl _ _, rfl⟩, trivial⟩⟩⟩⟩⟩⟩⟩⟩⟩⟩ ?_
   intro w90 hc91
   have hS := hS.chg0 hc91
   rintro _ rfl _ rfl _ rfl _ rfl _ rfl _ rfl _ rfl _ rfl _ rfl _ rfl
   refine An_fr [(4, .slice AR0_9 (trimS a0).length cR0_9), (6, .bool (((trimS a0).length : Int) == 1)), (7, .bool ((((trimS a0).getD 0 []).length : Int) == 1))] rfl ?_
   refine An_done (by decide +kernel) ?_
   refine E_then ?_
   refine C_seq ?_
   refine C_seq ?_
   refine C_region ?_
   refine W_cons rfl (by decide) (Sv_val rfl (R_assign rfl rfl) ?_)
   refine W_nil ?_
   refine E_then ?_
   refine C_block ?_
   refine C_fr [(4, .slice AR0_9 (trimS a0).length cR0_9), (6, .bool (((trimS a0).length : Int) == 1)), (7, .bool ((((trimS a0).getD 0 []).length : Int) == 1)), (8, .int .i64 0)] rfl ?_
   refine C_loop (fun m_ f_ w_ => ∃ (i : Nat) (b6 : Bool) (b7 : Bool), f_ = [(4, .slice AR0_9 (trimS a0).length cR0_9), (6, .bool b6), (7, .bool b7), (8, .int .i64 (i : Int))] ∧ i ≤ (trimS a0).length ∧ ((trimS a0).length = 1 → b6 = true) ∧ (i = (trimS a0).length → (∃ c, c < ((trimS a0).getD ((trimS a0).length - 1) []).length ∧ ¬ ((trimS a0).getD ((trimS a0).length - 1) []).getD c [] = []) → b6 = true) ∧ (((trimS a0).getD 0 []).length = 1 → b7 = true) ∧ ((∃ r, r < i ∧ ¬ ((trimS a0).getD r []).getD (((trimS a0).getD r []).length - 1) [] = []) → b7 = true) ∧ m_ = (trimS a0).length - i ∧ Sp (FF []) w z w_ [zR qR0_9, oR (kslice kstr) 31 qR0_9 AR0_9 cR0_9 (trimS a0)]) ((trimS a0).length - (0 : Nat)) ⟨(0 : Nat), ((((trimS a0).length : Int) == 1) : Bool), (((((trimS a0).getD 0 []).length : Int) == 1) : Bool), rfl, (by omega), (by intro h_; simp [h_]), (by intro h_; omega), (by intro h_; rw [beq_iff_eq]; omega), (by rintro ⟨r, h_, _⟩; omega), rfl, hS.fin [8, 9] (by decide) rfl⟩ ?_
   rintro m_ f_ w93 ⟨i, b6, b7, rfl, hI0_0, hI0_1, hI0_2, hI0_3, hI0_4, rfl, hS⟩
   refine C_seq ?_
   refine C_seq ?_
   refine C_region ?_
   refine W_cons rfl (by decide) (Sv_val rfl (R_move rfl rfl) ?_)
   refine W_cons rfl (by decide) (Sv_val rfl (R_move rfl rfl) ?_)
   refine W_cons rfl (by decide) (Sv_val rfl (R_len rfl rfl Try.underlying22) ?_)
   refine W_cons rfl (by decide) (Sv_val rfl (R_bin rfl rfl rfl rfl rfl) ?_)
   refine W_nil ?_
   refine E_then ?_
   refine C_ite rfl (fun hC4 => ?_) (fun hC4 => ?_)
   ·have _hC4 := trivial
    have hC4p : (i : Int) < ((trimS a0).length : Int) := by simpa using hC4
    refine C_skip ?_
    refine E_then ?_
    refine C_seq ?_
    refine C_block ?_
    refine C_seq ?_
    have hz8 := hz6 i (by omega)
    refine C_region ?_
    refine W_cons rfl (by decide) (Sv_val rfl (R_move rfl rfl) ?_)
    refine W_cons rfl (by decide) (Sv_val rfl (R_move rfl rfl) ?_)
    obtain ⟨q94, csq94, hAq94, ⟨Aq94, cq94, rfl, hcq94, hrq94⟩, hkq94⟩ := (hS.rw 1 rfl).el [] (i := (i : Int)) (by omega) (by omega)
    have hkq94 : ∀ (j_ : Nat) (u_ : Value), ([.slice Aq94 ((trimS a0).getD i []).length cq94] : List Value)[j_]? = some u_ → World.cell? w93 (q94.add (i * 1 + j_)) = some u_ := hkq94
    have hrq94 : Rd kstr qR0_9 Aq94 (((trimS a0).getD i [])) := hrq94
    have hcq94 : Cap Aq94 (((trimS a0).getD i [])).length cq94 := hcq94
    have hlq94 := hcq94.le
    have hmq94 := hcq94.mx
    refine W_cons rfl (by decide) (Sv_val rfl (R_idx rfl rfl hAq94 rfl Try.underlying22 size31 (by omega) (by omega)) ?_)
    refine W_cons rfl (by decide) (Sv_val rfl (R_load1 rfl rfl agg31 (hkq94 0 _ rfl)) ?_)
    refine W_cons rfl (by decide) (Sv_val rfl (R_len rfl rfl Try.underlying31) ?_)
    refine W_cons rfl (by decide) (Sv_val rfl (R_sub64 rfl rfl rfl (by omega) (by omega)) ?_)
    refine W_cons rfl (by decide) (Sv_val rfl (R_assign rfl rfl) ?_)
    refine W_nil ?_
    refine E_then (C_fr [(4, .slice AR0_9 (trimS a0).length cR0_9), (6, .bool b6), (7, .bool b7), (8, .int .i64 (i : Int)), (9, .int .i64 ((((trimS a0).getD i []).length : Int) - 1))] rfl ?_)
    refine C_seq ?_
    refine C_region ?_
    refine W_cons rfl (by decide) (Sv_val rfl (R_move rfl rfl) ?_)
    refine W_cons rfl (by decide) (Sv_val rfl (R_move rfl rfl) ?_)
    refine W_split (t := 94) rfl (fun hg95 => ?_) (fun hg95 => ?_)
    ·have _hg95 := trivial
     refine W_cons rfl (by decide) (Sv_off rfl rfl rfl (by rw [hg95] <;> rfl) ?_)
     refine W_cons rfl (by decide) (Sv_off rfl rfl rfl (by rw [hg95] <;> rfl) ?_)
     refine W_cons rfl (by decide) (Sv_off rfl rfl rfl (by rw [hg95] <;> rfl) ?_)
     refine W_cons rfl (by decide) (Sv_off rfl rfl rfl (by rw [hg95] <;> rfl) ?_)
     refine W_cons rfl (by decide) (Sv_off rfl rfl rfl (by rw [hg95] <;> rfl) ?_)
     refine W_cons rfl (by decide) (Sv_off rfl rfl rfl (by rw [hg95] <;> rfl) ?_)
     refine W_cons rfl (by decide) (Sv_off rfl rfl rfl (by rw [hg95] <;> rfl) ?_)
     refine W_cons rfl (by decide) (Sv_off rfl rfl rfl (by rw [hg95] <;> rfl) ?_)
     refine W_cons rfl (by decide) (Sv_val rfl (R_pick_t rfl rfl hg95 rfl) ?_)
     refine W_cons rfl (by decide) (Sv_val rfl (R_assign rfl rfl) ?_)
     refine W_nil ?_
     refine E_then ?_
     refine C_seq ?_
     refine C_region ?_
     refine W_cons rfl (by decide) (Sv_val rfl (R_assign rfl rfl) ?_)
     refine W_nil ?_
     refine E_then ?_
     refine C_block ?_
     refine C_fr [(4, .slice AR0_9 (trimS a0).length cR0_9), (6, .bool b6), (7, .bool true), (8, .int .i64 (i : Int)), (10, .int .i64 0), (95, undef), (96, undef), (97, undef), (98, undef), (99, undef), (100, undef), (101, undef), (102, undef)] rfl ?_
     refine C_loop (fun m_ f_ w_ => ∃ (k : Nat) (d6 : Bool), f_ = [(4, .slice AR0_9 (trimS a0).length cR0_9), (6, .bool d6), (7, .bool true), (8, .int .i64 (i : Int)), (10, .int .i64 (k : Int)), (95, undef), (96, undef), (97, undef), (98, undef), (99, undef), (100, undef), (101, undef), (102, undef)] ∧ k ≤ ((trimS a0).getD i []).length ∧ ((trimS a0).length = 1 → d6 = true) ∧ (i + 1 = (trimS a0).length → (∃ c, c < k ∧ ¬ ((trimS a0).getD i []).getD c [] = []) → d6 = true) ∧ m_ = ((trimS a0).getD i []).length - k ∧ Sp (FF []) w z w_ [zR qR0_9, oR (kslice kstr) 31 qR0_9 AR0_9 cR0_9 (trimS a0)]) (((trimS a0).getD i []).length - (0 : Nat)) ⟨(0 : Nat), (b6 : Bool), rfl, (by omega), (by assumption), (by rintro _ ⟨c, h_, _⟩; omega), rfl, hS.fin [0, 1] (by decide) rfl⟩ ?_
     rintro m_ f_ w96 ⟨k, d6, rfl, hI1_0, hI1_1, hI1_2, rfl, hS⟩
     refine C_seq ?_
     refine C_seq ?_
     refine C_region ?_
     refine W_cons rfl (by decide) (Sv_val rfl (R_move rfl rfl) ?_)
     refine W_cons rfl (by decide) (Sv_val rfl (R_move rfl rfl) ?_)
     refine W_cons rfl (by decide) (Sv_val rfl (R_move rfl rfl) ?_)
     obtain ⟨q97, csq97, hAq97, ⟨Aq97, cq97, rfl, hcq97, hrq97⟩, hkq97⟩ := (hS.rw 1 rfl).el [] (i := (i : Int)) (by omega) (by omega)
     have hkq97 : ∀ (j_ : Nat) (u_ : Value), ([.slice Aq97 ((trimS a0).getD i []).length cq97] : List Value)[j_]? = some u_ → World.cell? w96 (q97.add (i * 1 + j_)) = some u_ := hkq97
     have hrq97 : Rd kstr qR0_9 Aq97 (((trimS a0).getD i [])) := hrq97
     have hcq97 : Cap Aq97 (((trimS a0).getD i [])).length cq97 := hcq97
     have hlq97 := hcq97.le
     have hmq97 := hcq97.mx
     refine W_cons rfl (by decide) (Sv_val rfl (R_idx rfl rfl hAq97 rfl Try.underlying22 size31 (by omega) (by omega)) ?_)
     refine W_cons rfl (by decide) (Sv_val rfl (R_load1 rfl rfl agg31 (hkq97 0 _ rfl)) ?_)
     refine W_cons rfl (by decide) (Sv_val rfl (R_len rfl rfl Try.underlying31) ?_)
     refine W_cons rfl (by decide) (Sv_val rfl (R_bin rfl rfl rfl rfl rfl) ?_)
     refine W_nil ?_
     refine E_then (C_fr [(4, .slice AR0_9 (trimS a0).length cR0_9), (6, .bool d6), (7, .bool true), (8, .int .i64 (i : Int)), (10, .int .i64 (k : Int)), (95, undef), (96, undef), (97, undef), (98, undef), (99, undef), (100, undef), (101, undef), (102, undef), (110, .bool (decide ((k : Int) < (((trimS a0).getD i []).length : Int))))] rfl ?_)
     refine C_ite rfl (fun hC5 => ?_) (fun hC5 => ?_)
     ·have _hC5 := trivial
      have hC5p : (k : Int) < (((trimS a0).getD i []).length : Int) := by simpa using hC5
      refine C_skip ?_
      refine E_then ?_
      refine C_seq ?_
      refine C_block ?_
      refine C_region ?_
      refine W_cons rfl (by decide) (Sv_val rfl (R_move rfl rfl) ?_)
      refine W_cons rfl (by decide) (Sv_val rfl (R_move rfl rfl) ?_)
      refine W_split (t := 114) rfl (fun hg98 => ?_) (fun hg98 => ?_)
      ·have _hg98 := trivial
       refine W_cons rfl (by decide) (Sv_off rfl rfl rfl (by rw [hg98] <;> rfl) ?_)
       refine W_cons rfl (by decide) (Sv_off rfl rfl rfl (by rw [hg98] <;> rfl) ?_)
       refine W_cons rfl (by decide) (Sv_off rfl rfl rfl (by rw [hg98] <;> rfl) ?_)
       refine W_cons rfl (by decide) (Sv_off rfl rfl rfl (by rw [hg98] <;> rfl) ?_)
       refine W_cons rfl (by decide) (Sv_off rfl rfl rfl (by rw [hg98] <;> rfl) ?_)
       refine W_cons rfl (by decide) (Sv_off rfl rfl rfl (by rw [hg98] <;> rfl) ?_)
       refine W_cons rfl (by decide) (Sv_offu rfl rfl rfl ?_)
       refine W_cons rfl (by decide) (Sv_offu rfl rfl rfl ?_)
       refine W_cons rfl (by decide) (Sv_offu rfl rfl rfl ?_)
       refine W_cons rfl (by decide) (Sv_offu rfl rfl rfl ?_)
       refine W_cons rfl (by decide) (Sv_offu rfl rfl rfl ?_)
       refine W_cons rfl (by decide) (Sv_offu rfl rfl rfl ?_)
       refine W_cons rfl (by decide) (Sv_offu rfl rfl rfl ?_)
       refine W_cons rfl (by decide) (Sv_offu rfl rfl rfl ?_)
       refine W_cons rfl (by decide) (Sv_off rfl rfl rfl (by rw [hg98] <;> rfl) ?_)
       refine W_cons rfl (by decide) (Sv_val rfl (R_pick_t rfl rfl hg98 rfl) ?_)
       refine W_cons rfl (by decide) (Sv_val rfl (R_assign rfl rfl) ?_)
       refine W_nil ?_
       refine E_block_normal ?_
       refine E_then ?_
       refine C_region ?_
       refine W_cons rfl (by decide) (Sv_val rfl (R_move rfl rfl) ?_)
       refine W_cons rfl (by decide) (Sv_val rfl (R_add64 rfl rfl rfl (by omega) (by omega)) ?_)
       refine W_cons rfl (by decide) (Sv_val rfl (R_assign rfl rfl) ?_)
       refine W_nil ?_
       refine E_round [4, 6, 7, 8, 10, 95, 96, 97, 98, 99, 100, 101, 102] ?_ ⟨(k + 1 : Nat), (true : Bool), rfl, (by omega), (by exact fun _ => rfl), (by exact fun _ _ => rfl), rfl, hS.fin [0, 1] (by decide) rfl⟩
       omega
      ·have _hg98 := trivial
       refine W_cons rfl (by decide) (Sv_gt rfl rfl rfl hg98 (Sv_val rfl (R_move rfl rfl) ?_))
       refine W_cons rfl (by decide) (Sv_gt rfl rfl rfl hg98 (Sv_val rfl (R_move rfl rfl) ?_))
       refine W_cons rfl (by decide) (Sv_gt rfl rfl rfl hg98 (Sv_val rfl (R_len rfl rfl Try.underlying22) ?_))
       refine W_cons rfl (by decide) (Sv_gt rfl rfl rfl hg98 (Sv_val rfl (R_sub64 rfl rfl rfl (by omega) (by omega)) ?_))
       refine W_cons rfl (by decide) (Sv_gt rfl rfl rfl hg98 (Sv_val rfl (R_bin rfl rfl rfl rfl rfl) ?_))
       refine W_cons rfl (by decide) (Sv_gt rfl rfl rfl hg98 (Sv_val rfl (R_move rfl rfl) ?_))
       refine W_split (t := 120) rfl (fun hg99 => ?_) (fun hg99 => ?_)
       ·have _hg99 := trivial
        have hg99p : (i : Int) = (((trimS a0).length : Int) - 1) := by simpa using hg99
        refine W_cons rfl (by decide) (Sv_gt rfl rfl rfl hg99 (Sv_val rfl (R_move rfl rfl) ?_))
        refine W_cons rfl (by decide) (Sv_gt rfl rfl rfl hg99 (Sv_val rfl (R_move rfl rfl) ?_))
        obtain ⟨q100, csq100, hAq100, ⟨Aq100, cq100, rfl, hcq100, hrq100⟩, hkq100⟩ := (hS.rw 1 rfl).el [] (i := (i : Int)) (by omega) (by omega)
        have hkq100 : ∀ (j_ : Nat) (u_ : Value), ([.slice Aq100 ((trimS a0).getD i []).length cq100] : List Value)[j_]? = some u_ → World.cell? w96 (q100.add (i * 1 + j_)) = some u_ := hkq100
        have hrq100 : Rd kstr qR0_9 Aq100 (((trimS a0).getD i [])) := hrq100
        have hcq100 : Cap Aq100 (((trimS a0).getD i [])).length cq100 := hcq100
        have hlq100 := hcq100.le
        have hmq100 := hcq100.mx
        refine W_cons rfl (by decide) (Sv_gt rfl rfl rfl hg99 (Sv_val rfl (R_idx rfl rfl hAq100 rfl Try.underlying22 size31 (by omega) (by omega)) ?_))
        refine W_cons rfl (by decide) (Sv_gt rfl rfl rfl hg99 (Sv_val rfl (R_load1 rfl rfl agg31 (hkq100 0 _ rfl)) ?_))
        refine W_cons rfl (by decide) (Sv_gt rfl rfl rfl hg99 (Sv_val rfl (R_move rfl rfl) ?_))
        obtain ⟨q101, csq101, hAq101, rfl, hkq101⟩ := hrq100.at_ ([] : St) (i := (k : Int)) (by omega) (by omega)
        have hkq101 : ∀ (j_ : Nat) (u_ : Value), ([vstr (((trimS a0).getD i []).getD k ([] : St))] : List Value)[j_]? = some u_ → cz qR0_9 (q101.add (k * 1 + j_)) = some u_ := hkq101
        refine W_cons rfl (by decide) (Sv_gt rfl rfl rfl hg99 (Sv_val rfl (R_idx rfl rfl hAq101 rfl Try.underlying31 size9 (by omega) (by omega)) ?_))
        refine W_cons rfl (by decide) (Sv_gt rfl rfl rfl hg99 (Sv_val rfl (R_load1 rfl rfl agg9 ((hS.zs 0 rfl).cell (hkq101 0 _ rfl))) ?_))
        refine W_cons rfl (by decide) (Sv_gt rfl rfl rfl hg99 (Sv_val rfl (R_strneq rfl rfl rfl) ?_))
        refine W_cons rfl (by decide) (Sv_gt rfl rfl rfl hg98 (Sv_val rfl (R_pick_t rfl rfl hg99 rfl) ?_))
        refine W_cons rfl (by decide) (Sv_val rfl (R_pick_f rfl rfl hg98 rfl) ?_)
        refine W_cons rfl (by decide) (Sv_val rfl (R_assign rfl rfl) ?_)
        refine W_nil ?_
        refine E_block_normal ?_
        refine E_then ?_
        refine C_region ?_
        refine W_cons rfl (by decide) (Sv_val rfl (R_move rfl rfl) ?_)
        refine W_cons rfl (by decide) (Sv_val rfl (R_add64 rfl rfl rfl (by omega) (by omega)) ?_)
        refine W_cons rfl (by decide) (Sv_val rfl (R_assign rfl rfl) ?_)
        refine W_nil ?_
        refine E_round [4, 6, 7, 8, 10, 95, 96, 97, 98, 99, 100, 101, 102] ?_ ⟨(k + 1 : Nat), (!decide ((((trimS a0).getD i []).getD k ([] : St)) = []) : Bool), rfl, (by omega), (by intro h_; have := hI1_1 h_; simp_all), (by rintro h_ ⟨c, hc, hc2⟩; exact (if hk : c = k then (by subst hk; simp only [Bool.not_eq_true', decide_eq_false_iff_not]; exact hc2) else (by have := hI1_2 h_ ⟨c, by omega, hc2⟩; simp_all))), rfl, hS.fin [0, 1] (by decide) rfl⟩
        omega
       ·have _hg99 := trivial
        have hg99p : ¬ ((i : Int) = (((trimS a0).length : Int) - 1)) := by simpa using hg99
        refine W_cons rfl (by decide) (Sv_off rfl rfl rfl (by rw [hg99] <;> rfl) ?_)
        refine W_cons rfl (by decide) (Sv_off rfl rfl rfl (by rw [hg99] <;> rfl) ?_)
        refine W_cons rfl (by decide) (Sv_off rfl rfl rfl (by rw [hg99] <;> rfl) ?_)
        refine W_cons rfl (by decide) (Sv_off rfl rfl rfl (by rw [hg99] <;> rfl) ?_)
        refine W_cons rfl (by decide) (Sv_off rfl rfl rfl (by rw [hg99] <;> rfl) ?_)
        refine W_cons rfl (by decide) (Sv_off rfl rfl rfl (by rw [hg99] <;> rfl) ?_)
        refine W_cons rfl (by decide) (Sv_off rfl rfl rfl (by rw [hg99] <;> rfl) ?_)
        refine W_cons rfl (by decide) (Sv_off rfl rfl rfl (by rw [hg99] <;> rfl) ?_)
        refine W_cons rfl (by decide) (Sv_gt rfl rfl rfl hg98 (Sv_val rfl (R_pick_f rfl rfl hg99 rfl) ?_))
        refine W_cons rfl (by decide) (Sv_val rfl (R_pick_f rfl rfl hg98 rfl) ?_)
        refine W_cons rfl (by decide) (Sv_val rfl (R_assign rfl rfl) ?_)
        refine W_nil ?_
        refine E_block_normal ?_
        refine E_then ?_
        refine C_region ?_
        refine W_cons rfl (by decide) (Sv_val rfl (R_move rfl rfl) ?_)
        refine W_cons rfl (by decide) (Sv_val rfl (R_add64 rfl rfl rfl (by omega) (by omega)) ?_)
        refine W_cons rfl (by decide) (Sv_val rfl (R_assign rfl rfl) ?_)
        refine W_nil ?_
        refine E_round [4, 6, 7, 8, 10, 95, 96, 97, 98, 99, 100, 101, 102] ?_ ⟨(k + 1 : Nat), (false : Bool), rfl, (by omega), (by intro h_; have := hI1_1 h_; simp_all), (by intro h_; exfalso; omega), rfl, hS.fin [0, 1] (by decide) rfl⟩
        omega
     ·have _hC5 := trivial
      have hC5p : ¬ ((k : Int) < (((trimS a0).getD i []).length : Int)) := by simpa using hC5
      refine C_exit ?_
      refine E_then_exit ?_
      refine E_then_exit ?_
      refine E_block_hit ?_
      refine E_block_normal ?_
      refine E_then ?_
      refine C_region ?_
      refine W_cons rfl (by decide) (Sv_val rfl (R_move rfl rfl) ?_)
      refine W_cons rfl (by decide) (Sv_val rfl (R_add64 rfl rfl rfl (by omega) (by omega)) ?_)
      refine W_cons rfl (by decide) (Sv_val rfl (R_assign rfl rfl) ?_)
      refine W_nil ?_
      refine E_round [4, 6, 7, 8] ?_ ⟨(i + 1 : Nat), (d6 : Bool), (true : Bool), rfl, (by omega), (by exact hI1_1), (by intro h_ h2_; refine hI1_2 h_ ?_; rw [show (trimS a0).length - 1 = i from by omega] at h2_; obtain ⟨c, hc, hc2⟩ := h2_; exact ⟨c, by omega, hc2⟩), (by exact fun _ => rfl), (by exact fun _ => rfl), rfl, hS.fin [0, 1] (by decide) rfl⟩
      omega
    ·have _hg95 := trivial
     refine W_cons rfl (by decide) (Sv_gt rfl rfl rfl hg95 (Sv_val rfl (R_move rfl rfl) ?_))
     refine W_cons rfl (by decide) (Sv_gt rfl rfl rfl hg95 (Sv_val rfl (R_move rfl rfl) ?_))
     obtain ⟨q102, csq102, hAq102, ⟨Aq102, cq102, rfl, hcq102, hrq102⟩, hkq102⟩ := (hS.rw 1 rfl).el [] (i := (i : Int)) (by omega) (by omega)
     have hkq102 : ∀ (j_ : Nat) (u_ : Value), ([.slice Aq102 ((trimS a0).getD i []).length cq102] : List Value)[j_]? = some u_ → World.cell? w93 (q102.add (i * 1 + j_)) = some u_ := hkq102
     have hrq102 : Rd kstr qR0_9 Aq102 (((trimS a0).getD i [])) := hrq102
     have hcq102 : Cap Aq102 (((trimS a0).getD i [])).length cq102 := hcq102
     have hlq102 := hcq102.le
     have hmq102 := hcq102.mx
     refine W_cons rfl (by decide) (Sv_gt rfl rfl rfl hg95 (Sv_val rfl (R_idx rfl rfl hAq102 rfl Try.underlying22 size31 (by omega) (by omega)) ?_))
     refine W_cons rfl (by decide) (Sv_gt rfl rfl rfl hg95 (Sv_val rfl (R_load1 rfl rfl agg31 (hkq102 0 _ rfl)) ?_))
     refine W_cons rfl (by decide) (Sv_gt rfl rfl rfl hg95 (Sv_val rfl (R_move rfl rfl) ?_))
     obtain ⟨q103, csq103, hAq103, rfl, hkq103⟩ := hrq102.at_ ([] : St) (i := ((((trimS a0).getD i []).length : Int) - 1)) (by omega) (by omega)
     refine W_cons rfl (by decide) (Sv_gt rfl rfl rfl hg95 (Sv_val rfl (R_idx rfl rfl hAq103 rfl Try.underlying31 size9 (by omega) (by omega)) ?_))
     refine W_cons rfl (by decide) (Sv_gt rfl rfl rfl hg95 (Sv_val rfl (R_load1 rfl rfl agg9 ((hS.zs 0 rfl).cell (hkq103 0 _ rfl))) ?_))
     refine W_cons rfl (by decide) (Sv_gt rfl rfl rfl hg95 (Sv_val rfl (R_strneq rfl rfl rfl) ?_))
     refine W_cons rfl (by decide) (Sv_val rfl (R_pick_f rfl rfl hg95 rfl) ?_)
     refine W_cons rfl (by decide) (Sv_val rfl (R_assign rfl rfl) ?_)
     refine W_nil ?_
     refine E_then ?_
     refine C_seq ?_
     refine C_region ?_
     refine W_cons rfl (by decide) (Sv_val rfl (R_assign rfl rfl) ?_)
     refine W_nil ?_
     refine E_then ?_
     refine C_block ?_
     refine C_fr [(4, .slice AR0_9 (trimS a0).length cR0_9), (6, .bool b6), (7, .bool (!decide ((((trimS a0).getD i []).getD ((((trimS a0).getD i []).length : Int) - 1).toNat ([] : St)) = []))), (8, .int .i64 (i : Int)), (10, .int .i64 0), (95, .slice AR0_9 (trimS a0).length cR0_9), (96, .int .i64 (i : Int)), (97, .pointer (some (q102.add (i * 1)))), (98, .slice Aq102 ((trimS a0).getD i []).length cq102), (99, .int .i64 ((((trimS a0).getD i []).length : Int) - 1)), (100, .pointer (some (q103.add (((((trimS a0).getD i []).length : Int) - 1).toNat * 1)))), (101, vstr (((trimS a0).getD i []).getD ((((trimS a0).getD i []).length : Int) - 1).toNat ([] : St))), (102, .bool (!decide ((((trimS a0).getD i []).getD ((((trimS a0).getD i []).length : Int) - 1).toNat ([] : St)) = [])))] rfl ?_
     refine C_loop (fun m_ f_ w_ => ∃ (k : Nat) (d6 : Bool), f_ = [(4, .slice AR0_9 (trimS a0).length cR0_9), (6, .bool d6), (7, .bool (!decide ((((trimS a0).getD i []).getD ((((trimS a0).getD i []).length : Int) - 1).toNat ([] : St)) = []))), (8, .int .i64 (i : Int)), (10, .int .i64 (k : Int)), (95, .slice AR0_9 (trimS a0).length cR0_9), (96, .int .i64 (i : Int)), (97, .pointer (some (q102.add (i * 1)))), (98, .slice Aq102 ((trimS a0).getD i []).length cq102), (99, .int .i64 ((((trimS a0).getD i []).length : Int) - 1)), (100, .pointer (some (q103.add (((((trimS a0).getD i []).length : Int) - 1).toNat * 1)))), (101, vstr (((trimS a0).getD i []).getD ((((trimS a0).getD i []).length : Int) - 1).toNat ([] : St))), (102, .bool (!decide ((((trimS a0).getD i []).getD ((((trimS a0).getD i []).length : Int) - 1).toNat ([] : St)) = [])))] ∧ k ≤ ((trimS a0).getD i []).length ∧ ((trimS a0).length = 1 → d6 = true) ∧ (i + 1 = (trimS a0).length → (∃ c, c < k ∧ ¬ ((trimS a0).getD i []).getD c [] = []) → d6 = true) ∧ m_ = ((trimS a0).getD i []).length - k ∧ Sp (FF []) w z w_ [zR qR0_9, oR (kslice kstr) 31 qR0_9 AR0_9 cR0_9 (trimS a0)]) (((trimS a0).getD i []).length - (0 : Nat)) ⟨(0 : Nat), (b6 : Bool), rfl, (by omega), (by assumption), (by rintro _ ⟨c, h_, _⟩; omega), rfl, hS.fin [0, 1] (by decide) rfl⟩ ?_
     rintro m_ f_ w104 ⟨k, d6, rfl, hI1_0, hI1_1, hI1_2, rfl, hS⟩
     refine C_seq ?_
     refine C_seq ?_
     refine C_region ?_
     refine W_cons rfl (by decide) (Sv_val rfl (R_move rfl rfl) ?_)
     refine W_cons rfl (by decide) (Sv_val rfl (R_move rfl rfl) ?_)
     refine W_cons rfl (by decide) (Sv_val rfl (R_move rfl rfl) ?_)
     obtain ⟨q105, csq105, hAq105, ⟨Aq105, cq105, rfl, hcq105, hrq105⟩, hkq105⟩ := (hS.rw 1 rfl).el [] (i := (i : Int)) (by omega) (by omega)
     have hkq105 : ∀ (j_ : Nat) (u_ : Value), ([.slice Aq105 ((trimS a0).getD i []).length cq105] : List Value)[j_]? = some u_ → World.cell? w104 (q105.add (i * 1 + j_)) = some u_ := hkq105
     have hrq105 : Rd kstr qR0_9 Aq105 (((trimS a0).getD i [])) := hrq105
     have hcq105 : Cap Aq105 (((trimS a0).getD i [])).length cq105 := hcq105
     have hlq105 := hcq105.le
     have hmq105 := hcq105.mx
     refine W_cons rfl (by decide) (Sv_val rfl (R_idx rfl rfl hAq105 rfl Try.underlying22 size31 (by omega) (by omega)) ?_)
     refine W_cons rfl (by decide) (Sv_val rfl (R_load1 rfl rfl agg31 (hkq105 0 _ rfl)) ?_)
     refine W_cons rfl (by decide) (Sv_val rfl (R_len rfl rfl Try.underlying31) ?_)
     refine W_cons rfl (by decide) (Sv_val rfl (R_bin rfl rfl rfl rfl rfl) ?_)
     refine W_nil ?_
     refine E_then (C_fr [(4, .slice AR0_9 (trimS a0).length cR0_9), (6, .bool d6), (7, .bool (!decide ((((trimS a0).getD i []).getD ((((trimS a0).getD i []).length : Int) - 1).toNat ([] : St)) = []))), (8, .int .i64 (i : Int)), (10, .int .i64 (k : Int)), (95, .slice AR0_9 (trimS a0).length cR0_9), (96, .int .i64 (i : Int)), (97, .pointer (some (q102.add (i * 1)))), (98, .slice Aq102 ((trimS a0).getD i []).length cq102), (99, .int .i64 ((((trimS a0).getD i []).length : Int) - 1)), (100, .pointer (some (q103.add (((((trimS a0).getD i []).length : Int) - 1).toNat * 1)))), (101, vstr (((trimS a0).getD i []).getD ((((trimS a0).getD i []).length : Int) - 1).toNat ([] : St))), (102, .bool (!decide ((((trimS a0).getD i []).getD ((((trimS a0).getD i []).length : Int) - 1).toNat ([] : St)) = []))), (110, .bool (decide ((k : Int) < (((trimS a0).getD i []).length : Int))))] rfl ?_)
     refine C_ite rfl (fun hC5 => ?_) (fun hC5 => ?_)
     ·have _hC5 := trivial
      have hC5p : (k : Int) < (((trimS a0).getD i []).length : Int) := by simpa using hC5
      refine C_skip ?_
      refine E_then ?_
      refine C_seq ?_
      refine C_block ?_
      refine C_region ?_
      refine W_cons rfl (by decide) (Sv_val rfl (R_move rfl rfl) ?_)
      refine W_cons rfl (by decide) (Sv_val rfl (R_move rfl rfl) ?_)
      refine W_split (t := 114) rfl (fun hg106 => ?_) (fun hg106 => ?_)
      ·have _hg106 := trivial
       refine W_cons rfl (by decide) (Sv_off rfl rfl rfl (by rw [hg106] <;> rfl) ?_)
       refine W_cons rfl (by decide) (Sv_off rfl rfl rfl (by rw [hg106] <;> rfl) ?_)
       refine W_cons rfl (by decide) (Sv_off rfl rfl rfl (by rw [hg106] <;> rfl) ?_)
       refine W_cons rfl (by decide) (Sv_off rfl rfl rfl (by rw [hg106] <;> rfl) ?_)
       refine W_cons rfl (by decide) (Sv_off rfl rfl rfl (by rw [hg106] <;> rfl) ?_)
       refine W_cons rfl (by decide) (Sv_off rfl rfl rfl (by rw [hg106] <;> rfl) ?_)
       refine W_cons rfl (by decide) (Sv_offu rfl rfl rfl ?_)
       refine W_cons rfl (by decide) (Sv_offu rfl rfl rfl ?_)
       refine W_cons rfl (by decide) (Sv_offu rfl rfl rfl ?_)
       refine W_cons rfl (by decide) (Sv_offu rfl rfl rfl ?_)
       refine W_cons rfl (by decide) (Sv_offu rfl rfl rfl ?_)
       refine W_cons rfl (by decide) (Sv_offu rfl rfl rfl ?_)
       refine W_cons rfl (by decide) (Sv_offu rfl rfl rfl ?_)
       refine W_cons rfl (by decide) (Sv_offu rfl rfl rfl ?_)
       refine W_cons rfl (by decide) (Sv_off rfl rfl rfl (by rw [hg106] <;> rfl) ?_)
       refine W_cons rfl (by decide) (Sv_val rfl (R_pick_t rfl rfl hg106 rfl) ?_)
       refine W_cons rfl (by decide) (Sv_val rfl (R_assign rfl rfl) ?_)
       refine W_nil ?_
       refine E_block_normal ?_
       refine E_then ?_
       refine C_region ?_
       refine W_cons rfl (by decide) (Sv_val rfl (R_move rfl rfl) ?_)
       refine W_cons rfl (by decide) (Sv_val rfl (R_add64 rfl rfl rfl (by omega) (by omega)) ?_)
       refine W_cons rfl (by decide) (Sv_val rfl (R_assign rfl rfl) ?_)
       refine W_nil ?_
       refine E_round [4, 6, 7, 8, 10, 95, 96, 97, 98, 99, 100, 101, 102] ?_ ⟨(k + 1 : Nat), (true : Bool), rfl, (by omega), (by exact fun _ => rfl), (by exact fun _ _ => rfl), rfl, hS.fin [0, 1] (by decide) rfl⟩
       omega
      ·have _hg106 := trivial
       refine W_cons rfl (by decide) (Sv_gt rfl rfl rfl hg106 (Sv_val rfl (R_move rfl rfl) ?_))
       refine W_cons rfl (by decide) (Sv_gt rfl rfl rfl hg106 (Sv_val rfl (R_move rfl rfl) ?_))
       refine W_cons rfl (by decide) (Sv_gt rfl rfl rfl hg106 (Sv_val rfl (R_len rfl rfl Try.underlying22) ?_))
       refine W_cons rfl (by decide) (Sv_gt rfl rfl rfl hg106 (Sv_val rfl (R_sub64 rfl rfl rfl (by omega) (by omega)) ?_))
       refine W_cons rfl (by decide) (Sv_gt rfl rfl rfl hg106 (Sv_val rfl (R_bin rfl rfl rfl rfl rfl) ?_))
       refine W_cons rfl (by decide) (Sv_gt rfl rfl rfl hg106 (Sv_val rfl (R_move rfl rfl) ?_))
       refine W_split (t := 120) rfl (fun hg107 => ?_) (fun hg107 => ?_)
       ·have _hg107 := trivial
        have hg107p : (i : Int) = (((trimS a0).length : Int) - 1) := by simpa using hg107
        refine W_cons rfl (by decide) (Sv_gt rfl rfl rfl hg107 (Sv_val rfl (R_move rfl rfl) ?_))
        refine W_cons rfl (by decide) (Sv_gt rfl rfl rfl hg107 (Sv_val rfl (R_move rfl rfl) ?_))
        obtain ⟨q108, csq108, hAq108, ⟨Aq108, cq108, rfl, hcq108, hrq108⟩, hkq108⟩ := (hS.rw 1 rfl).el [] (i := (i : Int)) (by omega) (by omega)
        have hkq108 : ∀ (j_ : Nat) (u_ : Value), ([.slice Aq108 ((trimS a0).getD i []).length cq108] : List Value)[j_]? = some u_ → World.cell? w104 (q108.add (i * 1 + j_)) = some u_ := hkq108
        have hrq108 : Rd kstr qR0_9 Aq108 (((trimS a0).getD i [])) := hrq108
        have hcq108 : Cap Aq108 (((trimS a0).getD i [])).length cq108 := hcq108
        have hlq108 := hcq108.le
        have hmq108 := hcq108.mx
        refine W_cons rfl (by decide) (Sv_gt rfl rfl rfl hg107 (Sv_val rfl (R_idx rfl rfl hAq108 rfl Try.underlying22 size31 (by omega) (by omega)) ?_))
        refine W_cons rfl (by decide) (Sv_gt rfl rfl rfl hg107 (Sv_val rfl (R_load1 rfl rfl agg31 (hkq108 0 _ rfl)) ?_))
        refine W_cons rfl (by decide) (Sv_gt rfl rfl rfl hg107 (Sv_val rfl (R_move rfl rfl) ?_))
        obtain ⟨q109, csq109, hAq109, rfl, hkq109⟩ := hrq108.at_ ([] : St) (i := (k : Int)) (by omega) (by omega)
        have hkq109 : ∀ (j_ : Nat) (u_ : Value), ([vstr (((trimS a0).getD i []).getD k ([] : St))] : List Value)[j_]? = some u_ → cz qR0_9 (q109.add (k * 1 + j_)) = some u_ := hkq109
        refine W_cons rfl (by decide) (Sv_gt rfl rfl rfl hg107 (Sv_val rfl (R_idx rfl rfl hAq109 rfl Try.underlying31 size9 (by omega) (by omega)) ?_))
        refine W_cons rfl (by decide) (Sv_gt rfl rfl rfl hg107 (Sv_val rfl (R_load1 rfl rfl agg9 ((hS.zs 0 rfl).cell (hkq109 0 _ rfl))) ?_))
        refine W_cons rfl (by decide) (Sv_gt rfl rfl rfl hg107 (Sv_val rfl (R_strneq rfl rfl rfl) ?_))
        refine W_cons rfl (by decide) (Sv_gt rfl rfl rfl hg106 (Sv_val rfl (R_pick_t rfl rfl hg107 rfl) ?_))
        refine W_cons rfl (by decide) (Sv_val rfl (R_pick_f rfl rfl hg106 rfl) ?_)
        refine W_cons rfl (by decide) (Sv_val rfl (R_assign rfl rfl) ?_)
        refine W_nil ?_
        refine E_block_normal ?_
        refine E_then ?_
        refine C_region ?_
        refine W_cons rfl (by decide) (Sv_val rfl (R_move rfl rfl) ?_)
        refine W_cons rfl (by decide) (Sv_val rfl (R_add64 rfl rfl rfl (by omega) (by omega)) ?_)
        refine W_cons rfl (by decide) (Sv_val rfl (R_assign rfl rfl) ?_)
        refine W_nil ?_
        refine E_round [4, 6, 7, 8, 10, 95, 96, 97, 98, 99, 100, 101, 102] ?_ ⟨(k + 1 : Nat), (!decide ((((trimS a0).getD i []).getD k ([] : St)) = []) : Bool), rfl, (by omega), (by intro h_; have := hI1_1 h_; simp_all), (by rintro h_ ⟨c, hc, hc2⟩; exact (if hk : c = k then (by subst hk; simp only [Bool.not_eq_true', decide_eq_false_iff_not]; exact hc2) else (by have := hI1_2 h_ ⟨c, by omega, hc2⟩; simp_all))), rfl, hS.fin [0, 1] (by decide) rfl⟩
        omega
       ·have _hg107 := trivial
        have hg107p : ¬ ((i : Int) = (((trimS a0).length : Int) - 1)) := by simpa using hg107
        refine W_cons rfl (by decide) (Sv_off rfl rfl rfl (by rw [hg107] <;> rfl) ?_)
        refine W_cons rfl (by decide) (Sv_off rfl rfl rfl (by rw [hg107] <;> rfl) ?_)
        refine W_cons rfl (by decide) (Sv_off rfl rfl rfl (by rw [hg107] <;> rfl) ?_)
        refine W_cons rfl (by decide) (Sv_off rfl rfl rfl (by rw [hg107] <;> rfl) ?_)
        refine W_cons rfl (by decide) (Sv_off rfl rfl rfl (by rw [hg107] <;> rfl) ?_)
        refine W_cons rfl (by decide) (Sv_off rfl rfl rfl (by rw [hg107] <;> rfl) ?_)
        refine W_cons rfl (by decide) (Sv_off rfl rfl rfl (by rw [hg107] <;> rfl) ?_)
        refine W_cons rfl (by decide) (Sv_off rfl rfl rfl (by rw [hg107] <;> rfl) ?_)
        refine W_cons rfl (by decide) (Sv_gt rfl rfl rfl hg106 (Sv_val rfl (R_pick_f rfl rfl hg107 rfl) ?_))
        refine W_cons rfl (by decide) (Sv_val rfl (R_pick_f rfl rfl hg106 rfl) ?_)
        refine W_cons rfl (by decide) (Sv_val rfl (R_assign rfl rfl) ?_)
        refine W_nil ?_
        refine E_block_normal ?_
        refine E_then ?_
        refine C_region ?_
        refine W_cons rfl (by decide) (Sv_val rfl (R_move rfl rfl) ?_)
        refine W_cons rfl (by decide) (Sv_val rfl (R_add64 rfl rfl rfl (by omega) (by omega)) ?_)
        refine W_cons rfl (by decide) (Sv_val rfl (R_assign rfl rfl) ?_)
        refine W_nil ?_
        refine E_round [4, 6, 7, 8, 10, 95, 96, 97, 98, 99, 100, 101, 102] ?_ ⟨(k + 1 : Nat), (false : Bool), rfl, (by omega), (by intro h_; have := hI1_1 h_; simp_all), (by intro h_; exfalso; omega), rfl, hS.fin [0, 1] (by decide) rfl⟩
        omega
     ·have _hC5 := trivial
      have hC5p : ¬ ((k : Int) < (((trimS a0).getD i []).length : Int)) := by simpa using hC5
      refine C_exit ?_
      refine E_then_exit ?_
      refine E_then_exit ?_
      refine E_block_hit ?_
      refine E_block_normal ?_
      refine E_then ?_
      refine C_region ?_
      refine W_cons rfl (by decide) (Sv_val rfl (R_move rfl rfl) ?_)
      refine W_cons rfl (by decide) (Sv_val rfl (R_add64 rfl rfl rfl (by omega) (by omega)) ?_)
      refine W_cons rfl (by decide) (Sv_val rfl (R_assign rfl rfl) ?_)
      refine W_nil ?_
      refine E_round [4, 6, 7, 8] ?_ ⟨(i + 1 : Nat), (d6 : Bool), (!decide ((((trimS a0).getD i []).getD ((((trimS a0).getD i []).length : Int) - 1).toNat ([] : St)) = []) : Bool), rfl, (by omega), (by exact hI1_1), (by intro h_ h2_; refine hI1_2 h_ ?_; rw [show (trimS a0).length - 1 = i from by omega] at h2_; obtain ⟨c, hc, hc2⟩ := h2_; exact ⟨c, by omega, hc2⟩), (by intro h_; have := hI0_3 h_; simp_all), (by rintro ⟨r, hr, hr2⟩; exact (if h_ : r = i then (by subst h_; rw [show ((((trimS a0).getD r []).length : Int) - 1).toNat = ((trimS a0).getD r []).length - 1 from by omega]; simp only [Bool.not_eq_true', decide_eq_false_iff_not]; exact hr2) else (by have := hI0_4 ⟨r, by omega, hr2⟩; simp_all))), rfl, hS.fin [0, 1] (by decide) rfl⟩
      omega
   ·have _hC4 := trivial
    have hC4p : ¬ ((i : Int) < ((trimS a0).length : Int)) := by simpa using hC4
    refine C_exit ?_
    refine E_then_exit ?_
    refine E_then_exit ?_
    refine E_block_hit ?_
    refine E_then (C_fr [(6, .bool b6), (7, .bool b7)] rfl ?_)
    refine C_seq ?_
    have hl := trim_last a0
    have hb6 : b6 = true := hl.1.elim hI0_1 (hI0_2 (by omega))
    have hb7 : b7 = true := hl.2.elim hI0_3 (fun ⟨r, h1, h2⟩ => hI0_4 ⟨r, by omega, h2⟩)
    refine C_region ?_
    refine W_cons rfl (by decide) (Sv_val rfl (R_move rfl rfl) ?_)
    refine W_cons rfl (by decide) (Sv_val rfl (R_move rfl rfl) ?_)
    refine W_cons rfl (by decide) (Sv_gt rfl rfl rfl hb6 (Sv_val rfl (R_move rfl rfl) ?_))
    refine W_cons rfl (by decide) (Sv_val rfl (R_pick_t rfl rfl hb6 rfl) ?_)
    refine W_cons rfl (by decide) (Sv_val rfl (R_move rfl rfl) ?_)
    refine W_cons rfl (by decide) (Sv_gt rfl rfl rfl hb7 (Sv_call rfl rfl rfl ent13 ?_))
    refine (tawake_calls  _ _ hS.out0  ).mono ?_
    rintro e_ w110 ⟨rfl, hS_⟩
    refine ⟨_, rfl, ?_⟩
    have hS := hS.call0 hS_
    refine W_cons rfl (by decide) (Sv_val rfl (R_pick_t rfl rfl hb7 rfl) ?_)
    refine W_cons rfl (by decide) (Sv_val rfl (R_assign rfl rfl) ?_)
    refine W_nil ?_
    refine E_then (C_fr [(2, .bool true)] rfl ?_)
    refine C_ret ?_
    refine E_ret1 rfl rfl ?_
    exact ⟨Lret1 (Lbool (show true = true by rfl)), hS.fin [] (by decide) rfl⟩

end Go.Proofs.YtgjnhmidbapjmaaG
