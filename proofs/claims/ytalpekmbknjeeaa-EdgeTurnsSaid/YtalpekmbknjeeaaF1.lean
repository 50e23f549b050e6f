/- Walks, each function once: what it computes. -/
import Derived.Test.YtalpekmbknjeeaaF0
set_option linter.all false
namespace Go.Proofs.YtalpekmbknjeeaaG
open Go Go.RowKit
set_option maxHeartbeats 400000 in
set_option maxRecDepth 20000 in
theorem esmall_calls  (z : Z) (w : World) (hI : In z w [])   :
    Calls Try.prog 32 #[] w fun e w' => ∃ (AR0_Widths : Option Addr) (cR0_Widths : Nat) (AR0_Heights : Option Addr) (cR0_Heights : Nat) (AR0_Cells : Option Addr) (cR0_Cells : Nat) (AR0_Merges : Option Addr) (cR0_Merges : Nat), e = .returned (.agg #[.int .i64 esmallS.Right, .slice AR0_Widths esmallS.Widths.length cR0_Widths, .slice AR0_Heights esmallS.Heights.length cR0_Heights, .slice AR0_Cells esmallS.Cells.length cR0_Cells, .slice AR0_Merges esmallS.Merges.length cR0_Merges]) ∧ Sp (FF []) w z w' [oR (kint .i64) 3 zE AR0_Widths cR0_Widths esmallS.Widths, oR (kint .i64) 3 zE AR0_Heights cR0_Heights esmallS.Heights, oR kdTCell 60 zE AR0_Cells cR0_Cells esmallS.Cells, oR kdTRect 39 zE AR0_Merges cR0_Merges esmallS.Merges] := by
 have hS := hI.sp
 refine Calls_of (vs := []) (N := 6) Try.func32 rfl rfl (Nat.le_of_ble_eq_true rfl) ?_
 refine C_seq ?_
 refine C_region ?_
 refine W_cons rfl (by decide) (S_box hS rfl (R_alloc rfl alloc26) (fun b2 w1 hS => ?_))
 refine W_nil ?_
 refine E_then ?_
 refine C_seq ?_
 refine C_region ?_
 refine W_cons rfl (by decide) (S_row (d := (kint .i64)) (q := zE) hS ([3, 2] : List Int) rfl (R_buildSlice (ps := [(0, (.const (.int .i64 3))), (1, (.const (.int .i64 2)))]) (vs := [.int .i64 3, .int .i64 2]) (w' := w1.alloc (.cells [.int .i64 3, .int .i64 2].toArray 3)) (r := .slice (some ⟨w1.heap.size, 0, none⟩) 2 2) rfl rfl rfl (by kernel_rfl)) (by simp [Reps, flat, kint]) rfl (by decide) (fun g4 w3 hS => ?_))
 refine W_cons rfl (by decide) (S_row (d := (kint .i64)) (q := zE) hS ([1, 1] : List Int) rfl (R_buildSlice (ps := [(0, (.const (.int .i64 1))), (1, (.const (.int .i64 1)))]) (vs := [.int .i64 1, .int .i64 1]) (w' := w3.alloc (.cells [.int .i64 1, .int .i64 1].toArray 3)) (r := .slice (some ⟨w3.heap.size, 0, none⟩) 2 2) rfl rfl rfl (by kernel_rfl)) (by simp [Reps, flat, kint]) rfl (by decide) (fun g6 w5 hS => ?_))
 refine wv rfl rfl rfl (R_build (w' := w5) (ps := [(2, (.const (.int .i64 1))), (3, (.const (.int .i64 2)))]) (vs := [.int .i64 1, .int .i64 2]) (r := .agg #[.int .i64 0, .int .i64 0, .int .i64 1, .int .i64 2]) rfl rfl rfl (by kernel_rfl)) ?_
 refine W_cons rfl (by decide) (S_row (d := kdTRect) (q := zE) hS ([(⟨0, 0, 1, 2⟩ : TRect)] : List TRect) rfl (R_buildSlice (ps := [(0, (.tmp 3))]) (vs := [.agg #[.int .i64 0, .int .i64 0, .int .i64 1, .int .i64 2]]) (w' := w5.alloc (.cells [.int .i64 0, .int .i64 0, .int .i64 1, .int .i64 2].toArray 39)) (r := .slice (some ⟨w5.heap.size, 0, none⟩) 1 1) rfl rfl rfl (by kernel_rfl)) (by simp [Reps, flat, kdTRect]) rfl (by decide) (fun g8 w7 hS => ?_))
 refine wv rfl rfl rfl (R_build (w' := w7) (ps := [(1, (.tmp 1)), (2, (.tmp 2)), (4, (.tmp 4))]) (vs := [.slice (some ⟨g4, 0, none⟩) ([3, 2] : List Int).length 2, .slice (some ⟨g6, 0, none⟩) ([1, 1] : List Int).length 2, .slice (some ⟨g8, 0, none⟩) ([(⟨0, 0, 1, 2⟩ : TRect)] : List TRect).length 1]) (r := .agg #[.int .i64 0, .slice (some ⟨g4, 0, none⟩) ([3, 2] : List Int).length 2, .slice (some ⟨g6, 0, none⟩) ([1, 1] : List Int).length 2, .slice none 0 0, .slice (some ⟨g8, 0, none⟩) ([(⟨0, 0, 1, 2⟩ : TRect)] : List TRect).length 1]) rfl rfl rfl (by kernel_rfl)) ?_
 refine W_cons0 rfl (S_store hS 3 rfl rfl rfl rfl rfl size26 (one_cons rfl (one_cons rfl (one_cons rfl (one_cons rfl (one_cons rfl one_nil))))) (Nat.le_of_ble_eq_true rfl) (fun w9 hS => ?_))
 have hS : Sp (FF []) w z w9 [oR kdTRect 39 zE (some ⟨g8, 0, none⟩) 1 ([(⟨0, 0, 1, 2⟩ : TRect)] : List TRect), oR (kint .i64) 3 zE (some ⟨g6, 0, none⟩) 2 ([1, 1] : List Int), oR (kint .i64) 3 zE (some ⟨g4, 0, none⟩) 2 ([3, 2] : List Int), bR b2 26 [.int .i64 0, .slice (some ⟨g4, 0, none⟩) ([3, 2] : List Int).length 2, .slice (some ⟨g6, 0, none⟩) ([1, 1] : List Int).length 2, .slice none 0 0, .slice (some ⟨g8, 0, none⟩) ([(⟨0, 0, 1, 2⟩ : TRect)] : List TRect).length 1]] := hS
 refine W_nil ?_
 refine E_then (C_fr [(0, .pointer (some ⟨b2, 0, none⟩))] rfl ?_)
 refine C_ret ?_
 have hq10 : ([3, 2] : List Int) = esmallS.Widths := by rfl
 have hS := hS.re 2 rfl hq10
 have hq11 : ([1, 1] : List Int) = esmallS.Heights := by rfl
 have hS := hS.re 1 rfl hq11
 have hS := hS.nilrow kdTCell 60 zE
 have hq13 : ([] : List TCell) = esmallS.Cells := by rfl
 have hS := hS.re 0 rfl hq13
 have hq14 : ([(⟨0, 0, 1, 2⟩ : TRect)] : List TRect) = esmallS.Merges := by rfl
 have hS := hS.re 1 rfl hq14
 refine E_rv1 rfl (RV_cellN (cs := [.int .i64 0, .slice (some ⟨g4, 0, none⟩) ([3, 2] : List Int).length 2, .slice (some ⟨g6, 0, none⟩) ([1, 1] : List Int).length 2, .slice none 0 0, .slice (some ⟨g8, 0, none⟩) ([(⟨0, 0, 1, 2⟩ : TRect)] : List TRect).length 1]) rfl agg26 size26 rfl (boxcells (hS.bx 4 rfl) 0 rfl)) ?_
 exact ⟨(some ⟨g4, 0, none⟩), 2, (some ⟨g6, 0, none⟩), 2, none, 0, (some ⟨g8, 0, none⟩), 1, Lret1 (show (.agg #[.int .i64 0, .slice (some ⟨g4, 0, none⟩) ([3, 2] : List Int).length 2, .slice (some ⟨g6, 0, none⟩) ([1, 1] : List Int).length 2, .slice none 0 0, .slice (some ⟨g8, 0, none⟩) ([(⟨0, 0, 1, 2⟩ : TRect)] : List TRect).length 1] : Value) = .agg #[.int .i64 esmallS.Right, .slice _ esmallS.Widths.length _, .slice _ esmallS.Heights.length _, .slice _ esmallS.Cells.length _, .slice _ esmallS.Merges.length _] by rfl), hS.fin [3, 2, 0, 1] (by decide) rfl⟩

set_option maxHeartbeats 400000 in
set_option maxRecDepth 20000 in
theorem ehas_calls (a0 : Int) (a1 : Int) (a2 : Int) (z : Z) (w : World) (hI : In z w [])  (p0 : I64 a0) (p1 : I64 a1) :
    Calls Try.prog 33 #[.int .i64 a0, .int .i64 a1, .int .i64 a2] w fun e w' => e = .returned (.bool (hasE a0 a1 a2)) ∧ Sp (FF []) w z w' [] := by
 have hS := hI.sp
 refine Calls_of (vs := [.int .i64 a0, .int .i64 a1, .int .i64 a2]) (N := 23) Try.func33 rfl rfl (Nat.le_of_ble_eq_true rfl) ?_
 refine C_seq ?_
 refine C_region ?_
 refine wv rfl rfl rfl (R_assign rfl rfl) ?_
 refine W_nil ?_
 refine E_then ?_
 refine C_seq ?_
 refine C_region ?_
 refine W_cons rfl (by decide) (Sv_call rfl rfl rfl ent32 ?_)
 refine (esmall_calls  _ _ hS.out0  ).mono ?_
 rintro e_ w1 ⟨AR0_2_Widths, cR0_2_Widths, AR0_2_Heights, cR0_2_Heights, AR0_2_Cells, cR0_2_Cells, AR0_2_Merges, cR0_2_Merges, rfl, hS_⟩
 refine ⟨_, rfl, ?_⟩
 have hS := hS.call0 hS_
 have hp3 := hS.cap 0 rfl
 have hlhp3 := hp3.le
 have hmhp3 := hp3.mx
 have hp4 := hS.cap 1 rfl
 have hlhp4 := hp4.le
 have hmhp4 := hp4.mx
 have hp5 := hS.cap 2 rfl
 have hlhp5 := hp5.le
 have hmhp5 := hp5.mx
 have hp6 := hS.cap 3 rfl
 have hlhp6 := hp6.le
 have hmhp6 := hp6.mx
 refine wv rfl rfl rfl (R_move rfl rfl) <| wv rfl rfl rfl (R_move rfl rfl) ?_
 refine W_cons rfl (by decide) (Sv_call rfl rfl rfl ent9 ?_)
 refine (arms_calls esmallS AR0_2_Widths cR0_2_Widths AR0_2_Heights cR0_2_Heights AR0_2_Cells cR0_2_Cells AR0_2_Merges cR0_2_Merges a0 a1 _ _ hS.out0 (hS.ow [] 0 rfl rfl (zle_E _)) (hS.cap 0 rfl) (hS.ow [] 1 rfl rfl (zle_E _)) (hS.cap 1 rfl) (hS.ow [] 2 rfl rfl (zle_E _)) (hS.cap 2 rfl) (hS.ow [] 3 rfl rfl (zle_E _)) (hS.cap 3 rfl) (by assumption) (by assumption)).mono ?_
 rintro e_ w7 ⟨rfl, hS_⟩
 refine ⟨_, rfl, ?_⟩
 have hS := hS.call0 hS_
 refine wv rfl rfl rfl (R_move rfl rfl) <| wv rfl rfl rfl (R_extract rfl rfl rfl) <| wv rfl rfl rfl (R_extract rfl rfl rfl) <| wv rfl rfl rfl (R_assign rfl rfl) <| wv rfl rfl rfl (R_assign rfl rfl) ?_
 refine W_nil ?_
 refine E_then (C_fr [(2, .int .i64 a2), (7, .int .i64 (armsS esmallS a0 a1).1), (8, .int .i64 (armsS esmallS a0 a1).2)] rfl ?_)
 refine C_seq ?_
 refine C_region ?_
 refine wv rfl rfl rfl (R_move rfl rfl) <| wv rfl rfl rfl (R_move rfl rfl) <| wv rfl rfl rfl (R_bin rfl rfl rfl rfl rfl) <| wv rfl rfl rfl (R_move rfl rfl) <| wg rfl rfl (Gd.on rfl rfl rfl) (fun hB => R_move rfl rfl) <| wg rfl rfl (Gd.on rfl rfl rfl) (fun hB => Runs.at_ (i := 20) (gl rfl hB) (R_bin rfl rfl rfl rfl rfl)) <| wv rfl rfl rfl (R_pick_and rfl rfl rfl rfl) <| wv rfl rfl rfl (R_assign rfl rfl) ?_
 refine W_nil ?_
 refine E_then (C_fr [(6, .bool (((armsS esmallS a0 a1).1 == a2) && ((armsS esmallS a0 a1).2 == 0)))] rfl ?_)
 refine C_ret ?_
 refine E_ret1 rfl rfl ?_
 exact ⟨Lret1 (Lbool (show (((armsS esmallS a0 a1).1 == a2) && ((armsS esmallS a0 a1).2 == 0)) = (hasE a0 a1 a2) by rfl)), hS.fin [] (by decide) rfl⟩

set_option maxHeartbeats 400000 in
set_option maxRecDepth 20000 in
theorem ebits_calls (a0 : Int) (z : Z) (w : World) (hI : In z w [])   :
    Calls Try.prog 19 #[.int .i64 a0] w fun e w' => e = .returned (.int .i64 (bitsS a0)) ∧ Sp (FF []) w z w' [] := by
 have hS := hI.sp
 refine Calls_of (vs := [.int .i64 a0]) (N := 17) Try.func19 rfl rfl (Nat.le_of_ble_eq_true rfl) ?_
 refine C_seq ?_
 refine C_region ?_
 refine wv rfl rfl rfl (R_assign rfl rfl) ?_
 refine W_nil ?_
 refine E_then ?_
 refine C_seq ?_
 refine C_region ?_
 refine wv rfl rfl rfl (R_move rfl rfl) <| wv rfl rfl rfl (R_and64 1 2 rfl rfl rfl (by decide) (by decide) (by decide)) <| wv rfl rfl rfl (R_move rfl rfl) <| wv rfl rfl rfl ((show Runs _ _ _ _ (.int .i64 (a0 / 2)) _ from R_shr (n := 1) rfl rfl rfl (by omega) (by decide))) <| wv rfl rfl rfl (R_and64 1 2 rfl rfl rfl (by decide) (by decide) (by decide)) <| wv rfl rfl rfl (R_add64 rfl rfl rfl (by omega) (by omega)) <| wv rfl rfl rfl (R_move rfl rfl) <| wv rfl rfl rfl ((show Runs _ _ _ _ (.int .i64 (a0 / 4)) _ from R_shr (n := 2) rfl rfl rfl (by omega) (by decide))) <| wv rfl rfl rfl (R_and64 1 2 rfl rfl rfl (by decide) (by decide) (by decide)) <| wv rfl rfl rfl (R_add64 rfl rfl rfl (by omega) (by omega)) <| wv rfl rfl rfl (R_move rfl rfl) <| wv rfl rfl rfl ((show Runs _ _ _ _ (.int .i64 (a0 / 8)) _ from R_shr (n := 3) rfl rfl rfl (by omega) (by decide))) <| wv rfl rfl rfl (R_and64 1 2 rfl rfl rfl (by decide) (by decide) (by decide)) <| wv rfl rfl rfl (R_add64 rfl rfl rfl (by omega) (by omega)) <| wv rfl rfl rfl (R_assign rfl rfl) ?_
 refine W_nil ?_
 refine E_then (C_fr [(2, .int .i64 ((((a0 % 2) + ((a0 / 2) % 2)) + ((a0 / 4) % 2)) + ((a0 / 8) % 2)))] rfl ?_)
 refine C_ret ?_
 refine E_ret1 rfl rfl ?_
 exact ⟨Lret1 (Lint (show (((a0 % 2) + ((a0 / 2) % 2)) + ((a0 / 4) % 2)) + ((a0 / 8) % 2) = bitsS a0 by rfl)), hS.fin [] (by decide) rfl⟩

set_option maxHeartbeats 400000 in
set_option maxRecDepth 20000 in
theorem eawake_calls  (z : Z) (w : World) (hI : In z w [])   :
    Calls Try.prog 12 #[] w fun e w' => e = .returned (.bool true) ∧ Sp (FF []) w z w' [] := by
 have hS := hI.sp
 refine Calls_of (vs := []) (N := 52) Try.func12 rfl rfl (Nat.le_of_ble_eq_true rfl) ?_
 refine C_seq ?_
 refine C_region ?_
 refine wv rfl rfl rfl (R_assign rfl rfl) ?_
 refine W_nil ?_
 refine E_then ?_
 refine C_seq ?_
 refine C_region ?_
 refine W_cons rfl (by decide) (Sv_call rfl rfl rfl ent32 ?_)
 refine (esmall_calls  _ _ hS.out0  ).mono ?_
 rintro e_ w1 ⟨AR0_2_Widths, cR0_2_Widths, AR0_2_Heights, cR0_2_Heights, AR0_2_Cells, cR0_2_Cells, AR0_2_Merges, cR0_2_Merges, rfl, hS_⟩
 refine ⟨_, rfl, ?_⟩
 have hS := hS.call0 hS_
 have hp3 := hS.cap 0 rfl
 have hlhp3 := hp3.le
 have hmhp3 := hp3.mx
 have hp4 := hS.cap 1 rfl
 have hlhp4 := hp4.le
 have hmhp4 := hp4.mx
 have hp5 := hS.cap 2 rfl
 have hlhp5 := hp5.le
 have hmhp5 := hp5.mx
 have hp6 := hS.cap 3 rfl
 have hlhp6 := hp6.le
 have hmhp6 := hp6.mx
 refine W_cons rfl (by decide) (Sv_call rfl rfl rfl ent9 ?_)
 refine (arms_calls esmallS AR0_2_Widths cR0_2_Widths AR0_2_Heights cR0_2_Heights AR0_2_Cells cR0_2_Cells AR0_2_Merges cR0_2_Merges 8 0 _ _ hS.out0 (hS.ow [] 0 rfl rfl (zle_E _)) (hS.cap 0 rfl) (hS.ow [] 1 rfl rfl (zle_E _)) (hS.cap 1 rfl) (hS.ow [] 2 rfl rfl (zle_E _)) (hS.cap 2 rfl) (hS.ow [] 3 rfl rfl (zle_E _)) (hS.cap 3 rfl) (by (unfold I64; decide)) (by (unfold I64; decide))).mono ?_
 rintro e_ w7 ⟨rfl, hS_⟩
 refine ⟨_, rfl, ?_⟩
 have hS := hS.call0 hS_
 refine wv rfl rfl rfl (R_move rfl rfl) <| wv rfl rfl rfl (R_extract rfl rfl rfl) <| wv rfl rfl rfl (R_extract rfl rfl rfl) <| wv rfl rfl rfl (R_assign rfl rfl) <| wv rfl rfl rfl (R_assign rfl rfl) ?_
 refine W_nil ?_
 refine E_then (C_fr [(2, .int .i64 (armsS esmallS 8 0).2)] rfl ?_)
 refine C_seq ?_
 refine C_region ?_
 refine W_cons rfl (by decide) (Sv_call rfl rfl rfl ent33 ?_)
 refine (ehas_calls 0 0 3 _ _ hS.out0  (by (unfold I64; decide)) (by (unfold I64; decide))).mono ?_
 rintro e_ w9 ⟨rfl, hS_⟩
 refine ⟨_, rfl, ?_⟩
 have hS := hS.call0 hS_
 refine wv rfl rfl rfl (R_move rfl rfl) ?_
 have hk11 : (hasE 0 0 3) = true := by decide +kernel
 refine W_cons rfl (by decide) (Sv_gt rfl rfl rfl hk11 (Sv_call rfl rfl rfl ent33 ?_))
 refine (ehas_calls 4 0 5 _ _ hS.out0  (by (unfold I64; decide)) (by (unfold I64; decide))).mono ?_
 rintro e_ w12 ⟨rfl, hS_⟩
 refine ⟨_, rfl, ?_⟩
 have hS := hS.call0 hS_
 refine wv rfl rfl rfl (R_pick_t rfl rfl hk11 rfl) <| wv rfl rfl rfl (R_move rfl rfl) ?_
 have hk14 : (hasE 4 0 5) = true := by decide +kernel
 refine W_cons rfl (by decide) (Sv_gt rfl rfl rfl hk14 (Sv_call rfl rfl rfl ent33 ?_))
 refine (ehas_calls 4 1 0 _ _ hS.out0  (by (unfold I64; decide)) (by (unfold I64; decide))).mono ?_
 rintro e_ w15 ⟨rfl, hS_⟩
 refine ⟨_, rfl, ?_⟩
 have hS := hS.call0 hS_
 refine wv rfl rfl rfl (R_pick_t rfl rfl hk14 rfl) <| wv rfl rfl rfl (R_move rfl rfl) ?_
 have hk17 : (hasE 4 1 0) = true := by decide +kernel
 refine W_cons rfl (by decide) (Sv_gt rfl rfl rfl hk17 (Sv_call rfl rfl rfl ent33 ?_))
 refine (ehas_calls 4 2 7 _ _ hS.out0  (by (unfold I64; decide)) (by (unfold I64; decide))).mono ?_
 rintro e_ w18 ⟨rfl, hS_⟩
 refine ⟨_, rfl, ?_⟩
 have hS := hS.call0 hS_
 refine wv rfl rfl rfl (R_pick_t rfl rfl hk17 rfl) <| wv rfl rfl rfl (R_move rfl rfl) ?_
 have hk20 : (hasE 4 2 7) = true := by decide +kernel
 refine W_cons rfl (by decide) (Sv_gt rfl rfl rfl hk20 (Sv_call rfl rfl rfl ent33 ?_))
 refine (ehas_calls 4 3 10 _ _ hS.out0  (by (unfold I64; decide)) (by (unfold I64; decide))).mono ?_
 rintro e_ w21 ⟨rfl, hS_⟩
 refine ⟨_, rfl, ?_⟩
 have hS := hS.call0 hS_
 refine wv rfl rfl rfl (R_pick_t rfl rfl hk20 rfl) <| wv rfl rfl rfl (R_move rfl rfl) ?_
 have hk23 : (hasE 4 3 10) = true := by decide +kernel
 refine W_cons rfl (by decide) (Sv_gt rfl rfl rfl hk23 (Sv_call rfl rfl rfl ent33 ?_))
 refine (ehas_calls 7 4 12 _ _ hS.out0  (by (unfold I64; decide)) (by (unfold I64; decide))).mono ?_
 rintro e_ w24 ⟨rfl, hS_⟩
 refine ⟨_, rfl, ?_⟩
 have hS := hS.call0 hS_
 refine wv rfl rfl rfl (R_pick_t rfl rfl hk23 rfl) <| wv rfl rfl rfl (R_move rfl rfl) ?_
 have hk26 : (hasE 7 4 12) = true := by decide +kernel
 refine W_cons rfl (by decide) (Sv_gt rfl rfl rfl hk26 (Sv_call rfl rfl rfl ent33 ?_))
 refine (ehas_calls 1 1 0 _ _ hS.out0  (by (unfold I64; decide)) (by (unfold I64; decide))).mono ?_
 rintro e_ w27 ⟨rfl, hS_⟩
 refine ⟨_, rfl, ?_⟩
 have hS := hS.call0 hS_
 refine wv rfl rfl rfl (R_pick_t rfl rfl hk26 rfl) <| wv rfl rfl rfl (R_move rfl rfl) ?_
 have hk29 : (hasE 1 1 0) = true := by decide +kernel
 refine W_cons rfl (by decide) (Sv_gt rfl rfl rfl hk29 (Sv_val rfl (R_move rfl rfl) ?_))
 refine W_cons rfl (by decide) (Sv_gt rfl rfl rfl hk29 (Sv_val rfl (R_bin rfl rfl rfl rfl rfl) ?_))
 refine wv rfl rfl rfl (R_pick_t rfl rfl hk29 rfl) <| wv rfl rfl rfl (R_move rfl rfl) ?_
 have hk30 : (((armsS esmallS 8 0).2 == 4)) = true := by decide +kernel
 have hk30p : (armsS esmallS 8 0).2 = 4 := by simpa using hk30
 refine W_cons rfl (by decide) (Sv_gt rfl rfl rfl hk30 (Sv_call rfl rfl rfl ent13 ?_))
 refine (eturn_calls 3 _ _ hS.out0  ).mono ?_
 rintro e_ w31 ⟨rfl, hS_⟩
 refine ⟨_, rfl, ?_⟩
 have hS := hS.call0 hS_
 refine W_cons rfl (by decide) (Sv_gt rfl rfl rfl hk30 (Sv_val rfl (R_bin rfl rfl rfl rfl rfl) ?_))
 refine wv rfl rfl rfl (R_pick_t rfl rfl hk30 rfl) <| wv rfl rfl rfl (R_move rfl rfl) ?_
 have hk33 : (((edTurn 3) == 6)) = true := by decide +kernel
 have hk33p : (edTurn 3) = 6 := by simpa using hk33
 refine W_cons rfl (by decide) (Sv_gt rfl rfl rfl hk33 (Sv_call rfl rfl rfl ent15 ?_))
 refine (eglyph_calls 3 _ _ hS.out0  ).mono ?_
 rintro e_ w34 ⟨rfl, hS_⟩
 refine ⟨_, rfl, ?_⟩
 have hS := hS.call0 hS_
 refine W_cons rfl (by decide) (Sv_gt rfl rfl rfl hk33 (Sv_val rfl (R_bin rfl rfl rfl rfl rfl) ?_))
 refine wv rfl rfl rfl (R_pick_t rfl rfl hk33 rfl) <| wv rfl rfl rfl (R_move rfl rfl) ?_
 have hk36 : (((glyphS 3) == 9484)) = true := by decide +kernel
 have hk36p : (glyphS 3) = 9484 := by simpa using hk36
 refine W_cons rfl (by decide) (Sv_gt rfl rfl rfl hk36 (Sv_call rfl rfl rfl ent13 ?_))
 refine (eturn_calls 3 _ _ hS.out0  ).mono ?_
 rintro e_ w37 ⟨rfl, hS_⟩
 refine ⟨_, rfl, ?_⟩
 have hS := hS.call0 hS_
 refine W_cons rfl (by decide) (Sv_gt rfl rfl rfl hk36 (Sv_call rfl rfl rfl ent15 ?_))
 refine (eglyph_calls (edTurn 3) _ _ hS.out0  ).mono ?_
 rintro e_ w39 ⟨rfl, hS_⟩
 refine ⟨_, rfl, ?_⟩
 have hS := hS.call0 hS_
 refine W_cons rfl (by decide) (Sv_gt rfl rfl rfl hk36 (Sv_val rfl (R_bin rfl rfl rfl rfl rfl) ?_))
 refine wv rfl rfl rfl (R_pick_t rfl rfl hk36 rfl) <| wv rfl rfl rfl (R_move rfl rfl) ?_
 have hk41 : (((glyphS (edTurn 3)) == 9488)) = true := by decide +kernel
 have hk41p : (glyphS (edTurn 3)) = 9488 := by simpa using hk41
 refine W_cons rfl (by decide) (Sv_gt rfl rfl rfl hk41 (Sv_call rfl rfl rfl ent17 ?_))
 refine (eof_calls 9472 _ _ hS.out0  ).mono ?_
 rintro e_ w42 ⟨rfl, hS_⟩
 refine ⟨_, rfl, ?_⟩
 have hS := hS.call0 hS_
 refine W_cons rfl (by decide) (Sv_gt rfl rfl rfl hk41 (Sv_val rfl (R_bin rfl rfl rfl rfl rfl) ?_))
 refine wv rfl rfl rfl (R_pick_t rfl rfl hk41 rfl) <| wv rfl rfl rfl (R_move rfl rfl) ?_
 have hk44 : (((ofS 9472) == 5)) = true := by decide +kernel
 have hk44p : (ofS 9472) = 5 := by simpa using hk44
 refine W_cons rfl (by decide) (Sv_gt rfl rfl rfl hk44 (Sv_call rfl rfl rfl ent17 ?_))
 refine (eof_calls 65 _ _ hS.out0  ).mono ?_
 rintro e_ w45 ⟨rfl, hS_⟩
 refine ⟨_, rfl, ?_⟩
 have hS := hS.call0 hS_
 refine W_cons rfl (by decide) (Sv_gt rfl rfl rfl hk44 (Sv_val rfl (R_bin rfl rfl rfl rfl rfl) ?_))
 refine wv rfl rfl rfl (R_pick_t rfl rfl hk44 rfl) <| wv rfl rfl rfl (R_assign rfl rfl) ?_
 refine W_nil ?_
 refine E_then (C_fr [(0, .bool ((ofS 65) == 0))] rfl ?_)
 refine C_ret ?_
 refine E_ret1 rfl rfl ?_
 exact ⟨Lret1 (Lbool (show ((ofS 65) == 0) = true by rfl)), hS.fin [] (by decide) rfl⟩

end Go.Proofs.YtalpekmbknjeeaaG
