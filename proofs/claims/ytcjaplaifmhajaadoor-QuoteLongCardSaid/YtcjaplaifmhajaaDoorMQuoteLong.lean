/- The walk of the law QuoteLong: it returns true. -/
import Derived.Test.YtcjaplaifmhajaaDoorV1
set_option linter.all false
namespace Go.Proofs.YtcjaplaifmhajaaDoorG
open Go Go.RowKit
set_option maxHeartbeats 1000000 in
set_option maxRecDepth 20000 in
theorem quoteLong_calls (a0 : St) (a1 : Bool) (z : Z) (w : World) (hI : In z w [])  (p0 : HM z) :
    Calls Tryd.prog 5 #[vstr a0, .bool a1] w fun e w' => e = .returned (.bool true) ∧ Sp (FF []) w z w' [] := by
 have hS := hI.sp
 refine Calls_of (vs := [vstr a0, .bool a1]) (N := 72) Tryd.func5 rfl rfl (Nat.le_of_ble_eq_true rfl) ?_
 refine C_seq ?_
 refine C_region ?_
 refine wv rfl rfl rfl (R_assign rfl rfl) ?_
 refine W_nil ?_
 refine E_then ?_
 refine C_seq ?_
 refine C_seq ?_
 refine C_region ?_
 refine wv rfl rfl rfl (R_move rfl rfl) <| wv rfl rfl rfl (R_strlen rfl rfl Tryd.underlying9) <| wv rfl rfl rfl (R_bin rfl rfl rfl rfl rfl) <| wv rfl rfl rfl (R_move rfl rfl) ?_
 refine W_split (t := 13) rfl (fun hg1 => ?_) (fun hg1 => ?_)
 ·have _hg1 := trivial
  have hg1p : (a0.length : Int) < 20 := by simpa using hg1
  refine W_cons rfl (by decide) (Sv_off rfl rfl rfl (by rw [hg1] <;> rfl) ?_)
  refine W_cons rfl (by decide) (Sv_off rfl rfl rfl (by rw [hg1] <;> rfl) ?_)
  refine W_cons rfl (by decide) (Sv_off rfl rfl rfl (by rw [hg1] <;> rfl) ?_)
  refine wv rfl rfl rfl (R_pick_t rfl rfl hg1 rfl) <| wv rfl rfl rfl (R_move rfl rfl) ?_
  refine W_cons rfl (by decide) (Sv_off rfl rfl rfl rfl ?_)
  refine W_cons rfl (by decide) (Sv_off rfl rfl rfl rfl ?_)
  refine W_cons rfl (by decide) (Sv_off rfl rfl rfl rfl ?_)
  refine W_cons rfl (by decide) (Sv_off rfl rfl rfl rfl ?_)
  refine wv rfl rfl rfl (R_pick_t rfl rfl rfl rfl) ?_
  refine W_nil ?_
  refine E_then (C_fr [(0, vstr a0), (1, .bool a1), (23, .bool true)] rfl ?_)
  refine C_if rfl rfl ?_
  refine C_seq ?_
  refine C_region ?_
  refine W_cons rfl (by decide) (Sv_call rfl rfl rfl ent9 ?_)
  refine (qawake_calls  _ _ hS.out0  (by first | exact HM.mono (by assumption) (hS.zl []) | exact HM.mono (by assumption) (hS.zl [0]) | exact HM.mono (by assumption) (hS.zl [1]))).mono ?_
  rintro e_ w2 ⟨rfl, hS_⟩
  refine ⟨_, rfl, ?_⟩
  have hS := hS.call0 hS_
  refine wv rfl rfl rfl (R_assign rfl rfl) ?_
  refine W_nil ?_
  refine E_then ?_
  refine C_ret ?_
  refine E_then_ret ?_
  refine E_ret1 rfl rfl ?_
  exact ⟨Lret1 (Lbool (show true = true by rfl)), hS.fin [] (by decide) rfl⟩
 ·have _hg1 := trivial
  have hg1p : ¬ ((a0.length : Int) < 20) := by simpa using hg1
  refine W_cons rfl (by decide) (Sv_gt rfl rfl rfl hg1 (Sv_val rfl (R_move rfl rfl) ?_))
  refine W_cons rfl (by decide) (Sv_gt rfl rfl rfl hg1 (Sv_val rfl (R_strlen rfl rfl Tryd.underlying9) ?_))
  refine W_cons rfl (by decide) (Sv_gt rfl rfl rfl hg1 (Sv_val rfl (R_bin rfl rfl rfl rfl rfl) ?_))
  refine wv rfl rfl rfl (R_pick_f rfl rfl hg1 rfl) <| wv rfl rfl rfl (R_move rfl rfl) ?_
  refine W_split (t := 18) rfl (fun hg4 => ?_) (fun hg4 => ?_)
  ·have _hg4 := trivial
   have hg4p : (a0.length : Int) > 1000 := by simpa using hg4
   refine W_cons rfl (by decide) (Sv_off rfl rfl rfl (by rw [hg4] <;> rfl) ?_)
   refine W_cons rfl (by decide) (Sv_off rfl rfl rfl (by rw [hg4] <;> rfl) ?_)
   refine W_cons rfl (by decide) (Sv_off rfl rfl rfl (by rw [hg4] <;> rfl) ?_)
   refine W_cons rfl (by decide) (Sv_off rfl rfl rfl (by rw [hg4] <;> rfl) ?_)
   refine wv rfl rfl rfl (R_pick_t rfl rfl hg4 rfl) ?_
   refine W_nil ?_
   refine E_then (C_fr [(0, vstr a0), (1, .bool a1), (23, .bool true)] rfl ?_)
   refine C_if rfl rfl ?_
   refine C_seq ?_
   refine C_region ?_
   refine W_cons rfl (by decide) (Sv_call rfl rfl rfl ent9 ?_)
   refine (qawake_calls  _ _ hS.out0  (by first | exact HM.mono (by assumption) (hS.zl []) | exact HM.mono (by assumption) (hS.zl [0]) | exact HM.mono (by assumption) (hS.zl [1]))).mono ?_
   rintro e_ w5 ⟨rfl, hS_⟩
   refine ⟨_, rfl, ?_⟩
   have hS := hS.call0 hS_
   refine wv rfl rfl rfl (R_assign rfl rfl) ?_
   refine W_nil ?_
   refine E_then ?_
   refine C_ret ?_
   refine E_then_ret ?_
   refine E_ret1 rfl rfl ?_
   exact ⟨Lret1 (Lbool (show true = true by rfl)), hS.fin [] (by decide) rfl⟩
  ·have _hg4 := trivial
   have hg4p : ¬ ((a0.length : Int) > 1000) := by simpa using hg4
   refine W_cons rfl (by decide) (Sv_gt rfl rfl rfl hg4 (Sv_val rfl (R_move rfl rfl) ?_))
   refine W_cons rfl (by decide) (Sv_gt rfl rfl rfl hg4 (Sv_call rfl rfl rfl ent10 ?_))
   refine (qfield_calls a0 _ _ hS.out0  (by omega) (by first | exact HM.mono (by assumption) (hS.zl []) | exact HM.mono (by assumption) (hS.zl [0]) | exact HM.mono (by assumption) (hS.zl [1]))).mono ?_
   rintro e_ w7 ⟨rfl, hS_⟩
   refine ⟨_, rfl, ?_⟩
   have hS := hS.call0 hS_
   refine W_cons rfl (by decide) (Sv_gt rfl rfl rfl hg4 (Sv_val rfl (R_move rfl rfl) ?_))
   refine W_cons rfl (by decide) (Sv_gt rfl rfl rfl hg4 (Sv_val rfl (R_strneq rfl rfl rfl) ?_))
   refine wv rfl rfl rfl (R_pick_f rfl rfl hg4 rfl) ?_
   refine W_nil ?_
   refine E_then (C_fr [(0, vstr a0), (1, .bool a1), (23, .bool (!decide ((fldQ a0) = a0)))] rfl ?_)
   refine C_ite rfl (fun hC0 => ?_) (fun hC0 => ?_)
   ·have _hC0 := trivial
    have hC0p : ¬ (fldQ a0) = a0 := by simpa using hC0
    refine C_seq ?_
    refine C_region ?_
    refine W_cons rfl (by decide) (Sv_call rfl rfl rfl ent9 ?_)
    refine (qawake_calls  _ _ hS.out0  (by first | exact HM.mono (by assumption) (hS.zl []) | exact HM.mono (by assumption) (hS.zl [0]) | exact HM.mono (by assumption) (hS.zl [1]))).mono ?_
    rintro e_ w9 ⟨rfl, hS_⟩
    refine ⟨_, rfl, ?_⟩
    have hS := hS.call0 hS_
    refine wv rfl rfl rfl (R_assign rfl rfl) ?_
    refine W_nil ?_
    refine E_then ?_
    refine C_ret ?_
    refine E_then_ret ?_
    refine E_ret1 rfl rfl ?_
    exact ⟨Lret1 (Lbool (show true = true by rfl)), hS.fin [] (by decide) rfl⟩
   ·have _hC0 := trivial
    have hC0p : (fldQ a0) = a0 := by simpa using hC0
    have hfq : fldQ a0 = a0 := by simpa using hC0
    have hln := longN_le (s := a0) (m := a1) (by omega)
    refine C_skip ?_
    refine E_then ?_
    refine C_seq ?_
    refine C_region ?_
    refine wv rfl rfl rfl (R_move rfl rfl) <| wv rfl rfl rfl (R_strlen rfl rfl Tryd.underlying9) <| wv rfl rfl rfl (R_add64 rfl rfl rfl (by omega) (by omega)) <| wv rfl rfl rfl (R_quo64 rfl rfl rfl (by omega) (by omega) (by omega)) <| wv rfl rfl rfl (R_assign rfl rfl) ?_
    refine W_nil ?_
    refine E_then (C_fr [(0, vstr a0), (1, .bool a1), (5, .int .i64 (65536 / ((a0.length : Int) + 2)))] rfl ?_)
    refine C_seq ?_
    refine C_seq ?_
    refine C_region ?_
    refine wv rfl rfl rfl (R_move rfl rfl) ?_
    refine W_nil ?_
    refine E_then ?_
    refine C_ite rfl (fun hC1 => ?_) (fun hC1 => ?_)
    ·have _hC1 := trivial
     have hlq := longN_q (s := a0)
     refine C_region ?_
     refine wv rfl rfl rfl (R_move rfl rfl) <| wv rfl rfl rfl (R_add64 rfl rfl rfl (by omega) (by omega)) <| wv rfl rfl rfl (R_assign rfl rfl) ?_
     refine W_nil ?_
     refine E_then ?_
     refine C_seq ?_
     refine C_region ?_
     refine wv rfl rfl rfl (R_assign rfl rfl) ?_
     refine W_nil ?_
     refine E_then ?_
     refine C_seq ?_
     refine C_seq ?_
     refine C_region ?_
     refine wv rfl rfl rfl (R_assign rfl rfl) ?_
     refine W_nil ?_
     refine E_then ?_
     refine C_block ?_
     obtain ⟨z14, hS⟩ := hS.famx
     have hS := hS.nilrow (kslice kstr) 33 z14
     have hs16 : ([] : List (List St)) = List.replicate (0 : Nat) [a0] := by rfl
     have hS := hS.re 0 rfl hs16
     have hs17 : (65536 / ((a0.length : Int) + 2)) + 1 = ((longN a0 a1 : Nat) : Int) := by first | exact longN_a (by simpa using hC1) | exact longN_b (by simpa using hC1)
     refine C_fr [(0, vstr a0), (1, .bool a1), (5, .int .i64 ((65536 / ((a0.length : Int) + 2)) + 1)), (6, .slice none 0 0), (7, .int .i64 0)] rfl ?_
     refine C_loop (fun m_ f_ w_ => ∃ (i : Nat) (Ar11 : Option Addr) (cr11 : Nat) (z12 : Z), f_ = [(0, vstr a0), (1, .bool a1), (5, .int .i64 ((longN a0 a1 : Nat) : Int)), (6, .slice Ar11 (List.replicate i [a0]).length cr11), (7, .int .i64 (i : Int))] ∧ i ≤ longN a0 a1 ∧ m_ = longN a0 a1 - i ∧ Sp (FF []) w z w_ [zR z12, oR (kslice kstr) 33 z12 Ar11 cr11 (List.replicate i [a0])]) (longN a0 a1 - (0 : Nat)) ⟨(0 : Nat), none, 0, z14, (by rw [← hs16, ← hs17] <;> rfl), (by omega), rfl, hS.fin [1, 0] (by decide) rfl⟩ ?_
     rintro m_ f_ w13 ⟨i, Ar11, cr11, z12, rfl, hI0_0, rfl, hS⟩
     have hp18 := hS.cap 1 rfl
     have hlhp18 := hp18.le
     have hmhp18 := hp18.mx
     refine C_seq ?_
     refine C_seq ?_
     refine C_region ?_
     refine wv rfl rfl rfl (R_move rfl rfl) <| wv rfl rfl rfl (R_move rfl rfl) <| wv rfl rfl rfl (R_bin rfl rfl rfl rfl rfl) ?_
     refine W_nil ?_
     refine E_then ?_
     refine C_ite rfl (fun hC2 => ?_) (fun hC2 => ?_)
     ·have _hC2 := trivial
      have hC2p : (i : Int) < ((longN a0 a1 : Nat) : Int) := by simpa using hC2
      refine C_skip ?_
      refine E_then ?_
      refine C_seq ?_
      refine C_block ?_
      refine C_region ?_
      refine wv rfl rfl rfl (R_move rfl rfl) <| wv rfl rfl rfl (R_move rfl rfl) ?_
      refine W_cons rfl (by decide) (S_row (d := kstr) (q := zE) hS ([a0] : List St) rfl (R_buildSlice (ps := [(0, (.tmp 38))]) (vs := [vstr a0]) (w' := w13.alloc (.cells [vstr a0].toArray 9)) (r := .slice (some ⟨w13.heap.size, 0, none⟩) 1 1) rfl rfl rfl (by kernel_rfl)) (by simp [Reps, flat, kstr]) rfl (by decide) (fun g20 w19 hS => ?_))
      have hcz23 := hS.cap 0 rfl
      obtain ⟨z23, hlez23, hrz23, hS⟩ := hS.fz 0 1 rfl rfl (by decide) (zle_E _)
      have hS := hS.lift 1 rfl hlez23
      refine W_cons rfl (by decide) (S_row (d := (kslice kstr)) (q := z23) hS ([([a0] : List St)] : List (List St)) rfl (R_buildSlice (ps := [(0, (.tmp 39))]) (vs := [.slice (some ⟨g20, 0, none⟩) ([a0] : List St).length 1]) (w' := w19.alloc (.cells [.slice (some ⟨g20, 0, none⟩) ([a0] : List St).length 1].toArray 33)) (r := .slice (some ⟨w19.heap.size, 0, none⟩) 1 1) rfl rfl rfl (by kernel_rfl)) ⟨_, _, rfl, ⟨_, _, rfl, hcz23, hrz23⟩, rfl⟩ rfl (by decide) (fun g22 w21 hS => ?_))
      refine W_cons rfl (by decide) (S_append hS 2 rfl rfl rfl elem25 rfl rfl (hS.sow 0 rfl (fun _ _ h => h)) (by (try simp only [List.length_cons, List.length_nil, List.length_append, List.length_replicate, maxLen]); omega) (by (try simp only [List.length_cons, List.length_nil, List.length_append, List.length_replicate, maxLen]); omega) (fun Ar25 cr25 w24 hS => ?_))
      have hp26 := hS.cap 2 rfl
      have hlhp26 := hp26.le
      have hmhp26 := hp26.mx
      refine wv rfl rfl rfl (R_assign rfl rfl) ?_
      refine W_nil ?_
      refine E_block_normal ?_
      refine E_then (C_fr [(0, vstr a0), (1, .bool a1), (5, .int .i64 ((longN a0 a1 : Nat) : Int)), (6, .slice Ar25 ((List.replicate i [a0]) ++ ([([a0] : List St)] : List (List St))).length cr25), (7, .int .i64 (i : Int))] rfl ?_)
      refine C_region ?_
      refine wv rfl rfl rfl (R_move rfl rfl) <| wv rfl rfl rfl (R_add64 rfl rfl rfl (by omega) (by omega)) <| wv rfl rfl rfl (R_assign rfl rfl) ?_
      refine W_nil ?_
      have hs27 : (List.replicate i [a0]) ++ ([([a0] : List St)] : List (List St)) = List.replicate (i + 1 : Nat) [a0] := by exact List.replicate_succ'.symm
      have hS := hS.re 2 rfl hs27
      refine E_round [0, 1, 5, 6, 7] ?_ ⟨(i + 1 : Nat), Ar25, cr25, z23, (by rw [← hs27] <;> rfl), (by omega), rfl, hS.fin [1, 2] (by decide) rfl⟩
      omega
     ·have _hC2 := trivial
      have hC2p : ¬ ((i : Int) < ((longN a0 a1 : Nat) : Int)) := by simpa using hC2
      refine C_exit ?_
      refine E_then_exit ?_
      refine E_then_exit ?_
      refine E_block_hit ?_
      refine E_then ?_
      refine C_seq ?_
      refine C_region ?_
      refine wv rfl rfl rfl (R_move rfl rfl) ?_
      refine W_cons rfl (by decide) (Sv_call rfl rfl rfl ent14 ?_)
      refine (qprint_calls (List.replicate i [a0]) Ar11 cr11 _ _ hS.out0 (hS.ow [] 1 rfl rfl (hS.zq [] 0 rfl rfl)) (hS.cap 1 rfl) (by exact fit_long (by omega) (by omega) hfq) (by first | exact HM.mono (by assumption) (hS.zl []) | exact HM.mono (by assumption) (hS.zl [0]) | exact HM.mono (by assumption) (hS.zl [1]))).mono ?_
      rintro e_ w28 ⟨rfl, hS_⟩
      refine ⟨_, rfl, ?_⟩
      have hS := hS.call0 hS_
      refine wv rfl rfl rfl (R_move rfl rfl) <| wv rfl rfl rfl (R_extract rfl rfl rfl) <| wv rfl rfl rfl (R_extract rfl rfl rfl) <| wv rfl rfl rfl (R_assign rfl rfl) <| wv rfl rfl rfl (R_assign rfl rfl) ?_
      refine W_nil ?_
      refine E_then (C_fr [(0, vstr a0), (1, .bool a1), (5, .int .i64 ((longN a0 a1 : Nat) : Int)), (8, vstr (printQ (List.replicate i [a0])).1), (9, .int .i64 (printQ (List.replicate i [a0])).2)] rfl ?_)
      refine C_seq ?_
      refine C_seq ?_
      refine C_region ?_
      refine wv rfl rfl rfl (R_move rfl rfl) ?_
      refine W_nil ?_
      refine E_then ?_
      refine C_if rfl hC1 ?_
      refine C_seq ?_
      refine C_region ?_
      refine wv rfl rfl rfl (R_move rfl rfl) <| wv rfl rfl rfl (R_streql rfl rfl rfl) <| wv rfl rfl rfl (R_move rfl rfl) ?_
      have hk30 : (decide ((printQ (List.replicate i [a0])).1 = [])) = true := by rw [long_t' (by simpa using hC1) hfq (by omega) (by omega) (by omega)]; rfl
      have hk30p : (printQ (List.replicate i [a0])).1 = [] := by simpa using hk30
      refine W_cons rfl (by decide) (Sv_gt rfl rfl rfl hk30 (Sv_val rfl (R_move rfl rfl) ?_))
      refine W_cons rfl (by decide) (Sv_gt rfl rfl rfl hk30 (Sv_val rfl (R_bin rfl rfl rfl rfl rfl) ?_))
      refine wv rfl rfl rfl (R_pick_t rfl rfl hk30 rfl) <| wv rfl rfl rfl (R_move rfl rfl) ?_
      have hk31 : (((printQ (List.replicate i [a0])).2 == 3)) = true := by rw [long_t' (by simpa using hC1) hfq (by omega) (by omega) (by omega)]; rfl
      have hk31p : (printQ (List.replicate i [a0])).2 = 3 := by simpa using hk31
      refine W_cons rfl (by decide) (Sv_gt rfl rfl rfl hk31 (Sv_call rfl rfl rfl ent9 ?_))
      refine (qawake_calls  _ _ hS.out0  (by first | exact HM.mono (by assumption) (hS.zl []) | exact HM.mono (by assumption) (hS.zl [0]) | exact HM.mono (by assumption) (hS.zl [1]))).mono ?_
      rintro e_ w32 ⟨rfl, hS_⟩
      refine ⟨_, rfl, ?_⟩
      have hS := hS.call0 hS_
      refine wv rfl rfl rfl (R_pick_t rfl rfl hk31 rfl) <| wv rfl rfl rfl (R_assign rfl rfl) ?_
      refine W_nil ?_
      refine E_then (C_fr [(4, .bool true)] rfl ?_)
      refine C_ret ?_
      refine E_then_ret ?_
      refine E_ret1 rfl rfl ?_
      exact ⟨Lret1 (Lbool (show true = true by rfl)), hS.fin [] (by decide) rfl⟩
    ·have _hC1 := trivial
     refine C_skip ?_
     refine E_then ?_
     refine C_seq ?_
     refine C_region ?_
     refine wv rfl rfl rfl (R_assign rfl rfl) ?_
     refine W_nil ?_
     refine E_then ?_
     refine C_seq ?_
     refine C_seq ?_
     refine C_region ?_
     refine wv rfl rfl rfl (R_assign rfl rfl) ?_
     refine W_nil ?_
     refine E_then ?_
     refine C_block ?_
     obtain ⟨z37, hS⟩ := hS.famx
     have hS := hS.nilrow (kslice kstr) 33 z37
     have hs39 : ([] : List (List St)) = List.replicate (0 : Nat) [a0] := by rfl
     have hS := hS.re 0 rfl hs39
     have hs40 : 65536 / ((a0.length : Int) + 2) = ((longN a0 a1 : Nat) : Int) := by first | exact longN_a (by simpa using hC1) | exact longN_b (by simpa using hC1)
     refine C_fr [(0, vstr a0), (1, .bool a1), (5, .int .i64 (65536 / ((a0.length : Int) + 2))), (6, .slice none 0 0), (7, .int .i64 0)] rfl ?_
     refine C_loop (fun m_ f_ w_ => ∃ (i : Nat) (Ar34 : Option Addr) (cr34 : Nat) (z35 : Z), f_ = [(0, vstr a0), (1, .bool a1), (5, .int .i64 ((longN a0 a1 : Nat) : Int)), (6, .slice Ar34 (List.replicate i [a0]).length cr34), (7, .int .i64 (i : Int))] ∧ i ≤ longN a0 a1 ∧ m_ = longN a0 a1 - i ∧ Sp (FF []) w z w_ [zR z35, oR (kslice kstr) 33 z35 Ar34 cr34 (List.replicate i [a0])]) (longN a0 a1 - (0 : Nat)) ⟨(0 : Nat), none, 0, z37, (by rw [← hs39, ← hs40] <;> rfl), (by omega), rfl, hS.fin [1, 0] (by decide) rfl⟩ ?_
     rintro m_ f_ w36 ⟨i, Ar34, cr34, z35, rfl, hI0_0, rfl, hS⟩
     have hp41 := hS.cap 1 rfl
     have hlhp41 := hp41.le
     have hmhp41 := hp41.mx
     refine C_seq ?_
     refine C_seq ?_
     refine C_region ?_
     refine wv rfl rfl rfl (R_move rfl rfl) <| wv rfl rfl rfl (R_move rfl rfl) <| wv rfl rfl rfl (R_bin rfl rfl rfl rfl rfl) ?_
     refine W_nil ?_
     refine E_then ?_
     refine C_ite rfl (fun hC2 => ?_) (fun hC2 => ?_)
     ·have _hC2 := trivial
      have hC2p : (i : Int) < ((longN a0 a1 : Nat) : Int) := by simpa using hC2
      refine C_skip ?_
      refine E_then ?_
      refine C_seq ?_
      refine C_block ?_
      refine C_region ?_
      refine wv rfl rfl rfl (R_move rfl rfl) <| wv rfl rfl rfl (R_move rfl rfl) ?_
      refine W_cons rfl (by decide) (S_row (d := kstr) (q := zE) hS ([a0] : List St) rfl (R_buildSlice (ps := [(0, (.tmp 38))]) (vs := [vstr a0]) (w' := w36.alloc (.cells [vstr a0].toArray 9)) (r := .slice (some ⟨w36.heap.size, 0, none⟩) 1 1) rfl rfl rfl (by kernel_rfl)) (by simp [Reps, flat, kstr]) rfl (by decide) (fun g43 w42 hS => ?_))
      have hcz46 := hS.cap 0 rfl
      obtain ⟨z46, hlez46, hrz46, hS⟩ := hS.fz 0 1 rfl rfl (by decide) (zle_E _)
      have hS := hS.lift 1 rfl hlez46
      refine W_cons rfl (by decide) (S_row (d := (kslice kstr)) (q := z46) hS ([([a0] : List St)] : List (List St)) rfl (R_buildSlice (ps := [(0, (.tmp 39))]) (vs := [.slice (some ⟨g43, 0, none⟩) ([a0] : List St).length 1]) (w' := w42.alloc (.cells [.slice (some ⟨g43, 0, none⟩) ([a0] : List St).length 1].toArray 33)) (r := .slice (some ⟨w42.heap.size, 0, none⟩) 1 1) rfl rfl rfl (by kernel_rfl)) ⟨_, _, rfl, ⟨_, _, rfl, hcz46, hrz46⟩, rfl⟩ rfl (by decide) (fun g45 w44 hS => ?_))
      refine W_cons rfl (by decide) (S_append hS 2 rfl rfl rfl elem25 rfl rfl (hS.sow 0 rfl (fun _ _ h => h)) (by (try simp only [List.length_cons, List.length_nil, List.length_append, List.length_replicate, maxLen]); omega) (by (try simp only [List.length_cons, List.length_nil, List.length_append, List.length_replicate, maxLen]); omega) (fun Ar48 cr48 w47 hS => ?_))
      have hp49 := hS.cap 2 rfl
      have hlhp49 := hp49.le
      have hmhp49 := hp49.mx
      refine wv rfl rfl rfl (R_assign rfl rfl) ?_
      refine W_nil ?_
      refine E_block_normal ?_
      refine E_then (C_fr [(0, vstr a0), (1, .bool a1), (5, .int .i64 ((longN a0 a1 : Nat) : Int)), (6, .slice Ar48 ((List.replicate i [a0]) ++ ([([a0] : List St)] : List (List St))).length cr48), (7, .int .i64 (i : Int))] rfl ?_)
      refine C_region ?_
      refine wv rfl rfl rfl (R_move rfl rfl) <| wv rfl rfl rfl (R_add64 rfl rfl rfl (by omega) (by omega)) <| wv rfl rfl rfl (R_assign rfl rfl) ?_
      refine W_nil ?_
      have hs50 : (List.replicate i [a0]) ++ ([([a0] : List St)] : List (List St)) = List.replicate (i + 1 : Nat) [a0] := by exact List.replicate_succ'.symm
      have hS := hS.re 2 rfl hs50
      refine E_round [0, 1, 5, 6, 7] ?_ ⟨(i + 1 : Nat), Ar48, cr48, z46, (by rw [← hs50] <;> rfl), (by omega), rfl, hS.fin [1, 2] (by decide) rfl⟩
      omega
     ·have _hC2 := trivial
      have hC2p : ¬ ((i : Int) < ((longN a0 a1 : Nat) : Int)) := by simpa using hC2
      refine C_exit ?_
      refine E_then_exit ?_
      refine E_then_exit ?_
      refine E_block_hit ?_
      refine E_then ?_
      refine C_seq ?_
      refine C_region ?_
      refine wv rfl rfl rfl (R_move rfl rfl) ?_
      refine W_cons rfl (by decide) (Sv_call rfl rfl rfl ent14 ?_)
      refine (qprint_calls (List.replicate i [a0]) Ar34 cr34 _ _ hS.out0 (hS.ow [] 1 rfl rfl (hS.zq [] 0 rfl rfl)) (hS.cap 1 rfl) (by exact fit_long (by omega) (by omega) hfq) (by first | exact HM.mono (by assumption) (hS.zl []) | exact HM.mono (by assumption) (hS.zl [0]) | exact HM.mono (by assumption) (hS.zl [1]))).mono ?_
      rintro e_ w51 ⟨rfl, hS_⟩
      refine ⟨_, rfl, ?_⟩
      have hS := hS.call0 hS_
      refine wv rfl rfl rfl (R_move rfl rfl) <| wv rfl rfl rfl (R_extract rfl rfl rfl) <| wv rfl rfl rfl (R_extract rfl rfl rfl) <| wv rfl rfl rfl (R_assign rfl rfl) <| wv rfl rfl rfl (R_assign rfl rfl) ?_
      refine W_nil ?_
      refine E_then (C_fr [(0, vstr a0), (1, .bool a1), (5, .int .i64 ((longN a0 a1 : Nat) : Int)), (8, vstr (printQ (List.replicate i [a0])).1), (9, .int .i64 (printQ (List.replicate i [a0])).2)] rfl ?_)
      refine C_seq ?_
      refine C_seq ?_
      refine C_region ?_
      refine wv rfl rfl rfl (R_move rfl rfl) ?_
      refine W_nil ?_
      refine E_then ?_
      refine C_else rfl hC1 ?_
      refine C_skip ?_
      refine E_then ?_
      refine C_seq ?_
      obtain ⟨hlf1, hlf2, hlf3, hlf4⟩ := long_f' (s := a0) (i := i) (m := a1) (by simpa using hC1) hfq (by omega) (by omega) (by omega) (by omega)
      refine C_region ?_
      refine wv rfl rfl rfl (R_move rfl rfl) <| wv rfl rfl rfl (R_strlen rfl rfl Tryd.underlying9) <| wv rfl rfl rfl (R_move rfl rfl) <| wv rfl rfl rfl (R_move rfl rfl) <| wv rfl rfl rfl (R_strlen rfl rfl Tryd.underlying9) <| wv rfl rfl rfl (R_add64 rfl rfl rfl (by omega) (by omega)) <| wv rfl rfl rfl (R_mul64 rfl rfl rfl (by omega) (by omega)) <| wv rfl rfl rfl (R_bin rfl rfl rfl rfl rfl) <| wv rfl rfl rfl (R_move rfl rfl) ?_
      have hk53 : ((((printQ (List.replicate i [a0])).1.length : Int) == (((longN a0 a1 : Nat) : Int) * ((a0.length : Int) + 2)))) = true := by simp only [hlf2]; simp
      have hk53p : ((printQ (List.replicate i [a0])).1.length : Int) = (((longN a0 a1 : Nat) : Int) * ((a0.length : Int) + 2)) := by simpa using hk53
      refine W_cons rfl (by decide) (Sv_gt rfl rfl rfl hk53 (Sv_val rfl (R_move rfl rfl) ?_))
      refine W_cons rfl (by decide) (Sv_gt rfl rfl rfl hk53 (Sv_val rfl (R_bin rfl rfl rfl rfl rfl) ?_))
      refine wv rfl rfl rfl (R_pick_t rfl rfl hk53 rfl) <| wv rfl rfl rfl (R_move rfl rfl) ?_
      have hk54 : (((printQ (List.replicate i [a0])).2 == 0)) = true := by rw [hlf1]; rfl
      have hk54p : (printQ (List.replicate i [a0])).2 = 0 := by simpa using hk54
      refine W_cons rfl (by decide) (Sv_gt rfl rfl rfl hk54 (Sv_call rfl rfl rfl ent9 ?_))
      refine (qawake_calls  _ _ hS.out0  (by first | exact HM.mono (by assumption) (hS.zl []) | exact HM.mono (by assumption) (hS.zl [0]) | exact HM.mono (by assumption) (hS.zl [1]))).mono ?_
      rintro e_ w55 ⟨rfl, hS_⟩
      refine ⟨_, rfl, ?_⟩
      have hS := hS.call0 hS_
      refine wv rfl rfl rfl (R_pick_t rfl rfl hk54 rfl) <| wv rfl rfl rfl (R_assign rfl rfl) ?_
      refine W_nil ?_
      refine E_then (C_fr [(4, .bool true)] rfl ?_)
      refine C_ret ?_
      refine E_ret1 rfl rfl ?_
      exact ⟨Lret1 (Lbool (show true = true by rfl)), hS.fin [] (by decide) rfl⟩

end Go.Proofs.YtcjaplaifmhajaaDoorG
