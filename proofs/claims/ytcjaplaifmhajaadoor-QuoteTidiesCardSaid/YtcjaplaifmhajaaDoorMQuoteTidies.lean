/- The walk of the law QuoteTidies: it returns true. -/
import Derived.Test.YtcjaplaifmhajaaDoorV1
set_option linter.all false
namespace Go.Proofs.YtcjaplaifmhajaaDoorG
open Go Go.RowKit
set_option maxHeartbeats 1000000 in
set_option maxRecDepth 20000 in
theorem quoteTidies_calls (a0 : St) (z : Z) (w : World) (hI : In z w [])  (p0 : HM z) :
    Calls Tryd.prog 6 #[vstr a0] w fun e w' => e = .returned (.bool true) ∧ Sp (FF []) w z w' [] := by
 have hS := hI.sp
 refine Calls_of (vs := [vstr a0]) (N := 62) Tryd.func6 rfl rfl (Nat.le_of_ble_eq_true rfl) ?_
 refine C_seq ?_
 refine C_region ?_
 refine wv rfl rfl rfl (R_assign rfl rfl) ?_
 refine W_nil ?_
 refine E_then ?_
 refine C_seq ?_
 refine C_seq ?_
 refine C_region ?_
 refine wv rfl rfl rfl (R_move rfl rfl) <| wv rfl rfl rfl (R_strlen rfl rfl Tryd.underlying9) <| wv rfl rfl rfl (R_bin rfl rfl rfl rfl rfl) <| wv rfl rfl rfl (R_move rfl rfl) ?_
 refine W_split (t := 12) rfl (fun hg1 => ?_) (fun hg1 => ?_)
 ·have _hg1 := trivial
  have hg1p : (a0.length : Int) > 3000 := by simpa using hg1
  refine W_cons rfl (by decide) (Sv_gt rfl rfl rfl hg1 (Sv_val rfl (R_move rfl rfl) ?_))
  refine W_cons rfl (by decide) (Sv_gt rfl rfl rfl hg1 (Sv_val rfl (R_strlen rfl rfl Tryd.underlying9) ?_))
  refine W_cons rfl (by decide) (Sv_gt rfl rfl rfl hg1 (Sv_val rfl (R_bin rfl rfl rfl rfl rfl) ?_))
  refine wv rfl rfl rfl (R_pick_t rfl rfl hg1 rfl) ?_
  refine W_nil ?_
  refine E_then (C_fr [(0, vstr a0), (16, .bool (decide ((a0.length : Int) ≤ 65536)))] rfl ?_)
  refine C_ite rfl (fun hC0 => ?_) (fun hC0 => ?_)
  ·have _hC0 := trivial
   have hC0p : (a0.length : Int) ≤ 65536 := by simpa using hC0
   refine C_seq ?_
   refine C_region ?_
   refine W_cons rfl (by decide) (Sv_call rfl rfl rfl ent9 ?_)
   refine (qawake_calls  _ _ hS.out0  (by first | exact HM.mono (by assumption) (hS.zl []) | exact HM.mono (by assumption) (hS.zl [0]) | exact HM.mono (by assumption) (hS.zl [1]))).mono ?_
   rintro e_ w2 ⟨rfl, hS_⟩
   refine ⟨_, rfl, ?_⟩
   have hS := hS.call0 hS_
   refine wv rfl rfl rfl (R_assign rfl rfl) ?_
   refine W_nil ?_
   refine E_then ?_
   refine C_ret ?_
   refine E_then_ret ?_
   refine E_ret1 rfl rfl ?_
   exact ⟨Lret1 (Lbool (show true = true by rfl)), hS.fin [] (by decide) rfl⟩
  ·have _hC0 := trivial
   have hC0p : ¬ ((a0.length : Int) ≤ 65536) := by simpa using hC0
   refine C_skip ?_
   refine E_then ?_
   refine C_seq ?_
   refine C_region ?_
   refine wv rfl rfl rfl (R_move rfl rfl) ?_
   refine W_cons rfl (by decide) (Sv_call rfl rfl rfl ent17 ?_)
   refine (qtidy_calls a0 _ _ hS.out0  (by first | exact HM.mono (by assumption) (hS.zl []) | exact HM.mono (by assumption) (hS.zl [0]) | exact HM.mono (by assumption) (hS.zl [1]))).mono ?_
   rintro e_ w4 ⟨rfl, hS_⟩
   refine ⟨_, rfl, ?_⟩
   have hS := hS.call0 hS_
   refine wv rfl rfl rfl (R_move rfl rfl) <| wv rfl rfl rfl (R_extract rfl rfl rfl) <| wv rfl rfl rfl (R_extract rfl rfl rfl) <| wv rfl rfl rfl (R_extract rfl rfl rfl) <| wv rfl rfl rfl (R_assign rfl rfl) <| wv rfl rfl rfl (R_assign rfl rfl) <| wv rfl rfl rfl (R_assign rfl rfl) ?_
   refine W_nil ?_
   refine E_then (C_fr [(0, vstr a0), (3, vstr (tidyQ a0).1), (4, .int .i64 (tidyQ a0).2.1), (5, .int .i64 (tidyQ a0).2.2)] rfl ?_)
   refine C_seq ?_
   refine C_seq ?_
   refine C_region ?_
   refine wv rfl rfl rfl (R_move rfl rfl) <| wv rfl rfl rfl (R_strlen rfl rfl Tryd.underlying9) <| wv rfl rfl rfl (R_bin rfl rfl rfl rfl rfl) ?_
   refine W_nil ?_
   refine E_then ?_
   refine C_ite rfl (fun hC1 => ?_) (fun hC1 => ?_)
   ·have _hC1 := trivial
    have hC1p : (a0.length : Int) > 65536 := by simpa using hC1
    refine C_seq ?_
    refine C_region ?_
    refine wv rfl rfl rfl (R_move rfl rfl) <| wv rfl rfl rfl (R_streql rfl rfl rfl) <| wv rfl rfl rfl (R_move rfl rfl) ?_
    have hk6 : (decide ((tidyQ a0).1 = [])) = true := by first | (rw [tidy_long (by omega)]; rfl) | (rw [tidy_eq (by omega)]; simp; done) | (simp [tidy_long (s := a0) (by omega)]; done) | (simp [tidy_eq (s := a0) (by omega)]; done)
    have hk6p : (tidyQ a0).1 = [] := by simpa using hk6
    refine W_cons rfl (by decide) (Sv_gt rfl rfl rfl hk6 (Sv_val rfl (R_move rfl rfl) ?_))
    refine W_cons rfl (by decide) (Sv_gt rfl rfl rfl hk6 (Sv_val rfl (R_bin rfl rfl rfl rfl rfl) ?_))
    refine wv rfl rfl rfl (R_pick_t rfl rfl hk6 rfl) <| wv rfl rfl rfl (R_move rfl rfl) ?_
    have hk7 : (((tidyQ a0).2.1 == 0)) = true := by first | (rw [tidy_long (by omega)]; rfl) | (rw [tidy_eq (by omega)]; simp; done) | (simp [tidy_long (s := a0) (by omega)]; done) | (simp [tidy_eq (s := a0) (by omega)]; done)
    have hk7p : (tidyQ a0).2.1 = 0 := by simpa using hk7
    refine W_cons rfl (by decide) (Sv_gt rfl rfl rfl hk7 (Sv_val rfl (R_move rfl rfl) ?_))
    refine W_cons rfl (by decide) (Sv_gt rfl rfl rfl hk7 (Sv_val rfl (R_bin rfl rfl rfl rfl rfl) ?_))
    refine wv rfl rfl rfl (R_pick_t rfl rfl hk7 rfl) <| wv rfl rfl rfl (R_move rfl rfl) ?_
    have hk8 : (((tidyQ a0).2.2 == 3)) = true := by first | (rw [tidy_long (by omega)]; rfl) | (rw [tidy_eq (by omega)]; simp; done) | (simp [tidy_long (s := a0) (by omega)]; done) | (simp [tidy_eq (s := a0) (by omega)]; done)
    have hk8p : (tidyQ a0).2.2 = 3 := by simpa using hk8
    refine W_cons rfl (by decide) (Sv_gt rfl rfl rfl hk8 (Sv_call rfl rfl rfl ent9 ?_))
    refine (qawake_calls  _ _ hS.out0  (by first | exact HM.mono (by assumption) (hS.zl []) | exact HM.mono (by assumption) (hS.zl [0]) | exact HM.mono (by assumption) (hS.zl [1]))).mono ?_
    rintro e_ w9 ⟨rfl, hS_⟩
    refine ⟨_, rfl, ?_⟩
    have hS := hS.call0 hS_
    refine wv rfl rfl rfl (R_pick_t rfl rfl hk8 rfl) <| wv rfl rfl rfl (R_assign rfl rfl) ?_
    refine W_nil ?_
    refine E_then (C_fr [(2, .bool true)] rfl ?_)
    refine C_ret ?_
    refine E_then_ret ?_
    refine E_ret1 rfl rfl ?_
    exact ⟨Lret1 (Lbool (show true = true by rfl)), hS.fin [] (by decide) rfl⟩
   ·have _hC1 := trivial
    have hC1p : ¬ ((a0.length : Int) > 65536) := by simpa using hC1
    refine C_skip ?_
    refine E_then ?_
    refine C_seq ?_
    refine C_region ?_
    refine wv rfl rfl rfl (R_move rfl rfl) ?_
    refine W_cons rfl (by decide) (Sv_call rfl rfl rfl ent18 ?_)
    refine (rqtidy_calls a0 _ _ hS.out0  (by omega)).mono ?_
    rintro e_ w11 ⟨rfl, hS_⟩
    refine ⟨_, rfl, ?_⟩
    have hS := hS.call0 hS_
    refine wv rfl rfl rfl (R_move rfl rfl) <| wv rfl rfl rfl (R_extract rfl rfl rfl) <| wv rfl rfl rfl (R_extract rfl rfl rfl) <| wv rfl rfl rfl (R_extract rfl rfl rfl) <| wv rfl rfl rfl (R_assign rfl rfl) <| wv rfl rfl rfl (R_assign rfl rfl) <| wv rfl rfl rfl (R_assign rfl rfl) ?_
    refine W_nil ?_
    refine E_then (C_fr [(3, vstr (tidyQ a0).1), (4, .int .i64 (tidyQ a0).2.1), (5, .int .i64 (tidyQ a0).2.2), (6, vstr (rtidyQ a0).1), (7, .int .i64 (rtidyQ a0).2.1), (8, .int .i64 (rtidyQ a0).2.2)] rfl ?_)
    refine C_seq ?_
    refine C_region ?_
    refine wv rfl rfl rfl (R_move rfl rfl) <| wv rfl rfl rfl (R_move rfl rfl) <| wv rfl rfl rfl (R_streql rfl rfl rfl) <| wv rfl rfl rfl (R_move rfl rfl) ?_
    have hk13 : (decide ((tidyQ a0).1 = (rtidyQ a0).1)) = true := by first | (rw [tidy_long (by omega)]; rfl) | (rw [tidy_eq (by omega)]; simp; done) | (simp [tidy_long (s := a0) (by omega)]; done) | (simp [tidy_eq (s := a0) (by omega)]; done)
    have hk13p : (tidyQ a0).1 = (rtidyQ a0).1 := by simpa using hk13
    refine W_cons rfl (by decide) (Sv_gt rfl rfl rfl hk13 (Sv_val rfl (R_move rfl rfl) ?_))
    refine W_cons rfl (by decide) (Sv_gt rfl rfl rfl hk13 (Sv_val rfl (R_move rfl rfl) ?_))
    refine W_cons rfl (by decide) (Sv_gt rfl rfl rfl hk13 (Sv_val rfl (R_bin rfl rfl rfl rfl rfl) ?_))
    refine wv rfl rfl rfl (R_pick_t rfl rfl hk13 rfl) <| wv rfl rfl rfl (R_move rfl rfl) ?_
    have hk14 : (((tidyQ a0).2.1 == (rtidyQ a0).2.1)) = true := by first | (rw [tidy_long (by omega)]; rfl) | (rw [tidy_eq (by omega)]; simp; done) | (simp [tidy_long (s := a0) (by omega)]; done) | (simp [tidy_eq (s := a0) (by omega)]; done)
    have hk14p : (tidyQ a0).2.1 = (rtidyQ a0).2.1 := by simpa using hk14
    refine W_cons rfl (by decide) (Sv_gt rfl rfl rfl hk14 (Sv_val rfl (R_move rfl rfl) ?_))
    refine W_cons rfl (by decide) (Sv_gt rfl rfl rfl hk14 (Sv_val rfl (R_move rfl rfl) ?_))
    refine W_cons rfl (by decide) (Sv_gt rfl rfl rfl hk14 (Sv_val rfl (R_bin rfl rfl rfl rfl rfl) ?_))
    refine wv rfl rfl rfl (R_pick_t rfl rfl hk14 rfl) <| wv rfl rfl rfl (R_move rfl rfl) ?_
    have hk15 : (((tidyQ a0).2.2 == (rtidyQ a0).2.2)) = true := by first | (rw [tidy_long (by omega)]; rfl) | (rw [tidy_eq (by omega)]; simp; done) | (simp [tidy_long (s := a0) (by omega)]; done) | (simp [tidy_eq (s := a0) (by omega)]; done)
    have hk15p : (tidyQ a0).2.2 = (rtidyQ a0).2.2 := by simpa using hk15
    refine W_cons rfl (by decide) (Sv_gt rfl rfl rfl hk15 (Sv_call rfl rfl rfl ent9 ?_))
    refine (qawake_calls  _ _ hS.out0  (by first | exact HM.mono (by assumption) (hS.zl []) | exact HM.mono (by assumption) (hS.zl [0]) | exact HM.mono (by assumption) (hS.zl [1]))).mono ?_
    rintro e_ w16 ⟨rfl, hS_⟩
    refine ⟨_, rfl, ?_⟩
    have hS := hS.call0 hS_
    refine wv rfl rfl rfl (R_pick_t rfl rfl hk15 rfl) <| wv rfl rfl rfl (R_assign rfl rfl) ?_
    refine W_nil ?_
    refine E_then (C_fr [(2, .bool true)] rfl ?_)
    refine C_ret ?_
    refine E_ret1 rfl rfl ?_
    exact ⟨Lret1 (Lbool (show true = true by rfl)), hS.fin [] (by decide) rfl⟩
 ·have _hg1 := trivial
  have hg1p : ¬ ((a0.length : Int) > 3000) := by simpa using hg1
  refine W_cons rfl (by decide) (Sv_off rfl rfl rfl (by rw [hg1] <;> rfl) ?_)
  refine W_cons rfl (by decide) (Sv_off rfl rfl rfl (by rw [hg1] <;> rfl) ?_)
  refine W_cons rfl (by decide) (Sv_off rfl rfl rfl (by rw [hg1] <;> rfl) ?_)
  refine wv rfl rfl rfl (R_pick_f rfl rfl hg1 rfl) ?_
  refine W_nil ?_
  refine E_then (C_fr [(0, vstr a0), (16, .bool false)] rfl ?_)
  refine C_else rfl rfl ?_
  refine C_skip ?_
  refine E_then ?_
  refine C_seq ?_
  refine C_region ?_
  refine wv rfl rfl rfl (R_move rfl rfl) ?_
  refine W_cons rfl (by decide) (Sv_call rfl rfl rfl ent17 ?_)
  refine (qtidy_calls a0 _ _ hS.out0  (by first | exact HM.mono (by assumption) (hS.zl []) | exact HM.mono (by assumption) (hS.zl [0]) | exact HM.mono (by assumption) (hS.zl [1]))).mono ?_
  rintro e_ w18 ⟨rfl, hS_⟩
  refine ⟨_, rfl, ?_⟩
  have hS := hS.call0 hS_
  refine wv rfl rfl rfl (R_move rfl rfl) <| wv rfl rfl rfl (R_extract rfl rfl rfl) <| wv rfl rfl rfl (R_extract rfl rfl rfl) <| wv rfl rfl rfl (R_extract rfl rfl rfl) <| wv rfl rfl rfl (R_assign rfl rfl) <| wv rfl rfl rfl (R_assign rfl rfl) <| wv rfl rfl rfl (R_assign rfl rfl) ?_
  refine W_nil ?_
  refine E_then (C_fr [(0, vstr a0), (3, vstr (tidyQ a0).1), (4, .int .i64 (tidyQ a0).2.1), (5, .int .i64 (tidyQ a0).2.2)] rfl ?_)
  refine C_seq ?_
  refine C_seq ?_
  refine C_region ?_
  refine wv rfl rfl rfl (R_move rfl rfl) <| wv rfl rfl rfl (R_strlen rfl rfl Tryd.underlying9) <| wv rfl rfl rfl (R_bin rfl rfl rfl rfl rfl) ?_
  refine W_nil ?_
  refine E_then ?_
  refine C_ite rfl (fun hC1 => ?_) (fun hC1 => ?_)
  ·have _hC1 := trivial
   have hC1p : (a0.length : Int) > 65536 := by simpa using hC1
   refine C_seq ?_
   refine C_region ?_
   refine wv rfl rfl rfl (R_move rfl rfl) <| wv rfl rfl rfl (R_streql rfl rfl rfl) <| wv rfl rfl rfl (R_move rfl rfl) ?_
   have hk20 : (decide ((tidyQ a0).1 = [])) = true := by first | (rw [tidy_long (by omega)]; rfl) | (rw [tidy_eq (by omega)]; simp; done) | (simp [tidy_long (s := a0) (by omega)]; done) | (simp [tidy_eq (s := a0) (by omega)]; done)
   have hk20p : (tidyQ a0).1 = [] := by simpa using hk20
   refine W_cons rfl (by decide) (Sv_gt rfl rfl rfl hk20 (Sv_val rfl (R_move rfl rfl) ?_))
   refine W_cons rfl (by decide) (Sv_gt rfl rfl rfl hk20 (Sv_val rfl (R_bin rfl rfl rfl rfl rfl) ?_))
   refine wv rfl rfl rfl (R_pick_t rfl rfl hk20 rfl) <| wv rfl rfl rfl (R_move rfl rfl) ?_
   have hk21 : (((tidyQ a0).2.1 == 0)) = true := by first | (rw [tidy_long (by omega)]; rfl) | (rw [tidy_eq (by omega)]; simp; done) | (simp [tidy_long (s := a0) (by omega)]; done) | (simp [tidy_eq (s := a0) (by omega)]; done)
   have hk21p : (tidyQ a0).2.1 = 0 := by simpa using hk21
   refine W_cons rfl (by decide) (Sv_gt rfl rfl rfl hk21 (Sv_val rfl (R_move rfl rfl) ?_))
   refine W_cons rfl (by decide) (Sv_gt rfl rfl rfl hk21 (Sv_val rfl (R_bin rfl rfl rfl rfl rfl) ?_))
   refine wv rfl rfl rfl (R_pick_t rfl rfl hk21 rfl) <| wv rfl rfl rfl (R_move rfl rfl) ?_
   have hk22 : (((tidyQ a0).2.2 == 3)) = true := by first | (rw [tidy_long (by omega)]; rfl) | (rw [tidy_eq (by omega)]; simp; done) | (simp [tidy_long (s := a0) (by omega)]; done) | (simp [tidy_eq (s := a0) (by omega)]; done)
   have hk22p : (tidyQ a0).2.2 = 3 := by simpa using hk22
   refine W_cons rfl (by decide) (Sv_gt rfl rfl rfl hk22 (Sv_call rfl rfl rfl ent9 ?_))
   refine (qawake_calls  _ _ hS.out0  (by first | exact HM.mono (by assumption) (hS.zl []) | exact HM.mono (by assumption) (hS.zl [0]) | exact HM.mono (by assumption) (hS.zl [1]))).mono ?_
   rintro e_ w23 ⟨rfl, hS_⟩
   refine ⟨_, rfl, ?_⟩
   have hS := hS.call0 hS_
   refine wv rfl rfl rfl (R_pick_t rfl rfl hk22 rfl) <| wv rfl rfl rfl (R_assign rfl rfl) ?_
   refine W_nil ?_
   refine E_then (C_fr [(2, .bool true)] rfl ?_)
   refine C_ret ?_
   refine E_then_ret ?_
   refine E_ret1 rfl rfl ?_
   exact ⟨Lret1 (Lbool (show true = true by rfl)), hS.fin [] (by decide) rfl⟩
  ·have _hC1 := trivial
   have hC1p : ¬ ((a0.length : Int) > 65536) := by simpa using hC1
   refine C_skip ?_
   refine E_then ?_
   refine C_seq ?_
   refine C_region ?_
   refine wv rfl rfl rfl (R_move rfl rfl) ?_
   refine W_cons rfl (by decide) (Sv_call rfl rfl rfl ent18 ?_)
   refine (rqtidy_calls a0 _ _ hS.out0  (by omega)).mono ?_
   rintro e_ w25 ⟨rfl, hS_⟩
   refine ⟨_, rfl, ?_⟩
   have hS := hS.call0 hS_
   refine wv rfl rfl rfl (R_move rfl rfl) <| wv rfl rfl rfl (R_extract rfl rfl rfl) <| wv rfl rfl rfl (R_extract rfl rfl rfl) <| wv rfl rfl rfl (R_extract rfl rfl rfl) <| wv rfl rfl rfl (R_assign rfl rfl) <| wv rfl rfl rfl (R_assign rfl rfl) <| wv rfl rfl rfl (R_assign rfl rfl) ?_
   refine W_nil ?_
   refine E_then (C_fr [(3, vstr (tidyQ a0).1), (4, .int .i64 (tidyQ a0).2.1), (5, .int .i64 (tidyQ a0).2.2), (6, vstr (rtidyQ a0).1), (7, .int .i64 (rtidyQ a0).2.1), (8, .int .i64 (rtidyQ a0).2.2)] rfl ?_)
   refine C_seq ?_
   refine C_region ?_
   refine wv rfl rfl rfl (R_move rfl rfl) <| wv rfl rfl rfl (R_move rfl rfl) <| wv rfl rfl rfl (R_streql rfl rfl rfl) <| wv rfl rfl rfl (R_move rfl rfl) ?_
   have hk27 : (decide ((tidyQ a0).1 = (rtidyQ a0).1)) = true := by first | (rw [tidy_long (by omega)]; rfl) | (rw [tidy_eq (by omega)]; simp; done) | (simp [tidy_long (s := a0) (by omega)]; done) | (simp [tidy_eq (s := a0) (by omega)]; done)
   have hk27p : (tidyQ a0).1 = (rtidyQ a0).1 := by simpa using hk27
   refine W_cons rfl (by decide) (Sv_gt rfl rfl rfl hk27 (Sv_val rfl (R_move rfl rfl) ?_))
   refine W_cons rfl (by decide) (Sv_gt rfl rfl rfl hk27 (Sv_val rfl (R_move rfl rfl) ?_))
   refine W_cons rfl (by decide) (Sv_gt rfl rfl rfl hk27 (Sv_val rfl (R_bin rfl rfl rfl rfl rfl) ?_))
   refine wv rfl rfl rfl (R_pick_t rfl rfl hk27 rfl) <| wv rfl rfl rfl (R_move rfl rfl) ?_
   have hk28 : (((tidyQ a0).2.1 == (rtidyQ a0).2.1)) = true := by first | (rw [tidy_long (by omega)]; rfl) | (rw [tidy_eq (by omega)]; simp; done) | (simp [tidy_long (s := a0) (by omega)]; done) | (simp [tidy_eq (s := a0) (by omega)]; done)
   have hk28p : (tidyQ a0).2.1 = (rtidyQ a0).2.1 := by simpa using hk28
   refine W_cons rfl (by decide) (Sv_gt rfl rfl rfl hk28 (Sv_val rfl (R_move rfl rfl) ?_))
   refine W_cons rfl (by decide) (Sv_gt rfl rfl rfl hk28 (Sv_val rfl (R_move rfl rfl) ?_))
   refine W_cons rfl (by decide) (Sv_gt rfl rfl rfl hk28 (Sv_val rfl (R_bin rfl rfl rfl rfl rfl) ?_))
   refine wv rfl rfl rfl (R_pick_t rfl rfl hk28 rfl) <| wv rfl rfl rfl (R_move rfl rfl) ?_
   have hk29 : (((tidyQ a0).2.2 == (rtidyQ a0).2.2)) = true := by first | (rw [tidy_long (by omega)]; rfl) | (rw [tidy_eq (by omega)]; simp; done) | (simp [tidy_long (s := a0) (by omega)]; done) | (simp [tidy_eq (s := a0) (by omega)]; done)
   have hk29p : (tidyQ a0).2.2 = (rtidyQ a0).2.2 := by simpa using hk29
   refine W_cons rfl (by decide) (Sv_gt rfl rfl rfl hk29 (Sv_call rfl rfl rfl ent9 ?_))
   refine (qawake_calls  _ _ hS.out0  (by first | exact HM.mono (by assumption) (hS.zl []) | exact HM.mono (by assumption) (hS.zl [0]) | exact HM.mono (by assumption) (hS.zl [1]))).mono ?_
   rintro e_ w30 ⟨rfl, hS_⟩
   refine ⟨_, rfl, ?_⟩
   have hS := hS.call0 hS_
   refine wv rfl rfl rfl (R_pick_t rfl rfl hk29 rfl) <| wv rfl rfl rfl (R_assign rfl rfl) ?_
   refine W_nil ?_
   refine E_then (C_fr [(2, .bool true)] rfl ?_)
   refine C_ret ?_
   refine E_ret1 rfl rfl ?_
   exact ⟨Lret1 (Lbool (show true = true by rfl)), hS.fin [] (by decide) rfl⟩

end Go.Proofs.YtcjaplaifmhajaaDoorG
