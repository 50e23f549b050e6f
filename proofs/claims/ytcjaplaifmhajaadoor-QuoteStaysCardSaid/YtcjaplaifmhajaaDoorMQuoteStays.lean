/- The walk of the law QuoteStays: it returns true. -/
import Derived.Test.YtcjaplaifmhajaaDoorV1
set_option linter.all false
namespace Go.Proofs.YtcjaplaifmhajaaDoorG
open Go Go.RowKit
set_option maxHeartbeats 1000000 in
set_option maxRecDepth 20000 in
theorem quoteStays_calls (a0 : St) (z : Z) (w : World) (hI : In z w [])  (p0 : HM z) :
    Calls Tryd.prog 8 #[vstr a0] w fun e w' => e = .returned (.bool true) ∧ Sp (FF []) w z w' [] := by
 have hS := hI.sp
 refine Calls_of (vs := [vstr a0]) (N := 85) Tryd.func8 rfl rfl (Nat.le_of_ble_eq_true rfl) ?_
 refine C_seq ?_
 refine C_region ?_
 refine wv rfl rfl rfl (R_assign rfl rfl) ?_
 refine W_nil ?_
 refine E_then ?_
 refine C_seq ?_
 refine C_seq ?_
 refine C_region ?_
 refine wv rfl rfl rfl (R_move rfl rfl) <| wv rfl rfl rfl (R_strlen rfl rfl Tryd.underlying9) <| wv rfl rfl rfl (R_bin rfl rfl rfl rfl rfl) ?_
 refine W_nil ?_
 refine E_then ?_
 refine C_ite rfl (fun hC0 => ?_) (fun hC0 => ?_)
 ·have _hC0 := trivial
  have hC0p : (a0.length : Int) > 3000 := by simpa using hC0
  refine C_seq ?_
  refine C_region ?_
  refine W_cons rfl (by decide) (Sv_call rfl rfl rfl ent9 ?_)
  refine (qawake_calls  _ _ hS.out0  (by first | exact HM.mono (by assumption) (hS.zl []) | exact HM.mono (by assumption) (hS.zl [0]) | exact HM.mono (by assumption) (hS.zl [1]))).mono ?_
  rintro e_ w1 ⟨rfl, hS_⟩
  refine ⟨_, rfl, ?_⟩
  have hS := hS.call0 hS_
  refine wv rfl rfl rfl (R_assign rfl rfl) ?_
  refine W_nil ?_
  refine E_then (C_fr [(2, .bool true)] rfl ?_)
  refine C_ret ?_
  refine E_then_ret ?_
  refine E_ret1 rfl rfl ?_
  exact ⟨Lret1 (Lbool (show true = true by rfl)), hS.fin [] (by decide) rfl⟩
 ·have _hC0 := trivial
  have hC0p : ¬ ((a0.length : Int) > 3000) := by simpa using hC0
  obtain ⟨hA1, hA2, hB, hC⟩ := stays (s := a0) (by omega)
  refine C_skip ?_
  refine E_then ?_
  refine C_seq ?_
  refine C_region ?_
  refine wv rfl rfl rfl (R_move rfl rfl) ?_
  refine W_cons rfl (by decide) (Sv_call rfl rfl rfl ent17 ?_)
  refine (qtidy_calls a0 _ _ hS.out0  (by first | exact HM.mono (by assumption) (hS.zl []) | exact HM.mono (by assumption) (hS.zl [0]) | exact HM.mono (by assumption) (hS.zl [1]))).mono ?_
  rintro e_ w3 ⟨rfl, hS_⟩
  refine ⟨_, rfl, ?_⟩
  have hS := hS.call0 hS_
  refine wv rfl rfl rfl (R_move rfl rfl) <| wv rfl rfl rfl (R_extract rfl rfl rfl) <| wv rfl rfl rfl (R_extract rfl rfl rfl) <| wv rfl rfl rfl (R_extract rfl rfl rfl) <| wv rfl rfl rfl (R_assign rfl rfl) <| wv rfl rfl rfl (R_assign rfl rfl) <| wv rfl rfl rfl (R_assign rfl rfl) ?_
  refine W_nil ?_
  refine E_then (C_fr [(0, vstr a0), (3, vstr (tidyQ a0).1), (4, .int .i64 (tidyQ a0).2.1), (5, .int .i64 (tidyQ a0).2.2)] rfl ?_)
  refine C_seq ?_
  refine C_region ?_
  refine wv rfl rfl rfl (R_move rfl rfl) ?_
  refine W_cons rfl (by decide) (Sv_call rfl rfl rfl ent19 ?_)
  refine (parse_calls a0 _ _ hS.out0  ).mono ?_
  rintro e_ w5 ⟨AR0_6, cR0_6, qR0_6, rfl, hS_⟩
  refine ⟨_, rfl, ?_⟩
  have hS := hS.call0 hS_
  have hp7 := hS.cap 1 rfl
  have hlhp7 := hp7.le
  have hmhp7 := hp7.mx
  refine wv rfl rfl rfl (R_move rfl rfl) <| wv rfl rfl rfl (R_extract rfl rfl rfl) <| wv rfl rfl rfl (R_extract rfl rfl rfl) <| wv rfl rfl rfl (R_extract rfl rfl rfl) <| wv rfl rfl rfl (R_assign rfl rfl) <| wv rfl rfl rfl (R_assign rfl rfl) <| wv rfl rfl rfl (R_assign rfl rfl) ?_
  refine W_nil ?_
  refine E_then (C_fr [(3, vstr (tidyQ a0).1), (4, .int .i64 (tidyQ a0).2.1), (5, .int .i64 (tidyQ a0).2.2), (6, .slice AR0_6 (parseS a0).1.length cR0_6), (7, .int .i64 (parseS a0).2.1), (8, .int .i64 (parseS a0).2.2)] rfl ?_)
  refine C_seq ?_
  refine C_seq ?_
  refine C_region ?_
  refine wv rfl rfl rfl (R_move rfl rfl) <| wv rfl rfl rfl (R_move rfl rfl) <| wv rfl rfl rfl (R_bin rfl rfl rfl rfl rfl) <| wv rfl rfl rfl (R_move rfl rfl) ?_
  have hk8 : (((tidyQ a0).2.2 != (parseS a0).2.2)) = false := by first | (simp [hA1, hA2]; done) | (simp [hB (by assumption)]; done) | (simp [hB (by simpa using hC1)]; done) | (simp [hD.1, hD.2]; done)
  have hk8p : (tidyQ a0).2.2 = (parseS a0).2.2 := by simpa using hk8
  refine W_cons rfl (by decide) (Sv_gt rfl rfl rfl hk8 (Sv_val rfl (R_move rfl rfl) ?_))
  refine W_cons rfl (by decide) (Sv_gt rfl rfl rfl hk8 (Sv_val rfl (R_move rfl rfl) ?_))
  refine W_cons rfl (by decide) (Sv_gt rfl rfl rfl hk8 (Sv_val rfl (R_bin rfl rfl rfl rfl rfl) ?_))
  refine wv rfl rfl rfl (R_pick_f rfl rfl hk8 rfl) ?_
  refine W_nil ?_
  refine E_then (C_fr [(3, vstr (tidyQ a0).1), (5, .int .i64 (tidyQ a0).2.2), (6, .slice AR0_6 (parseS a0).1.length cR0_6), (38, .bool ((tidyQ a0).2.1 != (parseS a0).2.1))] rfl ?_)
  have hk9 : (((tidyQ a0).2.1 != (parseS a0).2.1)) = false := by first | (simp [hA1, hA2]; done) | (simp [hB (by assumption)]; done) | (simp [hB (by simpa using hC1)]; done) | (simp [hD.1, hD.2]; done)
  have hk9p : (tidyQ a0).2.1 = (parseS a0).2.1 := by simpa using hk9
  refine C_else rfl hk9 ?_
  refine C_skip ?_
  refine E_then ?_
  refine C_seq ?_
  refine C_seq ?_
  refine C_region ?_
  refine wv rfl rfl rfl (R_move rfl rfl) <| wv rfl rfl rfl (R_bin rfl rfl rfl rfl rfl) ?_
  refine W_nil ?_
  refine E_then ?_
  refine C_ite rfl (fun hC2 => ?_) (fun hC2 => ?_)
  ·have _hC2 := trivial
   have hC2p : ¬ (tidyQ a0).2.2 = 0 := by simpa using hC2
   have hB0 := trivial
   refine C_seq ?_
   refine C_region ?_
   refine wv rfl rfl rfl (R_move rfl rfl) <| wv rfl rfl rfl (R_streql rfl rfl rfl) <| wv rfl rfl rfl (R_move rfl rfl) ?_
   have hk10 : (decide ((tidyQ a0).1 = [])) = true := by first | (simp [hA1, hA2]; done) | (simp [hB (by assumption)]; done) | (simp [hB (by simpa using hC1)]; done) | (simp [hD.1, hD.2]; done)
   have hk10p : (tidyQ a0).1 = [] := by simpa using hk10
   refine W_cons rfl (by decide) (Sv_gt rfl rfl rfl hk10 (Sv_call rfl rfl rfl ent9 ?_))
   refine (qawake_calls  _ _ hS.out0  (by first | exact HM.mono (by assumption) (hS.zl []) | exact HM.mono (by assumption) (hS.zl [0]) | exact HM.mono (by assumption) (hS.zl [1]))).mono ?_
   rintro e_ w11 ⟨rfl, hS_⟩
   refine ⟨_, rfl, ?_⟩
   have hS := hS.call0 hS_
   refine wv rfl rfl rfl (R_pick_t rfl rfl hk10 rfl) <| wv rfl rfl rfl (R_assign rfl rfl) ?_
   refine W_nil ?_
   refine E_then (C_fr [(2, .bool true)] rfl ?_)
   refine C_ret ?_
   refine E_then_ret ?_
   refine E_ret1 rfl rfl ?_
   exact ⟨Lret1 (Lbool (show true = true by rfl)), hS.fin [] (by decide) rfl⟩
  ·have _hC2 := trivial
   have hC2p : (tidyQ a0).2.2 = 0 := by simpa using hC2
   have hD := hC (by simpa using hC2)
   refine C_skip ?_
   refine E_then ?_
   refine C_seq ?_
   refine C_region ?_
   refine wv rfl rfl rfl (R_move rfl rfl) ?_
   refine W_cons rfl (by decide) (Sv_call rfl rfl rfl ent17 ?_)
   refine (qtidy_calls (tidyQ a0).1 _ _ hS.out0  (by first | exact HM.mono (by assumption) (hS.zl []) | exact HM.mono (by assumption) (hS.zl [0]) | exact HM.mono (by assumption) (hS.zl [1]))).mono ?_
   rintro e_ w13 ⟨rfl, hS_⟩
   refine ⟨_, rfl, ?_⟩
   have hS := hS.call0 hS_
   refine wv rfl rfl rfl (R_move rfl rfl) <| wv rfl rfl rfl (R_extract rfl rfl rfl) <| wv rfl rfl rfl (R_extract rfl rfl rfl) <| wv rfl rfl rfl (R_extract rfl rfl rfl) <| wv rfl rfl rfl (R_assign rfl rfl) <| wv rfl rfl rfl (R_assign rfl rfl) <| wv rfl rfl rfl (R_assign rfl rfl) ?_
   refine W_nil ?_
   refine E_then (C_fr [(3, vstr (tidyQ a0).1), (6, .slice AR0_6 (parseS a0).1.length cR0_6), (9, vstr (tidyQ (tidyQ a0).1).1), (10, .int .i64 (tidyQ (tidyQ a0).1).2.1), (11, .int .i64 (tidyQ (tidyQ a0).1).2.2)] rfl ?_)
   refine C_seq ?_
   refine C_region ?_
   refine wv rfl rfl rfl (R_move rfl rfl) ?_
   refine W_cons rfl (by decide) (Sv_call rfl rfl rfl ent19 ?_)
   refine (parse_calls (tidyQ a0).1 _ _ hS.out0  ).mono ?_
   rintro e_ w15 ⟨AR0_16, cR0_16, qR0_16, rfl, hS_⟩
   refine ⟨_, rfl, ?_⟩
   have hS := hS.call0 hS_
   have hp17 := hS.cap 1 rfl
   have hlhp17 := hp17.le
   have hmhp17 := hp17.mx
   refine wv rfl rfl rfl (R_move rfl rfl) <| wv rfl rfl rfl (R_extract rfl rfl rfl) <| wv rfl rfl rfl (R_extract rfl rfl rfl) <| wv rfl rfl rfl (R_extract rfl rfl rfl) <| wv rfl rfl rfl (R_assign rfl rfl) <| wv rfl rfl rfl (R_assign rfl rfl) <| wv rfl rfl rfl (R_assign rfl rfl) ?_
   refine W_nil ?_
   refine E_then (C_fr [(3, vstr (tidyQ a0).1), (6, .slice AR0_6 (parseS a0).1.length cR0_6), (9, vstr (tidyQ (tidyQ a0).1).1), (10, .int .i64 (tidyQ (tidyQ a0).1).2.1), (11, .int .i64 (tidyQ (tidyQ a0).1).2.2), (12, .slice AR0_16 (parseS (tidyQ a0).1).1.length cR0_16), (13, .int .i64 (parseS (tidyQ a0).1).2.1), (14, .int .i64 (parseS (tidyQ a0).1).2.2)] rfl ?_)
   refine C_seq ?_
   refine C_region ?_
   refine wv rfl rfl rfl (R_move rfl rfl) <| wv rfl rfl rfl (R_move rfl rfl) <| wv rfl rfl rfl (R_streql rfl rfl rfl) <| wv rfl rfl rfl (R_move rfl rfl) ?_
   have hk18 : (decide ((tidyQ (tidyQ a0).1).1 = (tidyQ a0).1)) = true := by first | (simp [hA1, hA2]; done) | (simp [hB (by assumption)]; done) | (simp [hB (by simpa using hC1)]; done) | (simp [hD.1, hD.2]; done)
   have hk18p : (tidyQ (tidyQ a0).1).1 = (tidyQ a0).1 := by simpa using hk18
   refine W_cons rfl (by decide) (Sv_gt rfl rfl rfl hk18 (Sv_val rfl (R_move rfl rfl) ?_))
   refine W_cons rfl (by decide) (Sv_gt rfl rfl rfl hk18 (Sv_val rfl (R_bin rfl rfl rfl rfl rfl) ?_))
   refine wv rfl rfl rfl (R_pick_t rfl rfl hk18 rfl) <| wv rfl rfl rfl (R_move rfl rfl) ?_
   have hk19 : (((tidyQ (tidyQ a0).1).2.1 == 0)) = true := by first | (simp [hA1, hA2]; done) | (simp [hB (by assumption)]; done) | (simp [hB (by simpa using hC1)]; done) | (simp [hD.1, hD.2]; done)
   have hk19p : (tidyQ (tidyQ a0).1).2.1 = 0 := by simpa using hk19
   refine W_cons rfl (by decide) (Sv_gt rfl rfl rfl hk19 (Sv_val rfl (R_move rfl rfl) ?_))
   refine W_cons rfl (by decide) (Sv_gt rfl rfl rfl hk19 (Sv_val rfl (R_bin rfl rfl rfl rfl rfl) ?_))
   refine wv rfl rfl rfl (R_pick_t rfl rfl hk19 rfl) <| wv rfl rfl rfl (R_move rfl rfl) ?_
   have hk20 : (((tidyQ (tidyQ a0).1).2.2 == 0)) = true := by first | (simp [hA1, hA2]; done) | (simp [hB (by assumption)]; done) | (simp [hB (by simpa using hC1)]; done) | (simp [hD.1, hD.2]; done)
   have hk20p : (tidyQ (tidyQ a0).1).2.2 = 0 := by simpa using hk20
   refine W_cons rfl (by decide) (Sv_gt rfl rfl rfl hk20 (Sv_val rfl (R_move rfl rfl) ?_))
   refine W_cons rfl (by decide) (Sv_gt rfl rfl rfl hk20 (Sv_val rfl (R_bin rfl rfl rfl rfl rfl) ?_))
   refine wv rfl rfl rfl (R_pick_t rfl rfl hk20 rfl) <| wv rfl rfl rfl (R_move rfl rfl) ?_
   have hk21 : (((parseS (tidyQ a0).1).2.1 == 0)) = true := by first | (simp [hA1, hA2]; done) | (simp [hB (by assumption)]; done) | (simp [hB (by simpa using hC1)]; done) | (simp [hD.1, hD.2]; done)
   have hk21p : (parseS (tidyQ a0).1).2.1 = 0 := by simpa using hk21
   refine W_cons rfl (by decide) (Sv_gt rfl rfl rfl hk21 (Sv_val rfl (R_move rfl rfl) ?_))
   refine W_cons rfl (by decide) (Sv_gt rfl rfl rfl hk21 (Sv_val rfl (R_bin rfl rfl rfl rfl rfl) ?_))
   refine wv rfl rfl rfl (R_pick_t rfl rfl hk21 rfl) <| wv rfl rfl rfl (R_move rfl rfl) ?_
   have hk22 : (((parseS (tidyQ a0).1).2.2 == 0)) = true := by first | (simp [hA1, hA2]; done) | (simp [hB (by assumption)]; done) | (simp [hB (by simpa using hC1)]; done) | (simp [hD.1, hD.2]; done)
   have hk22p : (parseS (tidyQ a0).1).2.2 = 0 := by simpa using hk22
   refine W_cons rfl (by decide) (Sv_gt rfl rfl rfl hk22 (Sv_val rfl (R_move rfl rfl) ?_))
   refine W_cons rfl (by decide) (Sv_gt rfl rfl rfl hk22 (Sv_val rfl (R_move rfl rfl) ?_))
   refine W_cons rfl (by decide) (Sv_gt rfl rfl rfl hk22 (Sv_call rfl rfl rfl ent16 ?_))
   refine (same_calls (parseS a0).1 AR0_6 cR0_6 (parseS (tidyQ a0).1).1 AR0_16 cR0_16 _ _ hS.out0 (hS.ow [] 3 rfl rfl (hS.zq [] 2 rfl rfl)) (hS.cap 3 rfl) (hS.ow [] 1 rfl rfl (hS.zq [] 0 rfl rfl)) (hS.cap 1 rfl) ).mono ?_
   rintro e_ w23 ⟨rfl, hS_⟩
   refine ⟨_, rfl, ?_⟩
   have hS := hS.call0 hS_
   refine wv rfl rfl rfl (R_pick_t rfl rfl hk22 rfl) <| wv rfl rfl rfl (R_move rfl rfl) ?_
   have hk25 : (decide ((parseS a0).1 = (parseS (tidyQ a0).1).1)) = true := by first | (simp [hA1, hA2]; done) | (simp [hB (by assumption)]; done) | (simp [hB (by simpa using hC1)]; done) | (simp [hD.1, hD.2]; done)
   refine W_cons rfl (by decide) (Sv_gt rfl rfl rfl hk25 (Sv_call rfl rfl rfl ent9 ?_))
   refine (qawake_calls  _ _ hS.out0  (by first | exact HM.mono (by assumption) (hS.zl []) | exact HM.mono (by assumption) (hS.zl [0]) | exact HM.mono (by assumption) (hS.zl [1]))).mono ?_
   rintro e_ w26 ⟨rfl, hS_⟩
   refine ⟨_, rfl, ?_⟩
   have hS := hS.call0 hS_
   refine wv rfl rfl rfl (R_pick_t rfl rfl hk25 rfl) <| wv rfl rfl rfl (R_assign rfl rfl) ?_
   refine W_nil ?_
   refine E_then (C_fr [(2, .bool true)] rfl ?_)
   refine C_ret ?_
   refine E_ret1 rfl rfl ?_
   exact ⟨Lret1 (Lbool (show true = true by rfl)), hS.fin [] (by decide) rfl⟩

end Go.Proofs.YtcjaplaifmhajaaDoorG
