/- The walk of the law QuotePrints: it returns true. -/
import Derived.Test.YtcjaplaifmhajaaDoorV1
set_option linter.all false
namespace Go.Proofs.YtcjaplaifmhajaaDoorG
open Go Go.RowKit
set_option maxHeartbeats 1000000 in
set_option maxRecDepth 20000 in
theorem quotePrints_calls (a0 : List (List St)) (Aa0 : Option Addr) (ca0 : Nat) (z : Z) (w : World) (hI : In z w []) (hra0 : Rd (kslice kstr) z Aa0 a0) (hca0 : Cap Aa0 a0.length ca0) (p0 : HM z) (p1 : ∀ r ∈ a0, r.length ≤ 8796093022208) :
    Calls Tryd.prog 4 #[.slice Aa0 a0.length ca0] w fun e w' => e = .returned (.bool true) ∧ Sp (FF []) w z w' [] := by
 have hla0 := hca0.le
 have hma0 := hca0.mx
 have hS := hI.sp
 refine Calls_of (vs := [.slice Aa0 a0.length ca0]) (N := 39) Tryd.func4 rfl rfl (Nat.le_of_ble_eq_true rfl) ?_
 refine C_seq ?_
 refine C_region ?_
 refine wv rfl rfl rfl (R_assign rfl rfl) ?_
 refine W_nil ?_
 refine E_then ?_
 refine C_seq ?_
 refine C_seq ?_
 refine C_region ?_
 refine wv rfl rfl rfl (R_move rfl rfl) ?_
 refine W_cons rfl (by decide) (Sv_call rfl rfl rfl ent12 ?_)
 refine (wide_calls a0 Aa0 ca0 _ _ hS.out0 (hra0.mono (hS.zl [])) hca0 (by assumption)).mono ?_
 rintro e_ w1 ⟨rfl, hS_⟩
 refine ⟨_, rfl, ?_⟩
 have hS := hS.call0 hS_
 refine W_nil ?_
 refine E_then ?_
 refine C_ite rfl (fun hC0 => ?_) (fun hC0 => ?_)
 ·have _hC0 := trivial
  refine C_seq ?_
  refine C_region ?_
  refine W_cons rfl (by decide) (Sv_call rfl rfl rfl ent9 ?_)
  refine (qawake_calls  _ _ hS.out0  (by first | exact HM.mono (by assumption) (hS.zl []) | exact HM.mono (by assumption) (hS.zl [0]) | exact HM.mono (by assumption) (hS.zl [1]))).mono ?_
  rintro e_ w3 ⟨rfl, hS_⟩
  refine ⟨_, rfl, ?_⟩
  have hS := hS.call0 hS_
  refine wv rfl rfl rfl (R_assign rfl rfl) ?_
  refine W_nil ?_
  refine E_then ?_
  refine C_ret ?_
  refine E_then_ret ?_
  refine E_ret1 rfl rfl ?_
  exact ⟨Lret1 (Lbool (show true = true by rfl)), hS.fin [] (by decide) rfl⟩
 ·have _hC0 := trivial
  have hfit := fit_wide (t := a0) (by simpa using hC0)
  refine C_skip ?_
  refine E_then ?_
  refine C_seq ?_
  refine C_region ?_
  refine wv rfl rfl rfl (R_move rfl rfl) ?_
  refine W_cons rfl (by decide) (Sv_call rfl rfl rfl ent13 ?_)
  refine (qown_calls a0 Aa0 ca0 _ _ hS.out0 (hra0.mono (hS.zl [])) hca0 (by exact hfit.2.1) (by exact hfit.2.2.1)).mono ?_
  rintro e_ w5 ⟨AR0_6, cR0_6, qR0_6, rfl, hS_⟩
  refine ⟨_, rfl, ?_⟩
  have hS := hS.call0 hS_
  have hp7 := hS.cap 1 rfl
  have hlhp7 := hp7.le
  have hmhp7 := hp7.mx
  refine wv rfl rfl rfl (R_assign rfl rfl) ?_
  refine W_nil ?_
  refine E_then (C_fr [(0, .slice Aa0 a0.length ca0), (3, .slice AR0_6 a0.length cR0_6)] rfl ?_)
  refine C_seq ?_
  refine C_region ?_
  refine wv rfl rfl rfl (R_move rfl rfl) ?_
  refine W_cons rfl (by decide) (Sv_call rfl rfl rfl ent14 ?_)
  refine (qprint_calls a0 AR0_6 cR0_6 _ _ hS.out0 (hS.ow [] 1 rfl rfl (hS.zq [] 0 rfl rfl)) (hS.cap 1 rfl) (by exact hfit.1) (by first | exact HM.mono (by assumption) (hS.zl []) | exact HM.mono (by assumption) (hS.zl [0]) | exact HM.mono (by assumption) (hS.zl [1]))).mono ?_
  rintro e_ w8 ⟨rfl, hS_⟩
  refine ⟨_, rfl, ?_⟩
  have hS := hS.call0 hS_
  refine wv rfl rfl rfl (R_move rfl rfl) <| wv rfl rfl rfl (R_extract rfl rfl rfl) <| wv rfl rfl rfl (R_extract rfl rfl rfl) <| wv rfl rfl rfl (R_assign rfl rfl) <| wv rfl rfl rfl (R_assign rfl rfl) ?_
  refine W_nil ?_
  refine E_then (C_fr [(0, .slice Aa0 a0.length ca0), (3, .slice AR0_6 a0.length cR0_6), (4, vstr (printQ a0).1), (5, .int .i64 (printQ a0).2)] rfl ?_)
  refine C_seq ?_
  refine C_region ?_
  refine wv rfl rfl rfl (R_move rfl rfl) ?_
  refine W_cons rfl (by decide) (Sv_call rfl rfl rfl ent15 ?_)
  refine (rqprint_calls a0 Aa0 ca0 _ _ hS.out0 (hra0.mono (hS.zl [])) hca0 (by exact hfit.1)).mono ?_
  rintro e_ w10 ⟨rfl, hS_⟩
  refine ⟨_, rfl, ?_⟩
  have hS := hS.call0 hS_
  refine wv rfl rfl rfl (R_move rfl rfl) <| wv rfl rfl rfl (R_extract rfl rfl rfl) <| wv rfl rfl rfl (R_extract rfl rfl rfl) <| wv rfl rfl rfl (R_assign rfl rfl) <| wv rfl rfl rfl (R_assign rfl rfl) ?_
  refine W_nil ?_
  refine E_then (C_fr [(0, .slice Aa0 a0.length ca0), (3, .slice AR0_6 a0.length cR0_6), (4, vstr (printQ a0).1), (5, .int .i64 (printQ a0).2), (6, vstr (printQ a0).1), (7, .int .i64 (printQ a0).2)] rfl ?_)
  refine C_seq ?_
  refine C_region ?_
  refine wv rfl rfl rfl (R_move rfl rfl) <| wv rfl rfl rfl (R_move rfl rfl) <| wv rfl rfl rfl (R_streql rfl rfl rfl) <| wv rfl rfl rfl (R_move rfl rfl) ?_
  have hk12 : (decide ((printQ a0).1 = (printQ a0).1)) = true := by first | (simp; done) | (simp_all; done) | decide
  have hk12p : (printQ a0).1 = (printQ a0).1 := by simpa using hk12
  refine W_cons rfl (by decide) (Sv_gt rfl rfl rfl hk12 (Sv_val rfl (R_move rfl rfl) ?_))
  refine W_cons rfl (by decide) (Sv_gt rfl rfl rfl hk12 (Sv_val rfl (R_move rfl rfl) ?_))
  refine W_cons rfl (by decide) (Sv_gt rfl rfl rfl hk12 (Sv_val rfl (R_bin rfl rfl rfl rfl rfl) ?_))
  refine wv rfl rfl rfl (R_pick_t rfl rfl hk12 rfl) <| wv rfl rfl rfl (R_move rfl rfl) ?_
  have hk13 : (((printQ a0).2 == (printQ a0).2)) = true := by first | (simp; done) | (simp_all; done) | decide
  have hk13p : (printQ a0).2 = (printQ a0).2 := by simpa using hk13
  refine W_cons rfl (by decide) (Sv_gt rfl rfl rfl hk13 (Sv_val rfl (R_move rfl rfl) ?_))
  refine W_cons rfl (by decide) (Sv_gt rfl rfl rfl hk13 (Sv_val rfl (R_move rfl rfl) ?_))
  refine W_cons rfl (by decide) (Sv_gt rfl rfl rfl hk13 (Sv_call rfl rfl rfl ent16 ?_))
  refine (same_calls a0 AR0_6 cR0_6 a0 Aa0 ca0 _ _ hS.out0 (hS.ow [] 1 rfl rfl (hS.zq [] 0 rfl rfl)) (hS.cap 1 rfl) (hra0.mono (hS.zl [])) hca0 ).mono ?_
  rintro e_ w14 ⟨rfl, hS_⟩
  refine ⟨_, rfl, ?_⟩
  have hS := hS.call0 hS_
  refine wv rfl rfl rfl (R_pick_t rfl rfl hk13 rfl) <| wv rfl rfl rfl (R_move rfl rfl) ?_
  have hk16 : (decide (a0 = a0)) = true := by first | (simp; done) | (simp_all; done) | decide
  refine W_cons rfl (by decide) (Sv_gt rfl rfl rfl hk16 (Sv_call rfl rfl rfl ent9 ?_))
  refine (qawake_calls  _ _ hS.out0  (by first | exact HM.mono (by assumption) (hS.zl []) | exact HM.mono (by assumption) (hS.zl [0]) | exact HM.mono (by assumption) (hS.zl [1]))).mono ?_
  rintro e_ w17 ⟨rfl, hS_⟩
  refine ⟨_, rfl, ?_⟩
  have hS := hS.call0 hS_
  refine wv rfl rfl rfl (R_pick_t rfl rfl hk16 rfl) <| wv rfl rfl rfl (R_assign rfl rfl) ?_
  refine W_nil ?_
  refine E_then (C_fr [(2, .bool true)] rfl ?_)
  refine C_ret ?_
  refine E_ret1 rfl rfl ?_
  exact ⟨Lret1 (Lbool (show true = true by rfl)), hS.fin [] (by decide) rfl⟩

end Go.Proofs.YtcjaplaifmhajaaDoorG
