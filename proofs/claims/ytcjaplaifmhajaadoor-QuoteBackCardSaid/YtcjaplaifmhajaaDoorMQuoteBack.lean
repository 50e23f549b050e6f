/- The walk of the law QuoteBack: it returns true. -/
import Derived.Test.YtcjaplaifmhajaaDoorV1
set_option linter.all false
namespace Go.Proofs.YtcjaplaifmhajaaDoorG
open Go Go.RowKit
set_option maxHeartbeats 1000000 in
set_option maxRecDepth 20000 in
theorem quoteBack_calls (a0 : List (List St)) (Aa0 : Option Addr) (ca0 : Nat) (a1 : List (List St)) (Aa1 : Option Addr) (ca1 : Nat) (z : Z) (w : World) (hI : In z w []) (hra0 : Rd (kslice kstr) z Aa0 a0) (hca0 : Cap Aa0 a0.length ca0) (hra1 : Rd (kslice kstr) z Aa1 a1) (hca1 : Cap Aa1 a1.length ca1) (p0 : HM z) (p1 : ∀ r ∈ a0, r.length ≤ 8796093022208) (p2 : ∀ r ∈ a1, r.length ≤ 8796093022208) :
    Calls Tryd.prog 7 #[.slice Aa0 a0.length ca0, .slice Aa1 a1.length ca1] w fun e w' => e = .returned (.bool true) ∧ Sp (FF []) w z w' [] := by
 have hla0 := hca0.le
 have hma0 := hca0.mx
 have hla1 := hca1.le
 have hma1 := hca1.mx
 have hS := hI.sp
 refine Calls_of (vs := [.slice Aa0 a0.length ca0, .slice Aa1 a1.length ca1]) (N := 68) Tryd.func7 rfl rfl (Nat.le_of_ble_eq_true rfl) ?_
 refine C_seq ?_
 refine C_region ?_
 refine wv rfl rfl rfl (R_assign rfl rfl) ?_
 refine W_nil ?_
 refine E_then ?_
 refine C_seq ?_
 refine C_seq ?_
 refine C_region ?_
 refine wv rfl rfl rfl (R_move rfl rfl) ?_
 refine W_cons rfl (by decide) (Sv_call rfl rfl rfl ent12 ?_)
 refine (wide_calls a0 Aa0 ca0 _ _ hS.out0 (hra0.mono (hS.zl [])) hca0 (by assumption)).mono ?_
 rintro e_ w1 ⟨rfl, hS_⟩
 refine ⟨_, rfl, ?_⟩
 have hS := hS.call0 hS_
 refine wv rfl rfl rfl (R_move rfl rfl) ?_
 refine W_split (t := 14) rfl (fun hg3 => ?_) (fun hg3 => ?_)
 ·have _hg3 := trivial
  refine W_cons rfl (by decide) (Sv_off rfl rfl rfl (by rw [hg3] <;> rfl) ?_)
  refine W_cons rfl (by decide) (Sv_off rfl rfl rfl (by rw [hg3] <;> rfl) ?_)
  refine wv rfl rfl rfl (R_pick_t rfl rfl hg3 rfl) ?_
  refine W_nil ?_
  refine E_then (C_fr [(0, .slice Aa0 a0.length ca0), (1, .slice Aa1 a1.length ca1), (17, .bool true)] rfl ?_)
  refine C_if rfl rfl ?_
  refine C_seq ?_
  refine C_region ?_
  refine W_cons rfl (by decide) (Sv_call rfl rfl rfl ent9 ?_)
  refine (qawake_calls  _ _ hS.out0  (by first | exact HM.mono (by assumption) (hS.zl []) | exact HM.mono (by assumption) (hS.zl [0]) | exact HM.mono (by assumption) (hS.zl [1]))).mono ?_
  rintro e_ w4 ⟨rfl, hS_⟩
  refine ⟨_, rfl, ?_⟩
  have hS := hS.call0 hS_
  refine wv rfl rfl rfl (R_assign rfl rfl) ?_
  refine W_nil ?_
  refine E_then ?_
  refine C_ret ?_
  refine E_then_ret ?_
  refine E_ret1 rfl rfl ?_
  exact ⟨Lret1 (Lbool (show true = true by rfl)), hS.fin [] (by decide) rfl⟩
 ·have _hg3 := trivial
  refine W_cons rfl (by decide) (Sv_gt rfl rfl rfl hg3 (Sv_val rfl (R_move rfl rfl) ?_))
  refine W_cons rfl (by decide) (Sv_gt rfl rfl rfl hg3 (Sv_call rfl rfl rfl ent12 ?_))
  refine (wide_calls a1 Aa1 ca1 _ _ hS.out0 (hra1.mono (hS.zl [])) hca1 (by assumption)).mono ?_
  rintro e_ w6 ⟨rfl, hS_⟩
  refine ⟨_, rfl, ?_⟩
  have hS := hS.call0 hS_
  refine wv rfl rfl rfl (R_pick_f rfl rfl hg3 rfl) ?_
  refine W_nil ?_
  refine E_then (C_fr [(0, .slice Aa0 a0.length ca0), (1, .slice Aa1 a1.length ca1), (17, .bool (wideS a1))] rfl ?_)
  refine C_ite rfl (fun hC0 => ?_) (fun hC0 => ?_)
  ·have _hC0 := trivial
   refine C_seq ?_
   refine C_region ?_
   refine W_cons rfl (by decide) (Sv_call rfl rfl rfl ent9 ?_)
   refine (qawake_calls  _ _ hS.out0  (by first | exact HM.mono (by assumption) (hS.zl []) | exact HM.mono (by assumption) (hS.zl [0]) | exact HM.mono (by assumption) (hS.zl [1]))).mono ?_
   rintro e_ w8 ⟨rfl, hS_⟩
   refine ⟨_, rfl, ?_⟩
   have hS := hS.call0 hS_
   refine wv rfl rfl rfl (R_assign rfl rfl) ?_
   refine W_nil ?_
   refine E_then ?_
   refine C_ret ?_
   refine E_then_ret ?_
   refine E_ret1 rfl rfl ?_
   exact ⟨Lret1 (Lbool (show true = true by rfl)), hS.fin [] (by decide) rfl⟩
  ·have _hC0 := trivial
   refine C_skip ?_
   refine E_then ?_
   refine C_seq ?_
   refine C_region ?_
   refine wv rfl rfl rfl (R_move rfl rfl) ?_
   refine W_cons rfl (by decide) (Sv_call rfl rfl rfl ent14 ?_)
   refine (qprint_calls a0 Aa0 ca0 _ _ hS.out0 (hra0.mono (hS.zl [])) hca0 (by first | exact (fit_wide (t := a0) (by simp_all)).1 | exact (fit_wide (t := a1) (by simp_all)).1) (by first | exact HM.mono (by assumption) (hS.zl []) | exact HM.mono (by assumption) (hS.zl [0]) | exact HM.mono (by assumption) (hS.zl [1]))).mono ?_
   rintro e_ w10 ⟨rfl, hS_⟩
   refine ⟨_, rfl, ?_⟩
   have hS := hS.call0 hS_
   refine wv rfl rfl rfl (R_move rfl rfl) <| wv rfl rfl rfl (R_extract rfl rfl rfl) <| wv rfl rfl rfl (R_extract rfl rfl rfl) <| wv rfl rfl rfl (R_assign rfl rfl) <| wv rfl rfl rfl (R_assign rfl rfl) ?_
   refine W_nil ?_
   refine E_then (C_fr [(0, .slice Aa0 a0.length ca0), (1, .slice Aa1 a1.length ca1), (5, vstr (printQ a0).1), (6, .int .i64 (printQ a0).2)] rfl ?_)
   refine C_seq ?_
   refine C_region ?_
   refine wv rfl rfl rfl (R_move rfl rfl) ?_
   refine W_cons rfl (by decide) (Sv_call rfl rfl rfl ent14 ?_)
   refine (qprint_calls a1 Aa1 ca1 _ _ hS.out0 (hra1.mono (hS.zl [])) hca1 (by first | exact (fit_wide (t := a0) (by simp_all)).1 | exact (fit_wide (t := a1) (by simp_all)).1) (by first | exact HM.mono (by assumption) (hS.zl []) | exact HM.mono (by assumption) (hS.zl [0]) | exact HM.mono (by assumption) (hS.zl [1]))).mono ?_
   rintro e_ w12 ⟨rfl, hS_⟩
   refine ⟨_, rfl, ?_⟩
   have hS := hS.call0 hS_
   refine wv rfl rfl rfl (R_move rfl rfl) <| wv rfl rfl rfl (R_extract rfl rfl rfl) <| wv rfl rfl rfl (R_extract rfl rfl rfl) <| wv rfl rfl rfl (R_assign rfl rfl) <| wv rfl rfl rfl (R_assign rfl rfl) ?_
   refine W_nil ?_
   refine E_then (C_fr [(0, .slice Aa0 a0.length ca0), (1, .slice Aa1 a1.length ca1), (5, vstr (printQ a0).1), (6, .int .i64 (printQ a0).2), (7, vstr (printQ a1).1), (8, .int .i64 (printQ a1).2)] rfl ?_)
   refine C_seq ?_
   refine C_seq ?_
   refine C_region ?_
   refine wv rfl rfl rfl (R_move rfl rfl) <| wv rfl rfl rfl (R_bin rfl rfl rfl rfl rfl) ?_
   refine W_nil ?_
   refine E_then ?_
   refine C_ite rfl (fun hC1 => ?_) (fun hC1 => ?_)
   ·have _hC1 := trivial
    have hC1p : ¬ (printQ a0).2 = 0 := by simpa using hC1
    refine C_seq ?_
    refine C_region ?_
    refine wv rfl rfl rfl (R_move rfl rfl) <| wv rfl rfl rfl (R_streql rfl rfl rfl) <| wv rfl rfl rfl (R_move rfl rfl) ?_
    have hk14 : (decide ((printQ a0).1 = [])) = true := by simp [print_no (t := a0) (by simpa using hC1)]
    have hk14p : (printQ a0).1 = [] := by simpa using hk14
    refine W_cons rfl (by decide) (Sv_gt rfl rfl rfl hk14 (Sv_call rfl rfl rfl ent9 ?_))
    refine (qawake_calls  _ _ hS.out0  (by first | exact HM.mono (by assumption) (hS.zl []) | exact HM.mono (by assumption) (hS.zl [0]) | exact HM.mono (by assumption) (hS.zl [1]))).mono ?_
    rintro e_ w15 ⟨rfl, hS_⟩
    refine ⟨_, rfl, ?_⟩
    have hS := hS.call0 hS_
    refine wv rfl rfl rfl (R_pick_t rfl rfl hk14 rfl) <| wv rfl rfl rfl (R_assign rfl rfl) ?_
    refine W_nil ?_
    refine E_then (C_fr [(4, .bool true)] rfl ?_)
    refine C_ret ?_
    refine E_then_ret ?_
    refine E_ret1 rfl rfl ?_
    exact ⟨Lret1 (Lbool (show true = true by rfl)), hS.fin [] (by decide) rfl⟩
   ·have _hC1 := trivial
    have hC1p : (printQ a0).2 = 0 := by simpa using hC1
    refine C_skip ?_
    refine E_then ?_
    refine C_seq ?_
    refine C_region ?_
    refine wv rfl rfl rfl (R_move rfl rfl) ?_
    refine W_cons rfl (by decide) (Sv_call rfl rfl rfl ent19 ?_)
    refine (parse_calls (printQ a0).1 _ _ hS.out0  ).mono ?_
    rintro e_ w17 ⟨AR0_18, cR0_18, qR0_18, rfl, hS_⟩
    refine ⟨_, rfl, ?_⟩
    have hS := hS.call0 hS_
    have hp19 := hS.cap 1 rfl
    have hlhp19 := hp19.le
    have hmhp19 := hp19.mx
    refine wv rfl rfl rfl (R_move rfl rfl) <| wv rfl rfl rfl (R_extract rfl rfl rfl) <| wv rfl rfl rfl (R_extract rfl rfl rfl) <| wv rfl rfl rfl (R_extract rfl rfl rfl) <| wv rfl rfl rfl (R_assign rfl rfl) <| wv rfl rfl rfl (R_assign rfl rfl) <| wv rfl rfl rfl (R_assign rfl rfl) ?_
    refine W_nil ?_
    refine E_then (C_fr [(0, .slice Aa0 a0.length ca0), (1, .slice Aa1 a1.length ca1), (5, vstr (printQ a0).1), (7, vstr (printQ a1).1), (8, .int .i64 (printQ a1).2), (9, .slice AR0_18 (parseS (printQ a0).1).1.length cR0_18), (10, .int .i64 (parseS (printQ a0).1).2.1), (11, .int .i64 (parseS (printQ a0).1).2.2)] rfl ?_)
    refine C_seq ?_
    refine C_seq ?_
    refine C_region ?_
    refine wv rfl rfl rfl (R_move rfl rfl) <| wv rfl rfl rfl (R_bin rfl rfl rfl rfl rfl) <| wv rfl rfl rfl (R_move rfl rfl) ?_
    have hk20 : (((parseS (printQ a0).1).2.2 != 0)) = false := by simp [print_back (t := a0) (by simpa using hC1)]
    have hk20p : (parseS (printQ a0).1).2.2 = 0 := by simpa using hk20
    refine W_cons rfl (by decide) (Sv_gt rfl rfl rfl hk20 (Sv_val rfl (R_move rfl rfl) ?_))
    refine W_cons rfl (by decide) (Sv_gt rfl rfl rfl hk20 (Sv_val rfl (R_bin rfl rfl rfl rfl rfl) ?_))
    refine wv rfl rfl rfl (R_pick_f rfl rfl hk20 rfl) <| wv rfl rfl rfl (R_move rfl rfl) ?_
    have hk21 : (((parseS (printQ a0).1).2.1 != 0)) = false := by simp [print_back (t := a0) (by simpa using hC1)]
    have hk21p : (parseS (printQ a0).1).2.1 = 0 := by simpa using hk21
    refine W_cons rfl (by decide) (Sv_gt rfl rfl rfl hk21 (Sv_val rfl (R_move rfl rfl) ?_))
    refine W_cons rfl (by decide) (Sv_gt rfl rfl rfl hk21 (Sv_val rfl (R_move rfl rfl) ?_))
    refine W_cons rfl (by decide) (Sv_gt rfl rfl rfl hk21 (Sv_call rfl rfl rfl ent16 ?_))
    refine (same_calls (parseS (printQ a0).1).1 AR0_18 cR0_18 a0 Aa0 ca0 _ _ hS.out0 (hS.ow [] 1 rfl rfl (hS.zq [] 0 rfl rfl)) (hS.cap 1 rfl) (hra0.mono (hS.zl [])) hca0 ).mono ?_
    rintro e_ w22 ⟨rfl, hS_⟩
    refine ⟨_, rfl, ?_⟩
    have hS := hS.call0 hS_
    refine W_cons rfl (by decide) (Sv_gt rfl rfl rfl hk21 (Sv_val rfl (R_un rfl rfl rfl) ?_))
    refine wv rfl rfl rfl (R_pick_f rfl rfl hk21 rfl) ?_
    refine W_nil ?_
    refine E_then (C_fr [(0, .slice Aa0 a0.length ca0), (1, .slice Aa1 a1.length ca1), (5, vstr (printQ a0).1), (7, vstr (printQ a1).1), (8, .int .i64 (printQ a1).2), (53, .bool (!(decide ((parseS (printQ a0).1).1 = a0))))] rfl ?_)
    have hk24 : (!(decide ((parseS (printQ a0).1).1 = a0))) = false := by simp [print_back (t := a0) (by simpa using hC1)]
    have hk24p : (decide ((parseS (printQ a0).1).1 = a0) = true) := by simpa using hk24
    refine C_else rfl hk24 ?_
    refine C_skip ?_
    refine E_then ?_
    refine C_seq ?_
    refine C_region ?_
    refine wv rfl rfl rfl (R_move rfl rfl) <| wv rfl rfl rfl (R_bin rfl rfl rfl rfl rfl) <| wv rfl rfl rfl (R_move rfl rfl) ?_
    refine W_split (t := 56) rfl (fun hg25 => ?_) (fun hg25 => ?_)
    ·have _hg25 := trivial
     have hg25p : ¬ (printQ a1).2 = 0 := by simpa using hg25
     refine W_cons rfl (by decide) (Sv_off rfl rfl rfl (by rw [hg25] <;> rfl) ?_)
     refine W_cons rfl (by decide) (Sv_off rfl rfl rfl (by rw [hg25] <;> rfl) ?_)
     refine W_cons rfl (by decide) (Sv_off rfl rfl rfl (by rw [hg25] <;> rfl) ?_)
     refine W_cons rfl (by decide) (Sv_off rfl rfl rfl (by rw [hg25] <;> rfl) ?_)
     refine W_cons rfl (by decide) (Sv_off rfl rfl rfl (by rw [hg25] <;> rfl) ?_)
     refine W_cons rfl (by decide) (Sv_off rfl rfl rfl (by rw [hg25] <;> rfl) ?_)
     refine W_cons rfl (by decide) (Sv_off rfl rfl rfl (by rw [hg25] <;> rfl) ?_)
     refine wv rfl rfl rfl (R_pick_t rfl rfl hg25 rfl) <| wv rfl rfl rfl (R_move rfl rfl) ?_
     refine W_cons rfl (by decide) (Sv_gt rfl rfl rfl rfl (Sv_call rfl rfl rfl ent9 ?_))
     refine (qawake_calls  _ _ hS.out0  (by first | exact HM.mono (by assumption) (hS.zl []) | exact HM.mono (by assumption) (hS.zl [0]) | exact HM.mono (by assumption) (hS.zl [1]))).mono ?_
     rintro e_ w26 ⟨rfl, hS_⟩
     refine ⟨_, rfl, ?_⟩
     have hS := hS.call0 hS_
     refine wv rfl rfl rfl (R_pick_t rfl rfl rfl rfl) <| wv rfl rfl rfl (R_assign rfl rfl) ?_
     refine W_nil ?_
     refine E_then (C_fr [(4, .bool true)] rfl ?_)
     refine C_ret ?_
     refine E_ret1 rfl rfl ?_
     exact ⟨Lret1 (Lbool (show true = true by rfl)), hS.fin [] (by decide) rfl⟩
    ·have _hg25 := trivial
     have hg25p : (printQ a1).2 = 0 := by simpa using hg25
     refine W_cons rfl (by decide) (Sv_gt rfl rfl rfl hg25 (Sv_val rfl (R_move rfl rfl) ?_))
     refine W_cons rfl (by decide) (Sv_gt rfl rfl rfl hg25 (Sv_val rfl (R_move rfl rfl) ?_))
     refine W_cons rfl (by decide) (Sv_gt rfl rfl rfl hg25 (Sv_val rfl (R_streql rfl rfl rfl) ?_))
     refine W_cons rfl (by decide) (Sv_gt rfl rfl rfl hg25 (Sv_val rfl (R_move rfl rfl) ?_))
     refine W_cons rfl (by decide) (Sv_gt rfl rfl rfl hg25 (Sv_val rfl (R_move rfl rfl) ?_))
     refine W_cons rfl (by decide) (Sv_gt rfl rfl rfl hg25 (Sv_call rfl rfl rfl ent16 ?_))
     refine (same_calls a0 Aa0 ca0 a1 Aa1 ca1 _ _ hS.out0 (hra0.mono (hS.zl [])) hca0 (hra1.mono (hS.zl [])) hca1 ).mono ?_
     rintro e_ w28 ⟨rfl, hS_⟩
     refine ⟨_, rfl, ?_⟩
     have hS := hS.call0 hS_
     refine W_cons rfl (by decide) (Sv_gt rfl rfl rfl hg25 (Sv_val rfl (R_bleql rfl rfl rfl Tryd.underlying4) ?_))
     refine wv rfl rfl rfl (R_pick_f rfl rfl hg25 rfl) <| wv rfl rfl rfl (R_move rfl rfl) ?_
     have hk30 : (((decide ((printQ a0).1 = (printQ a1).1)) == (decide (a0 = a1)))) = true := by rw [print_two (t := a0) (u := a1) (by simpa using hC1) (by simp_all)]; simp
     refine W_cons rfl (by decide) (Sv_gt rfl rfl rfl hk30 (Sv_call rfl rfl rfl ent9 ?_))
     refine (qawake_calls  _ _ hS.out0  (by first | exact HM.mono (by assumption) (hS.zl []) | exact HM.mono (by assumption) (hS.zl [0]) | exact HM.mono (by assumption) (hS.zl [1]))).mono ?_
     rintro e_ w31 ⟨rfl, hS_⟩
     refine ⟨_, rfl, ?_⟩
     have hS := hS.call0 hS_
     refine wv rfl rfl rfl (R_pick_t rfl rfl hk30 rfl) <| wv rfl rfl rfl (R_assign rfl rfl) ?_
     refine W_nil ?_
     refine E_then (C_fr [(4, .bool true)] rfl ?_)
     refine C_ret ?_
     refine E_ret1 rfl rfl ?_
     exact ⟨Lret1 (Lbool (show true = true by rfl)), hS.fin [] (by decide) rfl⟩

end Go.Proofs.YtcjaplaifmhajaaDoorG
