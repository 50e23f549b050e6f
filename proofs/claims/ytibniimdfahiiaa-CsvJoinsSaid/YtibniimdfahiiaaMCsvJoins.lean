/- The walk of the law CsvJoins: it returns true. -/
import Derived.Test.YtibniimdfahiiaaY3
set_option linter.all false
namespace Go.Proofs.YtibniimdfahiiaaG
open Go Go.RowKit
set_option maxHeartbeats 400000 in
set_option maxRecDepth 20000 in
theorem csvJoins_calls (a0 : St) (a1 : St) (z : Z) (w : World) (hI : In z w [])   :
    Calls Try.prog 8 #[vstr a0, vstr a1] w fun e w' => e = .returned (.bool true) ∧ Sp (FF []) w z w' [] := by
 have hS := hI.sp
 refine Calls_of (vs := [vstr a0, vstr a1]) (N := 102) Try.func8 rfl rfl (Nat.le_of_ble_eq_true rfl) ?_
 refine C_seq ?_
 refine C_region ?_
 refine W_cons rfl (by decide) (Sv_val rfl (R_assign rfl rfl) ?_)
 refine W_nil ?_
 refine E_then ?_
 refine C_seq ?_
 refine C_seq ?_
 refine C_region ?_
 refine W_cons rfl (by decide) (Sv_val rfl (R_move rfl rfl) ?_)
 refine W_cons rfl (by decide) (Sv_val rfl (R_strlen rfl rfl Try.underlying9) ?_)
 refine W_cons rfl (by decide) (Sv_val rfl (R_bin rfl rfl rfl rfl rfl) ?_)
 refine W_cons rfl (by decide) (Sv_val rfl (R_move rfl rfl) ?_)
 refine W_split (t := 20) rfl (fun hg1 => ?_) (fun hg1 => ?_)
 ·have _hg1 := trivial
  have hg1p : (a0.length : Int) > 2000 := by simpa using hg1
  refine W_cons rfl (by decide) (Sv_off rfl rfl rfl (by rw [hg1] <;> rfl) ?_)
  refine W_cons rfl (by decide) (Sv_off rfl rfl rfl (by rw [hg1] <;> rfl) ?_)
  refine W_cons rfl (by decide) (Sv_off rfl rfl rfl (by rw [hg1] <;> rfl) ?_)
  refine W_cons rfl (by decide) (Sv_val rfl (R_pick_t rfl rfl hg1 rfl) ?_)
  refine W_nil ?_
  refine E_then (C_fr [(0, vstr a0), (1, vstr a1), (24, .bool true)] rfl ?_)
  refine C_if rfl rfl ?_
  refine C_seq ?_
  refine C_region ?_
  refine W_cons rfl (by decide) (Sv_call rfl rfl rfl ent25 ?_)
  refine (lawake_calls  _ _ hS.out0  ).mono ?_
  rintro e_ w2 ⟨rfl, hS_⟩
  refine ⟨_, rfl, ?_⟩
  have hS := hS.call0 hS_
  refine W_cons rfl (by decide) (Sv_val rfl (R_assign rfl rfl) ?_)
  refine W_nil ?_
  refine E_then ?_
  refine C_ret ?_
  refine E_then_ret ?_
  refine E_ret1 rfl rfl ?_
  exact ⟨Lret1 (Lbool (show true = true by rfl)), hS.fin [] (by decide) rfl⟩
 ·have _hg1 := trivial
  have hg1p : ¬ ((a0.length : Int) > 2000) := by simpa using hg1
  refine W_cons rfl (by decide) (Sv_gt rfl rfl rfl hg1 (Sv_val rfl (R_move rfl rfl) ?_))
  refine W_cons rfl (by decide) (Sv_gt rfl rfl rfl hg1 (Sv_val rfl (R_strlen rfl rfl Try.underlying9) ?_))
  refine W_cons rfl (by decide) (Sv_gt rfl rfl rfl hg1 (Sv_val rfl (R_bin rfl rfl rfl rfl rfl) ?_))
  refine W_cons rfl (by decide) (Sv_val rfl (R_pick_f rfl rfl hg1 rfl) ?_)
  refine W_nil ?_
  refine E_then (C_fr [(0, vstr a0), (1, vstr a1), (24, .bool (decide ((a1.length : Int) > 2000)))] rfl ?_)
  refine C_ite rfl (fun hC0 => ?_) (fun hC0 => ?_)
  ·have _hC0 := trivial
   have hC0p : (a1.length : Int) > 2000 := by simpa using hC0
   refine C_seq ?_
   refine C_region ?_
   refine W_cons rfl (by decide) (Sv_call rfl rfl rfl ent25 ?_)
   refine (lawake_calls  _ _ hS.out0  ).mono ?_
   rintro e_ w4 ⟨rfl, hS_⟩
   refine ⟨_, rfl, ?_⟩
   have hS := hS.call0 hS_
   refine W_cons rfl (by decide) (Sv_val rfl (R_assign rfl rfl) ?_)
   refine W_nil ?_
   refine E_then ?_
   refine C_ret ?_
   refine E_then_ret ?_
   refine E_ret1 rfl rfl ?_
   exact ⟨Lret1 (Lbool (show true = true by rfl)), hS.fin [] (by decide) rfl⟩
  ·have _hC0 := trivial
   have hC0p : ¬ ((a1.length : Int) > 2000) := by simpa using hC0
   refine C_skip ?_
   refine E_then ?_
   refine C_seq ?_
   refine C_region ?_
   refine W_cons rfl (by decide) (Sv_val rfl (R_move rfl rfl) ?_)
   refine W_cons rfl (by decide) (Sv_call rfl rfl rfl ent26 ?_)
   refine (parse_calls a0 _ _ hS.out0  ).mono ?_
   rintro e_ w6 ⟨AR0_7, cR0_7, qR0_7, rfl, hS_⟩
   refine ⟨_, rfl, ?_⟩
   have hS := hS.call0 hS_
   have hp8 := hS.cap 1 rfl
   have hlhp8 := hp8.le
   have hmhp8 := hp8.mx
   refine W_cons rfl (by decide) (Sv_val rfl (R_move rfl rfl) ?_)
   refine W_cons rfl (by decide) (Sv_val rfl (R_extract rfl rfl rfl) ?_)
   refine W_cons rfl (by decide) (Sv_val rfl (R_extract rfl rfl rfl) ?_)
   refine W_cons rfl (by decide) (Sv_val rfl (R_extract rfl rfl rfl) ?_)
   refine W_cons rfl (by decide) (Sv_val rfl (R_assign rfl rfl) ?_)
   refine W_cons rfl (by decide) (Sv_val rfl (R_assign rfl rfl) ?_)
   refine W_cons rfl (by decide) (Sv_val rfl (R_assign rfl rfl) ?_)
   refine W_nil ?_
   refine E_then (C_fr [(0, vstr a0), (1, vstr a1), (5, .slice AR0_7 (parseS a0).1.length cR0_7), (7, .int .i64 (parseS a0).2.2)] rfl ?_)
   refine C_seq ?_
   refine C_region ?_
   refine W_cons rfl (by decide) (Sv_val rfl (R_move rfl rfl) ?_)
   refine W_cons rfl (by decide) (Sv_call rfl rfl rfl ent26 ?_)
   refine (parse_calls a1 _ _ hS.out0  ).mono ?_
   rintro e_ w9 ⟨AR0_10, cR0_10, qR0_10, rfl, hS_⟩
   refine ⟨_, rfl, ?_⟩
   have hS := hS.call0 hS_
   have hp11 := hS.cap 1 rfl
   have hlhp11 := hp11.le
   have hmhp11 := hp11.mx
   refine W_cons rfl (by decide) (Sv_val rfl (R_move rfl rfl) ?_)
   refine W_cons rfl (by decide) (Sv_val rfl (R_extract rfl rfl rfl) ?_)
   refine W_cons rfl (by decide) (Sv_val rfl (R_extract rfl rfl rfl) ?_)
   refine W_cons rfl (by decide) (Sv_val rfl (R_extract rfl rfl rfl) ?_)
   refine W_cons rfl (by decide) (Sv_val rfl (R_assign rfl rfl) ?_)
   refine W_cons rfl (by decide) (Sv_val rfl (R_assign rfl rfl) ?_)
   refine W_cons rfl (by decide) (Sv_val rfl (R_assign rfl rfl) ?_)
   refine W_nil ?_
   refine E_then (C_fr [(0, vstr a0), (1, vstr a1), (5, .slice AR0_7 (parseS a0).1.length cR0_7), (7, .int .i64 (parseS a0).2.2), (8, .slice AR0_10 (parseS a1).1.length cR0_10), (10, .int .i64 (parseS a1).2.2)] rfl ?_)
   refine C_seq ?_
   refine C_seq ?_
   refine C_region ?_
   refine W_cons rfl (by decide) (Sv_val rfl (R_move rfl rfl) ?_)
   refine W_cons rfl (by decide) (Sv_val rfl (R_strlen rfl rfl Try.underlying9) ?_)
   refine W_cons rfl (by decide) (Sv_val rfl (R_bin rfl rfl rfl rfl rfl) ?_)
   refine W_cons rfl (by decide) (Sv_val rfl (R_move rfl rfl) ?_)
   refine W_split (t := 41) rfl (fun hg12 => ?_) (fun hg12 => ?_)
   ·have _hg12 := trivial
    have hg12p : (a1.length : Int) = 0 := by simpa using hg12
    refine W_cons rfl (by decide) (Sv_off rfl rfl rfl (by rw [hg12] <;> rfl) ?_)
    refine W_cons rfl (by decide) (Sv_off rfl rfl rfl (by rw [hg12] <;> rfl) ?_)
    refine W_cons rfl (by decide) (Sv_val rfl (R_pick_t rfl rfl hg12 rfl) ?_)
    refine W_cons rfl (by decide) (Sv_val rfl (R_move rfl rfl) ?_)
    refine W_cons rfl (by decide) (Sv_off rfl rfl rfl rfl ?_)
    refine W_cons rfl (by decide) (Sv_off rfl rfl rfl rfl ?_)
    refine W_cons rfl (by decide) (Sv_val rfl (R_pick_t rfl rfl rfl rfl) ?_)
    refine W_cons rfl (by decide) (Sv_val rfl (R_move rfl rfl) ?_)
    refine W_cons rfl (by decide) (Sv_off rfl rfl rfl rfl ?_)
    refine W_cons rfl (by decide) (Sv_off rfl rfl rfl rfl ?_)
    refine W_cons rfl (by decide) (Sv_off rfl rfl rfl rfl ?_)
    refine W_cons rfl (by decide) (Sv_off rfl rfl rfl rfl ?_)
    refine W_cons rfl (by decide) (Sv_offu rfl rfl rfl ?_)
    refine W_cons rfl (by decide) (Sv_offu rfl rfl rfl ?_)
    refine W_cons rfl (by decide) (Sv_offu rfl rfl rfl ?_)
    refine W_cons rfl (by decide) (Sv_offu rfl rfl rfl ?_)
    refine W_cons rfl (by decide) (Sv_offu rfl rfl rfl ?_)
    refine W_cons rfl (by decide) (Sv_offu rfl rfl rfl ?_)
    refine W_cons rfl (by decide) (Sv_off rfl rfl rfl rfl ?_)
    refine W_cons rfl (by decide) (Sv_val rfl (R_pick_t rfl rfl rfl rfl) ?_)
    refine W_nil ?_
    refine E_then (C_fr [(0, vstr a0), (1, vstr a1), (5, .slice AR0_7 (parseS a0).1.length cR0_7), (8, .slice AR0_10 (parseS a1).1.length cR0_10), (61, .bool true)] rfl ?_)
    refine C_if rfl rfl ?_
    refine C_seq ?_
    refine C_region ?_
    refine W_cons rfl (by decide) (Sv_call rfl rfl rfl ent25 ?_)
    refine (lawake_calls  _ _ hS.out0  ).mono ?_
    rintro e_ w13 ⟨rfl, hS_⟩
    refine ⟨_, rfl, ?_⟩
    have hS := hS.call0 hS_
    refine W_cons rfl (by decide) (Sv_val rfl (R_assign rfl rfl) ?_)
    refine W_nil ?_
    refine E_then (C_fr [(4, .bool true)] rfl ?_)
    refine C_ret ?_
    refine E_then_ret ?_
    refine E_ret1 rfl rfl ?_
    exact ⟨Lret1 (Lbool (show true = true by rfl)), hS.fin [] (by decide) rfl⟩
   ·have _hg12 := trivial
    have hg12p : ¬ ((a1.length : Int) = 0) := by simpa using hg12
    refine W_cons rfl (by decide) (Sv_gt rfl rfl rfl hg12 (Sv_val rfl (R_move rfl rfl) ?_))
    refine W_cons rfl (by decide) (Sv_gt rfl rfl rfl hg12 (Sv_val rfl (R_bin rfl rfl rfl rfl rfl) ?_))
    refine W_cons rfl (by decide) (Sv_val rfl (R_pick_f rfl rfl hg12 rfl) ?_)
    refine W_cons rfl (by decide) (Sv_val rfl (R_move rfl rfl) ?_)
    refine W_split (t := 45) rfl (fun hg15 => ?_) (fun hg15 => ?_)
    ·have _hg15 := trivial
     have hg15p : ¬ (parseS a0).2.2 = 0 := by simpa using hg15
     refine W_cons rfl (by decide) (Sv_off rfl rfl rfl (by rw [hg15] <;> rfl) ?_)
     refine W_cons rfl (by decide) (Sv_off rfl rfl rfl (by rw [hg15] <;> rfl) ?_)
     refine W_cons rfl (by decide) (Sv_val rfl (R_pick_t rfl rfl hg15 rfl) ?_)
     refine W_cons rfl (by decide) (Sv_val rfl (R_move rfl rfl) ?_)
     refine W_cons rfl (by decide) (Sv_off rfl rfl rfl rfl ?_)
     refine W_cons rfl (by decide) (Sv_off rfl rfl rfl rfl ?_)
     refine W_cons rfl (by decide) (Sv_off rfl rfl rfl rfl ?_)
     refine W_cons rfl (by decide) (Sv_off rfl rfl rfl rfl ?_)
     refine W_cons rfl (by decide) (Sv_offu rfl rfl rfl ?_)
     refine W_cons rfl (by decide) (Sv_offu rfl rfl rfl ?_)
     refine W_cons rfl (by decide) (Sv_offu rfl rfl rfl ?_)
     refine W_cons rfl (by decide) (Sv_offu rfl rfl rfl ?_)
     refine W_cons rfl (by decide) (Sv_offu rfl rfl rfl ?_)
     refine W_cons rfl (by decide) (Sv_offu rfl rfl rfl ?_)
     refine W_cons rfl (by decide) (Sv_off rfl rfl rfl rfl ?_)
     refine W_cons rfl (by decide) (Sv_val rfl (R_pick_t rfl rfl rfl rfl) ?_)
     refine W_nil ?_
     refine E_then (C_fr [(0, vstr a0), (1, vstr a1), (5, .slice AR0_7 (parseS a0).1.length cR0_7), (8, .slice AR0_10 (parseS a1).1.length cR0_10), (61, .bool true)] rfl ?_)
     refine C_if rfl rfl ?_
     refine C_seq ?_
     refine C_region ?_
     refine W_cons rfl (by decide) (Sv_call rfl rfl rfl ent25 ?_)
     refine (lawake_calls  _ _ hS.out0  ).mono ?_
     rintro e_ w16 ⟨rfl, hS_⟩
     refine ⟨_, rfl, ?_⟩
     have hS := hS.call0 hS_
     refine W_cons rfl (by decide) (Sv_val rfl (R_assign rfl rfl) ?_)
     refine W_nil ?_
     refine E_then (C_fr [(4, .bool true)] rfl ?_)
     refine C_ret ?_
     refine E_then_ret ?_
     refine E_ret1 rfl rfl ?_
     exact ⟨Lret1 (Lbool (show true = true by rfl)), hS.fin [] (by decide) rfl⟩
    ·have _hg15 := trivial
     have hg15p : (parseS a0).2.2 = 0 := by simpa using hg15
     refine W_cons rfl (by decide) (Sv_gt rfl rfl rfl hg15 (Sv_val rfl (R_move rfl rfl) ?_))
     refine W_cons rfl (by decide) (Sv_gt rfl rfl rfl hg15 (Sv_val rfl (R_bin rfl rfl rfl rfl rfl) ?_))
     refine W_cons rfl (by decide) (Sv_val rfl (R_pick_f rfl rfl hg15 rfl) ?_)
     refine W_cons rfl (by decide) (Sv_val rfl (R_move rfl rfl) ?_)
     refine W_split (t := 49) rfl (fun hg18 => ?_) (fun hg18 => ?_)
     ·have _hg18 := trivial
      have hg18p : ¬ (parseS a1).2.2 = 0 := by simpa using hg18
      refine W_cons rfl (by decide) (Sv_off rfl rfl rfl (by rw [hg18] <;> rfl) ?_)
      refine W_cons rfl (by decide) (Sv_off rfl rfl rfl (by rw [hg18] <;> rfl) ?_)
      refine W_cons rfl (by decide) (Sv_off rfl rfl rfl (by rw [hg18] <;> rfl) ?_)
      refine W_cons rfl (by decide) (Sv_off rfl rfl rfl (by rw [hg18] <;> rfl) ?_)
      refine W_cons rfl (by decide) (Sv_offu rfl rfl rfl ?_)
      refine W_cons rfl (by decide) (Sv_offu rfl rfl rfl ?_)
      refine W_cons rfl (by decide) (Sv_offu rfl rfl rfl ?_)
      refine W_cons rfl (by decide) (Sv_offu rfl rfl rfl ?_)
      refine W_cons rfl (by decide) (Sv_offu rfl rfl rfl ?_)
      refine W_cons rfl (by decide) (Sv_offu rfl rfl rfl ?_)
      refine W_cons rfl (by decide) (Sv_off rfl rfl rfl (by rw [hg18] <;> rfl) ?_)
      refine W_cons rfl (by decide) (Sv_val rfl (R_pick_t rfl rfl hg18 rfl) ?_)
      refine W_nil ?_
      refine E_then (C_fr [(0, vstr a0), (1, vstr a1), (5, .slice AR0_7 (parseS a0).1.length cR0_7), (8, .slice AR0_10 (parseS a1).1.length cR0_10), (61, .bool true)] rfl ?_)
      refine C_if rfl rfl ?_
      refine C_seq ?_
      refine C_region ?_
      refine W_cons rfl (by decide) (Sv_call rfl rfl rfl ent25 ?_)
      refine (lawake_calls  _ _ hS.out0  ).mono ?_
      rintro e_ w19 ⟨rfl, hS_⟩
      refine ⟨_, rfl, ?_⟩
      have hS := hS.call0 hS_
      refine W_cons rfl (by decide) (Sv_val rfl (R_assign rfl rfl) ?_)
      refine W_nil ?_
      refine E_then (C_fr [(4, .bool true)] rfl ?_)
      refine C_ret ?_
      refine E_then_ret ?_
      refine E_ret1 rfl rfl ?_
      exact ⟨Lret1 (Lbool (show true = true by rfl)), hS.fin [] (by decide) rfl⟩
     ·have _hg18 := trivial
      have hg18p : (parseS a1).2.2 = 0 := by simpa using hg18
      refine W_cons rfl (by decide) (Sv_gt rfl rfl rfl hg18 (Sv_val rfl (R_move rfl rfl) ?_))
      refine W_cons rfl (by decide) (Sv_gt rfl rfl rfl hg18 (Sv_val rfl (R_strlen rfl rfl Try.underlying9) ?_))
      refine W_cons rfl (by decide) (Sv_gt rfl rfl rfl hg18 (Sv_val rfl (R_bin rfl rfl rfl rfl rfl) ?_))
      refine W_cons rfl (by decide) (Sv_gt rfl rfl rfl hg18 (Sv_val rfl (R_move rfl rfl) ?_))
      refine W_split (t := 53) rfl (fun hg21 => ?_) (fun hg21 => ?_)
      ·have _hg21 := trivial
       have hg21p : (a0.length : Int) > 1 := by simpa using hg21
       refine W_cons rfl (by decide) (Sv_gt rfl rfl rfl hg21 (Sv_val rfl (R_move rfl rfl) ?_))
       refine W_cons rfl (by decide) (Sv_gt rfl rfl rfl hg21 (Sv_val rfl (R_move rfl rfl) ?_))
       refine W_cons rfl (by decide) (Sv_gt rfl rfl rfl hg21 (Sv_val rfl (R_strlen rfl rfl Try.underlying9) ?_))
       refine W_cons rfl (by decide) (Sv_gt rfl rfl rfl hg21 (Sv_val rfl (R_sub64 rfl rfl rfl (by omega) (by omega)) ?_))
       refine W_cons rfl (by decide) (Sv_gt rfl rfl rfl hg21 (Sv_val rfl (R_strslice_l rfl rfl rfl Try.underlying9 (by omega) (by omega)) ?_))
       refine W_cons rfl (by decide) (Sv_gt rfl rfl rfl hg21 (Sv_val rfl (R_streql rfl rfl rfl) ?_))
       refine W_cons rfl (by decide) (Sv_gt rfl rfl rfl hg18 (Sv_val rfl (R_pick_t rfl rfl hg21 rfl) ?_))
       refine W_cons rfl (by decide) (Sv_val rfl (R_pick_f rfl rfl hg18 rfl) ?_)
       refine W_nil ?_
       refine E_then (C_fr [(0, vstr a0), (1, vstr a1), (5, .slice AR0_7 (parseS a0).1.length cR0_7), (8, .slice AR0_10 (parseS a1).1.length cR0_10), (61, .bool (decide ((a0.drop ((a0.length : Int) - 2).toNat) = [13, 10])))] rfl ?_)
       refine C_ite rfl (fun hC1 => ?_) (fun hC1 => ?_)
       ·have _hC1 := trivial
        have hC1p : (a0.drop ((a0.length : Int) - 2).toNat) = [13, 10] := by simpa using hC1
        refine C_seq ?_
        refine C_region ?_
        refine W_cons rfl (by decide) (Sv_call rfl rfl rfl ent25 ?_)
        refine (lawake_calls  _ _ hS.out0  ).mono ?_
        rintro e_ w22 ⟨rfl, hS_⟩
        refine ⟨_, rfl, ?_⟩
        have hS := hS.call0 hS_
        refine W_cons rfl (by decide) (Sv_val rfl (R_assign rfl rfl) ?_)
        refine W_nil ?_
        refine E_then (C_fr [(4, .bool true)] rfl ?_)
        refine C_ret ?_
        refine E_then_ret ?_
        refine E_ret1 rfl rfl ?_
        exact ⟨Lret1 (Lbool (show true = true by rfl)), hS.fin [] (by decide) rfl⟩
       ·have _hC1 := trivial
        have hC1p : ¬ ((a0.drop ((a0.length : Int) - 2).toNat) = [13, 10]) := by simpa using hC1
        refine C_skip ?_
        refine E_then ?_
        refine C_seq ?_
        refine C_region ?_
        refine W_cons rfl (by decide) (Sv_val rfl (R_move rfl rfl) ?_)
        refine W_cons rfl (by decide) (Sv_val rfl (R_stradd rfl rfl rfl (by simp only [List.length_append, List.length_take, List.length_drop, List.length_cons, List.length_nil]; omega)) ?_)
        refine W_cons rfl (by decide) (Sv_val rfl (R_move rfl rfl) ?_)
        refine W_cons rfl (by decide) (Sv_val rfl (R_stradd rfl rfl rfl (by simp only [List.length_append, List.length_take, List.length_drop, List.length_cons, List.length_nil]; omega)) ?_)
        refine W_cons rfl (by decide) (Sv_call rfl rfl rfl ent26 ?_)
        refine (parse_calls ((a0 ++ [13, 10]) ++ a1) _ _ hS.out0  ).mono ?_
        rintro e_ w24 ⟨AR0_25, cR0_25, qR0_25, rfl, hS_⟩
        refine ⟨_, rfl, ?_⟩
        have hS := hS.call0 hS_
        have hp26 := hS.cap 1 rfl
        have hlhp26 := hp26.le
        have hmhp26 := hp26.mx
        refine W_cons rfl (by decide) (Sv_val rfl (R_move rfl rfl) ?_)
        refine W_cons rfl (by decide) (Sv_val rfl (R_extract rfl rfl rfl) ?_)
        refine W_cons rfl (by decide) (Sv_val rfl (R_extract rfl rfl rfl) ?_)
        refine W_cons rfl (by decide) (Sv_val rfl (R_extract rfl rfl rfl) ?_)
        refine W_cons rfl (by decide) (Sv_val rfl (R_assign rfl rfl) ?_)
        refine W_cons rfl (by decide) (Sv_val rfl (R_assign rfl rfl) ?_)
        refine W_cons rfl (by decide) (Sv_val rfl (R_assign rfl rfl) ?_)
        refine W_nil ?_
        refine E_then (C_fr [(0, vstr a0), (5, .slice AR0_7 (parseS a0).1.length cR0_7), (8, .slice AR0_10 (parseS a1).1.length cR0_10), (11, .slice AR0_25 (parseS ((a0 ++ [13, 10]) ++ a1)).1.length cR0_25), (13, .int .i64 (parseS ((a0 ++ [13, 10]) ++ a1)).2.2)] rfl ?_)
        refine C_seq ?_
        refine C_region ?_
        refine W_cons rfl (by decide) (Sv_val rfl (R_move rfl rfl) ?_)
        refine W_cons rfl (by decide) (Sv_val rfl (R_stradd rfl rfl rfl (by simp only [List.length_append, List.length_take, List.length_drop, List.length_cons, List.length_nil]; omega)) ?_)
        refine W_cons rfl (by decide) (Sv_call rfl rfl rfl ent26 ?_)
        refine (parse_calls (a0 ++ [13, 10]) _ _ hS.out0  ).mono ?_
        rintro e_ w27 ⟨AR0_28, cR0_28, qR0_28, rfl, hS_⟩
        refine ⟨_, rfl, ?_⟩
        have hS := hS.call0 hS_
        have hp29 := hS.cap 1 rfl
        have hlhp29 := hp29.le
        have hmhp29 := hp29.mx
        refine W_cons rfl (by decide) (Sv_val rfl (R_move rfl rfl) ?_)
        refine W_cons rfl (by decide) (Sv_val rfl (R_extract rfl rfl rfl) ?_)
        refine W_cons rfl (by decide) (Sv_val rfl (R_extract rfl rfl rfl) ?_)
        refine W_cons rfl (by decide) (Sv_val rfl (R_extract rfl rfl rfl) ?_)
        refine W_cons rfl (by decide) (Sv_val rfl (R_assign rfl rfl) ?_)
        refine W_cons rfl (by decide) (Sv_val rfl (R_assign rfl rfl) ?_)
        refine W_cons rfl (by decide) (Sv_val rfl (R_assign rfl rfl) ?_)
        refine W_nil ?_
        refine E_then (C_fr [(5, .slice AR0_7 (parseS a0).1.length cR0_7), (8, .slice AR0_10 (parseS a1).1.length cR0_10), (11, .slice AR0_25 (parseS ((a0 ++ [13, 10]) ++ a1)).1.length cR0_25), (13, .int .i64 (parseS ((a0 ++ [13, 10]) ++ a1)).2.2), (14, .slice AR0_28 (parseS (a0 ++ [13, 10])).1.length cR0_28), (16, .int .i64 (parseS (a0 ++ [13, 10])).2.2)] rfl ?_)
        refine C_seq ?_
        obtain ⟨hj1, hj2⟩ := joins_law (a := a0) (b := a1) (by omega) (by omega) (by assumption) (by assumption) (by assumption) (by first | exact .inl (by assumption) | exact .inr (by assumption))
        have hb1 := parse_len a0
        have hb2 := parse_len a1
        refine C_region ?_
        refine W_cons rfl (by decide) (Sv_val rfl (R_move rfl rfl) ?_)
        refine W_cons rfl (by decide) (Sv_val rfl (R_bin rfl rfl rfl rfl rfl) ?_)
        refine W_cons rfl (by decide) (Sv_val rfl (R_move rfl rfl) ?_)
        have hk30 : (((parseS ((a0 ++ [13, 10]) ++ a1)).2.2 == 0)) = true := by first | (rw [hj1]; simp; done) | (rw [hj2]; simp; done)
        have hk30p : (parseS ((a0 ++ [13, 10]) ++ a1)).2.2 = 0 := by simpa using hk30
        refine W_cons rfl (by decide) (Sv_gt rfl rfl rfl hk30 (Sv_val rfl (R_move rfl rfl) ?_))
        refine W_cons rfl (by decide) (Sv_gt rfl rfl rfl hk30 (Sv_val rfl (R_bin rfl rfl rfl rfl rfl) ?_))
        refine W_cons rfl (by decide) (Sv_val rfl (R_pick_t rfl rfl hk30 rfl) ?_)
        refine W_cons rfl (by decide) (Sv_val rfl (R_move rfl rfl) ?_)
        have hk31 : (((parseS (a0 ++ [13, 10])).2.2 == 0)) = true := by first | (rw [hj1]; simp; done) | (rw [hj2]; simp; done)
        have hk31p : (parseS (a0 ++ [13, 10])).2.2 = 0 := by simpa using hk31
        refine W_cons rfl (by decide) (Sv_gt rfl rfl rfl hk31 (Sv_val rfl (R_move rfl rfl) ?_))
        obtain ⟨z34, hS⟩ := hS.famx
        refine W_cons rfl (by decide) (Sv_gt rfl rfl rfl hk31 (S_row (d := (kslice kstr)) (q := z34) hS ([] : List (List St)) rfl (R_buildSlice (ps := []) (vs := []) (w' := w27.alloc (.cells [].toArray 56)) (r := .slice (some ⟨w27.heap.size, 0, none⟩) 0 0) rfl rfl rfl (by kernel_rfl)) rfl rfl (by decide) (fun g33 w32 hS => ?_)))
        refine W_cons rfl (by decide) (Sv_gt rfl rfl rfl hk31 (Sv_val rfl (R_move rfl rfl) ?_))
        obtain ⟨z37, hlaz37, hlbz37, hS⟩ := hS.merge 1 8 rfl rfl (by decide)
        have hS := hS.lift 1 rfl hlaz37
        have hS := hS.lift 8 rfl hlbz37
        refine W_cons rfl (by decide) (Sv_gt rfl rfl rfl hk31 (S_append hS 1 rfl rfl rfl elem42 rfl rfl (hS.sow 8 rfl (fun _ _ h => h)) (by (try simp only [List.length_cons, List.length_nil, List.length_append, maxLen]); omega) (by (try simp only [List.length_cons, List.length_nil, List.length_append, maxLen]); omega) (fun Ar36 cr36 w35 hS => ?_)))
        have hp38 := hS.cap 1 rfl
        have hlhp38 := hp38.le
        have hmhp38 := hp38.mx
        refine W_cons rfl (by decide) (Sv_gt rfl rfl rfl hk31 (Sv_val rfl (R_move rfl rfl) ?_))
        obtain ⟨z41, hlaz41, hlbz41, hS⟩ := hS.merge 0 6 rfl rfl (by decide)
        have hS := hS.lift 1 rfl hlaz41
        have hS := hS.lift 7 rfl hlaz41
        have hS := hS.lift 6 rfl hlbz41
        refine W_cons rfl (by decide) (Sv_gt rfl rfl rfl hk31 (S_append hS 1 rfl rfl rfl elem42 rfl rfl (hS.sow 6 rfl (fun _ _ h => h)) (by (try simp only [List.length_cons, List.length_nil, List.length_append, maxLen]); omega) (by (try simp only [List.length_cons, List.length_nil, List.length_append, maxLen]); omega) (fun Ar40 cr40 w39 hS => ?_)))
        have hp42 := hS.cap 1 rfl
        have hlhp42 := hp42.le
        have hmhp42 := hp42.mx
        refine W_cons rfl (by decide) (Sv_gt rfl rfl rfl hk31 (Sv_call rfl rfl rfl ent29 ?_))
        refine (same_calls (parseS ((a0 ++ [13, 10]) ++ a1)).1 AR0_25 cR0_25 ((([] : List (List St)) ++ (parseS a0).1) ++ (parseS a1).1) Ar40 cr40 _ _ hS.out0 (hS.ow [] 5 rfl rfl (hS.zq [] 4 rfl rfl)) (hS.cap 5 rfl) (hS.ow [] 1 rfl rfl (hS.zq [] 0 rfl rfl)) (hS.cap 1 rfl) ).mono ?_
        rintro e_ w43 ⟨rfl, hS_⟩
        refine ⟨_, rfl, ?_⟩
        have hS := hS.call0 hS_
        refine W_cons rfl (by decide) (Sv_val rfl (R_pick_t rfl rfl hk31 rfl) ?_)
        refine W_cons rfl (by decide) (Sv_val rfl (R_move rfl rfl) ?_)
        have hk45 : (decide ((parseS ((a0 ++ [13, 10]) ++ a1)).1 = ((([] : List (List St)) ++ (parseS a0).1) ++ (parseS a1).1))) = true := by first | (rw [hj1]; simp; done) | (rw [hj2]; simp; done)
        refine W_cons rfl (by decide) (Sv_gt rfl rfl rfl hk45 (Sv_val rfl (R_move rfl rfl) ?_))
        refine W_cons rfl (by decide) (Sv_gt rfl rfl rfl hk45 (Sv_val rfl (R_move rfl rfl) ?_))
        refine W_cons rfl (by decide) (Sv_gt rfl rfl rfl hk45 (Sv_call rfl rfl rfl ent29 ?_))
        refine (same_calls (parseS (a0 ++ [13, 10])).1 AR0_28 cR0_28 (parseS a0).1 AR0_7 cR0_7 _ _ hS.out0 (hS.ow [] 3 rfl rfl (hS.zq [] 2 rfl rfl)) (hS.cap 3 rfl) (hS.ow [] 7 rfl rfl (hS.zq [] 0 rfl rfl)) (hS.cap 7 rfl) ).mono ?_
        rintro e_ w46 ⟨rfl, hS_⟩
        refine ⟨_, rfl, ?_⟩
        have hS := hS.call0 hS_
        refine W_cons rfl (by decide) (Sv_val rfl (R_pick_t rfl rfl hk45 rfl) ?_)
        refine W_cons rfl (by decide) (Sv_val rfl (R_move rfl rfl) ?_)
        have hk48 : (decide ((parseS (a0 ++ [13, 10])).1 = (parseS a0).1)) = true := by first | (rw [hj1]; simp; done) | (rw [hj2]; simp; done)
        refine W_cons rfl (by decide) (Sv_gt rfl rfl rfl hk48 (Sv_call rfl rfl rfl ent25 ?_))
        refine (lawake_calls  _ _ hS.out0  ).mono ?_
        rintro e_ w49 ⟨rfl, hS_⟩
        refine ⟨_, rfl, ?_⟩
        have hS := hS.call0 hS_
        refine W_cons rfl (by decide) (Sv_val rfl (R_pick_t rfl rfl hk48 rfl) ?_)
        refine W_cons rfl (by decide) (Sv_val rfl (R_assign rfl rfl) ?_)
        refine W_nil ?_
        refine E_then (C_fr [(4, .bool true)] rfl ?_)
        refine C_ret ?_
        refine E_ret1 rfl rfl ?_
        exact ⟨Lret1 (Lbool (show true = true by rfl)), hS.fin [] (by decide) rfl⟩
      ·have _hg21 := trivial
       have hg21p : ¬ ((a0.length : Int) > 1) := by simpa using hg21
       refine W_cons rfl (by decide) (Sv_off rfl rfl rfl (by rw [hg21] <;> rfl) ?_)
       refine W_cons rfl (by decide) (Sv_off rfl rfl rfl (by rw [hg21] <;> rfl) ?_)
       refine W_cons rfl (by decide) (Sv_off rfl rfl rfl (by rw [hg21] <;> rfl) ?_)
       refine W_cons rfl (by decide) (Sv_off rfl rfl rfl (by rw [hg21] <;> rfl) ?_)
       refine W_cons rfl (by decide) (Sv_off rfl rfl rfl (by rw [hg21] <;> rfl) ?_)
       refine W_cons rfl (by decide) (Sv_off rfl rfl rfl (by rw [hg21] <;> rfl) ?_)
       refine W_cons rfl (by decide) (Sv_gt rfl rfl rfl hg18 (Sv_val rfl (R_pick_f rfl rfl hg21 rfl) ?_))
       refine W_cons rfl (by decide) (Sv_val rfl (R_pick_f rfl rfl hg18 rfl) ?_)
       refine W_nil ?_
       refine E_then (C_fr [(0, vstr a0), (1, vstr a1), (5, .slice AR0_7 (parseS a0).1.length cR0_7), (8, .slice AR0_10 (parseS a1).1.length cR0_10), (61, .bool false)] rfl ?_)
       refine C_else rfl rfl ?_
       refine C_skip ?_
       refine E_then ?_
       refine C_seq ?_
       refine C_region ?_
       refine W_cons rfl (by decide) (Sv_val rfl (R_move rfl rfl) ?_)
       refine W_cons rfl (by decide) (Sv_val rfl (R_stradd rfl rfl rfl (by simp only [List.length_append, List.length_take, List.length_drop, List.length_cons, List.length_nil]; omega)) ?_)
       refine W_cons rfl (by decide) (Sv_val rfl (R_move rfl rfl) ?_)
       refine W_cons rfl (by decide) (Sv_val rfl (R_stradd rfl rfl rfl (by simp only [List.length_append, List.length_take, List.length_drop, List.length_cons, List.length_nil]; omega)) ?_)
       refine W_cons rfl (by decide) (Sv_call rfl rfl rfl ent26 ?_)
       refine (parse_calls ((a0 ++ [13, 10]) ++ a1) _ _ hS.out0  ).mono ?_
       rintro e_ w51 ⟨AR0_52, cR0_52, qR0_52, rfl, hS_⟩
       refine ⟨_, rfl, ?_⟩
       have hS := hS.call0 hS_
       have hp53 := hS.cap 1 rfl
       have hlhp53 := hp53.le
       have hmhp53 := hp53.mx
       refine W_cons rfl (by decide) (Sv_val rfl (R_move rfl rfl) ?_)
       refine W_cons rfl (by decide) (Sv_val rfl (R_extract rfl rfl rfl) ?_)
       refine W_cons rfl (by decide) (Sv_val rfl (R_extract rfl rfl rfl) ?_)
       refine W_cons rfl (by decide) (Sv_val rfl (R_extract rfl rfl rfl) ?_)
       refine W_cons rfl (by decide) (Sv_val rfl (R_assign rfl rfl) ?_)
       refine W_cons rfl (by decide) (Sv_val rfl (R_assign rfl rfl) ?_)
       refine W_cons rfl (by decide) (Sv_val rfl (R_assign rfl rfl) ?_)
       refine W_nil ?_
       refine E_then (C_fr [(0, vstr a0), (5, .slice AR0_7 (parseS a0).1.length cR0_7), (8, .slice AR0_10 (parseS a1).1.length cR0_10), (11, .slice AR0_52 (parseS ((a0 ++ [13, 10]) ++ a1)).1.length cR0_52), (13, .int .i64 (parseS ((a0 ++ [13, 10]) ++ a1)).2.2)] rfl ?_)
       refine C_seq ?_
       refine C_region ?_
       refine W_cons rfl (by decide) (Sv_val rfl (R_move rfl rfl) ?_)
       refine W_cons rfl (by decide) (Sv_val rfl (R_stradd rfl rfl rfl (by simp only [List.length_append, List.length_take, List.length_drop, List.length_cons, List.length_nil]; omega)) ?_)
       refine W_cons rfl (by decide) (Sv_call rfl rfl rfl ent26 ?_)
       refine (parse_calls (a0 ++ [13, 10]) _ _ hS.out0  ).mono ?_
       rintro e_ w54 ⟨AR0_55, cR0_55, qR0_55, rfl, hS_⟩
       refine ⟨_, rfl, ?_⟩
       have hS := hS.call0 hS_
       have hp56 := hS.cap 1 rfl
       have hlhp56 := hp56.le
       have hmhp56 := hp56.mx
       refine W_cons rfl (by decide) (Sv_val rfl (R_move rfl rfl) ?_)
       refine W_cons rfl (by decide) (Sv_val rfl (R_extract rfl rfl rfl) ?_)
       refine W_cons rfl (by decide) (Sv_val rfl (R_extract rfl rfl rfl) ?_)
       refine W_cons rfl (by decide) (Sv_val rfl (R_extract rfl rfl rfl) ?_)
       refine W_cons rfl (by decide) (Sv_val rfl (R_assign rfl rfl) ?_)
       refine W_cons rfl (by decide) (Sv_val rfl (R_assign rfl rfl) ?_)
       refine W_cons rfl (by decide) (Sv_val rfl (R_assign rfl rfl) ?_)
       refine W_nil ?_
       refine E_then (C_fr [(5, .slice AR0_7 (parseS a0).1.length cR0_7), (8, .slice AR0_10 (parseS a1).1.length cR0_10), (11, .slice AR0_52 (parseS ((a0 ++ [13, 10]) ++ a1)).1.length cR0_52), (13, .int .i64 (parseS ((a0 ++ [13, 10]) ++ a1)).2.2), (14, .slice AR0_55 (parseS (a0 ++ [13, 10])).1.length cR0_55), (16, .int .i64 (parseS (a0 ++ [13, 10])).2.2)] rfl ?_)
       refine C_seq ?_
       obtain ⟨hj1, hj2⟩ := joins_law (a := a0) (b := a1) (by omega) (by omega) (by assumption) (by assumption) (by assumption) (by first | exact .inl (by assumption) | exact .inr (by assumption))
       have hb1 := parse_len a0
       have hb2 := parse_len a1
       refine C_region ?_
       refine W_cons rfl (by decide) (Sv_val rfl (R_move rfl rfl) ?_)
       refine W_cons rfl (by decide) (Sv_val rfl (R_bin rfl rfl rfl rfl rfl) ?_)
       refine W_cons rfl (by decide) (Sv_val rfl (R_move rfl rfl) ?_)
       have hk57 : (((parseS ((a0 ++ [13, 10]) ++ a1)).2.2 == 0)) = true := by first | (rw [hj1]; simp; done) | (rw [hj2]; simp; done)
       have hk57p : (parseS ((a0 ++ [13, 10]) ++ a1)).2.2 = 0 := by simpa using hk57
       refine W_cons rfl (by decide) (Sv_gt rfl rfl rfl hk57 (Sv_val rfl (R_move rfl rfl) ?_))
       refine W_cons rfl (by decide) (Sv_gt rfl rfl rfl hk57 (Sv_val rfl (R_bin rfl rfl rfl rfl rfl) ?_))
       refine W_cons rfl (by decide) (Sv_val rfl (R_pick_t rfl rfl hk57 rfl) ?_)
       refine W_cons rfl (by decide) (Sv_val rfl (R_move rfl rfl) ?_)
       have hk58 : (((parseS (a0 ++ [13, 10])).2.2 == 0)) = true := by first | (rw [hj1]; simp; done) | (rw [hj2]; simp; done)
       have hk58p : (parseS (a0 ++ [13, 10])).2.2 = 0 := by simpa using hk58
       refine W_cons rfl (by decide) (Sv_gt rfl rfl rfl hk58 (Sv_val rfl (R_move rfl rfl) ?_))
       obtain ⟨z61, hS⟩ := hS.famx
       refine W_cons rfl (by decide) (Sv_gt rfl rfl rfl hk58 (S_row (d := (kslice kstr)) (q := z61) hS ([] : List (List St)) rfl (R_buildSlice (ps := []) (vs := []) (w' := w54.alloc (.cells [].toArray 56)) (r := .slice (some ⟨w54.heap.size, 0, none⟩) 0 0) rfl rfl rfl (by kernel_rfl)) rfl rfl (by decide) (fun g60 w59 hS => ?_)))
       refine W_cons rfl (by decide) (Sv_gt rfl rfl rfl hk58 (Sv_val rfl (R_move rfl rfl) ?_))
       obtain ⟨z64, hlaz64, hlbz64, hS⟩ := hS.merge 1 8 rfl rfl (by decide)
       have hS := hS.lift 1 rfl hlaz64
       have hS := hS.lift 8 rfl hlbz64
       refine W_cons rfl (by decide) (Sv_gt rfl rfl rfl hk58 (S_append hS 1 rfl rfl rfl elem42 rfl rfl (hS.sow 8 rfl (fun _ _ h => h)) (by (try simp only [List.length_cons, List.length_nil, List.length_append, maxLen]); omega) (by (try simp only [List.length_cons, List.length_nil, List.length_append, maxLen]); omega) (fun Ar63 cr63 w62 hS => ?_)))
       have hp65 := hS.cap 1 rfl
       have hlhp65 := hp65.le
       have hmhp65 := hp65.mx
       refine W_cons rfl (by decide) (Sv_gt rfl rfl rfl hk58 (Sv_val rfl (R_move rfl rfl) ?_))
       obtain ⟨z68, hlaz68, hlbz68, hS⟩ := hS.merge 0 6 rfl rfl (by decide)
       have hS := hS.lift 1 rfl hlaz68
       have hS := hS.lift 7 rfl hlaz68
       have hS := hS.lift 6 rfl hlbz68
       refine W_cons rfl (by decide) (Sv_gt rfl rfl rfl hk58 (S_append hS 1 rfl rfl rfl elem42 rfl rfl (hS.sow 6 rfl (fun _ _ h => h)) (by (try simp only [List.length_cons, List.length_nil, List.length_append, maxLen]); omega) (by (try simp only [List.length_cons, List.length_nil, List.length_append, maxLen]); omega) (fun Ar67 cr67 w66 hS => ?_)))
       have hp69 := hS.cap 1 rfl
       have hlhp69 := hp69.le
       have hmhp69 := hp69.mx
       refine W_cons rfl (by decide) (Sv_gt rfl rfl rfl hk58 (Sv_call rfl rfl rfl ent29 ?_))
       refine (same_calls (parseS ((a0 ++ [13, 10]) ++ a1)).1 AR0_52 cR0_52 ((([] : List (List St)) ++ (parseS a0).1) ++ (parseS a1).1) Ar67 cr67 _ _ hS.out0 (hS.ow [] 5 rfl rfl (hS.zq [] 4 rfl rfl)) (hS.cap 5 rfl) (hS.ow [] 1 rfl rfl (hS.zq [] 0 rfl rfl)) (hS.cap 1 rfl) ).mono ?_
       rintro e_ w70 ⟨rfl, hS_⟩
       refine ⟨_, rfl, ?_⟩
       have hS := hS.call0 hS_
       refine W_cons rfl (by decide) (Sv_val rfl (R_pick_t rfl rfl hk58 rfl) ?_)
       refine W_cons rfl (by decide) (Sv_val rfl (R_move rfl rfl) ?_)
       have hk72 : (decide ((parseS ((a0 ++ [13, 10]) ++ a1)).1 = ((([] : List (List St)) ++ (parseS a0).1) ++ (parseS a1).1))) = true := by first | (rw [hj1]; simp; done) | (rw [hj2]; simp; done)
       refine W_cons rfl (by decide) (Sv_gt rfl rfl rfl hk72 (Sv_val rfl (R_move rfl rfl) ?_))
       refine W_cons rfl (by decide) (Sv_gt rfl rfl rfl hk72 (Sv_val rfl (R_move rfl rfl) ?_))
       refine W_cons rfl (by decide) (Sv_gt rfl rfl rfl hk72 (Sv_call rfl rfl rfl ent29 ?_))
       refine (same_calls (parseS (a0 ++ [13, 10])).1 AR0_55 cR0_55 (parseS a0).1 AR0_7 cR0_7 _ _ hS.out0 (hS.ow [] 3 rfl rfl (hS.zq [] 2 rfl rfl)) (hS.cap 3 rfl) (hS.ow [] 7 rfl rfl (hS.zq [] 0 rfl rfl)) (hS.cap 7 rfl) ).mono ?_
       rintro e_ w73 ⟨rfl, hS_⟩
       refine ⟨_, rfl, ?_⟩
       have hS := hS.call0 hS_
       refine W_cons rfl (by decide) (Sv_val rfl (R_pick_t rfl rfl hk72 rfl) ?_)
       refine W_cons rfl (by decide) (Sv_val rfl (R_move rfl rfl) ?_)
       have hk75 : (decide ((parseS (a0 ++ [13, 10])).1 = (parseS a0).1)) = true := by first | (rw [hj1]; simp; done) | (rw [hj2]; simp; done)
       refine W_cons rfl (by decide) (Sv_gt rfl rfl rfl hk75 (Sv_call rfl rfl rfl ent25 ?_))
       refine (lawake_calls  _ _ hS.out0  ).mono ?_
       rintro e_ w76 ⟨rfl, hS_⟩
       refine ⟨_, rfl, ?_⟩
       have hS := hS.call0 hS_
       refine W_cons rfl (by decide) (Sv_val rfl (R_pick_t rfl rfl hk75 rfl) ?_)
       refine W_cons rfl (by decide) (Sv_val rfl (R_assign rfl rfl) ?_)
       refine W_nil ?_
       refine E_then (C_fr [(4, .bool true)] rfl ?_)
       refine C_ret ?_
       refine E_ret1 rfl rfl ?_
       exact ⟨Lret1 (Lbool (show true = true by rfl)), hS.fin [] (by decide) rfl⟩

end Go.Proofs.YtibniimdfahiiaaG
