/- The walk of the law CsvFirst: it returns true. -/
import Derived.Test.YtibniimdfahiiaaY3
set_option linter.all false
namespace Go.Proofs.YtibniimdfahiiaaG
open Go Go.RowKit
set_option maxHeartbeats 400000 in
set_option maxRecDepth 20000 in
theorem csvFirst_calls (a0 : St) (a1 : St) (z : Z) (w : World) (hI : In z w [])   :
    Calls Try.prog 7 #[vstr a0, vstr a1] w fun e w' => e = .returned (.bool true) ∧ Sp (FF []) w z w' [] := by
 have hS := hI.sp
 refine Calls_of (vs := [vstr a0, vstr a1]) (N := 93) Try.func7 rfl rfl (Nat.le_of_ble_eq_true rfl) ?_
 refine C_seq ?_
 refine C_region ?_
 refine W_cons rfl (by decide) (Sv_val rfl (R_assign rfl rfl) ?_)
 refine W_nil ?_
 refine E_then ?_
 refine C_seq ?_
 refine C_seq ?_
 refine C_region ?_
 refine W_cons rfl (by decide) (Sv_val rfl (R_move rfl rfl) ?_)
 refine W_cons rfl (by decide) (Sv_val rfl (R_strlen rfl rfl Try.underlying9) ?_)
 refine W_cons rfl (by decide) (Sv_val rfl (R_bin rfl rfl rfl rfl rfl) ?_)
 refine W_cons rfl (by decide) (Sv_val rfl (R_move rfl rfl) ?_)
 refine W_split (t := 11) rfl (fun hg1 => ?_) (fun hg1 => ?_)
 ·have _hg1 := trivial
  have hg1p : (a0.length : Int) > 2000 := by simpa using hg1
  refine W_cons rfl (by decide) (Sv_off rfl rfl rfl (by rw [hg1] <;> rfl) ?_)
  refine W_cons rfl (by decide) (Sv_off rfl rfl rfl (by rw [hg1] <;> rfl) ?_)
  refine W_cons rfl (by decide) (Sv_off rfl rfl rfl (by rw [hg1] <;> rfl) ?_)
  refine W_cons rfl (by decide) (Sv_val rfl (R_pick_t rfl rfl hg1 rfl) ?_)
  refine W_nil ?_
  refine E_then (C_fr [(0, vstr a0), (1, vstr a1), (15, .bool true)] rfl ?_)
  refine C_if rfl rfl ?_
  refine C_seq ?_
  refine C_region ?_
  refine W_cons rfl (by decide) (Sv_call rfl rfl rfl ent25 ?_)
  refine (lawake_calls  _ _ hS.out0  ).mono ?_
  rintro e_ w2 ⟨rfl, hS_⟩
  refine ⟨_, rfl, ?_⟩
  have hS := hS.call0 hS_
  refine W_cons rfl (by decide) (Sv_val rfl (R_assign rfl rfl) ?_)
  refine W_nil ?_
  refine E_then ?_
  refine C_ret ?_
  refine E_then_ret ?_
  refine E_ret1 rfl rfl ?_
  exact ⟨Lret1 (Lbool (show true = true by rfl)), hS.fin [] (by decide) rfl⟩
 ·have _hg1 := trivial
  have hg1p : ¬ ((a0.length : Int) > 2000) := by simpa using hg1
  refine W_cons rfl (by decide) (Sv_gt rfl rfl rfl hg1 (Sv_val rfl (R_move rfl rfl) ?_))
  refine W_cons rfl (by decide) (Sv_gt rfl rfl rfl hg1 (Sv_val rfl (R_strlen rfl rfl Try.underlying9) ?_))
  refine W_cons rfl (by decide) (Sv_gt rfl rfl rfl hg1 (Sv_val rfl (R_bin rfl rfl rfl rfl rfl) ?_))
  refine W_cons rfl (by decide) (Sv_val rfl (R_pick_f rfl rfl hg1 rfl) ?_)
  refine W_nil ?_
  refine E_then (C_fr [(0, vstr a0), (1, vstr a1), (15, .bool (decide ((a1.length : Int) > 2000)))] rfl ?_)
  refine C_ite rfl (fun hC0 => ?_) (fun hC0 => ?_)
  ·have _hC0 := trivial
   have hC0p : (a1.length : Int) > 2000 := by simpa using hC0
   refine C_seq ?_
   refine C_region ?_
   refine W_cons rfl (by decide) (Sv_call rfl rfl rfl ent25 ?_)
   refine (lawake_calls  _ _ hS.out0  ).mono ?_
   rintro e_ w4 ⟨rfl, hS_⟩
   refine ⟨_, rfl, ?_⟩
   have hS := hS.call0 hS_
   refine W_cons rfl (by decide) (Sv_val rfl (R_assign rfl rfl) ?_)
   refine W_nil ?_
   refine E_then ?_
   refine C_ret ?_
   refine E_then_ret ?_
   refine E_ret1 rfl rfl ?_
   exact ⟨Lret1 (Lbool (show true = true by rfl)), hS.fin [] (by decide) rfl⟩
  ·have _hC0 := trivial
   have hC0p : ¬ ((a1.length : Int) > 2000) := by simpa using hC0
   refine C_skip ?_
   refine E_then ?_
   refine C_seq ?_
   refine C_region ?_
   refine W_cons rfl (by decide) (Sv_val rfl (R_move rfl rfl) ?_)
   refine W_cons rfl (by decide) (Sv_call rfl rfl rfl ent26 ?_)
   refine (parse_calls a0 _ _ hS.out0  ).mono ?_
   rintro e_ w6 ⟨AR0_7, cR0_7, qR0_7, rfl, hS_⟩
   refine ⟨_, rfl, ?_⟩
   have hS := hS.call0 hS_
   have hp8 := hS.cap 1 rfl
   have hlhp8 := hp8.le
   have hmhp8 := hp8.mx
   refine W_cons rfl (by decide) (Sv_val rfl (R_move rfl rfl) ?_)
   refine W_cons rfl (by decide) (Sv_val rfl (R_extract rfl rfl rfl) ?_)
   refine W_cons rfl (by decide) (Sv_val rfl (R_extract rfl rfl rfl) ?_)
   refine W_cons rfl (by decide) (Sv_val rfl (R_extract rfl rfl rfl) ?_)
   refine W_cons rfl (by decide) (Sv_val rfl (R_assign rfl rfl) ?_)
   refine W_cons rfl (by decide) (Sv_val rfl (R_assign rfl rfl) ?_)
   refine W_cons rfl (by decide) (Sv_val rfl (R_assign rfl rfl) ?_)
   refine W_nil ?_
   refine E_then (C_fr [(0, vstr a0), (1, vstr a1), (5, .slice AR0_7 (parseS a0).1.length cR0_7), (6, .int .i64 (parseS a0).2.1), (7, .int .i64 (parseS a0).2.2)] rfl ?_)
   refine C_seq ?_
   refine C_seq ?_
   refine C_region ?_
   refine W_cons rfl (by decide) (Sv_val rfl (R_move rfl rfl) ?_)
   refine W_cons rfl (by decide) (Sv_val rfl (R_bin rfl rfl rfl rfl rfl) ?_)
   refine W_nil ?_
   refine E_then ?_
   refine C_ite rfl (fun hC1 => ?_) (fun hC1 => ?_)
   ·have _hC1 := trivial
    have hC1p : (parseS a0).2.2 = 0 := by simpa using hC1
    have hc := (parse_cases (s := a0) (by omega)).resolve_right (fun h => by omega)
    refine C_seq ?_
    refine C_region ?_
    refine W_cons rfl (by decide) (Sv_val rfl (R_move rfl rfl) ?_)
    refine W_cons rfl (by decide) (Sv_val rfl (R_len rfl rfl Try.underlying42) ?_)
    refine W_cons rfl (by decide) (Sv_val rfl (R_bin rfl rfl rfl rfl rfl) ?_)
    refine W_cons rfl (by decide) (Sv_val rfl (R_move rfl rfl) ?_)
    have hk9 : (decide (((parseS a0).1.length : Int) > 0)) = true := by simp; omega
    have hk9p : ((parseS a0).1.length : Int) > 0 := by simpa using hk9
    refine W_cons rfl (by decide) (Sv_gt rfl rfl rfl hk9 (Sv_call rfl rfl rfl ent25 ?_))
    refine (lawake_calls  _ _ hS.out0  ).mono ?_
    rintro e_ w10 ⟨rfl, hS_⟩
    refine ⟨_, rfl, ?_⟩
    have hS := hS.call0 hS_
    refine W_cons rfl (by decide) (Sv_val rfl (R_pick_t rfl rfl hk9 rfl) ?_)
    refine W_cons rfl (by decide) (Sv_val rfl (R_assign rfl rfl) ?_)
    refine W_nil ?_
    refine E_then (C_fr [(4, .bool true)] rfl ?_)
    refine C_ret ?_
    refine E_then_ret ?_
    refine E_ret1 rfl rfl ?_
    exact ⟨Lret1 (Lbool (show true = true by rfl)), hS.fin [] (by decide) rfl⟩
   ·have _hC1 := trivial
    have hC1p : ¬ ((parseS a0).2.2 = 0) := by simpa using hC1
    obtain ⟨hc1, hc2, hc3, hc4⟩ := (parse_cases (s := a0) (by omega)).resolve_left (fun h => hC1p h.1)
    refine C_skip ?_
    refine E_then ?_
    refine C_seq ?_
    refine C_seq ?_
    refine C_region ?_
    refine W_cons rfl (by decide) (Sv_val rfl (R_move rfl rfl) ?_)
    refine W_cons rfl (by decide) (Sv_val rfl (R_bin rfl rfl rfl rfl rfl) ?_)
    refine W_cons rfl (by decide) (Sv_val rfl (R_move rfl rfl) ?_)
    have hk12 : (((parseS a0).2.2 != 2)) = false := by simp [hc1]
    have hk12p : (parseS a0).2.2 = 2 := by simpa using hk12
    refine W_cons rfl (by decide) (Sv_gt rfl rfl rfl hk12 (Sv_val rfl (R_move rfl rfl) ?_))
    refine W_cons rfl (by decide) (Sv_gt rfl rfl rfl hk12 (Sv_val rfl (R_bin rfl rfl rfl rfl rfl) ?_))
    refine W_cons rfl (by decide) (Sv_val rfl (R_pick_f rfl rfl hk12 rfl) ?_)
    refine W_cons rfl (by decide) (Sv_val rfl (R_move rfl rfl) ?_)
    have hk13 : (decide ((parseS a0).2.1 < 0)) = false := by simp; omega
    have hk13p : ¬ ((parseS a0).2.1 < 0) := by simpa using hk13
    refine W_cons rfl (by decide) (Sv_gt rfl rfl rfl hk13 (Sv_val rfl (R_move rfl rfl) ?_))
    refine W_cons rfl (by decide) (Sv_gt rfl rfl rfl hk13 (Sv_val rfl (R_move rfl rfl) ?_))
    refine W_cons rfl (by decide) (Sv_gt rfl rfl rfl hk13 (Sv_val rfl (R_strlen rfl rfl Try.underlying9) ?_))
    refine W_cons rfl (by decide) (Sv_gt rfl rfl rfl hk13 (Sv_val rfl (R_bin rfl rfl rfl rfl rfl) ?_))
    refine W_cons rfl (by decide) (Sv_val rfl (R_pick_f rfl rfl hk13 rfl) ?_)
    refine W_nil ?_
    refine E_then (C_fr [(0, vstr a0), (1, vstr a1), (6, .int .i64 (parseS a0).2.1), (42, .bool (decide ((parseS a0).2.1 > (a0.length : Int))))] rfl ?_)
    have hk14 : (decide ((parseS a0).2.1 > (a0.length : Int))) = false := by simp; omega
    have hk14p : ¬ ((parseS a0).2.1 > (a0.length : Int)) := by simpa using hk14
    refine C_else rfl hk14 ?_
    refine C_skip ?_
    refine E_then ?_
    refine C_seq ?_
    refine C_seq ?_
    refine C_region ?_
    refine W_cons rfl (by decide) (Sv_val rfl (R_move rfl rfl) ?_)
    refine W_cons rfl (by decide) (Sv_val rfl (R_move rfl rfl) ?_)
    refine W_cons rfl (by decide) (Sv_val rfl (R_strslice_h rfl rfl rfl Try.underlying9 (by omega) (by omega)) ?_)
    refine W_cons rfl (by decide) (Sv_call rfl rfl rfl ent27 ?_)
    refine (lparses_calls (a0.take (parseS a0).2.1.toNat) _ _ hS.out0  (by first | omega | (simp only [List.length_append, List.length_take, List.length_cons, List.length_nil]; omega))).mono ?_
    rintro e_ w15 ⟨rfl, hS_⟩
    refine ⟨_, rfl, ?_⟩
    have hS := hS.call0 hS_
    refine W_cons rfl (by decide) (Sv_val rfl (R_un rfl rfl rfl) ?_)
    refine W_cons rfl (by decide) (Sv_val rfl (R_move rfl rfl) ?_)
    refine W_split (t := 48) rfl (fun hg17 => ?_) (fun hg17 => ?_)
    ·have _hg17 := trivial
     have hg17p : ¬ (parsesS (a0.take (parseS a0).2.1.toNat) = true) := by simpa using hg17
     refine W_cons rfl (by decide) (Sv_gt rfl rfl rfl hg17 (Sv_val rfl (R_move rfl rfl) ?_))
     refine W_cons rfl (by decide) (Sv_gt rfl rfl rfl hg17 (Sv_val rfl (R_move rfl rfl) ?_))
     refine W_cons rfl (by decide) (Sv_gt rfl rfl rfl hg17 (Sv_val rfl (R_strslice_h rfl rfl rfl Try.underlying9 (by omega) (by omega)) ?_))
     refine W_cons rfl (by decide) (Sv_gt rfl rfl rfl hg17 (Sv_val rfl (R_stradd rfl rfl rfl (by simp only [List.length_append, List.length_take, List.length_drop, List.length_cons, List.length_nil]; omega)) ?_))
     refine W_cons rfl (by decide) (Sv_gt rfl rfl rfl hg17 (Sv_call rfl rfl rfl ent27 ?_))
     refine (lparses_calls ((a0.take (parseS a0).2.1.toNat) ++ [34]) _ _ hS.out0  (by first | omega | (simp only [List.length_append, List.length_take, List.length_cons, List.length_nil]; omega))).mono ?_
     rintro e_ w18 ⟨rfl, hS_⟩
     refine ⟨_, rfl, ?_⟩
     have hS := hS.call0 hS_
     refine W_cons rfl (by decide) (Sv_gt rfl rfl rfl hg17 (Sv_val rfl (R_un rfl rfl rfl) ?_))
     refine W_cons rfl (by decide) (Sv_val rfl (R_pick_t rfl rfl hg17 rfl) ?_)
     refine W_cons rfl (by decide) (Sv_val rfl (R_move rfl rfl) ?_)
     refine W_split (t := 56) rfl (fun hg20 => ?_) (fun hg20 => ?_)
     ·have _hg20 := trivial
      have hg20p : ¬ (parsesS ((a0.take (parseS a0).2.1.toNat) ++ [34]) = true) := by simpa using hg20
      refine W_cons rfl (by decide) (Sv_gt rfl rfl rfl hg20 (Sv_val rfl (R_move rfl rfl) ?_))
      refine W_cons rfl (by decide) (Sv_gt rfl rfl rfl hg20 (Sv_val rfl (R_move rfl rfl) ?_))
      refine W_cons rfl (by decide) (Sv_gt rfl rfl rfl hg20 (Sv_val rfl (R_strslice_h rfl rfl rfl Try.underlying9 (by omega) (by omega)) ?_))
      refine W_cons rfl (by decide) (Sv_gt rfl rfl rfl hg20 (Sv_val rfl (R_stradd rfl rfl rfl (by simp only [List.length_append, List.length_take, List.length_drop, List.length_cons, List.length_nil]; omega)) ?_))
      refine W_cons rfl (by decide) (Sv_gt rfl rfl rfl hg20 (Sv_call rfl rfl rfl ent27 ?_))
      refine (lparses_calls ((a0.take (parseS a0).2.1.toNat) ++ [10]) _ _ hS.out0  (by first | omega | (simp only [List.length_append, List.length_take, List.length_cons, List.length_nil]; omega))).mono ?_
      rintro e_ w21 ⟨rfl, hS_⟩
      refine ⟨_, rfl, ?_⟩
      have hS := hS.call0 hS_
      refine W_cons rfl (by decide) (Sv_gt rfl rfl rfl hg20 (Sv_val rfl (R_un rfl rfl rfl) ?_))
      refine W_cons rfl (by decide) (Sv_val rfl (R_pick_t rfl rfl hg20 rfl) ?_)
      refine W_nil ?_
      refine E_then (C_fr [(0, vstr a0), (1, vstr a1), (6, .int .i64 (parseS a0).2.1), (63, .bool (!(parsesS ((a0.take (parseS a0).2.1.toNat) ++ [10]))))] rfl ?_)
      have hk23 : (!(parsesS ((a0.take (parseS a0).2.1.toNat) ++ [10]))) = false := by have h_ := first_on (s := a0) (by omega) hc1; simp_all
      have hk23p : (parsesS ((a0.take (parseS a0).2.1.toNat) ++ [10]) = true) := by simpa using hk23
      refine C_else rfl hk23 ?_
      refine C_skip ?_
      refine E_then ?_
      refine C_seq ?_
      refine C_seq ?_
      refine C_region ?_
      refine W_cons rfl (by decide) (Sv_val rfl (R_move rfl rfl) ?_)
      refine W_cons rfl (by decide) (Sv_val rfl (R_move rfl rfl) ?_)
      refine W_cons rfl (by decide) (Sv_val rfl (R_strlen rfl rfl Try.underlying9) ?_)
      refine W_cons rfl (by decide) (Sv_val rfl (R_bin rfl rfl rfl rfl rfl) ?_)
      refine W_nil ?_
      refine E_then ?_
      refine C_ite rfl (fun hC4 => ?_) (fun hC4 => ?_)
      ·have _hC4 := trivial
       have hC4p : (parseS a0).2.1 = (a0.length : Int) := by simpa using hC4
       refine C_seq ?_
       refine C_region ?_
       refine W_cons rfl (by decide) (Sv_val rfl (R_move rfl rfl) ?_)
       refine W_cons rfl (by decide) (Sv_call rfl rfl rfl ent27 ?_)
       refine (lparses_calls a0 _ _ hS.out0  (by first | omega | (simp only [List.length_append, List.length_take, List.length_cons, List.length_nil]; omega))).mono ?_
       rintro e_ w24 ⟨rfl, hS_⟩
       refine ⟨_, rfl, ?_⟩
       have hS := hS.call0 hS_
       refine W_cons rfl (by decide) (Sv_val rfl (R_un rfl rfl rfl) ?_)
       refine W_cons rfl (by decide) (Sv_val rfl (R_move rfl rfl) ?_)
       have hk26 : (!(parsesS a0)) = true := by simp [parsesS, hc1]
       have hk26p : ¬ (parsesS a0 = true) := by simpa using hk26
       refine W_cons rfl (by decide) (Sv_gt rfl rfl rfl hk26 (Sv_call rfl rfl rfl ent25 ?_))
       refine (lawake_calls  _ _ hS.out0  ).mono ?_
       rintro e_ w27 ⟨rfl, hS_⟩
       refine ⟨_, rfl, ?_⟩
       have hS := hS.call0 hS_
       refine W_cons rfl (by decide) (Sv_val rfl (R_pick_t rfl rfl hk26 rfl) ?_)
       refine W_cons rfl (by decide) (Sv_val rfl (R_assign rfl rfl) ?_)
       refine W_nil ?_
       refine E_then (C_fr [(4, .bool true)] rfl ?_)
       refine C_ret ?_
       refine E_then_ret ?_
       refine E_ret1 rfl rfl ?_
       exact ⟨Lret1 (Lbool (show true = true by rfl)), hS.fin [] (by decide) rfl⟩
      ·have _hC4 := trivial
       have hC4p : ¬ ((parseS a0).2.1 = (a0.length : Int)) := by simpa using hC4
       refine C_skip ?_
       refine E_then (C_fr [(0, vstr a0), (1, vstr a1), (6, .int .i64 (parseS a0).2.1)] rfl ?_)
       refine C_seq ?_
       refine C_region ?_
       refine W_cons rfl (by decide) (Sv_val rfl (R_move rfl rfl) ?_)
       refine W_cons rfl (by decide) (Sv_val rfl (R_move rfl rfl) ?_)
       refine W_cons rfl (by decide) (Sv_val rfl (R_add64 rfl rfl rfl (by omega) (by omega)) ?_)
       refine W_cons rfl (by decide) (Sv_val rfl (R_strslice_h rfl rfl rfl Try.underlying9 (by omega) (by omega)) ?_)
       refine W_cons rfl (by decide) (Sv_val rfl (R_move rfl rfl) ?_)
       refine W_cons rfl (by decide) (Sv_val rfl (R_stradd rfl rfl rfl (by simp only [List.length_append, List.length_take, List.length_drop, List.length_cons, List.length_nil]; omega)) ?_)
       refine W_cons rfl (by decide) (Sv_val rfl (R_move rfl rfl) ?_)
       refine W_cons rfl (by decide) (Sv_call rfl rfl rfl ent28 ?_)
       refine (lspoilt_calls ((a0.take ((parseS a0).2.1 + 1).toNat) ++ a1) (parseS a0).2.1 _ _ hS.out0  (by first | omega | (simp only [List.length_append, List.length_take, List.length_cons, List.length_nil]; omega))).mono ?_
       rintro e_ w29 ⟨rfl, hS_⟩
       refine ⟨_, rfl, ?_⟩
       have hS := hS.call0 hS_
       refine W_cons rfl (by decide) (Sv_val rfl (R_move rfl rfl) ?_)
       have hk31 : (spoS ((a0.take ((parseS a0).2.1 + 1).toNat) ++ a1) (parseS a0).2.1) = true := by exact first_behind a1 (by omega) (by omega) hc1 (by omega)
       refine W_cons rfl (by decide) (Sv_gt rfl rfl rfl hk31 (Sv_val rfl (R_move rfl rfl) ?_))
       refine W_cons rfl (by decide) (Sv_gt rfl rfl rfl hk31 (Sv_val rfl (R_move rfl rfl) ?_))
       refine W_cons rfl (by decide) (Sv_gt rfl rfl rfl hk31 (Sv_val rfl (R_add64 rfl rfl rfl (by omega) (by omega)) ?_))
       refine W_cons rfl (by decide) (Sv_gt rfl rfl rfl hk31 (Sv_val rfl (R_strslice_h rfl rfl rfl Try.underlying9 (by omega) (by omega)) ?_))
       refine W_cons rfl (by decide) (Sv_gt rfl rfl rfl hk31 (Sv_val rfl (R_move rfl rfl) ?_))
       refine W_cons rfl (by decide) (Sv_gt rfl rfl rfl hk31 (Sv_call rfl rfl rfl ent28 ?_))
       refine (lspoilt_calls (a0.take ((parseS a0).2.1 + 1).toNat) (parseS a0).2.1 _ _ hS.out0  (by first | omega | (simp only [List.length_append, List.length_take, List.length_cons, List.length_nil]; omega))).mono ?_
       rintro e_ w32 ⟨rfl, hS_⟩
       refine ⟨_, rfl, ?_⟩
       have hS := hS.call0 hS_
       refine W_cons rfl (by decide) (Sv_val rfl (R_pick_t rfl rfl hk31 rfl) ?_)
       refine W_cons rfl (by decide) (Sv_val rfl (R_move rfl rfl) ?_)
       have hk34 : (spoS (a0.take ((parseS a0).2.1 + 1).toNat) (parseS a0).2.1) = true := by exact first_behind0 (by omega) hc1 (by omega)
       refine W_cons rfl (by decide) (Sv_gt rfl rfl rfl hk34 (Sv_call rfl rfl rfl ent25 ?_))
       refine (lawake_calls  _ _ hS.out0  ).mono ?_
       rintro e_ w35 ⟨rfl, hS_⟩
       refine ⟨_, rfl, ?_⟩
       have hS := hS.call0 hS_
       refine W_cons rfl (by decide) (Sv_val rfl (R_pick_t rfl rfl hk34 rfl) ?_)
       refine W_cons rfl (by decide) (Sv_val rfl (R_assign rfl rfl) ?_)
       refine W_nil ?_
       refine E_then (C_fr [(4, .bool true)] rfl ?_)
       refine C_ret ?_
       refine E_ret1 rfl rfl ?_
       exact ⟨Lret1 (Lbool (show true = true by rfl)), hS.fin [] (by decide) rfl⟩
     ·have _hg20 := trivial
      have hg20p : (parsesS ((a0.take (parseS a0).2.1.toNat) ++ [34]) = true) := by simpa using hg20
      refine W_cons rfl (by decide) (Sv_off rfl rfl rfl (by rw [hg20] <;> rfl) ?_)
      refine W_cons rfl (by decide) (Sv_off rfl rfl rfl (by rw [hg20] <;> rfl) ?_)
      refine W_cons rfl (by decide) (Sv_off rfl rfl rfl (by rw [hg20] <;> rfl) ?_)
      refine W_cons rfl (by decide) (Sv_off rfl rfl rfl (by rw [hg20] <;> rfl) ?_)
      refine W_cons rfl (by decide) (Sv_off rfl rfl rfl (by rw [hg20] <;> rfl) ?_)
      refine W_cons rfl (by decide) (Sv_off rfl rfl rfl (by rw [hg20] <;> rfl) ?_)
      refine W_cons rfl (by decide) (Sv_val rfl (R_pick_f rfl rfl hg20 rfl) ?_)
      refine W_nil ?_
      refine E_then (C_fr [(0, vstr a0), (1, vstr a1), (6, .int .i64 (parseS a0).2.1), (63, .bool false)] rfl ?_)
      refine C_else rfl rfl ?_
      refine C_skip ?_
      refine E_then ?_
      refine C_seq ?_
      refine C_seq ?_
      refine C_region ?_
      refine W_cons rfl (by decide) (Sv_val rfl (R_move rfl rfl) ?_)
      refine W_cons rfl (by decide) (Sv_val rfl (R_move rfl rfl) ?_)
      refine W_cons rfl (by decide) (Sv_val rfl (R_strlen rfl rfl Try.underlying9) ?_)
      refine W_cons rfl (by decide) (Sv_val rfl (R_bin rfl rfl rfl rfl rfl) ?_)
      refine W_nil ?_
      refine E_then ?_
      refine C_ite rfl (fun hC4 => ?_) (fun hC4 => ?_)
      ·have _hC4 := trivial
       have hC4p : (parseS a0).2.1 = (a0.length : Int) := by simpa using hC4
       refine C_seq ?_
       refine C_region ?_
       refine W_cons rfl (by decide) (Sv_val rfl (R_move rfl rfl) ?_)
       refine W_cons rfl (by decide) (Sv_call rfl rfl rfl ent27 ?_)
       refine (lparses_calls a0 _ _ hS.out0  (by first | omega | (simp only [List.length_append, List.length_take, List.length_cons, List.length_nil]; omega))).mono ?_
       rintro e_ w37 ⟨rfl, hS_⟩
       refine ⟨_, rfl, ?_⟩
       have hS := hS.call0 hS_
       refine W_cons rfl (by decide) (Sv_val rfl (R_un rfl rfl rfl) ?_)
       refine W_cons rfl (by decide) (Sv_val rfl (R_move rfl rfl) ?_)
       have hk39 : (!(parsesS a0)) = true := by simp [parsesS, hc1]
       have hk39p : ¬ (parsesS a0 = true) := by simpa using hk39
       refine W_cons rfl (by decide) (Sv_gt rfl rfl rfl hk39 (Sv_call rfl rfl rfl ent25 ?_))
       refine (lawake_calls  _ _ hS.out0  ).mono ?_
       rintro e_ w40 ⟨rfl, hS_⟩
       refine ⟨_, rfl, ?_⟩
       have hS := hS.call0 hS_
       refine W_cons rfl (by decide) (Sv_val rfl (R_pick_t rfl rfl hk39 rfl) ?_)
       refine W_cons rfl (by decide) (Sv_val rfl (R_assign rfl rfl) ?_)
       refine W_nil ?_
       refine E_then (C_fr [(4, .bool true)] rfl ?_)
       refine C_ret ?_
       refine E_then_ret ?_
       refine E_ret1 rfl rfl ?_
       exact ⟨Lret1 (Lbool (show true = true by rfl)), hS.fin [] (by decide) rfl⟩
      ·have _hC4 := trivial
       have hC4p : ¬ ((parseS a0).2.1 = (a0.length : Int)) := by simpa using hC4
       refine C_skip ?_
       refine E_then (C_fr [(0, vstr a0), (1, vstr a1), (6, .int .i64 (parseS a0).2.1)] rfl ?_)
       refine C_seq ?_
       refine C_region ?_
       refine W_cons rfl (by decide) (Sv_val rfl (R_move rfl rfl) ?_)
       refine W_cons rfl (by decide) (Sv_val rfl (R_move rfl rfl) ?_)
       refine W_cons rfl (by decide) (Sv_val rfl (R_add64 rfl rfl rfl (by omega) (by omega)) ?_)
       refine W_cons rfl (by decide) (Sv_val rfl (R_strslice_h rfl rfl rfl Try.underlying9 (by omega) (by omega)) ?_)
       refine W_cons rfl (by decide) (Sv_val rfl (R_move rfl rfl) ?_)
       refine W_cons rfl (by decide) (Sv_val rfl (R_stradd rfl rfl rfl (by simp only [List.length_append, List.length_take, List.length_drop, List.length_cons, List.length_nil]; omega)) ?_)
       refine W_cons rfl (by decide) (Sv_val rfl (R_move rfl rfl) ?_)
       refine W_cons rfl (by decide) (Sv_call rfl rfl rfl ent28 ?_)
       refine (lspoilt_calls ((a0.take ((parseS a0).2.1 + 1).toNat) ++ a1) (parseS a0).2.1 _ _ hS.out0  (by first | omega | (simp only [List.length_append, List.length_take, List.length_cons, List.length_nil]; omega))).mono ?_
       rintro e_ w42 ⟨rfl, hS_⟩
       refine ⟨_, rfl, ?_⟩
       have hS := hS.call0 hS_
       refine W_cons rfl (by decide) (Sv_val rfl (R_move rfl rfl) ?_)
       have hk44 : (spoS ((a0.take ((parseS a0).2.1 + 1).toNat) ++ a1) (parseS a0).2.1) = true := by exact first_behind a1 (by omega) (by omega) hc1 (by omega)
       refine W_cons rfl (by decide) (Sv_gt rfl rfl rfl hk44 (Sv_val rfl (R_move rfl rfl) ?_))
       refine W_cons rfl (by decide) (Sv_gt rfl rfl rfl hk44 (Sv_val rfl (R_move rfl rfl) ?_))
       refine W_cons rfl (by decide) (Sv_gt rfl rfl rfl hk44 (Sv_val rfl (R_add64 rfl rfl rfl (by omega) (by omega)) ?_))
       refine W_cons rfl (by decide) (Sv_gt rfl rfl rfl hk44 (Sv_val rfl (R_strslice_h rfl rfl rfl Try.underlying9 (by omega) (by omega)) ?_))
       refine W_cons rfl (by decide) (Sv_gt rfl rfl rfl hk44 (Sv_val rfl (R_move rfl rfl) ?_))
       refine W_cons rfl (by decide) (Sv_gt rfl rfl rfl hk44 (Sv_call rfl rfl rfl ent28 ?_))
       refine (lspoilt_calls (a0.take ((parseS a0).2.1 + 1).toNat) (parseS a0).2.1 _ _ hS.out0  (by first | omega | (simp only [List.length_append, List.length_take, List.length_cons, List.length_nil]; omega))).mono ?_
       rintro e_ w45 ⟨rfl, hS_⟩
       refine ⟨_, rfl, ?_⟩
       have hS := hS.call0 hS_
       refine W_cons rfl (by decide) (Sv_val rfl (R_pick_t rfl rfl hk44 rfl) ?_)
       refine W_cons rfl (by decide) (Sv_val rfl (R_move rfl rfl) ?_)
       have hk47 : (spoS (a0.take ((parseS a0).2.1 + 1).toNat) (parseS a0).2.1) = true := by exact first_behind0 (by omega) hc1 (by omega)
       refine W_cons rfl (by decide) (Sv_gt rfl rfl rfl hk47 (Sv_call rfl rfl rfl ent25 ?_))
       refine (lawake_calls  _ _ hS.out0  ).mono ?_
       rintro e_ w48 ⟨rfl, hS_⟩
       refine ⟨_, rfl, ?_⟩
       have hS := hS.call0 hS_
       refine W_cons rfl (by decide) (Sv_val rfl (R_pick_t rfl rfl hk47 rfl) ?_)
       refine W_cons rfl (by decide) (Sv_val rfl (R_assign rfl rfl) ?_)
       refine W_nil ?_
       refine E_then (C_fr [(4, .bool true)] rfl ?_)
       refine C_ret ?_
       refine E_ret1 rfl rfl ?_
       exact ⟨Lret1 (Lbool (show true = true by rfl)), hS.fin [] (by decide) rfl⟩
    ·have _hg17 := trivial
     have hg17p : (parsesS (a0.take (parseS a0).2.1.toNat) = true) := by simpa using hg17
     refine W_cons rfl (by decide) (Sv_off rfl rfl rfl (by rw [hg17] <;> rfl) ?_)
     refine W_cons rfl (by decide) (Sv_off rfl rfl rfl (by rw [hg17] <;> rfl) ?_)
     refine W_cons rfl (by decide) (Sv_off rfl rfl rfl (by rw [hg17] <;> rfl) ?_)
     refine W_cons rfl (by decide) (Sv_off rfl rfl rfl (by rw [hg17] <;> rfl) ?_)
     refine W_cons rfl (by decide) (Sv_off rfl rfl rfl (by rw [hg17] <;> rfl) ?_)
     refine W_cons rfl (by decide) (Sv_off rfl rfl rfl (by rw [hg17] <;> rfl) ?_)
     refine W_cons rfl (by decide) (Sv_val rfl (R_pick_f rfl rfl hg17 rfl) ?_)
     refine W_cons rfl (by decide) (Sv_val rfl (R_move rfl rfl) ?_)
     refine W_cons rfl (by decide) (Sv_off rfl rfl rfl rfl ?_)
     refine W_cons rfl (by decide) (Sv_off rfl rfl rfl rfl ?_)
     refine W_cons rfl (by decide) (Sv_off rfl rfl rfl rfl ?_)
     refine W_cons rfl (by decide) (Sv_off rfl rfl rfl rfl ?_)
     refine W_cons rfl (by decide) (Sv_off rfl rfl rfl rfl ?_)
     refine W_cons rfl (by decide) (Sv_off rfl rfl rfl rfl ?_)
     refine W_cons rfl (by decide) (Sv_val rfl (R_pick_f rfl rfl rfl rfl) ?_)
     refine W_nil ?_
     refine E_then (C_fr [(0, vstr a0), (1, vstr a1), (6, .int .i64 (parseS a0).2.1), (63, .bool false)] rfl ?_)
     refine C_else rfl rfl ?_
     refine C_skip ?_
     refine E_then ?_
     refine C_seq ?_
     refine C_seq ?_
     refine C_region ?_
     refine W_cons rfl (by decide) (Sv_val rfl (R_move rfl rfl) ?_)
     refine W_cons rfl (by decide) (Sv_val rfl (R_move rfl rfl) ?_)
     refine W_cons rfl (by decide) (Sv_val rfl (R_strlen rfl rfl Try.underlying9) ?_)
     refine W_cons rfl (by decide) (Sv_val rfl (R_bin rfl rfl rfl rfl rfl) ?_)
     refine W_nil ?_
     refine E_then ?_
     refine C_ite rfl (fun hC4 => ?_) (fun hC4 => ?_)
     ·have _hC4 := trivial
      have hC4p : (parseS a0).2.1 = (a0.length : Int) := by simpa using hC4
      refine C_seq ?_
      refine C_region ?_
      refine W_cons rfl (by decide) (Sv_val rfl (R_move rfl rfl) ?_)
      refine W_cons rfl (by decide) (Sv_call rfl rfl rfl ent27 ?_)
      refine (lparses_calls a0 _ _ hS.out0  (by first | omega | (simp only [List.length_append, List.length_take, List.length_cons, List.length_nil]; omega))).mono ?_
      rintro e_ w50 ⟨rfl, hS_⟩
      refine ⟨_, rfl, ?_⟩
      have hS := hS.call0 hS_
      refine W_cons rfl (by decide) (Sv_val rfl (R_un rfl rfl rfl) ?_)
      refine W_cons rfl (by decide) (Sv_val rfl (R_move rfl rfl) ?_)
      have hk52 : (!(parsesS a0)) = true := by simp [parsesS, hc1]
      have hk52p : ¬ (parsesS a0 = true) := by simpa using hk52
      refine W_cons rfl (by decide) (Sv_gt rfl rfl rfl hk52 (Sv_call rfl rfl rfl ent25 ?_))
      refine (lawake_calls  _ _ hS.out0  ).mono ?_
      rintro e_ w53 ⟨rfl, hS_⟩
      refine ⟨_, rfl, ?_⟩
      have hS := hS.call0 hS_
      refine W_cons rfl (by decide) (Sv_val rfl (R_pick_t rfl rfl hk52 rfl) ?_)
      refine W_cons rfl (by decide) (Sv_val rfl (R_assign rfl rfl) ?_)
      refine W_nil ?_
      refine E_then (C_fr [(4, .bool true)] rfl ?_)
      refine C_ret ?_
      refine E_then_ret ?_
      refine E_ret1 rfl rfl ?_
      exact ⟨Lret1 (Lbool (show true = true by rfl)), hS.fin [] (by decide) rfl⟩
     ·have _hC4 := trivial
      have hC4p : ¬ ((parseS a0).2.1 = (a0.length : Int)) := by simpa using hC4
      refine C_skip ?_
      refine E_then (C_fr [(0, vstr a0), (1, vstr a1), (6, .int .i64 (parseS a0).2.1)] rfl ?_)
      refine C_seq ?_
      refine C_region ?_
      refine W_cons rfl (by decide) (Sv_val rfl (R_move rfl rfl) ?_)
      refine W_cons rfl (by decide) (Sv_val rfl (R_move rfl rfl) ?_)
      refine W_cons rfl (by decide) (Sv_val rfl (R_add64 rfl rfl rfl (by omega) (by omega)) ?_)
      refine W_cons rfl (by decide) (Sv_val rfl (R_strslice_h rfl rfl rfl Try.underlying9 (by omega) (by omega)) ?_)
      refine W_cons rfl (by decide) (Sv_val rfl (R_move rfl rfl) ?_)
      refine W_cons rfl (by decide) (Sv_val rfl (R_stradd rfl rfl rfl (by simp only [List.length_append, List.length_take, List.length_drop, List.length_cons, List.length_nil]; omega)) ?_)
      refine W_cons rfl (by decide) (Sv_val rfl (R_move rfl rfl) ?_)
      refine W_cons rfl (by decide) (Sv_call rfl rfl rfl ent28 ?_)
      refine (lspoilt_calls ((a0.take ((parseS a0).2.1 + 1).toNat) ++ a1) (parseS a0).2.1 _ _ hS.out0  (by first | omega | (simp only [List.length_append, List.length_take, List.length_cons, List.length_nil]; omega))).mono ?_
      rintro e_ w55 ⟨rfl, hS_⟩
      refine ⟨_, rfl, ?_⟩
      have hS := hS.call0 hS_
      refine W_cons rfl (by decide) (Sv_val rfl (R_move rfl rfl) ?_)
      have hk57 : (spoS ((a0.take ((parseS a0).2.1 + 1).toNat) ++ a1) (parseS a0).2.1) = true := by exact first_behind a1 (by omega) (by omega) hc1 (by omega)
      refine W_cons rfl (by decide) (Sv_gt rfl rfl rfl hk57 (Sv_val rfl (R_move rfl rfl) ?_))
      refine W_cons rfl (by decide) (Sv_gt rfl rfl rfl hk57 (Sv_val rfl (R_move rfl rfl) ?_))
      refine W_cons rfl (by decide) (Sv_gt rfl rfl rfl hk57 (Sv_val rfl (R_add64 rfl rfl rfl (by omega) (by omega)) ?_))
      refine W_cons rfl (by decide) (Sv_gt rfl rfl rfl hk57 (Sv_val rfl (R_strslice_h rfl rfl rfl Try.underlying9 (by omega) (by omega)) ?_))
      refine W_cons rfl (by decide) (Sv_gt rfl rfl rfl hk57 (Sv_val rfl (R_move rfl rfl) ?_))
      refine W_cons rfl (by decide) (Sv_gt rfl rfl rfl hk57 (Sv_call rfl rfl rfl ent28 ?_))
      refine (lspoilt_calls (a0.take ((parseS a0).2.1 + 1).toNat) (parseS a0).2.1 _ _ hS.out0  (by first | omega | (simp only [List.length_append, List.length_take, List.length_cons, List.length_nil]; omega))).mono ?_
      rintro e_ w58 ⟨rfl, hS_⟩
      refine ⟨_, rfl, ?_⟩
      have hS := hS.call0 hS_
      refine W_cons rfl (by decide) (Sv_val rfl (R_pick_t rfl rfl hk57 rfl) ?_)
      refine W_cons rfl (by decide) (Sv_val rfl (R_move rfl rfl) ?_)
      have hk60 : (spoS (a0.take ((parseS a0).2.1 + 1).toNat) (parseS a0).2.1) = true := by exact first_behind0 (by omega) hc1 (by omega)
      refine W_cons rfl (by decide) (Sv_gt rfl rfl rfl hk60 (Sv_call rfl rfl rfl ent25 ?_))
      refine (lawake_calls  _ _ hS.out0  ).mono ?_
      rintro e_ w61 ⟨rfl, hS_⟩
      refine ⟨_, rfl, ?_⟩
      have hS := hS.call0 hS_
      refine W_cons rfl (by decide) (Sv_val rfl (R_pick_t rfl rfl hk60 rfl) ?_)
      refine W_cons rfl (by decide) (Sv_val rfl (R_assign rfl rfl) ?_)
      refine W_nil ?_
      refine E_then (C_fr [(4, .bool true)] rfl ?_)
      refine C_ret ?_
      refine E_ret1 rfl rfl ?_
      exact ⟨Lret1 (Lbool (show true = true by rfl)), hS.fin [] (by decide) rfl⟩

end Go.Proofs.YtibniimdfahiiaaG
