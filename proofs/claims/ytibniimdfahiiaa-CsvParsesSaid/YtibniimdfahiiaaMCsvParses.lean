/- The walk of the law CsvParses: it returns true. -/
import Derived.Test.YtibniimdfahiiaaY3
set_option linter.all false
namespace Go.Proofs.YtibniimdfahiiaaG
open Go Go.RowKit
set_option maxHeartbeats 400000 in
set_option maxRecDepth 20000 in
theorem csvParses_calls (a0 : St) (z : Z) (w : World) (hI : In z w [])   :
    Calls Try.prog 11 #[vstr a0] w fun e w' => e = .returned (.bool true) ∧ Sp (FF []) w z w' [] := by
 have hS := hI.sp
 refine Calls_of (vs := [vstr a0]) (N := 125) Try.func11 rfl rfl (Nat.le_of_ble_eq_true rfl) ?_
 refine C_seq ?_
 refine C_region ?_
 refine W_cons rfl (by decide) (Sv_val rfl (R_assign rfl rfl) ?_)
 refine W_nil ?_
 refine E_then ?_
 refine C_seq ?_
 refine C_seq ?_
 refine C_region ?_
 refine W_cons rfl (by decide) (Sv_val rfl (R_move rfl rfl) ?_)
 refine W_cons rfl (by decide) (Sv_val rfl (R_strlen rfl rfl Try.underlying9) ?_)
 refine W_cons rfl (by decide) (Sv_val rfl (R_bin rfl rfl rfl rfl rfl) ?_)
 refine W_cons rfl (by decide) (Sv_val rfl (R_move rfl rfl) ?_)
 refine W_split (t := 15) rfl (fun hg1 => ?_) (fun hg1 => ?_)
 ·have _hg1 := trivial
  have hg1p : (a0.length : Int) > 4000 := by simpa using hg1
  refine W_cons rfl (by decide) (Sv_gt rfl rfl rfl hg1 (Sv_val rfl (R_move rfl rfl) ?_))
  refine W_cons rfl (by decide) (Sv_gt rfl rfl rfl hg1 (Sv_val rfl (R_strlen rfl rfl Try.underlying9) ?_))
  refine W_cons rfl (by decide) (Sv_gt rfl rfl rfl hg1 (Sv_val rfl (R_bin rfl rfl rfl rfl rfl) ?_))
  refine W_cons rfl (by decide) (Sv_val rfl (R_pick_t rfl rfl hg1 rfl) ?_)
  refine W_nil ?_
  refine E_then (C_fr [(0, vstr a0), (19, .bool (decide ((a0.length : Int) ≤ 65536)))] rfl ?_)
  refine C_ite rfl (fun hC0 => ?_) (fun hC0 => ?_)
  ·have _hC0 := trivial
   have hC0p : (a0.length : Int) ≤ 65536 := by simpa using hC0
   refine C_seq ?_
   refine C_region ?_
   refine W_cons rfl (by decide) (Sv_call rfl rfl rfl ent25 ?_)
   refine (lawake_calls  _ _ hS.out0  ).mono ?_
   rintro e_ w2 ⟨rfl, hS_⟩
   refine ⟨_, rfl, ?_⟩
   have hS := hS.call0 hS_
   refine W_cons rfl (by decide) (Sv_val rfl (R_assign rfl rfl) ?_)
   refine W_nil ?_
   refine E_then ?_
   refine C_ret ?_
   refine E_then_ret ?_
   refine E_ret1 rfl rfl ?_
   exact ⟨Lret1 (Lbool (show true = true by rfl)), hS.fin [] (by decide) rfl⟩
  ·have _hC0 := trivial
   have hC0p : ¬ ((a0.length : Int) ≤ 65536) := by simpa using hC0
   refine C_skip ?_
   refine E_then ?_
   refine C_seq ?_
   refine C_region ?_
   refine W_cons rfl (by decide) (Sv_val rfl (R_move rfl rfl) ?_)
   refine W_cons rfl (by decide) (Sv_call rfl rfl rfl ent26 ?_)
   refine (parse_calls a0 _ _ hS.out0  ).mono ?_
   rintro e_ w4 ⟨AR0_5, cR0_5, qR0_5, rfl, hS_⟩
   refine ⟨_, rfl, ?_⟩
   have hS := hS.call0 hS_
   have hp6 := hS.cap 1 rfl
   have hlhp6 := hp6.le
   have hmhp6 := hp6.mx
   refine W_cons rfl (by decide) (Sv_val rfl (R_move rfl rfl) ?_)
   refine W_cons rfl (by decide) (Sv_val rfl (R_extract rfl rfl rfl) ?_)
   refine W_cons rfl (by decide) (Sv_val rfl (R_extract rfl rfl rfl) ?_)
   refine W_cons rfl (by decide) (Sv_val rfl (R_extract rfl rfl rfl) ?_)
   refine W_cons rfl (by decide) (Sv_val rfl (R_assign rfl rfl) ?_)
   refine W_cons rfl (by decide) (Sv_val rfl (R_assign rfl rfl) ?_)
   refine W_cons rfl (by decide) (Sv_val rfl (R_assign rfl rfl) ?_)
   refine W_nil ?_
   refine E_then (C_fr [(0, vstr a0), (3, .slice AR0_5 (parseS a0).1.length cR0_5), (4, .int .i64 (parseS a0).2.1), (5, .int .i64 (parseS a0).2.2)] rfl ?_)
   refine C_seq ?_
   refine C_region ?_
   refine W_cons rfl (by decide) (Sv_val rfl (R_move rfl rfl) ?_)
   refine W_cons rfl (by decide) (Sv_call rfl rfl rfl ent35 ?_)
   refine (count_calls a0 _ _ hS.out0  ).mono ?_
   rintro e_ w7 ⟨rfl, hS_⟩
   refine ⟨_, rfl, ?_⟩
   have hS := hS.call0 hS_
   refine W_cons rfl (by decide) (Sv_val rfl (R_move rfl rfl) ?_)
   refine W_cons rfl (by decide) (Sv_val rfl (R_extract rfl rfl rfl) ?_)
   refine W_cons rfl (by decide) (Sv_val rfl (R_extract rfl rfl rfl) ?_)
   refine W_cons rfl (by decide) (Sv_val rfl (R_assign rfl rfl) ?_)
   refine W_cons rfl (by decide) (Sv_val rfl (R_assign rfl rfl) ?_)
   refine W_nil ?_
   refine E_then (C_fr [(0, vstr a0), (3, .slice AR0_5 (parseS a0).1.length cR0_5), (4, .int .i64 (parseS a0).2.1), (5, .int .i64 (parseS a0).2.2), (6, .int .i64 (countS a0).1), (7, .int .i64 (countS a0).2)] rfl ?_)
   refine C_seq ?_
   refine C_seq ?_
   refine C_region ?_
   refine W_cons rfl (by decide) (Sv_val rfl (R_move rfl rfl) ?_)
   refine W_cons rfl (by decide) (Sv_val rfl (R_strlen rfl rfl Try.underlying9) ?_)
   refine W_cons rfl (by decide) (Sv_val rfl (R_bin rfl rfl rfl rfl rfl) ?_)
   refine W_nil ?_
   refine E_then ?_
   refine C_ite rfl (fun hC1 => ?_) (fun hC1 => ?_)
   ·have _hC1 := trivial
    have hC1p : (a0.length : Int) > 65536 := by simpa using hC1
    have hp := parse_long hC1p
    have hcn := count_long hC1p
    have hr := trivial
    refine C_seq ?_
    refine C_region ?_
    refine W_cons rfl (by decide) (Sv_val rfl (R_move rfl rfl) ?_)
    refine W_cons rfl (by decide) (Sv_val rfl (R_bin rfl rfl rfl rfl rfl) ?_)
    refine W_cons rfl (by decide) (Sv_val rfl (R_move rfl rfl) ?_)
    have hk9 : (((parseS a0).2.2 == 3)) = true := by first | (simp [hp, hcn, hr]; done) | (rw [hcn, ht, hr]; simp; done)
    have hk9p : (parseS a0).2.2 = 3 := by simpa using hk9
    refine W_cons rfl (by decide) (Sv_gt rfl rfl rfl hk9 (Sv_val rfl (R_move rfl rfl) ?_))
    refine W_cons rfl (by decide) (Sv_gt rfl rfl rfl hk9 (Sv_val rfl (R_bin rfl rfl rfl rfl rfl) ?_))
    refine W_cons rfl (by decide) (Sv_val rfl (R_pick_t rfl rfl hk9 rfl) ?_)
    refine W_cons rfl (by decide) (Sv_val rfl (R_move rfl rfl) ?_)
    have hk10 : (((parseS a0).2.1 == 0)) = true := by first | (simp [hp, hcn, hr]; done) | (rw [hcn, ht, hr]; simp; done)
    have hk10p : (parseS a0).2.1 = 0 := by simpa using hk10
    refine W_cons rfl (by decide) (Sv_gt rfl rfl rfl hk10 (Sv_val rfl (R_move rfl rfl) ?_))
    refine W_cons rfl (by decide) (Sv_gt rfl rfl rfl hk10 (Sv_val rfl (R_len rfl rfl Try.underlying42) ?_))
    refine W_cons rfl (by decide) (Sv_gt rfl rfl rfl hk10 (Sv_val rfl (R_bin rfl rfl rfl rfl rfl) ?_))
    refine W_cons rfl (by decide) (Sv_val rfl (R_pick_t rfl rfl hk10 rfl) ?_)
    refine W_cons rfl (by decide) (Sv_val rfl (R_move rfl rfl) ?_)
    have hk11 : ((((parseS a0).1.length : Int) == 0)) = true := by first | (simp [hp, hcn, hr]; done) | (rw [hcn, ht, hr]; simp; done)
    have hk11p : ((parseS a0).1.length : Int) = 0 := by simpa using hk11
    refine W_cons rfl (by decide) (Sv_gt rfl rfl rfl hk11 (Sv_val rfl (R_move rfl rfl) ?_))
    refine W_cons rfl (by decide) (Sv_gt rfl rfl rfl hk11 (Sv_val rfl (R_bin rfl rfl rfl rfl rfl) ?_))
    refine W_cons rfl (by decide) (Sv_val rfl (R_pick_t rfl rfl hk11 rfl) ?_)
    refine W_cons rfl (by decide) (Sv_val rfl (R_move rfl rfl) ?_)
    have hk12 : (((countS a0).1 == 0)) = true := by first | (simp [hp, hcn, hr]; done) | (rw [hcn, ht, hr]; simp; done)
    have hk12p : (countS a0).1 = 0 := by simpa using hk12
    refine W_cons rfl (by decide) (Sv_gt rfl rfl rfl hk12 (Sv_val rfl (R_move rfl rfl) ?_))
    refine W_cons rfl (by decide) (Sv_gt rfl rfl rfl hk12 (Sv_val rfl (R_bin rfl rfl rfl rfl rfl) ?_))
    refine W_cons rfl (by decide) (Sv_val rfl (R_pick_t rfl rfl hk12 rfl) ?_)
    refine W_cons rfl (by decide) (Sv_val rfl (R_move rfl rfl) ?_)
    have hk13 : (((countS a0).2 == 0)) = true := by first | (simp [hp, hcn, hr]; done) | (rw [hcn, ht, hr]; simp; done)
    have hk13p : (countS a0).2 = 0 := by simpa using hk13
    refine W_cons rfl (by decide) (Sv_gt rfl rfl rfl hk13 (Sv_call rfl rfl rfl ent25 ?_))
    refine (lawake_calls  _ _ hS.out0  ).mono ?_
    rintro e_ w14 ⟨rfl, hS_⟩
    refine ⟨_, rfl, ?_⟩
    have hS := hS.call0 hS_
    refine W_cons rfl (by decide) (Sv_val rfl (R_pick_t rfl rfl hk13 rfl) ?_)
    refine W_cons rfl (by decide) (Sv_val rfl (R_assign rfl rfl) ?_)
    refine W_nil ?_
    refine E_then (C_fr [(2, .bool true)] rfl ?_)
    refine C_ret ?_
    refine E_then_ret ?_
    refine E_ret1 rfl rfl ?_
    exact ⟨Lret1 (Lbool (show true = true by rfl)), hS.fin [] (by decide) rfl⟩
   ·have _hC1 := trivial
    have hC1p : ¬ ((a0.length : Int) > 65536) := by simpa using hC1
    refine C_skip ?_
    refine E_then ?_
    refine C_seq ?_
    refine C_region ?_
    refine W_cons rfl (by decide) (Sv_val rfl (R_move rfl rfl) ?_)
    refine W_cons rfl (by decide) (Sv_call rfl rfl rfl ent36 ?_)
    refine (refparse_calls a0 _ _ hS.out0  (by omega)).mono ?_
    rintro e_ w16 ⟨AR0_17, cR0_17, qR0_17, rfl, hS_⟩
    refine ⟨_, rfl, ?_⟩
    have hS := hS.call0 hS_
    have hp18 := hS.cap 1 rfl
    have hlhp18 := hp18.le
    have hmhp18 := hp18.mx
    refine W_cons rfl (by decide) (Sv_val rfl (R_move rfl rfl) ?_)
    refine W_cons rfl (by decide) (Sv_val rfl (R_extract rfl rfl rfl) ?_)
    refine W_cons rfl (by decide) (Sv_val rfl (R_extract rfl rfl rfl) ?_)
    refine W_cons rfl (by decide) (Sv_val rfl (R_assign rfl rfl) ?_)
    refine W_cons rfl (by decide) (Sv_val rfl (R_assign rfl rfl) ?_)
    refine W_nil ?_
    refine E_then (C_fr [(3, .slice AR0_5 (parseS a0).1.length cR0_5), (4, .int .i64 (parseS a0).2.1), (5, .int .i64 (parseS a0).2.2), (6, .int .i64 (countS a0).1), (7, .int .i64 (countS a0).2), (8, .slice AR0_17 (refS a0).1.length cR0_17), (9, .int .i64 (refS a0).2)] rfl ?_)
    refine C_seq ?_
    refine C_seq ?_
    refine C_region ?_
    refine W_cons rfl (by decide) (Sv_val rfl (R_move rfl rfl) ?_)
    refine W_cons rfl (by decide) (Sv_val rfl (R_bin rfl rfl rfl rfl rfl) ?_)
    refine W_nil ?_
    refine E_then ?_
    refine C_ite rfl (fun hC2 => ?_) (fun hC2 => ?_)
    ·have _hC2 := trivial
     have hC2p : (refS a0).2 ≥ 0 := by simpa using hC2
     have hr0 := ref_sign.1 hC2p
     have hp := parse_bad (s := a0) (by omega) hr0
     have hcn := count_bad (s := a0) (by omega) hr0
     have hr := ref_bad hr0
     refine C_seq ?_
     refine C_region ?_
     refine W_cons rfl (by decide) (Sv_val rfl (R_move rfl rfl) ?_)
     refine W_cons rfl (by decide) (Sv_val rfl (R_bin rfl rfl rfl rfl rfl) ?_)
     refine W_cons rfl (by decide) (Sv_val rfl (R_move rfl rfl) ?_)
     have hk19 : (((parseS a0).2.2 == 2)) = true := by first | (simp [hp, hcn, hr]; done) | (rw [hcn, ht, hr]; simp; done)
     have hk19p : (parseS a0).2.2 = 2 := by simpa using hk19
     refine W_cons rfl (by decide) (Sv_gt rfl rfl rfl hk19 (Sv_val rfl (R_move rfl rfl) ?_))
     refine W_cons rfl (by decide) (Sv_gt rfl rfl rfl hk19 (Sv_val rfl (R_move rfl rfl) ?_))
     refine W_cons rfl (by decide) (Sv_gt rfl rfl rfl hk19 (Sv_val rfl (R_bin rfl rfl rfl rfl rfl) ?_))
     refine W_cons rfl (by decide) (Sv_val rfl (R_pick_t rfl rfl hk19 rfl) ?_)
     refine W_cons rfl (by decide) (Sv_val rfl (R_move rfl rfl) ?_)
     have hk20 : (((parseS a0).2.1 == (refS a0).2)) = true := by first | (simp [hp, hcn, hr]; done) | (rw [hcn, ht, hr]; simp; done)
     have hk20p : (parseS a0).2.1 = (refS a0).2 := by simpa using hk20
     refine W_cons rfl (by decide) (Sv_gt rfl rfl rfl hk20 (Sv_val rfl (R_move rfl rfl) ?_))
     refine W_cons rfl (by decide) (Sv_gt rfl rfl rfl hk20 (Sv_val rfl (R_len rfl rfl Try.underlying42) ?_))
     refine W_cons rfl (by decide) (Sv_gt rfl rfl rfl hk20 (Sv_val rfl (R_bin rfl rfl rfl rfl rfl) ?_))
     refine W_cons rfl (by decide) (Sv_val rfl (R_pick_t rfl rfl hk20 rfl) ?_)
     refine W_cons rfl (by decide) (Sv_val rfl (R_move rfl rfl) ?_)
     have hk21 : ((((parseS a0).1.length : Int) == 0)) = true := by first | (simp [hp, hcn, hr]; done) | (rw [hcn, ht, hr]; simp; done)
     have hk21p : ((parseS a0).1.length : Int) = 0 := by simpa using hk21
     refine W_cons rfl (by decide) (Sv_gt rfl rfl rfl hk21 (Sv_val rfl (R_move rfl rfl) ?_))
     refine W_cons rfl (by decide) (Sv_gt rfl rfl rfl hk21 (Sv_val rfl (R_bin rfl rfl rfl rfl rfl) ?_))
     refine W_cons rfl (by decide) (Sv_val rfl (R_pick_t rfl rfl hk21 rfl) ?_)
     refine W_cons rfl (by decide) (Sv_val rfl (R_move rfl rfl) ?_)
     have hk22 : (((countS a0).1 == 0)) = true := by first | (simp [hp, hcn, hr]; done) | (rw [hcn, ht, hr]; simp; done)
     have hk22p : (countS a0).1 = 0 := by simpa using hk22
     refine W_cons rfl (by decide) (Sv_gt rfl rfl rfl hk22 (Sv_val rfl (R_move rfl rfl) ?_))
     refine W_cons rfl (by decide) (Sv_gt rfl rfl rfl hk22 (Sv_val rfl (R_bin rfl rfl rfl rfl rfl) ?_))
     refine W_cons rfl (by decide) (Sv_val rfl (R_pick_t rfl rfl hk22 rfl) ?_)
     refine W_cons rfl (by decide) (Sv_val rfl (R_move rfl rfl) ?_)
     have hk23 : (((countS a0).2 == 0)) = true := by first | (simp [hp, hcn, hr]; done) | (rw [hcn, ht, hr]; simp; done)
     have hk23p : (countS a0).2 = 0 := by simpa using hk23
     refine W_cons rfl (by decide) (Sv_gt rfl rfl rfl hk23 (Sv_call rfl rfl rfl ent25 ?_))
     refine (lawake_calls  _ _ hS.out0  ).mono ?_
     rintro e_ w24 ⟨rfl, hS_⟩
     refine ⟨_, rfl, ?_⟩
     have hS := hS.call0 hS_
     refine W_cons rfl (by decide) (Sv_val rfl (R_pick_t rfl rfl hk23 rfl) ?_)
     refine W_cons rfl (by decide) (Sv_val rfl (R_assign rfl rfl) ?_)
     refine W_nil ?_
     refine E_then (C_fr [(2, .bool true)] rfl ?_)
     refine C_ret ?_
     refine E_then_ret ?_
     refine E_ret1 rfl rfl ?_
     exact ⟨Lret1 (Lbool (show true = true by rfl)), hS.fin [] (by decide) rfl⟩
    ·have _hC2 := trivial
     have hC2p : ¬ ((refS a0).2 ≥ 0) := by simpa using hC2
     have hr0 : (run .F a0 0 []).2 < 0 := by have := mt ref_sign.2 hC2p; omega
     have hp := parse_ok (s := a0) (by omega) hr0
     have hcn := count_ok (s := a0) (by omega) hr0
     have hr := ref_ok hr0
     have ht4 := tot_bd (s := a0) (by omega) hr0
     refine C_skip ?_
     refine E_then ?_
     refine C_seq ?_
     refine C_region ?_
     refine W_cons rfl (by decide) (Sv_val rfl (R_assign rfl rfl) ?_)
     refine W_nil ?_
     refine E_then ?_
     refine C_seq ?_
     refine C_seq ?_
     refine C_region ?_
     refine W_cons rfl (by decide) (Sv_val rfl (R_assign rfl rfl) ?_)
     refine W_nil ?_
     refine E_then ?_
     refine C_block ?_
     have hs27 : 0 = tot ((refS a0).1.take (0 : Nat)) := by rfl
     refine C_fr [(3, .slice AR0_5 (parseS a0).1.length cR0_5), (4, .int .i64 (parseS a0).2.1), (5, .int .i64 (parseS a0).2.2), (6, .int .i64 (countS a0).1), (7, .int .i64 (countS a0).2), (8, .slice AR0_17 (refS a0).1.length cR0_17), (10, .int .i64 0), (11, .int .i64 0)] rfl ?_
     refine C_loop (fun m_ f_ w_ => ∃ (i : Nat), f_ = [(3, .slice AR0_5 (parseS a0).1.length cR0_5), (4, .int .i64 (parseS a0).2.1), (5, .int .i64 (parseS a0).2.2), (6, .int .i64 (countS a0).1), (7, .int .i64 (countS a0).2), (8, .slice AR0_17 (refS a0).1.length cR0_17), (10, .int .i64 (tot ((refS a0).1.take i))), (11, .int .i64 (i : Int))] ∧ i ≤ (refS a0).1.length ∧ m_ = (refS a0).1.length - i ∧ Sp (FF []) w z w_ [zR qR0_5, oR (kslice kstr) 56 qR0_5 AR0_5 cR0_5 (parseS a0).1, zR qR0_17, oR (kslice kstr) 56 qR0_17 AR0_17 cR0_17 (refS a0).1]) ((refS a0).1.length - (0 : Nat)) ⟨(0 : Nat), (by rw [← hs27] <;> rfl), (by omega), rfl, hS.fin [2, 3, 0, 1] (by decide) rfl⟩ ?_
     rintro m_ f_ w26 ⟨i, rfl, hI0_0, rfl, hS⟩
     refine C_seq ?_
     refine C_seq ?_
     refine C_region ?_
     refine W_cons rfl (by decide) (Sv_val rfl (R_move rfl rfl) ?_)
     refine W_cons rfl (by decide) (Sv_val rfl (R_move rfl rfl) ?_)
     refine W_cons rfl (by decide) (Sv_val rfl (R_len rfl rfl Try.underlying42) ?_)
     refine W_cons rfl (by decide) (Sv_val rfl (R_bin rfl rfl rfl rfl rfl) ?_)
     refine W_nil ?_
     refine E_then ?_
     refine C_ite rfl (fun hC3 => ?_) (fun hC3 => ?_)
     ·have _hC3 := trivial
      have hC3p : (i : Int) < ((refS a0).1.length : Int) := by simpa using hC3
      refine C_skip ?_
      refine E_then ?_
      refine C_seq ?_
      refine C_block ?_
      have ht1 := tot_nonneg ((refS a0).1.take i)
      have ht2 := tot_next (refS a0).1 i (by omega)
      have ht3 := tot_take (refS a0).1 (i + 1)
      refine C_region ?_
      refine W_cons rfl (by decide) (Sv_val rfl (R_move rfl rfl) ?_)
      refine W_cons rfl (by decide) (Sv_val rfl (R_move rfl rfl) ?_)
      refine W_cons rfl (by decide) (Sv_val rfl (R_move rfl rfl) ?_)
      obtain ⟨q28, csq28, hAq28, ⟨Aq28, cq28, rfl, hcq28, hrq28⟩, hkq28⟩ := (hS.rw 3 rfl).el [] (i := (i : Int)) (by omega) (by omega)
      have hkq28 : ∀ (j_ : Nat) (u_ : Value), ([.slice Aq28 ((refS a0).1.getD i []).length cq28] : List Value)[j_]? = some u_ → World.cell? w26 (q28.add (i * 1 + j_)) = some u_ := hkq28
      have hrq28 : Rd kstr qR0_17 Aq28 (((refS a0).1.getD i [])) := hrq28
      have hcq28 : Cap Aq28 (((refS a0).1.getD i [])).length cq28 := hcq28
      have hlq28 := hcq28.le
      have hmq28 := hcq28.mx
      refine W_cons rfl (by decide) (Sv_val rfl (R_idx rfl rfl hAq28 rfl Try.underlying42 size56 (by omega) (by omega)) ?_)
      refine W_cons rfl (by decide) (Sv_val rfl (R_load1 rfl rfl agg56 (hkq28 0 _ rfl)) ?_)
      refine W_cons rfl (by decide) (Sv_val rfl (R_len rfl rfl Try.underlying56) ?_)
      refine W_cons rfl (by decide) (Sv_val rfl (R_add64 rfl rfl rfl (by omega) (by omega)) ?_)
      refine W_cons rfl (by decide) (Sv_val rfl (R_assign rfl rfl) ?_)
      refine W_nil ?_
      refine E_block_normal ?_
      refine E_then (C_fr [(3, .slice AR0_5 (parseS a0).1.length cR0_5), (4, .int .i64 (parseS a0).2.1), (5, .int .i64 (parseS a0).2.2), (6, .int .i64 (countS a0).1), (7, .int .i64 (countS a0).2), (8, .slice AR0_17 (refS a0).1.length cR0_17), (10, .int .i64 ((tot ((refS a0).1.take i)) + (((refS a0).1.getD i []).length : Int))), (11, .int .i64 (i : Int))] rfl ?_)
      refine C_region ?_
      refine W_cons rfl (by decide) (Sv_val rfl (R_move rfl rfl) ?_)
      refine W_cons rfl (by decide) (Sv_val rfl (R_add64 rfl rfl rfl (by omega) (by omega)) ?_)
      refine W_cons rfl (by decide) (Sv_val rfl (R_assign rfl rfl) ?_)
      refine W_nil ?_
      have hs29 : (tot ((refS a0).1.take i)) + (((refS a0).1.getD i []).length : Int) = tot ((refS a0).1.take (i + 1 : Nat)) := by exact ht2.symm
      refine E_round [3, 4, 5, 6, 7, 8, 10, 11] ?_ ⟨(i + 1 : Nat), (by rw [← hs29] <;> rfl), (by omega), rfl, hS.fin [0, 1, 2, 3] (by decide) rfl⟩
      omega
     ·have _hC3 := trivial
      have hC3p : ¬ ((i : Int) < ((refS a0).1.length : Int)) := by simpa using hC3
      refine C_exit ?_
      refine E_then_exit ?_
      refine E_then_exit ?_
      refine E_block_hit ?_
      refine E_then (C_fr [(3, .slice AR0_5 (parseS a0).1.length cR0_5), (4, .int .i64 (parseS a0).2.1), (5, .int .i64 (parseS a0).2.2), (6, .int .i64 (countS a0).1), (7, .int .i64 (countS a0).2), (8, .slice AR0_17 (refS a0).1.length cR0_17), (10, .int .i64 (tot ((refS a0).1.take i)))] rfl ?_)
      refine C_seq ?_
      have ht : (refS a0).1.take i = (refS a0).1 := List.take_of_length_le (by omega)
      refine C_region ?_
      refine W_cons rfl (by decide) (Sv_val rfl (R_move rfl rfl) ?_)
      refine W_cons rfl (by decide) (Sv_val rfl (R_bin rfl rfl rfl rfl rfl) ?_)
      refine W_cons rfl (by decide) (Sv_val rfl (R_move rfl rfl) ?_)
      have hk30 : (((parseS a0).2.2 == 0)) = true := by first | (simp [hp, hcn, hr]; done) | (rw [hcn, ht, hr]; simp; done)
      have hk30p : (parseS a0).2.2 = 0 := by simpa using hk30
      refine W_cons rfl (by decide) (Sv_gt rfl rfl rfl hk30 (Sv_val rfl (R_move rfl rfl) ?_))
      refine W_cons rfl (by decide) (Sv_gt rfl rfl rfl hk30 (Sv_val rfl (R_bin rfl rfl rfl rfl rfl) ?_))
      refine W_cons rfl (by decide) (Sv_val rfl (R_pick_t rfl rfl hk30 rfl) ?_)
      refine W_cons rfl (by decide) (Sv_val rfl (R_move rfl rfl) ?_)
      have hk31 : (((parseS a0).2.1 == 0)) = true := by first | (simp [hp, hcn, hr]; done) | (rw [hcn, ht, hr]; simp; done)
      have hk31p : (parseS a0).2.1 = 0 := by simpa using hk31
      refine W_cons rfl (by decide) (Sv_gt rfl rfl rfl hk31 (Sv_val rfl (R_move rfl rfl) ?_))
      refine W_cons rfl (by decide) (Sv_gt rfl rfl rfl hk31 (Sv_val rfl (R_move rfl rfl) ?_))
      refine W_cons rfl (by decide) (Sv_gt rfl rfl rfl hk31 (Sv_call rfl rfl rfl ent29 ?_))
      refine (same_calls (parseS a0).1 AR0_5 cR0_5 (refS a0).1 AR0_17 cR0_17 _ _ hS.out0 (hS.ow [] 1 rfl rfl (hS.zq [] 0 rfl rfl)) (hS.cap 1 rfl) (hS.ow [] 3 rfl rfl (hS.zq [] 2 rfl rfl)) (hS.cap 3 rfl) ).mono ?_
      rintro e_ w32 ⟨rfl, hS_⟩
      refine ⟨_, rfl, ?_⟩
      have hS := hS.call0 hS_
      refine W_cons rfl (by decide) (Sv_val rfl (R_pick_t rfl rfl hk31 rfl) ?_)
      refine W_cons rfl (by decide) (Sv_val rfl (R_move rfl rfl) ?_)
      have hk34 : (decide ((parseS a0).1 = (refS a0).1)) = true := by first | (simp [hp, hcn, hr]; done) | (rw [hcn, ht, hr]; simp; done)
      refine W_cons rfl (by decide) (Sv_gt rfl rfl rfl hk34 (Sv_val rfl (R_move rfl rfl) ?_))
      refine W_cons rfl (by decide) (Sv_gt rfl rfl rfl hk34 (Sv_val rfl (R_move rfl rfl) ?_))
      refine W_cons rfl (by decide) (Sv_gt rfl rfl rfl hk34 (Sv_val rfl (R_len rfl rfl Try.underlying42) ?_))
      refine W_cons rfl (by decide) (Sv_gt rfl rfl rfl hk34 (Sv_val rfl (R_bin rfl rfl rfl rfl rfl) ?_))
      refine W_cons rfl (by decide) (Sv_val rfl (R_pick_t rfl rfl hk34 rfl) ?_)
      refine W_cons rfl (by decide) (Sv_val rfl (R_move rfl rfl) ?_)
      have hk35 : (((countS a0).1 == ((refS a0).1.length : Int))) = true := by first | (simp [hp, hcn, hr]; done) | (rw [hcn, ht, hr]; simp; done)
      have hk35p : (countS a0).1 = ((refS a0).1.length : Int) := by simpa using hk35
      refine W_cons rfl (by decide) (Sv_gt rfl rfl rfl hk35 (Sv_val rfl (R_move rfl rfl) ?_))
      refine W_cons rfl (by decide) (Sv_gt rfl rfl rfl hk35 (Sv_val rfl (R_move rfl rfl) ?_))
      refine W_cons rfl (by decide) (Sv_gt rfl rfl rfl hk35 (Sv_val rfl (R_bin rfl rfl rfl rfl rfl) ?_))
      refine W_cons rfl (by decide) (Sv_val rfl (R_pick_t rfl rfl hk35 rfl) ?_)
      refine W_cons rfl (by decide) (Sv_val rfl (R_move rfl rfl) ?_)
      have hk36 : (((countS a0).2 == (tot ((refS a0).1.take i)))) = true := by first | (simp [hp, hcn, hr]; done) | (rw [hcn, ht, hr]; simp; done)
      have hk36p : (countS a0).2 = (tot ((refS a0).1.take i)) := by simpa using hk36
      refine W_cons rfl (by decide) (Sv_gt rfl rfl rfl hk36 (Sv_call rfl rfl rfl ent25 ?_))
      refine (lawake_calls  _ _ hS.out0  ).mono ?_
      rintro e_ w37 ⟨rfl, hS_⟩
      refine ⟨_, rfl, ?_⟩
      have hS := hS.call0 hS_
      refine W_cons rfl (by decide) (Sv_val rfl (R_pick_t rfl rfl hk36 rfl) ?_)
      refine W_cons rfl (by decide) (Sv_val rfl (R_assign rfl rfl) ?_)
      refine W_nil ?_
      refine E_then (C_fr [(2, .bool true)] rfl ?_)
      refine C_ret ?_
      refine E_ret1 rfl rfl ?_
      exact ⟨Lret1 (Lbool (show true = true by rfl)), hS.fin [] (by decide) rfl⟩
 ·have _hg1 := trivial
  have hg1p : ¬ ((a0.length : Int) > 4000) := by simpa using hg1
  refine W_cons rfl (by decide) (Sv_off rfl rfl rfl (by rw [hg1] <;> rfl) ?_)
  refine W_cons rfl (by decide) (Sv_off rfl rfl rfl (by rw [hg1] <;> rfl) ?_)
  refine W_cons rfl (by decide) (Sv_off rfl rfl rfl (by rw [hg1] <;> rfl) ?_)
  refine W_cons rfl (by decide) (Sv_val rfl (R_pick_f rfl rfl hg1 rfl) ?_)
  refine W_nil ?_
  refine E_then (C_fr [(0, vstr a0), (19, .bool false)] rfl ?_)
  refine C_else rfl rfl ?_
  refine C_skip ?_
  refine E_then ?_
  refine C_seq ?_
  refine C_region ?_
  refine W_cons rfl (by decide) (Sv_val rfl (R_move rfl rfl) ?_)
  refine W_cons rfl (by decide) (Sv_call rfl rfl rfl ent26 ?_)
  refine (parse_calls a0 _ _ hS.out0  ).mono ?_
  rintro e_ w39 ⟨AR0_40, cR0_40, qR0_40, rfl, hS_⟩
  refine ⟨_, rfl, ?_⟩
  have hS := hS.call0 hS_
  have hp41 := hS.cap 1 rfl
  have hlhp41 := hp41.le
  have hmhp41 := hp41.mx
  refine W_cons rfl (by decide) (Sv_val rfl (R_move rfl rfl) ?_)
  refine W_cons rfl (by decide) (Sv_val rfl (R_extract rfl rfl rfl) ?_)
  refine W_cons rfl (by decide) (Sv_val rfl (R_extract rfl rfl rfl) ?_)
  refine W_cons rfl (by decide) (Sv_val rfl (R_extract rfl rfl rfl) ?_)
  refine W_cons rfl (by decide) (Sv_val rfl (R_assign rfl rfl) ?_)
  refine W_cons rfl (by decide) (Sv_val rfl (R_assign rfl rfl) ?_)
  refine W_cons rfl (by decide) (Sv_val rfl (R_assign rfl rfl) ?_)
  refine W_nil ?_
  refine E_then (C_fr [(0, vstr a0), (3, .slice AR0_40 (parseS a0).1.length cR0_40), (4, .int .i64 (parseS a0).2.1), (5, .int .i64 (parseS a0).2.2)] rfl ?_)
  refine C_seq ?_
  refine C_region ?_
  refine W_cons rfl (by decide) (Sv_val rfl (R_move rfl rfl) ?_)
  refine W_cons rfl (by decide) (Sv_call rfl rfl rfl ent35 ?_)
  refine (count_calls a0 _ _ hS.out0  ).mono ?_
  rintro e_ w42 ⟨rfl, hS_⟩
  refine ⟨_, rfl, ?_⟩
  have hS := hS.call0 hS_
  refine W_cons rfl (by decide) (Sv_val rfl (R_move rfl rfl) ?_)
  refine W_cons rfl (by decide) (Sv_val rfl (R_extract rfl rfl rfl) ?_)
  refine W_cons rfl (by decide) (Sv_val rfl (R_extract rfl rfl rfl) ?_)
  refine W_cons rfl (by decide) (Sv_val rfl (R_assign rfl rfl) ?_)
  refine W_cons rfl (by decide) (Sv_val rfl (R_assign rfl rfl) ?_)
  refine W_nil ?_
  refine E_then (C_fr [(0, vstr a0), (3, .slice AR0_40 (parseS a0).1.length cR0_40), (4, .int .i64 (parseS a0).2.1), (5, .int .i64 (parseS a0).2.2), (6, .int .i64 (countS a0).1), (7, .int .i64 (countS a0).2)] rfl ?_)
  refine C_seq ?_
  refine C_seq ?_
  refine C_region ?_
  refine W_cons rfl (by decide) (Sv_val rfl (R_move rfl rfl) ?_)
  refine W_cons rfl (by decide) (Sv_val rfl (R_strlen rfl rfl Try.underlying9) ?_)
  refine W_cons rfl (by decide) (Sv_val rfl (R_bin rfl rfl rfl rfl rfl) ?_)
  refine W_nil ?_
  refine E_then ?_
  refine C_ite rfl (fun hC1 => ?_) (fun hC1 => ?_)
  ·have _hC1 := trivial
   have hC1p : (a0.length : Int) > 65536 := by simpa using hC1
   have hp := parse_long hC1p
   have hcn := count_long hC1p
   have hr := trivial
   refine C_seq ?_
   refine C_region ?_
   refine W_cons rfl (by decide) (Sv_val rfl (R_move rfl rfl) ?_)
   refine W_cons rfl (by decide) (Sv_val rfl (R_bin rfl rfl rfl rfl rfl) ?_)
   refine W_cons rfl (by decide) (Sv_val rfl (R_move rfl rfl) ?_)
   have hk44 : (((parseS a0).2.2 == 3)) = true := by first | (simp [hp, hcn, hr]; done) | (rw [hcn, ht, hr]; simp; done)
   have hk44p : (parseS a0).2.2 = 3 := by simpa using hk44
   refine W_cons rfl (by decide) (Sv_gt rfl rfl rfl hk44 (Sv_val rfl (R_move rfl rfl) ?_))
   refine W_cons rfl (by decide) (Sv_gt rfl rfl rfl hk44 (Sv_val rfl (R_bin rfl rfl rfl rfl rfl) ?_))
   refine W_cons rfl (by decide) (Sv_val rfl (R_pick_t rfl rfl hk44 rfl) ?_)
   refine W_cons rfl (by decide) (Sv_val rfl (R_move rfl rfl) ?_)
   have hk45 : (((parseS a0).2.1 == 0)) = true := by first | (simp [hp, hcn, hr]; done) | (rw [hcn, ht, hr]; simp; done)
   have hk45p : (parseS a0).2.1 = 0 := by simpa using hk45
   refine W_cons rfl (by decide) (Sv_gt rfl rfl rfl hk45 (Sv_val rfl (R_move rfl rfl) ?_))
   refine W_cons rfl (by decide) (Sv_gt rfl rfl rfl hk45 (Sv_val rfl (R_len rfl rfl Try.underlying42) ?_))
   refine W_cons rfl (by decide) (Sv_gt rfl rfl rfl hk45 (Sv_val rfl (R_bin rfl rfl rfl rfl rfl) ?_))
   refine W_cons rfl (by decide) (Sv_val rfl (R_pick_t rfl rfl hk45 rfl) ?_)
   refine W_cons rfl (by decide) (Sv_val rfl (R_move rfl rfl) ?_)
   have hk46 : ((((parseS a0).1.length : Int) == 0)) = true := by first | (simp [hp, hcn, hr]; done) | (rw [hcn, ht, hr]; simp; done)
   have hk46p : ((parseS a0).1.length : Int) = 0 := by simpa using hk46
   refine W_cons rfl (by decide) (Sv_gt rfl rfl rfl hk46 (Sv_val rfl (R_move rfl rfl) ?_))
   refine W_cons rfl (by decide) (Sv_gt rfl rfl rfl hk46 (Sv_val rfl (R_bin rfl rfl rfl rfl rfl) ?_))
   refine W_cons rfl (by decide) (Sv_val rfl (R_pick_t rfl rfl hk46 rfl) ?_)
   refine W_cons rfl (by decide) (Sv_val rfl (R_move rfl rfl) ?_)
   have hk47 : (((countS a0).1 == 0)) = true := by first | (simp [hp, hcn, hr]; done) | (rw [hcn, ht, hr]; simp; done)
   have hk47p : (countS a0).1 = 0 := by simpa using hk47
   refine W_cons rfl (by decide) (Sv_gt rfl rfl rfl hk47 (Sv_val rfl (R_move rfl rfl) ?_))
   refine W_cons rfl (by decide) (Sv_gt rfl rfl rfl hk47 (Sv_val rfl (R_bin rfl rfl rfl rfl rfl) ?_))
   refine W_cons rfl (by decide) (Sv_val rfl (R_pick_t rfl rfl hk47 rfl) ?_)
   refine W_cons rfl (by decide) (Sv_val rfl (R_move rfl rfl) ?_)
   have hk48 : (((countS a0).2 == 0)) = true := by first | (simp [hp, hcn, hr]; done) | (rw [hcn, ht, hr]; simp; done)
   have hk48p : (countS a0).2 = 0 := by simpa using hk48
   refine W_cons rfl (by decide) (Sv_gt rfl rfl rfl hk48 (Sv_call rfl rfl rfl ent25 ?_))
   refine (lawake_calls  _ _ hS.out0  ).mono ?_
   rintro e_ w49 ⟨rfl, hS_⟩
   refine ⟨_, rfl, ?_⟩
   have hS := hS.call0 hS_
   refine W_cons rfl (by decide) (Sv_val rfl (R_pick_t rfl rfl hk48 rfl) ?_)
   refine W_cons rfl (by decide) (Sv_val rfl (R_assign rfl rfl) ?_)
   refine W_nil ?_
   refine E_then (C_fr [(2, .bool true)] rfl ?_)
   refine C_ret ?_
   refine E_then_ret ?_
   refine E_ret1 rfl rfl ?_
   exact ⟨Lret1 (Lbool (show true = true by rfl)), hS.fin [] (by decide) rfl⟩
  ·have _hC1 := trivial
   have hC1p : ¬ ((a0.length : Int) > 65536) := by simpa using hC1
   refine C_skip ?_
   refine E_then ?_
   refine C_seq ?_
   refine C_region ?_
   refine W_cons rfl (by decide) (Sv_val rfl (R_move rfl rfl) ?_)
   refine W_cons rfl (by decide) (Sv_call rfl rfl rfl ent36 ?_)
   refine (refparse_calls a0 _ _ hS.out0  (by omega)).mono ?_
   rintro e_ w51 ⟨AR0_52, cR0_52, qR0_52, rfl, hS_⟩
   refine ⟨_, rfl, ?_⟩
   have hS := hS.call0 hS_
   have hp53 := hS.cap 1 rfl
   have hlhp53 := hp53.le
   have hmhp53 := hp53.mx
   refine W_cons rfl (by decide) (Sv_val rfl (R_move rfl rfl) ?_)
   refine W_cons rfl (by decide) (Sv_val rfl (R_extract rfl rfl rfl) ?_)
   refine W_cons rfl (by decide) (Sv_val rfl (R_extract rfl rfl rfl) ?_)
   refine W_cons rfl (by decide) (Sv_val rfl (R_assign rfl rfl) ?_)
   refine W_cons rfl (by decide) (Sv_val rfl (R_assign rfl rfl) ?_)
   refine W_nil ?_
   refine E_then (C_fr [(3, .slice AR0_40 (parseS a0).1.length cR0_40), (4, .int .i64 (parseS a0).2.1), (5, .int .i64 (parseS a0).2.2), (6, .int .i64 (countS a0).1), (7, .int .i64 (countS a0).2), (8, .slice AR0_52 (refS a0).1.length cR0_52), (9, .int .i64 (refS a0).2)] rfl ?_)
   refine C_seq ?_
   refine C_seq ?_
   refine C_region ?_
   refine W_cons rfl (by decide) (Sv_val rfl (R_move rfl rfl) ?_)
   refine W_cons rfl (by decide) (Sv_val rfl (R_bin rfl rfl rfl rfl rfl) ?_)
   refine W_nil ?_
   refine E_then ?_
   refine C_ite rfl (fun hC2 => ?_) (fun hC2 => ?_)
   ·have _hC2 := trivial
    have hC2p : (refS a0).2 ≥ 0 := by simpa using hC2
    have hr0 := ref_sign.1 hC2p
    have hp := parse_bad (s := a0) (by omega) hr0
    have hcn := count_bad (s := a0) (by omega) hr0
    have hr := ref_bad hr0
    refine C_seq ?_
    refine C_region ?_
    refine W_cons rfl (by decide) (Sv_val rfl (R_move rfl rfl) ?_)
    refine W_cons rfl (by decide) (Sv_val rfl (R_bin rfl rfl rfl rfl rfl) ?_)
    refine W_cons rfl (by decide) (Sv_val rfl (R_move rfl rfl) ?_)
    have hk54 : (((parseS a0).2.2 == 2)) = true := by first | (simp [hp, hcn, hr]; done) | (rw [hcn, ht, hr]; simp; done)
    have hk54p : (parseS a0).2.2 = 2 := by simpa using hk54
    refine W_cons rfl (by decide) (Sv_gt rfl rfl rfl hk54 (Sv_val rfl (R_move rfl rfl) ?_))
    refine W_cons rfl (by decide) (Sv_gt rfl rfl rfl hk54 (Sv_val rfl (R_move rfl rfl) ?_))
    refine W_cons rfl (by decide) (Sv_gt rfl rfl rfl hk54 (Sv_val rfl (R_bin rfl rfl rfl rfl rfl) ?_))
    refine W_cons rfl (by decide) (Sv_val rfl (R_pick_t rfl rfl hk54 rfl) ?_)
    refine W_cons rfl (by decide) (Sv_val rfl (R_move rfl rfl) ?_)
    have hk55 : (((parseS a0).2.1 == (refS a0).2)) = true := by first | (simp [hp, hcn, hr]; done) | (rw [hcn, ht, hr]; simp; done)
    have hk55p : (parseS a0).2.1 = (refS a0).2 := by simpa using hk55
    refine W_cons rfl (by decide) (Sv_gt rfl rfl rfl hk55 (Sv_val rfl (R_move rfl rfl) ?_))
    refine W_cons rfl (by decide) (Sv_gt rfl rfl rfl hk55 (Sv_val rfl (R_len rfl rfl Try.underlying42) ?_))
    refine W_cons rfl (by decide) (Sv_gt rfl rfl rfl hk55 (Sv_val rfl (R_bin rfl rfl rfl rfl rfl) ?_))
    refine W_cons rfl (by decide) (Sv_val rfl (R_pick_t rfl rfl hk55 rfl) ?_)
    refine W_cons rfl (by decide) (Sv_val rfl (R_move rfl rfl) ?_)
    have hk56 : ((((parseS a0).1.length : Int) == 0)) = true := by first | (simp [hp, hcn, hr]; done) | (rw [hcn, ht, hr]; simp; done)
    have hk56p : ((parseS a0).1.length : Int) = 0 := by simpa using hk56
    refine W_cons rfl (by decide) (Sv_gt rfl rfl rfl hk56 (Sv_val rfl (R_move rfl rfl) ?_))
    refine W_cons rfl (by decide) (Sv_gt rfl rfl rfl hk56 (Sv_val rfl (R_bin rfl rfl rfl rfl rfl) ?_))
    refine W_cons rfl (by decide) (Sv_val rfl (R_pick_t rfl rfl hk56 rfl) ?_)
    refine W_cons rfl (by decide) (Sv_val rfl (R_move rfl rfl) ?_)
    have hk57 : (((countS a0).1 == 0)) = true := by first | (simp [hp, hcn, hr]; done) | (rw [hcn, ht, hr]; simp; done)
    have hk57p : (countS a0).1 = 0 := by simpa using hk57
    refine W_cons rfl (by decide) (Sv_gt rfl rfl rfl hk57 (Sv_val rfl (R_move rfl rfl) ?_))
    refine W_cons rfl (by decide) (Sv_gt rfl rfl rfl hk57 (Sv_val rfl (R_bin rfl rfl rfl rfl rfl) ?_))
    refine W_cons rfl (by decide) (Sv_val rfl (R_pick_t rfl rfl hk57 rfl) ?_)
    refine W_cons rfl (by decide) (Sv_val rfl (R_move rfl rfl) ?_)
    have hk58 : (((countS a0).2 == 0)) = true := by first | (simp [hp, hcn, hr]; done) | (rw [hcn, ht, hr]; simp; done)
    have hk58p : (countS a0).2 = 0 := by simpa using hk58
    refine W_cons rfl (by decide) (Sv_gt rfl rfl rfl hk58 (Sv_call rfl rfl rfl ent25 ?_))
    refine (lawake_calls  _ _ hS.out0  ).mono ?_
    rintro e_ w59 ⟨rfl, hS_⟩
    refine ⟨_, rfl, ?_⟩
    have hS := hS.call0 hS_
    refine W_cons rfl (by decide) (Sv_val rfl (R_pick_t rfl rfl hk58 rfl) ?_)
    refine W_cons rfl (by decide) (Sv_val rfl (R_assign rfl rfl) ?_)
    refine W_nil ?_
    refine E_then (C_fr [(2, .bool true)] rfl ?_)
    refine C_ret ?_
    refine E_then_ret ?_
    refine E_ret1 rfl rfl ?_
    exact ⟨Lret1 (Lbool (show true = true by rfl)), hS.fin [] (by decide) rfl⟩
   ·have _hC2 := trivial
    have hC2p : ¬ ((refS a0).2 ≥ 0) := by simpa using hC2
    have hr0 : (run .F a0 0 []).2 < 0 := by have := mt ref_sign.2 hC2p; omega
    have hp := parse_ok (s := a0) (by omega) hr0
    have hcn := count_ok (s := a0) (by omega) hr0
    have hr := ref_ok hr0
    have ht4 := tot_bd (s := a0) (by omega) hr0
    refine C_skip ?_
    refine E_then ?_
    refine C_seq ?_
    refine C_region ?_
    refine W_cons rfl (by decide) (Sv_val rfl (R_assign rfl rfl) ?_)
    refine W_nil ?_
    refine E_then ?_
    refine C_seq ?_
    refine C_seq ?_
    refine C_region ?_
    refine W_cons rfl (by decide) (Sv_val rfl (R_assign rfl rfl) ?_)
    refine W_nil ?_
    refine E_then ?_
    refine C_block ?_
    have hs62 : 0 = tot ((refS a0).1.take (0 : Nat)) := by rfl
    refine C_fr [(3, .slice AR0_40 (parseS a0).1.length cR0_40), (4, .int .i64 (parseS a0).2.1), (5, .int .i64 (parseS a0).2.2), (6, .int .i64 (countS a0).1), (7, .int .i64 (countS a0).2), (8, .slice AR0_52 (refS a0).1.length cR0_52), (10, .int .i64 0), (11, .int .i64 0)] rfl ?_
    refine C_loop (fun m_ f_ w_ => ∃ (i : Nat), f_ = [(3, .slice AR0_40 (parseS a0).1.length cR0_40), (4, .int .i64 (parseS a0).2.1), (5, .int .i64 (parseS a0).2.2), (6, .int .i64 (countS a0).1), (7, .int .i64 (countS a0).2), (8, .slice AR0_52 (refS a0).1.length cR0_52), (10, .int .i64 (tot ((refS a0).1.take i))), (11, .int .i64 (i : Int))] ∧ i ≤ (refS a0).1.length ∧ m_ = (refS a0).1.length - i ∧ Sp (FF []) w z w_ [zR qR0_40, oR (kslice kstr) 56 qR0_40 AR0_40 cR0_40 (parseS a0).1, zR qR0_52, oR (kslice kstr) 56 qR0_52 AR0_52 cR0_52 (refS a0).1]) ((refS a0).1.length - (0 : Nat)) ⟨(0 : Nat), (by rw [← hs62] <;> rfl), (by omega), rfl, hS.fin [2, 3, 0, 1] (by decide) rfl⟩ ?_
    rintro m_ f_ w61 ⟨i, rfl, hI0_0, rfl, hS⟩
    refine C_seq ?_
    refine C_seq ?_
    refine C_region ?_
    refine W_cons rfl (by decide) (Sv_val rfl (R_move rfl rfl) ?_)
    refine W_cons rfl (by decide) (Sv_val rfl (R_move rfl rfl) ?_)
    refine W_cons rfl (by decide) (Sv_val rfl (R_len rfl rfl Try.underlying42) ?_)
    refine W_cons rfl (by decide) (Sv_val rfl (R_bin rfl rfl rfl rfl rfl) ?_)
    refine W_nil ?_
    refine E_then ?_
    refine C_ite rfl (fun hC3 => ?_) (fun hC3 => ?_)
    ·have _hC3 := trivial
     have hC3p : (i : Int) < ((refS a0).1.length : Int) := by simpa using hC3
     refine C_skip ?_
     refine E_then ?_
     refine C_seq ?_
     refine C_block ?_
     have ht1 := tot_nonneg ((refS a0).1.take i)
     have ht2 := tot_next (refS a0).1 i (by omega)
     have ht3 := tot_take (refS a0).1 (i + 1)
     refine C_region ?_
     refine W_cons rfl (by decide) (Sv_val rfl (R_move rfl rfl) ?_)
     refine W_cons rfl (by decide) (Sv_val rfl (R_move rfl rfl) ?_)
     refine W_cons rfl (by decide) (Sv_val rfl (R_move rfl rfl) ?_)
     obtain ⟨q63, csq63, hAq63, ⟨Aq63, cq63, rfl, hcq63, hrq63⟩, hkq63⟩ := (hS.rw 3 rfl).el [] (i := (i : Int)) (by omega) (by omega)
     have hkq63 : ∀ (j_ : Nat) (u_ : Value), ([.slice Aq63 ((refS a0).1.getD i []).length cq63] : List Value)[j_]? = some u_ → World.cell? w61 (q63.add (i * 1 + j_)) = some u_ := hkq63
     have hrq63 : Rd kstr qR0_52 Aq63 (((refS a0).1.getD i [])) := hrq63
     have hcq63 : Cap Aq63 (((refS a0).1.getD i [])).length cq63 := hcq63
     have hlq63 := hcq63.le
     have hmq63 := hcq63.mx
     refine W_cons rfl (by decide) (Sv_val rfl (R_idx rfl rfl hAq63 rfl Try.underlying42 size56 (by omega) (by omega)) ?_)
     refine W_cons rfl (by decide) (Sv_val rfl (R_load1 rfl rfl agg56 (hkq63 0 _ rfl)) ?_)
     refine W_cons rfl (by decide) (Sv_val rfl (R_len rfl rfl Try.underlying56) ?_)
     refine W_cons rfl (by decide) (Sv_val rfl (R_add64 rfl rfl rfl (by omega) (by omega)) ?_)
     refine W_cons rfl (by decide) (Sv_val rfl (R_assign rfl rfl) ?_)
     refine W_nil ?_
     refine E_block_normal ?_
     refine E_then (C_fr [(3, .slice AR0_40 (parseS a0).1.length cR0_40), (4, .int .i64 (parseS a0).2.1), (5, .int .i64 (parseS a0).2.2), (6, .int .i64 (countS a0).1), (7, .int .i64 (countS a0).2), (8, .slice AR0_52 (refS a0).1.length cR0_52), (10, .int .i64 ((tot ((refS a0).1.take i)) + (((refS a0).1.getD i []).length : Int))), (11, .int .i64 (i : Int))] rfl ?_)
     refine C_region ?_
     refine W_cons rfl (by decide) (Sv_val rfl (R_move rfl rfl) ?_)
     refine W_cons rfl (by decide) (Sv_val rfl (R_add64 rfl rfl rfl (by omega) (by omega)) ?_)
     refine W_cons rfl (by decide) (Sv_val rfl (R_assign rfl rfl) ?_)
     refine W_nil ?_
     have hs64 : (tot ((refS a0).1.take i)) + (((refS a0).1.getD i []).length : Int) = tot ((refS a0).1.take (i + 1 : Nat)) := by exact ht2.symm
     refine E_round [3, 4, 5, 6, 7, 8, 10, 11] ?_ ⟨(i + 1 : Nat), (by rw [← hs64] <;> rfl), (by omega), rfl, hS.fin [0, 1, 2, 3] (by decide) rfl⟩
     omega
    ·have _hC3 := trivial
     have hC3p : ¬ ((i : Int) < ((refS a0).1.length : Int)) := by simpa using hC3
     refine C_exit ?_
     refine E_then_exit ?_
     refine E_then_exit ?_
     refine E_block_hit ?_
     refine E_then (C_fr [(3, .slice AR0_40 (parseS a0).1.length cR0_40), (4, .int .i64 (parseS a0).2.1), (5, .int .i64 (parseS a0).2.2), (6, .int .i64 (countS a0).1), (7, .int .i64 (countS a0).2), (8, .slice AR0_52 (refS a0).1.length cR0_52), (10, .int .i64 (tot ((refS a0).1.take i)))] rfl ?_)
     refine C_seq ?_
     have ht : (refS a0).1.take i = (refS a0).1 := List.take_of_length_le (by omega)
     refine C_region ?_
     refine W_cons rfl (by decide) (Sv_val rfl (R_move rfl rfl) ?_)
     refine W_cons rfl (by decide) (Sv_val rfl (R_bin rfl rfl rfl rfl rfl) ?_)
     refine W_cons rfl (by decide) (Sv_val rfl (R_move rfl rfl) ?_)
     have hk65 : (((parseS a0).2.2 == 0)) = true := by first | (simp [hp, hcn, hr]; done) | (rw [hcn, ht, hr]; simp; done)
     have hk65p : (parseS a0).2.2 = 0 := by simpa using hk65
     refine W_cons rfl (by decide) (Sv_gt rfl rfl rfl hk65 (Sv_val rfl (R_move rfl rfl) ?_))
     refine W_cons rfl (by decide) (Sv_gt rfl rfl rfl hk65 (Sv_val rfl (R_bin rfl rfl rfl rfl rfl) ?_))
     refine W_cons rfl (by decide) (Sv_val rfl (R_pick_t rfl rfl hk65 rfl) ?_)
     refine W_cons rfl (by decide) (Sv_val rfl (R_move rfl rfl) ?_)
     have hk66 : (((parseS a0).2.1 == 0)) = true := by first | (simp [hp, hcn, hr]; done) | (rw [hcn, ht, hr]; simp; done)
     have hk66p : (parseS a0).2.1 = 0 := by simpa using hk66
     refine W_cons rfl (by decide) (Sv_gt rfl rfl rfl hk66 (Sv_val rfl (R_move rfl rfl) ?_))
     refine W_cons rfl (by decide) (Sv_gt rfl rfl rfl hk66 (Sv_val rfl (R_move rfl rfl) ?_))
     refine W_cons rfl (by decide) (Sv_gt rfl rfl rfl hk66 (Sv_call rfl rfl rfl ent29 ?_))
     refine (same_calls (parseS a0).1 AR0_40 cR0_40 (refS a0).1 AR0_52 cR0_52 _ _ hS.out0 (hS.ow [] 1 rfl rfl (hS.zq [] 0 rfl rfl)) (hS.cap 1 rfl) (hS.ow [] 3 rfl rfl (hS.zq [] 2 rfl rfl)) (hS.cap 3 rfl) ).mono ?_
     rintro e_ w67 ⟨rfl, hS_⟩
     refine ⟨_, rfl, ?_⟩
     have hS := hS.call0 hS_
     refine W_cons rfl (by decide) (Sv_val rfl (R_pick_t rfl rfl hk66 rfl) ?_)
     refine W_cons rfl (by decide) (Sv_val rfl (R_move rfl rfl) ?_)
     have hk69 : (decide ((parseS a0).1 = (refS a0).1)) = true := by first | (simp [hp, hcn, hr]; done) | (rw [hcn, ht, hr]; simp; done)
     refine W_cons rfl (by decide) (Sv_gt rfl rfl rfl hk69 (Sv_val rfl (R_move rfl rfl) ?_))
     refine W_cons rfl (by decide) (Sv_gt rfl rfl rfl hk69 (Sv_val rfl (R_move rfl rfl) ?_))
     refine W_cons rfl (by decide) (Sv_gt rfl rfl rfl hk69 (Sv_val rfl (R_len rfl rfl Try.underlying42) ?_))
     refine W_cons rfl (by decide) (Sv_gt rfl rfl rfl hk69 (Sv_val rfl (R_bin rfl rfl rfl rfl rfl) ?_))
     refine W_cons rfl (by decide) (Sv_val rfl (R_pick_t rfl rfl hk69 rfl) ?_)
     refine W_cons rfl (by decide) (Sv_val rfl (R_move rfl rfl) ?_)
     have hk70 : (((countS a0).1 == ((refS a0).1.length : Int))) = true := by first | (simp [hp, hcn, hr]; done) | (rw [hcn, ht, hr]; simp; done)
     have hk70p : (countS a0).1 = ((refS a0).1.length : Int) := by simpa using hk70
     refine W_cons rfl (by decide) (Sv_gt rfl rfl rfl hk70 (Sv_val rfl (R_move rfl rfl) ?_))
     refine W_cons rfl (by decide) (Sv_gt rfl rfl rfl hk70 (Sv_val rfl (R_move rfl rfl) ?_))
     refine W_cons rfl (by decide) (Sv_gt rfl rfl rfl hk70 (Sv_val rfl (R_bin rfl rfl rfl rfl rfl) ?_))
     refine W_cons rfl (by decide) (Sv_val rfl (R_pick_t rfl rfl hk70 rfl) ?_)
     refine W_cons rfl (by decide) (Sv_val rfl (R_move rfl rfl) ?_)
     have hk71 : (((countS a0).2 == (tot ((refS a0).1.take i)))) = true := by first | (simp [hp, hcn, hr]; done) | (rw [hcn, ht, hr]; simp; done)
     have hk71p : (countS a0).2 = (tot ((refS a0).1.take i)) := by simpa using hk71
     refine W_cons rfl (by decide) (Sv_gt rfl rfl rfl hk71 (Sv_call rfl rfl rfl ent25 ?_))
     refine (lawake_calls  _ _ hS.out0  ).mono ?_
     rintro e_ w72 ⟨rfl, hS_⟩
     refine ⟨_, rfl, ?_⟩
     have hS := hS.call0 hS_
     refine W_cons rfl (by decide) (Sv_val rfl (R_pick_t rfl rfl hk71 rfl) ?_)
     refine W_cons rfl (by decide) (Sv_val rfl (R_assign rfl rfl) ?_)
     refine W_nil ?_
     refine E_then (C_fr [(2, .bool true)] rfl ?_)
     refine C_ret ?_
     refine E_ret1 rfl rfl ?_
     exact ⟨Lret1 (Lbool (show true = true by rfl)), hS.fin [] (by decide) rfl⟩

end Go.Proofs.YtibniimdfahiiaaG
