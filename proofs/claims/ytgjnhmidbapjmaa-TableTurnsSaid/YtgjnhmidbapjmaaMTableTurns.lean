/- The walk of the law TableTurns: it returns true. -/
import Derived.Test.YtgjnhmidbapjmaaT2
set_option linter.all false
namespace Go.Proofs.YtgjnhmidbapjmaaG
open Go Go.RowKit
set_option maxHeartbeats 4000000 in
set_option maxRecDepth 20000 in
theorem tableTurns_calls (a0 : List (List St)) (Aa0 : Option Addr) (ca0 : Nat) (z : Z) (w : World) (hI : In z w []) (hra0 : Rd (kslice kstr) z Aa0 a0) (hca0 : Cap Aa0 a0.length ca0)  :
    Calls Try.prog 6 #[.slice Aa0 a0.length ca0] w fun e w' => e = .returned (.bool true) ∧ Sp (FF []) w z w' [] := by
 have hla0 := hca0.le
 have hma0 := hca0.mx
 have hS := hI.sp
 refine Calls_of (vs := [.slice Aa0 a0.length ca0]) (N := 73) Try.func6 rfl rfl (Nat.le_of_ble_eq_true rfl) ?_
 refine C_seq ?_
 refine C_region ?_
 refine W_cons rfl (by decide) (Sv_val rfl (R_assign rfl rfl) ?_)
 refine W_nil ?_
 refine E_then ?_
 refine C_seq ?_
 refine C_seq ?_
 refine C_region ?_
 refine W_cons rfl (by decide) (Sv_val rfl (R_move rfl rfl) ?_)
 refine W_cons rfl (by decide) (Sv_call rfl rfl rfl ent12 ?_)
 refine (wide_calls a0 Aa0 ca0 _ _ hS.out0 (hra0.mono (hS.zl [])) hca0 ).mono ?_
 rintro e_ w1 ⟨rfl, hS_⟩
 refine ⟨_, rfl, ?_⟩
 have hS := hS.call0 hS_
 refine W_nil ?_
 refine E_then ?_
 refine C_ite rfl (fun hC0 => ?_) (fun hC0 => ?_)
 ·have _hC0 := trivial
  refine C_seq ?_
  refine C_region ?_
  refine W_cons rfl (by decide) (Sv_call rfl rfl rfl ent13 ?_)
  refine (tawake_calls  _ _ hS.out0  ).mono ?_
  rintro e_ w3 ⟨rfl, hS_⟩
  refine ⟨_, rfl, ?_⟩
  have hS := hS.call0 hS_
  refine W_cons rfl (by decide) (Sv_val rfl (R_assign rfl rfl) ?_)
  refine W_nil ?_
  refine E_then ?_
  refine C_ret ?_
  refine E_then_ret ?_
  refine E_ret1 rfl rfl ?_
  exact ⟨Lret1 (Lbool (show true = true by rfl)), hS.fin [] (by decide) rfl⟩
 ·have _hC0 := trivial
  obtain ⟨hw1, hw2, hw3⟩ := wide_not hC0
  have hwn := widthS_nonneg a0
  refine C_skip ?_
  refine E_then ?_
  refine C_seq ?_
  refine C_region ?_
  refine W_cons rfl (by decide) (Sv_val rfl (R_move rfl rfl) ?_)
  refine W_cons rfl (by decide) (Sv_call rfl rfl rfl ent19 ?_)
  refine (fill_calls a0 Aa0 ca0 _ _ hS.out0 (hra0.mono (hS.zl [])) hca0 (by omega) (by omega)).mono ?_
  rintro e_ w5 ⟨AR0_6, cR0_6, qR0_6, rfl, hS_⟩
  refine ⟨_, rfl, ?_⟩
  have hS := hS.call0 hS_
  have hp7 := hS.cap 1 rfl
  have hlhp7 := hp7.le
  have hmhp7 := hp7.mx
  refine W_cons rfl (by decide) (Sv_val rfl (R_move rfl rfl) ?_)
  refine W_cons rfl (by decide) (Sv_call rfl rfl rfl ent21 ?_)
  refine (turn_calls a0 Aa0 ca0 _ _ hS.out0 (hra0.mono (hS.zl [])) hca0 (by omega) (by omega)).mono ?_
  rintro e_ w8 ⟨AR0_9, cR0_9, qR0_9, rfl, hS_⟩
  refine ⟨_, rfl, ?_⟩
  have hS := hS.call0 hS_
  have hp10 := hS.cap 1 rfl
  have hlhp10 := hp10.le
  have hmhp10 := hp10.mx
  refine W_cons rfl (by decide) (Sv_val rfl (R_assign rfl rfl) ?_)
  refine W_cons rfl (by decide) (Sv_val rfl (R_assign rfl rfl) ?_)
  refine W_nil ?_
  refine E_then (C_fr [(0, .slice Aa0 a0.length ca0), (3, .slice AR0_6 (fillS a0).length cR0_6), (4, .slice AR0_9 (turnS a0).length cR0_9)] rfl ?_)
  refine C_seq ?_
  refine C_seq ?_
  have hz1 := fill_w a0
  have hz2 := turn_w a0
  obtain ⟨hz3, hz4, hz5, hz6⟩ := trim_size a0
  have hz7 := hz6 0 (by omega)
  refine C_region ?_
  refine W_cons rfl (by decide) (Sv_val rfl (R_move rfl rfl) ?_)
  refine W_cons rfl (by decide) (Sv_call rfl rfl rfl ent21 ?_)
  refine (turn_calls (turnS a0) AR0_9 cR0_9 _ _ hS.out0 (hS.ow [] 1 rfl rfl (hS.zq [] 0 rfl rfl)) (hS.cap 1 rfl) (by omega) (by omega)).mono ?_
  rintro e_ w11 ⟨AR0_12, cR0_12, qR0_12, rfl, hS_⟩
  refine ⟨_, rfl, ?_⟩
  have hS := hS.call0 hS_
  have hp13 := hS.cap 1 rfl
  have hlhp13 := hp13.le
  have hmhp13 := hp13.mx
  refine W_cons rfl (by decide) (Sv_val rfl (R_move rfl rfl) ?_)
  refine W_cons rfl (by decide) (Sv_call rfl rfl rfl ent22 ?_)
  refine (same_calls (turnS (turnS a0)) AR0_12 cR0_12 (fillS a0) AR0_6 cR0_6 _ _ hS.out0 (hS.ow [] 1 rfl rfl (hS.zq [] 0 rfl rfl)) (hS.cap 1 rfl) (hS.ow [] 5 rfl rfl (hS.zq [] 4 rfl rfl)) (hS.cap 5 rfl) ).mono ?_
  rintro e_ w14 ⟨rfl, hS_⟩
  refine ⟨_, rfl, ?_⟩
  have hS := hS.call0 hS_
  refine W_cons rfl (by decide) (Sv_val rfl (R_un rfl rfl rfl) ?_)
  refine W_cons rfl (by decide) (Sv_val rfl (R_move rfl rfl) ?_)
  have hk16 : (!(decide ((turnS (turnS a0)) = (fillS a0)))) = false := by first | (simp [fill_fill]; done) | (simp [trim_trim]; done) | (simp [trim_fill]; done) | (simp [turn_turn]; done)
  have hk16p : (decide ((turnS (turnS a0)) = (fillS a0)) = true) := by simpa using hk16
  refine W_cons rfl (by decide) (Sv_gt rfl rfl rfl hk16 (Sv_val rfl (R_move rfl rfl) ?_))
  refine W_cons rfl (by decide) (Sv_gt rfl rfl rfl hk16 (Sv_val rfl (R_len rfl rfl Try.underlying22) ?_))
  refine W_cons rfl (by decide) (Sv_gt rfl rfl rfl hk16 (Sv_val rfl (R_move rfl rfl) ?_))
  refine W_cons rfl (by decide) (Sv_gt rfl rfl rfl hk16 (Sv_call rfl rfl rfl ent14 ?_))
  refine (width_calls a0 Aa0 ca0 _ _ hS.out0 (hra0.mono (hS.zl [])) hca0 ).mono ?_
  rintro e_ w17 ⟨rfl, hS_⟩
  refine ⟨_, rfl, ?_⟩
  have hS := hS.call0 hS_
  refine W_cons rfl (by decide) (Sv_gt rfl rfl rfl hk16 (Sv_val rfl (R_max rfl rfl) ?_))
  refine W_cons rfl (by decide) (Sv_gt rfl rfl rfl hk16 (Sv_val rfl (R_bin rfl rfl rfl rfl rfl) ?_))
  refine W_cons rfl (by decide) (Sv_val rfl (R_pick_f rfl rfl hk16 rfl) ?_)
  refine W_nil ?_
  refine E_then (C_fr [(0, .slice Aa0 a0.length ca0), (4, .slice AR0_9 (turnS a0).length cR0_9), (26, .bool (((turnS a0).length : Int) != (max (widthS a0) 1)))] rfl ?_)
  have hk19 : ((((turnS a0).length : Int) != (max (widthS a0) 1))) = false := by simp [hz2]
  have hk19p : ((turnS a0).length : Int) = (max (widthS a0) 1) := by simpa using hk19
  refine C_else rfl hk19 ?_
  refine C_skip ?_
  refine E_then ?_
  refine C_seq ?_
  refine C_seq ?_
  refine C_region ?_
  refine W_cons rfl (by decide) (Sv_val rfl (R_assign rfl rfl) ?_)
  refine W_nil ?_
  refine E_then ?_
  refine C_block ?_
  refine C_fr [(0, .slice Aa0 a0.length ca0), (4, .slice AR0_9 (turnS a0).length cR0_9), (5, .int .i64 0)] rfl ?_
  refine C_loop (fun m_ f_ w_ => ∃ (i : Nat), f_ = [(0, .slice Aa0 a0.length ca0), (4, .slice AR0_9 (turnS a0).length cR0_9), (5, .int .i64 (i : Int))] ∧ i ≤ a0.length ∧ m_ = a0.length - i ∧ Sp (FF []) w z w_ [zR qR0_9, oR (kslice kstr) 31 qR0_9 AR0_9 cR0_9 (turnS a0)]) (a0.length - (0 : Nat)) ⟨(0 : Nat), rfl, (by omega), rfl, hS.fin [2, 3] (by decide) rfl⟩ ?_
  rintro m_ f_ w20 ⟨i, rfl, hI0_0, rfl, hS⟩
  refine C_seq ?_
  refine C_seq ?_
  refine C_region ?_
  refine W_cons rfl (by decide) (Sv_val rfl (R_move rfl rfl) ?_)
  refine W_cons rfl (by decide) (Sv_val rfl (R_move rfl rfl) ?_)
  refine W_cons rfl (by decide) (Sv_val rfl (R_len rfl rfl Try.underlying22) ?_)
  refine W_cons rfl (by decide) (Sv_val rfl (R_bin rfl rfl rfl rfl rfl) ?_)
  refine W_nil ?_
  refine E_then ?_
  refine C_ite rfl (fun hC2 => ?_) (fun hC2 => ?_)
  ·have _hC2 := trivial
   have hC2p : (i : Int) < (a0.length : Int) := by simpa using hC2
   refine C_skip ?_
   refine E_then ?_
   refine C_seq ?_
   refine C_block ?_
   refine C_seq ?_
   refine C_region ?_
   refine W_cons rfl (by decide) (Sv_val rfl (R_assign rfl rfl) ?_)
   refine W_nil ?_
   refine E_then ?_
   refine C_block ?_
   refine C_fr [(0, .slice Aa0 a0.length ca0), (4, .slice AR0_9 (turnS a0).length cR0_9), (5, .int .i64 (i : Int)), (6, .int .i64 0)] rfl ?_
   refine C_loop (fun m_ f_ w_ => ∃ (k : Nat), f_ = [(0, .slice Aa0 a0.length ca0), (4, .slice AR0_9 (turnS a0).length cR0_9), (5, .int .i64 (i : Int)), (6, .int .i64 (k : Int))] ∧ k ≤ (a0.getD i []).length ∧ m_ = (a0.getD i []).length - k ∧ Sp (FF []) w z w_ [zR qR0_9, oR (kslice kstr) 31 qR0_9 AR0_9 cR0_9 (turnS a0)]) ((a0.getD i []).length - (0 : Nat)) ⟨(0 : Nat), rfl, (by omega), rfl, hS.fin [0, 1] (by decide) rfl⟩ ?_
   rintro m_ f_ w21 ⟨k, rfl, hI1_0, rfl, hS⟩
   refine C_seq ?_
   refine C_seq ?_
   refine C_region ?_
   refine W_cons rfl (by decide) (Sv_val rfl (R_move rfl rfl) ?_)
   refine W_cons rfl (by decide) (Sv_val rfl (R_move rfl rfl) ?_)
   refine W_cons rfl (by decide) (Sv_val rfl (R_move rfl rfl) ?_)
   obtain ⟨q22, csq22, hAq22, ⟨Aq22, cq22, rfl, hcq22, hrq22⟩, hkq22⟩ := hra0.at_ [] (i := (i : Int)) (by omega) (by omega)
   have hkq22 : ∀ (j_ : Nat) (u_ : Value), ([.slice Aq22 (a0.getD i []).length cq22] : List Value)[j_]? = some u_ → cz z (q22.add (i * 1 + j_)) = some u_ := hkq22
   have hrq22 : Rd kstr z Aq22 ((a0.getD i [])) := hrq22
   have hcq22 : Cap Aq22 ((a0.getD i [])).length cq22 := hcq22
   have hlq22 := hcq22.le
   have hmq22 := hcq22.mx
   refine W_cons rfl (by decide) (Sv_val rfl (R_idx rfl rfl hAq22 rfl Try.underlying22 size31 (by omega) (by omega)) ?_)
   refine W_cons rfl (by decide) (Sv_val rfl (R_load1 rfl rfl agg31 (hS.sub.cell (hkq22 0 _ rfl))) ?_)
   refine W_cons rfl (by decide) (Sv_val rfl (R_len rfl rfl Try.underlying31) ?_)
   refine W_cons rfl (by decide) (Sv_val rfl (R_bin rfl rfl rfl rfl rfl) ?_)
   refine W_nil ?_
   refine E_then (C_fr [(0, .slice Aa0 a0.length ca0), (4, .slice AR0_9 (turnS a0).length cR0_9), (5, .int .i64 (i : Int)), (6, .int .i64 (k : Int)), (39, .bool (decide ((k : Int) < ((a0.getD i []).length : Int))))] rfl ?_)
   refine C_ite rfl (fun hC3 => ?_) (fun hC3 => ?_)
   ·have _hC3 := trivial
    have hC3p : (k : Int) < ((a0.getD i []).length : Int) := by simpa using hC3
    refine C_skip ?_
    refine E_then ?_
    refine C_seq ?_
    refine C_block ?_
    refine C_seq ?_
    obtain ⟨ht1, ht2, ht3⟩ := turn_at (l := a0) (i := i) (k := k) (by omega) (by omega)
    refine C_fr [(0, .slice Aa0 a0.length ca0), (4, .slice AR0_9 (turnS a0).length cR0_9), (5, .int .i64 (i : Int)), (6, .int .i64 (k : Int))] rfl ?_
    have hk25 : (decide (((turnS a0).length : Int) ≤ (k : Int))) = false := by refine decide_eq_false (fun h_ => ?_); omega
    have hk25p : ¬ (((turnS a0).length : Int) ≤ (k : Int)) := by simpa using hk25
    obtain ⟨q26, csq26, hAq26, ⟨Aq26, cq26, rfl, hcq26, hrq26⟩, hkq26⟩ := (hS.rw 1 rfl).el [] (i := (k : Int)) (by omega) (by omega)
    have hkq26 : ∀ (j_ : Nat) (u_ : Value), ([.slice Aq26 ((turnS a0).getD k []).length cq26] : List Value)[j_]? = some u_ → World.cell? w21 (q26.add (k * 1 + j_)) = some u_ := hkq26
    have hrq26 : Rd kstr qR0_9 Aq26 (((turnS a0).getD k [])) := hrq26
    have hcq26 : Cap Aq26 (((turnS a0).getD k [])).length cq26 := hcq26
    have hlq26 := hcq26.le
    have hmq26 := hcq26.mx
    have hk27 : (decide ((((turnS a0).getD k []).length : Int) ≤ (i : Int))) = false := by refine decide_eq_false (fun h_ => ?_); omega
    have hk27p : ¬ ((((turnS a0).getD k []).length : Int) ≤ (i : Int)) := by simpa using hk27
    obtain ⟨q28, csq28, hAq28, ⟨Aq28, cq28, rfl, hcq28, hrq28⟩, hkq28⟩ := (hS.rw 1 rfl).el [] (i := (k : Int)) (by omega) (by omega)
    have hkq28 : ∀ (j_ : Nat) (u_ : Value), ([.slice Aq28 ((turnS a0).getD k []).length cq28] : List Value)[j_]? = some u_ → World.cell? w21 (q28.add (k * 1 + j_)) = some u_ := hkq28
    have hrq28 : Rd kstr qR0_9 Aq28 (((turnS a0).getD k [])) := hrq28
    have hcq28 : Cap Aq28 (((turnS a0).getD k [])).length cq28 := hcq28
    have hlq28 := hcq28.le
    have hmq28 := hcq28.mx
    obtain ⟨q29, csq29, hAq29, rfl, hkq29⟩ := hrq28.at_ ([] : St) (i := (i : Int)) (by omega) (by omega)
    have hkq29 : ∀ (j_ : Nat) (u_ : Value), ([vstr (((turnS a0).getD k []).getD i ([] : St))] : List Value)[j_]? = some u_ → cz qR0_9 (q29.add (i * 1 + j_)) = some u_ := hkq29
    obtain ⟨q30, csq30, hAq30, ⟨Aq30, cq30, rfl, hcq30, hrq30⟩, hkq30⟩ := hra0.at_ [] (i := (i : Int)) (by omega) (by omega)
    have hkq30 : ∀ (j_ : Nat) (u_ : Value), ([.slice Aq30 (a0.getD i []).length cq30] : List Value)[j_]? = some u_ → cz z (q30.add (i * 1 + j_)) = some u_ := hkq30
    have hrq30 : Rd kstr z Aq30 ((a0.getD i [])) := hrq30
    have hcq30 : Cap Aq30 ((a0.getD i [])).length cq30 := hcq30
    have hlq30 := hcq30.le
    have hmq30 := hcq30.mx
    obtain ⟨q31, csq31, hAq31, rfl, hkq31⟩ := hrq30.at_ ([] : St) (i := (k : Int)) (by omega) (by omega)
    have hkq31 : ∀ (j_ : Nat) (u_ : Value), ([vstr ((a0.getD i []).getD k ([] : St))] : List Value)[j_]? = some u_ → cz z (q31.add (k * 1 + j_)) = some u_ := hkq31
    refine C_drawn 30 [[], [0], [], [1, 2], [3], [4], [4], [5, 6, 4], [7, 4], [8, 4], [4], [9, 10, 4], [4, 11], [12, 4], [13], [13], [14, 15, 13], [16, 13], [13], [17, 18, 13], [19, 13], [13], [13], [21, 22, 13], [23, 13], [13], [24, 25, 13], [26, 13], [20, 27, 13], [13, 28]] [42, 43, 44, 45, 46, 47, 48, 49, 50, 51, 52, 53, 54, 55, 56, 57, 58, 59, 60, 61, 62, 63, 64, 65, 66, 67, 68, 69, 70, 71] [0, 4, 5, 6] rfl (by kernel_rfl) (by decide +kernel) [fun v_ _ => v_ = .slice AR0_9 (turnS a0).length cR0_9, fun v_ _ => v_ = .int .i64 ((turnS a0).length : Int), fun v_ _ => v_ = .int .i64 (k : Int), fun v_ _ => v_ = .bool (decide (((turnS a0).length : Int) ≤ (k : Int))), fun v_ _ => v_ = .bool (decide (((turnS a0).length : Int) ≤ (k : Int))), fun v_ _ => v_ = .slice AR0_9 (turnS a0).length cR0_9, fun v_ _ => v_ = .int .i64 (k : Int), fun v_ _ => v_ = .pointer (some (q26.add (k * 1))), fun v_ _ => v_ = .slice Aq26 ((turnS a0).getD k []).length cq26, fun v_ _ => v_ = .int .i64 (((turnS a0).getD k []).length : Int), fun v_ _ => v_ = .int .i64 (i : Int), fun v_ _ => v_ = .bool (decide ((((turnS a0).getD k []).length : Int) ≤ (i : Int))), fun v_ _ => v_ = .bool (decide ((((turnS a0).getD k []).length : Int) ≤ (i : Int))), fun v_ _ => v_ = .bool (decide ((((turnS a0).getD k []).length : Int) ≤ (i : Int))), fun v_ _ => v_ = .slice AR0_9 (turnS a0).length cR0_9, fun v_ _ => v_ = .int .i64 (k : Int), fun v_ _ => v_ = .pointer (some (q28.add (k * 1))), fun v_ _ => v_ = .slice Aq28 ((turnS a0).getD k []).length cq28, fun v_ _ => v_ = .int .i64 (i : Int), fun v_ _ => v_ = .pointer (some (q29.add (i * 1))), fun v_ _ => v_ = vstr (((turnS a0).getD k []).getD i ([] : St)), fun v_ _ => v_ = .slice Aa0 a0.length ca0, fun v_ _ => v_ = .int .i64 (i : Int), fun v_ _ => v_ = .pointer (some (q30.add (i * 1))), fun v_ _ => v_ = .slice Aq30 (a0.getD i []).length cq30, fun v_ _ => v_ = .int .i64 (k : Int), fun v_ _ => v_ = .pointer (some (q31.add (k * 1))), fun v_ _ => v_ = vstr ((a0.getD i []).getD k ([] : St)), fun v_ _ => v_ = .bool (!decide ((((turnS a0).getD k []).getD i ([] : St)) = ((a0.getD i []).getD k ([] : St)))), fun v_ _ => v_ = .bool (!decide ((((turnS a0).getD k []).getD i ([] : St)) = ((a0.getD i []).getD k ([] : St))))] ⟨fun _ _ _ h _ => h, ⟨fun _ _ _ h _ => h, ⟨fun _ _ _ h _ => h, ⟨fun _ _ _ h _ => h, ⟨fun _ _ _ h _ => h, ⟨fun _ _ _ h _ => h, ⟨fun _ _ _ h _ => h, ⟨fun _ _ _ h _ => h, ⟨fun _ _ _ h _ => h, ⟨fun _ _ _ h _ => h, ⟨fun _ _ _ h _ => h, ⟨fun _ _ _ h _ => h, ⟨fun _ _ _ h _ => h, ⟨fun _ _ _ h _ => h, ⟨fun _ _ _ h _ => h, ⟨fun _ _ _ h _ => h, ⟨fun _ _ _ h _ => h, ⟨fun _ _ _ h _ => h, ⟨fun _ _ _ h _ => h, ⟨fun _ _ _ h _ => h, ⟨fun _ _ _ h _ => h, ⟨fun _ _ _ h _ => h, ⟨fun _ _ _ h _ => h, ⟨fun _ _ _ h _ => h, ⟨fun _ _ _ h _ => h, ⟨fun _ _ _ h _ => h, ⟨fun _ _ _ h _ => h, ⟨fun _ _ _ h _ => h, ⟨fun _ _ _ h _ => h, ⟨fun _ _ _ h _ => h, trivial⟩⟩⟩⟩⟩⟩⟩⟩⟩⟩⟩⟩⟩⟩⟩⟩⟩⟩⟩⟩⟩⟩⟩⟩⟩⟩⟩⟩⟩⟩ ⟨fun w23 hc24 => by have hS := hS.chg0 hc24; exact Sv_val rfl (R_move rfl rfl) ⟨Chg.refl _ _, rfl⟩, ⟨fun w23 hc24 => by have hS := hS.chg0 hc24; rintro _ rfl; exact Sv_val rfl (R_len rfl rfl Try.underlying22) ⟨Chg.refl _ _, rfl⟩, ⟨fun w23 hc24 => by have hS := hS.chg0 hc24; exact Sv_val rfl (R_move rfl rfl) ⟨Chg.refl _ _, rfl⟩, ⟨fun w23 hc24 => by have hS := hS.chg0 hc24; rintro _ rfl _ rfl; exact Sv_val rfl (R_bin rfl rfl rfl rfl rfl) ⟨Chg.refl _ _, rfl⟩, ⟨fun w23 hc24 => by have hS := hS.chg0 hc24; rintro _ rfl; exact Sv_val rfl (R_move rfl rfl) ⟨Chg.refl _ _, rfl⟩, ⟨fun w23 hc24 => by have hS := hS.chg0 hc24; rintro _ rfl; exact  (Sv_gt rfl rfl rfl hk25 (Sv_val rfl (R_move rfl rfl) ⟨Chg.refl _ _, rfl⟩)), ⟨fun w23 hc24 => by have hS := hS.chg0 hc24; rintro _ rfl; exact  (Sv_gt rfl rfl rfl hk25 (Sv_val rfl (R_move rfl rfl) ⟨Chg.refl _ _, rfl⟩)), ⟨fun w23 hc24 => by have hS := hS.chg0 hc24; rintro _ rfl _ rfl _ rfl; exact  (Sv_gt rfl rfl rfl hk25 (Sv_val rfl (R_idx rfl rfl hAq26 rfl Try.underlying22 size31 (by omega) (by omega)) ⟨Chg.refl _ _, rfl⟩)), ⟨fun w23 hc24 => by have hS := hS.chg0 hc24; rintro _ rfl _ rfl; exact  (Sv_gt rfl rfl rfl hk25 (Sv_val rfl (R_load1 rfl rfl agg31 (cell_chg0 (hkq26 0 _ rfl) hc24)) ⟨Chg.refl _ _, rfl⟩)), ⟨fun w23 hc24 => by have hS := hS.chg0 hc24; rintro _ rfl _ rfl; exact  (Sv_gt rfl rfl rfl hk25 (Sv_val rfl (R_len rfl rfl Try.underlying31) ⟨Chg.refl _ _, rfl⟩)), ⟨fun w23 hc24 => by have hS := hS.chg0 hc24; rintro _ rfl; exact  (Sv_gt rfl rfl rfl hk25 (Sv_val rfl (R_move rfl rfl) ⟨Chg.refl _ _, rfl⟩)), ⟨fun w23 hc24 => by have hS := hS.chg0 hc24; rintro _ rfl _ rfl _ rfl; exact  (Sv_gt rfl rfl rfl hk25 (Sv_val rfl (R_bin rfl rfl rfl rfl rfl) ⟨Chg.refl _ _, rfl⟩)), ⟨fun w23 hc24 => by have hS := hS.chg0 hc24; rintro _ rfl _ rfl; exact Sv_val rfl (R_pick_f rfl rfl hk25 rfl) ⟨Chg.refl _ _, rfl⟩, ⟨fun w23 hc24 => by have hS := hS.chg0 hc24; rintro _ rfl _ rfl; exact Sv_val rfl (R_move rfl rfl) ⟨Chg.refl _ _, rfl⟩, ⟨fun w23 hc24 => by have hS := hS.chg0 hc24; rintro _ rfl; exact  (Sv_gt rfl rfl rfl hk27 (Sv_val rfl (R_move rfl rfl) ⟨Chg.refl _ _, rfl⟩)), ⟨fun w23 hc24 => by have hS := hS.chg0 hc24; rintro _ rfl; exact  (Sv_gt rfl rfl rfl hk27 (Sv_val rfl (R_move rfl rfl) ⟨Chg.refl _ _, rfl⟩)), ⟨fun w23 hc24 => by have hS := hS.chg0 hc24; rintro _ rfl _ rfl _ rfl; exact  (Sv_gt rfl rfl rfl hk27 (Sv_val rfl (R_idx rfl rfl hAq28 rfl Try.underlying22 size31 (by omega) (by omega)) ⟨Chg.refl _ _, rfl⟩)), ⟨fun w23 hc24 => by have hS := hS.chg0 hc24; rintro _ rfl _ rfl; exact  (Sv_gt rfl rfl rfl hk27 (Sv_val rfl (R_load1 rfl rfl agg31 (cell_chg0 (hkq28 0 _ rfl) hc24)) ⟨Chg.refl _ _, rfl⟩)), ⟨fun w23 hc24 => by have hS := hS.chg0 hc24; rintro _ rfl; exact  (Sv_gt rfl rfl rfl hk27 (Sv_val rfl (R_move rfl rfl) ⟨Chg.refl _ _, rfl⟩)), ⟨fun w23 hc24 => by have hS := hS.chg0 hc24; rintro _ rfl _ rfl _ rfl; exact  (Sv_gt rfl rfl rfl hk27 (Sv_val rfl (R_idx rfl rfl hAq29 rfl Try.underlying31 size9 (by omega) (by omega)) ⟨Chg.refl _ _, rfl⟩)), ⟨fun w23 hc24 => by have hS := hS.chg0 hc24; rintro _ rfl _ rfl; exact  (Sv_gt rfl rfl rfl hk27 (Sv_val rfl (R_load1 rfl rfl agg9 ((hS.zs 0 rfl).cell (hkq29 0 _ rfl))) ⟨Chg.refl _ _, rfl⟩)), ⟨fun w23 hc24 => by have hS := hS.chg0 hc24; rintro _ rfl; exact  (Sv_gt rfl rfl rfl hk27 (Sv_val rfl (R_move rfl rfl) ⟨Chg.refl _ _, rfl⟩)), ⟨fun w23 hc24 => by have hS := hS.chg0 hc24; rintro _ rfl; exact  (Sv_gt rfl rfl rfl hk27 (Sv_val rfl (R_move rfl rfl) ⟨Chg.refl _ _, rfl⟩)), ⟨fun w23 hc24 => by have hS := hS.chg0 hc24; rintro _ rfl _ rfl _ rfl; exact  (Sv_gt rfl rfl rfl hk27 (Sv_val rfl (R_idx rfl rfl hAq30 rfl Try.underlying22 size31 (by omega) (by omega)) ⟨Chg.refl _ _, rfl⟩)), ⟨fun w23 hc24 => by have hS := hS.chg0 hc24; rintro _ rfl _ rfl; exact  (Sv_gt rfl rfl rfl hk27 (Sv_val rfl (R_load1 rfl rfl agg31 (hS.sub.cell (hkq30 0 _ rfl))) ⟨Chg.refl _ _, rfl⟩)), ⟨fun w23 hc24 => by have hS := hS.chg0 hc24; rintro _ rfl; exact  (Sv_gt rfl rfl rfl hk27 (Sv_val rfl (R_move rfl rfl) ⟨Chg.refl _ _, rfl⟩)), ⟨fun w23 hc24 => by have hS := hS.chg0 hc24; rintro _ rfl _ rfl _ rfl; exact  (Sv_gt rfl rfl rfl hk27 (Sv_val rfl (R_idx rfl rfl hAq31 rfl Try.underlying31 size9 (by omega) (by omega)) ⟨Chg.refl _ _, rfl⟩)), ⟨fun w23 hc24 => by have hS := hS.chg0 hc24; rintro _ rfl _ rfl; exact  (Sv_gt rfl rfl rfl hk27 (Sv_val rfl (R_load1 rfl rfl agg9 (hS.sub.cell (hkq31 0 _ rfl))) ⟨Chg.refl _ _, rfl⟩)), ⟨fun w23 hc24 => by have hS := hS.chg0 hc24; rintro _ rfl _ rfl _ rfl; exact  (Sv_gt rfl rfl rfl hk27 (Sv_val rfl (R_strneq rfl rfl rfl) ⟨Chg.refl _ _, rfl⟩)), ⟨fun w23 hc24 => by have hS := hS.chg0 hc24; rintro _ rfl _ rfl; exact Sv_val rfl (R_pick_f rfl rfl hk27 rfl) ⟨Chg.refl _ _, rfl⟩, trivial⟩⟩⟩⟩⟩⟩⟩⟩⟩⟩⟩⟩⟩⟩⟩⟩⟩⟩⟩⟩⟩⟩⟩⟩⟩⟩⟩⟩⟩⟩ ?_
    intro w23 hc24
    have hS := hS.chg0 hc24
    rintro _ rfl _ rfl _ rfl _ rfl _ rfl _ rfl _ rfl _ rfl _ rfl _ rfl _ rfl _ rfl _ rfl _ rfl _ rfl _ rfl _ rfl _ rfl _ rfl _ rfl _ rfl _ rfl _ rfl _ rfl _ rfl _ rfl _ rfl _ rfl _ rfl _ rfl
    refine An_fr [(0, .slice Aa0 a0.length ca0), (4, .slice AR0_9 (turnS a0).length cR0_9), (5, .int .i64 (i : Int)), (6, .int .i64 (k : Int)), (47, .slice AR0_9 (turnS a0).length cR0_9), (48, .int .i64 (k : Int)), (49, .pointer (some (q26.add (k * 1)))), (50, .slice Aq26 ((turnS a0).getD k []).length cq26), (51, .int .i64 (((turnS a0).getD k []).length : Int)), (52, .int .i64 (i : Int)), (53, .bool (decide ((((turnS a0).getD k []).length : Int) ≤ (i : Int)))), (56, .slice AR0_9 (turnS a0).length cR0_9), (57, .int .i64 (k : Int)), (58, .pointer (some (q28.add (k * 1)))), (59, .slice Aq28 ((turnS a0).getD k []).length cq28), (60, .int .i64 (i : Int)), (61, .pointer (some (q29.add (i * 1)))), (62, vstr (((turnS a0).getD k []).getD i ([] : St))), (63, .slice Aa0 a0.length ca0), (64, .int .i64 (i : Int)), (65, .pointer (some (q30.add (i * 1)))), (66, .slice Aq30 (a0.getD i []).length cq30), (67, .int .i64 (k : Int)), (68, .pointer (some (q31.add (k * 1)))), (69, vstr ((a0.getD i []).getD k ([] : St))), (70, .bool (!decide ((((turnS a0).getD k []).getD i ([] : St)) = ((a0.getD i []).getD k ([] : St))))), (71, .bool (!decide ((((turnS a0).getD k []).getD i ([] : St)) = ((a0.getD i []).getD k ([] : St)))))] rfl ?_
    refine An_done (by decide +kernel) ?_
    refine E_then ?_
    have hk32 : (!decide ((((turnS a0).getD k []).getD i ([] : St)) = ((a0.getD i []).getD k ([] : St)))) = false := by rw [decide_eq_true ht3]; rfl
    have hk32p : (((turnS a0).getD k []).getD i ([] : St)) = ((a0.getD i []).getD k ([] : St)) := by simpa using hk32
    refine C_else rfl hk32 ?_
    refine C_skip ?_
    refine E_block_normal ?_
    refine E_then ?_
    refine C_region ?_
    refine W_cons rfl (by decide) (Sv_val rfl (R_move rfl rfl) ?_)
    refine W_cons rfl (by decide) (Sv_val rfl (R_add64 rfl rfl rfl (by omega) (by omega)) ?_)
    refine W_cons rfl (by decide) (Sv_val rfl (R_assign rfl rfl) ?_)
    refine W_nil ?_
    refine E_round [0, 4, 5, 6] ?_ ⟨(k + 1 : Nat), rfl, (by omega), rfl, hS.fin [0, 1] (by decide) rfl⟩
    omega
   ·have _hC3 := trivial
    have hC3p : ¬ ((k : Int) < ((a0.getD i []).length : Int)) := by simpa using hC3
    refine C_exit ?_
    refine E_then_exit ?_
    refine E_then_exit ?_
    refine E_block_hit ?_
    refine E_block_normal ?_
    refine E_then ?_
    refine C_region ?_
    refine W_cons rfl (by decide) (Sv_val rfl (R_move rfl rfl) ?_)
    refine W_cons rfl (by decide) (Sv_val rfl (R_add64 rfl rfl rfl (by omega) (by omega)) ?_)
    refine W_cons rfl (by decide) (Sv_val rfl (R_assign rfl rfl) ?_)
    refine W_nil ?_
    refine E_round [0, 4, 5] ?_ ⟨(i + 1 : Nat), rfl, (by omega), rfl, hS.fin [0, 1] (by decide) rfl⟩
    omega
  ·have _hC2 := trivial
   have hC2p : ¬ ((i : Int) < (a0.length : Int)) := by simpa using hC2
   refine C_exit ?_
   refine E_then_exit ?_
   refine E_then_exit ?_
   refine E_block_hit ?_
   refine E_then (C_fr [] rfl ?_)
   refine C_seq ?_
   refine C_region ?_
   refine W_cons rfl (by decide) (Sv_call rfl rfl rfl ent13 ?_)
   refine (tawake_calls  _ _ hS.out0  ).mono ?_
   rintro e_ w33 ⟨rfl, hS_⟩
   refine ⟨_, rfl, ?_⟩
   have hS := hS.call0 hS_
   refine W_cons rfl (by decide) (Sv_val rfl (R_assign rfl rfl) ?_)
   refine W_nil ?_
   refine E_then ?_
   refine C_ret ?_
   refine E_ret1 rfl rfl ?_
   exact ⟨Lret1 (Lbool (show true = true by rfl)), hS.fin [] (by decide) rfl⟩

end Go.Proofs.YtgjnhmidbapjmaaG
