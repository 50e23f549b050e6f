/- Walks, each function once: what it computes. -/
import Derived.Test.YtgjnhmidbapjmaaT0
set_option linter.all false
namespace Go.Proofs.YtgjnhmidbapjmaaG
open Go Go.RowKit
set_option maxHeartbeats 400000 in
set_option maxRecDepth 20000 in
theorem width_calls (a0 : List (List St)) (Aa0 : Option Addr) (ca0 : Nat) (z : Z) (w : World) (hI : In z w []) (hra0 : Rd (kslice kstr) z Aa0 a0) (hca0 : Cap Aa0 a0.length ca0)  :
    Calls Try.prog 14 #[.slice Aa0 a0.length ca0] w fun e w' => e = .returned (.int .i64 (widthS a0)) ∧ Sp (FF []) w z w' [] := by
 have hla0 := hca0.le
 have hma0 := hca0.mx
 have hS := hI.sp
 refine Calls_of (vs := [.slice Aa0 a0.length ca0]) (N := 18) Try.func14 rfl rfl (Nat.le_of_ble_eq_true rfl) ?_
 refine C_seq ?_
 refine C_region ?_
 refine W_cons rfl (by decide) (Sv_val rfl (R_assign rfl rfl) ?_)
 refine W_nil ?_
 refine E_then ?_
 refine C_seq ?_
 refine C_region ?_
 refine W_cons rfl (by decide) (Sv_val rfl (R_assign rfl rfl) ?_)
 refine W_nil ?_
 refine E_then ?_
 refine C_seq ?_
 refine C_seq ?_
 refine C_region ?_
 refine W_cons rfl (by decide) (Sv_val rfl (R_move rfl rfl) ?_)
 refine W_cons rfl (by decide) (Sv_val rfl (R_len rfl rfl Try.underlying22) ?_)
 refine W_cons rfl (by decide) (Sv_val rfl (R_move rfl rfl) ?_)
 refine W_nil ?_
 refine E_then ?_
 refine C_block ?_
 have hs2 : 0 = widthS (a0.take (0 : Nat)) := by rfl
 refine C_fr [(3, .int .i64 0), (6, .slice Aa0 a0.length ca0), (7, .int .i64 (a0.length : Int)), (8, .int .i64 0)] rfl ?_
 refine C_loop (fun m_ f_ w_ => ∃ (i : Nat), f_ = [(3, .int .i64 (widthS (a0.take i))), (6, .slice Aa0 a0.length ca0), (7, .int .i64 (a0.length : Int)), (8, .int .i64 (i : Int))] ∧ i ≤ a0.length ∧ m_ = a0.length - i ∧ Sp (FF []) w z w_ []) (a0.length - (0 : Nat)) ⟨(0 : Nat), (by rw [← hs2] <;> rfl), (by omega), rfl, hS.fin [] (by decide) rfl⟩ ?_
 rintro m_ f_ w1 ⟨i, rfl, hI0_0, rfl, hS⟩
 refine C_seq ?_
 refine C_region ?_
 refine W_cons rfl (by decide) (Sv_val rfl (R_bin rfl rfl rfl rfl rfl) ?_)
 refine W_nil ?_
 refine E_then ?_
 refine C_seq ?_
 refine C_ite rfl (fun hC0 => ?_) (fun hC0 => ?_)
 ·have _hC0 := trivial
  have hC0p : (i : Int) < (a0.length : Int) := by simpa using hC0
  refine C_skip ?_
  refine E_then ?_
  refine C_seq ?_
  refine C_block ?_
  refine C_seq ?_
  refine C_region ?_
  obtain ⟨q3, csq3, hAq3, ⟨Aq3, cq3, rfl, hcq3, hrq3⟩, hkq3⟩ := hra0.at_ [] (i := (i : Int)) (by omega) (by omega)
  have hkq3 : ∀ (j_ : Nat) (u_ : Value), ([.slice Aq3 (a0.getD i []).length cq3] : List Value)[j_]? = some u_ → cz z (q3.add (i * 1 + j_)) = some u_ := hkq3
  have hrq3 : Rd kstr z Aq3 ((a0.getD i [])) := hrq3
  have hcq3 : Cap Aq3 ((a0.getD i [])).length cq3 := hcq3
  have hlq3 := hcq3.le
  have hmq3 := hcq3.mx
  refine W_cons rfl (by decide) (Sv_val rfl (R_idx rfl rfl hAq3 rfl Try.underlying22 size31 (by omega) (by omega)) ?_)
  refine W_cons rfl (by decide) (Sv_val rfl (R_load1 rfl rfl agg31 (hS.sub.cell (hkq3 0 _ rfl))) ?_)
  refine W_cons rfl (by decide) (Sv_val rfl (R_assign rfl rfl) ?_)
  refine W_nil ?_
  refine E_then ?_
  refine C_region ?_
  refine W_cons rfl (by decide) (Sv_val rfl (R_move rfl rfl) ?_)
  refine W_cons rfl (by decide) (Sv_val rfl (R_move rfl rfl) ?_)
  refine W_cons rfl (by decide) (Sv_val rfl (R_len rfl rfl Try.underlying31) ?_)
  refine W_cons rfl (by decide) (Sv_val rfl (R_max rfl rfl) ?_)
  refine W_cons rfl (by decide) (Sv_val rfl (R_assign rfl rfl) ?_)
  refine W_nil ?_
  refine E_block_normal ?_
  refine E_then (C_fr [(3, .int .i64 (max (widthS (a0.take i)) ((a0.getD i []).length : Int))), (6, .slice Aa0 a0.length ca0), (7, .int .i64 (a0.length : Int)), (8, .int .i64 (i : Int))] rfl ?_)
  refine C_region ?_
  refine W_cons rfl (by decide) (Sv_val rfl (R_add64 rfl rfl rfl (by omega) (by omega)) ?_)
  refine W_cons rfl (by decide) (Sv_val rfl (R_move rfl rfl) ?_)
  refine W_nil ?_
  have hs4 : max (widthS (a0.take i)) ((a0.getD i []).length : Int) = widthS (a0.take (i + 1 : Nat)) := by exact (widthS_next a0 i (by omega)).symm
  refine E_round [3, 6, 7, 8] ?_ ⟨(i + 1 : Nat), (by rw [← hs4] <;> rfl), (by omega), rfl, hS.fin [] (by decide) rfl⟩
  omega
 ·have _hC0 := trivial
  have hC0p : ¬ ((i : Int) < (a0.length : Int)) := by simpa using hC0
  refine C_exit ?_
  refine E_then_exit ?_
  refine E_then_exit ?_
  refine E_block_hit ?_
  refine E_then ?_
  refine C_seq ?_
  refine C_region ?_
  refine W_cons rfl (by decide) (Sv_val rfl (R_move rfl rfl) ?_)
  refine W_cons rfl (by decide) (Sv_val rfl (R_assign rfl rfl) ?_)
  refine W_nil ?_
  refine E_then (C_fr [(2, .int .i64 (widthS (a0.take i)))] rfl ?_)
  refine C_ret ?_
  refine E_ret1 rfl rfl ?_
  exact ⟨Lret1 (Lint (show widthS (a0.take i) = widthS a0 by rw [← widthS_all a0 i (by omega)])), hS.fin [] (by decide) rfl⟩

set_option maxHeartbeats 400000 in
set_option maxRecDepth 20000 in
theorem rwidth_calls (a0 : List (List St)) (Aa0 : Option Addr) (ca0 : Nat) (z : Z) (w : World) (hI : In z w []) (hra0 : Rd (kslice kstr) z Aa0 a0) (hca0 : Cap Aa0 a0.length ca0)  :
    Calls Try.prog 15 #[.slice Aa0 a0.length ca0] w fun e w' => e = .returned (.int .i64 (widthS a0)) ∧ Sp (FF []) w z w' [] := by
 have hla0 := hca0.le
 have hma0 := hca0.mx
 have hS := hI.sp
 refine Calls_of (vs := [.slice Aa0 a0.length ca0]) (N := 24) Try.func15 rfl rfl (Nat.le_of_ble_eq_true rfl) ?_
 refine C_seq ?_
 refine C_region ?_
 refine W_cons rfl (by decide) (Sv_val rfl (R_assign rfl rfl) ?_)
 refine W_nil ?_
 refine E_then ?_
 refine C_seq ?_
 refine C_region ?_
 refine W_cons rfl (by decide) (Sv_val rfl (R_assign rfl rfl) ?_)
 refine W_nil ?_
 refine E_then ?_
 refine C_seq ?_
 refine C_seq ?_
 refine C_region ?_
 refine W_cons rfl (by decide) (Sv_val rfl (R_assign rfl rfl) ?_)
 refine W_nil ?_
 refine E_then ?_
 refine C_block ?_
 have hs2 : 0 = widthS (a0.take (0 : Nat)) := by rfl
 refine C_fr [(0, .slice Aa0 a0.length ca0), (3, .int .i64 0), (4, .int .i64 0)] rfl ?_
 refine C_loop (fun m_ f_ w_ => ∃ (i : Nat), f_ = [(0, .slice Aa0 a0.length ca0), (3, .int .i64 (widthS (a0.take i))), (4, .int .i64 (i : Int))] ∧ i ≤ a0.length ∧ m_ = a0.length - i ∧ Sp (FF []) w z w_ []) (a0.length - (0 : Nat)) ⟨(0 : Nat), (by rw [← hs2] <;> rfl), (by omega), rfl, hS.fin [] (by decide) rfl⟩ ?_
 rintro m_ f_ w1 ⟨i, rfl, hI0_0, rfl, hS⟩
 refine C_seq ?_
 refine C_seq ?_
 refine C_region ?_
 refine W_cons rfl (by decide) (Sv_val rfl (R_move rfl rfl) ?_)
 refine W_cons rfl (by decide) (Sv_val rfl (R_move rfl rfl) ?_)
 refine W_cons rfl (by decide) (Sv_val rfl (R_len rfl rfl Try.underlying22) ?_)
 refine W_cons rfl (by decide) (Sv_val rfl (R_bin rfl rfl rfl rfl rfl) ?_)
 refine W_nil ?_
 refine E_then ?_
 refine C_ite rfl (fun hC0 => ?_) (fun hC0 => ?_)
 ·have _hC0 := trivial
  have hC0p : (i : Int) < (a0.length : Int) := by simpa using hC0
  refine C_skip ?_
  refine E_then ?_
  refine C_seq ?_
  refine C_block ?_
  refine C_seq ?_
  refine C_region ?_
  refine W_cons rfl (by decide) (Sv_val rfl (R_move rfl rfl) ?_)
  refine W_cons rfl (by decide) (Sv_val rfl (R_move rfl rfl) ?_)
  obtain ⟨q3, csq3, hAq3, ⟨Aq3, cq3, rfl, hcq3, hrq3⟩, hkq3⟩ := hra0.at_ [] (i := (i : Int)) (by omega) (by omega)
  have hkq3 : ∀ (j_ : Nat) (u_ : Value), ([.slice Aq3 (a0.getD i []).length cq3] : List Value)[j_]? = some u_ → cz z (q3.add (i * 1 + j_)) = some u_ := hkq3
  have hrq3 : Rd kstr z Aq3 ((a0.getD i [])) := hrq3
  have hcq3 : Cap Aq3 ((a0.getD i [])).length cq3 := hcq3
  have hlq3 := hcq3.le
  have hmq3 := hcq3.mx
  refine W_cons rfl (by decide) (Sv_val rfl (R_idx rfl rfl hAq3 rfl Try.underlying22 size31 (by omega) (by omega)) ?_)
  refine W_cons rfl (by decide) (Sv_val rfl (R_load1 rfl rfl agg31 (hS.sub.cell (hkq3 0 _ rfl))) ?_)
  refine W_cons rfl (by decide) (Sv_val rfl (R_len rfl rfl Try.underlying31) ?_)
  refine W_cons rfl (by decide) (Sv_val rfl (R_move rfl rfl) ?_)
  refine W_cons rfl (by decide) (Sv_val rfl (R_bin rfl rfl rfl rfl rfl) ?_)
  refine W_nil ?_
  refine E_then (C_fr [(0, .slice Aa0 a0.length ca0), (3, .int .i64 (widthS (a0.take i))), (4, .int .i64 (i : Int)), (17, .bool (decide (((a0.getD i []).length : Int) > (widthS (a0.take i)))))] rfl ?_)
  refine C_ite rfl (fun hC1 => ?_) (fun hC1 => ?_)
  ·have _hC1 := trivial
   have hC1p : ((a0.getD i []).length : Int) > (widthS (a0.take i)) := by simpa using hC1
   refine C_region ?_
   refine W_cons rfl (by decide) (Sv_val rfl (R_move rfl rfl) ?_)
   refine W_cons rfl (by decide) (Sv_val rfl (R_move rfl rfl) ?_)
   obtain ⟨q4, csq4, hAq4, ⟨Aq4, cq4, rfl, hcq4, hrq4⟩, hkq4⟩ := hra0.at_ [] (i := (i : Int)) (by omega) (by omega)
   have hkq4 : ∀ (j_ : Nat) (u_ : Value), ([.slice Aq4 (a0.getD i []).length cq4] : List Value)[j_]? = some u_ → cz z (q4.add (i * 1 + j_)) = some u_ := hkq4
   have hrq4 : Rd kstr z Aq4 ((a0.getD i [])) := hrq4
   have hcq4 : Cap Aq4 ((a0.getD i [])).length cq4 := hcq4
   have hlq4 := hcq4.le
   have hmq4 := hcq4.mx
   refine W_cons rfl (by decide) (Sv_val rfl (R_idx rfl rfl hAq4 rfl Try.underlying22 size31 (by omega) (by omega)) ?_)
   refine W_cons rfl (by decide) (Sv_val rfl (R_load1 rfl rfl agg31 (hS.sub.cell (hkq4 0 _ rfl))) ?_)
   refine W_cons rfl (by decide) (Sv_val rfl (R_len rfl rfl Try.underlying31) ?_)
   refine W_cons rfl (by decide) (Sv_val rfl (R_assign rfl rfl) ?_)
   refine W_nil ?_
   refine E_block_normal ?_
   refine E_then (C_fr [(0, .slice Aa0 a0.length ca0), (3, .int .i64 ((a0.getD i []).length : Int)), (4, .int .i64 (i : Int))] rfl ?_)
   refine C_region ?_
   refine W_cons rfl (by decide) (Sv_val rfl (R_move rfl rfl) ?_)
   refine W_cons rfl (by decide) (Sv_val rfl (R_add64 rfl rfl rfl (by omega) (by omega)) ?_)
   refine W_cons rfl (by decide) (Sv_val rfl (R_assign rfl rfl) ?_)
   refine W_nil ?_
   have hs5 : ((a0.getD i []).length : Int) = widthS (a0.take (i + 1 : Nat)) := by rw [widthS_next a0 i (by omega)]; omega
   refine E_round [0, 3, 4] ?_ ⟨(i + 1 : Nat), (by rw [← hs5] <;> rfl), (by omega), rfl, hS.fin [] (by decide) rfl⟩
   omega
  ·have _hC1 := trivial
   have hC1p : ¬ (((a0.getD i []).length : Int) > (widthS (a0.take i))) := by simpa using hC1
   refine C_skip ?_
   refine E_block_normal ?_
   refine E_then ?_
   refine C_region ?_
   refine W_cons rfl (by decide) (Sv_val rfl (R_move rfl rfl) ?_)
   refine W_cons rfl (by decide) (Sv_val rfl (R_add64 rfl rfl rfl (by omega) (by omega)) ?_)
   refine W_cons rfl (by decide) (Sv_val rfl (R_assign rfl rfl) ?_)
   refine W_nil ?_
   have hs6 : widthS (a0.take i) = widthS (a0.take (i + 1 : Nat)) := by rw [widthS_next a0 i (by omega)]; omega
   refine E_round [0, 3, 4] ?_ ⟨(i + 1 : Nat), (by rw [← hs6] <;> rfl), (by omega), rfl, hS.fin [] (by decide) rfl⟩
   omega
 ·have _hC0 := trivial
  have hC0p : ¬ ((i : Int) < (a0.length : Int)) := by simpa using hC0
  refine C_exit ?_
  refine E_then_exit ?_
  refine E_then_exit ?_
  refine E_block_hit ?_
  refine E_then (C_fr [(3, .int .i64 (widthS (a0.take i)))] rfl ?_)
  refine C_seq ?_
  refine C_region ?_
  refine W_cons rfl (by decide) (Sv_val rfl (R_move rfl rfl) ?_)
  refine W_cons rfl (by decide) (Sv_val rfl (R_assign rfl rfl) ?_)
  refine W_nil ?_
  refine E_then ?_
  refine C_ret ?_
  refine E_ret1 rfl rfl ?_
  exact ⟨Lret1 (Lint (show widthS (a0.take i) = widthS a0 by rw [← widthS_all a0 i (by omega)])), hS.fin [] (by decide) rfl⟩

set_option maxHeartbeats 400000 in
set_option maxRecDepth 20000 in
theorem cfr_idx_calls (a0 : List (List St)) (Aa0 : Option Addr) (ca0 : Nat) (ga1 : Nat) (ka1 : List Value) (Ra1 : Res) (zca1 : Z) (pa1 : List St → Bool) (z : Z) (w : World) (hI : In z w [Ra1]) (hra0 : Rd (kslice kstr) z Aa0 a0) (hca0 : Cap Aa0 a0.length ca0) (hfa1 : FV Try.prog zca1 ga1 ka1 (fun z_ x_ vs_ => ∃ A_ c_, vs_ = [.slice A_ x_.length c_] ∧ Cap A_ x_.length c_ ∧ Rd kstr z_ A_ x_) (fun (_ _ : Unit) => Ra1) (fun _ x_ => True) (fun _ _ => ()) (fun _ x_ => .bool (pa1 x_))) (hza1 : zle zca1 z)  :
    Calls Try.prog 75 #[.slice Aa0 a0.length ca0, .func (.func ga1) #[] ka1.toArray] w fun e w' => e = .returned (.int .i64 (idxF pa1 a0 0)) ∧ Sp (FF [Ra1]) w z w' [Ra1] := by
 have hla0 := hca0.le
 have hma0 := hca0.mx
 have hS := hI.sp
 refine Calls_of (vs := [.slice Aa0 a0.length ca0, .func (.func ga1) #[] ka1.toArray]) (N := 19) Try.func75 rfl rfl (Nat.le_of_ble_eq_true rfl) ?_
 refine C_seq ?_
 refine C_region ?_
 refine W_cons rfl (by decide) (Sv_val rfl (R_assign rfl rfl) ?_)
 refine W_nil ?_
 refine E_then ?_
 refine C_seq ?_
 refine C_seq ?_
 refine C_region ?_
 refine W_cons rfl (by decide) (Sv_val rfl (R_move rfl rfl) ?_)
 refine W_cons rfl (by decide) (Sv_val rfl (R_len rfl rfl Try.underlying22) ?_)
 refine W_cons rfl (by decide) (Sv_val rfl (R_move rfl rfl) ?_)
 refine W_nil ?_
 refine E_then ?_
 refine C_block ?_
 refine C_fr [(0, .slice Aa0 a0.length ca0), (1, .func (.func ga1) #[] ka1.toArray), (7, .int .i64 (a0.length : Int)), (8, .int .i64 0)] rfl ?_
 refine C_loop (fun m_ f_ w_ => ∃ (i : Nat), f_ = [(0, .slice Aa0 a0.length ca0), (1, .func (.func ga1) #[] ka1.toArray), (7, .int .i64 (a0.length : Int)), (8, .int .i64 (i : Int))] ∧ i ≤ a0.length ∧ idxF pa1 (a0.drop i) i = idxF pa1 a0 0 ∧ m_ = a0.length - i ∧ Sp (FF [Ra1]) w z w_ [Ra1]) (a0.length - (0 : Nat)) ⟨(0 : Nat), rfl, (by omega), (by rfl), rfl, hS.fin [0] (by decide) rfl⟩ ?_
 rintro m_ f_ w1 ⟨i, rfl, hI0_0, hI0_1, rfl, hS⟩
 refine C_seq ?_
 refine C_region ?_
 refine W_cons rfl (by decide) (Sv_val rfl (R_bin rfl rfl rfl rfl rfl) ?_)
 refine W_nil ?_
 refine E_then ?_
 refine C_seq ?_
 refine C_ite rfl (fun hC0 => ?_) (fun hC0 => ?_)
 ·have _hC0 := trivial
  have hC0p : (i : Int) < (a0.length : Int) := by simpa using hC0
  refine C_skip ?_
  refine E_then ?_
  refine C_seq ?_
  refine C_block ?_
  refine C_seq ?_
  refine C_region ?_
  refine W_cons rfl (by decide) (Sv_val rfl (R_move rfl rfl) ?_)
  refine W_cons rfl (by decide) (Sv_val rfl (R_assign rfl rfl) ?_)
  refine W_nil ?_
  refine E_then ?_
  refine C_seq ?_
  refine C_region ?_
  refine W_cons rfl (by decide) (Sv_val rfl (R_move rfl rfl) ?_)
  refine W_cons rfl (by decide) (Sv_val rfl (R_move rfl rfl) ?_)
  refine W_cons rfl (by decide) (Sv_val rfl (R_move rfl rfl) ?_)
  obtain ⟨q2, csq2, hAq2, ⟨Aq2, cq2, rfl, hcq2, hrq2⟩, hkq2⟩ := hra0.at_ [] (i := (i : Int)) (by omega) (by omega)
  have hkq2 : ∀ (j_ : Nat) (u_ : Value), ([.slice Aq2 (a0.getD i []).length cq2] : List Value)[j_]? = some u_ → cz z (q2.add (i * 1 + j_)) = some u_ := hkq2
  have hrq2 : Rd kstr z Aq2 ((a0.getD i [])) := hrq2
  have hcq2 : Cap Aq2 ((a0.getD i [])).length cq2 := hcq2
  have hlq2 := hcq2.le
  have hmq2 := hcq2.mx
  refine W_cons rfl (by decide) (Sv_val rfl (R_idx rfl rfl hAq2 rfl Try.underlying22 size31 (by omega) (by omega)) ?_)
  refine W_cons rfl (by decide) (Sv_val rfl (R_load1 rfl rfl agg31 (hS.sub.cell (hkq2 0 _ rfl))) ?_)
  refine W_cons rfl (by decide) (S_cb (s := ()) (y := ()) hfa1 hS 0 rfl hza1 ((a0.getD i [])) (by trivial) rfl rfl rfl rfl ⟨_, _, rfl, hcq2, hrq2.mono (hS.zl [0])⟩ (fun y4 w3 hS => ?_))
  refine W_nil ?_
  refine E_then (C_fr [(0, .slice Aa0 a0.length ca0), (1, .func (.func ga1) #[] ka1.toArray), (5, .int .i64 (i : Int)), (7, .int .i64 (a0.length : Int)), (8, .int .i64 (i : Int)), (16, .bool (pa1 (a0.getD i [])))] rfl ?_)
  refine C_ite rfl (fun hC1 => ?_) (fun hC1 => ?_)
  ·have _hC1 := trivial
   refine C_seq ?_
   refine C_region ?_
   refine W_cons rfl (by decide) (Sv_val rfl (R_move rfl rfl) ?_)
   refine W_cons rfl (by decide) (Sv_val rfl (R_assign rfl rfl) ?_)
   refine W_nil ?_
   refine E_then (C_fr [(4, .int .i64 (i : Int))] rfl ?_)
   refine C_ret ?_
   refine E_block_ret ?_
   refine E_then_ret ?_
   refine E_then_ret ?_
   refine E_block_ret ?_
   refine E_then_ret ?_
   refine E_ret1 rfl rfl ?_
   exact ⟨Lret1 (Lint (show (i : Int) = idxF pa1 a0 0 by first | (rw [← hI0_1]; exact (idxF_hit (d := []) (by omega) (by assumption)).symm) | (rw [← hI0_1]; exact (idxF_end (by omega)).symm))), hS.fin [0] (by decide) rfl⟩
  ·have _hC1 := trivial
   refine C_skip ?_
   refine E_block_normal ?_
   refine E_then ?_
   refine C_region ?_
   refine W_cons rfl (by decide) (Sv_val rfl (R_add64 rfl rfl rfl (by omega) (by omega)) ?_)
   refine W_cons rfl (by decide) (Sv_val rfl (R_move rfl rfl) ?_)
   refine W_nil ?_
   refine E_round [0, 1, 7, 8] ?_ ⟨(i + 1 : Nat), rfl, (by omega), (by rw [← hI0_1, idxF_next (n := i) (d := []) (by omega) (by assumption)] <;> rfl), rfl, hS.fin [0] (by decide) rfl⟩
   omega
 ·have _hC0 := trivial
  have hC0p : ¬ ((i : Int) < (a0.length : Int)) := by simpa using hC0
  refine C_exit ?_
  refine E_then_exit ?_
  refine E_then_exit ?_
  refine E_block_hit ?_
  refine E_then (C_fr [] rfl ?_)
  refine C_seq ?_
  refine C_region ?_
  refine W_cons rfl (by decide) (Sv_val rfl (R_assign rfl rfl) ?_)
  refine W_nil ?_
  refine E_then ?_
  refine C_ret ?_
  refine E_ret1 rfl rfl ?_
  exact ⟨Lret1 (Lint (show (-1) = idxF pa1 a0 0 by first | (rw [← hI0_1]; exact (idxF_hit (d := []) (by omega) (by assumption)).symm) | (rw [← hI0_1]; exact (idxF_end (by omega)).symm))), hS.fin [0] (by decide) rfl⟩

set_option maxHeartbeats 400000 in
set_option maxRecDepth 20000 in
theorem cfr_has_calls (a0 : List (List St)) (Aa0 : Option Addr) (ca0 : Nat) (ga1 : Nat) (ka1 : List Value) (Ra1 : Res) (zca1 : Z) (pa1 : List St → Bool) (z : Z) (w : World) (hI : In z w [Ra1]) (hra0 : Rd (kslice kstr) z Aa0 a0) (hca0 : Cap Aa0 a0.length ca0) (hfa1 : FV Try.prog zca1 ga1 ka1 (fun z_ x_ vs_ => ∃ A_ c_, vs_ = [.slice A_ x_.length c_] ∧ Cap A_ x_.length c_ ∧ Rd kstr z_ A_ x_) (fun (_ _ : Unit) => Ra1) (fun _ x_ => True) (fun _ _ => ()) (fun _ x_ => .bool (pa1 x_))) (hza1 : zle zca1 z)  :
    Calls Try.prog 42 #[.slice Aa0 a0.length ca0, .func (.func ga1) #[] ka1.toArray] w fun e w' => e = .returned (.bool (hasF pa1 a0)) ∧ Sp (FF [Ra1]) w z w' [Ra1] := by
 have hla0 := hca0.le
 have hma0 := hca0.mx
 have hS := hI.sp
 refine Calls_of (vs := [.slice Aa0 a0.length ca0, .func (.func ga1) #[] ka1.toArray]) (N := 9) Try.func42 rfl rfl (Nat.le_of_ble_eq_true rfl) ?_
 refine C_seq ?_
 refine C_region ?_
 refine W_cons rfl (by decide) (Sv_val rfl (R_assign rfl rfl) ?_)
 refine W_nil ?_
 refine E_then ?_
 refine C_seq ?_
 refine C_region ?_
 refine W_cons rfl (by decide) (Sv_val rfl (R_move rfl rfl) ?_)
 refine W_cons rfl (by decide) (Sv_val rfl (R_move rfl rfl) ?_)
 refine W_cons rfl (by decide) (Sv_call rfl rfl rfl ent75 ?_)
 refine (cfr_idx_calls a0 Aa0 ca0 ga1 ka1 Ra1 zca1 pa1 _ _ (hS.out [0] (by decide)) (hra0.mono (hS.zl [0])) hca0 hfa1 (hza1.trans (hS.zl [0])) ).mono ?_
 rintro e_ w1 ⟨rfl, hS_⟩
 refine ⟨_, rfl, ?_⟩
 have hS := hS.call [0] (by decide) hS_
 refine W_cons rfl (by decide) (Sv_val rfl (R_bin rfl rfl rfl rfl rfl) ?_)
 refine W_cons rfl (by decide) (Sv_val rfl (R_assign rfl rfl) ?_)
 refine W_nil ?_
 refine E_then (C_fr [(4, .bool (decide ((idxF pa1 a0 0) ≥ 0)))] rfl ?_)
 refine C_ret ?_
 refine E_ret1 rfl rfl ?_
 exact ⟨Lret1 (Lbool (show decide ((idxF pa1 a0 0) ≥ 0) = hasF pa1 a0 by rfl)), hS.fin [0] (by decide) rfl⟩

set_option maxHeartbeats 400000 in
set_option maxRecDepth 20000 in
theorem cfs_idx_calls (a0 : List St) (Aa0 : Option Addr) (ca0 : Nat) (ga1 : Nat) (ka1 : List Value) (Ra1 : Res) (zca1 : Z) (pa1 : St → Bool) (z : Z) (w : World) (hI : In z w [Ra1]) (hra0 : Rd kstr z Aa0 a0) (hca0 : Cap Aa0 a0.length ca0) (hfa1 : FV Try.prog zca1 ga1 ka1 (fun z_ x_ vs_ => vs_ = [vstr x_]) (fun (_ _ : Unit) => Ra1) (fun _ x_ => True) (fun _ _ => ()) (fun _ x_ => .bool (pa1 x_))) (hza1 : zle zca1 z)  :
    Calls Try.prog 76 #[.slice Aa0 a0.length ca0, .func (.func ga1) #[] ka1.toArray] w fun e w' => e = .returned (.int .i64 (idxF pa1 a0 0)) ∧ Sp (FF [Ra1]) w z w' [Ra1] := by
 have hla0 := hca0.le
 have hma0 := hca0.mx
 have hS := hI.sp
 refine Calls_of (vs := [.slice Aa0 a0.length ca0, .func (.func ga1) #[] ka1.toArray]) (N := 19) Try.func76 rfl rfl (Nat.le_of_ble_eq_true rfl) ?_
 refine C_seq ?_
 refine C_region ?_
 refine W_cons rfl (by decide) (Sv_val rfl (R_assign rfl rfl) ?_)
 refine W_nil ?_
 refine E_then ?_
 refine C_seq ?_
 refine C_seq ?_
 refine C_region ?_
 refine W_cons rfl (by decide) (Sv_val rfl (R_move rfl rfl) ?_)
 refine W_cons rfl (by decide) (Sv_val rfl (R_len rfl rfl Try.underlying31) ?_)
 refine W_cons rfl (by decide) (Sv_val rfl (R_move rfl rfl) ?_)
 refine W_nil ?_
 refine E_then ?_
 refine C_block ?_
 refine C_fr [(0, .slice Aa0 a0.length ca0), (1, .func (.func ga1) #[] ka1.toArray), (7, .int .i64 (a0.length : Int)), (8, .int .i64 0)] rfl ?_
 refine C_loop (fun m_ f_ w_ => ∃ (i : Nat), f_ = [(0, .slice Aa0 a0.length ca0), (1, .func (.func ga1) #[] ka1.toArray), (7, .int .i64 (a0.length : Int)), (8, .int .i64 (i : Int))] ∧ i ≤ a0.length ∧ idxF pa1 (a0.drop i) i = idxF pa1 a0 0 ∧ m_ = a0.length - i ∧ Sp (FF [Ra1]) w z w_ [Ra1]) (a0.length - (0 : Nat)) ⟨(0 : Nat), rfl, (by omega), (by rfl), rfl, hS.fin [0] (by decide) rfl⟩ ?_
 rintro m_ f_ w1 ⟨i, rfl, hI0_0, hI0_1, rfl, hS⟩
 refine C_seq ?_
 refine C_region ?_
 refine W_cons rfl (by decide) (Sv_val rfl (R_bin rfl rfl rfl rfl rfl) ?_)
 refine W_nil ?_
 refine E_then ?_
 refine C_seq ?_
 refine C_ite rfl (fun hC0 => ?_) (fun hC0 => ?_)
 ·have _hC0 := trivial
  have hC0p : (i : Int) < (a0.length : Int) := by simpa using hC0
  refine C_skip ?_
  refine E_then ?_
  refine C_seq ?_
  refine C_block ?_
  refine C_seq ?_
  refine C_region ?_
  refine W_cons rfl (by decide) (Sv_val rfl (R_move rfl rfl) ?_)
  refine W_cons rfl (by decide) (Sv_val rfl (R_assign rfl rfl) ?_)
  refine W_nil ?_
  refine E_then ?_
  refine C_seq ?_
  refine C_region ?_
  refine W_cons rfl (by decide) (Sv_val rfl (R_move rfl rfl) ?_)
  refine W_cons rfl (by decide) (Sv_val rfl (R_move rfl rfl) ?_)
  refine W_cons rfl (by decide) (Sv_val rfl (R_move rfl rfl) ?_)
  obtain ⟨q2, csq2, hAq2, rfl, hkq2⟩ := hra0.at_ ([] : St) (i := (i : Int)) (by omega) (by omega)
  have hkq2 : ∀ (j_ : Nat) (u_ : Value), ([vstr (a0.getD i ([] : St))] : List Value)[j_]? = some u_ → cz z (q2.add (i * 1 + j_)) = some u_ := hkq2
  refine W_cons rfl (by decide) (Sv_val rfl (R_idx rfl rfl hAq2 rfl Try.underlying31 size9 (by omega) (by omega)) ?_)
  refine W_cons rfl (by decide) (Sv_val rfl (R_load1 rfl rfl agg9 (hS.sub.cell (hkq2 0 _ rfl))) ?_)
  refine W_cons rfl (by decide) (S_cb (s := ()) (y := ()) hfa1 hS 0 rfl hza1 ((a0.getD i ([] : St))) (by trivial) rfl rfl rfl rfl rfl (fun y4 w3 hS => ?_))
  refine W_nil ?_
  refine E_then (C_fr [(0, .slice Aa0 a0.length ca0), (1, .func (.func ga1) #[] ka1.toArray), (5, .int .i64 (i : Int)), (7, .int .i64 (a0.length : Int)), (8, .int .i64 (i : Int)), (16, .bool (pa1 (a0.getD i ([] : St))))] rfl ?_)
  refine C_ite rfl (fun hC1 => ?_) (fun hC1 => ?_)
  ·have _hC1 := trivial
   refine C_seq ?_
   refine C_region ?_
   refine W_cons rfl (by decide) (Sv_val rfl (R_move rfl rfl) ?_)
   refine W_cons rfl (by decide) (Sv_val rfl (R_assign rfl rfl) ?_)
   refine W_nil ?_
   refine E_then (C_fr [(4, .int .i64 (i : Int))] rfl ?_)
   refine C_ret ?_
   refine E_block_ret ?_
   refine E_then_ret ?_
   refine E_then_ret ?_
   refine E_block_ret ?_
   refine E_then_ret ?_
   refine E_ret1 rfl rfl ?_
   exact ⟨Lret1 (Lint (show (i : Int) = idxF pa1 a0 0 by first | (rw [← hI0_1]; exact (idxF_hit (d := ([] : St)) (by omega) (by assumption)).symm) | (rw [← hI0_1]; exact (idxF_end (by omega)).symm))), hS.fin [0] (by decide) rfl⟩
  ·have _hC1 := trivial
   refine C_skip ?_
   refine E_block_normal ?_
   refine E_then ?_
   refine C_region ?_
   refine W_cons rfl (by decide) (Sv_val rfl (R_add64 rfl rfl rfl (by omega) (by omega)) ?_)
   refine W_cons rfl (by decide) (Sv_val rfl (R_move rfl rfl) ?_)
   refine W_nil ?_
   refine E_round [0, 1, 7, 8] ?_ ⟨(i + 1 : Nat), rfl, (by omega), (by rw [← hI0_1, idxF_next (n := i) (d := ([] : St)) (by omega) (by assumption)] <;> rfl), rfl, hS.fin [0] (by decide) rfl⟩
   omega
 ·have _hC0 := trivial
  have hC0p : ¬ ((i : Int) < (a0.length : Int)) := by simpa using hC0
  refine C_exit ?_
  refine E_then_exit ?_
  refine E_then_exit ?_
  refine E_block_hit ?_
  refine E_then (C_fr [] rfl ?_)
  refine C_seq ?_
  refine C_region ?_
  refine W_cons rfl (by decide) (Sv_val rfl (R_assign rfl rfl) ?_)
  refine W_nil ?_
  refine E_then ?_
  refine C_ret ?_
  refine E_ret1 rfl rfl ?_
  exact ⟨Lret1 (Lint (show (-1) = idxF pa1 a0 0 by first | (rw [← hI0_1]; exact (idxF_hit (d := ([] : St)) (by omega) (by assumption)).symm) | (rw [← hI0_1]; exact (idxF_end (by omega)).symm))), hS.fin [0] (by decide) rfl⟩

set_option maxHeartbeats 400000 in
set_option maxRecDepth 20000 in
theorem cfs_has_calls (a0 : List St) (Aa0 : Option Addr) (ca0 : Nat) (ga1 : Nat) (ka1 : List Value) (Ra1 : Res) (zca1 : Z) (pa1 : St → Bool) (z : Z) (w : World) (hI : In z w [Ra1]) (hra0 : Rd kstr z Aa0 a0) (hca0 : Cap Aa0 a0.length ca0) (hfa1 : FV Try.prog zca1 ga1 ka1 (fun z_ x_ vs_ => vs_ = [vstr x_]) (fun (_ _ : Unit) => Ra1) (fun _ x_ => True) (fun _ _ => ()) (fun _ x_ => .bool (pa1 x_))) (hza1 : zle zca1 z)  :
    Calls Try.prog 44 #[.slice Aa0 a0.length ca0, .func (.func ga1) #[] ka1.toArray] w fun e w' => e = .returned (.bool (hasF pa1 a0)) ∧ Sp (FF [Ra1]) w z w' [Ra1] := by
 have hla0 := hca0.le
 have hma0 := hca0.mx
 have hS := hI.sp
 refine Calls_of (vs := [.slice Aa0 a0.length ca0, .func (.func ga1) #[] ka1.toArray]) (N := 9) Try.func44 rfl rfl (Nat.le_of_ble_eq_true rfl) ?_
 refine C_seq ?_
 refine C_region ?_
 refine W_cons rfl (by decide) (Sv_val rfl (R_assign rfl rfl) ?_)
 refine W_nil ?_
 refine E_then ?_
 refine C_seq ?_
 refine C_region ?_
 refine W_cons rfl (by decide) (Sv_val rfl (R_move rfl rfl) ?_)
 refine W_cons rfl (by decide) (Sv_val rfl (R_move rfl rfl) ?_)
 refine W_cons rfl (by decide) (Sv_call rfl rfl rfl ent76 ?_)
 refine (cfs_idx_calls a0 Aa0 ca0 ga1 ka1 Ra1 zca1 pa1 _ _ (hS.out [0] (by decide)) (hra0.mono (hS.zl [0])) hca0 hfa1 (hza1.trans (hS.zl [0])) ).mono ?_
 rintro e_ w1 ⟨rfl, hS_⟩
 refine ⟨_, rfl, ?_⟩
 have hS := hS.call [0] (by decide) hS_
 refine W_cons rfl (by decide) (Sv_val rfl (R_bin rfl rfl rfl rfl rfl) ?_)
 refine W_cons rfl (by decide) (Sv_val rfl (R_assign rfl rfl) ?_)
 refine W_nil ?_
 refine E_then (C_fr [(4, .bool (decide ((idxF pa1 a0 0) ≥ 0)))] rfl ?_)
 refine C_ret ?_
 refine E_ret1 rfl rfl ?_
 exact ⟨Lret1 (Lbool (show decide ((idxF pa1 a0 0) ≥ 0) = hasF pa1 a0 by rfl)), hS.fin [0] (by decide) rfl⟩

set_option maxHeartbeats 400000 in
set_option maxRecDepth 20000 in
theorem tcheck1_calls (a0 : List St) (Aa0 : Option Addr) (ca0 : Nat) (ba1 : Nat) (a1 : Int) (z : Z) (w : World) (hI : In z w [bR ba1 3 [.int .i64 a1]]) (hra0 : Rd kstr z Aa0 a0) (hca0 : Cap Aa0 a0.length ca0)  :
    Calls Try.prog 43 #[.slice Aa0 a0.length ca0, .pointer (some ⟨ba1, 0, none⟩)] w fun e w' => e = .returned (.bool ((a0.length : Int) != a1)) ∧ Sp (FF [bR ba1 3 [.int .i64 a1]]) w z w' [bR ba1 3 [.int .i64 a1]] := by
 have hla0 := hca0.le
 have hma0 := hca0.mx
 have hS := hI.sp
 refine Calls_of (vs := [.slice Aa0 a0.length ca0, .pointer (some ⟨ba1, 0, none⟩)]) (N := 8) Try.func43 rfl rfl (Nat.le_of_ble_eq_true rfl) ?_
 refine C_seq ?_
 refine C_region ?_
 refine W_cons rfl (by decide) (Sv_val rfl (R_assign rfl rfl) ?_)
 refine W_nil ?_
 refine E_then ?_
 refine C_seq ?_
 refine C_region ?_
 refine W_cons rfl (by decide) (Sv_val rfl (R_move rfl rfl) ?_)
 refine W_cons rfl (by decide) (Sv_val rfl (R_len rfl rfl Try.underlying31) ?_)
 refine W_cons rfl (by decide) (Sv_val rfl (R_load1 rfl rfl agg3 ((hS.bx 0 rfl).cell rfl)) ?_)
 refine W_cons rfl (by decide) (Sv_val rfl (R_bin rfl rfl rfl rfl rfl) ?_)
 refine W_cons rfl (by decide) (Sv_val rfl (R_assign rfl rfl) ?_)
 refine W_nil ?_
 refine E_then (C_fr [(3, .bool ((a0.length : Int) != a1))] rfl ?_)
 refine C_ret ?_
 refine E_ret1 rfl rfl ?_
 exact ⟨Lret1 (Lbool (show ((a0.length : Int) != a1) = ((a0.length : Int) != a1) by rfl)), hS.fin [0] (by decide) rfl⟩

theorem tcheck1_fv (ba1 : Nat) (a1 : Int) (zc : Z) : FV Try.prog zc 43 [.pointer (some ⟨ba1, 0, none⟩)] (fun z_ x_ vs_ => ∃ A_ c_, vs_ = [.slice A_ x_.length c_] ∧ Cap A_ x_.length c_ ∧ Rd kstr z_ A_ x_) (fun (_ _ : Unit) => allR [bR ba1 3 [.int .i64 a1]]) (fun _ x_ => True) (fun _ _ => ()) (fun _ x_ => .bool ((fun x_ => ((x_.length : Int) != a1)) x_)) := ⟨ent43, by
  rintro _ _ x vs w z hz hI hok ⟨A, c, rfl, hc, hr⟩
  refine (tcheck1_calls x A c ba1 a1 z w hI.unb hr hc  ).mono ?_
  rintro e w' ⟨rfl, hS⟩
  exact ⟨rfl, (), hS.bun1⟩⟩

set_option maxHeartbeats 400000 in
set_option maxRecDepth 20000 in
theorem tcheck2_calls (a0 : St) (z : Z) (w : World) (hI : In z w [])   :
    Calls Try.prog 46 #[vstr a0] w fun e w' => e = .returned (.bool (decide ((a0.length : Int) > 1024))) ∧ Sp (FF []) w z w' [] := by
 have hS := hI.sp
 refine Calls_of (vs := [vstr a0]) (N := 6) Try.func46 rfl rfl (Nat.le_of_ble_eq_true rfl) ?_
 refine C_seq ?_
 refine C_region ?_
 refine W_cons rfl (by decide) (Sv_val rfl (R_assign rfl rfl) ?_)
 refine W_nil ?_
 refine E_then ?_
 refine C_seq ?_
 refine C_region ?_
 refine W_cons rfl (by decide) (Sv_val rfl (R_move rfl rfl) ?_)
 refine W_cons rfl (by decide) (Sv_val rfl (R_strlen rfl rfl Try.underlying9) ?_)
 refine W_cons rfl (by decide) (Sv_val rfl (R_bin rfl rfl rfl rfl rfl) ?_)
 refine W_cons rfl (by decide) (Sv_val rfl (R_assign rfl rfl) ?_)
 refine W_nil ?_
 refine E_then ?_
 refine C_ret ?_
 refine E_ret1 rfl rfl ?_
 exact ⟨Lret1 (Lbool (show decide ((a0.length : Int) > 1024) = decide ((a0.length : Int) > 1024) by rfl)), hS.fin [] (by decide) rfl⟩

theorem tcheck2_fv  (zc : Z) : FV Try.prog zc 46 [] (fun z_ x_ vs_ => vs_ = [vstr x_]) (fun (_ _ : Unit) => allR []) (fun _ x_ => True) (fun _ _ => ()) (fun _ x_ => .bool ((fun x_ => decide ((x_.length : Int) > 1024)) x_)) := ⟨ent46, by
  rintro _ _ x vs w z hz hI hok rfl
  refine (tcheck2_calls x  z w hI.unb   ).mono ?_
  rintro e w' ⟨rfl, hS⟩
  exact ⟨rfl, (), hS.bun1⟩⟩

set_option maxHeartbeats 1000000 in
set_option maxRecDepth 20000 in
theorem laid_calls (va0 : Value) (ma0 na0 : Int) (fa0 : Int → Int → St) (zca0 : Z) (Ka0 : Nat) (z : Z) (w : World) (hI : In z w []) (Ha0 : ISh Try.prog Ka0 zca0 va0 ma0 na0 fa0) (hza0 : zle zca0 z) (hKa0 : Ka0 ≤ 10) (p0 : 0 ≤ ma0 ∧ ma0 ≤ 100000) (p1 : 0 ≤ na0 ∧ na0 ≤ 100000) :
    Calls Try.prog 47 #[va0] w fun e w' => ∃ (AR0 : Option Addr) (cR0 : Nat) (qR0 : Z), e = .returned (.slice AR0 (laidS ma0 na0 fa0).length cR0) ∧ Sp (FF []) w z w' [zR qR0, oR (kslice kstr) 31 qR0 AR0 cR0 (laidS ma0 na0 fa0)] := by
 have hS := hI.sp
 refine Calls_of (vs := [va0]) (N := 36) Try.func47 rfl rfl (Nat.le_of_ble_eq_true rfl) ?_
 refine C_seq ?_
 refine C_region ?_
 refine W_cons rfl (by decide) (Sv_val rfl (R_assign rfl rfl) ?_)
 refine W_nil ?_
 refine E_then ?_
 refine C_seq ?_
 refine C_region ?_
 refine W_cons rfl (by decide) (Sv_val rfl (R_move rfl rfl) ?_)
 refine W_cons rfl (by decide) (S_ivsize Ha0 hS hza0 hKa0 bigP rfl rfl rfl (fun w1 hS => ?_))
 refine W_cons rfl (by decide) (Sv_val rfl (R_move rfl rfl) ?_)
 refine W_cons rfl (by decide) (Sv_val rfl (R_extract rfl rfl rfl) ?_)
 refine W_cons rfl (by decide) (Sv_val rfl (R_extract rfl rfl rfl) ?_)
 refine W_cons rfl (by decide) (Sv_val rfl (R_assign rfl rfl) ?_)
 refine W_cons rfl (by decide) (Sv_val rfl (R_assign rfl rfl) ?_)
 refine W_nil ?_
 refine E_then (C_fr [(0, va0), (3, .int .i64 ma0), (4, .int .i64 na0)] rfl ?_)
 refine C_seq ?_
 refine C_region ?_
 refine W_cons rfl (by decide) (Sv_val rfl (R_assign rfl rfl) ?_)
 refine W_nil ?_
 refine E_then ?_
 refine C_seq ?_
 refine C_seq ?_
 refine C_region ?_
 refine W_cons rfl (by decide) (Sv_val rfl (R_move rfl rfl) ?_)
 refine W_cons rfl (by decide) (Sv_val rfl (R_move rfl rfl) ?_)
 refine W_nil ?_
 refine E_then ?_
 refine C_block ?_
 obtain ⟨z5, hS⟩ := hS.famx
 have hS := hS.nilrow (kslice kstr) 31 z5
 have hs7 : ([] : List (List St)) = ((List.range (0 : Nat)).map (fun (r : Nat) => (List.range na0.toNat).map fun (c : Nat) => fa0 (r : Int) (c : Int)) : Rows) := by rfl
 have hS := hS.re 0 rfl hs7
 refine C_fr [(0, va0), (4, .int .i64 na0), (5, .slice none 0 0), (14, .int .i64 ma0), (15, .int .i64 0)] rfl ?_
 refine C_loop (fun m_ f_ w_ => ∃ (i : Nat) (Ar2 : Option Addr) (cr2 : Nat) (z3 : Z), f_ = [(0, va0), (4, .int .i64 na0), (5, .slice Ar2 ((List.range i).map (fun (r : Nat) => (List.range na0.toNat).map fun (c : Nat) => fa0 (r : Int) (c : Int)) : Rows).length cr2), (14, .int .i64 ma0), (15, .int .i64 (i : Int))] ∧ (i : Int) ≤ ma0 ∧ m_ = ma0.toNat - i ∧ Sp (FF []) w z w_ [zR z3, oR (kslice kstr) 31 z3 Ar2 cr2 ((List.range i).map (fun (r : Nat) => (List.range na0.toNat).map fun (c : Nat) => fa0 (r : Int) (c : Int)) : Rows)]) (ma0.toNat - (0 : Nat)) ⟨(0 : Nat), none, 0, z5, (by rw [← hs7] <;> rfl), (by omega), rfl, hS.fin [1, 0] (by decide) rfl⟩ ?_
 rintro m_ f_ w4 ⟨i, Ar2, cr2, z3, rfl, hI0_0, rfl, hS⟩
 have hp8 := hS.cap 1 rfl
 have hlhp8 := hp8.le
 have hmhp8 := hp8.mx
 refine C_seq ?_
 refine C_region ?_
 refine W_cons rfl (by decide) (Sv_val rfl (R_bin rfl rfl rfl rfl rfl) ?_)
 refine W_nil ?_
 refine E_then ?_
 refine C_seq ?_
 refine C_ite rfl (fun hC0 => ?_) (fun hC0 => ?_)
 ·have _hC0 := trivial
  have hC0p : (i : Int) < ma0 := by simpa using hC0
  refine C_skip ?_
  refine E_then ?_
  refine C_seq ?_
  refine C_block ?_
  refine C_seq ?_
  refine C_region ?_
  refine W_cons rfl (by decide) (Sv_val rfl (R_move rfl rfl) ?_)
  refine W_cons rfl (by decide) (Sv_val rfl (R_assign rfl rfl) ?_)
  refine W_nil ?_
  refine E_then ?_
  refine C_seq ?_
  refine C_region ?_
  refine W_cons rfl (by decide) (Sv_val rfl (R_assign rfl rfl) ?_)
  refine W_nil ?_
  refine E_then ?_
  refine C_seq ?_
  refine C_seq ?_
  refine C_region ?_
  refine W_cons rfl (by decide) (Sv_val rfl (R_move rfl rfl) ?_)
  refine W_cons rfl (by decide) (Sv_val rfl (R_move rfl rfl) ?_)
  refine W_nil ?_
  refine E_then ?_
  refine C_block ?_
  have hS := hS.nilrow kstr 9 zE
  have hs12 : ([] : List St) = ((List.range (0 : Nat)).map (fun (c : Nat) => fa0 (i : Int) (c : Int)) : List St) := by rfl
  have hS := hS.re 0 rfl hs12
  refine C_fr [(0, va0), (4, .int .i64 na0), (5, .slice Ar2 ((List.range i).map (fun (r : Nat) => (List.range na0.toNat).map fun (c : Nat) => fa0 (r : Int) (c : Int)) : Rows).length cr2), (6, .int .i64 (i : Int)), (7, .slice none 0 0), (14, .int .i64 ma0), (15, .int .i64 (i : Int)), (18, .int .i64 na0), (19, .int .i64 0)] rfl ?_
  refine C_loop (fun m_ f_ w_ => ∃ (j : Nat) (Ar9 : Option Addr) (cr9 : Nat), f_ = [(0, va0), (4, .int .i64 na0), (5, .slice Ar2 ((List.range i).map (fun (r : Nat) => (List.range na0.toNat).map fun (c : Nat) => fa0 (r : Int) (c : Int)) : Rows).length cr2), (6, .int .i64 (i : Int)), (7, .slice Ar9 ((List.range j).map (fun (c : Nat) => fa0 (i : Int) (c : Int)) : List St).length cr9), (14, .int .i64 ma0), (15, .int .i64 (i : Int)), (18, .int .i64 na0), (19, .int .i64 (j : Int))] ∧ (j : Int) ≤ na0 ∧ m_ = na0.toNat - j ∧ Sp (FF []) w z w_ [zR z3, oR (kslice kstr) 31 z3 Ar2 cr2 ((List.range i).map (fun (r : Nat) => (List.range na0.toNat).map fun (c : Nat) => fa0 (r : Int) (c : Int)) : Rows), oR kstr 9 zE Ar9 cr9 ((List.range j).map (fun (c : Nat) => fa0 (i : Int) (c : Int)) : List St)]) (na0.toNat - (0 : Nat)) ⟨(0 : Nat), none, 0, (by rw [← hs12] <;> rfl), (by omega), rfl, hS.fin [1, 2, 0] (by decide) rfl⟩ ?_
  rintro m_ f_ w10 ⟨j, Ar9, cr9, rfl, hI1_0, rfl, hS⟩
  have hp13 := hS.cap 2 rfl
  have hlhp13 := hp13.le
  have hmhp13 := hp13.mx
  refine C_seq ?_
  refine C_region ?_
  refine W_cons rfl (by decide) (Sv_val rfl (R_bin rfl rfl rfl rfl rfl) ?_)
  refine W_nil ?_
  refine E_then ?_
  refine C_seq ?_
  refine C_ite rfl (fun hC1 => ?_) (fun hC1 => ?_)
  ·have _hC1 := trivial
   have hC1p : (j : Int) < na0 := by simpa using hC1
   refine C_skip ?_
   refine E_then ?_
   refine C_seq ?_
   refine C_block ?_
   refine C_seq ?_
   refine C_region ?_
   refine W_cons rfl (by decide) (Sv_val rfl (R_move rfl rfl) ?_)
   refine W_cons rfl (by decide) (Sv_val rfl (R_assign rfl rfl) ?_)
   refine W_nil ?_
   refine E_then ?_
   refine C_region ?_
   refine W_cons rfl (by decide) (Sv_val rfl (R_move rfl rfl) ?_)
   refine W_cons rfl (by decide) (Sv_val rfl (R_move rfl rfl) ?_)
   refine W_cons rfl (by decide) (Sv_val rfl (R_move rfl rfl) ?_)
   refine W_cons rfl (by decide) (Sv_val rfl (R_move rfl rfl) ?_)
   refine W_cons rfl (by decide) (S_ivfield Ha0 hS hza0 hKa0 bigP rfl rfl rfl rfl rfl (by omega) (by omega) (fun w14 hS => ?_))
   refine W_cons rfl (by decide) (S_row (d := kstr) (q := zE) hS ([fa0 (i : Int) (j : Int)] : List St) rfl (R_buildSlice (ps := [(0, (.tmp 26))]) (vs := [vstr (fa0 (i : Int) (j : Int))]) (w' := w14.alloc (.cells [vstr (fa0 (i : Int) (j : Int))].toArray 9)) (r := .slice (some ⟨w14.heap.size, 0, none⟩) 1 1) rfl rfl rfl (by kernel_rfl)) (by simp [Reps, flat, kstr]) rfl (by decide) (fun g16 w15 hS => ?_))
   refine W_cons rfl (by decide) (S_append hS 3 rfl rfl rfl elem31 rfl rfl (hS.sow 0 rfl (fun _ _ h => h)) (by (try simp only [List.length_map, List.length_range, List.length_cons, List.length_nil, maxLen]); omega) (by (try simp only [List.length_map, List.length_range, List.length_cons, List.length_nil, maxLen]); omega) (fun Ar18 cr18 w17 hS => ?_))
   have hp19 := hS.cap 3 rfl
   have hlhp19 := hp19.le
   have hmhp19 := hp19.mx
   refine W_cons rfl (by decide) (Sv_val rfl (R_assign rfl rfl) ?_)
   refine W_nil ?_
   refine E_block_normal ?_
   refine E_then (C_fr [(0, va0), (4, .int .i64 na0), (5, .slice Ar2 ((List.range i).map (fun (r : Nat) => (List.range na0.toNat).map fun (c : Nat) => fa0 (r : Int) (c : Int)) : Rows).length cr2), (6, .int .i64 (i : Int)), (7, .slice Ar18 (((List.range j).map (fun (c : Nat) => fa0 (i : Int) (c : Int)) : List St) ++ ([fa0 (i : Int) (j : Int)] : List St)).length cr18), (14, .int .i64 ma0), (15, .int .i64 (i : Int)), (18, .int .i64 na0), (19, .int .i64 (j : Int))] rfl ?_)
   refine C_region ?_
   refine W_cons rfl (by decide) (Sv_val rfl (R_add64 rfl rfl rfl (by omega) (by omega)) ?_)
   refine W_cons rfl (by decide) (Sv_val rfl (R_move rfl rfl) ?_)
   refine W_nil ?_
   have hs20 : ((List.range j).map (fun (c : Nat) => fa0 (i : Int) (c : Int)) : List St) ++ ([fa0 (i : Int) (j : Int)] : List St) = ((List.range (j + 1 : Nat)).map (fun (c : Nat) => fa0 (i : Int) (c : Int)) : List St) := by rw [row_next]
   have hS := hS.re 3 rfl hs20
   refine E_round [0, 4, 5, 6, 7, 14, 15, 18, 19] ?_ ⟨(j + 1 : Nat), Ar18, cr18, (by rw [← hs20] <;> rfl), (by omega), rfl, hS.fin [1, 2, 3] (by decide) rfl⟩
   omega
  ·have _hC1 := trivial
   have hC1p : ¬ ((j : Int) < na0) := by simpa using hC1
   refine C_exit ?_
   refine E_then_exit ?_
   refine E_then_exit ?_
   refine E_block_hit ?_
   refine E_then ?_
   refine C_region ?_
   refine W_cons rfl (by decide) (Sv_val rfl (R_move rfl rfl) ?_)
   refine W_cons rfl (by decide) (Sv_val rfl (R_move rfl rfl) ?_)
   have hcz23 := hS.cap 2 rfl
   obtain ⟨z23, hlez23, hrz23, hS⟩ := hS.fz 2 0 rfl rfl (by decide) (zle_E _)
   have hS := hS.lift 1 rfl hlez23
   refine W_cons rfl (by decide) (S_row (d := (kslice kstr)) (q := z23) hS ([((List.range j).map (fun (c : Nat) => fa0 (i : Int) (c : Int)) : List St)] : List (List St)) rfl (R_buildSlice (ps := [(0, (.tmp 31))]) (vs := [.slice Ar9 ((List.range j).map (fun (c : Nat) => fa0 (i : Int) (c : Int)) : List St).length cr9]) (w' := w10.alloc (.cells [.slice Ar9 ((List.range j).map (fun (c : Nat) => fa0 (i : Int) (c : Int)) : List St).length cr9].toArray 31)) (r := .slice (some ⟨w10.heap.size, 0, none⟩) 1 1) rfl rfl rfl (by kernel_rfl)) ⟨_, _, rfl, ⟨_, _, rfl, hcz23, hrz23⟩, rfl⟩ rfl (by decide) (fun g22 w21 hS => ?_))
   refine W_cons rfl (by decide) (S_append hS 2 rfl rfl rfl elem22 rfl rfl (hS.sow 0 rfl (fun _ _ h => h)) (by (try simp only [List.length_map, List.length_range, List.length_cons, List.length_nil, maxLen]); omega) (by (try simp only [List.length_map, List.length_range, List.length_cons, List.length_nil, maxLen]); omega) (fun Ar25 cr25 w24 hS => ?_))
   have hp26 := hS.cap 2 rfl
   have hlhp26 := hp26.le
   have hmhp26 := hp26.mx
   refine W_cons rfl (by decide) (Sv_val rfl (R_assign rfl rfl) ?_)
   refine W_nil ?_
   refine E_block_normal ?_
   refine E_then (C_fr [(0, va0), (4, .int .i64 na0), (5, .slice Ar25 (((List.range i).map (fun (r : Nat) => (List.range na0.toNat).map fun (c : Nat) => fa0 (r : Int) (c : Int)) : Rows) ++ ([((List.range j).map (fun (c : Nat) => fa0 (i : Int) (c : Int)) : List St)] : List (List St))).length cr25), (14, .int .i64 ma0), (15, .int .i64 (i : Int))] rfl ?_)
   refine C_region ?_
   refine W_cons rfl (by decide) (Sv_val rfl (R_add64 rfl rfl rfl (by omega) (by omega)) ?_)
   refine W_cons rfl (by decide) (Sv_val rfl (R_move rfl rfl) ?_)
   refine W_nil ?_
   have hs27 : ((List.range i).map (fun (r : Nat) => (List.range na0.toNat).map fun (c : Nat) => fa0 (r : Int) (c : Int)) : Rows) ++ ([((List.range j).map (fun (c : Nat) => fa0 (i : Int) (c : Int)) : List St)] : List (List St)) = ((List.range (i + 1 : Nat)).map (fun (r : Nat) => (List.range na0.toNat).map fun (c : Nat) => fa0 (r : Int) (c : Int)) : Rows) := by rw [laidS_next, show na0.toNat = j from by omega]
   have hS := hS.re 2 rfl hs27
   refine E_round [0, 4, 5, 14, 15] ?_ ⟨(i + 1 : Nat), Ar25, cr25, z23, (by rw [← hs27] <;> rfl), (by omega), rfl, hS.fin [1, 2] (by decide) rfl⟩
   omega
 ·have _hC0 := trivial
  have hC0p : ¬ ((i : Int) < ma0) := by simpa using hC0
  refine C_exit ?_
  refine E_then_exit ?_
  refine E_then_exit ?_
  refine E_block_hit ?_
  refine E_then (C_fr [(5, .slice Ar2 ((List.range i).map (fun (r : Nat) => (List.range na0.toNat).map fun (c : Nat) => fa0 (r : Int) (c : Int)) : Rows).length cr2)] rfl ?_)
  refine C_seq ?_
  refine C_region ?_
  refine W_cons rfl (by decide) (Sv_val rfl (R_move rfl rfl) ?_)
  refine W_cons rfl (by decide) (Sv_val rfl (R_assign rfl rfl) ?_)
  refine W_nil ?_
  refine E_then ?_
  refine C_ret ?_
  have hq28 : ((List.range i).map (fun (r : Nat) => (List.range na0.toNat).map fun (c : Nat) => fa0 (r : Int) (c : Int)) : Rows) = laidS ma0 na0 fa0 := by unfold laidS; rw [show ma0.toNat = i from by omega]
  have hS := hS.re 1 rfl hq28
  refine E_ret1 rfl rfl ?_
  exact ⟨Ar2, cr2, z3, Lret1 (Lslice hq28), hS.fin [0, 1] (by decide) rfl⟩

set_option maxHeartbeats 400000 in
set_option maxRecDepth 20000 in
theorem pfield_calls (a0 : TPlain) (Aa0_l : Option Addr) (ca0_l : Nat) (a1 : Int) (a2 : Int) (z : Z) (w : World) (hI : In z w []) (hra0_l : Rd (kslice kstr) z Aa0_l a0.l) (hca0_l : Cap Aa0_l a0.l.length ca0_l) (p0 : 0 ≤ a1) (p1 : 0 ≤ a2) :
    Calls Try.prog 117 #[.agg #[.slice Aa0_l a0.l.length ca0_l], .int .i64 a1, .int .i64 a2] w fun e w' => e = .returned (vstr (fldS a0.l a1 a2)) ∧ Sp (FF []) w z w' [] := by
 have hla0_l := hca0_l.le
 have hma0_l := hca0_l.mx
 have hS := hI.sp
 refine Calls_of (vs := [.agg #[.slice Aa0_l a0.l.length ca0_l], .int .i64 a1, .int .i64 a2]) (N := 30) Try.func117 rfl rfl (Nat.le_of_ble_eq_true rfl) ?_
 refine C_seq ?_
 refine C_region ?_
 refine W_cons rfl (by decide) (S_box hS rfl (R_box (cs := [.slice Aa0_l a0.l.length ca0_l]) rfl rfl rfl) (fun b2 w1 hS => ?_))
 refine W_cons rfl (by decide) (Sv_val rfl (R_assign rfl rfl) ?_)
 refine W_nil ?_
 refine E_then ?_
 refine C_seq ?_
 refine C_seq ?_
 refine C_region ?_
 refine W_cons rfl (by decide) (Sv_val rfl (R_move rfl rfl) ?_)
 refine W_cons rfl (by decide) (Sv_val rfl (R_fld rfl rfl fld63_0) ?_)
 refine W_cons rfl (by decide) (Sv_val rfl (R_load1 rfl rfl agg22 ((hS.bx 0 rfl).cell rfl)) ?_)
 refine W_cons rfl (by decide) (Sv_val rfl (R_len rfl rfl Try.underlying22) ?_)
 refine W_cons rfl (by decide) (Sv_val rfl (R_bin rfl rfl rfl rfl rfl) ?_)
 refine W_cons rfl (by decide) (Sv_val rfl (R_move rfl rfl) ?_)
 refine W_split (t := 12) rfl (fun hg3 => ?_) (fun hg3 => ?_)
 ·have _hg3 := trivial
  have hg3p : a1 ≥ (a0.l.length : Int) := by simpa using hg3
  refine W_cons rfl (by decide) (Sv_off rfl rfl rfl (by rw [hg3] <;> rfl) ?_)
  refine W_cons rfl (by decide) (Sv_off rfl rfl rfl (by rw [hg3] <;> rfl) ?_)
  refine W_cons rfl (by decide) (Sv_off rfl rfl rfl (by rw [hg3] <;> rfl) ?_)
  refine W_cons rfl (by decide) (Sv_off rfl rfl rfl (by rw [hg3] <;> rfl) ?_)
  refine W_cons rfl (by decide) (Sv_off rfl rfl rfl (by rw [hg3] <;> rfl) ?_)
  refine W_cons rfl (by decide) (Sv_off rfl rfl rfl (by rw [hg3] <;> rfl) ?_)
  refine W_cons rfl (by decide) (Sv_off rfl rfl rfl (by rw [hg3] <;> rfl) ?_)
  refine W_cons rfl (by decide) (Sv_off rfl rfl rfl (by rw [hg3] <;> rfl) ?_)
  refine W_cons rfl (by decide) (Sv_val rfl (R_pick_t rfl rfl hg3 rfl) ?_)
  refine W_nil ?_
  refine E_then (C_fr [(1, .int .i64 a1), (2, .int .i64 a2), (3, .pointer (some ⟨b2, 0, none⟩)), (21, .bool true)] rfl ?_)
  refine C_if rfl rfl ?_
  refine C_seq ?_
  refine C_region ?_
  refine W_cons rfl (by decide) (Sv_val rfl (R_assign rfl rfl) ?_)
  refine W_nil ?_
  refine E_then ?_
  refine C_ret ?_
  refine E_then_ret ?_
  refine E_ret1 rfl rfl ?_
  exact ⟨Lret1 (Lstr (show [] = fldS a0.l a1 a2 by first | exact fldS_a (by omega) | exact fldS_b (by omega) | rfl)), hS.fin [] (by decide) rfl⟩
 ·have _hg3 := trivial
  have hg3p : ¬ (a1 ≥ (a0.l.length : Int)) := by simpa using hg3
  refine W_cons rfl (by decide) (Sv_gt rfl rfl rfl hg3 (Sv_val rfl (R_move rfl rfl) ?_))
  refine W_cons rfl (by decide) (Sv_gt rfl rfl rfl hg3 (Sv_val rfl (R_fld rfl rfl fld63_0) ?_))
  refine W_cons rfl (by decide) (Sv_gt rfl rfl rfl hg3 (Sv_val rfl (R_load1 rfl rfl agg22 ((hS.bx 0 rfl).cell rfl)) ?_))
  refine W_cons rfl (by decide) (Sv_gt rfl rfl rfl hg3 (Sv_val rfl (R_move rfl rfl) ?_))
  obtain ⟨q4, csq4, hAq4, ⟨Aq4, cq4, rfl, hcq4, hrq4⟩, hkq4⟩ := hra0_l.at_ [] (i := a1) (by omega) (by omega)
  have hlq4 := hcq4.le
  have hmq4 := hcq4.mx
  refine W_cons rfl (by decide) (Sv_gt rfl rfl rfl hg3 (Sv_val rfl (R_idx rfl rfl hAq4 rfl Try.underlying22 size31 (by omega) (by omega)) ?_))
  refine W_cons rfl (by decide) (Sv_gt rfl rfl rfl hg3 (Sv_val rfl (R_load1 rfl rfl agg31 (hS.sub.cell (hkq4 0 _ rfl))) ?_))
  refine W_cons rfl (by decide) (Sv_gt rfl rfl rfl hg3 (Sv_val rfl (R_len rfl rfl Try.underlying31) ?_))
  refine W_cons rfl (by decide) (Sv_gt rfl rfl rfl hg3 (Sv_val rfl (R_bin rfl rfl rfl rfl rfl) ?_))
  refine W_cons rfl (by decide) (Sv_val rfl (R_pick_f rfl rfl hg3 rfl) ?_)
  refine W_nil ?_
  refine E_then (C_fr [(1, .int .i64 a1), (2, .int .i64 a2), (3, .pointer (some ⟨b2, 0, none⟩)), (21, .bool (decide (a2 ≥ ((a0.l.getD a1.toNat []).length : Int))))] rfl ?_)
  refine C_ite rfl (fun hC0 => ?_) (fun hC0 => ?_)
  ·have _hC0 := trivial
   have hC0p : a2 ≥ ((a0.l.getD a1.toNat []).length : Int) := by simpa using hC0
   refine C_seq ?_
   refine C_region ?_
   refine W_cons rfl (by decide) (Sv_val rfl (R_assign rfl rfl) ?_)
   refine W_nil ?_
   refine E_then ?_
   refine C_ret ?_
   refine E_then_ret ?_
   refine E_ret1 rfl rfl ?_
   exact ⟨Lret1 (Lstr (show [] = fldS a0.l a1 a2 by first | exact fldS_a (by omega) | exact fldS_b (by omega) | rfl)), hS.fin [] (by decide) rfl⟩
  ·have _hC0 := trivial
   have hC0p : ¬ (a2 ≥ ((a0.l.getD a1.toNat []).length : Int)) := by simpa using hC0
   refine C_skip ?_
   refine E_then ?_
   refine C_seq ?_
   refine C_region ?_
   refine W_cons rfl (by decide) (Sv_val rfl (R_fld rfl rfl fld63_0) ?_)
   refine W_cons rfl (by decide) (Sv_val rfl (R_load1 rfl rfl agg22 ((hS.bx 0 rfl).cell rfl)) ?_)
   refine W_cons rfl (by decide) (Sv_val rfl (R_move rfl rfl) ?_)
   obtain ⟨q5, csq5, hAq5, ⟨Aq5, cq5, rfl, hcq5, hrq5⟩, hkq5⟩ := hra0_l.at_ [] (i := a1) (by omega) (by omega)
   have hlq5 := hcq5.le
   have hmq5 := hcq5.mx
   refine W_cons rfl (by decide) (Sv_val rfl (R_idx rfl rfl hAq5 rfl Try.underlying22 size31 (by omega) (by omega)) ?_)
   refine W_cons rfl (by decide) (Sv_val rfl (R_load1 rfl rfl agg31 (hS.sub.cell (hkq5 0 _ rfl))) ?_)
   refine W_cons rfl (by decide) (Sv_val rfl (R_move rfl rfl) ?_)
   obtain ⟨q6, csq6, hAq6, rfl, hkq6⟩ := hrq5.at_ ([] : St) (i := a2) (by omega) (by omega)
   refine W_cons rfl (by decide) (Sv_val rfl (R_idx rfl rfl hAq6 rfl Try.underlying31 size9 (by omega) (by omega)) ?_)
   refine W_cons rfl (by decide) (Sv_val rfl (R_load1 rfl rfl agg9 (hS.sub.cell (hkq6 0 _ rfl))) ?_)
   refine W_cons rfl (by decide) (Sv_val rfl (R_assign rfl rfl) ?_)
   refine W_nil ?_
   refine E_then (C_fr [(6, vstr ((a0.l.getD a1.toNat []).getD a2.toNat ([] : St)))] rfl ?_)
   refine C_ret ?_
   refine E_ret1 rfl rfl ?_
   exact ⟨Lret1 (Lstr (show ((a0.l.getD a1.toNat []).getD a2.toNat ([] : St)) = fldS a0.l a1 a2 by first | exact fldS_a (by omega) | exact fldS_b (by omega) | rfl)), hS.fin [] (by decide) rfl⟩

set_option maxHeartbeats 8000000 in
set_option maxRecDepth 20000 in
theorem psize_calls (a0 : TPlain) (Aa0_l : Option Addr) (ca0_l : Nat) (z : Z) (w : World) (hI : In z w []) (hra0_l : Rd (kslice kstr) z Aa0_l a0.l) (hca0_l : Cap Aa0_l a0.l.length ca0_l)  :
    Calls Try.prog 118 #[.agg #[.slice Aa0_l a0.l.length ca0_l]] w fun e w' => e = .returned (.tuple #[.int .i64 (max (a0.l.length : Int) 1), .int .i64 (max (widthS a0.l) 1)]) ∧ Sp (FF []) w z w' [] := by
 have hla0_l := hca0_l.le
 have hma0_l := hca0_l.mx
 have hS := hI.sp
 refine Calls_of (vs := [.agg #[.slice Aa0_l a0.l.length ca0_l]]) (N := 12) Try.func118 rfl rfl (Nat.le_of_ble_eq_true rfl) ?_
 refine C_seq ?_
 refine C_region ?_
 refine W_cons rfl (by decide) (S_box hS rfl (R_box (cs := [.slice Aa0_l a0.l.length ca0_l]) rfl rfl rfl) (fun b2 w1 hS => ?_))
 refine W_cons rfl (by decide) (Sv_val rfl (R_assign rfl rfl) ?_)
 refine W_cons rfl (by decide) (Sv_val rfl (R_assign rfl rfl) ?_)
 refine W_nil ?_
 refine E_then ?_
 refine C_seq ?_
 refine C_fr [(1, .pointer (some ⟨b2, 0, none⟩))] rfl ?_
 refine C_any 10 (by kernel_rfl) rfl (fun w5 hc6 => ?_)
 have hS := hS.chg0 hc6
 refine An_let ?_
 intro A_w5
 have hI1_x3_0 : ∀ (w1007 : World) , Sp (FF []) w z w1007 [bR b2 63 [.slice Aa0_l a0.l.length ca0_l]] → A_w5 0 #[true, true, true, true, true, true, true, true, true, true] [(1, .pointer (some ⟨b2, 0, none⟩)), (2, .int .i64 (max (a0.l.length : Int) 1)), (3, .int .i64 (max (widthS a0.l) 1)), (4, .pointer (some ⟨b2, 0, none⟩)), (5, .slice Aa0_l a0.l.length ca0_l), (6, .int .i64 (a0.l.length : Int)), (7, .int .i64 (max (a0.l.length : Int) 1)), (8, .pointer (some ⟨b2, 0, none⟩)), (9, .slice Aa0_l a0.l.length ca0_l), (10, .int .i64 (widthS a0.l)), (11, .int .i64 (max (widthS a0.l) 1))] w1007 := by
  intro w1007 hS
  refine An_done (by decide +kernel) ?_
  refine E_then (C_fr [(2, .int .i64 (max (a0.l.length : Int) 1)), (3, .int .i64 (max (widthS a0.l) 1))] rfl ?_)
  refine C_ret ?_
  refine E_ret2 rfl rfl rfl ?_
  exact ⟨Lret2 (Lint (show max (a0.l.length : Int) 1 = max (a0.l.length : Int) 1 by rfl)) (Lint (show max (widthS a0.l) 1 = max (widthS a0.l) 1 by rfl)), hS.fin [] (by decide) rfl⟩
 have hI1_x3_1 : ∀ (w1008 : World) , Sp (FF []) w z w1008 [bR b2 63 [.slice Aa0_l a0.l.length ca0_l]] → A_w5 1 #[true, true, true, true, true, true, true, true, true, false] [(1, .pointer (some ⟨b2, 0, none⟩)), (2, .int .i64 (max (a0.l.length : Int) 1)), (4, .pointer (some ⟨b2, 0, none⟩)), (5, .slice Aa0_l a0.l.length ca0_l), (6, .int .i64 (a0.l.length : Int)), (7, .int .i64 (max (a0.l.length : Int) 1)), (8, .pointer (some ⟨b2, 0, none⟩)), (9, .slice Aa0_l a0.l.length ca0_l), (10, .int .i64 (widthS a0.l)), (11, .int .i64 (max (widthS a0.l) 1))] w1008 := by
  intro w1008 hS
  refine An_any [9] (by decide +kernel) (by decide) (List.forall_mem_cons.2 ⟨?_, (fun _ h => by cases h)⟩)
  ·refine ⟨_, rfl, by decide, ?_⟩
   refine Sv_val rfl (R_assign rfl rfl) ?_
   exact An_fr [(1, .pointer (some ⟨b2, 0, none⟩)), (2, .int .i64 (max (a0.l.length : Int) 1)), (3, .int .i64 (max (widthS a0.l) 1)), (4, .pointer (some ⟨b2, 0, none⟩)), (5, .slice Aa0_l a0.l.length ca0_l), (6, .int .i64 (a0.l.length : Int)), (7, .int .i64 (max (a0.l.length : Int) 1)), (8, .pointer (some ⟨b2, 0, none⟩)), (9, .slice Aa0_l a0.l.length ca0_l), (10, .int .i64 (widthS a0.l)), (11, .int .i64 (max (widthS a0.l) 1))] rfl (hI1_x3_0 w1008 (hS.fin [0] (by decide) rfl))
 have hI1_x3_2 : ∀ (w1009 : World) , Sp (FF []) w z w1009 [bR b2 63 [.slice Aa0_l a0.l.length ca0_l]] → A_w5 2 #[true, true, true, true, true, true, true, true, false, false] [(1, .pointer (some ⟨b2, 0, none⟩)), (4, .pointer (some ⟨b2, 0, none⟩)), (5, .slice Aa0_l a0.l.length ca0_l), (6, .int .i64 (a0.l.length : Int)), (7, .int .i64 (max (a0.l.length : Int) 1)), (8, .pointer (some ⟨b2, 0, none⟩)), (9, .slice Aa0_l a0.l.length ca0_l), (10, .int .i64 (widthS a0.l)), (11, .int .i64 (max (widthS a0.l) 1))] w1009 := by
  intro w1009 hS
  refine An_any [8] (by decide +kernel) (by decide) (List.forall_mem_cons.2 ⟨?_, (fun _ h => by cases h)⟩)
  ·refine ⟨_, rfl, by decide, ?_⟩
   refine Sv_val rfl (R_assign rfl rfl) ?_
   exact An_fr [(1, .pointer (some ⟨b2, 0, none⟩)), (2, .int .i64 (max (a0.l.length : Int) 1)), (4, .pointer (some ⟨b2, 0, none⟩)), (5, .slice Aa0_l a0.l.length ca0_l), (6, .int .i64 (a0.l.length : Int)), (7, .int .i64 (max (a0.l.length : Int) 1)), (8, .pointer (some ⟨b2, 0, none⟩)), (9, .slice Aa0_l a0.l.length ca0_l), (10, .int .i64 (widthS a0.l)), (11, .int .i64 (max (widthS a0.l) 1))] rfl (hI1_x3_1 w1009 (hS.fin [0] (by decide) rfl))
 have hI1_x3_3 : ∀ (w1010 : World) , Sp (FF []) w z w1010 [bR b2 63 [.slice Aa0_l a0.l.length ca0_l]] → A_w5 2 #[true, true, true, true, true, true, true, false, true, false] [(1, .pointer (some ⟨b2, 0, none⟩)), (2, .int .i64 (max (a0.l.length : Int) 1)), (4, .pointer (some ⟨b2, 0, none⟩)), (5, .slice Aa0_l a0.l.length ca0_l), (6, .int .i64 (a0.l.length : Int)), (7, .int .i64 (max (a0.l.length : Int) 1)), (8, .pointer (some ⟨b2, 0, none⟩)), (9, .slice Aa0_l a0.l.length ca0_l), (10, .int .i64 (widthS a0.l))] w1010 := by
  intro w1010 hS
  refine An_any [7] (by decide +kernel) (by decide) (List.forall_mem_cons.2 ⟨?_, (fun _ h => by cases h)⟩)
  ·refine ⟨_, rfl, by decide, ?_⟩
   refine Sv_val rfl (R_max rfl rfl) ?_
   exact An_fr [(1, .pointer (some ⟨b2, 0, none⟩)), (2, .int .i64 (max (a0.l.length : Int) 1)), (4, .pointer (some ⟨b2, 0, none⟩)), (5, .slice Aa0_l a0.l.length ca0_l), (6, .int .i64 (a0.l.length : Int)), (7, .int .i64 (max (a0.l.length : Int) 1)), (8, .pointer (some ⟨b2, 0, none⟩)), (9, .slice Aa0_l a0.l.length ca0_l), (10, .int .i64 (widthS a0.l)), (11, .int .i64 (max (widthS a0.l) 1))] rfl (hI1_x3_1 w1010 (hS.fin [0] (by decide) rfl))
 have hI1_x3_4 : ∀ (w1011 : World) , Sp (FF []) w z w1011 [bR b2 63 [.slice Aa0_l a0.l.length ca0_l]] → A_w5 3 #[true, true, true, true, true, true, true, false, false, false] [(1, .pointer (some ⟨b2, 0, none⟩)), (4, .pointer (some ⟨b2, 0, none⟩)), (5, .slice Aa0_l a0.l.length ca0_l), (6, .int .i64 (a0.l.length : Int)), (7, .int .i64 (max (a0.l.length : Int) 1)), (8, .pointer (some ⟨b2, 0, none⟩)), (9, .slice Aa0_l a0.l.length ca0_l), (10, .int .i64 (widthS a0.l))] w1011 := by
  intro w1011 hS
  refine An_any [7, 8] (by decide +kernel) (by decide) (List.forall_mem_cons.2 ⟨?_, (List.forall_mem_cons.2 ⟨?_, (fun _ h => by cases h)⟩)⟩)
  ·refine ⟨_, rfl, by decide, ?_⟩
   refine Sv_val rfl (R_max rfl rfl) ?_
   exact An_fr [(1, .pointer (some ⟨b2, 0, none⟩)), (4, .pointer (some ⟨b2, 0, none⟩)), (5, .slice Aa0_l a0.l.length ca0_l), (6, .int .i64 (a0.l.length : Int)), (7, .int .i64 (max (a0.l.length : Int) 1)), (8, .pointer (some ⟨b2, 0, none⟩)), (9, .slice Aa0_l a0.l.length ca0_l), (10, .int .i64 (widthS a0.l)), (11, .int .i64 (max (widthS a0.l) 1))] rfl (hI1_x3_2 w1011 (hS.fin [0] (by decide) rfl))
  ·refine ⟨_, rfl, by decide, ?_⟩
   refine Sv_val rfl (R_assign rfl rfl) ?_
   exact An_fr [(1, .pointer (some ⟨b2, 0, none⟩)), (2, .int .i64 (max (a0.l.length : Int) 1)), (4, .pointer (some ⟨b2, 0, none⟩)), (5, .slice Aa0_l a0.l.length ca0_l), (6, .int .i64 (a0.l.length : Int)), (7, .int .i64 (max (a0.l.length : Int) 1)), (8, .pointer (some ⟨b2, 0, none⟩)), (9, .slice Aa0_l a0.l.length ca0_l), (10, .int .i64 (widthS a0.l))] rfl (hI1_x3_3 w1011 (hS.fin [0] (by decide) rfl))
 have hI1_x3_5 : ∀ (w1012 : World) , Sp (FF []) w z w1012 [bR b2 63 [.slice Aa0_l a0.l.length ca0_l]] → A_w5 3 #[true, true, true, false, true, true, true, true, false, false] [(1, .pointer (some ⟨b2, 0, none⟩)), (4, .pointer (some ⟨b2, 0, none⟩)), (5, .slice Aa0_l a0.l.length ca0_l), (6, .int .i64 (a0.l.length : Int)), (8, .pointer (some ⟨b2, 0, none⟩)), (9, .slice Aa0_l a0.l.length ca0_l), (10, .int .i64 (widthS a0.l)), (11, .int .i64 (max (widthS a0.l) 1))] w1012 := by
  intro w1012 hS
  refine An_any [3] (by decide +kernel) (by decide) (List.forall_mem_cons.2 ⟨?_, (fun _ h => by cases h)⟩)
  ·refine ⟨_, rfl, by decide, ?_⟩
   refine Sv_val rfl (R_max rfl rfl) ?_
   exact An_fr [(1, .pointer (some ⟨b2, 0, none⟩)), (4, .pointer (some ⟨b2, 0, none⟩)), (5, .slice Aa0_l a0.l.length ca0_l), (6, .int .i64 (a0.l.length : Int)), (7, .int .i64 (max (a0.l.length : Int) 1)), (8, .pointer (some ⟨b2, 0, none⟩)), (9, .slice Aa0_l a0.l.length ca0_l), (10, .int .i64 (widthS a0.l)), (11, .int .i64 (max (widthS a0.l) 1))] rfl (hI1_x3_2 w1012 (hS.fin [0] (by decide) rfl))
 have hI1_x3_6 : ∀ (w1013 : World) , Sp (FF []) w z w1013 [bR b2 63 [.slice Aa0_l a0.l.length ca0_l]] → A_w5 4 #[true, true, true, true, true, true, false, false, false, false] [(1, .pointer (some ⟨b2, 0, none⟩)), (4, .pointer (some ⟨b2, 0, none⟩)), (5, .slice Aa0_l a0.l.length ca0_l), (6, .int .i64 (a0.l.length : Int)), (7, .int .i64 (max (a0.l.length : Int) 1)), (8, .pointer (some ⟨b2, 0, none⟩)), (9, .slice Aa0_l a0.l.length ca0_l)] w1013 := by
  intro w1013 hS
  refine An_any [6] (by decide +kernel) (by decide) (List.forall_mem_cons.2 ⟨?_, (fun _ h => by cases h)⟩)
  ·refine ⟨_, rfl, by decide, ?_⟩
   refine Sv_call rfl rfl rfl ent14 ?_
   refine (width_calls a0.l Aa0_l ca0_l _ _ hS.out0 (hra0_l.mono (hS.zl [])) hca0_l ).mono ?_
   rintro e_ w1014 ⟨rfl, hS_⟩
   refine ⟨_, rfl, ?_⟩
   have hS := hS.call0 hS_
   exact An_fr [(1, .pointer (some ⟨b2, 0, none⟩)), (4, .pointer (some ⟨b2, 0, none⟩)), (5, .slice Aa0_l a0.l.length ca0_l), (6, .int .i64 (a0.l.length : Int)), (7, .int .i64 (max (a0.l.length : Int) 1)), (8, .pointer (some ⟨b2, 0, none⟩)), (9, .slice Aa0_l a0.l.length ca0_l), (10, .int .i64 (widthS a0.l))] rfl (hI1_x3_4 w1014 (hS.fin [0] (by decide) rfl))
 have hI1_x3_7 : ∀ (w1015 : World) , Sp (FF []) w z w1015 [bR b2 63 [.slice Aa0_l a0.l.length ca0_l]] → A_w5 4 #[true, true, true, false, true, true, true, false, false, false] [(1, .pointer (some ⟨b2, 0, none⟩)), (4, .pointer (some ⟨b2, 0, none⟩)), (5, .slice Aa0_l a0.l.length ca0_l), (6, .int .i64 (a0.l.length : Int)), (8, .pointer (some ⟨b2, 0, none⟩)), (9, .slice Aa0_l a0.l.length ca0_l), (10, .int .i64 (widthS a0.l))] w1015 := by
  intro w1015 hS
  refine An_any [3, 7] (by decide +kernel) (by decide) (List.forall_mem_cons.2 ⟨?_, (List.forall_mem_cons.2 ⟨?_, (fun _ h => by cases h)⟩)⟩)
  ·refine ⟨_, rfl, by decide, ?_⟩
   refine Sv_val rfl (R_max rfl rfl) ?_
   exact An_fr [(1, .pointer (some ⟨b2, 0, none⟩)), (4, .pointer (some ⟨b2, 0, none⟩)), (5, .slice Aa0_l a0.l.length ca0_l), (6, .int .i64 (a0.l.length : Int)), (7, .int .i64 (max (a0.l.length : Int) 1)), (8, .pointer (some ⟨b2, 0, none⟩)), (9, .slice Aa0_l a0.l.length ca0_l), (10, .int .i64 (widthS a0.l))] rfl (hI1_x3_4 w1015 (hS.fin [0] (by decide) rfl))
  ·refine ⟨_, rfl, by decide, ?_⟩
   refine Sv_val rfl (R_max rfl rfl) ?_
   exact An_fr [(1, .pointer (some ⟨b2, 0, none⟩)), (4, .pointer (some ⟨b2, 0, none⟩)), (5, .slice Aa0_l a0.l.length ca0_l), (6, .int .i64 (a0.l.length : Int)), (8, .pointer (some ⟨b2, 0, none⟩)), (9, .slice Aa0_l a0.l.length ca0_l), (10, .int .i64 (widthS a0.l)), (11, .int .i64 (max (widthS a0.l) 1))] rfl (hI1_x3_5 w1015 (hS.fin [0] (by decide) rfl))
 have hI1_x3_8 : ∀ (w1016 : World) , Sp (FF []) w z w1016 [bR b2 63 [.slice Aa0_l a0.l.length ca0_l]] → A_w5 4 #[true, true, false, false, true, true, true, true, false, false] [(1, .pointer (some ⟨b2, 0, none⟩)), (4, .pointer (some ⟨b2, 0, none⟩)), (5, .slice Aa0_l a0.l.length ca0_l), (8, .pointer (some ⟨b2, 0, none⟩)), (9, .slice Aa0_l a0.l.length ca0_l), (10, .int .i64 (widthS a0.l)), (11, .int .i64 (max (widthS a0.l) 1))] w1016 := by
  intro w1016 hS
  refine An_any [2] (by decide +kernel) (by decide) (List.forall_mem_cons.2 ⟨?_, (fun _ h => by cases h)⟩)
  ·refine ⟨_, rfl, by decide, ?_⟩
   refine Sv_val rfl (R_len rfl rfl Try.underlying22) ?_
   exact An_fr [(1, .pointer (some ⟨b2, 0, none⟩)), (4, .pointer (some ⟨b2, 0, none⟩)), (5, .slice Aa0_l a0.l.length ca0_l), (6, .int .i64 (a0.l.length : Int)), (8, .pointer (some ⟨b2, 0, none⟩)), (9, .slice Aa0_l a0.l.length ca0_l), (10, .int .i64 (widthS a0.l)), (11, .int .i64 (max (widthS a0.l) 1))] rfl (hI1_x3_5 w1016 (hS.fin [0] (by decide) rfl))
 have hI1_x3_9 : ∀ (w1017 : World) , Sp (FF []) w z w1017 [bR b2 63 [.slice Aa0_l a0.l.length ca0_l]] → A_w5 5 #[true, true, true, true, true, false, false, false, false, false] [(1, .pointer (some ⟨b2, 0, none⟩)), (4, .pointer (some ⟨b2, 0, none⟩)), (5, .slice Aa0_l a0.l.length ca0_l), (6, .int .i64 (a0.l.length : Int)), (7, .int .i64 (max (a0.l.length : Int) 1)), (8, .pointer (some ⟨b2, 0, none⟩))] w1017 := by
  intro w1017 hS
  refine An_any [5] (by decide +kernel) (by decide) (List.forall_mem_cons.2 ⟨?_, (fun _ h => by cases h)⟩)
  ·refine ⟨_, rfl, by decide, ?_⟩
   refine Sv_val rfl (R_load1 rfl rfl agg22 ((hS.bx 0 rfl).cell rfl)) ?_
   exact An_fr [(1, .pointer (some ⟨b2, 0, none⟩)), (4, .pointer (some ⟨b2, 0, none⟩)), (5, .slice Aa0_l a0.l.length ca0_l), (6, .int .i64 (a0.l.length : Int)), (7, .int .i64 (max (a0.l.length : Int) 1)), (8, .pointer (some ⟨b2, 0, none⟩)), (9, .slice Aa0_l a0.l.length ca0_l)] rfl (hI1_x3_6 w1017 (hS.fin [0] (by decide) rfl))
 have hI1_x3_10 : ∀ (w1018 : World) , Sp (FF []) w z w1018 [bR b2 63 [.slice Aa0_l a0.l.length ca0_l]] → A_w5 5 #[true, true, true, false, true, true, false, false, false, false] [(1, .pointer (some ⟨b2, 0, none⟩)), (4, .pointer (some ⟨b2, 0, none⟩)), (5, .slice Aa0_l a0.l.length ca0_l), (6, .int .i64 (a0.l.length : Int)), (8, .pointer (some ⟨b2, 0, none⟩)), (9, .slice Aa0_l a0.l.length ca0_l)] w1018 := by
  intro w1018 hS
  refine An_any [3, 6] (by decide +kernel) (by decide) (List.forall_mem_cons.2 ⟨?_, (List.forall_mem_cons.2 ⟨?_, (fun _ h => by cases h)⟩)⟩)
  ·refine ⟨_, rfl, by decide, ?_⟩
   refine Sv_val rfl (R_max rfl rfl) ?_
   exact An_fr [(1, .pointer (some ⟨b2, 0, none⟩)), (4, .pointer (some ⟨b2, 0, none⟩)), (5, .slice Aa0_l a0.l.length ca0_l), (6, .int .i64 (a0.l.length : Int)), (7, .int .i64 (max (a0.l.length : Int) 1)), (8, .pointer (some ⟨b2, 0, none⟩)), (9, .slice Aa0_l a0.l.length ca0_l)] rfl (hI1_x3_6 w1018 (hS.fin [0] (by decide) rfl))
  ·refine ⟨_, rfl, by decide, ?_⟩
   refine Sv_call rfl rfl rfl ent14 ?_
   refine (width_calls a0.l Aa0_l ca0_l _ _ hS.out0 (hra0_l.mono (hS.zl [])) hca0_l ).mono ?_
   rintro e_ w1019 ⟨rfl, hS_⟩
   refine ⟨_, rfl, ?_⟩
   have hS := hS.call0 hS_
   exact An_fr [(1, .pointer (some ⟨b2, 0, none⟩)), (4, .pointer (some ⟨b2, 0, none⟩)), (5, .slice Aa0_l a0.l.length ca0_l), (6, .int .i64 (a0.l.length : Int)), (8, .pointer (some ⟨b2, 0, none⟩)), (9, .slice Aa0_l a0.l.length ca0_l), (10, .int .i64 (widthS a0.l))] rfl (hI1_x3_7 w1019 (hS.fin [0] (by decide) rfl))
 have hI1_x3_11 : ∀ (w1020 : World) , Sp (FF []) w z w1020 [bR b2 63 [.slice Aa0_l a0.l.length ca0_l]] → A_w5 5 #[true, true, false, false, true, true, true, false, false, false] [(1, .pointer (some ⟨b2, 0, none⟩)), (4, .pointer (some ⟨b2, 0, none⟩)), (5, .slice Aa0_l a0.l.length ca0_l), (8, .pointer (some ⟨b2, 0, none⟩)), (9, .slice Aa0_l a0.l.length ca0_l), (10, .int .i64 (widthS a0.l))] w1020 := by
  intro w1020 hS
  refine An_any [2, 7] (by decide +kernel) (by decide) (List.forall_mem_cons.2 ⟨?_, (List.forall_mem_cons.2 ⟨?_, (fun _ h => by cases h)⟩)⟩)
  ·refine ⟨_, rfl, by decide, ?_⟩
   refine Sv_val rfl (R_len rfl rfl Try.underlying22) ?_
   exact An_fr [(1, .pointer (some ⟨b2, 0, none⟩)), (4, .pointer (some ⟨b2, 0, none⟩)), (5, .slice Aa0_l a0.l.length ca0_l), (6, .int .i64 (a0.l.length : Int)), (8, .pointer (some ⟨b2, 0, none⟩)), (9, .slice Aa0_l a0.l.length ca0_l), (10, .int .i64 (widthS a0.l))] rfl (hI1_x3_7 w1020 (hS.fin [0] (by decide) rfl))
  ·refine ⟨_, rfl, by decide, ?_⟩
   refine Sv_val rfl (R_max rfl rfl) ?_
   exact An_fr [(1, .pointer (some ⟨b2, 0, none⟩)), (4, .pointer (some ⟨b2, 0, none⟩)), (5, .slice Aa0_l a0.l.length ca0_l), (8, .pointer (some ⟨b2, 0, none⟩)), (9, .slice Aa0_l a0.l.length ca0_l), (10, .int .i64 (widthS a0.l)), (11, .int .i64 (max (widthS a0.l) 1))] rfl (hI1_x3_8 w1020 (hS.fin [0] (by decide) rfl))
 have hI1_x3_12 : ∀ (w1021 : World) , Sp (FF []) w z w1021 [bR b2 63 [.slice Aa0_l a0.l.length ca0_l]] → A_w5 5 #[true, false, false, false, true, true, true, true, false, false] [(1, .pointer (some ⟨b2, 0, none⟩)), (4, .pointer (some ⟨b2, 0, none⟩)), (8, .pointer (some ⟨b2, 0, none⟩)), (9, .slice Aa0_l a0.l.length ca0_l), (10, .int .i64 (widthS a0.l)), (11, .int .i64 (max (widthS a0.l) 1))] w1021 := by
  intro w1021 hS
  refine An_any [1] (by decide +kernel) (by decide) (List.forall_mem_cons.2 ⟨?_, (fun _ h => by cases h)⟩)
  ·refine ⟨_, rfl, by decide, ?_⟩
   refine Sv_val rfl (R_load1 rfl rfl agg22 ((hS.bx 0 rfl).cell rfl)) ?_
   exact An_fr [(1, .pointer (some ⟨b2, 0, none⟩)), (4, .pointer (some ⟨b2, 0, none⟩)), (5, .slice Aa0_l a0.l.length ca0_l), (8, .pointer (some ⟨b2, 0, none⟩)), (9, .slice Aa0_l a0.l.length ca0_l), (10, .int .i64 (widthS a0.l)), (11, .int .i64 (max (widthS a0.l) 1))] rfl (hI1_x3_8 w1021 (hS.fin [0] (by decide) rfl))
 have hI1_x3_13 : ∀ (w1022 : World) , Sp (FF []) w z w1022 [bR b2 63 [.slice Aa0_l a0.l.length ca0_l]] → A_w5 6 #[true, true, true, true, false, false, false, false, false, false] [(1, .pointer (some ⟨b2, 0, none⟩)), (4, .pointer (some ⟨b2, 0, none⟩)), (5, .slice Aa0_l a0.l.length ca0_l), (6, .int .i64 (a0.l.length : Int)), (7, .int .i64 (max (a0.l.length : Int) 1))] w1022 := by
  intro w1022 hS
  refine An_any [4] (by decide +kernel) (by decide) (List.forall_mem_cons.2 ⟨?_, (fun _ h => by cases h)⟩)
  ·refine ⟨_, rfl, by decide, ?_⟩
   refine Sv_val rfl (R_fld rfl rfl fld63_0) ?_
   exact An_fr [(1, .pointer (some ⟨b2, 0, none⟩)), (4, .pointer (some ⟨b2, 0, none⟩)), (5, .slice Aa0_l a0.l.length ca0_l), (6, .int .i64 (a0.l.length : Int)), (7, .int .i64 (max (a0.l.length : Int) 1)), (8, .pointer (some ⟨b2, 0, none⟩))] rfl (hI1_x3_9 w1022 (hS.fin [0] (by decide) rfl))
 have hI1_x3_14 : ∀ (w1023 : World) , Sp (FF []) w z w1023 [bR b2 63 [.slice Aa0_l a0.l.length ca0_l]] → A_w5 6 #[true, true, true, false, true, false, false, false, false, false] [(1, .pointer (some ⟨b2, 0, none⟩)), (4, .pointer (some ⟨b2, 0, none⟩)), (5, .slice Aa0_l a0.l.length ca0_l), (6, .int .i64 (a0.l.length : Int)), (8, .pointer (some ⟨b2, 0, none⟩))] w1023 := by
  intro w1023 hS
  refine An_any [3, 5] (by decide +kernel) (by decide) (List.forall_mem_cons.2 ⟨?_, (List.forall_mem_cons.2 ⟨?_, (fun _ h => by cases h)⟩)⟩)
  ·refine ⟨_, rfl, by decide, ?_⟩
   refine Sv_val rfl (R_max rfl rfl) ?_
   exact An_fr [(1, .pointer (some ⟨b2, 0, none⟩)), (4, .pointer (some ⟨b2, 0, none⟩)), (5, .slice Aa0_l a0.l.length ca0_l), (6, .int .i64 (a0.l.length : Int)), (7, .int .i64 (max (a0.l.length : Int) 1)), (8, .pointer (some ⟨b2, 0, none⟩))] rfl (hI1_x3_9 w1023 (hS.fin [0] (by decide) rfl))
  ·refine ⟨_, rfl, by decide, ?_⟩
   refine Sv_val rfl (R_load1 rfl rfl agg22 ((hS.bx 0 rfl).cell rfl)) ?_
   exact An_fr [(1, .pointer (some ⟨b2, 0, none⟩)), (4, .pointer (some ⟨b2, 0, none⟩)), (5, .slice Aa0_l a0.l.length ca0_l), (6, .int .i64 (a0.l.length : Int)), (8, .pointer (some ⟨b2, 0, none⟩)), (9, .slice Aa0_l a0.l.length ca0_l)] rfl (hI1_x3_10 w1023 (hS.fin [0] (by decide) rfl))
 have hI1_x3_15 : ∀ (w1024 : World) , Sp (FF []) w z w1024 [bR b2 63 [.slice Aa0_l a0.l.length ca0_l]] → A_w5 6 #[true, true, false, false, true, true, false, false, false, false] [(1, .pointer (some ⟨b2, 0, none⟩)), (4, .pointer (some ⟨b2, 0, none⟩)), (5, .slice Aa0_l a0.l.length ca0_l), (8, .pointer (some ⟨b2, 0, none⟩)), (9, .slice Aa0_l a0.l.length ca0_l)] w1024 := by
  intro w1024 hS
  refine An_any [2, 6] (by decide +kernel) (by decide) (List.forall_mem_cons.2 ⟨?_, (List.forall_mem_cons.2 ⟨?_, (fun _ h => by cases h)⟩)⟩)
  ·refine ⟨_, rfl, by decide, ?_⟩
   refine Sv_val rfl (R_len rfl rfl Try.underlying22) ?_
   exact An_fr [(1, .pointer (some ⟨b2, 0, none⟩)), (4, .pointer (some ⟨b2, 0, none⟩)), (5, .slice Aa0_l a0.l.length ca0_l), (6, .int .i64 (a0.l.length : Int)), (8, .pointer (some ⟨b2, 0, none⟩)), (9, .slice Aa0_l a0.l.length ca0_l)] rfl (hI1_x3_10 w1024 (hS.fin [0] (by decide) rfl))
  ·refine ⟨_, rfl, by decide, ?_⟩
   refine Sv_call rfl rfl rfl ent14 ?_
   refine (width_calls a0.l Aa0_l ca0_l _ _ hS.out0 (hra0_l.mono (hS.zl [])) hca0_l ).mono ?_
   rintro e_ w1025 ⟨rfl, hS_⟩
   refine ⟨_, rfl, ?_⟩
   have hS := hS.call0 hS_
   exact An_fr [(1, .pointer (some ⟨b2, 0, none⟩)), (4, .pointer (some ⟨b2, 0, none⟩)), (5, .slice Aa0_l a0.l.length ca0_l), (8, .pointer (some ⟨b2, 0, none⟩)), (9, .slice Aa0_l a0.l.length ca0_l), (10, .int .i64 (widthS a0.l))] rfl (hI1_x3_11 w1025 (hS.fin [0] (by decide) rfl))
 have hI1_x3_16 : ∀ (w1026 : World) , Sp (FF []) w z w1026 [bR b2 63 [.slice Aa0_l a0.l.length ca0_l]] → A_w5 6 #[true, false, false, false, true, true, true, false, false, false] [(1, .pointer (some ⟨b2, 0, none⟩)), (4, .pointer (some ⟨b2, 0, none⟩)), (8, .pointer (some ⟨b2, 0, none⟩)), (9, .slice Aa0_l a0.l.length ca0_l), (10, .int .i64 (widthS a0.l))] w1026 := by
  intro w1026 hS
  refine An_any [1, 7] (by decide +kernel) (by decide) (List.forall_mem_cons.2 ⟨?_, (List.forall_mem_cons.2 ⟨?_, (fun _ h => by cases h)⟩)⟩)
  ·refine ⟨_, rfl, by decide, ?_⟩
   refine Sv_val rfl (R_load1 rfl rfl agg22 ((hS.bx 0 rfl).cell rfl)) ?_
   exact An_fr [(1, .pointer (some ⟨b2, 0, none⟩)), (4, .pointer (some ⟨b2, 0, none⟩)), (5, .slice Aa0_l a0.l.length ca0_l), (8, .pointer (some ⟨b2, 0, none⟩)), (9, .slice Aa0_l a0.l.length ca0_l), (10, .int .i64 (widthS a0.l))] rfl (hI1_x3_11 w1026 (hS.fin [0] (by decide) rfl))
  ·refine ⟨_, rfl, by decide, ?_⟩
   refine Sv_val rfl (R_max rfl rfl) ?_
   exact An_fr [(1, .pointer (some ⟨b2, 0, none⟩)), (4, .pointer (some ⟨b2, 0, none⟩)), (8, .pointer (some ⟨b2, 0, none⟩)), (9, .slice Aa0_l a0.l.length ca0_l), (10, .int .i64 (widthS a0.l)), (11, .int .i64 (max (widthS a0.l) 1))] rfl (hI1_x3_12 w1026 (hS.fin [0] (by decide) rfl))
 have hI1_x3_17 : ∀ (w1027 : World) , Sp (FF []) w z w1027 [bR b2 63 [.slice Aa0_l a0.l.length ca0_l]] → A_w5 6 #[false, false, false, false, true, true, true, true, false, false] [(1, .pointer (some ⟨b2, 0, none⟩)), (8, .pointer (some ⟨b2, 0, none⟩)), (9, .slice Aa0_l a0.l.length ca0_l), (10, .int .i64 (widthS a0.l)), (11, .int .i64 (max (widthS a0.l) 1))] w1027 := by
  intro w1027 hS
  refine An_any [0] (by decide +kernel) (by decide) (List.forall_mem_cons.2 ⟨?_, (fun _ h => by cases h)⟩)
  ·refine ⟨_, rfl, by decide, ?_⟩
   refine Sv_val rfl (R_fld rfl rfl fld63_0) ?_
   exact An_fr [(1, .pointer (some ⟨b2, 0, none⟩)), (4, .pointer (some ⟨b2, 0, none⟩)), (8, .pointer (some ⟨b2, 0, none⟩)), (9, .slice Aa0_l a0.l.length ca0_l), (10, .int .i64 (widthS a0.l)), (11, .int .i64 (max (widthS a0.l) 1))] rfl (hI1_x3_12 w1027 (hS.fin [0] (by decide) rfl))
 have hI1_x3_18 : ∀ (w1028 : World) , Sp (FF []) w z w1028 [bR b2 63 [.slice Aa0_l a0.l.length ca0_l]] → A_w5 7 #[true, true, true, false, false, false, false, false, false, false] [(1, .pointer (some ⟨b2, 0, none⟩)), (4, .pointer (some ⟨b2, 0, none⟩)), (5, .slice Aa0_l a0.l.length ca0_l), (6, .int .i64 (a0.l.length : Int))] w1028 := by
  intro w1028 hS
  refine An_any [3, 4] (by decide +kernel) (by decide) (List.forall_mem_cons.2 ⟨?_, (List.forall_mem_cons.2 ⟨?_, (fun _ h => by cases h)⟩)⟩)
  ·refine ⟨_, rfl, by decide, ?_⟩
   refine Sv_val rfl (R_max rfl rfl) ?_
   exact An_fr [(1, .pointer (some ⟨b2, 0, none⟩)), (4, .pointer (some ⟨b2, 0, none⟩)), (5, .slice Aa0_l a0.l.length ca0_l), (6, .int .i64 (a0.l.length : Int)), (7, .int .i64 (max (a0.l.length : Int) 1))] rfl (hI1_x3_13 w1028 (hS.fin [0] (by decide) rfl))
  ·refine ⟨_, rfl, by decide, ?_⟩
   refine Sv_val rfl (R_fld rfl rfl fld63_0) ?_
   exact An_fr [(1, .pointer (some ⟨b2, 0, none⟩)), (4, .pointer (some ⟨b2, 0, none⟩)), (5, .slice Aa0_l a0.l.length ca0_l), (6, .int .i64 (a0.l.length : Int)), (8, .pointer (some ⟨b2, 0, none⟩))] rfl (hI1_x3_14 w1028 (hS.fin [0] (by decide) rfl))
 have hI1_x3_19 : ∀ (w1029 : World) , Sp (FF []) w z w1029 [bR b2 63 [.slice Aa0_l a0.l.length ca0_l]] → A_w5 7 #[true, true, false, false, true, false, false, false, false, false] [(1, .pointer (some ⟨b2, 0, none⟩)), (4, .pointer (some ⟨b2, 0, none⟩)), (5, .slice Aa0_l a0.l.length ca0_l), (8, .pointer (some ⟨b2, 0, none⟩))] w1029 := by
  intro w1029 hS
  refine An_any [2, 5] (by decide +kernel) (by decide) (List.forall_mem_cons.2 ⟨?_, (List.forall_mem_cons.2 ⟨?_, (fun _ h => by cases h)⟩)⟩)
  ·refine ⟨_, rfl, by decide, ?_⟩
   refine Sv_val rfl (R_len rfl rfl Try.underlying22) ?_
   exact An_fr [(1, .pointer (some ⟨b2, 0, none⟩)), (4, .pointer (some ⟨b2, 0, none⟩)), (5, .slice Aa0_l a0.l.length ca0_l), (6, .int .i64 (a0.l.length : Int)), (8, .pointer (some ⟨b2, 0, none⟩))] rfl (hI1_x3_14 w1029 (hS.fin [0] (by decide) rfl))
  ·refine ⟨_, rfl, by decide, ?_⟩
   refine Sv_val rfl (R_load1 rfl rfl agg22 ((hS.bx 0 rfl).cell rfl)) ?_
   exact An_fr [(1, .pointer (some ⟨b2, 0, none⟩)), (4, .pointer (some ⟨b2, 0, none⟩)), (5, .slice Aa0_l a0.l.length ca0_l), (8, .pointer (some ⟨b2, 0, none⟩)), (9, .slice Aa0_l a0.l.length ca0_l)] rfl (hI1_x3_15 w1029 (hS.fin [0] (by decide) rfl))
 have hI1_x3_20 : ∀ (w1030 : World) , Sp (FF []) w z w1030 [bR b2 63 [.slice Aa0_l a0.l.length ca0_l]] → A_w5 7 #[true, false, false, false, true, true, false, false, false, false] [(1, .pointer (some ⟨b2, 0, none⟩)), (4, .pointer (some ⟨b2, 0, none⟩)), (8, .pointer (some ⟨b2, 0, none⟩)), (9, .slice Aa0_l a0.l.length ca0_l)] w1030 := by
  intro w1030 hS
  refine An_any [1, 6] (by decide +kernel) (by decide) (List.forall_mem_cons.2 ⟨?_, (List.forall_mem_cons.2 ⟨?_, (fun _ h => by cases h)⟩)⟩)
  ·refine ⟨_, rfl, by decide, ?_⟩
   refine Sv_val rfl (R_load1 rfl rfl agg22 ((hS.bx 0 rfl).cell rfl)) ?_
   exact An_fr [(1, .pointer (some ⟨b2, 0, none⟩)), (4, .pointer (some ⟨b2, 0, none⟩)), (5, .slice Aa0_l a0.l.length ca0_l), (8, .pointer (some ⟨b2, 0, none⟩)), (9, .slice Aa0_l a0.l.length ca0_l)] rfl (hI1_x3_15 w1030 (hS.fin [0] (by decide) rfl))
  ·refine ⟨_, rfl, by decide, ?_⟩
   refine Sv_call rfl rfl rfl ent14 ?_
   refine (width_calls a0.l Aa0_l ca0_l _ _ hS.out0 (hra0_l.mono (hS.zl [])) hca0_l ).mono ?_
   rintro e_ w1031 ⟨rfl, hS_⟩
   refine ⟨_, rfl, ?_⟩
   have hS := hS.call0 hS_
   exact An_fr [(1, .pointer (some ⟨b2, 0, none⟩)), (4, .pointer (some ⟨b2, 0, none⟩)), (8, .pointer (some ⟨b2, 0, none⟩)), (9, .slice Aa0_l a0.l.length ca0_l), (10, .int .i64 (widthS a0.l))] rfl (hI1_x3_16 w1031 (hS.fin [0] (by decide) rfl))
 have hI1_x3_21 : ∀ (w1032 : World) , Sp (FF []) w z w1032 [bR b2 63 [.slice Aa0_l a0.l.length ca0_l]] → A_w5 7 #[false, false, false, false, true, true, true, false, false, false] [(1, .pointer (some ⟨b2, 0, none⟩)), (8, .pointer (some ⟨b2, 0, none⟩)), (9, .slice Aa0_l a0.l.length ca0_l), (10, .int .i64 (widthS a0.l))] w1032 := by
  intro w1032 hS
  refine An_any [0, 7] (by decide +kernel) (by decide) (List.forall_mem_cons.2 ⟨?_, (List.forall_mem_cons.2 ⟨?_, (fun _ h => by cases h)⟩)⟩)
  ·refine ⟨_, rfl, by decide, ?_⟩
   refine Sv_val rfl (R_fld rfl rfl fld63_0) ?_
   exact An_fr [(1, .pointer (some ⟨b2, 0, none⟩)), (4, .pointer (some ⟨b2, 0, none⟩)), (8, .pointer (some ⟨b2, 0, none⟩)), (9, .slice Aa0_l a0.l.length ca0_l), (10, .int .i64 (widthS a0.l))] rfl (hI1_x3_16 w1032 (hS.fin [0] (by decide) rfl))
  ·refine ⟨_, rfl, by decide, ?_⟩
   refine Sv_val rfl (R_max rfl rfl) ?_
   exact An_fr [(1, .pointer (some ⟨b2, 0, none⟩)), (8, .pointer (some ⟨b2, 0, none⟩)), (9, .slice Aa0_l a0.l.length ca0_l), (10, .int .i64 (widthS a0.l)), (11, .int .i64 (max (widthS a0.l) 1))] rfl (hI1_x3_17 w1032 (hS.fin [0] (by decide) rfl))
 have hI1_x3_22 : ∀ (w1033 : World) , Sp (FF []) w z w1033 [bR b2 63 [.slice Aa0_l a0.l.length ca0_l]] → A_w5 8 #[true, true, false, false, false, false, false, false, false, false] [(1, .pointer (some ⟨b2, 0, none⟩)), (4, .pointer (some ⟨b2, 0, none⟩)), (5, .slice Aa0_l a0.l.length ca0_l)] w1033 := by
  intro w1033 hS
  refine An_any [2, 4] (by decide +kernel) (by decide) (List.forall_mem_cons.2 ⟨?_, (List.forall_mem_cons.2 ⟨?_, (fun _ h => by cases h)⟩)⟩)
  ·refine ⟨_, rfl, by decide, ?_⟩
   refine Sv_val rfl (R_len rfl rfl Try.underlying22) ?_
   exact An_fr [(1, .pointer (some ⟨b2, 0, none⟩)), (4, .pointer (some ⟨b2, 0, none⟩)), (5, .slice Aa0_l a0.l.length ca0_l), (6, .int .i64 (a0.l.length : Int))] rfl (hI1_x3_18 w1033 (hS.fin [0] (by decide) rfl))
  ·refine ⟨_, rfl, by decide, ?_⟩
   refine Sv_val rfl (R_fld rfl rfl fld63_0) ?_
   exact An_fr [(1, .pointer (some ⟨b2, 0, none⟩)), (4, .pointer (some ⟨b2, 0, none⟩)), (5, .slice Aa0_l a0.l.length ca0_l), (8, .pointer (some ⟨b2, 0, none⟩))] rfl (hI1_x3_19 w1033 (hS.fin [0] (by decide) rfl))
 have hI1_x3_23 : ∀ (w1034 : World) , Sp (FF []) w z w1034 [bR b2 63 [.slice Aa0_l a0.l.length ca0_l]] → A_w5 8 #[true, false, false, false, true, false, false, false, false, false] [(1, .pointer (some ⟨b2, 0, none⟩)), (4, .pointer (some ⟨b2, 0, none⟩)), (8, .pointer (some ⟨b2, 0, none⟩))] w1034 := by
  intro w1034 hS
  refine An_any [1, 5] (by decide +kernel) (by decide) (List.forall_mem_cons.2 ⟨?_, (List.forall_mem_cons.2 ⟨?_, (fun _ h => by cases h)⟩)⟩)
  ·refine ⟨_, rfl, by decide, ?_⟩
   refine Sv_val rfl (R_load1 rfl rfl agg22 ((hS.bx 0 rfl).cell rfl)) ?_
   exact An_fr [(1, .pointer (some ⟨b2, 0, none⟩)), (4, .pointer (some ⟨b2, 0, none⟩)), (5, .slice Aa0_l a0.l.length ca0_l), (8, .pointer (some ⟨b2, 0, none⟩))] rfl (hI1_x3_19 w1034 (hS.fin [0] (by decide) rfl))
  ·refine ⟨_, rfl, by decide, ?_⟩
   refine Sv_val rfl (R_load1 rfl rfl agg22 ((hS.bx 0 rfl).cell rfl)) ?_
   exact An_fr [(1, .pointer (some ⟨b2, 0, none⟩)), (4, .pointer (some ⟨b2, 0, none⟩)), (8, .pointer (some ⟨b2, 0, none⟩)), (9, .slice Aa0_l a0.l.length ca0_l)] rfl (hI1_x3_20 w1034 (hS.fin [0] (by decide) rfl))
 have hI1_x3_24 : ∀ (w1035 : World) , Sp (FF []) w z w1035 [bR b2 63 [.slice Aa0_l a0.l.length ca0_l]] → A_w5 8 #[false, false, false, false, true, true, false, false, false, false] [(1, .pointer (some ⟨b2, 0, none⟩)), (8, .pointer (some ⟨b2, 0, none⟩)), (9, .slice Aa0_l a0.l.length ca0_l)] w1035 := by
  intro w1035 hS
  refine An_any [0, 6] (by decide +kernel) (by decide) (List.forall_mem_cons.2 ⟨?_, (List.forall_mem_cons.2 ⟨?_, (fun _ h => by cases h)⟩)⟩)
  ·refine ⟨_, rfl, by decide, ?_⟩
   refine Sv_val rfl (R_fld rfl rfl fld63_0) ?_
   exact An_fr [(1, .pointer (some ⟨b2, 0, none⟩)), (4, .pointer (some ⟨b2, 0, none⟩)), (8, .pointer (some ⟨b2, 0, none⟩)), (9, .slice Aa0_l a0.l.length ca0_l)] rfl (hI1_x3_20 w1035 (hS.fin [0] (by decide) rfl))
  ·refine ⟨_, rfl, by decide, ?_⟩
   refine Sv_call rfl rfl rfl ent14 ?_
   refine (width_calls a0.l Aa0_l ca0_l _ _ hS.out0 (hra0_l.mono (hS.zl [])) hca0_l ).mono ?_
   rintro e_ w1036 ⟨rfl, hS_⟩
   refine ⟨_, rfl, ?_⟩
   have hS := hS.call0 hS_
   exact An_fr [(1, .pointer (some ⟨b2, 0, none⟩)), (8, .pointer (some ⟨b2, 0, none⟩)), (9, .slice Aa0_l a0.l.length ca0_l), (10, .int .i64 (widthS a0.l))] rfl (hI1_x3_21 w1036 (hS.fin [0] (by decide) rfl))
 have hI1_x3_25 : ∀ (w1037 : World) , Sp (FF []) w z w1037 [bR b2 63 [.slice Aa0_l a0.l.length ca0_l]] → A_w5 9 #[true, false, false, false, false, false, false, false, false, false] [(1, .pointer (some ⟨b2, 0, none⟩)), (4, .pointer (some ⟨b2, 0, none⟩))] w1037 := by
  intro w1037 hS
  refine An_any [1, 4] (by decide +kernel) (by decide) (List.forall_mem_cons.2 ⟨?_, (List.forall_mem_cons.2 ⟨?_, (fun _ h => by cases h)⟩)⟩)
  ·refine ⟨_, rfl, by decide, ?_⟩
   refine Sv_val rfl (R_load1 rfl rfl agg22 ((hS.bx 0 rfl).cell rfl)) ?_
   exact An_fr [(1, .pointer (some ⟨b2, 0, none⟩)), (4, .pointer (some ⟨b2, 0, none⟩)), (5, .slice Aa0_l a0.l.length ca0_l)] rfl (hI1_x3_22 w1037 (hS.fin [0] (by decide) rfl))
  ·refine ⟨_, rfl, by decide, ?_⟩
   refine Sv_val rfl (R_fld rfl rfl fld63_0) ?_
   exact An_fr [(1, .pointer (some ⟨b2, 0, none⟩)), (4, .pointer (some ⟨b2, 0, none⟩)), (8, .pointer (some ⟨b2, 0, none⟩))] rfl (hI1_x3_23 w1037 (hS.fin [0] (by decide) rfl))
 have hI1_x3_26 : ∀ (w1038 : World) , Sp (FF []) w z w1038 [bR b2 63 [.slice Aa0_l a0.l.length ca0_l]] → A_w5 9 #[false, false, false, false, true, false, false, false, false, false] [(1, .pointer (some ⟨b2, 0, none⟩)), (8, .pointer (some ⟨b2, 0, none⟩))] w1038 := by
  intro w1038 hS
  refine An_any [0, 5] (by decide +kernel) (by decide) (List.forall_mem_cons.2 ⟨?_, (List.forall_mem_cons.2 ⟨?_, (fun _ h => by cases h)⟩)⟩)
  ·refine ⟨_, rfl, by decide, ?_⟩
   refine Sv_val rfl (R_fld rfl rfl fld63_0) ?_
   exact An_fr [(1, .pointer (some ⟨b2, 0, none⟩)), (4, .pointer (some ⟨b2, 0, none⟩)), (8, .pointer (some ⟨b2, 0, none⟩))] rfl (hI1_x3_23 w1038 (hS.fin [0] (by decide) rfl))
  ·refine ⟨_, rfl, by decide, ?_⟩
   refine Sv_val rfl (R_load1 rfl rfl agg22 ((hS.bx 0 rfl).cell rfl)) ?_
   exact An_fr [(1, .pointer (some ⟨b2, 0, none⟩)), (8, .pointer (some ⟨b2, 0, none⟩)), (9, .slice Aa0_l a0.l.length ca0_l)] rfl (hI1_x3_24 w1038 (hS.fin [0] (by decide) rfl))
 refine An_any [0, 4] (by decide +kernel) (by decide) (List.forall_mem_cons.2 ⟨?_, (List.forall_mem_cons.2 ⟨?_, (fun _ h => by cases h)⟩)⟩)
 ·refine ⟨_, rfl, by decide, ?_⟩
  refine Sv_val rfl (R_fld rfl rfl fld63_0) ?_
  exact An_fr [(1, .pointer (some ⟨b2, 0, none⟩)), (4, .pointer (some ⟨b2, 0, none⟩))] rfl (hI1_x3_25 w5 (hS.fin [0] (by decide) rfl))
 ·refine ⟨_, rfl, by decide, ?_⟩
  refine Sv_val rfl (R_fld rfl rfl fld63_0) ?_
  exact An_fr [(1, .pointer (some ⟨b2, 0, none⟩)), (8, .pointer (some ⟨b2, 0, none⟩))] rfl (hI1_x3_26 w5 (hS.fin [0] (by decide) rfl))

set_option maxHeartbeats 400000 in
set_option maxRecDepth 20000 in
theorem tufield_calls (va0 : Value) (ma0 na0 : Int) (fa0 : Int → Int → St) (zca0 : Z) (Ka0 : Nat) (a1 : Int) (a2 : Int) (z : Z) (w : World) (hI : In z w []) (Ha0 : ISh Try.prog Ka0 zca0 va0 ma0 na0 fa0) (hza0 : zle zca0 z) (hKa0 : Ka0 ≤ 10) (p0 : 0 ≤ a1) (p1 : 0 ≤ a2) :
    Calls Try.prog 121 #[.agg #[va0], .int .i64 a1, .int .i64 a2] w fun e w' => e = .returned (vstr (fa0 a2 a1)) ∧ Sp (FF []) w z w' [] := by
 have hS := hI.sp
 refine Calls_of (vs := [.agg #[va0], .int .i64 a1, .int .i64 a2]) (N := 12) Try.func121 rfl rfl (Nat.le_of_ble_eq_true rfl) ?_
 refine C_seq ?_
 refine C_region ?_
 refine W_cons rfl (by decide) (S_box hS rfl (R_box (cs := [va0]) rfl rfl rfl) (fun b2 w1 hS => ?_))
 refine W_cons rfl (by decide) (Sv_val rfl (R_assign rfl rfl) ?_)
 refine W_nil ?_
 refine E_then ?_
 refine C_seq ?_
 refine C_region ?_
 refine W_cons rfl (by decide) (Sv_val rfl (R_fld rfl rfl fld68_0) ?_)
 refine W_cons rfl (by decide) (Sv_val rfl (R_load1 rfl rfl agg65 ((hS.bx 0 rfl).cell rfl)) ?_)
 refine W_cons rfl (by decide) (Sv_val rfl (R_move rfl rfl) ?_)
 refine W_cons rfl (by decide) (Sv_val rfl (R_move rfl rfl) ?_)
 refine W_cons rfl (by decide) (S_ivfield Ha0 hS hza0 hKa0 bigP rfl rfl rfl rfl rfl (by omega) (by omega) (fun w3 hS => ?_))
 refine W_cons rfl (by decide) (Sv_val rfl (R_assign rfl rfl) ?_)
 refine W_nil ?_
 refine E_then (C_fr [(6, vstr (fa0 a2 a1))] rfl ?_)
 refine C_ret ?_
 refine E_ret1 rfl rfl ?_
 exact ⟨Lret1 (Lstr (show fa0 a2 a1 = fa0 a2 a1 by rfl)), hS.fin [] (by decide) rfl⟩

set_option maxHeartbeats 400000 in
set_option maxRecDepth 20000 in
theorem tusize_calls (va0 : Value) (ma0 na0 : Int) (fa0 : Int → Int → St) (zca0 : Z) (Ka0 : Nat) (z : Z) (w : World) (hI : In z w []) (Ha0 : ISh Try.prog Ka0 zca0 va0 ma0 na0 fa0) (hza0 : zle zca0 z) (hKa0 : Ka0 ≤ 10)  :
    Calls Try.prog 122 #[.agg #[va0]] w fun e w' => e = .returned (.tuple #[.int .i64 na0, .int .i64 ma0]) ∧ Sp (FF []) w z w' [] := by
 have hS := hI.sp
 refine Calls_of (vs := [.agg #[va0]]) (N := 12) Try.func122 rfl rfl (Nat.le_of_ble_eq_true rfl) ?_
 refine C_seq ?_
 refine C_region ?_
 refine W_cons rfl (by decide) (S_box hS rfl (R_box (cs := [va0]) rfl rfl rfl) (fun b2 w1 hS => ?_))
 refine W_cons rfl (by decide) (Sv_val rfl (R_assign rfl rfl) ?_)
 refine W_cons rfl (by decide) (Sv_val rfl (R_assign rfl rfl) ?_)
 refine W_nil ?_
 refine E_then ?_
 refine C_seq ?_
 refine C_region ?_
 refine W_cons rfl (by decide) (Sv_val rfl (R_fld rfl rfl fld68_0) ?_)
 refine W_cons rfl (by decide) (Sv_val rfl (R_load1 rfl rfl agg65 ((hS.bx 0 rfl).cell rfl)) ?_)
 refine W_cons rfl (by decide) (S_ivsize Ha0 hS hza0 hKa0 bigP rfl rfl rfl (fun w3 hS => ?_))
 refine W_cons rfl (by decide) (Sv_val rfl (R_move rfl rfl) ?_)
 refine W_cons rfl (by decide) (Sv_val rfl (R_extract rfl rfl rfl) ?_)
 refine W_cons rfl (by decide) (Sv_val rfl (R_extract rfl rfl rfl) ?_)
 refine W_cons rfl (by decide) (Sv_val rfl (R_assign rfl rfl) ?_)
 refine W_cons rfl (by decide) (Sv_val rfl (R_assign rfl rfl) ?_)
 refine W_nil ?_
 refine E_then (C_fr [(2, .int .i64 na0), (3, .int .i64 ma0)] rfl ?_)
 refine C_seq ?_
 refine C_region ?_
 refine W_cons rfl (by decide) (Sv_val rfl (R_move rfl rfl) ?_)
 refine W_cons rfl (by decide) (Sv_val rfl (R_move rfl rfl) ?_)
 refine W_cons rfl (by decide) (Sv_val rfl (R_assign rfl rfl) ?_)
 refine W_cons rfl (by decide) (Sv_val rfl (R_assign rfl rfl) ?_)
 refine W_nil ?_
 refine E_then ?_
 refine C_ret ?_
 refine E_ret2 rfl rfl rfl ?_
 exact ⟨Lret2 (Lint (show na0 = na0 by rfl)) (Lint (show ma0 = ma0 by rfl)), hS.fin [] (by decide) rfl⟩

set_option maxHeartbeats 400000 in
set_option maxRecDepth 20000 in
theorem cusays_calls (va0 : Value) (ma0 na0 : Int) (fa0 : Int → Int → St) (zca0 : Z) (Ka0 : Nat) (a1 : Int) (a2 : Int) (z : Z) (w : World) (hI : In z w []) (Ha0 : ISh Try.prog Ka0 zca0 va0 ma0 na0 fa0) (hza0 : zle zca0 z) (hKa0 : Ka0 ≤ 10) (p0 : 0 ≤ a1) (p1 : 0 ≤ a2 ∧ a2 ≤ 100000) :
    Calls Try.prog 120 #[.agg #[va0], .int .i64 a1, .int .i64 a2] w fun e w' => e = .returned (.bool (saysS fa0 a1 a2)) ∧ Sp (FF []) w z w' [] := by
 have hS := hI.sp
 refine Calls_of (vs := [.agg #[va0], .int .i64 a1, .int .i64 a2]) (N := 19) Try.func120 rfl rfl (Nat.le_of_ble_eq_true rfl) ?_
 refine C_seq ?_
 refine C_region ?_
 refine W_cons rfl (by decide) (S_box hS rfl (R_box (cs := [va0]) rfl rfl rfl) (fun b2 w1 hS => ?_))
 refine W_cons rfl (by decide) (Sv_val rfl (R_assign rfl rfl) ?_)
 refine W_nil ?_
 refine E_then ?_
 refine C_seq ?_
 refine C_seq ?_
 refine C_region ?_
 refine W_cons rfl (by decide) (Sv_val rfl (R_move rfl rfl) ?_)
 refine W_cons rfl (by decide) (Sv_val rfl (R_move rfl rfl) ?_)
 refine W_nil ?_
 refine E_then ?_
 refine C_block ?_
 refine C_fr [(1, .int .i64 a1), (3, .pointer (some ⟨b2, 0, none⟩)), (8, .int .i64 a2), (9, .int .i64 0)] rfl ?_
 refine C_loop (fun m_ f_ w_ => ∃ (j : Nat), f_ = [(1, .int .i64 a1), (3, .pointer (some ⟨b2, 0, none⟩)), (8, .int .i64 a2), (9, .int .i64 (j : Int))] ∧ (j : Int) ≤ a2 ∧ (List.range j).any (fun (c : Nat) => decide (¬ fa0 a1 (c : Int) = [])) = false ∧ m_ = a2.toNat - j ∧ Sp (FF []) w z w_ [bR b2 67 [va0]]) (a2.toNat - (0 : Nat)) ⟨(0 : Nat), rfl, (by omega), (by rfl), rfl, hS.fin [0] (by decide) rfl⟩ ?_
 rintro m_ f_ w3 ⟨j, rfl, hI0_0, hI0_1, rfl, hS⟩
 refine C_seq ?_
 refine C_region ?_
 refine W_cons rfl (by decide) (Sv_val rfl (R_bin rfl rfl rfl rfl rfl) ?_)
 refine W_nil ?_
 refine E_then ?_
 refine C_seq ?_
 refine C_ite rfl (fun hC0 => ?_) (fun hC0 => ?_)
 ·have _hC0 := trivial
  have hC0p : (j : Int) < a2 := by simpa using hC0
  refine C_skip ?_
  refine E_then ?_
  refine C_seq ?_
  refine C_block ?_
  refine C_seq ?_
  refine C_region ?_
  refine W_cons rfl (by decide) (Sv_val rfl (R_move rfl rfl) ?_)
  refine W_cons rfl (by decide) (Sv_val rfl (R_assign rfl rfl) ?_)
  refine W_nil ?_
  refine E_then ?_
  refine C_seq ?_
  refine C_region ?_
  refine W_cons rfl (by decide) (Sv_val rfl (R_fld rfl rfl fld67_0) ?_)
  refine W_cons rfl (by decide) (Sv_val rfl (R_load1 rfl rfl agg65 ((hS.bx 0 rfl).cell rfl)) ?_)
  refine W_cons rfl (by decide) (Sv_val rfl (R_move rfl rfl) ?_)
  refine W_cons rfl (by decide) (Sv_val rfl (R_move rfl rfl) ?_)
  refine W_cons rfl (by decide) (S_ivfield Ha0 hS hza0 hKa0 bigP rfl rfl rfl rfl rfl (by omega) (by omega) (fun w4 hS => ?_))
  refine W_cons rfl (by decide) (Sv_val rfl (R_strneq rfl rfl rfl) ?_)
  refine W_nil ?_
  refine E_then (C_fr [(1, .int .i64 a1), (3, .pointer (some ⟨b2, 0, none⟩)), (8, .int .i64 a2), (9, .int .i64 (j : Int)), (17, .bool (!decide ((fa0 a1 (j : Int)) = [])))] rfl ?_)
  refine C_ite rfl (fun hC1 => ?_) (fun hC1 => ?_)
  ·have _hC1 := trivial
   have hC1p : ¬ (fa0 a1 (j : Int)) = [] := by simpa using hC1
   refine C_seq ?_
   refine C_region ?_
   refine W_cons rfl (by decide) (Sv_val rfl (R_assign rfl rfl) ?_)
   refine W_nil ?_
   refine E_then (C_fr [(6, .bool true)] rfl ?_)
   refine C_ret ?_
   refine E_block_ret ?_
   refine E_then_ret ?_
   refine E_then_ret ?_
   refine E_block_ret ?_
   refine E_then_ret ?_
   refine E_ret1 rfl rfl ?_
   exact ⟨Lret1 (Lbool (show true = saysS fa0 a1 a2 by first | exact (any_range (by omega) (by assumption)).symm | (unfold saysS; rw [show a2.toNat = j from by omega]; exact hI0_1.symm))), hS.fin [] (by decide) rfl⟩
  ·have _hC1 := trivial
   have hC1p : (fa0 a1 (j : Int)) = [] := by simpa using hC1
   refine C_skip ?_
   refine E_block_normal ?_
   refine E_then ?_
   refine C_region ?_
   refine W_cons rfl (by decide) (Sv_val rfl (R_add64 rfl rfl rfl (by omega) (by omega)) ?_)
   refine W_cons rfl (by decide) (Sv_val rfl (R_move rfl rfl) ?_)
   refine W_nil ?_
   refine E_round [1, 3, 8, 9] ?_ ⟨(j + 1 : Nat), rfl, (by omega), (by exact any_next hI0_1 (by simp_all)), rfl, hS.fin [0] (by decide) rfl⟩
   omega
 ·have _hC0 := trivial
  have hC0p : ¬ ((j : Int) < a2) := by simpa using hC0
  refine C_exit ?_
  refine E_then_exit ?_
  refine E_then_exit ?_
  refine E_block_hit ?_
  refine E_then (C_fr [] rfl ?_)
  refine C_seq ?_
  refine C_region ?_
  refine W_cons rfl (by decide) (Sv_val rfl (R_assign rfl rfl) ?_)
  refine W_nil ?_
  refine E_then ?_
  refine C_ret ?_
  refine E_ret1 rfl rfl ?_
  exact ⟨Lret1 (Lbool (show false = saysS fa0 a1 a2 by first | exact (any_range (by omega) (by assumption)).symm | (unfold saysS; rw [show a2.toNat = j from by omega]; exact hI0_1.symm))), hS.fin [] (by decide) rfl⟩

set_option maxHeartbeats 400000 in
set_option maxRecDepth 20000 in
theorem cusize_calls (va0 : Value) (ma0 na0 : Int) (fa0 : Int → Int → St) (zca0 : Z) (Ka0 : Nat) (z : Z) (w : World) (hI : In z w []) (Ha0 : ISh Try.prog Ka0 zca0 va0 ma0 na0 fa0) (hza0 : zle zca0 z) (hKa0 : Ka0 ≤ 10) (p0 : 1 ≤ ma0 ∧ ma0 ≤ 100000) (p1 : 0 ≤ na0 ∧ na0 ≤ 100000) :
    Calls Try.prog 119 #[.agg #[va0]] w fun e w' => e = .returned (.tuple #[.int .i64 (cutS fa0 na0 ma0.toNat), .int .i64 na0]) ∧ Sp (FF []) w z w' [] := by
 have hS := hI.sp
 refine Calls_of (vs := [.agg #[va0]]) (N := 24) Try.func119 rfl rfl (Nat.le_of_ble_eq_true rfl) ?_
 refine C_seq ?_
 refine C_region ?_
 refine W_cons rfl (by decide) (S_box hS rfl (R_box (cs := [va0]) rfl rfl rfl) (fun b2 w1 hS => ?_))
 refine W_cons rfl (by decide) (Sv_val rfl (R_assign rfl rfl) ?_)
 refine W_cons rfl (by decide) (Sv_val rfl (R_assign rfl rfl) ?_)
 refine W_nil ?_
 refine E_then ?_
 refine C_seq ?_
 refine C_region ?_
 refine W_cons rfl (by decide) (Sv_val rfl (R_fld rfl rfl fld67_0) ?_)
 refine W_cons rfl (by decide) (Sv_val rfl (R_load1 rfl rfl agg65 ((hS.bx 0 rfl).cell rfl)) ?_)
 refine W_cons rfl (by decide) (S_ivsize Ha0 hS hza0 hKa0 bigP rfl rfl rfl (fun w3 hS => ?_))
 refine W_cons rfl (by decide) (Sv_val rfl (R_move rfl rfl) ?_)
 refine W_cons rfl (by decide) (Sv_val rfl (R_extract rfl rfl rfl) ?_)
 refine W_cons rfl (by decide) (Sv_val rfl (R_extract rfl rfl rfl) ?_)
 refine W_cons rfl (by decide) (Sv_val rfl (R_assign rfl rfl) ?_)
 refine W_cons rfl (by decide) (Sv_val rfl (R_assign rfl rfl) ?_)
 refine W_nil ?_
 refine E_then (C_fr [(1, .pointer (some ⟨b2, 0, none⟩)), (2, .int .i64 ma0), (3, .int .i64 na0)] rfl ?_)
 refine C_seq ?_
 refine C_block ?_
 have hs5 : ma0 = ((ma0.toNat : Nat) : Int) := by omega
 refine C_fr [(1, .pointer (some ⟨b2, 0, none⟩)), (2, .int .i64 ma0), (3, .int .i64 na0)] rfl ?_
 refine C_loop (fun m_ f_ w_ => ∃ (n : Nat), f_ = [(1, .pointer (some ⟨b2, 0, none⟩)), (2, .int .i64 (n : Int)), (3, .int .i64 na0)] ∧ (1 ≤ n ∧ (n : Int) ≤ 100000) ∧ cutS fa0 na0 n = cutS fa0 na0 ma0.toNat ∧ m_ = 2 * n ∧ Sp (FF []) w z w_ [bR b2 67 [va0]]) (2 * (ma0.toNat : Nat)) ⟨(ma0.toNat : Nat), (by rw [← hs5] <;> rfl), (by omega), (by rfl), rfl, hS.fin [0] (by decide) rfl⟩ ?_
 rintro m_ f_ w4 ⟨n, rfl, hI0_0, hI0_1, rfl, hS⟩
 refine C_seq ?_
 refine C_seq ?_
 refine C_region ?_
 refine W_cons rfl (by decide) (Sv_val rfl (R_move rfl rfl) ?_)
 refine W_cons rfl (by decide) (Sv_val rfl (R_bin rfl rfl rfl rfl rfl) ?_)
 refine W_cons rfl (by decide) (Sv_val rfl (R_move rfl rfl) ?_)
 refine W_split (t := 12) rfl (fun hg6 => ?_) (fun hg6 => ?_)
 ·have _hg6 := trivial
  have hg6p : (n : Int) > 1 := by simpa using hg6
  refine W_cons rfl (by decide) (Sv_gt rfl rfl rfl hg6 (Sv_val rfl (R_loadN (cs := [va0]) rfl rfl agg67 size67 rfl (boxcells (hS.bx 0 rfl) 0 rfl)) ?_))
  refine W_cons rfl (by decide) (Sv_gt rfl rfl rfl hg6 (Sv_val rfl (R_move rfl rfl) ?_))
  refine W_cons rfl (by decide) (Sv_gt rfl rfl rfl hg6 (Sv_val rfl (R_sub64 rfl rfl rfl (by omega) (by omega)) ?_))
  refine W_cons rfl (by decide) (Sv_gt rfl rfl rfl hg6 (Sv_val rfl (R_move rfl rfl) ?_))
  refine W_cons rfl (by decide) (Sv_gt rfl rfl rfl hg6 (Sv_call rfl rfl rfl ent120 ?_))
  refine (cusays_calls va0 ma0 na0 fa0 zca0 Ka0 ((n : Int) - 1) na0 _ _ hS.out0 Ha0 (hza0.trans (hS.zl [])) hKa0 (by omega) (by omega)).mono ?_
  rintro e_ w7 ⟨rfl, hS_⟩
  refine ⟨_, rfl, ?_⟩
  have hS := hS.call0 hS_
  refine W_cons rfl (by decide) (Sv_gt rfl rfl rfl hg6 (Sv_val rfl (R_un rfl rfl rfl) ?_))
  refine W_cons rfl (by decide) (Sv_val rfl (R_pick_t rfl rfl hg6 rfl) ?_)
  refine W_nil ?_
  refine E_then ?_
  refine C_ite rfl (fun hC0 => ?_) (fun hC0 => ?_)
  ·have _hC0 := trivial
   have hC0p : ¬ (saysS fa0 ((n : Int) - 1) na0 = true) := by simpa using hC0
   refine C_skip ?_
   refine E_then ?_
   refine C_block ?_
   refine C_region ?_
   refine W_cons rfl (by decide) (Sv_val rfl (R_move rfl rfl) ?_)
   refine W_cons rfl (by decide) (Sv_val rfl (R_sub64 rfl rfl rfl (by omega) (by omega)) ?_)
   refine W_cons rfl (by decide) (Sv_val rfl (R_assign rfl rfl) ?_)
   refine W_nil ?_
   refine E_block_normal ?_
   have hs9 : (n : Int) - 1 = ((n - 1 : Nat) : Int) := by omega
   refine E_round [1, 2, 3] ?_ ⟨(n - 1 : Nat), (by rw [← hs9] <;> rfl), (by omega), (by rw [← hI0_1]; exact (cutS_not (n := n) (fld := fa0) (cols := na0) (by omega) (by simpa using hC0)).symm), rfl, hS.fin [0] (by decide) rfl⟩
   omega
  ·have _hC0 := trivial
   have hC0p : (saysS fa0 ((n : Int) - 1) na0 = true) := by simpa using hC0
   refine C_exit ?_
   refine E_then_exit ?_
   refine E_then_exit ?_
   refine E_block_hit ?_
   refine E_then (C_fr [(2, .int .i64 (n : Int)), (3, .int .i64 na0)] rfl ?_)
   refine C_seq ?_
   refine C_region ?_
   refine W_cons rfl (by decide) (Sv_val rfl (R_move rfl rfl) ?_)
   refine W_cons rfl (by decide) (Sv_val rfl (R_move rfl rfl) ?_)
   refine W_cons rfl (by decide) (Sv_val rfl (R_assign rfl rfl) ?_)
   refine W_cons rfl (by decide) (Sv_val rfl (R_assign rfl rfl) ?_)
   refine W_nil ?_
   refine E_then ?_
   refine C_ret ?_
   refine E_ret2 rfl rfl rfl ?_
   exact ⟨Lret2 (Lint (show (n : Int) = cutS fa0 na0 ma0.toNat by first | (rw [← hI0_1, show n = 1 from by omega]; rfl) | (rw [← hI0_1, cutS_says (by omega) (by simpa using hC0)]))) (Lint (show na0 = na0 by rfl)), hS.fin [] (by decide) rfl⟩
 ·have _hg6 := trivial
  have hg6p : ¬ ((n : Int) > 1) := by simpa using hg6
  refine W_cons rfl (by decide) (Sv_off rfl rfl rfl (by rw [hg6] <;> rfl) ?_)
  refine W_cons rfl (by decide) (Sv_off rfl rfl rfl (by rw [hg6] <;> rfl) ?_)
  refine W_cons rfl (by decide) (Sv_off rfl rfl rfl (by rw [hg6] <;> rfl) ?_)
  refine W_cons rfl (by decide) (Sv_off rfl rfl rfl (by rw [hg6] <;> rfl) ?_)
  refine W_cons rfl (by decide) (Sv_off rfl rfl rfl (by rw [hg6] <;> rfl) ?_)
  refine W_cons rfl (by decide) (Sv_off rfl rfl rfl (by rw [hg6] <;> rfl) ?_)
  refine W_cons rfl (by decide) (Sv_val rfl (R_pick_f rfl rfl hg6 rfl) ?_)
  refine W_nil ?_
  refine E_then ?_
  refine C_else rfl rfl ?_
  refine C_exit ?_
  refine E_then_exit ?_
  refine E_then_exit ?_
  refine E_block_hit ?_
  refine E_then (C_fr [(2, .int .i64 (n : Int)), (3, .int .i64 na0)] rfl ?_)
  refine C_seq ?_
  refine C_region ?_
  refine W_cons rfl (by decide) (Sv_val rfl (R_move rfl rfl) ?_)
  refine W_cons rfl (by decide) (Sv_val rfl (R_move rfl rfl) ?_)
  refine W_cons rfl (by decide) (Sv_val rfl (R_assign rfl rfl) ?_)
  refine W_cons rfl (by decide) (Sv_val rfl (R_assign rfl rfl) ?_)
  refine W_nil ?_
  refine E_then ?_
  refine C_ret ?_
  refine E_ret2 rfl rfl rfl ?_
  exact ⟨Lret2 (Lint (show (n : Int) = cutS fa0 na0 ma0.toNat by first | (rw [← hI0_1, show n = 1 from by omega]; rfl) | (rw [← hI0_1, cutS_says (by omega) (by simpa using hC0)]))) (Lint (show na0 = na0 by rfl)), hS.fin [] (by decide) rfl⟩

theorem ish_plain {l : Rows} {A : Option Addr} {c : Nat} {zc : Z} (hr : Rd (kslice kstr) zc A l) (hc : Cap A l.length c) : ISh Try.prog 0 zc (.iface 63 (.agg #[.slice A l.length c])) (max (l.length : Int) 1) (max (widthS l) 1) (fldS l) :=
  ⟨⟨0, 118, .agg #[.slice A l.length c], Nat.le_refl _, ⟨63, _, rfl, fun fuel w hf => by kernel_rfl, ent118⟩, fun hz hI => psize_calls ⟨l⟩ A c _ _ hI (hr.mono hz) hc⟩,
   ⟨0, 117, .agg #[.slice A l.length c], Nat.le_refl _, ⟨63, _, rfl, fun fuel w hf => by kernel_rfl, ent117⟩, fun a b hz hI ha hb => pfield_calls ⟨l⟩ A c a b _ _ hI (hr.mono hz) hc ha hb⟩⟩
theorem ish_turned {v : Value} {m n : Int} {fl : Int → Int → St} {zc : Z} {K : Nat} (H : ISh Try.prog K zc v m n fl) (hK : K ≤ 10) : ISh Try.prog K zc (.iface 68 (.agg #[v])) n m (fun a b => fl b a) :=
  ⟨⟨0, 122, .agg #[v], Nat.zero_le _, ⟨68, _, rfl, fun fuel w hf => by kernel_rfl, ent122⟩, fun hz hI => tusize_calls v m n fl zc K _ _ hI H hz hK⟩,
   ⟨0, 121, .agg #[v], Nat.zero_le _, ⟨68, _, rfl, fun fuel w hf => by kernel_rfl, ent121⟩, fun a b hz hI ha hb => tufield_calls v m n fl zc K a b _ _ hI H hz hK ha hb⟩⟩
theorem ish_cut {v : Value} {m n : Int} {fl : Int → Int → St} {zc : Z} {K : Nat} (H : ISh Try.prog K zc v m n fl) (hK : K ≤ 10) (hm : 1 ≤ m ∧ m ≤ 100000) (hn : 0 ≤ n ∧ n ≤ 100000) : ISh Try.prog (K + 1) zc (.iface 67 (.agg #[v])) (cutS fl n m.toNat) n fl :=
  ⟨⟨0, 119, .agg #[v], Nat.zero_le _, ⟨67, _, rfl, fun fuel w hf => by kernel_rfl, ent119⟩, fun hz hI => cusize_calls v m n fl zc K _ _ hI H hz hK hm hn⟩, by
   obtain ⟨d, g, r, hd, ⟨t, u, rfl, h1, h2⟩, h3⟩ := H.field
   refine ⟨d + 1, g, r, by omega, ⟨67, _, rfl, fun fuel w hf => ?_, h2⟩, h3⟩
   obtain ⟨fuel', rfl⟩ : ∃ f', fuel = f' + 1 := ⟨fuel - 1, by omega⟩
   have h4 : (method (fuel' + 1 + 1) 67 (.agg #[.iface t u]) "parquetry/table.field").run Try.prog w = (method (fuel' + 1) t u "parquetry/table.field").run Try.prog w := by kernel_rfl
   rw [h4]
   exact h1 fuel' w (by omega)⟩

set_option maxHeartbeats 400000 in
set_option maxRecDepth 20000 in
theorem fill_calls (a0 : List (List St)) (Aa0 : Option Addr) (ca0 : Nat) (z : Z) (w : World) (hI : In z w []) (hra0 : Rd (kslice kstr) z Aa0 a0) (hca0 : Cap Aa0 a0.length ca0) (p0 : a0.length ≤ 10000) (p1 : widthS a0 ≤ 10000) :
    Calls Try.prog 19 #[.slice Aa0 a0.length ca0] w fun e w' => ∃ (AR0 : Option Addr) (cR0 : Nat) (qR0 : Z), e = .returned (.slice AR0 (fillS a0).length cR0) ∧ Sp (FF []) w z w' [zR qR0, oR (kslice kstr) 31 qR0 AR0 cR0 (fillS a0)] := by
 have hla0 := hca0.le
 have hma0 := hca0.mx
 have hS := hI.sp
 have hwn := widthS_nonneg a0
 refine Calls_of (vs := [.slice Aa0 a0.length ca0]) (N := 7) Try.func19 rfl rfl (Nat.le_of_ble_eq_true rfl) ?_
 refine C_seq ?_
 refine C_region ?_
 refine W_cons rfl (by decide) (Sv_val rfl (R_assign rfl rfl) ?_)
 refine W_nil ?_
 refine E_then ?_
 refine C_seq ?_
 refine C_region ?_
 refine W_cons rfl (by decide) (Sv_val rfl (R_move rfl rfl) ?_)
 refine W_cons rfl (by decide) (Sv_val rfl (R_build (w' := w) (ps := [(0, (.tmp 3))]) (vs := [.slice Aa0 a0.length ca0]) (r := .agg #[.slice Aa0 a0.length ca0]) rfl rfl rfl (by kernel_rfl)) ?_)
 refine W_cons rfl (by decide) (Sv_val rfl (R_iface rfl rfl conc63) ?_)
 refine W_cons rfl (by decide) (Sv_call rfl rfl rfl ent47 ?_)
 refine (laid_calls (.iface 63 (.agg #[.slice Aa0 a0.length ca0])) (max (a0.length : Int) 1) (max (widthS a0) 1) (fldS a0) z 0 _ _ hS.out0 (ish_plain hra0 hca0) (hS.zl []) (by decide) (by omega) (by omega)).mono ?_
 rintro e_ w1 ⟨AR0_2, cR0_2, qR0_2, rfl, hS_⟩
 refine ⟨_, rfl, ?_⟩
 have hS := hS.call0 hS_
 have hp3 := hS.cap 1 rfl
 have hlhp3 := hp3.le
 have hmhp3 := hp3.mx
 refine W_cons rfl (by decide) (Sv_val rfl (R_assign rfl rfl) ?_)
 refine W_nil ?_
 refine E_then (C_fr [(2, .slice AR0_2 (laidS (max (a0.length : Int) 1) (max (widthS a0) 1) (fldS a0)).length cR0_2)] rfl ?_)
 refine C_ret ?_
 have hq4 : laidS (max (a0.length : Int) 1) (max (widthS a0) 1) (fldS a0) = fillS a0 := by rfl
 have hS := hS.re 1 rfl hq4
 refine E_ret1 rfl rfl ?_
 exact ⟨AR0_2, cR0_2, qR0_2, Lret1 (Lslice hq4), hS.fin [0, 1] (by decide) rfl⟩

set_option maxHeartbeats 400000 in
set_option maxRecDepth 20000 in
theorem turn_calls (a0 : List (List St)) (Aa0 : Option Addr) (ca0 : Nat) (z : Z) (w : World) (hI : In z w []) (hra0 : Rd (kslice kstr) z Aa0 a0) (hca0 : Cap Aa0 a0.length ca0) (p0 : a0.length ≤ 10000) (p1 : widthS a0 ≤ 10000) :
    Calls Try.prog 21 #[.slice Aa0 a0.length ca0] w fun e w' => ∃ (AR0 : Option Addr) (cR0 : Nat) (qR0 : Z), e = .returned (.slice AR0 (turnS a0).length cR0) ∧ Sp (FF []) w z w' [zR qR0, oR (kslice kstr) 31 qR0 AR0 cR0 (turnS a0)] := by
 have hla0 := hca0.le
 have hma0 := hca0.mx
 have hS := hI.sp
 have hwn := widthS_nonneg a0
 refine Calls_of (vs := [.slice Aa0 a0.length ca0]) (N := 9) Try.func21 rfl rfl (Nat.le_of_ble_eq_true rfl) ?_
 refine C_seq ?_
 refine C_region ?_
 refine W_cons rfl (by decide) (Sv_val rfl (R_assign rfl rfl) ?_)
 refine W_nil ?_
 refine E_then ?_
 refine C_seq ?_
 refine C_region ?_
 refine W_cons rfl (by decide) (Sv_val rfl (R_move rfl rfl) ?_)
 refine W_cons rfl (by decide) (Sv_val rfl (R_build (w' := w) (ps := [(0, (.tmp 3))]) (vs := [.slice Aa0 a0.length ca0]) (r := .agg #[.slice Aa0 a0.length ca0]) rfl rfl rfl (by kernel_rfl)) ?_)
 refine W_cons rfl (by decide) (Sv_val rfl (R_iface rfl rfl conc63) ?_)
 refine W_cons rfl (by decide) (Sv_val rfl (R_build (w' := w) (ps := [(0, (.tmp 5))]) (vs := [.iface 63 (.agg #[.slice Aa0 a0.length ca0])]) (r := .agg #[.iface 63 (.agg #[.slice Aa0 a0.length ca0])]) rfl rfl rfl (by kernel_rfl)) ?_)
 refine W_cons rfl (by decide) (Sv_val rfl (R_iface rfl rfl conc68) ?_)
 refine W_cons rfl (by decide) (Sv_call rfl rfl rfl ent47 ?_)
 refine (laid_calls (.iface 68 (.agg #[.iface 63 (.agg #[.slice Aa0 a0.length ca0])])) (max (widthS a0) 1) (max (a0.length : Int) 1) (fun a b => (fldS a0) b a) z 0 _ _ hS.out0 (ish_turned (ish_plain hra0 hca0) (by decide)) (hS.zl []) (by decide) (by omega) (by omega)).mono ?_
 rintro e_ w1 ⟨AR0_2, cR0_2, qR0_2, rfl, hS_⟩
 refine ⟨_, rfl, ?_⟩
 have hS := hS.call0 hS_
 have hp3 := hS.cap 1 rfl
 have hlhp3 := hp3.le
 have hmhp3 := hp3.mx
 refine W_cons rfl (by decide) (Sv_val rfl (R_assign rfl rfl) ?_)
 refine W_nil ?_
 refine E_then (C_fr [(2, .slice AR0_2 (laidS (max (widthS a0) 1) (max (a0.length : Int) 1) (fun a b => (fldS a0) b a)).length cR0_2)] rfl ?_)
 refine C_ret ?_
 have hq4 : laidS (max (widthS a0) 1) (max (a0.length : Int) 1) (fun a b => (fldS a0) b a) = turnS a0 := by rfl
 have hS := hS.re 1 rfl hq4
 refine E_ret1 rfl rfl ?_
 exact ⟨AR0_2, cR0_2, qR0_2, Lret1 (Lslice hq4), hS.fin [0, 1] (by decide) rfl⟩

set_option maxHeartbeats 400000 in
set_option maxRecDepth 20000 in
theorem trim_calls (a0 : List (List St)) (Aa0 : Option Addr) (ca0 : Nat) (z : Z) (w : World) (hI : In z w []) (hra0 : Rd (kslice kstr) z Aa0 a0) (hca0 : Cap Aa0 a0.length ca0) (p0 : a0.length ≤ 10000) (p1 : widthS a0 ≤ 10000) :
    Calls Try.prog 20 #[.slice Aa0 a0.length ca0] w fun e w' => ∃ (AR0 : Option Addr) (cR0 : Nat) (qR0 : Z), e = .returned (.slice AR0 (trimS a0).length cR0) ∧ Sp (FF []) w z w' [zR qR0, oR (kslice kstr) 31 qR0 AR0 cR0 (trimS a0)] := by
 have hla0 := hca0.le
 have hma0 := hca0.mx
 have hS := hI.sp
 have hwn := widthS_nonneg a0
 have hb1 := cutS_bd (fldS a0) (max (widthS a0) 1) (max (a0.length : Int) 1).toNat (by omega)
 have hb2 := cutS_bd (fun a b => fldS a0 b a) (cutS (fldS a0) (max (widthS a0) 1) (max (a0.length : Int) 1).toNat) (max (widthS a0) 1).toNat (by omega)
 refine Calls_of (vs := [.slice Aa0 a0.length ca0]) (N := 15) Try.func20 rfl rfl (Nat.le_of_ble_eq_true rfl) ?_
 refine C_seq ?_
 refine C_region ?_
 refine W_cons rfl (by decide) (Sv_val rfl (R_assign rfl rfl) ?_)
 refine W_nil ?_
 refine E_then ?_
 refine C_seq ?_
 refine C_region ?_
 refine W_cons rfl (by decide) (Sv_val rfl (R_move rfl rfl) ?_)
 refine W_cons rfl (by decide) (Sv_val rfl (R_build (w' := w) (ps := [(0, (.tmp 3))]) (vs := [.slice Aa0 a0.length ca0]) (r := .agg #[.slice Aa0 a0.length ca0]) rfl rfl rfl (by kernel_rfl)) ?_)
 refine W_cons rfl (by decide) (Sv_val rfl (R_iface rfl rfl conc63) ?_)
 refine W_cons rfl (by decide) (Sv_val rfl (R_build (w' := w) (ps := [(0, (.tmp 5))]) (vs := [.iface 63 (.agg #[.slice Aa0 a0.length ca0])]) (r := .agg #[.iface 63 (.agg #[.slice Aa0 a0.length ca0])]) rfl rfl rfl (by kernel_rfl)) ?_)
 refine W_cons rfl (by decide) (Sv_val rfl (R_iface rfl rfl conc67) ?_)
 refine W_cons rfl (by decide) (Sv_val rfl (R_build (w' := w) (ps := [(0, (.tmp 7))]) (vs := [.iface 67 (.agg #[.iface 63 (.agg #[.slice Aa0 a0.length ca0])])]) (r := .agg #[.iface 67 (.agg #[.iface 63 (.agg #[.slice Aa0 a0.length ca0])])]) rfl rfl rfl (by kernel_rfl)) ?_)
 refine W_cons rfl (by decide) (Sv_val rfl (R_iface rfl rfl conc68) ?_)
 refine W_cons rfl (by decide) (Sv_val rfl (R_build (w' := w) (ps := [(0, (.tmp 9))]) (vs := [.iface 68 (.agg #[.iface 67 (.agg #[.iface 63 (.agg #[.slice Aa0 a0.length ca0])])])]) (r := .agg #[.iface 68 (.agg #[.iface 67 (.agg #[.iface 63 (.agg #[.slice Aa0 a0.length ca0])])])]) rfl rfl rfl (by kernel_rfl)) ?_)
 refine W_cons rfl (by decide) (Sv_val rfl (R_iface rfl rfl conc67) ?_)
 refine W_cons rfl (by decide) (Sv_val rfl (R_build (w' := w) (ps := [(0, (.tmp 11))]) (vs := [.iface 67 (.agg #[.iface 68 (.agg #[.iface 67 (.agg #[.iface 63 (.agg #[.slice Aa0 a0.length ca0])])])])]) (r := .agg #[.iface 67 (.agg #[.iface 68 (.agg #[.iface 67 (.agg #[.iface 63 (.agg #[.slice Aa0 a0.length ca0])])])])]) rfl rfl rfl (by kernel_rfl)) ?_)
 refine W_cons rfl (by decide) (Sv_val rfl (R_iface rfl rfl conc68) ?_)
 refine W_cons rfl (by decide) (Sv_call rfl rfl rfl ent47 ?_)
 refine (laid_calls (.iface 68 (.agg #[.iface 67 (.agg #[.iface 68 (.agg #[.iface 67 (.agg #[.iface 63 (.agg #[.slice Aa0 a0.length ca0])])])])])) (cutS (fldS a0) (max (widthS a0) 1) (max (a0.length : Int) 1).toNat) (cutS (fun a b => (fldS a0) b a) (cutS (fldS a0) (max (widthS a0) 1) (max (a0.length : Int) 1).toNat) (max (widthS a0) 1).toNat) (fun a b => (fun a b => (fldS a0) b a) b a) z ((0 + 1) + 1) _ _ hS.out0 (ish_turned (ish_cut (ish_turned (ish_cut (ish_plain hra0 hca0) (by decide) (by omega) (by omega)) (by decide)) (by decide) (by omega) (by omega)) (by decide)) (hS.zl []) (by decide) (by omega) (by omega)).mono ?_
 rintro e_ w1 ⟨AR0_2, cR0_2, qR0_2, rfl, hS_⟩
 refine ⟨_, rfl, ?_⟩
 have hS := hS.call0 hS_
 have hp3 := hS.cap 1 rfl
 have hlhp3 := hp3.le
 have hmhp3 := hp3.mx
 refine W_cons rfl (by decide) (Sv_val rfl (R_assign rfl rfl) ?_)
 refine W_nil ?_
 refine E_then (C_fr [(2, .slice AR0_2 (laidS (cutS (fldS a0) (max (widthS a0) 1) (max (a0.length : Int) 1).toNat) (cutS (fun a b => (fldS a0) b a) (cutS (fldS a0) (max (widthS a0) 1) (max (a0.length : Int) 1).toNat) (max (widthS a0) 1).toNat) (fun a b => (fun a b => (fldS a0) b a) b a)).length cR0_2)] rfl ?_)
 refine C_ret ?_
 have hq4 : laidS (cutS (fldS a0) (max (widthS a0) 1) (max (a0.length : Int) 1).toNat) (cutS (fun a b => (fldS a0) b a) (cutS (fldS a0) (max (widthS a0) 1) (max (a0.length : Int) 1).toNat) (max (widthS a0) 1).toNat) (fun a b => (fun a b => (fldS a0) b a) b a) = trimS a0 := by rfl
 have hS := hS.re 1 rfl hq4
 refine E_ret1 rfl rfl ?_
 exact ⟨AR0_2, cR0_2, qR0_2, Lret1 (Lslice hq4), hS.fin [0, 1] (by decide) rfl⟩

set_option maxHeartbeats 400000 in
set_option maxRecDepth 20000 in
theorem own_calls (a0 : List (List St)) (Aa0 : Option Addr) (ca0 : Nat) (z : Z) (w : World) (hI : In z w []) (hra0 : Rd (kslice kstr) z Aa0 a0) (hca0 : Cap Aa0 a0.length ca0) (p0 : a0.length ≤ 10000) (p1 : widthS a0 ≤ 10000) :
    Calls Try.prog 18 #[.slice Aa0 a0.length ca0] w fun e w' => ∃ (AR0 : Option Addr) (cR0 : Nat) (qR0 : Z), e = .returned (.slice AR0 a0.length cR0) ∧ Sp (FF []) w z w' [zR qR0, oR (kslice kstr) 31 qR0 AR0 cR0 a0] := by
 have hla0 := hca0.le
 have hma0 := hca0.mx
 have hS := hI.sp
 refine Calls_of (vs := [.slice Aa0 a0.length ca0]) (N := 21) Try.func18 rfl rfl (Nat.le_of_ble_eq_true rfl) ?_
 refine C_seq ?_
 refine C_region ?_
 refine W_cons rfl (by decide) (Sv_val rfl (R_assign rfl rfl) ?_)
 refine W_nil ?_
 refine E_then ?_
 refine C_seq ?_
 refine C_region ?_
 refine W_cons rfl (by decide) (Sv_val rfl (R_assign rfl rfl) ?_)
 refine W_nil ?_
 refine E_then ?_
 refine C_seq ?_
 refine C_seq ?_
 refine C_region ?_
 refine W_cons rfl (by decide) (Sv_val rfl (R_assign rfl rfl) ?_)
 refine W_nil ?_
 refine E_then ?_
 refine C_block ?_
 obtain ⟨z4, hS⟩ := hS.famx
 have hS := hS.nilrow (kslice kstr) 31 z4
 have hs6 : ([] : List (List St)) = a0.take (0 : Nat) := by rfl
 have hS := hS.re 0 rfl hs6
 refine C_fr [(0, .slice Aa0 a0.length ca0), (3, .slice none 0 0), (4, .int .i64 0)] rfl ?_
 refine C_loop (fun m_ f_ w_ => ∃ (i : Nat) (Ar1 : Option Addr) (cr1 : Nat) (z2 : Z), f_ = [(0, .slice Aa0 a0.length ca0), (3, .slice Ar1 (a0.take i).length cr1), (4, .int .i64 (i : Int))] ∧ i ≤ a0.length ∧ m_ = a0.length - i ∧ Sp (FF []) w z w_ [zR z2, oR (kslice kstr) 31 z2 Ar1 cr1 (a0.take i)]) (a0.length - (0 : Nat)) ⟨(0 : Nat), none, 0, z4, (by rw [← hs6] <;> rfl), (by omega), rfl, hS.fin [1, 0] (by decide) rfl⟩ ?_
 rintro m_ f_ w3 ⟨i, Ar1, cr1, z2, rfl, hI0_0, rfl, hS⟩
 have hp7 := hS.cap 1 rfl
 have hlhp7 := hp7.le
 have hmhp7 := hp7.mx
 refine C_seq ?_
 refine C_seq ?_
 refine C_region ?_
 refine W_cons rfl (by decide) (Sv_val rfl (R_move rfl rfl) ?_)
 refine W_cons rfl (by decide) (Sv_val rfl (R_move rfl rfl) ?_)
 refine W_cons rfl (by decide) (Sv_val rfl (R_len rfl rfl Try.underlying22) ?_)
 refine W_cons rfl (by decide) (Sv_val rfl (R_bin rfl rfl rfl rfl rfl) ?_)
 refine W_nil ?_
 refine E_then ?_
 refine C_ite rfl (fun hC0 => ?_) (fun hC0 => ?_)
 ·have _hC0 := trivial
  have hC0p : (i : Int) < (a0.length : Int) := by simpa using hC0
  refine C_skip ?_
  refine E_then ?_
  refine C_seq ?_
  refine C_block ?_
  have hwg := widthS_ge a0 _ (getD_mem (n := i) [] (by omega))
  refine C_region ?_
  refine W_cons rfl (by decide) (Sv_val rfl (R_move rfl rfl) ?_)
  refine W_cons rfl (by decide) (S_row (d := kstr) (q := zE) hS ([] : List St) rfl (R_buildSlice (ps := []) (vs := []) (w' := w3.alloc (.cells [].toArray 9)) (r := .slice (some ⟨w3.heap.size, 0, none⟩) 0 0) rfl rfl rfl (by kernel_rfl)) (by simp [Reps, flat, kstr]) rfl (by decide) (fun g9 w8 hS => ?_))
  refine W_cons rfl (by decide) (Sv_val rfl (R_move rfl rfl) ?_)
  refine W_cons rfl (by decide) (Sv_val rfl (R_move rfl rfl) ?_)
  obtain ⟨q10, csq10, hAq10, ⟨Aq10, cq10, rfl, hcq10, hrq10⟩, hkq10⟩ := hra0.at_ [] (i := (i : Int)) (by omega) (by omega)
  have hkq10 : ∀ (j_ : Nat) (u_ : Value), ([.slice Aq10 (a0.getD i []).length cq10] : List Value)[j_]? = some u_ → cz z (q10.add (i * 1 + j_)) = some u_ := hkq10
  have hrq10 : Rd kstr z Aq10 ((a0.getD i [])) := hrq10
  have hcq10 : Cap Aq10 ((a0.getD i [])).length cq10 := hcq10
  have hlq10 := hcq10.le
  have hmq10 := hcq10.mx
  refine W_cons rfl (by decide) (Sv_val rfl (R_idx rfl rfl hAq10 rfl Try.underlying22 size31 (by omega) (by omega)) ?_)
  refine W_cons rfl (by decide) (Sv_val rfl (R_load1 rfl rfl agg31 (hS.sub.cell (hkq10 0 _ rfl))) ?_)
  refine W_cons rfl (by decide) (S_append hS 0 rfl rfl rfl elem31 rfl rfl (Sp.srd hS.sub hrq10 hcq10 (fun _ _ h => h)) (by (try simp only [List.length_cons, List.length_nil, List.length_append, List.length_take, maxLen]); omega) (by (try simp only [List.length_cons, List.length_nil, List.length_append, List.length_take, maxLen]); omega) (fun Ar12 cr12 w11 hS => ?_))
  have hp13 := hS.cap 0 rfl
  have hlhp13 := hp13.le
  have hmhp13 := hp13.mx
  have hcz16 := hS.cap 0 rfl
  obtain ⟨z16, hlez16, hrz16, hS⟩ := hS.fz 0 1 rfl rfl (by decide) (zle_E _)
  have hS := hS.lift 1 rfl hlez16
  refine W_cons rfl (by decide) (S_row (d := (kslice kstr)) (q := z16) hS ([([] : List St) ++ (a0.getD i [])] : List (List St)) rfl (R_buildSlice (ps := [(0, (.tmp 17))]) (vs := [.slice Ar12 (([] : List St) ++ (a0.getD i [])).length cr12]) (w' := w11.alloc (.cells [.slice Ar12 (([] : List St) ++ (a0.getD i [])).length cr12].toArray 31)) (r := .slice (some ⟨w11.heap.size, 0, none⟩) 1 1) rfl rfl rfl (by kernel_rfl)) ⟨_, _, rfl, ⟨_, _, rfl, hcz16, hrz16⟩, rfl⟩ rfl (by decide) (fun g15 w14 hS => ?_))
  refine W_cons rfl (by decide) (S_append hS 2 rfl rfl rfl elem22 rfl rfl (hS.sow 0 rfl (fun _ _ h => h)) (by (try simp only [List.length_cons, List.length_nil, List.length_append, List.length_take, maxLen]); omega) (by (try simp only [List.length_cons, List.length_nil, List.length_append, List.length_take, maxLen]); omega) (fun Ar18 cr18 w17 hS => ?_))
  have hp19 := hS.cap 2 rfl
  have hlhp19 := hp19.le
  have hmhp19 := hp19.mx
  refine W_cons rfl (by decide) (Sv_val rfl (R_assign rfl rfl) ?_)
  refine W_nil ?_
  refine E_block_normal ?_
  refine E_then (C_fr [(0, .slice Aa0 a0.length ca0), (3, .slice Ar18 ((a0.take i) ++ ([([] : List St) ++ (a0.getD i [])] : List (List St))).length cr18), (4, .int .i64 (i : Int))] rfl ?_)
  refine C_region ?_
  refine W_cons rfl (by decide) (Sv_val rfl (R_move rfl rfl) ?_)
  refine W_cons rfl (by decide) (Sv_val rfl (R_add64 rfl rfl rfl (by omega) (by omega)) ?_)
  refine W_cons rfl (by decide) (Sv_val rfl (R_assign rfl rfl) ?_)
  refine W_nil ?_
  have hs20 : (a0.take i) ++ ([([] : List St) ++ (a0.getD i [])] : List (List St)) = a0.take (i + 1 : Nat) := by exact (take_snoc a0 i (by omega)).symm
  have hS := hS.re 2 rfl hs20
  refine E_round [0, 3, 4] ?_ ⟨(i + 1 : Nat), Ar18, cr18, z16, (by rw [← hs20] <;> rfl), (by omega), rfl, hS.fin [1, 2] (by decide) rfl⟩
  omega
 ·have _hC0 := trivial
  have hC0p : ¬ ((i : Int) < (a0.length : Int)) := by simpa using hC0
  refine C_exit ?_
  refine E_then_exit ?_
  refine E_then_exit ?_
  refine E_block_hit ?_
  refine E_then (C_fr [(3, .slice Ar1 (a0.take i).length cr1)] rfl ?_)
  refine C_seq ?_
  refine C_region ?_
  refine W_cons rfl (by decide) (Sv_val rfl (R_move rfl rfl) ?_)
  refine W_cons rfl (by decide) (Sv_val rfl (R_assign rfl rfl) ?_)
  refine W_nil ?_
  refine E_then ?_
  refine C_ret ?_
  have hq21 : a0.take i = a0 := by rw [List.take_of_length_le (by omega)]
  have hS := hS.re 1 rfl hq21
  refine E_ret1 rfl rfl ?_
  exact ⟨Ar1, cr1, z2, Lret1 (Lslice hq21), hS.fin [0, 1] (by decide) rfl⟩

set_option maxHeartbeats 400000 in
set_option maxRecDepth 20000 in
theorem rfill_calls (a0 : List (List St)) (Aa0 : Option Addr) (ca0 : Nat) (z : Z) (w : World) (hI : In z w []) (hra0 : Rd (kslice kstr) z Aa0 a0) (hca0 : Cap Aa0 a0.length ca0) (p0 : a0.length ≤ 10000) (p1 : widthS a0 ≤ 10000) :
    Calls Try.prog 23 #[.slice Aa0 a0.length ca0] w fun e w' => ∃ (AR0 : Option Addr) (cR0 : Nat) (qR0 : Z), e = .returned (.slice AR0 (fillS a0).length cR0) ∧ Sp (FF []) w z w' [zR qR0, oR (kslice kstr) 31 qR0 AR0 cR0 (fillS a0)] := by
 have hla0 := hca0.le
 have hma0 := hca0.mx
 have hS := hI.sp
 have hwn := widthS_nonneg a0
 refine Calls_of (vs := [.slice Aa0 a0.length ca0]) (N := 39) Try.func23 rfl rfl (Nat.le_of_ble_eq_true rfl) ?_
 refine C_seq ?_
 refine C_region ?_
 refine W_cons rfl (by decide) (Sv_val rfl (R_assign rfl rfl) ?_)
 refine W_nil ?_
 refine E_then ?_
 refine C_seq ?_
 refine C_region ?_
 refine W_cons rfl (by decide) (Sv_val rfl (R_move rfl rfl) ?_)
 refine W_cons rfl (by decide) (Sv_call rfl rfl rfl ent15 ?_)
 refine (rwidth_calls a0 Aa0 ca0 _ _ hS.out0 (hra0.mono (hS.zl [])) hca0 ).mono ?_
 rintro e_ w1 ⟨rfl, hS_⟩
 refine ⟨_, rfl, ?_⟩
 have hS := hS.call0 hS_
 refine W_cons rfl (by decide) (Sv_val rfl (R_max rfl rfl) ?_)
 refine W_cons rfl (by decide) (Sv_val rfl (R_assign rfl rfl) ?_)
 refine W_nil ?_
 refine E_then ?_
 refine C_seq ?_
 refine C_seq ?_
 refine C_region ?_
 refine W_cons rfl (by decide) (Sv_val rfl (R_move rfl rfl) ?_)
 refine W_cons rfl (by decide) (Sv_val rfl (R_len rfl rfl Try.underlying22) ?_)
 refine W_cons rfl (by decide) (Sv_val rfl (R_bin rfl rfl rfl rfl rfl) ?_)
 refine W_nil ?_
 refine E_then (C_fr [(0, .slice Aa0 a0.length ca0), (3, .int .i64 (max (widthS a0) 1)), (12, .bool ((a0.length : Int) == 0))] rfl ?_)
 refine C_ite rfl (fun hC0 => ?_) (fun hC0 => ?_)
 ·have _hC0 := trivial
  have hC0p : (a0.length : Int) = 0 := by simpa using hC0
  refine C_seq ?_
  refine C_region ?_
  refine W_cons rfl (by decide) (S_row (d := kstr) (q := zE) hS ([[]] : List St) rfl (R_buildSlice (ps := [(0, (.const (.string { data := #[] })))]) (vs := [vstr []]) (w' := w1.alloc (.cells [vstr []].toArray 9)) (r := .slice (some ⟨w1.heap.size, 0, none⟩) 1 1) rfl rfl rfl (by kernel_rfl)) (by simp [Reps, flat, kstr]) rfl (by decide) (fun g4 w3 hS => ?_))
  obtain ⟨z7, hS⟩ := hS.famx
  have hcz8 := hS.cap 1 rfl
  obtain ⟨z8, hlez8, hrz8, hS⟩ := hS.fz 1 0 rfl rfl (by decide) (zle_E _)
  refine W_cons rfl (by decide) (S_row (d := (kslice kstr)) (q := z8) hS ([([[]] : List St)] : List (List St)) rfl (R_buildSlice (ps := [(0, (.tmp 13))]) (vs := [.slice (some ⟨g4, 0, none⟩) ([[]] : List St).length 1]) (w' := w3.alloc (.cells [.slice (some ⟨g4, 0, none⟩) ([[]] : List St).length 1].toArray 31)) (r := .slice (some ⟨w3.heap.size, 0, none⟩) 1 1) rfl rfl rfl (by kernel_rfl)) ⟨_, _, rfl, ⟨_, _, rfl, hcz8, hrz8⟩, rfl⟩ rfl (by decide) (fun g6 w5 hS => ?_))
  refine W_cons rfl (by decide) (Sv_val rfl (R_assign rfl rfl) ?_)
  refine W_nil ?_
  refine E_then (C_fr [(2, .slice (some ⟨g6, 0, none⟩) ([([[]] : List St)] : List (List St)).length 1)] rfl ?_)
  refine C_ret ?_
  refine E_then_ret ?_
  have hq9 : ([([[]] : List St)] : List (List St)) = fillS a0 := by rw [← rfill_eq]; unfold rfillS; first | exact (if_pos (List.length_eq_zero_iff.1 (by omega))).symm | (rw [if_neg (fun h_ => by rw [h_] at hC0p; exact hC0p rfl)]; unfold padS; rw [List.take_of_length_le (by omega)])
  have hS := hS.re 0 rfl hq9
  refine E_ret1 rfl rfl ?_
  exact ⟨(some ⟨g6, 0, none⟩), 1, z8, Lret1 (Lslice hq9), hS.fin [1, 0] (by decide) rfl⟩
 ·have _hC0 := trivial
  have hC0p : ¬ ((a0.length : Int) = 0) := by simpa using hC0
  refine C_skip ?_
  refine E_then ?_
  refine C_seq ?_
  refine C_region ?_
  refine W_cons rfl (by decide) (Sv_val rfl (R_assign rfl rfl) ?_)
  refine W_nil ?_
  refine E_then ?_
  refine C_seq ?_
  refine C_seq ?_
  refine C_region ?_
  refine W_cons rfl (by decide) (Sv_val rfl (R_assign rfl rfl) ?_)
  refine W_nil ?_
  refine E_then ?_
  refine C_block ?_
  obtain ⟨z13, hS⟩ := hS.famx
  have hS := hS.nilrow (kslice kstr) 31 z13
  have hs15 : ([] : List (List St)) = (a0.take (0 : Nat)).map (fun r => r ++ List.replicate ((max (widthS a0) 1) - (r.length : Int)).toNat []) := by rfl
  have hS := hS.re 0 rfl hs15
  refine C_fr [(0, .slice Aa0 a0.length ca0), (3, .int .i64 (max (widthS a0) 1)), (4, .slice none 0 0), (5, .int .i64 0)] rfl ?_
  refine C_loop (fun m_ f_ w_ => ∃ (i : Nat) (Ar10 : Option Addr) (cr10 : Nat) (z11 : Z), f_ = [(0, .slice Aa0 a0.length ca0), (3, .int .i64 (max (widthS a0) 1)), (4, .slice Ar10 ((a0.take i).map (fun r => r ++ List.replicate ((max (widthS a0) 1) - (r.length : Int)).toNat [])).length cr10), (5, .int .i64 (i : Int))] ∧ i ≤ a0.length ∧ m_ = a0.length - i ∧ Sp (FF []) w z w_ [zR z11, oR (kslice kstr) 31 z11 Ar10 cr10 ((a0.take i).map (fun r => r ++ List.replicate ((max (widthS a0) 1) - (r.length : Int)).toNat []))]) (a0.length - (0 : Nat)) ⟨(0 : Nat), none, 0, z13, (by rw [← hs15] <;> rfl), (by omega), rfl, hS.fin [1, 0] (by decide) rfl⟩ ?_
  rintro m_ f_ w12 ⟨i, Ar10, cr10, z11, rfl, hI0_0, rfl, hS⟩
  have hp16 := hS.cap 1 rfl
  have hlhp16 := hp16.le
  have hmhp16 := hp16.mx
  refine C_seq ?_
  refine C_seq ?_
  refine C_region ?_
  refine W_cons rfl (by decide) (Sv_val rfl (R_move rfl rfl) ?_)
  refine W_cons rfl (by decide) (Sv_val rfl (R_move rfl rfl) ?_)
  refine W_cons rfl (by decide) (Sv_val rfl (R_len rfl rfl Try.underlying22) ?_)
  refine W_cons rfl (by decide) (Sv_val rfl (R_bin rfl rfl rfl rfl rfl) ?_)
  refine W_nil ?_
  refine E_then ?_
  refine C_ite rfl (fun hC1 => ?_) (fun hC1 => ?_)
  ·have _hC1 := trivial
   have hC1p : (i : Int) < (a0.length : Int) := by simpa using hC1
   refine C_skip ?_
   refine E_then ?_
   refine C_seq ?_
   refine C_block ?_
   refine C_seq ?_
   have hwg := widthS_ge a0 _ (getD_mem (n := i) [] (by omega))
   refine C_region ?_
   refine W_cons rfl (by decide) (S_row (d := kstr) (q := zE) hS ([] : List St) rfl (R_buildSlice (ps := []) (vs := []) (w' := w12.alloc (.cells [].toArray 9)) (r := .slice (some ⟨w12.heap.size, 0, none⟩) 0 0) rfl rfl rfl (by kernel_rfl)) (by simp [Reps, flat, kstr]) rfl (by decide) (fun g18 w17 hS => ?_))
   refine W_cons rfl (by decide) (Sv_val rfl (R_move rfl rfl) ?_)
   refine W_cons rfl (by decide) (Sv_val rfl (R_move rfl rfl) ?_)
   obtain ⟨q19, csq19, hAq19, ⟨Aq19, cq19, rfl, hcq19, hrq19⟩, hkq19⟩ := hra0.at_ [] (i := (i : Int)) (by omega) (by omega)
   have hkq19 : ∀ (j_ : Nat) (u_ : Value), ([.slice Aq19 (a0.getD i []).length cq19] : List Value)[j_]? = some u_ → cz z (q19.add (i * 1 + j_)) = some u_ := hkq19
   have hrq19 : Rd kstr z Aq19 ((a0.getD i [])) := hrq19
   have hcq19 : Cap Aq19 ((a0.getD i [])).length cq19 := hcq19
   have hlq19 := hcq19.le
   have hmq19 := hcq19.mx
   refine W_cons rfl (by decide) (Sv_val rfl (R_idx rfl rfl hAq19 rfl Try.underlying22 size31 (by omega) (by omega)) ?_)
   refine W_cons rfl (by decide) (Sv_val rfl (R_load1 rfl rfl agg31 (hS.sub.cell (hkq19 0 _ rfl))) ?_)
   refine W_cons rfl (by decide) (S_append hS 0 rfl rfl rfl elem31 rfl rfl (Sp.srd hS.sub hrq19 hcq19 (fun _ _ h => h)) (by (try simp only [List.length_cons, List.length_nil, List.length_append, List.length_take, List.length_map, List.length_replicate, maxLen]); omega) (by (try simp only [List.length_cons, List.length_nil, List.length_append, List.length_take, List.length_map, List.length_replicate, maxLen]); omega) (fun Ar21 cr21 w20 hS => ?_))
   have hp22 := hS.cap 0 rfl
   have hlhp22 := hp22.le
   have hmhp22 := hp22.mx
   refine W_cons rfl (by decide) (Sv_val rfl (R_assign rfl rfl) ?_)
   refine W_nil ?_
   refine E_then (C_fr [(0, .slice Aa0 a0.length ca0), (3, .int .i64 (max (widthS a0) 1)), (4, .slice Ar10 ((a0.take i).map (fun r => r ++ List.replicate ((max (widthS a0) 1) - (r.length : Int)).toNat [])).length cr10), (5, .int .i64 (i : Int)), (6, .slice Ar21 (([] : List St) ++ (a0.getD i [])).length cr21)] rfl ?_)
   refine C_seq ?_
   refine C_block ?_
   have hs25 : ([] : List St) ++ (a0.getD i []) = a0.getD i [] ++ List.replicate (0 : Nat) [] := by simp
   have hS := hS.re 0 rfl hs25
   refine C_fr [(0, .slice Aa0 a0.length ca0), (3, .int .i64 (max (widthS a0) 1)), (4, .slice Ar10 ((a0.take i).map (fun r => r ++ List.replicate ((max (widthS a0) 1) - (r.length : Int)).toNat [])).length cr10), (5, .int .i64 (i : Int)), (6, .slice Ar21 (([] : List St) ++ (a0.getD i [])).length cr21)] rfl ?_
   refine C_loop (fun m_ f_ w_ => ∃ (k : Nat) (Ar23 : Option Addr) (cr23 : Nat), f_ = [(0, .slice Aa0 a0.length ca0), (3, .int .i64 (max (widthS a0) 1)), (4, .slice Ar10 ((a0.take i).map (fun r => r ++ List.replicate ((max (widthS a0) 1) - (r.length : Int)).toNat [])).length cr10), (5, .int .i64 (i : Int)), (6, .slice Ar23 (a0.getD i [] ++ List.replicate k []).length cr23)] ∧ ((a0.getD i []).length : Int) + k ≤ max (widthS a0) 1 ∧ m_ = 20000 - k ∧ Sp (FF []) w z w_ [zR z11, oR (kslice kstr) 31 z11 Ar10 cr10 ((a0.take i).map (fun r => r ++ List.replicate ((max (widthS a0) 1) - (r.length : Int)).toNat [])), oR kstr 9 zE Ar23 cr23 (a0.getD i [] ++ List.replicate k [])]) (20000 - (0 : Nat)) ⟨(0 : Nat), Ar21, cr21, (by rw [← hs25] <;> rfl), (by omega), rfl, hS.fin [1, 2, 0] (by decide) rfl⟩ ?_
   rintro m_ f_ w24 ⟨k, Ar23, cr23, rfl, hI1_0, rfl, hS⟩
   have hp26 := hS.cap 2 rfl
   have hlhp26 := hp26.le
   have hmhp26 := hp26.mx
   refine C_seq ?_
   refine C_seq ?_
   refine C_region ?_
   refine W_cons rfl (by decide) (Sv_val rfl (R_move rfl rfl) ?_)
   refine W_cons rfl (by decide) (Sv_val rfl (R_len rfl rfl Try.underlying31) ?_)
   refine W_cons rfl (by decide) (Sv_val rfl (R_move rfl rfl) ?_)
   refine W_cons rfl (by decide) (Sv_val rfl (R_bin rfl rfl rfl rfl rfl) ?_)
   refine W_nil ?_
   refine E_then ?_
   refine C_ite rfl (fun hC2 => ?_) (fun hC2 => ?_)
   ·have _hC2 := trivial
    have hC2p : ((a0.getD i [] ++ List.replicate k []).length : Int) < (max (widthS a0) 1) := by simpa using hC2
    refine C_skip ?_
    refine E_then ?_
    refine C_block ?_
    refine C_region ?_
    refine W_cons rfl (by decide) (Sv_val rfl (R_move rfl rfl) ?_)
    refine W_cons rfl (by decide) (S_row (d := kstr) (q := zE) hS ([[]] : List St) rfl (R_buildSlice (ps := [(0, (.const (.string { data := #[] })))]) (vs := [vstr []]) (w' := w24.alloc (.cells [vstr []].toArray 9)) (r := .slice (some ⟨w24.heap.size, 0, none⟩) 1 1) rfl rfl rfl (by kernel_rfl)) (by simp [Reps, flat, kstr]) rfl (by decide) (fun g28 w27 hS => ?_))
    refine W_cons rfl (by decide) (S_append hS 3 rfl rfl rfl elem31 rfl rfl (hS.sow 0 rfl (fun _ _ h => h)) (by (try simp only [List.length_cons, List.length_nil, List.length_append, List.length_take, List.length_map, List.length_replicate, maxLen]); omega) (by (try simp only [List.length_cons, List.length_nil, List.length_append, List.length_take, List.length_map, List.length_replicate, maxLen]); omega) (fun Ar30 cr30 w29 hS => ?_))
    have hp31 := hS.cap 3 rfl
    have hlhp31 := hp31.le
    have hmhp31 := hp31.mx
    refine W_cons rfl (by decide) (Sv_val rfl (R_assign rfl rfl) ?_)
    refine W_nil ?_
    refine E_block_normal ?_
    have hs32 : (a0.getD i [] ++ List.replicate k []) ++ ([[]] : List St) = a0.getD i [] ++ List.replicate (k + 1 : Nat) [] := by rw [List.append_assoc, List.replicate_succ']
    have hS := hS.re 3 rfl hs32
    refine E_round [0, 3, 4, 5, 6] ?_ ⟨(k + 1 : Nat), Ar30, cr30, (by rw [← hs32] <;> rfl), (by (simp only [List.length_append, List.length_replicate] at *); omega), rfl, hS.fin [1, 2, 3] (by decide) rfl⟩
    (simp only [List.length_append, List.length_replicate] at *); omega
   ·have _hC2 := trivial
    have hC2p : ¬ (((a0.getD i [] ++ List.replicate k []).length : Int) < (max (widthS a0) 1)) := by simpa using hC2
    refine C_exit ?_
    refine E_then_exit ?_
    refine E_then_exit ?_
    refine E_block_hit ?_
    refine E_then ?_
    refine C_region ?_
    refine W_cons rfl (by decide) (Sv_val rfl (R_move rfl rfl) ?_)
    refine W_cons rfl (by decide) (Sv_val rfl (R_move rfl rfl) ?_)
    have hcz35 := hS.cap 2 rfl
    obtain ⟨z35, hlez35, hrz35, hS⟩ := hS.fz 2 0 rfl rfl (by decide) (zle_E _)
    have hS := hS.lift 1 rfl hlez35
    refine W_cons rfl (by decide) (S_row (d := (kslice kstr)) (q := z35) hS ([a0.getD i [] ++ List.replicate k []] : List (List St)) rfl (R_buildSlice (ps := [(0, (.tmp 35))]) (vs := [.slice Ar23 (a0.getD i [] ++ List.replicate k []).length cr23]) (w' := w24.alloc (.cells [.slice Ar23 (a0.getD i [] ++ List.replicate k []).length cr23].toArray 31)) (r := .slice (some ⟨w24.heap.size, 0, none⟩) 1 1) rfl rfl rfl (by kernel_rfl)) ⟨_, _, rfl, ⟨_, _, rfl, hcz35, hrz35⟩, rfl⟩ rfl (by decide) (fun g34 w33 hS => ?_))
    refine W_cons rfl (by decide) (S_append hS 2 rfl rfl rfl elem22 rfl rfl (hS.sow 0 rfl (fun _ _ h => h)) (by (try simp only [List.length_cons, List.length_nil, List.length_append, List.length_take, List.length_map, List.length_replicate, maxLen]); omega) (by (try simp only [List.length_cons, List.length_nil, List.length_append, List.length_take, List.length_map, List.length_replicate, maxLen]); omega) (fun Ar37 cr37 w36 hS => ?_))
    have hp38 := hS.cap 2 rfl
    have hlhp38 := hp38.le
    have hmhp38 := hp38.mx
    refine W_cons rfl (by decide) (Sv_val rfl (R_assign rfl rfl) ?_)
    refine W_nil ?_
    refine E_block_normal ?_
    refine E_then (C_fr [(0, .slice Aa0 a0.length ca0), (3, .int .i64 (max (widthS a0) 1)), (4, .slice Ar37 (((a0.take i).map (fun r => r ++ List.replicate ((max (widthS a0) 1) - (r.length : Int)).toNat [])) ++ ([a0.getD i [] ++ List.replicate k []] : List (List St))).length cr37), (5, .int .i64 (i : Int))] rfl ?_)
    refine C_region ?_
    refine W_cons rfl (by decide) (Sv_val rfl (R_move rfl rfl) ?_)
    refine W_cons rfl (by decide) (Sv_val rfl (R_add64 rfl rfl rfl (by omega) (by omega)) ?_)
    refine W_cons rfl (by decide) (Sv_val rfl (R_assign rfl rfl) ?_)
    refine W_nil ?_
    have hs39 : ((a0.take i).map (fun r => r ++ List.replicate ((max (widthS a0) 1) - (r.length : Int)).toNat [])) ++ ([a0.getD i [] ++ List.replicate k []] : List (List St)) = (a0.take (i + 1 : Nat)).map (fun r => r ++ List.replicate ((max (widthS a0) 1) - (r.length : Int)).toNat []) := by rw [List.take_succ_eq_append_getElem (show i < a0.length by omega), List.map_append]; simp only [List.map_cons, List.map_nil, List.length_append, List.length_replicate] at *; simp [List.getD, (show i < a0.length by omega)] at *; omega
    have hS := hS.re 2 rfl hs39
    refine E_round [0, 3, 4, 5] ?_ ⟨(i + 1 : Nat), Ar37, cr37, z35, (by rw [← hs39] <;> rfl), (by omega), rfl, hS.fin [1, 2] (by decide) rfl⟩
    omega
  ·have _hC1 := trivial
   have hC1p : ¬ ((i : Int) < (a0.length : Int)) := by simpa using hC1
   refine C_exit ?_
   refine E_then_exit ?_
   refine E_then_exit ?_
   refine E_block_hit ?_
   refine E_then (C_fr [(4, .slice Ar10 ((a0.take i).map (fun r => r ++ List.replicate ((max (widthS a0) 1) - (r.length : Int)).toNat [])).length cr10)] rfl ?_)
   refine C_seq ?_
   refine C_region ?_
   refine W_cons rfl (by decide) (Sv_val rfl (R_move rfl rfl) ?_)
   refine W_cons rfl (by decide) (Sv_val rfl (R_assign rfl rfl) ?_)
   refine W_nil ?_
   refine E_then ?_
   refine C_ret ?_
   have hq40 : (a0.take i).map (fun r => r ++ List.replicate ((max (widthS a0) 1) - (r.length : Int)).toNat []) = fillS a0 := by rw [← rfill_eq]; unfold rfillS; first | exact (if_pos (List.length_eq_zero_iff.1 (by omega))).symm | (rw [if_neg (fun h_ => by rw [h_] at hC0p; exact hC0p rfl)]; unfold padS; rw [List.take_of_length_le (by omega)])
   have hS := hS.re 1 rfl hq40
   refine E_ret1 rfl rfl ?_
   exact ⟨Ar10, cr10, z11, Lret1 (Lslice hq40), hS.fin [0, 1] (by decide) rfl⟩

set_option maxHeartbeats 2000000 in
set_option maxRecDepth 20000 in
theorem rtrim_calls (a0 : List (List St)) (Aa0 : Option Addr) (ca0 : Nat) (z : Z) (w : World) (hI : In z w []) (hra0 : Rd (kslice kstr) z Aa0 a0) (hca0 : Cap Aa0 a0.length ca0) (p0 : a0.length ≤ 10000) (p1 : widthS a0 ≤ 10000) :
    Calls Try.prog 24 #[.slice Aa0 a0.length ca0] w fun e w' => ∃ (AR0 : Option Addr) (cR0 : Nat) (qR0 : Z), e = .returned (.slice AR0 (rtrimS a0).length cR0) ∧ Sp (FF []) w z w' [zR qR0, oR (kslice kstr) 31 qR0 AR0 cR0 (rtrimS a0)] := by
 have hla0 := hca0.le
 have hma0 := hca0.mx
 have hS := hI.sp
 have hwn := widthS_nonneg a0
 have hfl := fill_len a0
 refine Calls_of (vs := [.slice Aa0 a0.length ca0]) (N := 58) Try.func24 rfl rfl (Nat.le_of_ble_eq_true rfl) ?_
 refine C_seq ?_
 refine C_region ?_
 refine W_cons rfl (by decide) (Sv_val rfl (R_assign rfl rfl) ?_)
 refine W_nil ?_
 refine E_then ?_
 refine C_seq ?_
 refine C_region ?_
 refine W_cons rfl (by decide) (Sv_val rfl (R_move rfl rfl) ?_)
 refine W_cons rfl (by decide) (Sv_call rfl rfl rfl ent23 ?_)
 refine (rfill_calls a0 Aa0 ca0 _ _ hS.out0 (hra0.mono (hS.zl [])) hca0 (by omega) (by omega)).mono ?_
 rintro e_ w1 ⟨AR0_2, cR0_2, qR0_2, rfl, hS_⟩
 refine ⟨_, rfl, ?_⟩
 have hS := hS.call0 hS_
 have hp3 := hS.cap 1 rfl
 have hlhp3 := hp3.le
 have hmhp3 := hp3.mx
 refine W_cons rfl (by decide) (Sv_val rfl (R_assign rfl rfl) ?_)
 refine W_nil ?_
 refine E_then ?_
 refine C_seq ?_
 refine C_region ?_
 refine W_cons rfl (by decide) (Sv_val rfl (R_assign rfl rfl) ?_)
 refine W_cons rfl (by decide) (Sv_val rfl (R_assign rfl rfl) ?_)
 refine W_nil ?_
 refine E_then ?_
 refine C_seq ?_
 refine C_seq ?_
 refine C_region ?_
 refine W_cons rfl (by decide) (Sv_val rfl (R_assign rfl rfl) ?_)
 refine W_nil ?_
 refine E_then ?_
 refine C_block ?_
 refine C_fr [(3, .slice AR0_2 (fillS a0).length cR0_2), (4, .int .i64 1), (5, .int .i64 1), (6, .int .i64 0)] rfl ?_
 refine C_loop (fun m_ f_ w_ => ∃ (i : Nat) (r0 : Int) (c0 : Int), f_ = [(3, .slice AR0_2 (fillS a0).length cR0_2), (4, .int .i64 r0), (5, .int .i64 c0), (6, .int .i64 (i : Int))] ∧ i ≤ (fillS a0).length ∧ (1 ≤ r0 ∧ r0 ≤ max (a0.length : Int) 1 ∧ 1 ≤ c0 ∧ c0 ≤ max (widthS a0) 1) ∧ tAll ((fillS a0).drop i) i (r0, c0) = tAll (fillS a0) 0 (1, 1) ∧ m_ = (fillS a0).length - i ∧ Sp (FF []) w z w_ [zR qR0_2, oR (kslice kstr) 31 qR0_2 AR0_2 cR0_2 (fillS a0)]) ((fillS a0).length - (0 : Nat)) ⟨(0 : Nat), (1 : Int), (1 : Int), rfl, (by omega), (by omega), (by rfl), rfl, hS.fin [0, 1] (by decide) rfl⟩ ?_
 rintro m_ f_ w4 ⟨i, r0, c0, rfl, hI0_0, hI0_1, hI0_2, rfl, hS⟩
 refine C_seq ?_
 refine C_seq ?_
 have hfa := fun (h : i < (fillS a0).length) => fill_at a0 h
 refine C_region ?_
 refine W_cons rfl (by decide) (Sv_val rfl (R_move rfl rfl) ?_)
 refine W_cons rfl (by decide) (Sv_val rfl (R_move rfl rfl) ?_)
 refine W_cons rfl (by decide) (Sv_val rfl (R_len rfl rfl Try.underlying22) ?_)
 refine W_cons rfl (by decide) (Sv_val rfl (R_bin rfl rfl rfl rfl rfl) ?_)
 refine W_nil ?_
 refine E_then ?_
 refine C_ite rfl (fun hC0 => ?_) (fun hC0 => ?_)
 ·have _hC0 := trivial
  have hC0p : (i : Int) < ((fillS a0).length : Int) := by simpa using hC0
  refine C_skip ?_
  refine E_then ?_
  refine C_seq ?_
  refine C_block ?_
  refine C_seq ?_
  refine C_region ?_
  refine W_cons rfl (by decide) (Sv_val rfl (R_assign rfl rfl) ?_)
  refine W_nil ?_
  refine E_then ?_
  refine C_block ?_
  refine C_fr [(3, .slice AR0_2 (fillS a0).length cR0_2), (4, .int .i64 r0), (5, .int .i64 c0), (6, .int .i64 (i : Int)), (7, .int .i64 0)] rfl ?_
  refine C_loop (fun m_ f_ w_ => ∃ (k : Nat) (r1 : Int) (c1 : Int), f_ = [(3, .slice AR0_2 (fillS a0).length cR0_2), (4, .int .i64 r1), (5, .int .i64 c1), (6, .int .i64 (i : Int)), (7, .int .i64 (k : Int))] ∧ k ≤ ((fillS a0).getD i []).length ∧ (1 ≤ r1 ∧ r1 ≤ max (a0.length : Int) 1 ∧ 1 ≤ c1 ∧ c1 ≤ max (widthS a0) 1) ∧ tRow i (((fillS a0).getD i []).drop k) k (r1, c1) = tRow i ((fillS a0).getD i []) 0 (r0, c0) ∧ m_ = ((fillS a0).getD i []).length - k ∧ Sp (FF []) w z w_ [zR qR0_2, oR (kslice kstr) 31 qR0_2 AR0_2 cR0_2 (fillS a0)]) (((fillS a0).getD i []).length - (0 : Nat)) ⟨(0 : Nat), (r0 : Int), (c0 : Int), rfl, (by omega), (by omega), (by rfl), rfl, hS.fin [0, 1] (by decide) rfl⟩ ?_
  rintro m_ f_ w5 ⟨k, r1, c1, rfl, hI1_0, hI1_1, hI1_2, rfl, hS⟩
  refine C_seq ?_
  refine C_seq ?_
  refine C_region ?_
  refine W_cons rfl (by decide) (Sv_val rfl (R_move rfl rfl) ?_)
  refine W_cons rfl (by decide) (Sv_val rfl (R_move rfl rfl) ?_)
  refine W_cons rfl (by decide) (Sv_val rfl (R_move rfl rfl) ?_)
  obtain ⟨q6, csq6, hAq6, ⟨Aq6, cq6, rfl, hcq6, hrq6⟩, hkq6⟩ := (hS.rw 1 rfl).el [] (i := (i : Int)) (by omega) (by omega)
  have hkq6 : ∀ (j_ : Nat) (u_ : Value), ([.slice Aq6 ((fillS a0).getD i []).length cq6] : List Value)[j_]? = some u_ → World.cell? w5 (q6.add (i * 1 + j_)) = some u_ := hkq6
  have hrq6 : Rd kstr qR0_2 Aq6 (((fillS a0).getD i [])) := hrq6
  have hcq6 : Cap Aq6 (((fillS a0).getD i [])).length cq6 := hcq6
  have hlq6 := hcq6.le
  have hmq6 := hcq6.mx
  refine W_cons rfl (by decide) (Sv_val rfl (R_idx rfl rfl hAq6 rfl Try.underlying22 size31 (by omega) (by omega)) ?_)
  refine W_cons rfl (by decide) (Sv_val rfl (R_load1 rfl rfl agg31 (hkq6 0 _ rfl)) ?_)
  refine W_cons rfl (by decide) (Sv_val rfl (R_len rfl rfl Try.underlying31) ?_)
  refine W_cons rfl (by decide) (Sv_val rfl (R_bin rfl rfl rfl rfl rfl) ?_)
  refine W_nil ?_
  refine E_then (C_fr [(3, .slice AR0_2 (fillS a0).length cR0_2), (4, .int .i64 r1), (5, .int .i64 c1), (6, .int .i64 (i : Int)), (7, .int .i64 (k : Int)), (24, .bool (decide ((k : Int) < (((fillS a0).getD i []).length : Int))))] rfl ?_)
  refine C_ite rfl (fun hC1 => ?_) (fun hC1 => ?_)
  ·have _hC1 := trivial
   have hC1p : (k : Int) < (((fillS a0).getD i []).length : Int) := by simpa using hC1
   refine C_skip ?_
   refine E_then ?_
   refine C_seq ?_
   refine C_block ?_
   refine C_seq ?_
   refine C_region ?_
   refine W_cons rfl (by decide) (Sv_val rfl (R_move rfl rfl) ?_)
   refine W_cons rfl (by decide) (Sv_val rfl (R_move rfl rfl) ?_)
   obtain ⟨q7, csq7, hAq7, ⟨Aq7, cq7, rfl, hcq7, hrq7⟩, hkq7⟩ := (hS.rw 1 rfl).el [] (i := (i : Int)) (by omega) (by omega)
   have hkq7 : ∀ (j_ : Nat) (u_ : Value), ([.slice Aq7 ((fillS a0).getD i []).length cq7] : List Value)[j_]? = some u_ → World.cell? w5 (q7.add (i * 1 + j_)) = some u_ := hkq7
   have hrq7 : Rd kstr qR0_2 Aq7 (((fillS a0).getD i [])) := hrq7
   have hcq7 : Cap Aq7 (((fillS a0).getD i [])).length cq7 := hcq7
   have hlq7 := hcq7.le
   have hmq7 := hcq7.mx
   refine W_cons rfl (by decide) (Sv_val rfl (R_idx rfl rfl hAq7 rfl Try.underlying22 size31 (by omega) (by omega)) ?_)
   refine W_cons rfl (by decide) (Sv_val rfl (R_load1 rfl rfl agg31 (hkq7 0 _ rfl)) ?_)
   refine W_cons rfl (by decide) (Sv_val rfl (R_move rfl rfl) ?_)
   obtain ⟨q8, csq8, hAq8, rfl, hkq8⟩ := hrq7.at_ ([] : St) (i := (k : Int)) (by omega) (by omega)
   have hkq8 : ∀ (j_ : Nat) (u_ : Value), ([vstr (((fillS a0).getD i []).getD k ([] : St))] : List Value)[j_]? = some u_ → cz qR0_2 (q8.add (k * 1 + j_)) = some u_ := hkq8
   refine W_cons rfl (by decide) (Sv_val rfl (R_idx rfl rfl hAq8 rfl Try.underlying31 size9 (by omega) (by omega)) ?_)
   refine W_cons rfl (by decide) (Sv_val rfl (R_load1 rfl rfl agg9 ((hS.zs 0 rfl).cell (hkq8 0 _ rfl))) ?_)
   refine W_cons rfl (by decide) (Sv_val rfl (R_strneq rfl rfl rfl) ?_)
   refine W_nil ?_
   refine E_then (C_fr [(3, .slice AR0_2 (fillS a0).length cR0_2), (4, .int .i64 r1), (5, .int .i64 c1), (6, .int .i64 (i : Int)), (7, .int .i64 (k : Int)), (34, .bool (!decide ((((fillS a0).getD i []).getD k ([] : St)) = [])))] rfl ?_)
   refine C_ite rfl (fun hC2 => ?_) (fun hC2 => ?_)
   ·have _hC2 := trivial
    have hC2p : ¬ (((fillS a0).getD i []).getD k ([] : St)) = [] := by simpa using hC2
    refine C_seq ?_
    refine C_region ?_
    refine W_cons rfl (by decide) (Sv_val rfl (R_move rfl rfl) ?_)
    refine W_cons rfl (by decide) (Sv_val rfl (R_move rfl rfl) ?_)
    refine W_cons rfl (by decide) (Sv_val rfl (R_add64 rfl rfl rfl (by omega) (by omega)) ?_)
    refine W_cons rfl (by decide) (Sv_val rfl (R_max rfl rfl) ?_)
    refine W_cons rfl (by decide) (Sv_val rfl (R_assign rfl rfl) ?_)
    refine W_nil ?_
    refine E_then (C_fr [(3, .slice AR0_2 (fillS a0).length cR0_2), (4, .int .i64 (max r1 ((i : Int) + 1))), (5, .int .i64 c1), (6, .int .i64 (i : Int)), (7, .int .i64 (k : Int))] rfl ?_)
    refine C_region ?_
    refine W_cons rfl (by decide) (Sv_val rfl (R_move rfl rfl) ?_)
    refine W_cons rfl (by decide) (Sv_val rfl (R_move rfl rfl) ?_)
    refine W_cons rfl (by decide) (Sv_val rfl (R_add64 rfl rfl rfl (by omega) (by omega)) ?_)
    refine W_cons rfl (by decide) (Sv_val rfl (R_max rfl rfl) ?_)
    refine W_cons rfl (by decide) (Sv_val rfl (R_assign rfl rfl) ?_)
    refine W_nil ?_
    refine E_block_normal ?_
    refine E_then ?_
    refine C_region ?_
    refine W_cons rfl (by decide) (Sv_val rfl (R_move rfl rfl) ?_)
    refine W_cons rfl (by decide) (Sv_val rfl (R_add64 rfl rfl rfl (by omega) (by omega)) ?_)
    refine W_cons rfl (by decide) (Sv_val rfl (R_assign rfl rfl) ?_)
    refine W_nil ?_
    refine E_round [3, 4, 5, 6, 7] ?_ ⟨(k + 1 : Nat), (max r1 ((i : Int) + 1) : Int), (max c1 ((k : Int) + 1) : Int), rfl, (by omega), (by omega), (by rw [← hI1_2, tRow_next (k := k) (r := (fillS a0).getD i []) (by omega), if_neg (by simpa using hC2)]), rfl, hS.fin [0, 1] (by decide) rfl⟩
    omega
   ·have _hC2 := trivial
    have hC2p : (((fillS a0).getD i []).getD k ([] : St)) = [] := by simpa using hC2
    refine C_skip ?_
    refine E_block_normal ?_
    refine E_then ?_
    refine C_region ?_
    refine W_cons rfl (by decide) (Sv_val rfl (R_move rfl rfl) ?_)
    refine W_cons rfl (by decide) (Sv_val rfl (R_add64 rfl rfl rfl (by omega) (by omega)) ?_)
    refine W_cons rfl (by decide) (Sv_val rfl (R_assign rfl rfl) ?_)
    refine W_nil ?_
    refine E_round [3, 4, 5, 6, 7] ?_ ⟨(k + 1 : Nat), (r1 : Int), (c1 : Int), rfl, (by omega), (by omega), (by rw [← hI1_2, tRow_next (k := k) (r := (fillS a0).getD i []) (by omega), if_pos (by simpa using hC2)]), rfl, hS.fin [0, 1] (by decide) rfl⟩
    omega
  ·have _hC1 := trivial
   have hC1p : ¬ ((k : Int) < (((fillS a0).getD i []).length : Int)) := by simpa using hC1
   refine C_exit ?_
   refine E_then_exit ?_
   refine E_then_exit ?_
   refine E_block_hit ?_
   refine E_block_normal ?_
   refine E_then ?_
   refine C_region ?_
   refine W_cons rfl (by decide) (Sv_val rfl (R_move rfl rfl) ?_)
   refine W_cons rfl (by decide) (Sv_val rfl (R_add64 rfl rfl rfl (by omega) (by omega)) ?_)
   refine W_cons rfl (by decide) (Sv_val rfl (R_assign rfl rfl) ?_)
   refine W_nil ?_
   refine E_round [3, 4, 5, 6] ?_ ⟨(i + 1 : Nat), (r1 : Int), (c1 : Int), rfl, (by omega), (by omega), (by rw [← hI0_2, tAll_next (l := fillS a0) (i := i) (by omega), ← hI1_2, tRow_end (by omega)]), rfl, hS.fin [0, 1] (by decide) rfl⟩
   omega
 ·have _hC0 := trivial
  have hC0p : ¬ ((i : Int) < ((fillS a0).length : Int)) := by simpa using hC0
  refine C_exit ?_
  refine E_then_exit ?_
  refine E_then_exit ?_
  refine E_block_hit ?_
  refine E_then (C_fr [(3, .slice AR0_2 (fillS a0).length cR0_2), (4, .int .i64 r0), (5, .int .i64 c0)] rfl ?_)
  refine C_seq ?_
  refine C_region ?_
  refine W_cons rfl (by decide) (Sv_val rfl (R_assign rfl rfl) ?_)
  refine W_nil ?_
  refine E_then ?_
  refine C_seq ?_
  refine C_seq ?_
  refine C_region ?_
  refine W_cons rfl (by decide) (Sv_val rfl (R_assign rfl rfl) ?_)
  refine W_nil ?_
  refine E_then ?_
  refine C_block ?_
  have hS := hS.nilrow (kslice kstr) 31 qR0_2
  have hs12 : ([] : List (List St)) = ((fillS a0).take (0 : Nat)).map (fun r => r.take c0.toNat) := by rfl
  have hS := hS.re 0 rfl hs12
  refine C_fr [(3, .slice AR0_2 (fillS a0).length cR0_2), (4, .int .i64 r0), (5, .int .i64 c0), (8, .slice none 0 0), (9, .int .i64 0)] rfl ?_
  refine C_loop (fun m_ f_ w_ => ∃ (i2 : Nat) (Ar9 : Option Addr) (cr9 : Nat), f_ = [(3, .slice AR0_2 (fillS a0).length cR0_2), (4, .int .i64 r0), (5, .int .i64 c0), (8, .slice Ar9 (((fillS a0).take i2).map (fun r => r.take c0.toNat)).length cr9), (9, .int .i64 (i2 : Int))] ∧ (i2 : Int) ≤ r0 ∧ m_ = r0.toNat - i2 ∧ Sp (FF []) w z w_ [zR qR0_2, oR (kslice kstr) 31 qR0_2 AR0_2 cR0_2 (fillS a0), oR (kslice kstr) 31 qR0_2 Ar9 cr9 (((fillS a0).take i2).map (fun r => r.take c0.toNat))]) (r0.toNat - (0 : Nat)) ⟨(0 : Nat), none, 0, (by rw [← hs12] <;> rfl), (by omega), rfl, hS.fin [1, 2, 0] (by decide) rfl⟩ ?_
  rintro m_ f_ w10 ⟨i2, Ar9, cr9, rfl, hI2_0, rfl, hS⟩
  have hp13 := hS.cap 2 rfl
  have hlhp13 := hp13.le
  have hmhp13 := hp13.mx
  refine C_seq ?_
  refine C_seq ?_
  refine C_region ?_
  refine W_cons rfl (by decide) (Sv_val rfl (R_move rfl rfl) ?_)
  refine W_cons rfl (by decide) (Sv_val rfl (R_move rfl rfl) ?_)
  refine W_cons rfl (by decide) (Sv_val rfl (R_bin rfl rfl rfl rfl rfl) ?_)
  refine W_nil ?_
  refine E_then ?_
  refine C_ite rfl (fun hC3 => ?_) (fun hC3 => ?_)
  ·have _hC3 := trivial
   have hC3p : (i2 : Int) < r0 := by simpa using hC3
   refine C_skip ?_
   refine E_then ?_
   refine C_seq ?_
   refine C_block ?_
   have hfb := fill_at a0 (i := i2) (by omega)
   refine C_region ?_
   refine W_cons rfl (by decide) (Sv_val rfl (R_move rfl rfl) ?_)
   refine W_cons rfl (by decide) (Sv_val rfl (R_move rfl rfl) ?_)
   refine W_cons rfl (by decide) (Sv_val rfl (R_move rfl rfl) ?_)
   obtain ⟨q14, csq14, hAq14, ⟨Aq14, cq14, rfl, hcq14, hrq14⟩, hkq14⟩ := (hS.rw 1 rfl).el [] (i := (i2 : Int)) (by omega) (by omega)
   have hkq14 : ∀ (j_ : Nat) (u_ : Value), ([.slice Aq14 ((fillS a0).getD i2 []).length cq14] : List Value)[j_]? = some u_ → World.cell? w10 (q14.add (i2 * 1 + j_)) = some u_ := hkq14
   have hrq14 : Rd kstr qR0_2 Aq14 (((fillS a0).getD i2 [])) := hrq14
   have hcq14 : Cap Aq14 (((fillS a0).getD i2 [])).length cq14 := hcq14
   have hlq14 := hcq14.le
   have hmq14 := hcq14.mx
   refine W_cons rfl (by decide) (Sv_val rfl (R_idx rfl rfl hAq14 rfl Try.underlying22 size31 (by omega) (by omega)) ?_)
   refine W_cons rfl (by decide) (Sv_val rfl (R_load1 rfl rfl agg31 (hkq14 0 _ rfl)) ?_)
   refine W_cons rfl (by decide) (Sv_val rfl (R_move rfl rfl) ?_)
   have hrq15 := hrq14.take c0.toNat
   have hcq15 := hcq14.take c0.toNat
   refine W_cons rfl (by decide) (Sv_val rfl (R_cuth rfl rfl rfl (by kernel_rfl) (size9 _) hcq14 (by omega) (by omega)) ?_)
   refine W_cons rfl (by decide) (S_row (d := (kslice kstr)) (q := qR0_2) hS ([((fillS a0).getD i2 []).take c0.toNat] : List (List St)) rfl (R_buildSlice (ps := [(0, (.tmp 54))]) (vs := [.slice Aq14 (((fillS a0).getD i2 []).take c0.toNat).length cq14]) (w' := w10.alloc (.cells [.slice Aq14 (((fillS a0).getD i2 []).take c0.toNat).length cq14].toArray 31)) (r := .slice (some ⟨w10.heap.size, 0, none⟩) 1 1) rfl rfl rfl (by kernel_rfl)) ⟨_, _, rfl, ⟨_, _, rfl, hcq15, hrq15⟩, rfl⟩ rfl (by decide) (fun g17 w16 hS => ?_))
   refine W_cons rfl (by decide) (S_append hS 3 rfl rfl rfl elem22 rfl rfl (hS.sow 0 rfl (fun _ _ h => h)) (by (try simp only [List.length_cons, List.length_nil, List.length_append, List.length_take, List.length_map, maxLen]); omega) (by (try simp only [List.length_cons, List.length_nil, List.length_append, List.length_take, List.length_map, maxLen]); omega) (fun Ar19 cr19 w18 hS => ?_))
   have hp20 := hS.cap 3 rfl
   have hlhp20 := hp20.le
   have hmhp20 := hp20.mx
   refine W_cons rfl (by decide) (Sv_val rfl (R_assign rfl rfl) ?_)
   refine W_nil ?_
   refine E_block_normal ?_
   refine E_then (C_fr [(3, .slice AR0_2 (fillS a0).length cR0_2), (4, .int .i64 r0), (5, .int .i64 c0), (8, .slice Ar19 ((((fillS a0).take i2).map (fun r => r.take c0.toNat)) ++ ([((fillS a0).getD i2 []).take c0.toNat] : List (List St))).length cr19), (9, .int .i64 (i2 : Int))] rfl ?_)
   refine C_region ?_
   refine W_cons rfl (by decide) (Sv_val rfl (R_move rfl rfl) ?_)
   refine W_cons rfl (by decide) (Sv_val rfl (R_add64 rfl rfl rfl (by omega) (by omega)) ?_)
   refine W_cons rfl (by decide) (Sv_val rfl (R_assign rfl rfl) ?_)
   refine W_nil ?_
   have hs21 : (((fillS a0).take i2).map (fun r => r.take c0.toNat)) ++ ([((fillS a0).getD i2 []).take c0.toNat] : List (List St)) = ((fillS a0).take (i2 + 1 : Nat)).map (fun r => r.take c0.toNat) := by rw [List.take_succ_eq_append_getElem (show i2 < (fillS a0).length by omega), List.map_append]; simp [List.getD, (show i2 < (fillS a0).length by omega)]
   have hS := hS.re 3 rfl hs21
   refine E_round [3, 4, 5, 8, 9] ?_ ⟨(i2 + 1 : Nat), Ar19, cr19, (by rw [← hs21] <;> rfl), (by omega), rfl, hS.fin [1, 2, 3] (by decide) rfl⟩
   omega
  ·have _hC3 := trivial
   have hC3p : ¬ ((i2 : Int) < r0) := by simpa using hC3
   refine C_exit ?_
   refine E_then_exit ?_
   refine E_then_exit ?_
   refine E_block_hit ?_
   refine E_then (C_fr [(8, .slice Ar9 (((fillS a0).take i2).map (fun r => r.take c0.toNat)).length cr9)] rfl ?_)
   refine C_seq ?_
   refine C_region ?_
   refine W_cons rfl (by decide) (Sv_val rfl (R_move rfl rfl) ?_)
   refine W_cons rfl (by decide) (Sv_val rfl (R_assign rfl rfl) ?_)
   refine W_nil ?_
   refine E_then ?_
   refine C_ret ?_
   have hq22 : ((fillS a0).take i2).map (fun r => r.take c0.toNat) = rtrimS a0 := by unfold rtrimS; rw [← hI0_2, tAll_end (by omega), show i2 = r0.toNat from by omega]
   have hS := hS.re 2 rfl hq22
   refine E_ret1 rfl rfl ?_
   exact ⟨Ar9, cr9, qR0_2, Lret1 (Lslice hq22), hS.fin [0, 2] (by decide) rfl⟩

end Go.Proofs.YtgjnhmidbapjmaaG
