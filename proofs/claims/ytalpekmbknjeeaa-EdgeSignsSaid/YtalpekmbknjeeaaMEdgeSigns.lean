/- The walk of the law EdgeSigns: it returns true. -/
import Derived.Test.YtalpekmbknjeeaaF1
set_option linter.all false
namespace Go.Proofs.YtalpekmbknjeeaaG
open Go Go.RowKit
set_option maxHeartbeats 400000 in
set_option maxRecDepth 20000 in
theorem edgeSigns_calls (a0 : Int) (a1 : Int) (z : Z) (w : World) (hI : In z w [])   :
    Calls Try.prog 4 #[.int .i64 a0, .int .i64 a1] w fun e w' => e = .returned (.bool true) ∧ Sp (FF []) w z w' [] := by
 have hS := hI.sp
 refine Calls_of (vs := [.int .i64 a0, .int .i64 a1]) (N := 64) Try.func4 rfl rfl (Nat.le_of_ble_eq_true rfl) ?_
 refine C_seq ?_
 refine C_region ?_
 refine wv rfl rfl rfl (R_assign rfl rfl) ?_
 refine W_nil ?_
 refine E_then ?_
 refine C_seq ?_
 refine C_seq ?_
 refine C_region ?_
 refine wv rfl rfl rfl (R_assign rfl rfl) ?_
 refine W_nil ?_
 refine E_then ?_
 refine C_block ?_
 have hs2 : (-1) = ((0 : Nat) : Int) - 1 := by rfl
 refine C_fr [(0, .int .i64 a0), (1, .int .i64 a1), (5, .int .i64 (-1))] rfl ?_
 refine C_loop (fun m_ f_ w_ => ∃ (i : Nat), f_ = [(0, .int .i64 a0), (1, .int .i64 a1), (5, .int .i64 ((i : Int) - 1))] ∧ i ≤ 18 ∧ m_ = 18 - i ∧ Sp (FF []) w z w_ []) (18 - (0 : Nat)) ⟨(0 : Nat), (by rw [← hs2] <;> rfl), (by omega), rfl, hS.fin [] (by decide) rfl⟩ ?_
 rintro m_ f_ w1 ⟨i, rfl, hI0_0, rfl, hS⟩
 refine C_seq ?_
 refine C_seq ?_
 refine C_region ?_
 refine wv rfl rfl rfl (R_move rfl rfl) <| wv rfl rfl rfl (R_bin rfl rfl rfl rfl rfl) ?_
 refine W_nil ?_
 refine E_then ?_
 refine C_ite rfl (fun hC0 => ?_) (fun hC0 => ?_)
 ·have _hC0 := trivial
  have hC0p : ((i : Int) - 1) < 17 := by simpa using hC0
  refine C_skip ?_
  refine E_then ?_
  refine C_seq ?_
  refine C_block ?_
  refine C_seq ?_
  refine C_region ?_
  refine wv rfl rfl rfl (R_move rfl rfl) ?_
  refine W_cons rfl (by decide) (Sv_call rfl rfl rfl ent13 ?_)
  refine (eturn_calls ((i : Int) - 1) _ _ hS.out0  ).mono ?_
  rintro e_ w3 ⟨rfl, hS_⟩
  refine ⟨_, rfl, ?_⟩
  have hS := hS.call0 hS_
  refine wv rfl rfl rfl (R_move rfl rfl) ?_
  refine W_cons rfl (by decide) (Sv_call rfl rfl rfl ent14 ?_)
  refine (rturn_calls ((i : Int) - 1) _ _ hS.out0  ).mono ?_
  rintro e_ w5 ⟨rfl, hS_⟩
  refine ⟨_, rfl, ?_⟩
  have hS := hS.call0 hS_
  refine wv rfl rfl rfl (R_bin rfl rfl rfl rfl rfl) <| wv rfl rfl rfl (R_move rfl rfl) ?_
  have hk7 : (((edTurn ((i : Int) - 1)) != (redTurn ((i : Int) - 1)))) = false := by first | (rw [turn_law]; simp; done) | (rw [of_law]; simp; done) | (simp; done)
  have hk7p : (edTurn ((i : Int) - 1)) = (redTurn ((i : Int) - 1)) := by simpa using hk7
  refine W_cons rfl (by decide) (Sv_gt rfl rfl rfl hk7 (Sv_val rfl (R_move rfl rfl) ?_))
  refine W_cons rfl (by decide) (Sv_gt rfl rfl rfl hk7 (Sv_call rfl rfl rfl ent15 ?_))
  refine (eglyph_calls ((i : Int) - 1) _ _ hS.out0  ).mono ?_
  rintro e_ w8 ⟨rfl, hS_⟩
  refine ⟨_, rfl, ?_⟩
  have hS := hS.call0 hS_
  refine W_cons rfl (by decide) (Sv_gt rfl rfl rfl hk7 (Sv_val rfl (R_move rfl rfl) ?_))
  refine W_cons rfl (by decide) (Sv_gt rfl rfl rfl hk7 (Sv_call rfl rfl rfl ent16 ?_))
  refine (rglyph_calls ((i : Int) - 1) _ _ hS.out0  ).mono ?_
  rintro e_ w10 ⟨rfl, hS_⟩
  refine ⟨_, rfl, ?_⟩
  have hS := hS.call0 hS_
  refine W_cons rfl (by decide) (Sv_gt rfl rfl rfl hk7 (Sv_val rfl (R_bin rfl rfl rfl rfl rfl) ?_))
  refine wv rfl rfl rfl (R_pick_f rfl rfl hk7 rfl) <| wv rfl rfl rfl (R_move rfl rfl) ?_
  have hk12 : (((glyphS ((i : Int) - 1)) != (glyphS ((i : Int) - 1)))) = false := by first | (rw [turn_law]; simp; done) | (rw [of_law]; simp; done) | (simp; done)
  have hk12p : (glyphS ((i : Int) - 1)) = (glyphS ((i : Int) - 1)) := by simpa using hk12
  refine W_cons rfl (by decide) (Sv_gt rfl rfl rfl hk12 (Sv_val rfl (R_move rfl rfl) ?_))
  refine W_cons rfl (by decide) (Sv_gt rfl rfl rfl hk12 (Sv_val rfl (R_add64 rfl rfl rfl (by omega) (by omega)) ?_))
  refine W_cons rfl (by decide) (Sv_gt rfl rfl rfl hk12 (Sv_call rfl rfl rfl ent17 ?_))
  refine (eof_calls (9472 + ((i : Int) - 1)) _ _ hS.out0  ).mono ?_
  rintro e_ w13 ⟨rfl, hS_⟩
  refine ⟨_, rfl, ?_⟩
  have hS := hS.call0 hS_
  refine W_cons rfl (by decide) (Sv_gt rfl rfl rfl hk12 (Sv_val rfl (R_move rfl rfl) ?_))
  refine W_cons rfl (by decide) (Sv_gt rfl rfl rfl hk12 (Sv_val rfl (R_add64 rfl rfl rfl (by omega) (by omega)) ?_))
  refine W_cons rfl (by decide) (Sv_gt rfl rfl rfl hk12 (Sv_call rfl rfl rfl ent18 ?_))
  refine (rof_calls (9472 + ((i : Int) - 1)) _ _ hS.out0  ).mono ?_
  rintro e_ w15 ⟨rfl, hS_⟩
  refine ⟨_, rfl, ?_⟩
  have hS := hS.call0 hS_
  refine W_cons rfl (by decide) (Sv_gt rfl rfl rfl hk12 (Sv_val rfl (R_bin rfl rfl rfl rfl rfl) ?_))
  refine wv rfl rfl rfl (R_pick_f rfl rfl hk12 rfl) ?_
  refine W_nil ?_
  refine E_then (C_fr [(0, .int .i64 a0), (1, .int .i64 a1), (5, .int .i64 ((i : Int) - 1)), (30, .bool ((ofS (9472 + ((i : Int) - 1))) != (rofS (9472 + ((i : Int) - 1)))))] rfl ?_)
  have hk17 : (((ofS (9472 + ((i : Int) - 1))) != (rofS (9472 + ((i : Int) - 1))))) = false := by first | (rw [turn_law]; simp; done) | (rw [of_law]; simp; done) | (simp; done)
  have hk17p : (ofS (9472 + ((i : Int) - 1))) = (rofS (9472 + ((i : Int) - 1))) := by simpa using hk17
  refine C_else rfl hk17 ?_
  refine C_skip ?_
  refine E_block_normal ?_
  refine E_then ?_
  refine C_region ?_
  refine wv rfl rfl rfl (R_move rfl rfl) <| wv rfl rfl rfl (R_add64 rfl rfl rfl (by omega) (by omega)) <| wv rfl rfl rfl (R_assign rfl rfl) ?_
  refine W_nil ?_
  have hs18 : ((i : Int) - 1) + 1 = ((i + 1 : Nat) : Int) - 1 := by omega
  refine E_round [0, 1, 5] ?_ ⟨(i + 1 : Nat), (by rw [← hs18] <;> rfl), (by omega), rfl, hS.fin [] (by decide) rfl⟩
  omega
 ·have _hC0 := trivial
  have hC0p : ¬ (((i : Int) - 1) < 17) := by simpa using hC0
  refine C_exit ?_
  refine E_then_exit ?_
  refine E_then_exit ?_
  refine E_block_hit ?_
  refine E_then ?_
  refine C_seq ?_
  refine C_region ?_
  refine wv rfl rfl rfl (R_move rfl rfl) ?_
  refine W_cons rfl (by decide) (Sv_call rfl rfl rfl ent13 ?_)
  refine (eturn_calls a0 _ _ hS.out0  ).mono ?_
  rintro e_ w19 ⟨rfl, hS_⟩
  refine ⟨_, rfl, ?_⟩
  have hS := hS.call0 hS_
  refine wv rfl rfl rfl (R_move rfl rfl) ?_
  refine W_cons rfl (by decide) (Sv_call rfl rfl rfl ent14 ?_)
  refine (rturn_calls a0 _ _ hS.out0  ).mono ?_
  rintro e_ w21 ⟨rfl, hS_⟩
  refine ⟨_, rfl, ?_⟩
  have hS := hS.call0 hS_
  refine wv rfl rfl rfl (R_bin rfl rfl rfl rfl rfl) <| wv rfl rfl rfl (R_move rfl rfl) ?_
  have hk23 : (((edTurn a0) == (redTurn a0))) = true := by first | (rw [turn_law]; simp; done) | (rw [of_law]; simp; done) | (simp; done)
  have hk23p : (edTurn a0) = (redTurn a0) := by simpa using hk23
  refine W_cons rfl (by decide) (Sv_gt rfl rfl rfl hk23 (Sv_val rfl (R_move rfl rfl) ?_))
  refine W_cons rfl (by decide) (Sv_gt rfl rfl rfl hk23 (Sv_call rfl rfl rfl ent15 ?_))
  refine (eglyph_calls a0 _ _ hS.out0  ).mono ?_
  rintro e_ w24 ⟨rfl, hS_⟩
  refine ⟨_, rfl, ?_⟩
  have hS := hS.call0 hS_
  refine W_cons rfl (by decide) (Sv_gt rfl rfl rfl hk23 (Sv_val rfl (R_move rfl rfl) ?_))
  refine W_cons rfl (by decide) (Sv_gt rfl rfl rfl hk23 (Sv_call rfl rfl rfl ent16 ?_))
  refine (rglyph_calls a0 _ _ hS.out0  ).mono ?_
  rintro e_ w26 ⟨rfl, hS_⟩
  refine ⟨_, rfl, ?_⟩
  have hS := hS.call0 hS_
  refine W_cons rfl (by decide) (Sv_gt rfl rfl rfl hk23 (Sv_val rfl (R_bin rfl rfl rfl rfl rfl) ?_))
  refine wv rfl rfl rfl (R_pick_t rfl rfl hk23 rfl) <| wv rfl rfl rfl (R_move rfl rfl) ?_
  have hk28 : (((glyphS a0) == (glyphS a0))) = true := by first | (rw [turn_law]; simp; done) | (rw [of_law]; simp; done) | (simp; done)
  have hk28p : (glyphS a0) = (glyphS a0) := by simpa using hk28
  refine W_cons rfl (by decide) (Sv_gt rfl rfl rfl hk28 (Sv_val rfl (R_move rfl rfl) ?_))
  refine W_cons rfl (by decide) (Sv_gt rfl rfl rfl hk28 (Sv_call rfl rfl rfl ent17 ?_))
  refine (eof_calls a1 _ _ hS.out0  ).mono ?_
  rintro e_ w29 ⟨rfl, hS_⟩
  refine ⟨_, rfl, ?_⟩
  have hS := hS.call0 hS_
  refine W_cons rfl (by decide) (Sv_gt rfl rfl rfl hk28 (Sv_val rfl (R_move rfl rfl) ?_))
  refine W_cons rfl (by decide) (Sv_gt rfl rfl rfl hk28 (Sv_call rfl rfl rfl ent18 ?_))
  refine (rof_calls a1 _ _ hS.out0  ).mono ?_
  rintro e_ w31 ⟨rfl, hS_⟩
  refine ⟨_, rfl, ?_⟩
  have hS := hS.call0 hS_
  refine W_cons rfl (by decide) (Sv_gt rfl rfl rfl hk28 (Sv_val rfl (R_bin rfl rfl rfl rfl rfl) ?_))
  refine wv rfl rfl rfl (R_pick_t rfl rfl hk28 rfl) <| wv rfl rfl rfl (R_move rfl rfl) ?_
  have hk33 : (((ofS a1) == (rofS a1))) = true := by first | (rw [turn_law]; simp; done) | (rw [of_law]; simp; done) | (simp; done)
  have hk33p : (ofS a1) = (rofS a1) := by simpa using hk33
  refine W_cons rfl (by decide) (Sv_gt rfl rfl rfl hk33 (Sv_val rfl (R_move rfl rfl) ?_))
  refine W_cons rfl (by decide) (Sv_gt rfl rfl rfl hk33 (Sv_val rfl (R_and64 7 128 rfl rfl rfl (by decide) (by decide) (by decide)) ?_))
  refine W_cons rfl (by decide) (Sv_gt rfl rfl rfl hk33 (Sv_val rfl (R_add64 rfl rfl rfl (by omega) (by omega)) ?_))
  refine W_cons rfl (by decide) (Sv_gt rfl rfl rfl hk33 (Sv_call rfl rfl rfl ent17 ?_))
  refine (eof_calls (9472 + (a1 % 128)) _ _ hS.out0  ).mono ?_
  rintro e_ w34 ⟨rfl, hS_⟩
  refine ⟨_, rfl, ?_⟩
  have hS := hS.call0 hS_
  refine W_cons rfl (by decide) (Sv_gt rfl rfl rfl hk33 (Sv_val rfl (R_move rfl rfl) ?_))
  refine W_cons rfl (by decide) (Sv_gt rfl rfl rfl hk33 (Sv_val rfl (R_and64 7 128 rfl rfl rfl (by decide) (by decide) (by decide)) ?_))
  refine W_cons rfl (by decide) (Sv_gt rfl rfl rfl hk33 (Sv_val rfl (R_add64 rfl rfl rfl (by omega) (by omega)) ?_))
  refine W_cons rfl (by decide) (Sv_gt rfl rfl rfl hk33 (Sv_call rfl rfl rfl ent18 ?_))
  refine (rof_calls (9472 + (a1 % 128)) _ _ hS.out0  ).mono ?_
  rintro e_ w36 ⟨rfl, hS_⟩
  refine ⟨_, rfl, ?_⟩
  have hS := hS.call0 hS_
  refine W_cons rfl (by decide) (Sv_gt rfl rfl rfl hk33 (Sv_val rfl (R_bin rfl rfl rfl rfl rfl) ?_))
  refine wv rfl rfl rfl (R_pick_t rfl rfl hk33 rfl) <| wv rfl rfl rfl (R_move rfl rfl) ?_
  have hk38 : (((ofS (9472 + (a1 % 128))) == (rofS (9472 + (a1 % 128))))) = true := by first | (rw [turn_law]; simp; done) | (rw [of_law]; simp; done) | (simp; done)
  have hk38p : (ofS (9472 + (a1 % 128))) = (rofS (9472 + (a1 % 128))) := by simpa using hk38
  refine W_cons rfl (by decide) (Sv_gt rfl rfl rfl hk38 (Sv_call rfl rfl rfl ent12 ?_))
  refine (eawake_calls  _ _ hS.out0  ).mono ?_
  rintro e_ w39 ⟨rfl, hS_⟩
  refine ⟨_, rfl, ?_⟩
  have hS := hS.call0 hS_
  refine wv rfl rfl rfl (R_pick_t rfl rfl hk38 rfl) <| wv rfl rfl rfl (R_assign rfl rfl) ?_
  refine W_nil ?_
  refine E_then (C_fr [(4, .bool true)] rfl ?_)
  refine C_ret ?_
  refine E_ret1 rfl rfl ?_
  exact ⟨Lret1 (Lbool (show true = true by rfl)), hS.fin [] (by decide) rfl⟩

end Go.Proofs.YtalpekmbknjeeaaG
