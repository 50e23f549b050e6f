/- The walk of the law EdgeTurns: it returns true. -/
import Derived.Test.YtalpekmbknjeeaaF1
set_option linter.all false
namespace Go.Proofs.YtalpekmbknjeeaaG
open Go Go.RowKit
set_option maxHeartbeats 400000 in
set_option maxRecDepth 20000 in
theorem edgeTurns_calls (a0 : Int) (z : Z) (w : World) (hI : In z w [])   :
    Calls Try.prog 6 #[.int .i64 a0] w fun e w' => e = .returned (.bool true) ∧ Sp (FF []) w z w' [] := by
 have hS := hI.sp
 obtain ⟨hf1, hf2, hf3, hf4, hf5⟩ := turn_facts a0
 refine Calls_of (vs := [.int .i64 a0]) (N := 45) Try.func6 rfl rfl (Nat.le_of_ble_eq_true rfl) ?_
 refine C_seq ?_
 refine C_region ?_
 refine wv rfl rfl rfl (R_assign rfl rfl) ?_
 refine W_nil ?_
 refine E_then ?_
 refine C_seq ?_
 refine C_region ?_
 refine wv rfl rfl rfl (R_move rfl rfl) <| wv rfl rfl rfl (R_and64 4 16 rfl rfl rfl (by decide) (by decide) (by decide)) <| wv rfl rfl rfl (R_assign rfl rfl) ?_
 refine W_nil ?_
 refine E_then ?_
 refine C_seq ?_
 refine C_region ?_
 refine wv rfl rfl rfl (R_move rfl rfl) ?_
 refine W_cons rfl (by decide) (Sv_call rfl rfl rfl ent13 ?_)
 refine (eturn_calls a0 _ _ hS.out0  ).mono ?_
 rintro e_ w1 ⟨rfl, hS_⟩
 refine ⟨_, rfl, ?_⟩
 have hS := hS.call0 hS_
 refine wv rfl rfl rfl (R_assign rfl rfl) ?_
 refine W_nil ?_
 refine E_then (C_fr [(0, .int .i64 a0), (3, .int .i64 (a0 % 16)), (4, .int .i64 (edTurn a0))] rfl ?_)
 refine C_seq ?_
 refine C_region ?_
 refine wv rfl rfl rfl (R_move rfl rfl) ?_
 refine W_cons rfl (by decide) (Sv_call rfl rfl rfl ent13 ?_)
 refine (eturn_calls (edTurn a0) _ _ hS.out0  ).mono ?_
 rintro e_ w3 ⟨rfl, hS_⟩
 refine ⟨_, rfl, ?_⟩
 have hS := hS.call0 hS_
 refine wv rfl rfl rfl (R_move rfl rfl) <| wv rfl rfl rfl (R_bin rfl rfl rfl rfl rfl) <| wv rfl rfl rfl (R_move rfl rfl) ?_
 have hk5 : (((edTurn (edTurn a0)) == (a0 % 16))) = true := by simp [hf1, hf2, hf3, hf4, hf5]
 have hk5p : (edTurn (edTurn a0)) = (a0 % 16) := by simpa using hk5
 refine W_cons rfl (by decide) (Sv_gt rfl rfl rfl hk5 (Sv_val rfl (R_move rfl rfl) ?_))
 refine W_cons rfl (by decide) (Sv_gt rfl rfl rfl hk5 (Sv_val rfl (R_bin rfl rfl rfl rfl rfl) ?_))
 refine W_cons rfl (by decide) (Sv_gt rfl rfl rfl hk5 (Sv_val rfl (R_move rfl rfl) ?_))
 refine W_cons rfl (by decide) (Sv_gt rfl rfl rfl hk5 (Sv_val rfl (R_bin rfl rfl rfl rfl rfl) ?_))
 refine W_cons rfl (by decide) (Sv_gt rfl rfl rfl hk5 (Sv_val rfl (R_bin rfl rfl rfl rfl rfl) ?_))
 refine wv rfl rfl rfl (R_pick_t rfl rfl hk5 rfl) <| wv rfl rfl rfl (R_move rfl rfl) ?_
 have hk6 : (((Go.bits .and .i64 (edTurn a0) 10) == (Go.bits .and .i64 (a0 % 16) 10))) = true := by simp [hf1, hf2, hf3, hf4, hf5]
 have hk6p : (Go.bits .and .i64 (edTurn a0) 10) = (Go.bits .and .i64 (a0 % 16) 10) := by simpa using hk6
 refine W_cons rfl (by decide) (Sv_gt rfl rfl rfl hk6 (Sv_val rfl (R_move rfl rfl) ?_))
 refine W_cons rfl (by decide) (Sv_gt rfl rfl rfl hk6 (Sv_call rfl rfl rfl ent19 ?_))
 refine (ebits_calls (edTurn a0) _ _ hS.out0  ).mono ?_
 rintro e_ w7 ⟨rfl, hS_⟩
 refine ⟨_, rfl, ?_⟩
 have hS := hS.call0 hS_
 refine W_cons rfl (by decide) (Sv_gt rfl rfl rfl hk6 (Sv_val rfl (R_move rfl rfl) ?_))
 refine W_cons rfl (by decide) (Sv_gt rfl rfl rfl hk6 (Sv_call rfl rfl rfl ent19 ?_))
 refine (ebits_calls (a0 % 16) _ _ hS.out0  ).mono ?_
 rintro e_ w9 ⟨rfl, hS_⟩
 refine ⟨_, rfl, ?_⟩
 have hS := hS.call0 hS_
 refine W_cons rfl (by decide) (Sv_gt rfl rfl rfl hk6 (Sv_val rfl (R_bin rfl rfl rfl rfl rfl) ?_))
 refine wv rfl rfl rfl (R_pick_t rfl rfl hk6 rfl) <| wv rfl rfl rfl (R_move rfl rfl) ?_
 have hk11 : (((bitsS (edTurn a0)) == (bitsS (a0 % 16)))) = true := by simp [hf1, hf2, hf3, hf4, hf5]
 have hk11p : (bitsS (edTurn a0)) = (bitsS (a0 % 16)) := by simpa using hk11
 refine W_cons rfl (by decide) (Sv_gt rfl rfl rfl hk11 (Sv_val rfl (R_move rfl rfl) ?_))
 refine W_cons rfl (by decide) (Sv_gt rfl rfl rfl hk11 (Sv_val rfl ((show Runs _ _ _ _ (.int .i64 ((edTurn a0) / 4)) _ from R_shr (n := 2) rfl rfl rfl (by omega) (by decide))) ?_))
 refine W_cons rfl (by decide) (Sv_gt rfl rfl rfl hk11 (Sv_val rfl (R_and64 1 2 rfl rfl rfl (by decide) (by decide) (by decide)) ?_))
 refine W_cons rfl (by decide) (Sv_gt rfl rfl rfl hk11 (Sv_val rfl (R_move rfl rfl) ?_))
 refine W_cons rfl (by decide) (Sv_gt rfl rfl rfl hk11 (Sv_val rfl (R_and64 1 2 rfl rfl rfl (by decide) (by decide) (by decide)) ?_))
 refine W_cons rfl (by decide) (Sv_gt rfl rfl rfl hk11 (Sv_val rfl (R_bin rfl rfl rfl rfl rfl) ?_))
 refine wv rfl rfl rfl (R_pick_t rfl rfl hk11 rfl) <| wv rfl rfl rfl (R_move rfl rfl) ?_
 have hk12 : (((((edTurn a0) / 4) % 2) == ((a0 % 16) % 2))) = true := by simp [hf1, hf2, hf3, hf4, hf5]
 have hk12p : (((edTurn a0) / 4) % 2) = ((a0 % 16) % 2) := by simpa using hk12
 refine W_cons rfl (by decide) (Sv_gt rfl rfl rfl hk12 (Sv_val rfl (R_move rfl rfl) ?_))
 refine W_cons rfl (by decide) (Sv_gt rfl rfl rfl hk12 (Sv_call rfl rfl rfl ent15 ?_))
 refine (eglyph_calls a0 _ _ hS.out0  ).mono ?_
 rintro e_ w13 ⟨rfl, hS_⟩
 refine ⟨_, rfl, ?_⟩
 have hS := hS.call0 hS_
 refine W_cons rfl (by decide) (Sv_gt rfl rfl rfl hk12 (Sv_call rfl rfl rfl ent17 ?_))
 refine (eof_calls (glyphS a0) _ _ hS.out0  ).mono ?_
 rintro e_ w15 ⟨rfl, hS_⟩
 refine ⟨_, rfl, ?_⟩
 have hS := hS.call0 hS_
 refine W_cons rfl (by decide) (Sv_gt rfl rfl rfl hk12 (Sv_val rfl (R_move rfl rfl) ?_))
 refine W_cons rfl (by decide) (Sv_gt rfl rfl rfl hk12 (Sv_val rfl (R_bin rfl rfl rfl rfl rfl) ?_))
 refine wv rfl rfl rfl (R_pick_t rfl rfl hk12 rfl) <| wv rfl rfl rfl (R_move rfl rfl) ?_
 have hk17 : (((ofS (glyphS a0)) == (a0 % 16))) = true := by simp [hf1, hf2, hf3, hf4, hf5]
 have hk17p : (ofS (glyphS a0)) = (a0 % 16) := by simpa using hk17
 refine W_cons rfl (by decide) (Sv_gt rfl rfl rfl hk17 (Sv_call rfl rfl rfl ent12 ?_))
 refine (eawake_calls  _ _ hS.out0  ).mono ?_
 rintro e_ w18 ⟨rfl, hS_⟩
 refine ⟨_, rfl, ?_⟩
 have hS := hS.call0 hS_
 refine wv rfl rfl rfl (R_pick_t rfl rfl hk17 rfl) <| wv rfl rfl rfl (R_assign rfl rfl) ?_
 refine W_nil ?_
 refine E_then (C_fr [(2, .bool true)] rfl ?_)
 refine C_ret ?_
 refine E_ret1 rfl rfl ?_
 exact ⟨Lret1 (Lbool (show true = true by rfl)), hS.fin [] (by decide) rfl⟩

end Go.Proofs.YtalpekmbknjeeaaG
