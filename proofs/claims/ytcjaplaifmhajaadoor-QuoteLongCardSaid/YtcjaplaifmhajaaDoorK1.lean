/- Walks, each function once: what it computes. -/
import Derived.Test.YtcjaplaifmhajaaDoorK0
set_option linter.all false
namespace Go.Proofs.YtcjaplaifmhajaaDoorG
open Go Go.RowKit
set_option maxHeartbeats 400000 in
set_option maxRecDepth 20000 in
theorem bare_calls (a0 : Int) (z : Z) (w : World) (hI : In z w [])   :
    Calls Tryd.prog 42 #[.int .u8 a0] w fun e w' => e = .returned (.bool (decide (¬ a0 = 34 ∧ ¬ a0 = 44 ∧ ¬ a0 = 13 ∧ ¬ a0 = 10))) ∧ Sp (FF []) w z w' [] := by
 have hS := hI.sp
 refine Calls_of (vs := [.int .u8 a0]) (N := 17) Tryd.func42 rfl rfl (Nat.le_of_ble_eq_true rfl) ?_
 refine C_seq ?_
 refine C_region ?_
 refine wv rfl rfl rfl (R_assign rfl rfl) ?_
 refine W_nil ?_
 refine E_then ?_
 refine C_seq ?_
 refine C_region ?_
 refine wv rfl rfl rfl (R_move rfl rfl) <| wv rfl rfl rfl (R_bin rfl rfl rfl rfl rfl) <| wv rfl rfl rfl (R_move rfl rfl) ?_
 refine W_split (t := 5) rfl (fun hg1 => ?_) (fun hg1 => ?_)
 ·have _hg1 := trivial
  have hg1p : ¬ a0 = 34 := by simpa using hg1
  refine W_cons rfl (by decide) (Sv_gt rfl rfl rfl hg1 (Sv_val rfl (R_move rfl rfl) ?_))
  refine W_cons rfl (by decide) (Sv_gt rfl rfl rfl hg1 (Sv_val rfl (R_bin rfl rfl rfl rfl rfl) ?_))
  refine wv rfl rfl rfl (R_pick_t rfl rfl hg1 rfl) <| wv rfl rfl rfl (R_move rfl rfl) ?_
  refine W_split (t := 9) rfl (fun hg2 => ?_) (fun hg2 => ?_)
  ·have _hg2 := trivial
   have hg2p : ¬ a0 = 44 := by simpa using hg2
   refine W_cons rfl (by decide) (Sv_gt rfl rfl rfl hg2 (Sv_val rfl (R_move rfl rfl) ?_))
   refine W_cons rfl (by decide) (Sv_gt rfl rfl rfl hg2 (Sv_val rfl (R_bin rfl rfl rfl rfl rfl) ?_))
   refine wv rfl rfl rfl (R_pick_t rfl rfl hg2 rfl) <| wv rfl rfl rfl (R_move rfl rfl) ?_
   refine W_split (t := 13) rfl (fun hg3 => ?_) (fun hg3 => ?_)
   ·have _hg3 := trivial
    have hg3p : ¬ a0 = 13 := by simpa using hg3
    refine W_cons rfl (by decide) (Sv_gt rfl rfl rfl hg3 (Sv_val rfl (R_move rfl rfl) ?_))
    refine W_cons rfl (by decide) (Sv_gt rfl rfl rfl hg3 (Sv_val rfl (R_bin rfl rfl rfl rfl rfl) ?_))
    refine wv rfl rfl rfl (R_pick_t rfl rfl hg3 rfl) <| wv rfl rfl rfl (R_assign rfl rfl) ?_
    refine W_nil ?_
    refine E_then (C_fr [(2, .bool (a0 != 10))] rfl ?_)
    refine C_ret ?_
    refine E_ret1 rfl rfl ?_
    exact ⟨Lret1 (Lbool (show (a0 != 10) = (decide (¬ a0 = 34 ∧ ¬ a0 = 44 ∧ ¬ a0 = 13 ∧ ¬ a0 = 10)) by rw [Bool.eq_iff_iff]; simp; omega)), hS.fin [] (by decide) rfl⟩
   ·have _hg3 := trivial
    have hg3p : a0 = 13 := by simpa using hg3
    refine W_cons rfl (by decide) (Sv_off rfl rfl rfl (by rw [hg3] <;> rfl) ?_)
    refine W_cons rfl (by decide) (Sv_off rfl rfl rfl (by rw [hg3] <;> rfl) ?_)
    refine wv rfl rfl rfl (R_pick_f rfl rfl hg3 rfl) <| wv rfl rfl rfl (R_assign rfl rfl) ?_
    refine W_nil ?_
    refine E_then (C_fr [(2, .bool false)] rfl ?_)
    refine C_ret ?_
    refine E_ret1 rfl rfl ?_
    exact ⟨Lret1 (Lbool (show false = (decide (¬ a0 = 34 ∧ ¬ a0 = 44 ∧ ¬ a0 = 13 ∧ ¬ a0 = 10)) by rw [Bool.eq_iff_iff]; simp; omega)), hS.fin [] (by decide) rfl⟩
  ·have _hg2 := trivial
   have hg2p : a0 = 44 := by simpa using hg2
   refine W_cons rfl (by decide) (Sv_off rfl rfl rfl (by rw [hg2] <;> rfl) ?_)
   refine W_cons rfl (by decide) (Sv_off rfl rfl rfl (by rw [hg2] <;> rfl) ?_)
   refine wv rfl rfl rfl (R_pick_f rfl rfl hg2 rfl) <| wv rfl rfl rfl (R_move rfl rfl) ?_
   refine W_cons rfl (by decide) (Sv_off rfl rfl rfl rfl ?_)
   refine W_cons rfl (by decide) (Sv_off rfl rfl rfl rfl ?_)
   refine wv rfl rfl rfl (R_pick_f rfl rfl rfl rfl) <| wv rfl rfl rfl (R_assign rfl rfl) ?_
   refine W_nil ?_
   refine E_then (C_fr [(2, .bool false)] rfl ?_)
   refine C_ret ?_
   refine E_ret1 rfl rfl ?_
   exact ⟨Lret1 (Lbool (show false = (decide (¬ a0 = 34 ∧ ¬ a0 = 44 ∧ ¬ a0 = 13 ∧ ¬ a0 = 10)) by rw [Bool.eq_iff_iff]; simp; omega)), hS.fin [] (by decide) rfl⟩
 ·have _hg1 := trivial
  have hg1p : a0 = 34 := by simpa using hg1
  refine W_cons rfl (by decide) (Sv_off rfl rfl rfl (by rw [hg1] <;> rfl) ?_)
  refine W_cons rfl (by decide) (Sv_off rfl rfl rfl (by rw [hg1] <;> rfl) ?_)
  refine wv rfl rfl rfl (R_pick_f rfl rfl hg1 rfl) <| wv rfl rfl rfl (R_move rfl rfl) ?_
  refine W_cons rfl (by decide) (Sv_off rfl rfl rfl rfl ?_)
  refine W_cons rfl (by decide) (Sv_off rfl rfl rfl rfl ?_)
  refine wv rfl rfl rfl (R_pick_f rfl rfl rfl rfl) <| wv rfl rfl rfl (R_move rfl rfl) ?_
  refine W_cons rfl (by decide) (Sv_off rfl rfl rfl rfl ?_)
  refine W_cons rfl (by decide) (Sv_off rfl rfl rfl rfl ?_)
  refine wv rfl rfl rfl (R_pick_f rfl rfl rfl rfl) <| wv rfl rfl rfl (R_assign rfl rfl) ?_
  refine W_nil ?_
  refine E_then (C_fr [(2, .bool false)] rfl ?_)
  refine C_ret ?_
  refine E_ret1 rfl rfl ?_
  exact ⟨Lret1 (Lbool (show false = (decide (¬ a0 = 34 ∧ ¬ a0 = 44 ∧ ¬ a0 = 13 ∧ ¬ a0 = 10)) by rw [Bool.eq_iff_iff]; simp; omega)), hS.fin [] (by decide) rfl⟩

end Go.Proofs.YtcjaplaifmhajaaDoorG
