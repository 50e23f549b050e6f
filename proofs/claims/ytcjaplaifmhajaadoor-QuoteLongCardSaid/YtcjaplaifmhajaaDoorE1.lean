/- Walks, each function once: what it computes. -/
import Derived.Test.YtcjaplaifmhajaaDoorE0
set_option linter.all false
namespace Go.Proofs.YtcjaplaifmhajaaDoorG
open Go Go.RowKit
set_option maxHeartbeats 400000 in
set_option maxRecDepth 20000 in
theorem containsAny_calls (a0 : St) (a1 : St) (z : Z) (w : World) (hI : In z w [])  (p0 : a1 = ([34, 44, 13, 10] : St)) (p1 : a0.length ≤ 1000000000) :
    Calls Tryd.prog 20 #[vstr a0, vstr a1] w fun e w' => e = .returned (.bool (needS a0)) ∧ Sp (FF []) w z w' [] := by
 have hS := hI.sp
 refine Calls_of (vs := [vstr a0, vstr a1]) (N := 9) Tryd.func20 rfl rfl (Nat.le_of_ble_eq_true rfl) ?_
 refine C_seq ?_
 refine C_region ?_
 refine wv rfl rfl rfl (R_assign rfl rfl) ?_
 refine W_nil ?_
 refine E_then ?_
 refine C_seq ?_
 refine C_region ?_
 refine wv rfl rfl rfl (R_move rfl rfl) <| wv rfl rfl rfl (R_move rfl rfl) ?_
 refine W_cons rfl (by decide) (Sv_call rfl rfl rfl ent28 ?_)
 refine (indexAny_calls a0 a1 _ _ hS.out0  (by assumption) (by omega)).mono ?_
 rintro e_ w1 ⟨rfl, hS_⟩
 refine ⟨_, rfl, ?_⟩
 have hS := hS.call0 hS_
 refine wv rfl rfl rfl (R_bin rfl rfl rfl rfl rfl) <| wv rfl rfl rfl (R_assign rfl rfl) ?_
 refine W_nil ?_
 refine E_then (C_fr [(4, .bool (decide ((Lib.indexAny a0 ([34, 44, 13, 10] : St)) ≥ 0)))] rfl ?_)
 refine C_ret ?_
 refine E_ret1 rfl rfl ?_
 exact ⟨Lret1 (Lbool (show (decide ((Lib.indexAny a0 ([34, 44, 13, 10] : St)) ≥ 0)) = (needS a0) by first | (rw [Bool.eq_iff_iff]; simp only [decide_eq_true_eq]; exact anyQ a0) | (rw [Bool.eq_iff_iff, ← anyQ]; simp; done) | (rw [Bool.eq_iff_iff, ← anyQ]; simp; omega))), hS.fin [] (by decide) rfl⟩

set_option maxHeartbeats 400000 in
set_option maxRecDepth 20000 in
theorem qfield_calls (a0 : St) (z : Z) (w : World) (hI : In z w [])  (p0 : a0.length ≤ 1000000000) (p1 : HM z) :
    Calls Tryd.prog 10 #[vstr a0] w fun e w' => e = .returned (vstr (fldQ a0)) ∧ Sp (FF []) w z w' [] := by
 have hS := hI.sp
 refine Calls_of (vs := [vstr a0]) (N := 11) Tryd.func10 rfl rfl (Nat.le_of_ble_eq_true rfl) ?_
 refine C_seq ?_
 refine C_region ?_
 refine wv rfl rfl rfl (R_assign rfl rfl) ?_
 refine W_nil ?_
 refine E_then ?_
 refine C_seq ?_
 refine C_seq ?_
 refine C_region ?_
 refine wv rfl rfl rfl (R_move rfl rfl) ?_
 refine W_cons rfl (by decide) (Sv_call rfl rfl rfl ent20 ?_)
 refine (containsAny_calls a0 [34, 44, 13, 10] _ _ hS.out0  (by rfl) (by omega)).mono ?_
 rintro e_ w1 ⟨rfl, hS_⟩
 refine ⟨_, rfl, ?_⟩
 have hS := hS.call0 hS_
 refine wv rfl rfl rfl (R_un rfl rfl rfl) ?_
 refine W_nil ?_
 refine E_then ?_
 refine C_ite rfl (fun hC0 => ?_) (fun hC0 => ?_)
 ·have _hC0 := trivial
  have hC0p : ¬ (needS a0 = true) := by simpa using hC0
  refine C_seq ?_
  refine C_region ?_
  refine wv rfl rfl rfl (R_move rfl rfl) <| wv rfl rfl rfl (R_assign rfl rfl) ?_
  refine W_nil ?_
  refine E_then (C_fr [(2, vstr a0)] rfl ?_)
  refine C_ret ?_
  refine E_then_ret ?_
  refine E_ret1 rfl rfl ?_
  exact ⟨Lret1 (Lstr (show a0 = fldQ a0 by simp_all [fldQ])), hS.fin [] (by decide) rfl⟩
 ·have _hC0 := trivial
  have hC0p : (needS a0 = true) := by simpa using hC0
  refine C_skip ?_
  refine E_then ?_
  refine C_seq ?_
  have hdl := dupS_len a0
  refine C_region ?_
  refine wv rfl rfl rfl (R_move rfl rfl) ?_
  refine W_cons rfl (by decide) (Sv_call rfl rfl rfl ent21 ?_)
  refine (replaceAll_calls a0 [34] [34, 34] _ _ hS.out0  (by rfl) (by rfl) (by omega) (by first | exact HM.mono (by assumption) (hS.zl []) | exact HM.mono (by assumption) (hS.zl [0]) | exact HM.mono (by assumption) (hS.zl [1]))).mono ?_
  rintro e_ w3 ⟨rfl, hS_⟩
  refine ⟨_, rfl, ?_⟩
  have hS := hS.call0 hS_
  refine wv rfl rfl rfl (R_stradd rfl rfl rfl (by simp only [List.length_append, List.length_take, List.length_drop, List.length_cons, List.length_nil]; omega)) <| wv rfl rfl rfl (R_stradd rfl rfl rfl (by simp only [List.length_append, List.length_take, List.length_drop, List.length_cons, List.length_nil]; omega)) <| wv rfl rfl rfl (R_assign rfl rfl) ?_
  refine W_nil ?_
  refine E_then (C_fr [(2, vstr (([34] ++ (dupS a0)) ++ [34]))] rfl ?_)
  refine C_ret ?_
  refine E_ret1 rfl rfl ?_
  exact ⟨Lret1 (Lstr (show ([34] ++ (dupS a0)) ++ [34] = fldQ a0 by simp_all [fldQ])), hS.fin [] (by decide) rfl⟩

end Go.Proofs.YtcjaplaifmhajaaDoorG
