/- Walks, each function once: what it computes. -/
import Derived.Test.YtcjaplaifmhajaaDoorF0
set_option linter.all false
namespace Go.Proofs.YtcjaplaifmhajaaDoorG
open Go Go.RowKit
set_option maxHeartbeats 400000 in
set_option maxRecDepth 20000 in
theorem print1_calls (a0 : List St) (Aa0 : Option Addr) (ca0 : Nat) (ba1 : Nat) (a1 : Bool) (z : Z) (w : World) (hI : In z w [bR ba1 4 [.bool a1]]) (hra0 : Rd kstr z Aa0 a0) (hca0 : Cap Aa0 a0.length ca0) (p0 : FitR a0) (p1 : HM z) :
    Calls Tryd.prog 23 #[.slice Aa0 a0.length ca0, .pointer (some ⟨ba1, 0, none⟩)] w fun e w' => e = .returned (vstr (recQ a0)) ∧ Sp (FF [bR ba1 4 [.bool a1]]) w z w' [bR ba1 4 [.bool (a1 && decide (0 < a0.length))]] := by
 have hla0 := hca0.le
 have hma0 := hca0.mx
 have hS := hI.sp
 obtain ⟨hf1, hf2, hf3⟩ := p0
 refine Calls_of (vs := [.slice Aa0 a0.length ca0, .pointer (some ⟨ba1, 0, none⟩)]) (N := 12) Tryd.func23 rfl rfl (Nat.le_of_ble_eq_true rfl) ?_
 refine C_seq ?_
 refine C_region ?_
 refine wv rfl rfl rfl (R_assign rfl rfl) ?_
 refine W_nil ?_
 refine E_then ?_
 refine C_seq ?_
 refine C_region ?_
 refine wv rfl rfl rfl (R_load1 rfl rfl agg4 ((hS.bx 0 rfl).cell rfl)) <| wv rfl rfl rfl (R_move rfl rfl) <| wg rfl rfl (Gd.on rfl rfl rfl) (fun hB => R_move rfl rfl) <| wg rfl rfl (Gd.on rfl rfl rfl) (fun hB => Runs.at_ (i := 6) (gl rfl hB) (R_len rfl rfl Tryd.underlying33)) <| wg rfl rfl (Gd.on rfl rfl rfl) (fun hB => Runs.at_ (i := 7) (gl rfl hB) (R_bin rfl rfl rfl rfl rfl)) <| wv rfl rfl rfl (R_pick_and rfl rfl rfl rfl) ?_
 refine W_cons0 rfl (S_store hS 0 rfl rfl rfl rfl rfl size4 (one1 rfl) (Nat.le_of_ble_eq_true rfl) (fun w1 hS => ?_))
 refine W_nil ?_
 refine E_then (C_fr [(0, .slice Aa0 a0.length ca0)] rfl ?_)
 refine C_seq ?_
 refine C_region ?_
 refine wv rfl rfl rfl (R_move rfl rfl) ?_
 refine W_cons rfl (by decide) (Sv_call rfl rfl rfl ent24 ?_)
 refine (joinedS_calls a0 Aa0 ca0 [44] [] _ _ hS.out0 (hra0.mono (hS.zl [])) hca0 (by exact hf1) (by exact hf2) (by exact hf3) (by first | exact HM.mono (by assumption) (hS.zl []) | exact HM.mono (by assumption) (hS.zl [0]) | exact HM.mono (by assumption) (hS.zl [1]))).mono ?_
 rintro e_ w2 ⟨rfl, hS_⟩
 refine ⟨_, rfl, ?_⟩
 have hS := hS.call0 hS_
 refine wv rfl rfl rfl (R_assign rfl rfl) ?_
 refine W_nil ?_
 refine E_then ?_
 refine C_ret ?_
 have hv4 : (a1 && (decide ((a0.length : Int) > 0))) = (a1 && decide (0 < a0.length)) := by first | rfl | (rw [Bool.eq_iff_iff]; simp; done) | (rw [Bool.eq_iff_iff]; simp; omega) | simp_all | (cases a1 <;> simp_all)
 have hS := hS.as 0 rfl (r' := bR ba1 4 [.bool (a1 && decide (0 < a0.length))]) (fun h_ => by rw [← hv4]; exact h_) (fun _ h_ => h_)
 refine E_ret1 rfl rfl ?_
 exact ⟨Lret1 (Lstr (show pieces [44] [] fldQ a0 = recQ a0 by rfl)), hS.fin [0] (by decide) rfl⟩

end Go.Proofs.YtcjaplaifmhajaaDoorG
