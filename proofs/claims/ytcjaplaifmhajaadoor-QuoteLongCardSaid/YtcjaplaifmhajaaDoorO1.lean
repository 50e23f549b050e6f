/- Walks, each function once: what it computes. -/
import Derived.Test.YtcjaplaifmhajaaDoorO0
set_option linter.all false
namespace Go.Proofs.YtcjaplaifmhajaaDoorG
open Go Go.RowKit
set_option maxHeartbeats 400000 in
set_option maxRecDepth 20000 in
theorem qprint_calls (a0 : List (List St)) (Aa0 : Option Addr) (ca0 : Nat) (z : Z) (w : World) (hI : In z w []) (hra0 : Rd (kslice kstr) z Aa0 a0) (hca0 : Cap Aa0 a0.length ca0) (p0 : FitT a0) (p1 : HM z) :
    Calls Tryd.prog 14 #[.slice Aa0 a0.length ca0] w fun e w' => e = .returned (.tuple #[vstr (printQ a0).1, .int .i64 (printQ a0).2]) ∧ Sp (FF []) w z w' [] := by
 have hla0 := hca0.le
 have hma0 := hca0.mx
 have hS := hI.sp
 obtain ⟨hf1, hf2, hf3⟩ := p0
 refine Calls_of (vs := [.slice Aa0 a0.length ca0]) (N := 20) Tryd.func14 rfl rfl (Nat.le_of_ble_eq_true rfl) ?_
 refine C_seq ?_
 refine C_region ?_
 refine wv rfl rfl rfl (R_assign rfl rfl) <| wv rfl rfl rfl (R_assign rfl rfl) ?_
 refine W_nil ?_
 refine E_then ?_
 refine C_seq ?_
 refine C_region ?_
 refine wv rfl rfl rfl (R_move rfl rfl) <| wv rfl rfl rfl (R_len rfl rfl Tryd.underlying25) <| wv rfl rfl rfl (R_bin rfl rfl rfl rfl rfl) ?_
 refine W_cons rfl (by decide) (S_box hS rfl (R_alloc rfl alloc4) (fun b2 w1 hS => ?_))
 refine W_cons0 rfl (S_store hS 0 rfl rfl rfl rfl rfl size4 (one1 rfl) (Nat.le_of_ble_eq_true rfl) (fun w3 hS => ?_))
 refine W_nil ?_
 refine E_then (C_fr [(0, .slice Aa0 a0.length ca0), (4, .pointer (some ⟨b2, 0, none⟩))] rfl ?_)
 refine C_seq ?_
 refine C_region ?_
 refine wv rfl rfl rfl (R_move rfl rfl) <| wv rfl rfl rfl (R_makeFunc rfl rfl) ?_
 refine W_cons rfl (by decide) (Sv_call rfl rfl rfl ent22 ?_)
 refine (joinedR_calls a0 Aa0 ca0 [] [13, 10] b2 (decide ((a0.length : Int) > 0)) _ _ (hS.out [0] (by decide)) (hra0.mono (hS.zl [0])) hca0 (by exact hf1) (by exact hf2) (by exact hf3) (by first | exact HM.mono (by assumption) (hS.zl []) | exact HM.mono (by assumption) (hS.zl [0]) | exact HM.mono (by assumption) (hS.zl [1]))).mono ?_
 rintro e_ w4 ⟨rfl, hS_⟩
 refine ⟨_, rfl, ?_⟩
 have hS := hS.call [0] (by decide) hS_
 refine wv rfl rfl rfl (R_assign rfl rfl) ?_
 refine W_nil ?_
 refine E_then ?_
 refine C_seq ?_
 refine C_block ?_
 refine C_seq ?_
 refine C_region ?_
 refine wv rfl rfl rfl (R_load1 rfl rfl agg4 ((hS.bx 0 rfl).cell rfl)) <| wv rfl rfl rfl (R_un rfl rfl rfl) <| wv rfl rfl rfl (R_assign rfl rfl) ?_
 refine W_nil ?_
 refine E_then (C_fr [(5, vstr (pieces [] [13, 10] recQ a0)), (12, .bool (!(fin2 (decide ((a0.length : Int) > 0)) a0)))] rfl ?_)
 refine C_ite rfl (fun hC0 => ?_) (fun hC0 => ?_)
 ·have _hC0 := trivial
  have hC0p : ¬ (fin2 (decide ((a0.length : Int) > 0)) a0 = true) := by simpa using hC0
  refine C_seq ?_
  refine C_region ?_
  refine wv rfl rfl rfl (R_assign rfl rfl) <| wv rfl rfl rfl (R_assign rfl rfl) ?_
  refine W_nil ?_
  refine E_then ?_
  refine C_ret ?_
  refine E_block_ret ?_
  refine E_then_ret ?_
  refine E_ret2 rfl rfl rfl ?_
  exact ⟨Lret2 (Lstr (show [] = (printQ a0).1 by first | (exact congrArg Prod.fst (printQ_1 (by simpa [fineT] using hC0)).symm) | (exact congrArg Prod.snd (printQ_1 (by simpa [fineT] using hC0)).symm) | (exact congrArg Prod.fst (printQ_3 (by simpa [fineT] using hC0) (by omega)).symm) | (exact congrArg Prod.snd (printQ_3 (by simpa [fineT] using hC0) (by omega)).symm) | (exact congrArg Prod.fst (printQ_0 (by simpa [fineT] using hC0) (by omega)).symm) | (exact congrArg Prod.snd (printQ_0 (by simpa [fineT] using hC0) (by omega)).symm))) (Lint (show 1 = (printQ a0).2 by first | (exact congrArg Prod.fst (printQ_1 (by simpa [fineT] using hC0)).symm) | (exact congrArg Prod.snd (printQ_1 (by simpa [fineT] using hC0)).symm) | (exact congrArg Prod.fst (printQ_3 (by simpa [fineT] using hC0) (by omega)).symm) | (exact congrArg Prod.snd (printQ_3 (by simpa [fineT] using hC0) (by omega)).symm) | (exact congrArg Prod.fst (printQ_0 (by simpa [fineT] using hC0) (by omega)).symm) | (exact congrArg Prod.snd (printQ_0 (by simpa [fineT] using hC0) (by omega)).symm))), hS.fin [] (by decide) rfl⟩
 ·have _hC0 := trivial
  have hC0p : (fin2 (decide ((a0.length : Int) > 0)) a0 = true) := by simpa using hC0
  refine C_seq ?_
  refine C_region ?_
  refine wv rfl rfl rfl (R_move rfl rfl) <| wv rfl rfl rfl (R_strlen rfl rfl Tryd.underlying9) <| wv rfl rfl rfl (R_bin rfl rfl rfl rfl rfl) <| wv rfl rfl rfl (R_assign rfl rfl) ?_
  refine W_nil ?_
  refine E_then ?_
  refine C_ite rfl (fun hC1 => ?_) (fun hC1 => ?_)
  ·have _hC1 := trivial
   have hC1p : ((pieces [] [13, 10] recQ a0).length : Int) > 65536 := by simpa using hC1
   refine C_seq ?_
   refine C_region ?_
   refine wv rfl rfl rfl (R_assign rfl rfl) <| wv rfl rfl rfl (R_assign rfl rfl) ?_
   refine W_nil ?_
   refine E_then (C_fr [(2, vstr []), (3, .int .i64 3)] rfl ?_)
   refine C_ret ?_
   refine E_block_ret ?_
   refine E_then_ret ?_
   refine E_ret2 rfl rfl rfl ?_
   exact ⟨Lret2 (Lstr (show [] = (printQ a0).1 by first | (exact congrArg Prod.fst (printQ_1 (by simpa [fineT] using hC0)).symm) | (exact congrArg Prod.snd (printQ_1 (by simpa [fineT] using hC0)).symm) | (exact congrArg Prod.fst (printQ_3 (by simpa [fineT] using hC0) (by omega)).symm) | (exact congrArg Prod.snd (printQ_3 (by simpa [fineT] using hC0) (by omega)).symm) | (exact congrArg Prod.fst (printQ_0 (by simpa [fineT] using hC0) (by omega)).symm) | (exact congrArg Prod.snd (printQ_0 (by simpa [fineT] using hC0) (by omega)).symm))) (Lint (show 3 = (printQ a0).2 by first | (exact congrArg Prod.fst (printQ_1 (by simpa [fineT] using hC0)).symm) | (exact congrArg Prod.snd (printQ_1 (by simpa [fineT] using hC0)).symm) | (exact congrArg Prod.fst (printQ_3 (by simpa [fineT] using hC0) (by omega)).symm) | (exact congrArg Prod.snd (printQ_3 (by simpa [fineT] using hC0) (by omega)).symm) | (exact congrArg Prod.fst (printQ_0 (by simpa [fineT] using hC0) (by omega)).symm) | (exact congrArg Prod.snd (printQ_0 (by simpa [fineT] using hC0) (by omega)).symm))), hS.fin [] (by decide) rfl⟩
  ·have _hC1 := trivial
   have hC1p : ¬ (((pieces [] [13, 10] recQ a0).length : Int) > 65536) := by simpa using hC1
   refine C_skip ?_
   refine E_block_normal ?_
   refine E_then (C_fr [(5, vstr (pieces [] [13, 10] recQ a0))] rfl ?_)
   refine C_seq ?_
   refine C_region ?_
   refine wv rfl rfl rfl (R_move rfl rfl) <| wv rfl rfl rfl (R_assign rfl rfl) <| wv rfl rfl rfl (R_assign rfl rfl) ?_
   refine W_nil ?_
   refine E_then ?_
   refine C_ret ?_
   refine E_ret2 rfl rfl rfl ?_
   exact ⟨Lret2 (Lstr (show pieces [] [13, 10] recQ a0 = (printQ a0).1 by first | (exact congrArg Prod.fst (printQ_1 (by simpa [fineT] using hC0)).symm) | (exact congrArg Prod.snd (printQ_1 (by simpa [fineT] using hC0)).symm) | (exact congrArg Prod.fst (printQ_3 (by simpa [fineT] using hC0) (by omega)).symm) | (exact congrArg Prod.snd (printQ_3 (by simpa [fineT] using hC0) (by omega)).symm) | (exact congrArg Prod.fst (printQ_0 (by simpa [fineT] using hC0) (by omega)).symm) | (exact congrArg Prod.snd (printQ_0 (by simpa [fineT] using hC0) (by omega)).symm))) (Lint (show 0 = (printQ a0).2 by first | (exact congrArg Prod.fst (printQ_1 (by simpa [fineT] using hC0)).symm) | (exact congrArg Prod.snd (printQ_1 (by simpa [fineT] using hC0)).symm) | (exact congrArg Prod.fst (printQ_3 (by simpa [fineT] using hC0) (by omega)).symm) | (exact congrArg Prod.snd (printQ_3 (by simpa [fineT] using hC0) (by omega)).symm) | (exact congrArg Prod.fst (printQ_0 (by simpa [fineT] using hC0) (by omega)).symm) | (exact congrArg Prod.snd (printQ_0 (by simpa [fineT] using hC0) (by omega)).symm))), hS.fin [] (by decide) rfl⟩

set_option maxHeartbeats 400000 in
set_option maxRecDepth 20000 in
theorem qtidy_calls (a0 : St) (z : Z) (w : World) (hI : In z w [])  (p0 : HM z) :
    Calls Tryd.prog 17 #[vstr a0] w fun e w' => e = .returned (.tuple #[vstr (tidyQ a0).1, .int .i64 (tidyQ a0).2.1, .int .i64 (tidyQ a0).2.2]) ∧ Sp (FF []) w z w' [] := by
 have hS := hI.sp
 refine Calls_of (vs := [vstr a0]) (N := 23) Tryd.func17 rfl rfl (Nat.le_of_ble_eq_true rfl) ?_
 refine C_seq ?_
 refine C_region ?_
 refine wv rfl rfl rfl (R_assign rfl rfl) <| wv rfl rfl rfl (R_assign rfl rfl) <| wv rfl rfl rfl (R_assign rfl rfl) ?_
 refine W_nil ?_
 refine E_then ?_
 refine C_seq ?_
 refine C_region ?_
 refine wv rfl rfl rfl (R_move rfl rfl) ?_
 refine W_cons rfl (by decide) (Sv_call rfl rfl rfl ent19 ?_)
 refine (parse_calls a0 _ _ hS.out0  ).mono ?_
 rintro e_ w1 ⟨AR0_2, cR0_2, qR0_2, rfl, hS_⟩
 refine ⟨_, rfl, ?_⟩
 have hS := hS.call0 hS_
 have hp3 := hS.cap 1 rfl
 have hlhp3 := hp3.le
 have hmhp3 := hp3.mx
 refine wv rfl rfl rfl (R_move rfl rfl) <| wv rfl rfl rfl (R_extract rfl rfl rfl) <| wv rfl rfl rfl (R_extract rfl rfl rfl) <| wv rfl rfl rfl (R_extract rfl rfl rfl) <| wv rfl rfl rfl (R_assign rfl rfl) <| wv rfl rfl rfl (R_assign rfl rfl) <| wv rfl rfl rfl (R_assign rfl rfl) ?_
 refine W_nil ?_
 refine E_then (C_fr [(3, .int .i64 (parseS a0).2.1), (4, .int .i64 (parseS a0).2.2), (5, .slice AR0_2 (parseS a0).1.length cR0_2)] rfl ?_)
 refine C_seq ?_
 refine C_seq ?_
 refine C_region ?_
 refine wv rfl rfl rfl (R_move rfl rfl) <| wv rfl rfl rfl (R_bin rfl rfl rfl rfl rfl) ?_
 refine W_nil ?_
 refine E_then ?_
 refine C_ite rfl (fun hC0 => ?_) (fun hC0 => ?_)
 ·have _hC0 := trivial
  have hC0p : ¬ (parseS a0).2.2 = 0 := by simpa using hC0
  refine C_seq ?_
  refine C_region ?_
  refine wv rfl rfl rfl (R_move rfl rfl) <| wv rfl rfl rfl (R_move rfl rfl) <| wv rfl rfl rfl (R_assign rfl rfl) <| wv rfl rfl rfl (R_assign rfl rfl) <| wv rfl rfl rfl (R_assign rfl rfl) ?_
  refine W_nil ?_
  refine E_then (C_fr [(2, vstr []), (3, .int .i64 (parseS a0).2.1), (4, .int .i64 (parseS a0).2.2)] rfl ?_)
  refine C_ret ?_
  refine E_then_ret ?_
  refine E_ret3 rfl rfl rfl rfl ?_
  exact ⟨Lret3 (Lstr (show [] = (tidyQ a0).1 by simp_all [tidyQ])) (Lint (show (parseS a0).2.1 = (tidyQ a0).2.1 by simp_all [tidyQ])) (Lint (show (parseS a0).2.2 = (tidyQ a0).2.2 by simp_all [tidyQ])), hS.fin [] (by decide) rfl⟩
 ·have _hC0 := trivial
  have hC0p : (parseS a0).2.2 = 0 := by simpa using hC0
  refine C_skip ?_
  refine E_then ?_
  refine C_seq ?_
  refine C_region ?_
  refine wv rfl rfl rfl (R_move rfl rfl) ?_
  refine W_cons rfl (by decide) (Sv_call rfl rfl rfl ent14 ?_)
  refine (qprint_calls (parseS a0).1 AR0_2 cR0_2 _ _ hS.out0 (hS.ow [] 1 rfl rfl (hS.zq [] 0 rfl rfl)) (hS.cap 1 rfl) (by exact fit_parse a0) (by first | exact HM.mono (by assumption) (hS.zl []) | exact HM.mono (by assumption) (hS.zl [0]) | exact HM.mono (by assumption) (hS.zl [1]))).mono ?_
  rintro e_ w4 ⟨rfl, hS_⟩
  refine ⟨_, rfl, ?_⟩
  have hS := hS.call0 hS_
  refine wv rfl rfl rfl (R_move rfl rfl) <| wv rfl rfl rfl (R_extract rfl rfl rfl) <| wv rfl rfl rfl (R_extract rfl rfl rfl) <| wv rfl rfl rfl (R_assign rfl rfl) <| wv rfl rfl rfl (R_assign rfl rfl) ?_
  refine W_nil ?_
  refine E_then (C_fr [(2, vstr (printQ (parseS a0).1).1), (4, .int .i64 (printQ (parseS a0).1).2)] rfl ?_)
  refine C_seq ?_
  refine C_region ?_
  refine wv rfl rfl rfl (R_move rfl rfl) <| wv rfl rfl rfl (R_move rfl rfl) <| wv rfl rfl rfl (R_assign rfl rfl) <| wv rfl rfl rfl (R_assign rfl rfl) <| wv rfl rfl rfl (R_assign rfl rfl) ?_
  refine W_nil ?_
  refine E_then ?_
  refine C_ret ?_
  refine E_ret3 rfl rfl rfl rfl ?_
  exact ⟨Lret3 (Lstr (show (printQ (parseS a0).1).1 = (tidyQ a0).1 by simp_all [tidyQ])) (Lint (show 0 = (tidyQ a0).2.1 by simp_all [tidyQ])) (Lint (show (printQ (parseS a0).1).2 = (tidyQ a0).2.2 by simp_all [tidyQ])), hS.fin [] (by decide) rfl⟩

end Go.Proofs.YtcjaplaifmhajaaDoorG
