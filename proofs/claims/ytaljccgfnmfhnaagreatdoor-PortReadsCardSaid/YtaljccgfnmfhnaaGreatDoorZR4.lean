/- Walks and laws of this program: part 4. -/
import Derived.LaidEql
import Derived.RowKitTokens
import Derived.Stop.Asserts
import Derived.Test.YtaljccgfnmfhnaaGreatDoorProg
import Derived.Test.YtaljccgfnmfhnaaGreatDoorZR3
import Derived.WalkKit
set_option linter.all false
set_option maxHeartbeats 8000000
set_option maxRecDepth 100000
namespace Go.Proofs.YtaljccgfnmfhnaaGreatDoorG
open Go Go.RowKit
theorem cfi_idx_calls (a0 : List Int) (Aa0 : Option Addr) (ca0 : Nat) (ga1 : Nat) (ka1 : List Value) (Ra1 : Res) (zca1 : Z) (pa1 : Int → Bool) (z : Z) (w : World) (hI : In z w [Ra1]) (hra0 : Rd (kint .i64) z Aa0 a0) (hca0 : Cap Aa0 a0.length ca0) (hfa1 : FV Tryz.prog zca1 ga1 ka1 (fun z_ (x_ : Int) vs_ => vs_ = [.int .i64 x_]) (fun (_ _ : Unit) => Ra1) (fun _ x_ => True) (fun _ _ => ()) (fun _ x_ => .bool (pa1 x_))) (hza1 : zle zca1 z)  :
    Calls Tryz.prog 119 #[.slice Aa0 a0.length ca0, .func (.func ga1) #[] ka1.toArray] w fun e w' => e = .returned (.int .i64 (idxF pa1 a0 0)) ∧ Sp (FF [Ra1]) w z w' [Ra1] := by
 have hla0 := hca0.le
 have hma0 := hca0.mx
 have hS := hI.sp
 refine Calls_of (vs := [.slice Aa0 a0.length ca0, .func (.func ga1) #[] ka1.toArray]) (N := 19) Tryz.func119 rfl rfl (Nat.le_of_ble_eq_true rfl) ?_
 refine C_seq <| C_region <| wv rfl rfl rfl (R_assign rfl rfl) ?_
 refine W_nil <| E_then <| C_seq <| C_seq <| C_region <| wv rfl rfl rfl (R_move rfl rfl) <| wv rfl rfl rfl (R_len rfl rfl Tryz.underlying26) <| wv rfl rfl rfl (R_move rfl rfl) ?_
 refine W_nil <| E_then <| C_block <| C_fr [(0, .slice Aa0 a0.length ca0), (1, .func (.func ga1) #[] ka1.toArray), (7, .int .i64 (a0.length : Int)), (8, .int .i64 0)] rfl ?_
 refine C_loop (fun m_ f_ w_ => ∃ (i : Nat), f_ = [(0, .slice Aa0 a0.length ca0), (1, .func (.func ga1) #[] ka1.toArray), (7, .int .i64 (a0.length : Int)), (8, .int .i64 (i : Int))] ∧ i ≤ a0.length ∧ idxF pa1 (a0.drop i) i = idxF pa1 a0 0 ∧ m_ = a0.length - i ∧ Sp (FF [Ra1]) w z w_ [Ra1]) (a0.length - (0 : Nat)) ⟨(0 : Nat), rfl, (by omega), (by rfl), rfl, hS.fin [0] (by decide) rfl⟩ ?_
 rintro m_ f_ w1 ⟨i, rfl, hI0_0, hI0_1, rfl, hS⟩
 refine C_seq <| C_region <| wv rfl rfl rfl (R_bin rfl rfl rfl rfl rfl) ?_
 refine W_nil <| E_then <| C_seq <| C_ite rfl (fun hC0 => ?_) (fun hC0 => ?_)
 ·have hC0p : (i : Int) < (a0.length : Int) := by simpa using hC0
  refine C_skip <| E_then <| C_seq <| C_block <| C_seq <| C_region <| wv rfl rfl rfl (R_move rfl rfl) <| wv rfl rfl rfl (R_assign rfl rfl) ?_
  refine W_nil <| E_then <| C_seq <| C_region <| wv rfl rfl rfl (R_move rfl rfl) <| wv rfl rfl rfl (R_move rfl rfl) <| wv rfl rfl rfl (R_move rfl rfl) ?_
  obtain ⟨q2, csq2, hAq2, rfl, hkq2⟩ := hra0.at_ (0 : Int) (i := (i : Int)) (by omega) (by omega)
  have hkq2 : ∀ (j_ : Nat) (u_ : Value), ([.int .i64 (a0.getD i (0 : Int))] : List Value)[j_]? = some u_ → cz z (q2.add (i * 1 + j_)) = some u_ := hkq2
  refine wv rfl rfl rfl (R_idx rfl rfl hAq2 rfl Tryz.underlying26 size3 (by omega) (by omega)) <| wv rfl rfl rfl (R_load1 rfl rfl agg3 (hS.sub.cell (hkq2 0 _ rfl))) ?_
  refine W_cons rfl (by decide) (S_cb (s := ()) (y := ()) hfa1 hS 0 rfl hza1 ((a0.getD i (0 : Int))) (by trivial) rfl rfl rfl rfl rfl (fun y4 w3 hS => ?_))
  refine W_nil <| E_then (C_fr [(0, .slice Aa0 a0.length ca0), (1, .func (.func ga1) #[] ka1.toArray), (5, .int .i64 (i : Int)), (7, .int .i64 (a0.length : Int)), (8, .int .i64 (i : Int)), (16, .bool (pa1 (a0.getD i (0 : Int))))] rfl ?_)
  refine C_ite rfl (fun hC1 => ?_) (fun hC1 => ?_)
  ·refine C_seq <| C_region <| wv rfl rfl rfl (R_move rfl rfl) <| wv rfl rfl rfl (R_assign rfl rfl) ?_
   refine W_nil <| E_then (C_fr [(4, .int .i64 (i : Int))] rfl ?_)
   refine C_ret <| E_block_ret <| E_then_ret <| E_then_ret <| E_block_ret <| E_then_ret <| E_ret1 rfl rfl ?_
   exact ⟨Lret1 (Lint (show (i : Int) = idxF pa1 a0 0 by (rw [← hI0_1]; exact (idxF_hit (d := (0 : Int)) (by omega) (by assumption)).symm))), hS.fin [0] (by decide) rfl⟩
  ·refine C_skip <| E_block_normal <| E_then <| C_region <| wv rfl rfl rfl (R_add64 rfl rfl rfl (by omega) (by omega)) <| wv rfl rfl rfl (R_move rfl rfl) ?_
   refine W_nil <| E_round [0, 1, 7, 8] ?_ ⟨(i + 1 : Nat), rfl, (by omega), (by rw [← hI0_1, idxF_next (n := i) (d := (0 : Int)) (by omega) (by assumption)] <;> rfl), rfl, hS.fin [0] (by decide) rfl⟩
   omega
 ·have hC0p : ¬ ((i : Int) < (a0.length : Int)) := by simpa using hC0
  refine C_exit <| E_then_exit <| E_then_exit <| E_block_hit ?_
  refine E_then (C_fr [] rfl ?_)
  refine C_seq <| C_region <| wv rfl rfl rfl (R_assign rfl rfl) ?_
  refine W_nil <| E_then <| C_ret <| E_ret1 rfl rfl ?_
  exact ⟨Lret1 (Lint (show (-1) = idxF pa1 a0 0 by (rw [← hI0_1]; exact (idxF_end (by omega)).symm))), hS.fin [0] (by decide) rfl⟩
theorem cfi_has_calls (a0 : List Int) (Aa0 : Option Addr) (ca0 : Nat) (ga1 : Nat) (ka1 : List Value) (Ra1 : Res) (zca1 : Z) (pa1 : Int → Bool) (z : Z) (w : World) (hI : In z w [Ra1]) (hra0 : Rd (kint .i64) z Aa0 a0) (hca0 : Cap Aa0 a0.length ca0) (hfa1 : FV Tryz.prog zca1 ga1 ka1 (fun z_ (x_ : Int) vs_ => vs_ = [.int .i64 x_]) (fun (_ _ : Unit) => Ra1) (fun _ x_ => True) (fun _ _ => ()) (fun _ x_ => .bool (pa1 x_))) (hza1 : zle zca1 z)  :
    Calls Tryz.prog 106 #[.slice Aa0 a0.length ca0, .func (.func ga1) #[] ka1.toArray] w fun e w' => e = .returned (.bool (hasF pa1 a0)) ∧ Sp (FF [Ra1]) w z w' [Ra1] := by
 have hla0 := hca0.le
 have hma0 := hca0.mx
 have hS := hI.sp
 refine Calls_of (vs := [.slice Aa0 a0.length ca0, .func (.func ga1) #[] ka1.toArray]) (N := 9) Tryz.func106 rfl rfl (Nat.le_of_ble_eq_true rfl) ?_
 refine C_seq <| C_region <| wv rfl rfl rfl (R_assign rfl rfl) ?_
 refine W_nil <| E_then <| C_seq <| C_region <| wv rfl rfl rfl (R_move rfl rfl) <| wv rfl rfl rfl (R_move rfl rfl) ?_
 refine W_cons rfl (by decide) (Sv_call rfl rfl rfl ent119 ?_)
 refine (cfi_idx_calls a0 Aa0 ca0 ga1 ka1 Ra1 zca1 pa1 _ _ (hS.out [0] (by decide)) (hra0.mono (hS.zl [0])) hca0 hfa1 (hza1.trans (hS.zl [0])) ).mono ?_
 rintro e_ w1 ⟨rfl, hS_⟩
 refine ⟨_, rfl, ?_⟩
 have hS := hS.call [0] (by decide) hS_
 refine wv rfl rfl rfl (R_bin rfl rfl rfl rfl rfl) <| wv rfl rfl rfl (R_assign rfl rfl) ?_
 refine W_nil <| E_then (C_fr [(4, .bool (decide ((idxF pa1 a0 0) ≥ 0)))] rfl ?_)
 refine C_ret <| E_ret1 rfl rfl ?_
 exact ⟨Lret1 (Lbool (show (decide ((idxF pa1 a0 0) ≥ 0)) = (hasF pa1 a0) by rfl)), hS.fin [0] (by decide) rfl⟩
theorem cfc_idx_calls (a0 : List TCell) (Aa0 : Option Addr) (ca0 : Nat) (ga1 : Nat) (ka1 : List Value) (Ra1 : Res) (zca1 : Z) (pa1 : TCell → Bool) (z : Z) (w : World) (hI : In z w [Ra1]) (hra0 : Rd kdTCell z Aa0 a0) (hca0 : Cap Aa0 a0.length ca0) (hfa1 : FV Tryz.prog zca1 ga1 ka1 (fun z_ (x_ : TCell) vs_ => vs_ = [.agg #[.int .i64 x_.Row, .int .i64 x_.Col, vstr x_.Text, .int .i64 x_.Style.Align, .int .i64 x_.Style.Wrap, .int .i64 x_.Style.Dir]]) (fun (_ _ : Unit) => Ra1) (fun _ x_ => True) (fun _ _ => ()) (fun _ x_ => .bool (pa1 x_))) (hza1 : zle zca1 z)  :
    Calls Tryz.prog 85 #[.slice Aa0 a0.length ca0, .func (.func ga1) #[] ka1.toArray] w fun e w' => e = .returned (.int .i64 (idxF pa1 a0 0)) ∧ Sp (FF [Ra1]) w z w' [Ra1] := by
 have hla0 := hca0.le
 have hma0 := hca0.mx
 have hS := hI.sp
 refine Calls_of (vs := [.slice Aa0 a0.length ca0, .func (.func ga1) #[] ka1.toArray]) (N := 19) Tryz.func85 rfl rfl (Nat.le_of_ble_eq_true rfl) ?_
 refine C_seq <| C_region <| wv rfl rfl rfl (R_assign rfl rfl) ?_
 refine W_nil <| E_then <| C_seq <| C_seq <| C_region <| wv rfl rfl rfl (R_move rfl rfl) <| wv rfl rfl rfl (R_len rfl rfl Tryz.underlying27) <| wv rfl rfl rfl (R_move rfl rfl) ?_
 refine W_nil <| E_then <| C_block <| C_fr [(0, .slice Aa0 a0.length ca0), (1, .func (.func ga1) #[] ka1.toArray), (7, .int .i64 (a0.length : Int)), (8, .int .i64 0)] rfl ?_
 refine C_loop (fun m_ f_ w_ => ∃ (i : Nat), f_ = [(0, .slice Aa0 a0.length ca0), (1, .func (.func ga1) #[] ka1.toArray), (7, .int .i64 (a0.length : Int)), (8, .int .i64 (i : Int))] ∧ i ≤ a0.length ∧ idxF pa1 (a0.drop i) i = idxF pa1 a0 0 ∧ m_ = a0.length - i ∧ Sp (FF [Ra1]) w z w_ [Ra1]) (a0.length - (0 : Nat)) ⟨(0 : Nat), rfl, (by omega), (by rfl), rfl, hS.fin [0] (by decide) rfl⟩ ?_
 rintro m_ f_ w1 ⟨i, rfl, hI0_0, hI0_1, rfl, hS⟩
 refine C_seq <| C_region <| wv rfl rfl rfl (R_bin rfl rfl rfl rfl rfl) ?_
 refine W_nil <| E_then <| C_seq <| C_ite rfl (fun hC0 => ?_) (fun hC0 => ?_)
 ·have hC0p : (i : Int) < (a0.length : Int) := by simpa using hC0
  refine C_skip <| E_then <| C_seq <| C_block <| C_seq <| C_region <| wv rfl rfl rfl (R_move rfl rfl) <| wv rfl rfl rfl (R_assign rfl rfl) ?_
  refine W_nil <| E_then <| C_seq <| C_region <| wv rfl rfl rfl (R_move rfl rfl) <| wv rfl rfl rfl (R_move rfl rfl) <| wv rfl rfl rfl (R_move rfl rfl) ?_
  obtain ⟨q2, csq2, hAq2, rfl, hkq2⟩ := hra0.at_ (default : TCell) (i := (i : Int)) (by omega) (by omega)
  have hkq2 : ∀ (j_ : Nat) (u_ : Value), ([.int .i64 (a0.getD i (default : TCell)).Row, .int .i64 (a0.getD i (default : TCell)).Col, vstr (a0.getD i (default : TCell)).Text, .int .i64 (a0.getD i (default : TCell)).Style.Align, .int .i64 (a0.getD i (default : TCell)).Style.Wrap, .int .i64 (a0.getD i (default : TCell)).Style.Dir] : List Value)[j_]? = some u_ → cz z (q2.add (i * 6 + j_)) = some u_ := hkq2
  refine wv rfl rfl rfl (R_idx rfl rfl hAq2 rfl Tryz.underlying27 size58 (by omega) (by omega)) <| wv rfl rfl rfl (R_loadN (cs := [.int .i64 (a0.getD i (default : TCell)).Row, .int .i64 (a0.getD i (default : TCell)).Col, vstr (a0.getD i (default : TCell)).Text, .int .i64 (a0.getD i (default : TCell)).Style.Align, .int .i64 (a0.getD i (default : TCell)).Style.Wrap, .int .i64 (a0.getD i (default : TCell)).Style.Dir]) rfl rfl agg58 size58 rfl (fun j u h => cell_add (hS.sub.cell (hkq2 j u h)))) ?_
  refine W_cons rfl (by decide) (S_cb (s := ()) (y := ()) hfa1 hS 0 rfl hza1 (a0.getD i (default : TCell)) (by trivial) rfl rfl rfl rfl rfl (fun y4 w3 hS => ?_))
  refine W_nil <| E_then (C_fr [(0, .slice Aa0 a0.length ca0), (1, .func (.func ga1) #[] ka1.toArray), (5, .int .i64 (i : Int)), (7, .int .i64 (a0.length : Int)), (8, .int .i64 (i : Int)), (16, .bool (pa1 (a0.getD i (default : TCell))))] rfl ?_)
  refine C_ite rfl (fun hC1 => ?_) (fun hC1 => ?_)
  ·refine C_seq <| C_region <| wv rfl rfl rfl (R_move rfl rfl) <| wv rfl rfl rfl (R_assign rfl rfl) ?_
   refine W_nil <| E_then (C_fr [(4, .int .i64 (i : Int))] rfl ?_)
   refine C_ret <| E_block_ret <| E_then_ret <| E_then_ret <| E_block_ret <| E_then_ret <| E_ret1 rfl rfl ?_
   exact ⟨Lret1 (Lint (show (i : Int) = idxF pa1 a0 0 by (rw [← hI0_1]; exact (idxF_hit (d := (default : TCell)) (by omega) (by assumption)).symm))), hS.fin [0] (by decide) rfl⟩
  ·refine C_skip <| E_block_normal <| E_then <| C_region <| wv rfl rfl rfl (R_add64 rfl rfl rfl (by omega) (by omega)) <| wv rfl rfl rfl (R_move rfl rfl) ?_
   refine W_nil <| E_round [0, 1, 7, 8] ?_ ⟨(i + 1 : Nat), rfl, (by omega), (by rw [← hI0_1, idxF_next (n := i) (d := (default : TCell)) (by omega) (by assumption)] <;> rfl), rfl, hS.fin [0] (by decide) rfl⟩
   omega
 ·have hC0p : ¬ ((i : Int) < (a0.length : Int)) := by simpa using hC0
  refine C_exit <| E_then_exit <| E_then_exit <| E_block_hit ?_
  refine E_then (C_fr [] rfl ?_)
  refine C_seq <| C_region <| wv rfl rfl rfl (R_assign rfl rfl) ?_
  refine W_nil <| E_then <| C_ret <| E_ret1 rfl rfl ?_
  exact ⟨Lret1 (Lint (show (-1) = idxF pa1 a0 0 by (rw [← hI0_1]; exact (idxF_end (by omega)).symm))), hS.fin [0] (by decide) rfl⟩
theorem cfc_has_calls (a0 : List TCell) (Aa0 : Option Addr) (ca0 : Nat) (ga1 : Nat) (ka1 : List Value) (Ra1 : Res) (zca1 : Z) (pa1 : TCell → Bool) (z : Z) (w : World) (hI : In z w [Ra1]) (hra0 : Rd kdTCell z Aa0 a0) (hca0 : Cap Aa0 a0.length ca0) (hfa1 : FV Tryz.prog zca1 ga1 ka1 (fun z_ (x_ : TCell) vs_ => vs_ = [.agg #[.int .i64 x_.Row, .int .i64 x_.Col, vstr x_.Text, .int .i64 x_.Style.Align, .int .i64 x_.Style.Wrap, .int .i64 x_.Style.Dir]]) (fun (_ _ : Unit) => Ra1) (fun _ x_ => True) (fun _ _ => ()) (fun _ x_ => .bool (pa1 x_))) (hza1 : zle zca1 z)  :
    Calls Tryz.prog 41 #[.slice Aa0 a0.length ca0, .func (.func ga1) #[] ka1.toArray] w fun e w' => e = .returned (.bool (hasF pa1 a0)) ∧ Sp (FF [Ra1]) w z w' [Ra1] := by
 have hla0 := hca0.le
 have hma0 := hca0.mx
 have hS := hI.sp
 refine Calls_of (vs := [.slice Aa0 a0.length ca0, .func (.func ga1) #[] ka1.toArray]) (N := 9) Tryz.func41 rfl rfl (Nat.le_of_ble_eq_true rfl) ?_
 refine C_seq <| C_region <| wv rfl rfl rfl (R_assign rfl rfl) ?_
 refine W_nil <| E_then <| C_seq <| C_region <| wv rfl rfl rfl (R_move rfl rfl) <| wv rfl rfl rfl (R_move rfl rfl) ?_
 refine W_cons rfl (by decide) (Sv_call rfl rfl rfl ent85 ?_)
 refine (cfc_idx_calls a0 Aa0 ca0 ga1 ka1 Ra1 zca1 pa1 _ _ (hS.out [0] (by decide)) (hra0.mono (hS.zl [0])) hca0 hfa1 (hza1.trans (hS.zl [0])) ).mono ?_
 rintro e_ w1 ⟨rfl, hS_⟩
 refine ⟨_, rfl, ?_⟩
 have hS := hS.call [0] (by decide) hS_
 refine wv rfl rfl rfl (R_bin rfl rfl rfl rfl rfl) <| wv rfl rfl rfl (R_assign rfl rfl) ?_
 refine W_nil <| E_then (C_fr [(4, .bool (decide ((idxF pa1 a0 0) ≥ 0)))] rfl ?_)
 refine C_ret <| E_ret1 rfl rfl ?_
 exact ⟨Lret1 (Lbool (show (decide ((idxF pa1 a0 0) ≥ 0)) = (hasF pa1 a0) by rfl)), hS.fin [0] (by decide) rfl⟩
theorem cfq_idx_calls (a0 : List TRect) (Aa0 : Option Addr) (ca0 : Nat) (ga1 : Nat) (ka1 : List Value) (Ra1 : Res) (zca1 : Z) (pa1 : TRect → Bool) (z : Z) (w : World) (hI : In z w [Ra1]) (hra0 : Rd kdTRect z Aa0 a0) (hca0 : Cap Aa0 a0.length ca0) (hfa1 : FV Tryz.prog zca1 ga1 ka1 (fun z_ (x_ : TRect) vs_ => vs_ = [.agg #[.int .i64 x_.Row, .int .i64 x_.Col, .int .i64 x_.Rows, .int .i64 x_.Cols]]) (fun (_ _ : Unit) => Ra1) (fun _ x_ => True) (fun _ _ => ()) (fun _ x_ => .bool (pa1 x_))) (hza1 : zle zca1 z)  :
    Calls Tryz.prog 86 #[.slice Aa0 a0.length ca0, .func (.func ga1) #[] ka1.toArray] w fun e w' => e = .returned (.int .i64 (idxF pa1 a0 0)) ∧ Sp (FF [Ra1]) w z w' [Ra1] := by
 have hla0 := hca0.le
 have hma0 := hca0.mx
 have hS := hI.sp
 refine Calls_of (vs := [.slice Aa0 a0.length ca0, .func (.func ga1) #[] ka1.toArray]) (N := 19) Tryz.func86 rfl rfl (Nat.le_of_ble_eq_true rfl) ?_
 refine C_seq <| C_region <| wv rfl rfl rfl (R_assign rfl rfl) ?_
 refine W_nil <| E_then <| C_seq <| C_seq <| C_region <| wv rfl rfl rfl (R_move rfl rfl) <| wv rfl rfl rfl (R_len rfl rfl Tryz.underlying28) <| wv rfl rfl rfl (R_move rfl rfl) ?_
 refine W_nil <| E_then <| C_block <| C_fr [(0, .slice Aa0 a0.length ca0), (1, .func (.func ga1) #[] ka1.toArray), (7, .int .i64 (a0.length : Int)), (8, .int .i64 0)] rfl ?_
 refine C_loop (fun m_ f_ w_ => ∃ (i : Nat), f_ = [(0, .slice Aa0 a0.length ca0), (1, .func (.func ga1) #[] ka1.toArray), (7, .int .i64 (a0.length : Int)), (8, .int .i64 (i : Int))] ∧ i ≤ a0.length ∧ idxF pa1 (a0.drop i) i = idxF pa1 a0 0 ∧ m_ = a0.length - i ∧ Sp (FF [Ra1]) w z w_ [Ra1]) (a0.length - (0 : Nat)) ⟨(0 : Nat), rfl, (by omega), (by rfl), rfl, hS.fin [0] (by decide) rfl⟩ ?_
 rintro m_ f_ w1 ⟨i, rfl, hI0_0, hI0_1, rfl, hS⟩
 refine C_seq <| C_region <| wv rfl rfl rfl (R_bin rfl rfl rfl rfl rfl) ?_
 refine W_nil <| E_then <| C_seq <| C_ite rfl (fun hC0 => ?_) (fun hC0 => ?_)
 ·have hC0p : (i : Int) < (a0.length : Int) := by simpa using hC0
  refine C_skip <| E_then <| C_seq <| C_block <| C_seq <| C_region <| wv rfl rfl rfl (R_move rfl rfl) <| wv rfl rfl rfl (R_assign rfl rfl) ?_
  refine W_nil <| E_then <| C_seq <| C_region <| wv rfl rfl rfl (R_move rfl rfl) <| wv rfl rfl rfl (R_move rfl rfl) <| wv rfl rfl rfl (R_move rfl rfl) ?_
  obtain ⟨q2, csq2, hAq2, rfl, hkq2⟩ := hra0.at_ (default : TRect) (i := (i : Int)) (by omega) (by omega)
  have hkq2 : ∀ (j_ : Nat) (u_ : Value), ([.int .i64 (a0.getD i (default : TRect)).Row, .int .i64 (a0.getD i (default : TRect)).Col, .int .i64 (a0.getD i (default : TRect)).Rows, .int .i64 (a0.getD i (default : TRect)).Cols] : List Value)[j_]? = some u_ → cz z (q2.add (i * 4 + j_)) = some u_ := hkq2
  refine wv rfl rfl rfl (R_idx rfl rfl hAq2 rfl Tryz.underlying28 size76 (by omega) (by omega)) <| wv rfl rfl rfl (R_loadN (cs := [.int .i64 (a0.getD i (default : TRect)).Row, .int .i64 (a0.getD i (default : TRect)).Col, .int .i64 (a0.getD i (default : TRect)).Rows, .int .i64 (a0.getD i (default : TRect)).Cols]) rfl rfl agg76 size76 rfl (fun j u h => cell_add (hS.sub.cell (hkq2 j u h)))) ?_
  refine W_cons rfl (by decide) (S_cb (s := ()) (y := ()) hfa1 hS 0 rfl hza1 (a0.getD i (default : TRect)) (by trivial) rfl rfl rfl rfl rfl (fun y4 w3 hS => ?_))
  refine W_nil <| E_then (C_fr [(0, .slice Aa0 a0.length ca0), (1, .func (.func ga1) #[] ka1.toArray), (5, .int .i64 (i : Int)), (7, .int .i64 (a0.length : Int)), (8, .int .i64 (i : Int)), (16, .bool (pa1 (a0.getD i (default : TRect))))] rfl ?_)
  refine C_ite rfl (fun hC1 => ?_) (fun hC1 => ?_)
  ·refine C_seq <| C_region <| wv rfl rfl rfl (R_move rfl rfl) <| wv rfl rfl rfl (R_assign rfl rfl) ?_
   refine W_nil <| E_then (C_fr [(4, .int .i64 (i : Int))] rfl ?_)
   refine C_ret <| E_block_ret <| E_then_ret <| E_then_ret <| E_block_ret <| E_then_ret <| E_ret1 rfl rfl ?_
   exact ⟨Lret1 (Lint (show (i : Int) = idxF pa1 a0 0 by (rw [← hI0_1]; exact (idxF_hit (d := (default : TRect)) (by omega) (by assumption)).symm))), hS.fin [0] (by decide) rfl⟩
  ·refine C_skip <| E_block_normal <| E_then <| C_region <| wv rfl rfl rfl (R_add64 rfl rfl rfl (by omega) (by omega)) <| wv rfl rfl rfl (R_move rfl rfl) ?_
   refine W_nil <| E_round [0, 1, 7, 8] ?_ ⟨(i + 1 : Nat), rfl, (by omega), (by rw [← hI0_1, idxF_next (n := i) (d := (default : TRect)) (by omega) (by assumption)] <;> rfl), rfl, hS.fin [0] (by decide) rfl⟩
   omega
 ·have hC0p : ¬ ((i : Int) < (a0.length : Int)) := by simpa using hC0
  refine C_exit <| E_then_exit <| E_then_exit <| E_block_hit ?_
  refine E_then (C_fr [] rfl ?_)
  refine C_seq <| C_region <| wv rfl rfl rfl (R_assign rfl rfl) ?_
  refine W_nil <| E_then <| C_ret <| E_ret1 rfl rfl ?_
  exact ⟨Lret1 (Lint (show (-1) = idxF pa1 a0 0 by (rw [← hI0_1]; exact (idxF_end (by omega)).symm))), hS.fin [0] (by decide) rfl⟩
theorem cfq_has_calls (a0 : List TRect) (Aa0 : Option Addr) (ca0 : Nat) (ga1 : Nat) (ka1 : List Value) (Ra1 : Res) (zca1 : Z) (pa1 : TRect → Bool) (z : Z) (w : World) (hI : In z w [Ra1]) (hra0 : Rd kdTRect z Aa0 a0) (hca0 : Cap Aa0 a0.length ca0) (hfa1 : FV Tryz.prog zca1 ga1 ka1 (fun z_ (x_ : TRect) vs_ => vs_ = [.agg #[.int .i64 x_.Row, .int .i64 x_.Col, .int .i64 x_.Rows, .int .i64 x_.Cols]]) (fun (_ _ : Unit) => Ra1) (fun _ x_ => True) (fun _ _ => ()) (fun _ x_ => .bool (pa1 x_))) (hza1 : zle zca1 z)  :
    Calls Tryz.prog 45 #[.slice Aa0 a0.length ca0, .func (.func ga1) #[] ka1.toArray] w fun e w' => e = .returned (.bool (hasF pa1 a0)) ∧ Sp (FF [Ra1]) w z w' [Ra1] := by
 have hla0 := hca0.le
 have hma0 := hca0.mx
 have hS := hI.sp
 refine Calls_of (vs := [.slice Aa0 a0.length ca0, .func (.func ga1) #[] ka1.toArray]) (N := 9) Tryz.func45 rfl rfl (Nat.le_of_ble_eq_true rfl) ?_
 refine C_seq <| C_region <| wv rfl rfl rfl (R_assign rfl rfl) ?_
 refine W_nil <| E_then <| C_seq <| C_region <| wv rfl rfl rfl (R_move rfl rfl) <| wv rfl rfl rfl (R_move rfl rfl) ?_
 refine W_cons rfl (by decide) (Sv_call rfl rfl rfl ent86 ?_)
 refine (cfq_idx_calls a0 Aa0 ca0 ga1 ka1 Ra1 zca1 pa1 _ _ (hS.out [0] (by decide)) (hra0.mono (hS.zl [0])) hca0 hfa1 (hza1.trans (hS.zl [0])) ).mono ?_
 rintro e_ w1 ⟨rfl, hS_⟩
 refine ⟨_, rfl, ?_⟩
 have hS := hS.call [0] (by decide) hS_
 refine wv rfl rfl rfl (R_bin rfl rfl rfl rfl rfl) <| wv rfl rfl rfl (R_assign rfl rfl) ?_
 refine W_nil <| E_then (C_fr [(4, .bool (decide ((idxF pa1 a0 0) ≥ 0)))] rfl ?_)
 refine C_ret <| E_ret1 rfl rfl ?_
 exact ⟨Lret1 (Lbool (show (decide ((idxF pa1 a0 0) ≥ 0)) = (hasF pa1 a0) by rfl)), hS.fin [0] (by decide) rfl⟩
theorem share_calls (a0 : Int) (a1 : Int) (a2 : Int) (a3 : Int) (z : Z) (w : World) (hI : In z w [])   :
    Calls Tryz.prog 87 #[.int .i64 a0, .int .i64 a1, .int .i64 a2, .int .i64 a3] w fun e w' => e = .returned (.bool (shareS a0 a1 a2 a3)) ∧ Sp (FF []) w z w' [] := by
 have hS := hI.sp
 refine Calls_of (vs := [.int .i64 a0, .int .i64 a1, .int .i64 a2, .int .i64 a3]) (N := 30) Tryz.func87 rfl rfl (Nat.le_of_ble_eq_true rfl) ?_
 refine C_seq <| C_region <| wv rfl rfl rfl (R_assign rfl rfl) ?_
 refine W_nil <| E_then <| C_seq <| C_seq <| C_region <| wv rfl rfl rfl (R_move rfl rfl) <| wv rfl rfl rfl (R_bin rfl rfl rfl rfl rfl) <| wv rfl rfl rfl (R_move rfl rfl) <| wg rfl rfl (Gd.no rfl rfl rfl) (fun hB => R_move rfl rfl) <| wg rfl rfl (Gd.no rfl rfl rfl) (fun hB => Runs.at_ (i := 12) (gl rfl hB) (R_bin rfl rfl rfl rfl rfl)) <| wv rfl rfl rfl (R_pick_or rfl rfl rfl rfl) ?_
 refine W_nil <| E_then (C_fr [(0, .int .i64 a0), (1, .int .i64 a1), (2, .int .i64 a2), (3, .int .i64 a3), (14, .bool ((decide (a1 < 1)) || (decide (a3 < 1))))] rfl ?_)
 refine C_ite rfl (fun hC0 => ?_) (fun hC0 => ?_)
 ·have hC0p : (a1 < 1 ∨ a3 < 1) := by simpa using hC0
  refine C_seq <| C_region <| wv rfl rfl rfl (R_assign rfl rfl) ?_
  refine W_nil <| E_then (C_fr [(8, .bool false)] rfl ?_)
  refine C_ret <| E_then_ret <| E_ret1 rfl rfl ?_
  exact ⟨Lret1 (Lbool (show false = (shareS a0 a1 a2 a3) by exact shareS_f (by omega))), hS.fin [] (by decide) rfl⟩
 ·have hC0p : ¬ ((a1 < 1 ∨ a3 < 1)) := by simpa using hC0
  refine C_skip <| E_then <| C_seq <| C_seq <| C_region <| wv rfl rfl rfl (R_move rfl rfl) <| wv rfl rfl rfl (R_move rfl rfl) <| wv rfl rfl rfl (R_bin rfl rfl rfl rfl rfl) ?_
  refine W_nil <| E_then <| C_ite rfl (fun hC1 => ?_) (fun hC1 => ?_)
  ·have hC1p : a0 > a2 := by simpa using hC1
   refine C_region <| wv rfl rfl rfl (R_move rfl rfl) <| wv rfl rfl rfl (R_move rfl rfl) <| wv rfl rfl rfl (R_move rfl rfl) <| wv rfl rfl rfl (R_move rfl rfl) <| wv rfl rfl rfl (R_assign rfl rfl) <| wv rfl rfl rfl (R_assign rfl rfl) <| wv rfl rfl rfl (R_assign rfl rfl) <| wv rfl rfl rfl (R_assign rfl rfl) ?_
   refine W_nil <| E_then (C_fr [(0, .int .i64 a2), (1, .int .i64 a3), (2, .int .i64 a0)] rfl ?_)
   refine C_seq <| C_region <| wv rfl rfl rfl (R_move rfl rfl) <| wv rfl rfl rfl (R_conviw rfl rfl Tryz.underlying3 Tryz.underlying160) <| wv rfl rfl rfl (R_move rfl rfl) <| wv rfl rfl rfl (R_conviw rfl rfl Tryz.underlying3 Tryz.underlying160) <| wv rfl rfl rfl (R_bin rfl rfl rfl rfl rfl) <| wv rfl rfl rfl (R_move rfl rfl) <| wv rfl rfl rfl (R_conviw rfl rfl Tryz.underlying3 Tryz.underlying160) <| wv rfl rfl rfl (R_bin rfl rfl rfl rfl rfl) <| wv rfl rfl rfl (R_assign rfl rfl) ?_
   refine W_nil <| E_then (C_fr [(8, .bool (decide ((IntKind.u64.wrap ((IntKind.u64.wrap a0) - (IntKind.u64.wrap a2))) < (IntKind.u64.wrap a3))))] rfl ?_)
   refine C_ret <| E_ret1 rfl rfl ?_
   exact ⟨Lret1 (Lbool (show (decide ((IntKind.u64.wrap ((IntKind.u64.wrap a0) - (IntKind.u64.wrap a2))) < (IntKind.u64.wrap a3))) = (shareS a0 a1 a2 a3) by exact shareS_gt (by omega) (by omega))), hS.fin [] (by decide) rfl⟩
  ·have hC1p : ¬ (a0 > a2) := by simpa using hC1
   refine C_skip <| E_then (C_fr [(0, .int .i64 a0), (1, .int .i64 a1), (2, .int .i64 a2)] rfl ?_)
   refine C_seq <| C_region <| wv rfl rfl rfl (R_move rfl rfl) <| wv rfl rfl rfl (R_conviw rfl rfl Tryz.underlying3 Tryz.underlying160) <| wv rfl rfl rfl (R_move rfl rfl) <| wv rfl rfl rfl (R_conviw rfl rfl Tryz.underlying3 Tryz.underlying160) <| wv rfl rfl rfl (R_bin rfl rfl rfl rfl rfl) <| wv rfl rfl rfl (R_move rfl rfl) <| wv rfl rfl rfl (R_conviw rfl rfl Tryz.underlying3 Tryz.underlying160) <| wv rfl rfl rfl (R_bin rfl rfl rfl rfl rfl) <| wv rfl rfl rfl (R_assign rfl rfl) ?_
   refine W_nil <| E_then (C_fr [(8, .bool (decide ((IntKind.u64.wrap ((IntKind.u64.wrap a2) - (IntKind.u64.wrap a0))) < (IntKind.u64.wrap a1))))] rfl ?_)
   refine C_ret <| E_ret1 rfl rfl ?_
   exact ⟨Lret1 (Lbool (show (decide ((IntKind.u64.wrap ((IntKind.u64.wrap a2) - (IntKind.u64.wrap a0))) < (IntKind.u64.wrap a1))) = (shareS a0 a1 a2 a3) by exact shareS_le (by omega) (by omega))), hS.fin [] (by decide) rfl⟩
theorem meet_calls (a0 : TRect) (a1 : TRect) (z : Z) (w : World) (hI : In z w [])   :
    Calls Tryz.prog 48 #[.agg #[.int .i64 a0.Row, .int .i64 a0.Col, .int .i64 a0.Rows, .int .i64 a0.Cols], .agg #[.int .i64 a1.Row, .int .i64 a1.Col, .int .i64 a1.Rows, .int .i64 a1.Cols]] w fun e w' => e = .returned (.bool (meetS a0 a1)) ∧ Sp (FF []) w z w' [] := by
 have hS := hI.sp
 refine Calls_of (vs := [.agg #[.int .i64 a0.Row, .int .i64 a0.Col, .int .i64 a0.Rows, .int .i64 a0.Cols], .agg #[.int .i64 a1.Row, .int .i64 a1.Col, .int .i64 a1.Rows, .int .i64 a1.Cols]]) (N := 25) Tryz.func48 rfl rfl (Nat.le_of_ble_eq_true rfl) ?_
 refine C_seq <| C_region <| W_cons rfl (by decide) (S_box hS rfl (R_box (cs := [.int .i64 a0.Row, .int .i64 a0.Col, .int .i64 a0.Rows, .int .i64 a0.Cols]) rfl rfl rfl) (fun b2 w1 hS => ?_))
 refine W_cons rfl (by decide) (S_box hS rfl (R_box (cs := [.int .i64 a1.Row, .int .i64 a1.Col, .int .i64 a1.Rows, .int .i64 a1.Cols]) rfl rfl rfl) (fun b4 w3 hS => ?_))
 refine wv rfl rfl rfl (R_assign rfl rfl) ?_
 refine W_nil <| E_then <| C_seq <| C_region <| wv rfl rfl rfl (R_fld rfl rfl fld76_0) <| wv rfl rfl rfl (R_load1 rfl rfl agg3 ((hS.bx 1 rfl).cell rfl)) <| wv rfl rfl rfl (R_fld rfl rfl fld76_2) <| wv rfl rfl rfl (R_load1 rfl rfl agg3 ((hS.bx 1 rfl).cell rfl)) <| wv rfl rfl rfl (R_fld rfl rfl fld76_0) <| wv rfl rfl rfl (R_load1 rfl rfl agg3 ((hS.bx 0 rfl).cell rfl)) <| wv rfl rfl rfl (R_fld rfl rfl fld76_2) <| wv rfl rfl rfl (R_load1 rfl rfl agg3 ((hS.bx 0 rfl).cell rfl)) ?_
 refine W_cons rfl (by decide) (Sv_call rfl rfl rfl ent87 ?_)
 refine (share_calls a0.Row a0.Rows a1.Row a1.Rows _ _ hS.out0  ).mono ?_
 rintro e_ w5 ⟨rfl, hS_⟩
 refine ⟨_, rfl, ?_⟩
 have hS := hS.call0 hS_
 refine wv rfl rfl rfl (R_move rfl rfl) <| wg rfl rfl (Gd.on rfl rfl rfl) (fun hB => R_fld rfl rfl fld76_1) <| wg rfl rfl (Gd.on rfl rfl rfl) (fun hB => Runs.at_ (i := 15) (gl rfl hB) (R_load1 rfl rfl agg3 ((hS.bx 1 rfl).cell rfl))) <| wg rfl rfl (Gd.on rfl rfl rfl) (fun hB => R_fld rfl rfl fld76_3) <| wg rfl rfl (Gd.on rfl rfl rfl) (fun hB => Runs.at_ (i := 17) (gl rfl hB) (R_load1 rfl rfl agg3 ((hS.bx 1 rfl).cell rfl))) <| wg rfl rfl (Gd.on rfl rfl rfl) (fun hB => R_fld rfl rfl fld76_1) <| wg rfl rfl (Gd.on rfl rfl rfl) (fun hB => Runs.at_ (i := 19) (gl rfl hB) (R_load1 rfl rfl agg3 ((hS.bx 0 rfl).cell rfl))) <| wg rfl rfl (Gd.on rfl rfl rfl) (fun hB => R_fld rfl rfl fld76_3) <| wg rfl rfl (Gd.on rfl rfl rfl) (fun hB => Runs.at_ (i := 21) (gl rfl hB) (R_load1 rfl rfl agg3 ((hS.bx 0 rfl).cell rfl))) ?_
 refine W_cons rfl (by decide) (Sv_gcall (Gd.on rfl rfl rfl) hS (fun hB => Sv.at_ (i := 22) (gl rfl hB) (Sv.at_ (i := 20) (gl rfl hB) (Sv.at_ (i := 18) (gl rfl hB) (Sv.at_ (i := 16) (gl rfl hB) (Sv_call rfl rfl rfl ent87 ((share_calls a0.Col a0.Cols a1.Col a1.Cols _ _ hS.out0  ).mono (fun _ _ h_ => ⟨_, h_.1, rfl, hS.call0 h_.2⟩))))))) (fun w7 hS => ?_))
 refine wv rfl rfl rfl (R_pick_and rfl rfl rfl rfl) <| wv rfl rfl rfl (R_assign rfl rfl) ?_
 refine W_nil <| E_then (C_fr [(4, .bool ((shareS a0.Row a0.Rows a1.Row a1.Rows) && (shareS a0.Col a0.Cols a1.Col a1.Cols)))] rfl ?_)
 refine C_ret <| E_ret1 rfl rfl ?_
 exact ⟨Lret1 (Lbool (show ((shareS a0.Row a0.Rows a1.Row a1.Rows) && (shareS a0.Col a0.Cols a1.Col a1.Cols)) = (meetS a0 a1) by (unfold meetS; simp_all; done))), hS.fin [] (by decide) rfl⟩
theorem one_calls (a0 : Int) (a1 : Int) (z : Z) (w : World) (hI : In z w [])   :
    Calls Tryz.prog 44 #[.int .i64 a0, .int .i64 a1] w fun e w' => e = .returned (.agg #[.int .i64 (oneS a0 a1).Row, .int .i64 (oneS a0 a1).Col, .int .i64 (oneS a0 a1).Rows, .int .i64 (oneS a0 a1).Cols]) ∧ Sp (FF []) w z w' [] := by
 have hS := hI.sp
 refine Calls_of (vs := [.int .i64 a0, .int .i64 a1]) (N := 8) Tryz.func44 rfl rfl (Nat.le_of_ble_eq_true rfl) ?_
 refine C_seq <| C_region <| W_cons rfl (by decide) (S_box hS rfl (R_alloc rfl alloc76) (fun b2 w1 hS => ?_))
 refine W_nil <| E_then <| C_seq <| C_region <| wv rfl rfl rfl (R_move rfl rfl) <| wv rfl rfl rfl (R_move rfl rfl) <| wv rfl rfl rfl (R_build (w' := w1) (ps := [(0, (.tmp 5)), (1, (.tmp 6)), (2, (.const (.int .i64 1))), (3, (.const (.int .i64 1)))]) (vs := [.int .i64 a0, .int .i64 a1, .int .i64 1, .int .i64 1]) (r := .agg #[.int .i64 a0, .int .i64 a1, .int .i64 1, .int .i64 1]) rfl rfl rfl (by kernel_rfl)) ?_
 refine W_cons0 rfl (S_store hS 0 rfl rfl rfl rfl rfl size76 (one_cons rfl (one_cons rfl (one_cons rfl (one_cons rfl one_nil)))) (Nat.le_of_ble_eq_true rfl) (fun w3 hS => ?_))
 have hS : Sp (FF []) w z w3 [bR b2 76 [.int .i64 a0, .int .i64 a1, .int .i64 1, .int .i64 1]] := hS
 refine W_nil <| E_then (C_fr [(4, .pointer (some ⟨b2, 0, none⟩))] rfl ?_)
 refine C_ret <| E_rv1 rfl (RV_cellN (cs := [.int .i64 a0, .int .i64 a1, .int .i64 1, .int .i64 1]) rfl agg76 size76 rfl (boxcells (hS.bx 0 rfl) 0 rfl)) ?_
 exact ⟨Lret1 (show (.agg #[.int .i64 a0, .int .i64 a1, .int .i64 1, .int .i64 1] : Value) = .agg #[.int .i64 (oneS a0 a1).Row, .int .i64 (oneS a0 a1).Col, .int .i64 (oneS a0 a1).Rows, .int .i64 (oneS a0 a1).Cols] by rfl), hS.fin [] (by decide) rfl⟩
theorem hass_calls (a0 : TSheet) (Aa0_Widths : Option Addr) (ca0_Widths : Nat) (Aa0_Heights : Option Addr) (ca0_Heights : Nat) (Aa0_Cells : Option Addr) (ca0_Cells : Nat) (Aa0_Merges : Option Addr) (ca0_Merges : Nat) (a1 : TRect) (z : Z) (w : World) (hI : In z w []) (hra0_Widths : Rd (kint .i64) z Aa0_Widths a0.Widths) (hca0_Widths : Cap Aa0_Widths a0.Widths.length ca0_Widths) (hra0_Heights : Rd (kint .i64) z Aa0_Heights a0.Heights) (hca0_Heights : Cap Aa0_Heights a0.Heights.length ca0_Heights) (hra0_Cells : Rd kdTCell z Aa0_Cells a0.Cells) (hca0_Cells : Cap Aa0_Cells a0.Cells.length ca0_Cells) (hra0_Merges : Rd kdTRect z Aa0_Merges a0.Merges) (hca0_Merges : Cap Aa0_Merges a0.Merges.length ca0_Merges)  :
    Calls Tryz.prog 43 #[.agg #[.int .i64 a0.Right, .slice Aa0_Widths a0.Widths.length ca0_Widths, .slice Aa0_Heights a0.Heights.length ca0_Heights, .slice Aa0_Cells a0.Cells.length ca0_Cells, .slice Aa0_Merges a0.Merges.length ca0_Merges], .agg #[.int .i64 a1.Row, .int .i64 a1.Col, .int .i64 a1.Rows, .int .i64 a1.Cols]] w fun e w' => e = .returned (.bool (hasS a0 a1)) ∧ Sp (FF []) w z w' [] := by
 have hla0_Widths := hca0_Widths.le
 have hma0_Widths := hca0_Widths.mx
 have hla0_Heights := hca0_Heights.le
 have hma0_Heights := hca0_Heights.mx
 have hla0_Cells := hca0_Cells.le
 have hma0_Cells := hca0_Cells.mx
 have hla0_Merges := hca0_Merges.le
 have hma0_Merges := hca0_Merges.mx
 have hS := hI.sp
 refine Calls_of (vs := [.agg #[.int .i64 a0.Right, .slice Aa0_Widths a0.Widths.length ca0_Widths, .slice Aa0_Heights a0.Heights.length ca0_Heights, .slice Aa0_Cells a0.Cells.length ca0_Cells, .slice Aa0_Merges a0.Merges.length ca0_Merges], .agg #[.int .i64 a1.Row, .int .i64 a1.Col, .int .i64 a1.Rows, .int .i64 a1.Cols]]) (N := 51) Tryz.func43 rfl rfl (Nat.le_of_ble_eq_true rfl) ?_
 refine C_seq <| C_region <| W_cons rfl (by decide) (S_box hS rfl (R_box (cs := [.int .i64 a0.Right, .slice Aa0_Widths a0.Widths.length ca0_Widths, .slice Aa0_Heights a0.Heights.length ca0_Heights, .slice Aa0_Cells a0.Cells.length ca0_Cells, .slice Aa0_Merges a0.Merges.length ca0_Merges]) rfl rfl rfl) (fun b2 w1 hS => ?_))
 refine W_cons rfl (by decide) (S_box hS rfl (R_box (cs := [.int .i64 a1.Row, .int .i64 a1.Col, .int .i64 a1.Rows, .int .i64 a1.Cols]) rfl rfl rfl) (fun b4 w3 hS => ?_))
 refine wv rfl rfl rfl (R_assign rfl rfl) ?_
 refine W_nil <| E_then <| C_seq <| C_fr [(2, .pointer (some ⟨b2, 0, none⟩)), (3, .pointer (some ⟨b4, 0, none⟩))] rfl ?_
 refine C_drawn 8 [[], [0], [1], [], [3], [4], [2, 0, 1, 2], [5, 6, 0, 1, 2, 3, 4, 5, 6]] [7, 8, 9, 10, 11, 12, 5, 6] [2, 3] rfl (by kernel_rfl) (by decide +kernel) [fun v_ _ => v_ = .pointer (some ⟨b2, 2, none⟩), fun v_ _ => v_ = .slice Aa0_Heights a0.Heights.length ca0_Heights, fun v_ _ => v_ = .int .i64 (a0.Heights.length : Int), fun v_ _ => v_ = .pointer (some ⟨b2, 1, none⟩), fun v_ _ => v_ = .slice Aa0_Widths a0.Widths.length ca0_Widths, fun v_ _ => v_ = .int .i64 (a0.Widths.length : Int), fun v_ _ => v_ = .int .i64 (a0.Heights.length : Int), fun v_ _ => v_ = .int .i64 (a0.Widths.length : Int)] ⟨fun _ _ _ h _ => h, ⟨fun _ _ _ h _ => h, ⟨fun _ _ _ h _ => h, ⟨fun _ _ _ h _ => h, ⟨fun _ _ _ h _ => h, ⟨fun _ _ _ h _ => h, ⟨fun _ _ _ h _ => h, ⟨fun _ _ _ h _ => h, trivial⟩⟩⟩⟩⟩⟩⟩⟩ ⟨fun w5 hc6 => by have hS := hS.chg0 hc6; exact Sv_val rfl (R_fld rfl rfl fld30_2) ⟨Chg.refl _ _, rfl⟩, ⟨fun w5 hc6 => by have hS := hS.chg0 hc6; rintro _ rfl; exact Sv_val rfl (R_load1 rfl rfl agg26 ((hS.bx 1 rfl).cell rfl)) ⟨Chg.refl _ _, rfl⟩, ⟨fun w5 hc6 => by have hS := hS.chg0 hc6; rintro _ rfl; exact Sv_val rfl (R_len rfl rfl Tryz.underlying26) ⟨Chg.refl _ _, rfl⟩, ⟨fun w5 hc6 => by have hS := hS.chg0 hc6; exact Sv_val rfl (R_fld rfl rfl fld30_1) ⟨Chg.refl _ _, rfl⟩, ⟨fun w5 hc6 => by have hS := hS.chg0 hc6; rintro _ rfl; exact Sv_val rfl (R_load1 rfl rfl agg26 ((hS.bx 1 rfl).cell rfl)) ⟨Chg.refl _ _, rfl⟩, ⟨fun w5 hc6 => by have hS := hS.chg0 hc6; rintro _ rfl; exact Sv_val rfl (R_len rfl rfl Tryz.underlying26) ⟨Chg.refl _ _, rfl⟩, ⟨fun w5 hc6 => by have hS := hS.chg0 hc6; rintro _ rfl _ rfl _ rfl _ rfl; exact Sv_val rfl (R_assign rfl rfl) ⟨Chg.refl _ _, rfl⟩, ⟨fun w5 hc6 => by have hS := hS.chg0 hc6; rintro _ rfl _ rfl _ rfl _ rfl _ rfl _ rfl _ rfl _ rfl _ rfl; exact Sv_val rfl (R_assign rfl rfl) ⟨Chg.refl _ _, rfl⟩, trivial⟩⟩⟩⟩⟩⟩⟩⟩ ?_
 intro w5 hc6
 have hS := hS.chg0 hc6
 rintro _ rfl _ rfl _ rfl _ rfl _ rfl _ rfl _ rfl _ rfl
 refine An_fr [(3, .pointer (some ⟨b4, 0, none⟩)), (5, .int .i64 (a0.Heights.length : Int)), (6, .int .i64 (a0.Widths.length : Int))] rfl ?_
 refine An_done (by decide +kernel) <| E_then <| C_seq <| C_region <| wv rfl rfl rfl (R_fld rfl rfl fld76_0) <| wv rfl rfl rfl (R_load1 rfl rfl agg3 ((hS.bx 0 rfl).cell rfl)) <| wv rfl rfl rfl (R_bin rfl rfl rfl rfl rfl) <| wv rfl rfl rfl (R_move rfl rfl) <| wg rfl rfl (Gd.on rfl rfl rfl) (fun hB => R_fld rfl rfl fld76_1) <| wg rfl rfl (Gd.on rfl rfl rfl) (fun hB => Runs.at_ (i := 17) (gl rfl hB) (R_load1 rfl rfl agg3 ((hS.bx 0 rfl).cell rfl))) <| wg rfl rfl (Gd.on rfl rfl rfl) (fun hB => Runs.at_ (i := 18) (gl rfl hB) (R_bin rfl rfl rfl rfl rfl)) <| wv rfl rfl rfl (R_pick_and rfl rfl rfl rfl) <| wv rfl rfl rfl (R_move rfl rfl) <| wg rfl rfl (Gd.on rfl rfl rfl) (fun hB => R_fld rfl rfl fld76_2) <| wg rfl rfl (Gd.on rfl rfl rfl) (fun hB => Runs.at_ (i := 22) (gl rfl hB) (R_load1 rfl rfl agg3 ((hS.bx 0 rfl).cell rfl))) <| wg rfl rfl (Gd.on rfl rfl rfl) (fun hB => R_move rfl rfl) <| wg rfl rfl (Gd.on rfl rfl rfl) (fun hB => Runs.at_ (i := 24) (gl rfl hB) (Runs.at_ (i := 23) (gl rfl hB) (R_bin rfl rfl rfl rfl rfl))) <| wv rfl rfl rfl (R_pick_and rfl rfl rfl rfl) <| wv rfl rfl rfl (R_move rfl rfl) <| wg rfl rfl (Gd.on rfl rfl rfl) (fun hB => R_fld rfl rfl fld76_3) <| wg rfl rfl (Gd.on rfl rfl rfl) (fun hB => Runs.at_ (i := 28) (gl rfl hB) (R_load1 rfl rfl agg3 ((hS.bx 0 rfl).cell rfl))) <| wg rfl rfl (Gd.on rfl rfl rfl) (fun hB => R_move rfl rfl) <| wg rfl rfl (Gd.on rfl rfl rfl) (fun hB => Runs.at_ (i := 30) (gl rfl hB) (Runs.at_ (i := 29) (gl rfl hB) (R_bin rfl rfl rfl rfl rfl))) <| wv rfl rfl rfl (R_pick_and rfl rfl rfl rfl) <| wv rfl rfl rfl (R_move rfl rfl) <| wg rfl rfl (Gd.on rfl rfl rfl) (fun hB => R_fld rfl rfl fld76_0) <| wg rfl rfl (Gd.on rfl rfl rfl) (fun hB => Runs.at_ (i := 34) (gl rfl hB) (R_load1 rfl rfl agg3 ((hS.bx 0 rfl).cell rfl))) <| wg rfl rfl (Gd.on rfl rfl rfl) (fun hB => R_move rfl rfl) <| wg rfl rfl (Gd.on rfl rfl rfl) (fun hB => R_fld rfl rfl fld76_2) <| wg rfl rfl (Gd.on rfl rfl rfl) (fun hB => Runs.at_ (i := 37) (gl rfl hB) (R_load1 rfl rfl agg3 ((hS.bx 0 rfl).cell rfl))) <| wg rfl rfl (Gd.on rfl rfl rfl) (fun hB => Runs.at_ (i := 38) (gl rfl hB) (Runs.at_ (i := 36) (gl rfl hB) (R_bin rfl rfl rfl rfl rfl))) <| wg rfl rfl (Gd.on rfl rfl rfl) (fun hB => Runs.at_ (i := 39) (gl rfl hB) (Runs.at_ (i := 35) (gl rfl hB) (R_bin rfl rfl rfl rfl rfl))) <| wv rfl rfl rfl (R_pick_and rfl rfl rfl rfl) <| wv rfl rfl rfl (R_move rfl rfl) <| wg rfl rfl (Gd.on rfl rfl rfl) (fun hB => R_fld rfl rfl fld76_1) <| wg rfl rfl (Gd.on rfl rfl rfl) (fun hB => Runs.at_ (i := 43) (gl rfl hB) (R_load1 rfl rfl agg3 ((hS.bx 0 rfl).cell rfl))) <| wg rfl rfl (Gd.on rfl rfl rfl) (fun hB => R_move rfl rfl) <| wg rfl rfl (Gd.on rfl rfl rfl) (fun hB => R_fld rfl rfl fld76_3) <| wg rfl rfl (Gd.on rfl rfl rfl) (fun hB => Runs.at_ (i := 46) (gl rfl hB) (R_load1 rfl rfl agg3 ((hS.bx 0 rfl).cell rfl))) <| wg rfl rfl (Gd.on rfl rfl rfl) (fun hB => Runs.at_ (i := 47) (gl rfl hB) (Runs.at_ (i := 45) (gl rfl hB) (R_bin rfl rfl rfl rfl rfl))) <| wg rfl rfl (Gd.on rfl rfl rfl) (fun hB => Runs.at_ (i := 48) (gl rfl hB) (Runs.at_ (i := 44) (gl rfl hB) (R_bin rfl rfl rfl rfl rfl))) ?_
 refine wv rfl rfl rfl (R_pick_and rfl rfl rfl rfl) <| wv rfl rfl rfl (R_assign rfl rfl) ?_
 refine W_nil <| E_then (C_fr [(4, .bool ((((((decide (a1.Row ≥ 0)) && (decide (a1.Col ≥ 0))) && (decide (a1.Rows ≤ (a0.Heights.length : Int)))) && (decide (a1.Cols ≤ (a0.Widths.length : Int)))) && (decide (a1.Row ≤ (IntKind.i64.wrap ((a0.Heights.length : Int) - a1.Rows))))) && (decide (a1.Col ≤ (IntKind.i64.wrap ((a0.Widths.length : Int) - a1.Cols))))))] rfl ?_)
 refine C_ret <| E_ret1 rfl rfl ?_
 exact ⟨Lret1 (Lbool (show ((((((decide (a1.Row ≥ 0)) && (decide (a1.Col ≥ 0))) && (decide (a1.Rows ≤ (a0.Heights.length : Int)))) && (decide (a1.Cols ≤ (a0.Widths.length : Int)))) && (decide (a1.Row ≤ (IntKind.i64.wrap ((a0.Heights.length : Int) - a1.Rows))))) && (decide (a1.Col ≤ (IntKind.i64.wrap ((a0.Widths.length : Int) - a1.Cols))))) = (hasS a0 a1) by (unfold hasS; simp_all; done))), hS.fin [] (by decide) rfl⟩
theorem over1_calls (a0 : Int) (ba1 : Nat) (a1 : Int) (z : Z) (w : World) (hI : In z w [bR ba1 3 [.int .i64 a1]])   :
    Calls Tryz.prog 107 #[.int .i64 a0, .pointer (some ⟨ba1, 0, none⟩)] w fun e w' => e = .returned (.bool (decide (a0 > a1))) ∧ Sp (FF [bR ba1 3 [.int .i64 a1]]) w z w' [bR ba1 3 [.int .i64 a1]] := by
 have hS := hI.sp
 refine Calls_of (vs := [.int .i64 a0, .pointer (some ⟨ba1, 0, none⟩)]) (N := 7) Tryz.func107 rfl rfl (Nat.le_of_ble_eq_true rfl) ?_
 refine C_seq <| C_region <| wv rfl rfl rfl (R_assign rfl rfl) ?_
 refine W_nil <| E_then <| C_seq <| C_region <| wv rfl rfl rfl (R_move rfl rfl) <| wv rfl rfl rfl (R_load1 rfl rfl agg3 ((hS.bx 0 rfl).cell rfl)) <| wv rfl rfl rfl (R_bin rfl rfl rfl rfl rfl) <| wv rfl rfl rfl (R_assign rfl rfl) ?_
 refine W_nil <| E_then (C_fr [(3, .bool (decide (a0 > a1)))] rfl ?_)
 refine C_ret <| E_ret1 rfl rfl ?_
 exact ⟨Lret1 (Lbool (show (decide (a0 > a1)) = (decide (a0 > a1)) by rfl)), hS.fin [0] (by decide) rfl⟩
theorem over1_fv (ba1 : Nat) (a1 : Int) (zc : Z) : FV Tryz.prog zc 107 [.pointer (some ⟨ba1, 0, none⟩)] (fun z_ (x_ : Int) vs_ => vs_ = [.int .i64 x_]) (fun (_ _ : Unit) => allR [bR ba1 3 [.int .i64 a1]]) (fun _ x_ => True) (fun _ _ => ()) (fun _ x_ => .bool ((fun (x_ : Int) => decide (x_ > a1)) x_)) := ⟨ent107, by
  rintro _ _ x vs w z hz hI hok rfl
  refine (over1_calls x ba1 a1 z w hI.unb   ).mono ?_
  rintro e w' ⟨rfl, hS⟩
  exact ⟨rfl, (), hS.bun1⟩⟩
theorem over_calls (a0 : List Int) (Aa0 : Option Addr) (ca0 : Nat) (a1 : Int) (a2 : Int) (z : Z) (w : World) (hI : In z w []) (hra0 : Rd (kint .i64) z Aa0 a0) (hca0 : Cap Aa0 a0.length ca0)  :
    Calls Tryz.prog 78 #[.slice Aa0 a0.length ca0, .int .i64 a1, .int .i64 a2] w fun e w' => e = .returned (.bool (overS a0 a1 a2)) ∧ Sp (FF []) w z w' [] := by
 have hla0 := hca0.le
 have hma0 := hca0.mx
 have hS := hI.sp
 refine Calls_of (vs := [.slice Aa0 a0.length ca0, .int .i64 a1, .int .i64 a2]) (N := 16) Tryz.func78 rfl rfl (Nat.le_of_ble_eq_true rfl) ?_
 refine C_seq <| C_region <| W_cons rfl (by decide) (S_box hS rfl (R_box (cs := [.int .i64 a2]) rfl rfl rfl) (fun b2 w1 hS => ?_))
 refine wv rfl rfl rfl (R_assign rfl rfl) ?_
 refine W_nil <| E_then <| C_seq <| C_region <| wv rfl rfl rfl (R_move rfl rfl) <| wv rfl rfl rfl (R_len rfl rfl Tryz.underlying26) <| wv rfl rfl rfl (R_move rfl rfl) <| wv rfl rfl rfl (R_bin rfl rfl rfl rfl rfl) <| wv rfl rfl rfl (R_move rfl rfl) ?_
 refine W_split (t := 11) rfl (fun hg3 => ?_) (fun hg3 => ?_)
 ·have hg3p : (a0.length : Int) > a1 := by simpa using hg3
  refine W_cons rfl (by decide) (Sv_off rfl rfl rfl (by rw [hg3] <;> rfl) ?_)
  refine W_cons rfl (by decide) (Sv_off rfl rfl rfl (by rw [hg3] <;> rfl) ?_)
  refine W_cons rfl (by decide) (Sv_off rfl rfl rfl (by rw [hg3] <;> rfl) ?_)
  refine wv rfl rfl rfl (R_pick_t rfl rfl hg3 rfl) <| wv rfl rfl rfl (R_assign rfl rfl) ?_
  refine W_nil <| E_then (C_fr [(6, .bool true)] rfl ?_)
  refine C_ret <| E_ret1 rfl rfl ?_
  exact ⟨Lret1 (Lbool (show true = (overS a0 a1 a2) by (unfold overS; simp_all; done))), hS.fin [] (by decide) rfl⟩
 ·have hg3p : ¬ ((a0.length : Int) > a1) := by simpa using hg3
  refine W_cons rfl (by decide) (Sv_gt rfl rfl rfl hg3 (Sv_val rfl (R_move rfl rfl) ?_))
  refine W_cons rfl (by decide) (Sv_gt rfl rfl rfl hg3 (Sv_val rfl (R_makeFunc rfl rfl) ?_))
  have hS := hS.bun [0] (by decide)
  refine W_cons rfl (by decide) (Sv_gt rfl rfl rfl hg3 (Sv_call rfl rfl rfl ent106 ?_))
  refine (cfi_has_calls a0 Aa0 ca0 107 [.pointer (some ⟨b2, 0, none⟩)] (allR [bR b2 3 [.int .i64 a2]]) zE (fun (x_ : Int) => decide (x_ > a2)) _ _ (hS.out [0] (by decide)) (hra0.mono (hS.zl [0])) hca0 (over1_fv b2 a2 _ ) (zle_E _) ).mono ?_
  rintro e_ w4 ⟨rfl, hS_⟩
  refine ⟨_, rfl, ?_⟩
  have hS := hS.call [0] (by decide) hS_
  have hS := hS.unb
  refine wv rfl rfl rfl (R_pick_f rfl rfl hg3 rfl) <| wv rfl rfl rfl (R_assign rfl rfl) ?_
  refine W_nil <| E_then (C_fr [(6, .bool (hasF (fun (x_ : Int) => decide (x_ > a2)) a0))] rfl ?_)
  refine C_ret <| E_ret1 rfl rfl ?_
  exact ⟨Lret1 (Lbool (show (hasF (fun (x_ : Int) => decide (x_ > a2)) a0) = (overS a0 a1 a2) by (unfold overS; simp_all; omega))), hS.fin [] (by decide) rfl⟩
theorem limits1_calls (a0 : TCell) (z : Z) (w : World) (hI : In z w [])   :
    Calls Tryz.prog 77 #[.agg #[.int .i64 a0.Row, .int .i64 a0.Col, vstr a0.Text, .int .i64 a0.Style.Align, .int .i64 a0.Style.Wrap, .int .i64 a0.Style.Dir]] w fun e w' => e = .returned (.bool (decide ((a0.Text.length : Int) > 1024))) ∧ Sp (FF []) w z w' [] := by
 have hS := hI.sp
 refine Calls_of (vs := [.agg #[.int .i64 a0.Row, .int .i64 a0.Col, vstr a0.Text, .int .i64 a0.Style.Align, .int .i64 a0.Style.Wrap, .int .i64 a0.Style.Dir]]) (N := 7) Tryz.func77 rfl rfl (Nat.le_of_ble_eq_true rfl) ?_
 refine C_seq <| C_region <| W_cons rfl (by decide) (S_box hS rfl (R_box (cs := [.int .i64 a0.Row, .int .i64 a0.Col, vstr a0.Text, .int .i64 a0.Style.Align, .int .i64 a0.Style.Wrap, .int .i64 a0.Style.Dir]) rfl rfl rfl) (fun b2 w1 hS => ?_))
 refine wv rfl rfl rfl (R_assign rfl rfl) ?_
 refine W_nil <| E_then <| C_seq <| C_region <| wv rfl rfl rfl (R_fld rfl rfl fld58_2) <| wv rfl rfl rfl (R_load1 rfl rfl agg9 ((hS.bx 0 rfl).cell rfl)) <| wv rfl rfl rfl (R_strlen rfl rfl Tryz.underlying9) <| wv rfl rfl rfl (R_bin rfl rfl rfl rfl rfl) <| wv rfl rfl rfl (R_assign rfl rfl) ?_
 refine W_nil <| E_then (C_fr [(2, .bool (decide ((a0.Text.length : Int) > 1024)))] rfl ?_)
 refine C_ret <| E_ret1 rfl rfl ?_
 exact ⟨Lret1 (Lbool (show (decide ((a0.Text.length : Int) > 1024)) = (decide ((a0.Text.length : Int) > 1024)) by rfl)), hS.fin [] (by decide) rfl⟩
theorem limits1_fv  (zc : Z) : FV Tryz.prog zc 77 [] (fun z_ (x_ : TCell) vs_ => vs_ = [.agg #[.int .i64 x_.Row, .int .i64 x_.Col, vstr x_.Text, .int .i64 x_.Style.Align, .int .i64 x_.Style.Wrap, .int .i64 x_.Style.Dir]]) (fun (_ _ : Unit) => allR []) (fun _ x_ => True) (fun _ _ => ()) (fun _ x_ => .bool ((fun (x_ : TCell) => decide ((x_.Text.length : Int) > 1024)) x_)) := ⟨ent77, by
  rintro _ _ x vs w z hz hI hok rfl
  refine (limits1_calls x  z w hI.unb   ).mono ?_
  rintro e w' ⟨rfl, hS⟩
  exact ⟨rfl, (), hS.bun1⟩⟩
theorem limits_calls (a0 : TSheet) (Aa0_Widths : Option Addr) (ca0_Widths : Nat) (Aa0_Heights : Option Addr) (ca0_Heights : Nat) (Aa0_Cells : Option Addr) (ca0_Cells : Nat) (Aa0_Merges : Option Addr) (ca0_Merges : Nat) (z : Z) (w : World) (hI : In z w []) (hra0_Widths : Rd (kint .i64) z Aa0_Widths a0.Widths) (hca0_Widths : Cap Aa0_Widths a0.Widths.length ca0_Widths) (hra0_Heights : Rd (kint .i64) z Aa0_Heights a0.Heights) (hca0_Heights : Cap Aa0_Heights a0.Heights.length ca0_Heights) (hra0_Cells : Rd kdTCell z Aa0_Cells a0.Cells) (hca0_Cells : Cap Aa0_Cells a0.Cells.length ca0_Cells) (hra0_Merges : Rd kdTRect z Aa0_Merges a0.Merges) (hca0_Merges : Cap Aa0_Merges a0.Merges.length ca0_Merges)  :
    Calls Tryz.prog 39 #[.agg #[.int .i64 a0.Right, .slice Aa0_Widths a0.Widths.length ca0_Widths, .slice Aa0_Heights a0.Heights.length ca0_Heights, .slice Aa0_Cells a0.Cells.length ca0_Cells, .slice Aa0_Merges a0.Merges.length ca0_Merges]] w fun e w' => e = .returned (.bool (limitsS a0)) ∧ Sp (FF []) w z w' [] := by
 have hla0_Widths := hca0_Widths.le
 have hma0_Widths := hca0_Widths.mx
 have hla0_Heights := hca0_Heights.le
 have hma0_Heights := hca0_Heights.mx
 have hla0_Cells := hca0_Cells.le
 have hma0_Cells := hca0_Cells.mx
 have hla0_Merges := hca0_Merges.le
 have hma0_Merges := hca0_Merges.mx
 have hS := hI.sp
 refine Calls_of (vs := [.agg #[.int .i64 a0.Right, .slice Aa0_Widths a0.Widths.length ca0_Widths, .slice Aa0_Heights a0.Heights.length ca0_Heights, .slice Aa0_Cells a0.Cells.length ca0_Cells, .slice Aa0_Merges a0.Merges.length ca0_Merges]]) (N := 27) Tryz.func39 rfl rfl (Nat.le_of_ble_eq_true rfl) ?_
 refine C_seq <| C_region <| W_cons rfl (by decide) (S_box hS rfl (R_box (cs := [.int .i64 a0.Right, .slice Aa0_Widths a0.Widths.length ca0_Widths, .slice Aa0_Heights a0.Heights.length ca0_Heights, .slice Aa0_Cells a0.Cells.length ca0_Cells, .slice Aa0_Merges a0.Merges.length ca0_Merges]) rfl rfl rfl) (fun b2 w1 hS => ?_))
 refine wv rfl rfl rfl (R_assign rfl rfl) ?_
 refine W_nil <| E_then <| C_seq <| C_region <| wv rfl rfl rfl (R_fld rfl rfl fld30_3) <| wv rfl rfl rfl (R_load1 rfl rfl agg27 ((hS.bx 0 rfl).cell rfl)) ?_
 have hS := hS.bun [] (by decide)
 refine W_cons rfl (by decide) (Sv_call rfl rfl rfl ent41 ?_)
 refine (cfc_has_calls a0.Cells Aa0_Cells ca0_Cells 77 [] (allR []) zE (fun (x_ : TCell) => decide ((x_.Text.length : Int) > 1024)) _ _ (hS.out [0] (by decide)) (hra0_Cells.mono (hS.zl [0])) hca0_Cells (limits1_fv  _ ) (zle_E _) ).mono ?_
 rintro e_ w3 ⟨rfl, hS_⟩
 refine ⟨_, rfl, ?_⟩
 have hS := hS.call [0] (by decide) hS_
 have hS := hS.unb
 refine wv rfl rfl rfl (R_assign rfl rfl) ?_
 refine W_nil <| E_then (C_fr [(1, .pointer (some ⟨b2, 0, none⟩)), (3, .bool (hasF (fun (x_ : TCell) => decide ((x_.Text.length : Int) > 1024)) a0.Cells))] rfl ?_)
 refine C_seq <| C_region <| wv rfl rfl rfl (R_move rfl rfl) <| wv rfl rfl rfl (R_un rfl rfl rfl) <| wv rfl rfl rfl (R_move rfl rfl) <| wg rfl rfl (Gd.on rfl rfl rfl) (fun hB => R_fld rfl rfl fld30_1) <| wg rfl rfl (Gd.on rfl rfl rfl) (fun hB => Runs.at_ (i := 10) (gl rfl hB) (R_load1 rfl rfl agg26 ((hS.bx 0 rfl).cell rfl))) ?_
 refine W_cons rfl (by decide) (Sv_gcall (Gd.on rfl rfl rfl) hS (fun hB => Sv.at_ (i := 11) (gl rfl hB) (Sv_call rfl rfl rfl ent78 ((over_calls a0.Widths Aa0_Widths ca0_Widths 16 60 _ _ hS.out0 (hra0_Widths.mono (hS.zl [])) hca0_Widths ).mono (fun _ _ h_ => ⟨_, h_.1, rfl, hS.call0 h_.2⟩)))) (fun w6 hS => ?_))
 refine wg rfl rfl (Gd.on rfl rfl rfl) (fun hB => Runs.at_ (i := 12) (gl rfl hB) (R_un rfl rfl rfl)) <| wv rfl rfl rfl (R_pick_and rfl rfl rfl rfl) <| wv rfl rfl rfl (R_move rfl rfl) <| wg rfl rfl (Gd.on rfl rfl rfl) (fun hB => R_fld rfl rfl fld30_2) <| wg rfl rfl (Gd.on rfl rfl rfl) (fun hB => Runs.at_ (i := 16) (gl rfl hB) (R_load1 rfl rfl agg26 ((hS.bx 0 rfl).cell rfl))) ?_
 refine W_cons rfl (by decide) (Sv_gcall (Gd.on rfl rfl rfl) hS (fun hB => Sv.at_ (i := 17) (gl rfl hB) (Sv_call rfl rfl rfl ent78 ((over_calls a0.Heights Aa0_Heights ca0_Heights 24 12 _ _ hS.out0 (hra0_Heights.mono (hS.zl [])) hca0_Heights ).mono (fun _ _ h_ => ⟨_, h_.1, rfl, hS.call0 h_.2⟩)))) (fun w7 hS => ?_))
 refine wg rfl rfl (Gd.on rfl rfl rfl) (fun hB => Runs.at_ (i := 18) (gl rfl hB) (R_un rfl rfl rfl)) <| wv rfl rfl rfl (R_pick_and rfl rfl rfl rfl) <| wv rfl rfl rfl (R_move rfl rfl) <| wg rfl rfl (Gd.on rfl rfl rfl) (fun hB => R_fld rfl rfl fld30_4) <| wg rfl rfl (Gd.on rfl rfl rfl) (fun hB => Runs.at_ (i := 22) (gl rfl hB) (R_load1 rfl rfl agg28 ((hS.bx 0 rfl).cell rfl))) <| wg rfl rfl (Gd.on rfl rfl rfl) (fun hB => Runs.at_ (i := 23) (gl rfl hB) (R_len rfl rfl Tryz.underlying28)) <| wg rfl rfl (Gd.on rfl rfl rfl) (fun hB => Runs.at_ (i := 24) (gl rfl hB) (R_bin rfl rfl rfl rfl rfl)) <| wv rfl rfl rfl (R_pick_and rfl rfl rfl rfl) <| wv rfl rfl rfl (R_assign rfl rfl) ?_
 refine W_nil <| E_then (C_fr [(2, .bool ((((!(hasF (fun (x_ : TCell) => decide ((x_.Text.length : Int) > 1024)) a0.Cells)) && (!(overS a0.Widths 16 60))) && (!(overS a0.Heights 24 12))) && (decide ((a0.Merges.length : Int) ≤ 12))))] rfl ?_)
 refine C_ret <| E_ret1 rfl rfl ?_
 exact ⟨Lret1 (Lbool (show ((((!(hasF (fun (x_ : TCell) => decide ((x_.Text.length : Int) > 1024)) a0.Cells)) && (!(overS a0.Widths 16 60))) && (!(overS a0.Heights 24 12))) && (decide ((a0.Merges.length : Int) ≤ 12))) = (limitsS a0) by (unfold limitsS; simp_all; done))), hS.fin [] (by decide) rfl⟩
theorem min_calls (a0 : List Int) (Aa0 : Option Addr) (ca0 : Nat) (z : Z) (w : World) (hI : In z w []) (hra0 : Rd (kint .i64) z Aa0 a0) (hca0 : Cap Aa0 a0.length ca0) (p0 : 0 < a0.length) :
    Calls Tryz.prog 108 #[.slice Aa0 a0.length ca0] w fun e w' => e = .returned (.int .i64 (minS a0)) ∧ Sp (FF []) w z w' [] := by
 have hla0 := hca0.le
 have hma0 := hca0.mx
 have hS := hI.sp
 refine Calls_of (vs := [.slice Aa0 a0.length ca0]) (N := 25) Tryz.func108 rfl rfl (Nat.le_of_ble_eq_true rfl) ?_
 refine C_seq <| C_region <| wv rfl rfl rfl (R_assign rfl rfl) ?_
 refine W_nil <| E_then <| C_seq <| C_seq <| C_region <| wv rfl rfl rfl (R_move rfl rfl) <| wv rfl rfl rfl (R_len rfl rfl Tryz.underlying26) <| wv rfl rfl rfl (R_bin rfl rfl rfl rfl rfl) ?_
 refine W_nil <| E_then <| C_ite rfl (fun hC0 => ?_) (fun hC0 => ?_)
 ·have hC0p : (a0.length : Int) < 1 := by simpa using hC0
  omega
 ·have hC0p : ¬ ((a0.length : Int) < 1) := by simpa using hC0
  refine C_skip <| E_then <| C_seq <| C_region <| wv rfl rfl rfl (R_move rfl rfl) ?_
  obtain ⟨q1, csq1, hAq1, rfl, hkq1⟩ := hra0.at_ (0 : Int) (i := 0) (by omega) (by omega)
  have hkq1 : ∀ (j_ : Nat) (u_ : Value), ([.int .i64 (a0.getD 0 (0 : Int))] : List Value)[j_]? = some u_ → cz z (q1.add (0 * 1 + j_)) = some u_ := hkq1
  refine wv rfl rfl rfl (R_idx rfl rfl hAq1 rfl Tryz.underlying26 size3 (by omega) (by omega)) <| wv rfl rfl rfl (R_load1 rfl rfl agg3 (hS.sub.cell (hkq1 0 _ rfl))) <| wv rfl rfl rfl (R_assign rfl rfl) ?_
  refine W_nil <| E_then (C_fr [(0, .slice Aa0 a0.length ca0), (3, .int .i64 (a0.getD 0 (0 : Int)))] rfl ?_)
  refine C_seq <| C_seq <| C_region <| wv rfl rfl rfl (R_assign rfl rfl) ?_
  refine W_nil <| E_then <| C_block ?_
  have hs3 : (a0.getD 0 (0 : Int)) = (a0.take (1 : Nat)).foldl min (a0.getD 0 0) := by exact (minS_one a0).symm
  refine C_fr [(0, .slice Aa0 a0.length ca0), (3, .int .i64 (a0.getD 0 (0 : Int))), (4, .int .i64 1)] rfl ?_
  refine C_loop (fun m_ f_ w_ => ∃ (i : Nat), f_ = [(0, .slice Aa0 a0.length ca0), (3, .int .i64 ((a0.take i).foldl min (a0.getD 0 0))), (4, .int .i64 (i : Int))] ∧ (1 ≤ i ∧ i ≤ a0.length) ∧ m_ = a0.length - i ∧ Sp (FF []) w z w_ []) (a0.length - (1 : Nat)) ⟨(1 : Nat), (by rw [← hs3] <;> rfl), (by omega), rfl, hS.fin [] (by decide) rfl⟩ ?_
  rintro m_ f_ w2 ⟨i, rfl, hI0_0, rfl, hS⟩
  refine C_seq <| C_seq <| C_region <| wv rfl rfl rfl (R_move rfl rfl) <| wv rfl rfl rfl (R_move rfl rfl) <| wv rfl rfl rfl (R_len rfl rfl Tryz.underlying26) <| wv rfl rfl rfl (R_bin rfl rfl rfl rfl rfl) ?_
  refine W_nil <| E_then <| C_ite rfl (fun hC1 => ?_) (fun hC1 => ?_)
  ·have hC1p : (i : Int) < (a0.length : Int) := by simpa using hC1
   refine C_skip <| E_then <| C_seq <| C_block <| C_region <| wv rfl rfl rfl (R_move rfl rfl) <| wv rfl rfl rfl (R_move rfl rfl) <| wv rfl rfl rfl (R_move rfl rfl) ?_
   obtain ⟨q4, csq4, hAq4, rfl, hkq4⟩ := hra0.at_ (0 : Int) (i := (i : Int)) (by omega) (by omega)
   have hkq4 : ∀ (j_ : Nat) (u_ : Value), ([.int .i64 (a0.getD i (0 : Int))] : List Value)[j_]? = some u_ → cz z (q4.add (i * 1 + j_)) = some u_ := hkq4
   refine wv rfl rfl rfl (R_idx rfl rfl hAq4 rfl Tryz.underlying26 size3 (by omega) (by omega)) <| wv rfl rfl rfl (R_load1 rfl rfl agg3 (hS.sub.cell (hkq4 0 _ rfl))) <| wv rfl rfl rfl (R_min rfl rfl) <| wv rfl rfl rfl (R_assign rfl rfl) ?_
   refine W_nil <| E_block_normal <| E_then (C_fr [(0, .slice Aa0 a0.length ca0), (3, .int .i64 (min ((a0.take i).foldl min (a0.getD 0 0)) (a0.getD i (0 : Int)))), (4, .int .i64 (i : Int))] rfl ?_)
   refine C_region <| wv rfl rfl rfl (R_move rfl rfl) <| wv rfl rfl rfl (R_add64 rfl rfl rfl (by omega) (by omega)) <| wv rfl rfl rfl (R_assign rfl rfl) ?_
   refine W_nil ?_
   have hs5 : min ((a0.take i).foldl min (a0.getD 0 0)) (a0.getD i (0 : Int)) = (a0.take (i + 1 : Nat)).foldl min (a0.getD 0 0) := by exact (minS_next a0 i (by omega)).symm
   refine E_round [0, 3, 4] ?_ ⟨(i + 1 : Nat), (by rw [← hs5] <;> rfl), (by omega), rfl, hS.fin [] (by decide) rfl⟩
   omega
  ·have hC1p : ¬ ((i : Int) < (a0.length : Int)) := by simpa using hC1
   refine C_exit <| E_then_exit <| E_then_exit <| E_block_hit ?_
   refine E_then (C_fr [(3, .int .i64 ((a0.take i).foldl min (a0.getD 0 0)))] rfl ?_)
   refine C_seq <| C_region <| wv rfl rfl rfl (R_move rfl rfl) <| wv rfl rfl rfl (R_assign rfl rfl) ?_
   refine W_nil <| E_then <| C_ret <| E_ret1 rfl rfl ?_
   exact ⟨Lret1 (Lint (show (a0.take i).foldl min (a0.getD 0 0) = minS a0 by rw [← minS_end a0 i (by omega)])), hS.fin [] (by decide) rfl⟩
theorem sizes_calls (a0 : List Int) (Aa0 : Option Addr) (ca0 : Nat) (z : Z) (w : World) (hI : In z w []) (hra0 : Rd (kint .i64) z Aa0 a0) (hca0 : Cap Aa0 a0.length ca0)  :
    Calls Tryz.prog 79 #[.slice Aa0 a0.length ca0] w fun e w' => e = .returned (.bool (sizesS a0)) ∧ Sp (FF []) w z w' [] := by
 have hla0 := hca0.le
 have hma0 := hca0.mx
 have hS := hI.sp
 refine Calls_of (vs := [.slice Aa0 a0.length ca0]) (N := 11) Tryz.func79 rfl rfl (Nat.le_of_ble_eq_true rfl) ?_
 refine C_seq <| C_region <| wv rfl rfl rfl (R_assign rfl rfl) ?_
 refine W_nil <| E_then <| C_seq <| C_region <| wv rfl rfl rfl (R_move rfl rfl) <| wv rfl rfl rfl (R_len rfl rfl Tryz.underlying26) <| wv rfl rfl rfl (R_bin rfl rfl rfl rfl rfl) <| wv rfl rfl rfl (R_move rfl rfl) <| wg rfl rfl (Gd.on rfl rfl rfl) (fun hB => R_move rfl rfl) ?_
 refine W_cons rfl (by decide) (Sv_gcall (Gd.on rfl rfl rfl) hS (fun hB => by have hB0_ : (a0.length : Int) > 0 := (by simpa using (hB)); exact Sv.at_ (i := 7) (gl rfl hB) (Sv_call rfl rfl rfl ent108 ((min_calls a0 Aa0 ca0 _ _ hS.out0 (hra0.mono (hS.zl [])) hca0 (by omega)).mono (fun _ _ h_ => ⟨_, h_.1, rfl, hS.call0 h_.2⟩)))) (fun w1 hS => ?_))
 refine wg rfl rfl (Gd.on rfl rfl rfl) (fun hB => Runs.at_ (i := 8) (gl rfl hB) (R_bin rfl rfl rfl rfl rfl)) <| wv rfl rfl rfl (R_pick_and rfl rfl rfl rfl) <| wv rfl rfl rfl (R_assign rfl rfl) ?_
 refine W_nil <| E_then (C_fr [(2, .bool ((decide ((a0.length : Int) > 0)) && (decide ((minS a0) ≥ 1))))] rfl ?_)
 refine C_ret <| E_ret1 rfl rfl ?_
 exact ⟨Lret1 (Lbool (show ((decide ((a0.length : Int) > 0)) && (decide ((minS a0) ≥ 1))) = (sizesS a0) by (unfold sizesS; simp_all; done))), hS.fin [] (by decide) rfl⟩
theorem isnan_calls (a0 : Int) (z : Z) (w : World) (hI : In z w [])   :
    Calls Tryz.prog 140 #[.int .i64 a0] w fun e w' => e = .returned (.bool false) ∧ Sp (FF []) w z w' [] := by
 have hS := hI.sp
 refine Calls_of (vs := [.int .i64 a0]) (N := 6) Tryz.func140 rfl rfl (Nat.le_of_ble_eq_true rfl) ?_
 refine C_seq <| C_region <| wv rfl rfl rfl (R_assign rfl rfl) ?_
 refine W_nil <| E_then <| C_seq <| C_region <| wv rfl rfl rfl (R_move rfl rfl) <| wv rfl rfl rfl (R_move rfl rfl) <| wv rfl rfl rfl (R_bin rfl rfl rfl rfl rfl) <| wv rfl rfl rfl (R_assign rfl rfl) ?_
 refine W_nil <| E_then <| C_ret <| E_ret1 rfl rfl ?_
 exact ⟨Lret1 (Lbool (show (a0 != a0) = false by simp)), hS.fin [] (by decide) rfl⟩
theorem cmpint_calls (a0 : Int) (a1 : Int) (z : Z) (w : World) (hI : In z w [])   :
    Calls Tryz.prog 130 #[.int .i64 a0, .int .i64 a1] w fun e w' => e = .returned (.int .i64 (cmpS a0 a1)) ∧ Sp (FF []) w z w' [] := by
 have hS := hI.sp
 refine Calls_of (vs := [.int .i64 a0, .int .i64 a1]) (N := 20) Tryz.func130 rfl rfl (Nat.le_of_ble_eq_true rfl) ?_
 refine C_seq <| C_region <| wv rfl rfl rfl (R_assign rfl rfl) ?_
 refine W_nil <| E_then <| C_seq <| C_region <| wv rfl rfl rfl (R_move rfl rfl) ?_
 refine W_cons rfl (by decide) (Sv_call rfl rfl rfl ent140 ?_)
 refine (isnan_calls a0 _ _ hS.out0  ).mono ?_
 rintro e_ w1 ⟨rfl, hS_⟩
 refine ⟨_, rfl, ?_⟩
 have hS := hS.call0 hS_
 refine wv rfl rfl rfl (R_assign rfl rfl) ?_
 refine W_nil <| E_then <| C_seq <| C_region <| wv rfl rfl rfl (R_move rfl rfl) ?_
 refine W_cons rfl (by decide) (Sv_call rfl rfl rfl ent140 ?_)
 refine (isnan_calls a1 _ _ hS.out0  ).mono ?_
 rintro e_ w3 ⟨rfl, hS_⟩
 refine ⟨_, rfl, ?_⟩
 have hS := hS.call0 hS_
 refine wv rfl rfl rfl (R_assign rfl rfl) ?_
 refine W_nil <| E_then (C_fr [(0, .int .i64 a0), (1, .int .i64 a1), (5, .bool false), (6, .bool false)] rfl ?_)
 refine C_seq <| C_seq <| C_region <| wv rfl rfl rfl (R_move rfl rfl) ?_
 refine W_nil <| E_then <| C_else rfl rfl ?_
 refine C_skip <| E_then <| C_seq <| C_seq <| C_region <| wv rfl rfl rfl (R_move rfl rfl) ?_
 refine W_nil <| E_then <| C_else rfl rfl ?_
 refine C_skip <| E_then <| C_seq <| C_seq <| C_region <| wv rfl rfl rfl (R_move rfl rfl) <| wv rfl rfl rfl (R_move rfl rfl) <| wv rfl rfl rfl (R_bin rfl rfl rfl rfl rfl) ?_
 refine W_nil <| E_then (C_fr [(0, .int .i64 a0), (1, .int .i64 a1), (16, .bool (decide (a0 < a1)))] rfl ?_)
 refine C_ite rfl (fun hC3 => ?_) (fun hC3 => ?_)
 ·have hC3p : a0 < a1 := by simpa using hC3
  refine C_seq <| C_region <| wv rfl rfl rfl (R_assign rfl rfl) ?_
  refine W_nil <| E_then <| C_ret <| E_then_ret <| E_ret1 rfl rfl ?_
  exact ⟨Lret1 (Lint (show (-1) = cmpS a0 a1 by unfold cmpS; (repeat' split) <;> omega)), hS.fin [] (by decide) rfl⟩
 ·have hC3p : ¬ (a0 < a1) := by simpa using hC3
  refine C_skip <| E_then <| C_seq <| C_seq <| C_region <| wv rfl rfl rfl (R_move rfl rfl) <| wv rfl rfl rfl (R_move rfl rfl) <| wv rfl rfl rfl (R_bin rfl rfl rfl rfl rfl) ?_
  refine W_nil <| E_then (C_fr [(19, .bool (decide (a0 > a1)))] rfl ?_)
  refine C_ite rfl (fun hC4 => ?_) (fun hC4 => ?_)
  ·have hC4p : a0 > a1 := by simpa using hC4
   refine C_seq <| C_region <| wv rfl rfl rfl (R_assign rfl rfl) ?_
   refine W_nil <| E_then <| C_ret <| E_then_ret <| E_ret1 rfl rfl ?_
   exact ⟨Lret1 (Lint (show 1 = cmpS a0 a1 by unfold cmpS; (repeat' split) <;> omega)), hS.fin [] (by decide) rfl⟩
  ·have hC4p : ¬ (a0 > a1) := by simpa using hC4
   refine C_skip <| E_then <| C_seq <| C_region <| wv rfl rfl rfl (R_assign rfl rfl) ?_
   refine W_nil <| E_then <| C_ret <| E_ret1 rfl rfl ?_
   exact ⟨Lret1 (Lint (show 0 = cmpS a0 a1 by unfold cmpS; (repeat' split) <;> omega)), hS.fin [] (by decide) rfl⟩
theorem compare_calls (a0 : List Int) (Aa0 : Option Addr) (ca0 : Nat) (a1 : List Int) (Aa1 : Option Addr) (ca1 : Nat) (z : Z) (w : World) (hI : In z w []) (hra0 : Rd (kint .i64) z Aa0 a0) (hca0 : Cap Aa0 a0.length ca0) (hra1 : Rd (kint .i64) z Aa1 a1) (hca1 : Cap Aa1 a1.length ca1)  :
    Calls Tryz.prog 120 #[.slice Aa0 a0.length ca0, .slice Aa1 a1.length ca1] w fun e w' => e = .returned (.int .i64 (compS a0 a1)) ∧ Sp (FF []) w z w' [] := by
 have hla0 := hca0.le
 have hma0 := hca0.mx
 have hla1 := hca1.le
 have hma1 := hca1.mx
 have hS := hI.sp
 refine Calls_of (vs := [.slice Aa0 a0.length ca0, .slice Aa1 a1.length ca1]) (N := 36) Tryz.func120 rfl rfl (Nat.le_of_ble_eq_true rfl) ?_
 refine C_seq <| C_region <| wv rfl rfl rfl (R_assign rfl rfl) ?_
 refine W_nil <| E_then <| C_seq <| C_seq <| C_region <| wv rfl rfl rfl (R_move rfl rfl) <| wv rfl rfl rfl (R_len rfl rfl Tryz.underlying26) <| wv rfl rfl rfl (R_move rfl rfl) ?_
 refine W_nil <| E_then <| C_block <| C_fr [(0, .slice Aa0 a0.length ca0), (1, .slice Aa1 a1.length ca1), (9, .slice Aa0 a0.length ca0), (10, .int .i64 (a0.length : Int)), (11, .int .i64 0)] rfl ?_
 refine C_loop (fun m_ f_ w_ => ∃ (i : Nat), f_ = [(0, .slice Aa0 a0.length ca0), (1, .slice Aa1 a1.length ca1), (9, .slice Aa0 a0.length ca0), (10, .int .i64 (a0.length : Int)), (11, .int .i64 (i : Int))] ∧ i ≤ a0.length ∧ compS (a0.drop i) (a1.drop i) = compS a0 a1 ∧ m_ = a0.length - i ∧ Sp (FF []) w z w_ []) (a0.length - (0 : Nat)) ⟨(0 : Nat), rfl, (by omega), (by rfl), rfl, hS.fin [] (by decide) rfl⟩ ?_
 rintro m_ f_ w1 ⟨i, rfl, hI0_0, hI0_1, rfl, hS⟩
 refine C_seq <| C_region <| wv rfl rfl rfl (R_bin rfl rfl rfl rfl rfl) ?_
 refine W_nil <| E_then <| C_seq <| C_ite rfl (fun hC0 => ?_) (fun hC0 => ?_)
 ·have hC0p : (i : Int) < (a0.length : Int) := by simpa using hC0
  refine C_skip <| E_then <| C_seq <| C_block <| C_seq <| C_region <| wv rfl rfl rfl (R_move rfl rfl) ?_
  obtain ⟨q2, csq2, hAq2, rfl, hkq2⟩ := hra0.at_ (0 : Int) (i := (i : Int)) (by omega) (by omega)
  have hkq2 : ∀ (j_ : Nat) (u_ : Value), ([.int .i64 (a0.getD i (0 : Int))] : List Value)[j_]? = some u_ → cz z (q2.add (i * 1 + j_)) = some u_ := hkq2
  refine wv rfl rfl rfl (R_idx rfl rfl hAq2 rfl Tryz.underlying26 size3 (by omega) (by omega)) <| wv rfl rfl rfl (R_load1 rfl rfl agg3 (hS.sub.cell (hkq2 0 _ rfl))) <| wv rfl rfl rfl (R_assign rfl rfl) <| wv rfl rfl rfl (R_assign rfl rfl) ?_
  refine W_nil <| E_then <| C_seq <| C_seq <| C_region <| wv rfl rfl rfl (R_move rfl rfl) <| wv rfl rfl rfl (R_move rfl rfl) <| wv rfl rfl rfl (R_len rfl rfl Tryz.underlying26) <| wv rfl rfl rfl (R_bin rfl rfl rfl rfl rfl) ?_
  refine W_nil <| E_then (C_fr [(0, .slice Aa0 a0.length ca0), (1, .slice Aa1 a1.length ca1), (5, .int .i64 (i : Int)), (6, .int .i64 (a0.getD i (0 : Int))), (9, .slice Aa0 a0.length ca0), (10, .int .i64 (a0.length : Int)), (11, .int .i64 (i : Int)), (19, .bool (decide ((i : Int) ≥ (a1.length : Int))))] rfl ?_)
  refine C_ite rfl (fun hC1 => ?_) (fun hC1 => ?_)
  ·have hC1p : (i : Int) ≥ (a1.length : Int) := by simpa using hC1
   refine C_seq <| C_region <| wv rfl rfl rfl (R_assign rfl rfl) ?_
   refine W_nil <| E_then (C_fr [(4, .int .i64 1)] rfl ?_)
   refine C_ret <| E_then_ret <| E_block_ret <| E_then_ret <| E_then_ret <| E_block_ret <| E_then_ret <| E_ret1 rfl rfl ?_
   exact ⟨Lret1 (Lint (show 1 = compS a0 a1 by (rw [← hI0_1]; exact (compS_long a0 a1 i (by omega) (by omega)).symm))), hS.fin [] (by decide) rfl⟩
  ·have hC1p : ¬ ((i : Int) ≥ (a1.length : Int)) := by simpa using hC1
   refine C_skip <| E_then <| C_seq <| C_region <| wv rfl rfl rfl (R_move rfl rfl) <| wv rfl rfl rfl (R_move rfl rfl) ?_
   obtain ⟨q3, csq3, hAq3, rfl, hkq3⟩ := hra1.at_ (0 : Int) (i := (i : Int)) (by omega) (by omega)
   have hkq3 : ∀ (j_ : Nat) (u_ : Value), ([.int .i64 (a1.getD i (0 : Int))] : List Value)[j_]? = some u_ → cz z (q3.add (i * 1 + j_)) = some u_ := hkq3
   refine wv rfl rfl rfl (R_idx rfl rfl hAq3 rfl Tryz.underlying26 size3 (by omega) (by omega)) <| wv rfl rfl rfl (R_load1 rfl rfl agg3 (hS.sub.cell (hkq3 0 _ rfl))) <| wv rfl rfl rfl (R_assign rfl rfl) ?_
   refine W_nil <| E_then (C_fr [(0, .slice Aa0 a0.length ca0), (1, .slice Aa1 a1.length ca1), (6, .int .i64 (a0.getD i (0 : Int))), (7, .int .i64 (a1.getD i (0 : Int))), (9, .slice Aa0 a0.length ca0), (10, .int .i64 (a0.length : Int)), (11, .int .i64 (i : Int))] rfl ?_)
   refine C_seq <| C_region <| wv rfl rfl rfl (R_move rfl rfl) <| wv rfl rfl rfl (R_move rfl rfl) ?_
   refine W_cons rfl (by decide) (Sv_call rfl rfl rfl ent130 ?_)
   refine (cmpint_calls (a0.getD i (0 : Int)) (a1.getD i (0 : Int)) _ _ hS.out0  ).mono ?_
   rintro e_ w4 ⟨rfl, hS_⟩
   refine ⟨_, rfl, ?_⟩
   have hS := hS.call0 hS_
   refine wv rfl rfl rfl (R_assign rfl rfl) ?_
   refine W_nil <| E_then (C_fr [(0, .slice Aa0 a0.length ca0), (1, .slice Aa1 a1.length ca1), (8, .int .i64 (cmpS (a0.getD i (0 : Int)) (a1.getD i (0 : Int)))), (9, .slice Aa0 a0.length ca0), (10, .int .i64 (a0.length : Int)), (11, .int .i64 (i : Int))] rfl ?_)
   refine C_seq <| C_region <| wv rfl rfl rfl (R_move rfl rfl) <| wv rfl rfl rfl (R_bin rfl rfl rfl rfl rfl) ?_
   refine W_nil <| E_then <| C_ite rfl (fun hC2 => ?_) (fun hC2 => ?_)
   ·have hC2p : ¬ (cmpS (a0.getD i (0 : Int)) (a1.getD i (0 : Int))) = 0 := by simpa using hC2
    refine C_seq <| C_region <| wv rfl rfl rfl (R_move rfl rfl) <| wv rfl rfl rfl (R_assign rfl rfl) ?_
    refine W_nil <| E_then (C_fr [(4, .int .i64 (cmpS (a0.getD i (0 : Int)) (a1.getD i (0 : Int))))] rfl ?_)
    refine C_ret <| E_block_ret <| E_then_ret <| E_then_ret <| E_block_ret <| E_then_ret <| E_ret1 rfl rfl ?_
    exact ⟨Lret1 (Lint (show cmpS (a0.getD i (0 : Int)) (a1.getD i (0 : Int)) = compS a0 a1 by (rw [← hI0_1]; exact (compS_ne a0 a1 i (by omega) (by omega) (by simp_all)).symm))), hS.fin [] (by decide) rfl⟩
   ·have hC2p : (cmpS (a0.getD i (0 : Int)) (a1.getD i (0 : Int))) = 0 := by simpa using hC2
    refine C_skip <| E_block_normal <| E_then <| C_region <| wv rfl rfl rfl (R_add64 rfl rfl rfl (by omega) (by omega)) <| wv rfl rfl rfl (R_move rfl rfl) ?_
    refine W_nil <| E_round [0, 1, 9, 10, 11] ?_ ⟨(i + 1 : Nat), rfl, (by omega), (by rw [← hI0_1]; exact (compS_next a0 a1 i (by omega) (by omega) (by simp_all)).symm), rfl, hS.fin [] (by decide) rfl⟩
    omega
 ·have hC0p : ¬ ((i : Int) < (a0.length : Int)) := by simpa using hC0
  refine C_exit <| E_then_exit <| E_then_exit <| E_block_hit ?_
  refine E_then <| C_seq <| C_seq <| C_region <| wv rfl rfl rfl (R_move rfl rfl) <| wv rfl rfl rfl (R_len rfl rfl Tryz.underlying26) <| wv rfl rfl rfl (R_move rfl rfl) <| wv rfl rfl rfl (R_len rfl rfl Tryz.underlying26) <| wv rfl rfl rfl (R_bin rfl rfl rfl rfl rfl) ?_
  refine W_nil <| E_then (C_fr [(35, .bool (decide ((a0.length : Int) < (a1.length : Int))))] rfl ?_)
  refine C_ite rfl (fun hC3 => ?_) (fun hC3 => ?_)
  ·have hC3p : (a0.length : Int) < (a1.length : Int) := by simpa using hC3
   refine C_seq <| C_region <| wv rfl rfl rfl (R_assign rfl rfl) ?_
   refine W_nil <| E_then <| C_ret <| E_then_ret <| E_ret1 rfl rfl ?_
   exact ⟨Lret1 (Lint (show (-1) = compS a0 a1 by (rw [← hI0_1]; exact (compS_short a0 a1 i (by omega) (by omega)).symm))), hS.fin [] (by decide) rfl⟩
  ·have hC3p : ¬ ((a0.length : Int) < (a1.length : Int)) := by simpa using hC3
   refine C_skip <| E_then <| C_seq <| C_region <| wv rfl rfl rfl (R_assign rfl rfl) ?_
   refine W_nil <| E_then <| C_ret <| E_ret1 rfl rfl ?_
   exact ⟨Lret1 (Lint (show 0 = compS a0 a1 by (rw [← hI0_1]; exact (compS_same a0 a1 i (by omega) (by omega)).symm))), hS.fin [] (by decide) rfl⟩
theorem ahead_calls (a0 : Ar2_Int) (a1 : Ar2_Int) (z : Z) (w : World) (hI : In z w [])   :
    Calls Tryz.prog 109 #[.agg #[.int .i64 a0.e0, .int .i64 a0.e1], .agg #[.int .i64 a1.e0, .int .i64 a1.e1]] w fun e w' => e = .returned (.bool (aheadS a0 a1)) ∧ Sp (FF []) w z w' [] := by
 have hS := hI.sp
 refine Calls_of (vs := [.agg #[.int .i64 a0.e0, .int .i64 a0.e1], .agg #[.int .i64 a1.e0, .int .i64 a1.e1]]) (N := 9) Tryz.func109 rfl rfl (Nat.le_of_ble_eq_true rfl) ?_
 refine C_seq <| C_region <| W_cons rfl (by decide) (S_box hS rfl (R_box (cs := [.int .i64 a0.e0, .int .i64 a0.e1]) rfl rfl rfl) (fun b2 w1 hS => ?_))
 refine W_cons rfl (by decide) (S_box hS rfl (R_box (cs := [.int .i64 a1.e0, .int .i64 a1.e1]) rfl rfl rfl) (fun b4 w3 hS => ?_))
 refine wv rfl rfl rfl (R_assign rfl rfl) ?_
 refine W_nil <| E_then <| C_seq <| C_fr [(2, .pointer (some ⟨b2, 0, none⟩)), (3, .pointer (some ⟨b4, 0, none⟩))] rfl ?_
 refine C_drawn2 5 [[], [], [0, 1], [2], [3, 2, 0, 1, 2, 3]] [some 5, some 6, some 7, some 8, some 4] [2, 3] (List.replicate 5 5) (List.replicate 5 []) (List.replicate 5 []) [fun γ_ => .slice (some ⟨b2, 0, none⟩) 2 2, fun γ_ => .slice (some ⟨b4, 0, none⟩) 2 2, fun γ_ => .int .i64 (compS ([a0.e0, a0.e1] : List Int) ([a1.e0, a1.e1] : List Int)), fun γ_ => .bool (decide ((compS ([a0.e0, a0.e1] : List Int) ([a1.e0, a1.e1] : List Int)) < 0)), fun γ_ => .bool (decide ((compS ([a0.e0, a0.e1] : List Int) ([a1.e0, a1.e1] : List Int)) < 0))] (List.replicate 5 (fun _ => [])) rfl (by kernel_rfl) (by decide +kernel) hS ?_ ?_
 ·refine ⟨fun _ _ _ hS => Sv_val rfl (R_cutarr (n := 2) rfl rfl (by kernel_rfl) (by kernel_rfl) (size3 _)) ⟨gh0, rfl, hS⟩, fun _ _ _ hS => Sv_val rfl (R_cutarr (n := 2) rfl rfl (by kernel_rfl) (by kernel_rfl) (size3 _)) ⟨gh0, rfl, hS⟩, fun g_ w11 fr12 hS => ?_, ?_⟩
  ·have _w11 := trivial
   have hS : Sp (FF []) w z w11 [bR b4 82 [.int .i64 a1.e0, .int .i64 a1.e1], bR b2 82 [.int .i64 a0.e0, .int .i64 a0.e1], allR fr12] := hS
   refine Sv_call rfl rfl rfl ent120 ?_
   refine (compare_calls ([a0.e0, a0.e1] : List Int) (some ⟨b2, 0, none⟩) 2 ([a1.e0, a1.e1] : List Int) (some ⟨b4, 0, none⟩) 2 _ _ hS.out0 (hS.brd [] 1 rfl rfl (d := (kint .i64)) (xs := ([a0.e0, a0.e1] : List Int)) (q := zE) (by simp [Reps, flat, kint])) ⟨by simp, (fun h => by cases h), by decide⟩ (hS.brd [] 0 rfl rfl (d := (kint .i64)) (xs := ([a1.e0, a1.e1] : List Int)) (q := zE) (by simp [Reps, flat, kint])) ⟨by simp, (fun h => by cases h), by decide⟩ ).mono ?_
   rintro e_ w13 ⟨rfl, hS_⟩
   refine ⟨_, rfl, ?_⟩
   have hS := hS.call0 hS_
   exact ⟨⟨fun _ => none, fun _ => 0, fun _ => zE, fun _ => 0⟩, rfl, hS.fin [0, 1, 2] (by decide) rfl⟩
  refine ⟨fun _ _ _ hS => Sv_val rfl (R_bin rfl rfl rfl rfl rfl) ⟨gh0, rfl, hS⟩, fun _ _ _ hS => Sv_val rfl (R_assign rfl rfl) ⟨gh0, rfl, hS⟩, ?_⟩
  exact trivial
 ·intro g_ w19 hS
  have hS : Sp (FF []) w z w19 [bR b4 82 [.int .i64 a1.e0, .int .i64 a1.e1], bR b2 82 [.int .i64 a0.e0, .int .i64 a0.e1]] := hS
  refine An_fr [(2, .pointer (some ⟨b2, 0, none⟩)), (3, .pointer (some ⟨b4, 0, none⟩)), (4, .bool (decide ((compS ([a0.e0, a0.e1] : List Int) ([a1.e0, a1.e1] : List Int)) < 0)))] rfl ?_
  refine An_done (by decide +kernel) <| E_then <| C_ret <| E_ret1 rfl rfl ?_
  exact ⟨Lret1 (Lbool (show (decide ((compS ([a0.e0, a0.e1] : List Int) ([a1.e0, a1.e1] : List Int)) < 0)) = (aheadS a0 a1) by rfl)), hS.fin [] (by decide) rfl⟩
theorem spot_calls (a0 : TCell) (z : Z) (w : World) (hI : In z w [])   :
    Calls Tryz.prog 49 #[.agg #[.int .i64 a0.Row, .int .i64 a0.Col, vstr a0.Text, .int .i64 a0.Style.Align, .int .i64 a0.Style.Wrap, .int .i64 a0.Style.Dir]] w fun e w' => e = .returned (.agg #[.int .i64 (spotS a0).e0, .int .i64 (spotS a0).e1]) ∧ Sp (FF []) w z w' [] := by
 have hS := hI.sp
 refine Calls_of (vs := [.agg #[.int .i64 a0.Row, .int .i64 a0.Col, vstr a0.Text, .int .i64 a0.Style.Align, .int .i64 a0.Style.Wrap, .int .i64 a0.Style.Dir]]) (N := 8) Tryz.func49 rfl rfl (Nat.le_of_ble_eq_true rfl) ?_
 refine C_seq <| C_region <| W_cons rfl (by decide) (S_box hS rfl (R_box (cs := [.int .i64 a0.Row, .int .i64 a0.Col, vstr a0.Text, .int .i64 a0.Style.Align, .int .i64 a0.Style.Wrap, .int .i64 a0.Style.Dir]) rfl rfl rfl) (fun b2 w1 hS => ?_))
 refine W_cons rfl (by decide) (S_box hS rfl (R_alloc rfl alloc82) (fun b4 w3 hS => ?_))
 refine W_nil <| E_then <| C_seq <| C_region <| wv rfl rfl rfl (R_fld rfl rfl fld58_0) <| wv rfl rfl rfl (R_load1 rfl rfl agg3 ((hS.bx 1 rfl).cell rfl)) <| wv rfl rfl rfl (R_fld rfl rfl fld58_1) <| wv rfl rfl rfl (R_load1 rfl rfl agg3 ((hS.bx 1 rfl).cell rfl)) <| wv rfl rfl rfl (R_build (w' := w3) (ps := [(0, (.tmp 4)), (1, (.tmp 6))]) (vs := [.int .i64 a0.Row, .int .i64 a0.Col]) (r := .agg #[.int .i64 a0.Row, .int .i64 a0.Col]) rfl rfl rfl (by kernel_rfl)) ?_
 refine W_cons0 rfl (S_store hS 0 rfl rfl rfl rfl rfl size82 (one_cons rfl (one_cons rfl one_nil)) (Nat.le_of_ble_eq_true rfl) (fun w5 hS => ?_))
 have hS : Sp (FF []) w z w5 [bR b4 82 [.int .i64 a0.Row, .int .i64 a0.Col], bR b2 58 [.int .i64 a0.Row, .int .i64 a0.Col, vstr a0.Text, .int .i64 a0.Style.Align, .int .i64 a0.Style.Wrap, .int .i64 a0.Style.Dir]] := hS
 refine W_nil <| E_then (C_fr [(2, .pointer (some ⟨b4, 0, none⟩))] rfl ?_)
 refine C_ret <| E_rv1 rfl (RV_cellN (cs := [.int .i64 a0.Row, .int .i64 a0.Col]) rfl agg82 size82 rfl (boxcells (hS.bx 0 rfl) 0 rfl)) ?_
 exact ⟨Lret1 (show (.agg #[.int .i64 a0.Row, .int .i64 a0.Col] : Value) = .agg #[.int .i64 (spotS a0).e0, .int .i64 (spotS a0).e1] by rfl), hS.fin [] (by decide) rfl⟩
theorem corner_calls (a0 : TRect) (z : Z) (w : World) (hI : In z w [])   :
    Calls Tryz.prog 50 #[.agg #[.int .i64 a0.Row, .int .i64 a0.Col, .int .i64 a0.Rows, .int .i64 a0.Cols]] w fun e w' => e = .returned (.agg #[.int .i64 (cornerS a0).e0, .int .i64 (cornerS a0).e1]) ∧ Sp (FF []) w z w' [] := by
 have hS := hI.sp
 refine Calls_of (vs := [.agg #[.int .i64 a0.Row, .int .i64 a0.Col, .int .i64 a0.Rows, .int .i64 a0.Cols]]) (N := 8) Tryz.func50 rfl rfl (Nat.le_of_ble_eq_true rfl) ?_
 refine C_seq <| C_region <| W_cons rfl (by decide) (S_box hS rfl (R_box (cs := [.int .i64 a0.Row, .int .i64 a0.Col, .int .i64 a0.Rows, .int .i64 a0.Cols]) rfl rfl rfl) (fun b2 w1 hS => ?_))
 refine W_cons rfl (by decide) (S_box hS rfl (R_alloc rfl alloc82) (fun b4 w3 hS => ?_))
 refine W_nil <| E_then <| C_seq <| C_region <| wv rfl rfl rfl (R_fld rfl rfl fld76_0) <| wv rfl rfl rfl (R_load1 rfl rfl agg3 ((hS.bx 1 rfl).cell rfl)) <| wv rfl rfl rfl (R_fld rfl rfl fld76_1) <| wv rfl rfl rfl (R_load1 rfl rfl agg3 ((hS.bx 1 rfl).cell rfl)) <| wv rfl rfl rfl (R_build (w' := w3) (ps := [(0, (.tmp 4)), (1, (.tmp 6))]) (vs := [.int .i64 a0.Row, .int .i64 a0.Col]) (r := .agg #[.int .i64 a0.Row, .int .i64 a0.Col]) rfl rfl rfl (by kernel_rfl)) ?_
 refine W_cons0 rfl (S_store hS 0 rfl rfl rfl rfl rfl size82 (one_cons rfl (one_cons rfl one_nil)) (Nat.le_of_ble_eq_true rfl) (fun w5 hS => ?_))
 have hS : Sp (FF []) w z w5 [bR b4 82 [.int .i64 a0.Row, .int .i64 a0.Col], bR b2 76 [.int .i64 a0.Row, .int .i64 a0.Col, .int .i64 a0.Rows, .int .i64 a0.Cols]] := hS
 refine W_nil <| E_then (C_fr [(2, .pointer (some ⟨b4, 0, none⟩))] rfl ?_)
 refine C_ret <| E_rv1 rfl (RV_cellN (cs := [.int .i64 a0.Row, .int .i64 a0.Col]) rfl agg82 size82 rfl (boxcells (hS.bx 0 rfl) 0 rfl)) ?_
 exact ⟨Lret1 (show (.agg #[.int .i64 a0.Row, .int .i64 a0.Col] : Value) = .agg #[.int .i64 (cornerS a0).e0, .int .i64 (cornerS a0).e1] by rfl), hS.fin [] (by decide) rfl⟩
theorem styled_calls (a0 : TStyle) (z : Z) (w : World) (hI : In z w [])   :
    Calls Tryz.prog 83 #[.agg #[.int .i64 a0.Align, .int .i64 a0.Wrap, .int .i64 a0.Dir]] w fun e w' => e = .returned (.bool (styledS a0)) ∧ Sp (FF []) w z w' [] := by
 have hS := hI.sp
 refine Calls_of (vs := [.agg #[.int .i64 a0.Align, .int .i64 a0.Wrap, .int .i64 a0.Dir]]) (N := 31) Tryz.func83 rfl rfl (Nat.le_of_ble_eq_true rfl) ?_
 refine C_seq <| C_region <| W_cons rfl (by decide) (S_box hS rfl (R_box (cs := [.int .i64 a0.Align, .int .i64 a0.Wrap, .int .i64 a0.Dir]) rfl rfl rfl) (fun b2 w1 hS => ?_))
 refine wv rfl rfl rfl (R_assign rfl rfl) ?_
 refine W_nil <| E_then <| C_seq <| C_region <| wv rfl rfl rfl (R_fld rfl rfl fld56_0) <| wv rfl rfl rfl (R_load1 rfl rfl agg3 ((hS.bx 0 rfl).cell rfl)) <| wv rfl rfl rfl (R_bin rfl rfl rfl rfl rfl) <| wv rfl rfl rfl (R_move rfl rfl) <| wg rfl rfl (Gd.on rfl rfl rfl) (fun hB => R_fld rfl rfl fld56_0) <| wg rfl rfl (Gd.on rfl rfl rfl) (fun hB => Runs.at_ (i := 7) (gl rfl hB) (R_load1 rfl rfl agg3 ((hS.bx 0 rfl).cell rfl))) <| wg rfl rfl (Gd.on rfl rfl rfl) (fun hB => Runs.at_ (i := 8) (gl rfl hB) (R_bin rfl rfl rfl rfl rfl)) <| wv rfl rfl rfl (R_pick_and rfl rfl rfl rfl) <| wv rfl rfl rfl (R_move rfl rfl) <| wg rfl rfl (Gd.on rfl rfl rfl) (fun hB => R_fld rfl rfl fld56_1) <| wg rfl rfl (Gd.on rfl rfl rfl) (fun hB => Runs.at_ (i := 12) (gl rfl hB) (R_load1 rfl rfl agg3 ((hS.bx 0 rfl).cell rfl))) <| wg rfl rfl (Gd.on rfl rfl rfl) (fun hB => Runs.at_ (i := 13) (gl rfl hB) (R_bin rfl rfl rfl rfl rfl)) <| wv rfl rfl rfl (R_pick_and rfl rfl rfl rfl) <| wv rfl rfl rfl (R_move rfl rfl) <| wg rfl rfl (Gd.on rfl rfl rfl) (fun hB => R_fld rfl rfl fld56_1) <| wg rfl rfl (Gd.on rfl rfl rfl) (fun hB => Runs.at_ (i := 17) (gl rfl hB) (R_load1 rfl rfl agg3 ((hS.bx 0 rfl).cell rfl))) <| wg rfl rfl (Gd.on rfl rfl rfl) (fun hB => Runs.at_ (i := 18) (gl rfl hB) (R_bin rfl rfl rfl rfl rfl)) <| wv rfl rfl rfl (R_pick_and rfl rfl rfl rfl) <| wv rfl rfl rfl (R_move rfl rfl) <| wg rfl rfl (Gd.on rfl rfl rfl) (fun hB => R_fld rfl rfl fld56_2) <| wg rfl rfl (Gd.on rfl rfl rfl) (fun hB => Runs.at_ (i := 22) (gl rfl hB) (R_load1 rfl rfl agg3 ((hS.bx 0 rfl).cell rfl))) <| wg rfl rfl (Gd.on rfl rfl rfl) (fun hB => Runs.at_ (i := 23) (gl rfl hB) (R_bin rfl rfl rfl rfl rfl)) <| wv rfl rfl rfl (R_pick_and rfl rfl rfl rfl) <| wv rfl rfl rfl (R_move rfl rfl) <| wg rfl rfl (Gd.on rfl rfl rfl) (fun hB => R_fld rfl rfl fld56_2) <| wg rfl rfl (Gd.on rfl rfl rfl) (fun hB => Runs.at_ (i := 27) (gl rfl hB) (R_load1 rfl rfl agg3 ((hS.bx 0 rfl).cell rfl))) <| wg rfl rfl (Gd.on rfl rfl rfl) (fun hB => Runs.at_ (i := 28) (gl rfl hB) (R_bin rfl rfl rfl rfl rfl)) <| wv rfl rfl rfl (R_pick_and rfl rfl rfl rfl) <| wv rfl rfl rfl (R_assign rfl rfl) ?_
 refine W_nil <| E_then (C_fr [(2, .bool ((((((decide (a0.Align ≥ 0)) && (decide (a0.Align ≤ 4))) && (decide (a0.Wrap ≥ 0))) && (decide (a0.Wrap ≤ 1))) && (decide (a0.Dir ≥ 0))) && (decide (a0.Dir ≤ 3))))] rfl ?_)
 refine C_ret <| E_ret1 rfl rfl ?_
 exact ⟨Lret1 (Lbool (show ((((((decide (a0.Align ≥ 0)) && (decide (a0.Align ≤ 4))) && (decide (a0.Wrap ≥ 0))) && (decide (a0.Wrap ≤ 1))) && (decide (a0.Dir ≥ 0))) && (decide (a0.Dir ≤ 3))) = (styledS a0) by (unfold styledS; simp_all; done))), hS.fin [] (by decide) rfl⟩
theorem risec_calls (a0 : List TCell) (Aa0 : Option Addr) (ca0 : Nat) (z : Z) (w : World) (hI : In z w []) (hra0 : Rd kdTCell z Aa0 a0) (hca0 : Cap Aa0 a0.length ca0)  :
    Calls Tryz.prog 80 #[.slice Aa0 a0.length ca0, .func (.func 49) #[] #[]] w fun e w' => e = .returned (.bool (riseS spotS default a0)) ∧ Sp (FF []) w z w' [] := by
 have hla0 := hca0.le
 have hma0 := hca0.mx
 have hS := hI.sp
 refine Calls_of (vs := [.slice Aa0 a0.length ca0, .func (.func 49) #[] #[]]) (N := 27) Tryz.func80 rfl rfl (Nat.le_of_ble_eq_true rfl) ?_
 refine C_seq <| C_region <| wv rfl rfl rfl (R_assign rfl rfl) ?_
 refine W_nil <| E_then <| C_seq <| C_seq <| C_region <| wv rfl rfl rfl (R_assign rfl rfl) ?_
 refine W_nil <| E_then <| C_block <| C_fr [(0, .slice Aa0 a0.length ca0), (1, .func (.func 49) #[] #[]), (5, .int .i64 1)] rfl ?_
 refine C_loop (fun m_ f_ w_ => ∃ (n : Nat), f_ = [(0, .slice Aa0 a0.length ca0), (1, .func (.func 49) #[] #[]), (5, .int .i64 ((n + 1 : Nat) : Int))] ∧ n ≤ a0.length - 1 ∧ riseU spotS default a0 n = true ∧ m_ = a0.length - n ∧ Sp (FF []) w z w_ []) (a0.length - (0 : Nat)) ⟨(0 : Nat), rfl, (by omega), (by rfl), rfl, hS.fin [] (by decide) rfl⟩ ?_
 rintro m_ f_ w1 ⟨n, rfl, hI0_0, hI0_1, rfl, hS⟩
 refine C_seq <| C_seq <| C_region <| wv rfl rfl rfl (R_move rfl rfl) <| wv rfl rfl rfl (R_move rfl rfl) <| wv rfl rfl rfl (R_len rfl rfl Tryz.underlying27) <| wv rfl rfl rfl (R_bin rfl rfl rfl rfl rfl) ?_
 refine W_nil <| E_then <| C_ite rfl (fun hC0 => ?_) (fun hC0 => ?_)
 ·have hC0p : ((n + 1 : Nat) : Int) < (a0.length : Int) := by simpa using hC0
  refine C_skip <| E_then <| C_seq <| C_block <| C_seq <| C_fr [(0, .slice Aa0 a0.length ca0), (1, .func (.func 49) #[] #[]), (5, .int .i64 ((n + 1 : Nat) : Int))] rfl ?_
  obtain ⟨q2, csq2, hAq2, rfl, hkq2⟩ := hra0.at_ (default : TCell) (i := (((n + 1 : Nat) : Int) - 1)) (by omega) (by omega)
  obtain ⟨q5, csq5, hAq5, rfl, hkq5⟩ := hra0.at_ (default : TCell) (i := ((n + 1 : Nat) : Int)) (by omega) (by omega)
  have hkq5 : ∀ (j_ : Nat) (u_ : Value), ([.int .i64 (a0.getD (n + 1 : Nat) (default : TCell)).Row, .int .i64 (a0.getD (n + 1 : Nat) (default : TCell)).Col, vstr (a0.getD (n + 1 : Nat) (default : TCell)).Text, .int .i64 (a0.getD (n + 1 : Nat) (default : TCell)).Style.Align, .int .i64 (a0.getD (n + 1 : Nat) (default : TCell)).Style.Wrap, .int .i64 (a0.getD (n + 1 : Nat) (default : TCell)).Style.Dir] : List Value)[j_]? = some u_ → cz z (q5.add ((n + 1 : Nat) * 6 + j_)) = some u_ := hkq5
  refine C_drawn2 15 [[], [], [], [2], [1, 3], [4], [0, 5], [], [], [], [8, 9], [10], [7, 11, 6], [6, 12, 12], [13]] [some 12, some 13, some 14, some 15, some 16, some 17, some 18, some 19, some 20, some 21, some 22, some 23, some 24, some 25, some 26] [0, 1, 5] (List.replicate 15 15) (List.replicate 15 []) (List.replicate 15 []) [fun γ_ => .func (.func 49) #[] #[], fun γ_ => .slice Aa0 a0.length ca0, fun γ_ => .int .i64 ((n + 1 : Nat) : Int), fun γ_ => .int .i64 (((n + 1 : Nat) : Int) - 1), fun γ_ => .pointer (some (q2.add ((((n + 1 : Nat) : Int) - 1).toNat * 6))), fun γ_ => .agg #[.int .i64 (a0.getD (((n + 1 : Nat) : Int) - 1).toNat (default : TCell)).Row, .int .i64 (a0.getD (((n + 1 : Nat) : Int) - 1).toNat (default : TCell)).Col, vstr (a0.getD (((n + 1 : Nat) : Int) - 1).toNat (default : TCell)).Text, .int .i64 (a0.getD (((n + 1 : Nat) : Int) - 1).toNat (default : TCell)).Style.Align, .int .i64 (a0.getD (((n + 1 : Nat) : Int) - 1).toNat (default : TCell)).Style.Wrap, .int .i64 (a0.getD (((n + 1 : Nat) : Int) - 1).toNat (default : TCell)).Style.Dir], fun γ_ => .agg #[.int .i64 (spotS (a0.getD (((n + 1 : Nat) : Int) - 1).toNat (default : TCell))).e0, .int .i64 (spotS (a0.getD (((n + 1 : Nat) : Int) - 1).toNat (default : TCell))).e1], fun γ_ => .func (.func 49) #[] #[], fun γ_ => .slice Aa0 a0.length ca0, fun γ_ => .int .i64 ((n + 1 : Nat) : Int), fun γ_ => .pointer (some (q5.add ((n + 1 : Nat) * 6))), fun γ_ => .agg #[.int .i64 (a0.getD (n + 1 : Nat) (default : TCell)).Row, .int .i64 (a0.getD (n + 1 : Nat) (default : TCell)).Col, vstr (a0.getD (n + 1 : Nat) (default : TCell)).Text, .int .i64 (a0.getD (n + 1 : Nat) (default : TCell)).Style.Align, .int .i64 (a0.getD (n + 1 : Nat) (default : TCell)).Style.Wrap, .int .i64 (a0.getD (n + 1 : Nat) (default : TCell)).Style.Dir], fun γ_ => .agg #[.int .i64 (spotS (a0.getD (n + 1 : Nat) (default : TCell))).e0, .int .i64 (spotS (a0.getD (n + 1 : Nat) (default : TCell))).e1], fun γ_ => .bool (aheadS (spotS (a0.getD (((n + 1 : Nat) : Int) - 1).toNat (default : TCell))) (spotS (a0.getD (n + 1 : Nat) (default : TCell)))), fun γ_ => .bool (!(aheadS (spotS (a0.getD (((n + 1 : Nat) : Int) - 1).toNat (default : TCell))) (spotS (a0.getD (n + 1 : Nat) (default : TCell)))))] (List.replicate 15 (fun _ => [])) rfl (by kernel_rfl) (by decide +kernel) hS ?_ ?_
  ·refine ⟨fun _ _ _ hS => Sv_val rfl (R_move rfl rfl) ⟨gh0, rfl, hS⟩, fun _ _ _ hS => Sv_val rfl (R_move rfl rfl) ⟨gh0, rfl, hS⟩, fun _ _ _ hS => Sv_val rfl (R_move rfl rfl) ⟨gh0, rfl, hS⟩, fun _ _ _ hS => Sv_val rfl (R_sub64 rfl rfl rfl (by omega) (by omega)) ⟨gh0, rfl, hS⟩, fun _ _ _ hS => Sv_val rfl (R_idx rfl rfl hAq2 rfl Tryz.underlying27 size58 (by omega) (by omega)) ⟨gh0, rfl, hS⟩, fun _ _ _ hS => Sv_val rfl (R_loadN (cs := [.int .i64 (a0.getD (((n + 1 : Nat) : Int) - 1).toNat (default : TCell)).Row, .int .i64 (a0.getD (((n + 1 : Nat) : Int) - 1).toNat (default : TCell)).Col, vstr (a0.getD (((n + 1 : Nat) : Int) - 1).toNat (default : TCell)).Text, .int .i64 (a0.getD (((n + 1 : Nat) : Int) - 1).toNat (default : TCell)).Style.Align, .int .i64 (a0.getD (((n + 1 : Nat) : Int) - 1).toNat (default : TCell)).Style.Wrap, .int .i64 (a0.getD (((n + 1 : Nat) : Int) - 1).toNat (default : TCell)).Style.Dir]) rfl rfl agg58 size58 rfl (fun j u h => cell_add (hS.sub.cell (hkq2 j u h)))) ⟨gh0, rfl, hS⟩, fun g_ w22 fr23 hS => ?_, ?_⟩
   ·have _w22 := trivial
    refine Sv_callv rfl rfl rfl rfl ent49 ?_
    refine (spot_calls (a0.getD (((n + 1 : Nat) : Int) - 1).toNat (default : TCell)) _ _ hS.out0  ).mono ?_
    rintro e_ w24 ⟨rfl, hS_⟩
    refine ⟨_, rfl, ?_⟩
    have hS := hS.call0 hS_
    exact ⟨⟨fun _ => none, fun _ => 0, fun _ => zE, fun _ => 0⟩, rfl, hS.fin [0] (by decide) rfl⟩
   refine ⟨fun _ _ _ hS => Sv_val rfl (R_move rfl rfl) ⟨gh0, rfl, hS⟩, fun _ _ _ hS => Sv_val rfl (R_move rfl rfl) ⟨gh0, rfl, hS⟩, fun _ _ _ hS => Sv_val rfl (R_move rfl rfl) ⟨gh0, rfl, hS⟩, fun _ _ _ hS => Sv_val rfl (R_idx rfl rfl hAq5 rfl Tryz.underlying27 size58 (by omega) (by omega)) ⟨gh0, rfl, hS⟩, fun _ _ _ hS => Sv_val rfl (R_loadN (cs := [.int .i64 (a0.getD (n + 1 : Nat) (default : TCell)).Row, .int .i64 (a0.getD (n + 1 : Nat) (default : TCell)).Col, vstr (a0.getD (n + 1 : Nat) (default : TCell)).Text, .int .i64 (a0.getD (n + 1 : Nat) (default : TCell)).Style.Align, .int .i64 (a0.getD (n + 1 : Nat) (default : TCell)).Style.Wrap, .int .i64 (a0.getD (n + 1 : Nat) (default : TCell)).Style.Dir]) rfl rfl agg58 size58 rfl (fun j u h => cell_add (hS.sub.cell (hkq5 j u h)))) ⟨gh0, rfl, hS⟩, fun g_ w36 fr37 hS => ?_, ?_⟩
   ·have _w36 := trivial
    refine Sv_callv rfl rfl rfl rfl ent49 ?_
    refine (spot_calls (a0.getD (n + 1 : Nat) (default : TCell)) _ _ hS.out0  ).mono ?_
    rintro e_ w38 ⟨rfl, hS_⟩
    refine ⟨_, rfl, ?_⟩
    have hS := hS.call0 hS_
    exact ⟨⟨fun _ => none, fun _ => 0, fun _ => zE, fun _ => 0⟩, rfl, hS.fin [0] (by decide) rfl⟩
   refine ⟨fun g_ w40 fr41 hS => ?_, ?_⟩
   ·have _w40 := trivial
    refine Sv_call rfl rfl rfl ent109 ?_
    refine (ahead_calls (spotS (a0.getD (((n + 1 : Nat) : Int) - 1).toNat (default : TCell))) (spotS (a0.getD (n + 1 : Nat) (default : TCell))) _ _ hS.out0  ).mono ?_
    rintro e_ w42 ⟨rfl, hS_⟩
    refine ⟨_, rfl, ?_⟩
    have hS := hS.call0 hS_
    exact ⟨⟨fun _ => none, fun _ => 0, fun _ => zE, fun _ => 0⟩, rfl, hS.fin [0] (by decide) rfl⟩
   refine ⟨fun _ _ _ hS => Sv_val rfl (R_un rfl rfl rfl) ⟨gh0, rfl, hS⟩, ?_⟩
   exact trivial
  ·intro g_ w46 hS
   have hS : Sp (FF []) w z w46 [] := hS
   refine An_fr [(0, .slice Aa0 a0.length ca0), (1, .func (.func 49) #[] #[]), (5, .int .i64 ((n + 1 : Nat) : Int)), (26, .bool (!(aheadS (spotS (a0.getD (((n + 1 : Nat) : Int) - 1).toNat (default : TCell))) (spotS (a0.getD (n + 1 : Nat) (default : TCell))))))] rfl ?_
   refine An_done (by decide +kernel) <| E_then <| C_ite rfl (fun hC1 => ?_) (fun hC1 => ?_)
   ·have hC1p : ¬ (aheadS (spotS (a0.getD (((n + 1 : Nat) : Int) - 1).toNat (default : TCell))) (spotS (a0.getD (n + 1 : Nat) (default : TCell))) = true) := by simpa using hC1
    refine C_seq <| C_region <| wv rfl rfl rfl (R_assign rfl rfl) ?_
    refine W_nil <| E_then <| C_ret <| E_block_ret <| E_then_ret <| E_then_ret <| E_block_ret <| E_then_ret <| E_ret1 rfl rfl ?_
    exact ⟨Lret1 (Lbool (show false = (riseS spotS default a0) by exact (riseU_not (n := n) (by omega) (by simp_all)).symm)), hS.fin [] (by decide) rfl⟩
   ·have hC1p : (aheadS (spotS (a0.getD (((n + 1 : Nat) : Int) - 1).toNat (default : TCell))) (spotS (a0.getD (n + 1 : Nat) (default : TCell))) = true) := by simpa using hC1
    refine C_skip <| E_block_normal <| E_then <| C_region <| wv rfl rfl rfl (R_move rfl rfl) <| wv rfl rfl rfl (R_add64 rfl rfl rfl (by omega) (by omega)) <| wv rfl rfl rfl (R_assign rfl rfl) ?_
    refine W_nil <| E_round [0, 1, 5] ?_ ⟨(n + 1 : Nat), rfl, (by omega), (by exact riseU_next hI0_1 (by simp_all)), rfl, hS.fin [] (by decide) rfl⟩
    omega
 ·have hC0p : ¬ (((n + 1 : Nat) : Int) < (a0.length : Int)) := by simpa using hC0
  refine C_exit <| E_then_exit <| E_then_exit <| E_block_hit ?_
  refine E_then (C_fr [] rfl ?_)
  refine C_seq <| C_region <| wv rfl rfl rfl (R_assign rfl rfl) ?_
  refine W_nil <| E_then <| C_ret <| E_ret1 rfl rfl ?_
  exact ⟨Lret1 (Lbool (show true = (riseS spotS default a0) by (rw [← hI0_1]; unfold riseS; congr 1; omega))), hS.fin [] (by decide) rfl⟩
theorem riser_calls (a0 : List TRect) (Aa0 : Option Addr) (ca0 : Nat) (z : Z) (w : World) (hI : In z w []) (hra0 : Rd kdTRect z Aa0 a0) (hca0 : Cap Aa0 a0.length ca0)  :
    Calls Tryz.prog 81 #[.slice Aa0 a0.length ca0, .func (.func 50) #[] #[]] w fun e w' => e = .returned (.bool (riseS cornerS default a0)) ∧ Sp (FF []) w z w' [] := by
 have hla0 := hca0.le
 have hma0 := hca0.mx
 have hS := hI.sp
 refine Calls_of (vs := [.slice Aa0 a0.length ca0, .func (.func 50) #[] #[]]) (N := 27) Tryz.func81 rfl rfl (Nat.le_of_ble_eq_true rfl) ?_
 refine C_seq <| C_region <| wv rfl rfl rfl (R_assign rfl rfl) ?_
 refine W_nil <| E_then <| C_seq <| C_seq <| C_region <| wv rfl rfl rfl (R_assign rfl rfl) ?_
 refine W_nil <| E_then <| C_block <| C_fr [(0, .slice Aa0 a0.length ca0), (1, .func (.func 50) #[] #[]), (5, .int .i64 1)] rfl ?_
 refine C_loop (fun m_ f_ w_ => ∃ (n : Nat), f_ = [(0, .slice Aa0 a0.length ca0), (1, .func (.func 50) #[] #[]), (5, .int .i64 ((n + 1 : Nat) : Int))] ∧ n ≤ a0.length - 1 ∧ riseU cornerS default a0 n = true ∧ m_ = a0.length - n ∧ Sp (FF []) w z w_ []) (a0.length - (0 : Nat)) ⟨(0 : Nat), rfl, (by omega), (by rfl), rfl, hS.fin [] (by decide) rfl⟩ ?_
 rintro m_ f_ w1 ⟨n, rfl, hI0_0, hI0_1, rfl, hS⟩
 refine C_seq <| C_seq <| C_region <| wv rfl rfl rfl (R_move rfl rfl) <| wv rfl rfl rfl (R_move rfl rfl) <| wv rfl rfl rfl (R_len rfl rfl Tryz.underlying28) <| wv rfl rfl rfl (R_bin rfl rfl rfl rfl rfl) ?_
 refine W_nil <| E_then <| C_ite rfl (fun hC0 => ?_) (fun hC0 => ?_)
 ·have hC0p : ((n + 1 : Nat) : Int) < (a0.length : Int) := by simpa using hC0
  refine C_skip <| E_then <| C_seq <| C_block <| C_seq <| C_fr [(0, .slice Aa0 a0.length ca0), (1, .func (.func 50) #[] #[]), (5, .int .i64 ((n + 1 : Nat) : Int))] rfl ?_
  obtain ⟨q2, csq2, hAq2, rfl, hkq2⟩ := hra0.at_ (default : TRect) (i := (((n + 1 : Nat) : Int) - 1)) (by omega) (by omega)
  obtain ⟨q5, csq5, hAq5, rfl, hkq5⟩ := hra0.at_ (default : TRect) (i := ((n + 1 : Nat) : Int)) (by omega) (by omega)
  have hkq5 : ∀ (j_ : Nat) (u_ : Value), ([.int .i64 (a0.getD (n + 1 : Nat) (default : TRect)).Row, .int .i64 (a0.getD (n + 1 : Nat) (default : TRect)).Col, .int .i64 (a0.getD (n + 1 : Nat) (default : TRect)).Rows, .int .i64 (a0.getD (n + 1 : Nat) (default : TRect)).Cols] : List Value)[j_]? = some u_ → cz z (q5.add ((n + 1 : Nat) * 4 + j_)) = some u_ := hkq5
  refine C_drawn2 15 [[], [], [], [2], [1, 3], [4], [0, 5], [], [], [], [8, 9], [10], [7, 11, 6], [6, 12, 12], [13]] [some 12, some 13, some 14, some 15, some 16, some 17, some 18, some 19, some 20, some 21, some 22, some 23, some 24, some 25, some 26] [0, 1, 5] (List.replicate 15 15) (List.replicate 15 []) (List.replicate 15 []) [fun γ_ => .func (.func 50) #[] #[], fun γ_ => .slice Aa0 a0.length ca0, fun γ_ => .int .i64 ((n + 1 : Nat) : Int), fun γ_ => .int .i64 (((n + 1 : Nat) : Int) - 1), fun γ_ => .pointer (some (q2.add ((((n + 1 : Nat) : Int) - 1).toNat * 4))), fun γ_ => .agg #[.int .i64 (a0.getD (((n + 1 : Nat) : Int) - 1).toNat (default : TRect)).Row, .int .i64 (a0.getD (((n + 1 : Nat) : Int) - 1).toNat (default : TRect)).Col, .int .i64 (a0.getD (((n + 1 : Nat) : Int) - 1).toNat (default : TRect)).Rows, .int .i64 (a0.getD (((n + 1 : Nat) : Int) - 1).toNat (default : TRect)).Cols], fun γ_ => .agg #[.int .i64 (cornerS (a0.getD (((n + 1 : Nat) : Int) - 1).toNat (default : TRect))).e0, .int .i64 (cornerS (a0.getD (((n + 1 : Nat) : Int) - 1).toNat (default : TRect))).e1], fun γ_ => .func (.func 50) #[] #[], fun γ_ => .slice Aa0 a0.length ca0, fun γ_ => .int .i64 ((n + 1 : Nat) : Int), fun γ_ => .pointer (some (q5.add ((n + 1 : Nat) * 4))), fun γ_ => .agg #[.int .i64 (a0.getD (n + 1 : Nat) (default : TRect)).Row, .int .i64 (a0.getD (n + 1 : Nat) (default : TRect)).Col, .int .i64 (a0.getD (n + 1 : Nat) (default : TRect)).Rows, .int .i64 (a0.getD (n + 1 : Nat) (default : TRect)).Cols], fun γ_ => .agg #[.int .i64 (cornerS (a0.getD (n + 1 : Nat) (default : TRect))).e0, .int .i64 (cornerS (a0.getD (n + 1 : Nat) (default : TRect))).e1], fun γ_ => .bool (aheadS (cornerS (a0.getD (((n + 1 : Nat) : Int) - 1).toNat (default : TRect))) (cornerS (a0.getD (n + 1 : Nat) (default : TRect)))), fun γ_ => .bool (!(aheadS (cornerS (a0.getD (((n + 1 : Nat) : Int) - 1).toNat (default : TRect))) (cornerS (a0.getD (n + 1 : Nat) (default : TRect)))))] (List.replicate 15 (fun _ => [])) rfl (by kernel_rfl) (by decide +kernel) hS ?_ ?_
  ·refine ⟨fun _ _ _ hS => Sv_val rfl (R_move rfl rfl) ⟨gh0, rfl, hS⟩, fun _ _ _ hS => Sv_val rfl (R_move rfl rfl) ⟨gh0, rfl, hS⟩, fun _ _ _ hS => Sv_val rfl (R_move rfl rfl) ⟨gh0, rfl, hS⟩, fun _ _ _ hS => Sv_val rfl (R_sub64 rfl rfl rfl (by omega) (by omega)) ⟨gh0, rfl, hS⟩, fun _ _ _ hS => Sv_val rfl (R_idx rfl rfl hAq2 rfl Tryz.underlying28 size76 (by omega) (by omega)) ⟨gh0, rfl, hS⟩, fun _ _ _ hS => Sv_val rfl (R_loadN (cs := [.int .i64 (a0.getD (((n + 1 : Nat) : Int) - 1).toNat (default : TRect)).Row, .int .i64 (a0.getD (((n + 1 : Nat) : Int) - 1).toNat (default : TRect)).Col, .int .i64 (a0.getD (((n + 1 : Nat) : Int) - 1).toNat (default : TRect)).Rows, .int .i64 (a0.getD (((n + 1 : Nat) : Int) - 1).toNat (default : TRect)).Cols]) rfl rfl agg76 size76 rfl (fun j u h => cell_add (hS.sub.cell (hkq2 j u h)))) ⟨gh0, rfl, hS⟩, fun g_ w22 fr23 hS => ?_, ?_⟩
   ·have _w22 := trivial
    refine Sv_callv rfl rfl rfl rfl ent50 ?_
    refine (corner_calls (a0.getD (((n + 1 : Nat) : Int) - 1).toNat (default : TRect)) _ _ hS.out0  ).mono ?_
    rintro e_ w24 ⟨rfl, hS_⟩
    refine ⟨_, rfl, ?_⟩
    have hS := hS.call0 hS_
    exact ⟨⟨fun _ => none, fun _ => 0, fun _ => zE, fun _ => 0⟩, rfl, hS.fin [0] (by decide) rfl⟩
   refine ⟨fun _ _ _ hS => Sv_val rfl (R_move rfl rfl) ⟨gh0, rfl, hS⟩, fun _ _ _ hS => Sv_val rfl (R_move rfl rfl) ⟨gh0, rfl, hS⟩, fun _ _ _ hS => Sv_val rfl (R_move rfl rfl) ⟨gh0, rfl, hS⟩, fun _ _ _ hS => Sv_val rfl (R_idx rfl rfl hAq5 rfl Tryz.underlying28 size76 (by omega) (by omega)) ⟨gh0, rfl, hS⟩, fun _ _ _ hS => Sv_val rfl (R_loadN (cs := [.int .i64 (a0.getD (n + 1 : Nat) (default : TRect)).Row, .int .i64 (a0.getD (n + 1 : Nat) (default : TRect)).Col, .int .i64 (a0.getD (n + 1 : Nat) (default : TRect)).Rows, .int .i64 (a0.getD (n + 1 : Nat) (default : TRect)).Cols]) rfl rfl agg76 size76 rfl (fun j u h => cell_add (hS.sub.cell (hkq5 j u h)))) ⟨gh0, rfl, hS⟩, fun g_ w36 fr37 hS => ?_, ?_⟩
   ·have _w36 := trivial
    refine Sv_callv rfl rfl rfl rfl ent50 ?_
    refine (corner_calls (a0.getD (n + 1 : Nat) (default : TRect)) _ _ hS.out0  ).mono ?_
    rintro e_ w38 ⟨rfl, hS_⟩
    refine ⟨_, rfl, ?_⟩
    have hS := hS.call0 hS_
    exact ⟨⟨fun _ => none, fun _ => 0, fun _ => zE, fun _ => 0⟩, rfl, hS.fin [0] (by decide) rfl⟩
   refine ⟨fun g_ w40 fr41 hS => ?_, ?_⟩
   ·have _w40 := trivial
    refine Sv_call rfl rfl rfl ent109 ?_
    refine (ahead_calls (cornerS (a0.getD (((n + 1 : Nat) : Int) - 1).toNat (default : TRect))) (cornerS (a0.getD (n + 1 : Nat) (default : TRect))) _ _ hS.out0  ).mono ?_
    rintro e_ w42 ⟨rfl, hS_⟩
    refine ⟨_, rfl, ?_⟩
    have hS := hS.call0 hS_
    exact ⟨⟨fun _ => none, fun _ => 0, fun _ => zE, fun _ => 0⟩, rfl, hS.fin [0] (by decide) rfl⟩
   refine ⟨fun _ _ _ hS => Sv_val rfl (R_un rfl rfl rfl) ⟨gh0, rfl, hS⟩, ?_⟩
   exact trivial
  ·intro g_ w46 hS
   have hS : Sp (FF []) w z w46 [] := hS
   refine An_fr [(0, .slice Aa0 a0.length ca0), (1, .func (.func 50) #[] #[]), (5, .int .i64 ((n + 1 : Nat) : Int)), (26, .bool (!(aheadS (cornerS (a0.getD (((n + 1 : Nat) : Int) - 1).toNat (default : TRect))) (cornerS (a0.getD (n + 1 : Nat) (default : TRect))))))] rfl ?_
   refine An_done (by decide +kernel) <| E_then <| C_ite rfl (fun hC1 => ?_) (fun hC1 => ?_)
   ·have hC1p : ¬ (aheadS (cornerS (a0.getD (((n + 1 : Nat) : Int) - 1).toNat (default : TRect))) (cornerS (a0.getD (n + 1 : Nat) (default : TRect))) = true) := by simpa using hC1
    refine C_seq <| C_region <| wv rfl rfl rfl (R_assign rfl rfl) ?_
    refine W_nil <| E_then <| C_ret <| E_block_ret <| E_then_ret <| E_then_ret <| E_block_ret <| E_then_ret <| E_ret1 rfl rfl ?_
    exact ⟨Lret1 (Lbool (show false = (riseS cornerS default a0) by exact (riseU_not (n := n) (by omega) (by simp_all)).symm)), hS.fin [] (by decide) rfl⟩
   ·have hC1p : (aheadS (cornerS (a0.getD (((n + 1 : Nat) : Int) - 1).toNat (default : TRect))) (cornerS (a0.getD (n + 1 : Nat) (default : TRect))) = true) := by simpa using hC1
    refine C_skip <| E_block_normal <| E_then <| C_region <| wv rfl rfl rfl (R_move rfl rfl) <| wv rfl rfl rfl (R_add64 rfl rfl rfl (by omega) (by omega)) <| wv rfl rfl rfl (R_assign rfl rfl) ?_
    refine W_nil <| E_round [0, 1, 5] ?_ ⟨(n + 1 : Nat), rfl, (by omega), (by exact riseU_next hI0_1 (by simp_all)), rfl, hS.fin [] (by decide) rfl⟩
    omega
 ·have hC0p : ¬ (((n + 1 : Nat) : Int) < (a0.length : Int)) := by simpa using hC0
  refine C_exit <| E_then_exit <| E_then_exit <| E_block_hit ?_
  refine E_then (C_fr [] rfl ?_)
  refine C_seq <| C_region <| wv rfl rfl rfl (R_assign rfl rfl) ?_
  refine W_nil <| E_then <| C_ret <| E_ret1 rfl rfl ?_
  exact ⟨Lret1 (Lbool (show true = (riseS cornerS default a0) by (rw [← hI0_1]; unfold riseS; congr 1; omega))), hS.fin [] (by decide) rfl⟩
theorem order1_calls (a0 : TCell) (z : Z) (w : World) (hI : In z w [])   :
    Calls Tryz.prog 82 #[.agg #[.int .i64 a0.Row, .int .i64 a0.Col, vstr a0.Text, .int .i64 a0.Style.Align, .int .i64 a0.Style.Wrap, .int .i64 a0.Style.Dir]] w fun e w' => e = .returned (.bool (emptyS a0)) ∧ Sp (FF []) w z w' [] := by
 have hS := hI.sp
 refine Calls_of (vs := [.agg #[.int .i64 a0.Row, .int .i64 a0.Col, vstr a0.Text, .int .i64 a0.Style.Align, .int .i64 a0.Style.Wrap, .int .i64 a0.Style.Dir]]) (N := 26) Tryz.func82 rfl rfl (Nat.le_of_ble_eq_true rfl) ?_
 refine C_seq <| C_region <| W_cons rfl (by decide) (S_box hS rfl (R_box (cs := [.int .i64 a0.Row, .int .i64 a0.Col, vstr a0.Text, .int .i64 a0.Style.Align, .int .i64 a0.Style.Wrap, .int .i64 a0.Style.Dir]) rfl rfl rfl) (fun b2 w1 hS => ?_))
 refine wv rfl rfl rfl (R_assign rfl rfl) ?_
 refine W_nil <| E_then <| C_seq <| C_region <| wv rfl rfl rfl (R_fld rfl rfl fld58_3) <| wv rfl rfl rfl (R_loadN (cs := [.int .i64 a0.Style.Align, .int .i64 a0.Style.Wrap, .int .i64 a0.Style.Dir]) rfl rfl agg56 size56 rfl (boxcells (hS.bx 0 rfl) 3 rfl)) ?_
 refine W_cons rfl (by decide) (Sv_call rfl rfl rfl ent83 ?_)
 refine (styled_calls a0.Style _ _ hS.out0  ).mono ?_
 rintro e_ w3 ⟨rfl, hS_⟩
 refine ⟨_, rfl, ?_⟩
 have hS := hS.call0 hS_
 refine wv rfl rfl rfl (R_un rfl rfl rfl) <| wv rfl rfl rfl (R_move rfl rfl) <| wg rfl rfl (Gd.no rfl rfl rfl) (fun hB => R_fld rfl rfl fld58_2) <| wg rfl rfl (Gd.no rfl rfl rfl) (fun hB => Runs.at_ (i := 8) (gl rfl hB) (R_load1 rfl rfl agg9 ((hS.bx 0 rfl).cell rfl))) <| wg rfl rfl (Gd.no rfl rfl rfl) (fun hB => Runs.at_ (i := 9) (gl rfl hB) (R_streql rfl rfl rfl)) <| wg rfl rfl (Gd.no rfl rfl rfl) (fun hB => Runs.at_ (i := 10) (gl rfl hB) (R_move rfl rfl)) <| wg rfl rfl (Gd.gon rfl rfl rfl) (fun hB => R_fld rfl rfl fld58_3) <| wg rfl rfl (Gd.gon rfl rfl rfl) (fun hB => Runs.at_ (i := 12) (gl rfl hB) (R_fld rfl rfl fld56_0)) <| wg rfl rfl (Gd.gon rfl rfl rfl) (fun hB => Runs.at_ (i := 13) (gl rfl hB) (R_load1 rfl rfl agg3 ((hS.bx 0 rfl).cell rfl))) <| wg rfl rfl (Gd.gon rfl rfl rfl) (fun hB => R_fld rfl rfl fld58_3) <| wg rfl rfl (Gd.gon rfl rfl rfl) (fun hB => Runs.at_ (i := 15) (gl rfl hB) (R_fld rfl rfl fld56_1)) <| wg rfl rfl (Gd.gon rfl rfl rfl) (fun hB => Runs.at_ (i := 16) (gl rfl hB) (R_load1 rfl rfl agg3 ((hS.bx 0 rfl).cell rfl))) <| wg rfl rfl (Gd.gon rfl rfl rfl) (fun hB => R_fld rfl rfl fld58_3) <| wg rfl rfl (Gd.gon rfl rfl rfl) (fun hB => Runs.at_ (i := 18) (gl rfl hB) (R_fld rfl rfl fld56_2)) <| wg rfl rfl (Gd.gon rfl rfl rfl) (fun hB => Runs.at_ (i := 19) (gl rfl hB) (R_load1 rfl rfl agg3 ((hS.bx 0 rfl).cell rfl))) <| wg rfl rfl (Gd.gon rfl rfl rfl) (fun hB => Runs.at_ (i := 20) (gl rfl hB) (Runs.at_ (i := 17) (gl rfl hB) (Runs.at_ (i := 14) (gl rfl hB) (R_build (w' := w3) (ps := [(0, (.tmp 14)), (1, (.tmp 17)), (2, (.tmp 20))]) (vs := [.int .i64 a0.Style.Align, .int .i64 a0.Style.Wrap, .int .i64 a0.Style.Dir]) (r := .agg #[.int .i64 a0.Style.Align, .int .i64 a0.Style.Wrap, .int .i64 a0.Style.Dir]) rfl rfl rfl (by kernel_rfl))))) <| wg rfl rfl (Gd.gon rfl rfl rfl) (fun hB => R_build (w' := w3) (ps := []) (vs := []) (r := .agg #[.int .i64 0, .int .i64 0, .int .i64 0]) rfl rfl rfl (by kernel_rfl)) <| wg rfl rfl (Gd.gon rfl rfl rfl) (fun hB => Runs.at_ (i := 22) (gl rfl hB) (Runs.at_ (i := 21) (gl rfl hB) (R_eqv rfl rfl rfl eqg119 ((eqv119 (⟨a0.Style.Align, a0.Style.Wrap, a0.Style.Dir⟩ : Ar3_Int) (⟨0, 0, 0⟩ : Ar3_Int)).up 2)))) <| wg rfl rfl (Gd.no rfl rfl rfl) (fun hB => Runs.at_ (i := 23) (gl2 rfl hB) (Runs.at_ (i := 11) (gl rfl hB) (R_pick_and rfl rfl rfl rfl))) <| wv rfl rfl rfl (R_pick_or rfl rfl rfl rfl) <| wv rfl rfl rfl (R_assign rfl rfl) ?_
 refine W_nil <| E_then (C_fr [(2, .bool ((!(styledS a0.Style)) || ((decide (a0.Text = [])) && (decide ((⟨a0.Style.Align, a0.Style.Wrap, a0.Style.Dir⟩ : Ar3_Int) = (⟨0, 0, 0⟩ : Ar3_Int))))))] rfl ?_)
 refine C_ret <| E_ret1 rfl rfl ?_
 exact ⟨Lret1 (Lbool (show ((!(styledS a0.Style)) || ((decide (a0.Text = [])) && (decide ((⟨a0.Style.Align, a0.Style.Wrap, a0.Style.Dir⟩ : Ar3_Int) = (⟨0, 0, 0⟩ : Ar3_Int))))) = (emptyS a0) by (unfold emptyS; simp_all; done))), hS.fin [] (by decide) rfl⟩
theorem order1_fv  (zc : Z) : FV Tryz.prog zc 82 [] (fun z_ (x_ : TCell) vs_ => vs_ = [.agg #[.int .i64 x_.Row, .int .i64 x_.Col, vstr x_.Text, .int .i64 x_.Style.Align, .int .i64 x_.Style.Wrap, .int .i64 x_.Style.Dir]]) (fun (_ _ : Unit) => allR []) (fun _ x_ => True) (fun _ _ => ()) (fun _ x_ => .bool ((fun (x_ : TCell) => emptyS x_) x_)) := ⟨ent82, by
  rintro _ _ x vs w z hz hI hok rfl
  refine (order1_calls x  z w hI.unb   ).mono ?_
  rintro e w' ⟨rfl, hS⟩
  exact ⟨rfl, (), hS.bun1⟩⟩
theorem order2_calls (a0 : TRect) (z : Z) (w : World) (hI : In z w [])   :
    Calls Tryz.prog 84 #[.agg #[.int .i64 a0.Row, .int .i64 a0.Col, .int .i64 a0.Rows, .int .i64 a0.Cols]] w fun e w' => e = .returned (.bool (tinyS a0)) ∧ Sp (FF []) w z w' [] := by
 have hS := hI.sp
 refine Calls_of (vs := [.agg #[.int .i64 a0.Row, .int .i64 a0.Col, .int .i64 a0.Rows, .int .i64 a0.Cols]]) (N := 21) Tryz.func84 rfl rfl (Nat.le_of_ble_eq_true rfl) ?_
 refine C_seq <| C_region <| W_cons rfl (by decide) (S_box hS rfl (R_box (cs := [.int .i64 a0.Row, .int .i64 a0.Col, .int .i64 a0.Rows, .int .i64 a0.Cols]) rfl rfl rfl) (fun b2 w1 hS => ?_))
 refine wv rfl rfl rfl (R_assign rfl rfl) ?_
 refine W_nil <| E_then <| C_seq <| C_region <| wv rfl rfl rfl (R_fld rfl rfl fld76_2) <| wv rfl rfl rfl (R_load1 rfl rfl agg3 ((hS.bx 0 rfl).cell rfl)) <| wv rfl rfl rfl (R_bin rfl rfl rfl rfl rfl) <| wv rfl rfl rfl (R_move rfl rfl) <| wg rfl rfl (Gd.no rfl rfl rfl) (fun hB => R_fld rfl rfl fld76_3) <| wg rfl rfl (Gd.no rfl rfl rfl) (fun hB => Runs.at_ (i := 7) (gl rfl hB) (R_load1 rfl rfl agg3 ((hS.bx 0 rfl).cell rfl))) <| wg rfl rfl (Gd.no rfl rfl rfl) (fun hB => Runs.at_ (i := 8) (gl rfl hB) (R_bin rfl rfl rfl rfl rfl)) <| wv rfl rfl rfl (R_pick_or rfl rfl rfl rfl) <| wv rfl rfl rfl (R_move rfl rfl) <| wg rfl rfl (Gd.no rfl rfl rfl) (fun hB => R_fld rfl rfl fld76_2) <| wg rfl rfl (Gd.no rfl rfl rfl) (fun hB => Runs.at_ (i := 12) (gl rfl hB) (R_load1 rfl rfl agg3 ((hS.bx 0 rfl).cell rfl))) <| wg rfl rfl (Gd.no rfl rfl rfl) (fun hB => Runs.at_ (i := 13) (gl rfl hB) (R_bin rfl rfl rfl rfl rfl)) <| wg rfl rfl (Gd.no rfl rfl rfl) (fun hB => Runs.at_ (i := 14) (gl rfl hB) (R_move rfl rfl)) <| wg rfl rfl (Gd.gon rfl rfl rfl) (fun hB => R_fld rfl rfl fld76_3) <| wg rfl rfl (Gd.gon rfl rfl rfl) (fun hB => Runs.at_ (i := 16) (gl rfl hB) (R_load1 rfl rfl agg3 ((hS.bx 0 rfl).cell rfl))) <| wg rfl rfl (Gd.gon rfl rfl rfl) (fun hB => Runs.at_ (i := 17) (gl rfl hB) (R_bin rfl rfl rfl rfl rfl)) <| wg rfl rfl (Gd.no rfl rfl rfl) (fun hB => Runs.at_ (i := 18) (gl2 rfl hB) (Runs.at_ (i := 15) (gl rfl hB) (R_pick_and rfl rfl rfl rfl))) <| wv rfl rfl rfl (R_pick_or rfl rfl rfl rfl) <| wv rfl rfl rfl (R_assign rfl rfl) ?_
 refine W_nil <| E_then (C_fr [(2, .bool (((decide (a0.Rows < 1)) || (decide (a0.Cols < 1))) || ((a0.Rows == 1) && (a0.Cols == 1))))] rfl ?_)
 refine C_ret <| E_ret1 rfl rfl ?_
 exact ⟨Lret1 (Lbool (show (((decide (a0.Rows < 1)) || (decide (a0.Cols < 1))) || ((a0.Rows == 1) && (a0.Cols == 1))) = (tinyS a0) by (unfold tinyS; rw [Bool.eq_iff_iff]; simp_all; done))), hS.fin [] (by decide) rfl⟩
theorem order2_fv  (zc : Z) : FV Tryz.prog zc 84 [] (fun z_ (x_ : TRect) vs_ => vs_ = [.agg #[.int .i64 x_.Row, .int .i64 x_.Col, .int .i64 x_.Rows, .int .i64 x_.Cols]]) (fun (_ _ : Unit) => allR []) (fun _ x_ => True) (fun _ _ => ()) (fun _ x_ => .bool ((fun (x_ : TRect) => tinyS x_) x_)) := ⟨ent84, by
  rintro _ _ x vs w z hz hI hok rfl
  refine (order2_calls x  z w hI.unb   ).mono ?_
  rintro e w' ⟨rfl, hS⟩
  exact ⟨rfl, (), hS.bun1⟩⟩
theorem order_calls (a0 : TSheet) (Aa0_Widths : Option Addr) (ca0_Widths : Nat) (Aa0_Heights : Option Addr) (ca0_Heights : Nat) (Aa0_Cells : Option Addr) (ca0_Cells : Nat) (Aa0_Merges : Option Addr) (ca0_Merges : Nat) (z : Z) (w : World) (hI : In z w []) (hra0_Widths : Rd (kint .i64) z Aa0_Widths a0.Widths) (hca0_Widths : Cap Aa0_Widths a0.Widths.length ca0_Widths) (hra0_Heights : Rd (kint .i64) z Aa0_Heights a0.Heights) (hca0_Heights : Cap Aa0_Heights a0.Heights.length ca0_Heights) (hra0_Cells : Rd kdTCell z Aa0_Cells a0.Cells) (hca0_Cells : Cap Aa0_Cells a0.Cells.length ca0_Cells) (hra0_Merges : Rd kdTRect z Aa0_Merges a0.Merges) (hca0_Merges : Cap Aa0_Merges a0.Merges.length ca0_Merges)  :
    Calls Tryz.prog 40 #[.agg #[.int .i64 a0.Right, .slice Aa0_Widths a0.Widths.length ca0_Widths, .slice Aa0_Heights a0.Heights.length ca0_Heights, .slice Aa0_Cells a0.Cells.length ca0_Cells, .slice Aa0_Merges a0.Merges.length ca0_Merges]] w fun e w' => e = .returned (.bool (orderS a0)) ∧ Sp (FF []) w z w' [] := by
 have hla0_Widths := hca0_Widths.le
 have hma0_Widths := hca0_Widths.mx
 have hla0_Heights := hca0_Heights.le
 have hma0_Heights := hca0_Heights.mx
 have hla0_Cells := hca0_Cells.le
 have hma0_Cells := hca0_Cells.mx
 have hla0_Merges := hca0_Merges.le
 have hma0_Merges := hca0_Merges.mx
 have hS := hI.sp
 refine Calls_of (vs := [.agg #[.int .i64 a0.Right, .slice Aa0_Widths a0.Widths.length ca0_Widths, .slice Aa0_Heights a0.Heights.length ca0_Heights, .slice Aa0_Cells a0.Cells.length ca0_Cells, .slice Aa0_Merges a0.Merges.length ca0_Merges]]) (N := 49) Tryz.func40 rfl rfl (Nat.le_of_ble_eq_true rfl) ?_
 refine C_seq <| C_region <| W_cons rfl (by decide) (S_box hS rfl (R_box (cs := [.int .i64 a0.Right, .slice Aa0_Widths a0.Widths.length ca0_Widths, .slice Aa0_Heights a0.Heights.length ca0_Heights, .slice Aa0_Cells a0.Cells.length ca0_Cells, .slice Aa0_Merges a0.Merges.length ca0_Merges]) rfl rfl rfl) (fun b2 w1 hS => ?_))
 refine wv rfl rfl rfl (R_assign rfl rfl) ?_
 refine W_nil <| E_then <| C_seq <| C_seq <| C_region <| wv rfl rfl rfl (R_fld rfl rfl fld30_0) <| wv rfl rfl rfl (R_load1 rfl rfl agg3 ((hS.bx 0 rfl).cell rfl)) <| wv rfl rfl rfl (R_bin rfl rfl rfl rfl rfl) <| wv rfl rfl rfl (R_move rfl rfl) ?_
 refine W_split (t := 8) rfl (fun hg3 => ?_) (fun hg3 => ?_)
 ·have hg3p : a0.Right < 0 := by simpa using hg3
  refine W_cons rfl (by decide) (Sv_off rfl rfl rfl (by rw [hg3] <;> rfl) ?_)
  refine W_cons rfl (by decide) (Sv_off rfl rfl rfl (by rw [hg3] <;> rfl) ?_)
  refine W_cons rfl (by decide) (Sv_off rfl rfl rfl (by rw [hg3] <;> rfl) ?_)
  refine wv rfl rfl rfl (R_pick_t rfl rfl hg3 rfl) <| wv rfl rfl rfl (R_move rfl rfl) ?_
  refine W_cons rfl (by decide) (Sv_off rfl rfl rfl rfl ?_)
  refine W_cons rfl (by decide) (Sv_off rfl rfl rfl rfl ?_)
  refine W_cons rfl (by decide) (Sv_off rfl rfl rfl rfl ?_)
  refine W_cons rfl (by decide) (Sv_off rfl rfl rfl rfl ?_)
  refine wv rfl rfl rfl (R_pick_t rfl rfl rfl rfl) <| wv rfl rfl rfl (R_move rfl rfl) ?_
  refine W_cons rfl (by decide) (Sv_off rfl rfl rfl rfl ?_)
  refine W_cons rfl (by decide) (Sv_off rfl rfl rfl rfl ?_)
  refine W_cons rfl (by decide) (Sv_off rfl rfl rfl rfl ?_)
  refine W_cons rfl (by decide) (Sv_off rfl rfl rfl rfl ?_)
  refine wv rfl rfl rfl (R_pick_t rfl rfl rfl rfl) <| wv rfl rfl rfl (R_move rfl rfl) ?_
  refine W_cons rfl (by decide) (Sv_off rfl rfl rfl rfl ?_)
  refine W_cons rfl (by decide) (Sv_off rfl rfl rfl rfl ?_)
  refine W_cons rfl (by decide) (Sv_off rfl rfl rfl rfl ?_)
  refine W_cons rfl (by decide) (Sv_off rfl rfl rfl rfl ?_)
  refine wv rfl rfl rfl (R_pick_t rfl rfl rfl rfl) <| wv rfl rfl rfl (R_move rfl rfl) ?_
  refine W_cons rfl (by decide) (Sv_off rfl rfl rfl rfl ?_)
  refine W_cons rfl (by decide) (Sv_off rfl rfl rfl rfl ?_)
  refine W_cons rfl (by decide) (Sv_off rfl rfl rfl rfl ?_)
  refine W_cons rfl (by decide) (Sv_off rfl rfl rfl rfl ?_)
  refine wv rfl rfl rfl (R_pick_t rfl rfl rfl rfl) ?_
  refine W_nil <| E_then (C_fr [(1, .pointer (some ⟨b2, 0, none⟩)), (36, .bool true)] rfl ?_)
  refine C_if rfl rfl ?_
  refine C_seq <| C_region <| wv rfl rfl rfl (R_assign rfl rfl) ?_
  refine W_nil <| E_then <| C_ret <| E_then_ret <| E_ret1 rfl rfl ?_
  exact ⟨Lret1 (Lbool (show false = (orderS a0) by (unfold orderS; simp_all; done))), hS.fin [] (by decide) rfl⟩
 ·have hg3p : ¬ (a0.Right < 0) := by simpa using hg3
  refine W_cons rfl (by decide) (Sv_gt rfl rfl rfl hg3 (Sv_val rfl (R_fld rfl rfl fld30_0) ?_))
  refine W_cons rfl (by decide) (Sv_gt rfl rfl rfl hg3 (Sv_val rfl (R_load1 rfl rfl agg3 ((hS.bx 0 rfl).cell rfl)) ?_))
  refine W_cons rfl (by decide) (Sv_gt rfl rfl rfl hg3 (Sv_val rfl (R_bin rfl rfl rfl rfl rfl) ?_))
  refine wv rfl rfl rfl (R_pick_f rfl rfl hg3 rfl) <| wv rfl rfl rfl (R_move rfl rfl) ?_
  refine W_split (t := 13) rfl (fun hg4 => ?_) (fun hg4 => ?_)
  ·have hg4p : a0.Right > 1 := by simpa using hg4
   refine W_cons rfl (by decide) (Sv_off rfl rfl rfl (by rw [hg4] <;> rfl) ?_)
   refine W_cons rfl (by decide) (Sv_off rfl rfl rfl (by rw [hg4] <;> rfl) ?_)
   refine W_cons rfl (by decide) (Sv_off rfl rfl rfl (by rw [hg4] <;> rfl) ?_)
   refine W_cons rfl (by decide) (Sv_off rfl rfl rfl (by rw [hg4] <;> rfl) ?_)
   refine wv rfl rfl rfl (R_pick_t rfl rfl hg4 rfl) <| wv rfl rfl rfl (R_move rfl rfl) ?_
   refine W_cons rfl (by decide) (Sv_off rfl rfl rfl rfl ?_)
   refine W_cons rfl (by decide) (Sv_off rfl rfl rfl rfl ?_)
   refine W_cons rfl (by decide) (Sv_off rfl rfl rfl rfl ?_)
   refine W_cons rfl (by decide) (Sv_off rfl rfl rfl rfl ?_)
   refine wv rfl rfl rfl (R_pick_t rfl rfl rfl rfl) <| wv rfl rfl rfl (R_move rfl rfl) ?_
   refine W_cons rfl (by decide) (Sv_off rfl rfl rfl rfl ?_)
   refine W_cons rfl (by decide) (Sv_off rfl rfl rfl rfl ?_)
   refine W_cons rfl (by decide) (Sv_off rfl rfl rfl rfl ?_)
   refine W_cons rfl (by decide) (Sv_off rfl rfl rfl rfl ?_)
   refine wv rfl rfl rfl (R_pick_t rfl rfl rfl rfl) <| wv rfl rfl rfl (R_move rfl rfl) ?_
   refine W_cons rfl (by decide) (Sv_off rfl rfl rfl rfl ?_)
   refine W_cons rfl (by decide) (Sv_off rfl rfl rfl rfl ?_)
   refine W_cons rfl (by decide) (Sv_off rfl rfl rfl rfl ?_)
   refine W_cons rfl (by decide) (Sv_off rfl rfl rfl rfl ?_)
   refine wv rfl rfl rfl (R_pick_t rfl rfl rfl rfl) ?_
   refine W_nil <| E_then (C_fr [(1, .pointer (some ⟨b2, 0, none⟩)), (36, .bool true)] rfl ?_)
   refine C_if rfl rfl ?_
   refine C_seq <| C_region <| wv rfl rfl rfl (R_assign rfl rfl) ?_
   refine W_nil <| E_then <| C_ret <| E_then_ret <| E_ret1 rfl rfl ?_
   exact ⟨Lret1 (Lbool (show false = (orderS a0) by (unfold orderS; simp_all; done))), hS.fin [] (by decide) rfl⟩
  ·have hg4p : ¬ (a0.Right > 1) := by simpa using hg4
   refine W_cons rfl (by decide) (Sv_gt rfl rfl rfl hg4 (Sv_val rfl (R_fld rfl rfl fld30_1) ?_))
   refine W_cons rfl (by decide) (Sv_gt rfl rfl rfl hg4 (Sv_val rfl (R_load1 rfl rfl agg26 ((hS.bx 0 rfl).cell rfl)) ?_))
   refine W_cons rfl (by decide) (Sv_gt rfl rfl rfl hg4 (Sv_call rfl rfl rfl ent79 ?_))
   refine (sizes_calls a0.Widths Aa0_Widths ca0_Widths _ _ hS.out0 (hra0_Widths.mono (hS.zl [])) hca0_Widths ).mono ?_
   rintro e_ w5 ⟨rfl, hS_⟩
   refine ⟨_, rfl, ?_⟩
   have hS := hS.call0 hS_
   refine W_cons rfl (by decide) (Sv_gt rfl rfl rfl hg4 (Sv_val rfl (R_un rfl rfl rfl) ?_))
   refine wv rfl rfl rfl (R_pick_f rfl rfl hg4 rfl) <| wv rfl rfl rfl (R_move rfl rfl) ?_
   refine W_split (t := 19) rfl (fun hg7 => ?_) (fun hg7 => ?_)
   ·have hg7p : ¬ (sizesS a0.Widths = true) := by simpa using hg7
    refine W_cons rfl (by decide) (Sv_off rfl rfl rfl (by rw [hg7] <;> rfl) ?_)
    refine W_cons rfl (by decide) (Sv_off rfl rfl rfl (by rw [hg7] <;> rfl) ?_)
    refine W_cons rfl (by decide) (Sv_off rfl rfl rfl (by rw [hg7] <;> rfl) ?_)
    refine W_cons rfl (by decide) (Sv_off rfl rfl rfl (by rw [hg7] <;> rfl) ?_)
    refine wv rfl rfl rfl (R_pick_t rfl rfl hg7 rfl) <| wv rfl rfl rfl (R_move rfl rfl) ?_
    refine W_cons rfl (by decide) (Sv_off rfl rfl rfl rfl ?_)
    refine W_cons rfl (by decide) (Sv_off rfl rfl rfl rfl ?_)
    refine W_cons rfl (by decide) (Sv_off rfl rfl rfl rfl ?_)
    refine W_cons rfl (by decide) (Sv_off rfl rfl rfl rfl ?_)
    refine wv rfl rfl rfl (R_pick_t rfl rfl rfl rfl) <| wv rfl rfl rfl (R_move rfl rfl) ?_
    refine W_cons rfl (by decide) (Sv_off rfl rfl rfl rfl ?_)
    refine W_cons rfl (by decide) (Sv_off rfl rfl rfl rfl ?_)
    refine W_cons rfl (by decide) (Sv_off rfl rfl rfl rfl ?_)
    refine W_cons rfl (by decide) (Sv_off rfl rfl rfl rfl ?_)
    refine wv rfl rfl rfl (R_pick_t rfl rfl rfl rfl) ?_
    refine W_nil <| E_then (C_fr [(1, .pointer (some ⟨b2, 0, none⟩)), (36, .bool true)] rfl ?_)
    refine C_if rfl rfl ?_
    refine C_seq <| C_region <| wv rfl rfl rfl (R_assign rfl rfl) ?_
    refine W_nil <| E_then <| C_ret <| E_then_ret <| E_ret1 rfl rfl ?_
    exact ⟨Lret1 (Lbool (show false = (orderS a0) by (unfold orderS; simp_all; done))), hS.fin [] (by decide) rfl⟩
   ·have hg7p : (sizesS a0.Widths = true) := by simpa using hg7
    refine W_cons rfl (by decide) (Sv_gt rfl rfl rfl hg7 (Sv_val rfl (R_fld rfl rfl fld30_2) ?_))
    refine W_cons rfl (by decide) (Sv_gt rfl rfl rfl hg7 (Sv_val rfl (R_load1 rfl rfl agg26 ((hS.bx 0 rfl).cell rfl)) ?_))
    refine W_cons rfl (by decide) (Sv_gt rfl rfl rfl hg7 (Sv_call rfl rfl rfl ent79 ?_))
    refine (sizes_calls a0.Heights Aa0_Heights ca0_Heights _ _ hS.out0 (hra0_Heights.mono (hS.zl [])) hca0_Heights ).mono ?_
    rintro e_ w8 ⟨rfl, hS_⟩
    refine ⟨_, rfl, ?_⟩
    have hS := hS.call0 hS_
    refine W_cons rfl (by decide) (Sv_gt rfl rfl rfl hg7 (Sv_val rfl (R_un rfl rfl rfl) ?_))
    refine wv rfl rfl rfl (R_pick_f rfl rfl hg7 rfl) <| wv rfl rfl rfl (R_move rfl rfl) ?_
    refine W_split (t := 25) rfl (fun hg10 => ?_) (fun hg10 => ?_)
    ·have hg10p : ¬ (sizesS a0.Heights = true) := by simpa using hg10
     refine W_cons rfl (by decide) (Sv_off rfl rfl rfl (by rw [hg10] <;> rfl) ?_)
     refine W_cons rfl (by decide) (Sv_off rfl rfl rfl (by rw [hg10] <;> rfl) ?_)
     refine W_cons rfl (by decide) (Sv_off rfl rfl rfl (by rw [hg10] <;> rfl) ?_)
     refine W_cons rfl (by decide) (Sv_off rfl rfl rfl (by rw [hg10] <;> rfl) ?_)
     refine wv rfl rfl rfl (R_pick_t rfl rfl hg10 rfl) <| wv rfl rfl rfl (R_move rfl rfl) ?_
     refine W_cons rfl (by decide) (Sv_off rfl rfl rfl rfl ?_)
     refine W_cons rfl (by decide) (Sv_off rfl rfl rfl rfl ?_)
     refine W_cons rfl (by decide) (Sv_off rfl rfl rfl rfl ?_)
     refine W_cons rfl (by decide) (Sv_off rfl rfl rfl rfl ?_)
     refine wv rfl rfl rfl (R_pick_t rfl rfl rfl rfl) ?_
     refine W_nil <| E_then (C_fr [(1, .pointer (some ⟨b2, 0, none⟩)), (36, .bool true)] rfl ?_)
     refine C_if rfl rfl ?_
     refine C_seq <| C_region <| wv rfl rfl rfl (R_assign rfl rfl) ?_
     refine W_nil <| E_then <| C_ret <| E_then_ret <| E_ret1 rfl rfl ?_
     exact ⟨Lret1 (Lbool (show false = (orderS a0) by (unfold orderS; simp_all; done))), hS.fin [] (by decide) rfl⟩
    ·have hg10p : (sizesS a0.Heights = true) := by simpa using hg10
     refine W_cons rfl (by decide) (Sv_gt rfl rfl rfl hg10 (Sv_val rfl (R_fld rfl rfl fld30_3) ?_))
     refine W_cons rfl (by decide) (Sv_gt rfl rfl rfl hg10 (Sv_val rfl (R_load1 rfl rfl agg27 ((hS.bx 0 rfl).cell rfl)) ?_))
     refine W_cons rfl (by decide) (Sv_gt rfl rfl rfl hg10 (Sv_call rfl rfl rfl ent80 ?_))
     refine (risec_calls a0.Cells Aa0_Cells ca0_Cells _ _ hS.out0 (hra0_Cells.mono (hS.zl [])) hca0_Cells ).mono ?_
     rintro e_ w11 ⟨rfl, hS_⟩
     refine ⟨_, rfl, ?_⟩
     have hS := hS.call0 hS_
     refine W_cons rfl (by decide) (Sv_gt rfl rfl rfl hg10 (Sv_val rfl (R_un rfl rfl rfl) ?_))
     refine wv rfl rfl rfl (R_pick_f rfl rfl hg10 rfl) <| wv rfl rfl rfl (R_move rfl rfl) ?_
     refine W_split (t := 31) rfl (fun hg13 => ?_) (fun hg13 => ?_)
     ·have hg13p : ¬ (riseS spotS default a0.Cells = true) := by simpa using hg13
      refine W_cons rfl (by decide) (Sv_off rfl rfl rfl (by rw [hg13] <;> rfl) ?_)
      refine W_cons rfl (by decide) (Sv_off rfl rfl rfl (by rw [hg13] <;> rfl) ?_)
      refine W_cons rfl (by decide) (Sv_off rfl rfl rfl (by rw [hg13] <;> rfl) ?_)
      refine W_cons rfl (by decide) (Sv_off rfl rfl rfl (by rw [hg13] <;> rfl) ?_)
      refine wv rfl rfl rfl (R_pick_t rfl rfl hg13 rfl) ?_
      refine W_nil <| E_then (C_fr [(1, .pointer (some ⟨b2, 0, none⟩)), (36, .bool true)] rfl ?_)
      refine C_if rfl rfl ?_
      refine C_seq <| C_region <| wv rfl rfl rfl (R_assign rfl rfl) ?_
      refine W_nil <| E_then <| C_ret <| E_then_ret <| E_ret1 rfl rfl ?_
      exact ⟨Lret1 (Lbool (show false = (orderS a0) by (unfold orderS; simp_all; done))), hS.fin [] (by decide) rfl⟩
     ·have hg13p : (riseS spotS default a0.Cells = true) := by simpa using hg13
      refine W_cons rfl (by decide) (Sv_gt rfl rfl rfl hg13 (Sv_val rfl (R_fld rfl rfl fld30_4) ?_))
      refine W_cons rfl (by decide) (Sv_gt rfl rfl rfl hg13 (Sv_val rfl (R_load1 rfl rfl agg28 ((hS.bx 0 rfl).cell rfl)) ?_))
      refine W_cons rfl (by decide) (Sv_gt rfl rfl rfl hg13 (Sv_call rfl rfl rfl ent81 ?_))
      refine (riser_calls a0.Merges Aa0_Merges ca0_Merges _ _ hS.out0 (hra0_Merges.mono (hS.zl [])) hca0_Merges ).mono ?_
      rintro e_ w14 ⟨rfl, hS_⟩
      refine ⟨_, rfl, ?_⟩
      have hS := hS.call0 hS_
      refine W_cons rfl (by decide) (Sv_gt rfl rfl rfl hg13 (Sv_val rfl (R_un rfl rfl rfl) ?_))
      refine wv rfl rfl rfl (R_pick_f rfl rfl hg13 rfl) ?_
      refine W_nil <| E_then (C_fr [(1, .pointer (some ⟨b2, 0, none⟩)), (36, .bool (!(riseS cornerS default a0.Merges)))] rfl ?_)
      refine C_ite rfl (fun hC0 => ?_) (fun hC0 => ?_)
      ·have hC0p : ¬ (riseS cornerS default a0.Merges = true) := by simpa using hC0
       refine C_seq <| C_region <| wv rfl rfl rfl (R_assign rfl rfl) ?_
       refine W_nil <| E_then <| C_ret <| E_then_ret <| E_ret1 rfl rfl ?_
       exact ⟨Lret1 (Lbool (show false = (orderS a0) by (unfold orderS; simp_all; done))), hS.fin [] (by decide) rfl⟩
      ·have hC0p : (riseS cornerS default a0.Merges = true) := by simpa using hC0
       refine C_skip <| E_then <| C_seq <| C_region <| wv rfl rfl rfl (R_fld rfl rfl fld30_3) <| wv rfl rfl rfl (R_load1 rfl rfl agg27 ((hS.bx 0 rfl).cell rfl)) ?_
       have hS := hS.bun [] (by decide)
       refine W_cons rfl (by decide) (Sv_call rfl rfl rfl ent41 ?_)
       refine (cfc_has_calls a0.Cells Aa0_Cells ca0_Cells 82 [] (allR []) zE (fun (x_ : TCell) => emptyS x_) _ _ (hS.out [0] (by decide)) (hra0_Cells.mono (hS.zl [0])) hca0_Cells (order1_fv  _ ) (zle_E _) ).mono ?_
       rintro e_ w16 ⟨rfl, hS_⟩
       refine ⟨_, rfl, ?_⟩
       have hS := hS.call [0] (by decide) hS_
       have hS := hS.unb
       refine wv rfl rfl rfl (R_assign rfl rfl) ?_
       refine W_nil <| E_then <| C_seq <| C_region <| wv rfl rfl rfl (R_fld rfl rfl fld30_4) <| wv rfl rfl rfl (R_load1 rfl rfl agg28 ((hS.bx 0 rfl).cell rfl)) ?_
       have hS := hS.bun [] (by decide)
       refine W_cons rfl (by decide) (Sv_call rfl rfl rfl ent45 ?_)
       refine (cfq_has_calls a0.Merges Aa0_Merges ca0_Merges 84 [] (allR []) zE (fun (x_ : TRect) => tinyS x_) _ _ (hS.out [0] (by decide)) (hra0_Merges.mono (hS.zl [0])) hca0_Merges (order2_fv  _ ) (zle_E _) ).mono ?_
       rintro e_ w19 ⟨rfl, hS_⟩
       refine ⟨_, rfl, ?_⟩
       have hS := hS.call [0] (by decide) hS_
       have hS := hS.unb
       refine wv rfl rfl rfl (R_assign rfl rfl) ?_
       refine W_nil <| E_then (C_fr [(3, .bool (hasF (fun (x_ : TCell) => emptyS x_) a0.Cells)), (4, .bool (hasF (fun (x_ : TRect) => tinyS x_) a0.Merges))] rfl ?_)
       refine C_seq <| C_region <| wv rfl rfl rfl (R_move rfl rfl) <| wv rfl rfl rfl (R_un rfl rfl rfl) <| wv rfl rfl rfl (R_move rfl rfl) <| wg rfl rfl (Gd.on rfl rfl rfl) (fun hB => R_move rfl rfl) <| wg rfl rfl (Gd.on rfl rfl rfl) (fun hB => Runs.at_ (i := 46) (gl rfl hB) (R_un rfl rfl rfl)) <| wv rfl rfl rfl (R_pick_and rfl rfl rfl rfl) <| wv rfl rfl rfl (R_assign rfl rfl) ?_
       refine W_nil <| E_then (C_fr [(2, .bool ((!(hasF (fun (x_ : TCell) => emptyS x_) a0.Cells)) && (!(hasF (fun (x_ : TRect) => tinyS x_) a0.Merges))))] rfl ?_)
       refine C_ret <| E_ret1 rfl rfl ?_
       exact ⟨Lret1 (Lbool (show ((!(hasF (fun (x_ : TCell) => emptyS x_) a0.Cells)) && (!(hasF (fun (x_ : TRect) => tinyS x_) a0.Merges))) = (orderS a0) by (unfold orderS; simp_all; done))), hS.fin [] (by decide) rfl⟩
theorem around1_calls (a0 : TRect) (ba1 : Nat) (a1 : Int) (ba2 : Nat) (a2 : Int) (z : Z) (w : World) (hI : In z w [bR ba1 3 [.int .i64 a1], bR ba2 3 [.int .i64 a2]])   :
    Calls Tryz.prog 88 #[.agg #[.int .i64 a0.Row, .int .i64 a0.Col, .int .i64 a0.Rows, .int .i64 a0.Cols], .pointer (some ⟨ba1, 0, none⟩), .pointer (some ⟨ba2, 0, none⟩)] w fun e w' => e = .returned (.bool (meetS a0 (oneS a1 a2))) ∧ Sp (FF [bR ba1 3 [.int .i64 a1], bR ba2 3 [.int .i64 a2]]) w z w' [bR ba1 3 [.int .i64 a1], bR ba2 3 [.int .i64 a2]] := by
 have hS := hI.sp
 refine Calls_of (vs := [.agg #[.int .i64 a0.Row, .int .i64 a0.Col, .int .i64 a0.Rows, .int .i64 a0.Cols], .pointer (some ⟨ba1, 0, none⟩), .pointer (some ⟨ba2, 0, none⟩)]) (N := 10) Tryz.func88 rfl rfl (Nat.le_of_ble_eq_true rfl) ?_
 refine C_seq <| C_region <| W_cons rfl (by decide) (S_box hS rfl (R_box (cs := [.int .i64 a0.Row, .int .i64 a0.Col, .int .i64 a0.Rows, .int .i64 a0.Cols]) rfl rfl rfl) (fun b2 w1 hS => ?_))
 refine wv rfl rfl rfl (R_assign rfl rfl) ?_
 refine W_nil <| E_then <| C_seq <| C_fr [(1, .pointer (some ⟨ba1, 0, none⟩)), (2, .pointer (some ⟨ba2, 0, none⟩)), (3, .pointer (some ⟨b2, 0, none⟩))] rfl ?_
 refine C_drawn2 6 [[], [], [], [1, 2], [0, 3, 3], [4, 4, 0, 1, 2, 3, 4]] [some 5, some 6, some 7, some 8, some 9, some 4] [1, 2, 3] (List.replicate 6 6) (List.replicate 6 []) (List.replicate 6 []) [fun γ_ => .agg #[.int .i64 a0.Row, .int .i64 a0.Col, .int .i64 a0.Rows, .int .i64 a0.Cols], fun γ_ => .int .i64 a1, fun γ_ => .int .i64 a2, fun γ_ => .agg #[.int .i64 (oneS a1 a2).Row, .int .i64 (oneS a1 a2).Col, .int .i64 (oneS a1 a2).Rows, .int .i64 (oneS a1 a2).Cols], fun γ_ => .bool (meetS a0 (oneS a1 a2)), fun γ_ => .bool (meetS a0 (oneS a1 a2))] (List.replicate 6 (fun _ => [])) rfl (by kernel_rfl) (by decide +kernel) hS ?_ ?_
 ·refine ⟨fun _ _ _ hS => Sv_val rfl (R_loadN (cs := [.int .i64 a0.Row, .int .i64 a0.Col, .int .i64 a0.Rows, .int .i64 a0.Cols]) rfl rfl agg76 size76 rfl (boxcells (hS.bx 0 rfl) 0 rfl)) ⟨gh0, rfl, hS⟩, fun _ _ _ hS => Sv_val rfl (R_load1 rfl rfl agg3 ((hS.bx 1 rfl).cell rfl)) ⟨gh0, rfl, hS⟩, fun _ _ _ hS => Sv_val rfl (R_load1 rfl rfl agg3 ((hS.bx 2 rfl).cell rfl)) ⟨gh0, rfl, hS⟩, fun g_ w13 fr14 hS => ?_, ?_⟩
  ·have _w13 := trivial
   have hS : Sp (FF [bR ba1 3 [.int .i64 a1], bR ba2 3 [.int .i64 a2]]) w z w13 [bR b2 76 [.int .i64 a0.Row, .int .i64 a0.Col, .int .i64 a0.Rows, .int .i64 a0.Cols], bR ba1 3 [.int .i64 a1], bR ba2 3 [.int .i64 a2], allR fr14] := hS
   refine Sv_call rfl rfl rfl ent44 ?_
   refine (one_calls a1 a2 _ _ hS.out0  ).mono ?_
   rintro e_ w15 ⟨rfl, hS_⟩
   refine ⟨_, rfl, ?_⟩
   have hS := hS.call0 hS_
   exact ⟨⟨fun _ => none, fun _ => 0, fun _ => zE, fun _ => 0⟩, rfl, hS.fin [0, 1, 2, 3] (by decide) rfl⟩
  refine ⟨fun g_ w17 fr18 hS => ?_, ?_⟩
  ·have _w17 := trivial
   have hS : Sp (FF [bR ba1 3 [.int .i64 a1], bR ba2 3 [.int .i64 a2]]) w z w17 [bR b2 76 [.int .i64 a0.Row, .int .i64 a0.Col, .int .i64 a0.Rows, .int .i64 a0.Cols], bR ba1 3 [.int .i64 a1], bR ba2 3 [.int .i64 a2], allR fr18] := hS
   refine Sv_call rfl rfl rfl ent48 ?_
   refine (meet_calls a0 (oneS a1 a2) _ _ hS.out0  ).mono ?_
   rintro e_ w19 ⟨rfl, hS_⟩
   refine ⟨_, rfl, ?_⟩
   have hS := hS.call0 hS_
   exact ⟨⟨fun _ => none, fun _ => 0, fun _ => zE, fun _ => 0⟩, rfl, hS.fin [0, 1, 2, 3] (by decide) rfl⟩
  refine ⟨fun _ _ _ hS => Sv_val rfl (R_assign rfl rfl) ⟨gh0, rfl, hS⟩, ?_⟩
  exact trivial
 ·intro g_ w23 hS
  have hS : Sp (FF [bR ba1 3 [.int .i64 a1], bR ba2 3 [.int .i64 a2]]) w z w23 [bR b2 76 [.int .i64 a0.Row, .int .i64 a0.Col, .int .i64 a0.Rows, .int .i64 a0.Cols], bR ba1 3 [.int .i64 a1], bR ba2 3 [.int .i64 a2]] := hS
  refine An_fr [(1, .pointer (some ⟨ba1, 0, none⟩)), (2, .pointer (some ⟨ba2, 0, none⟩)), (3, .pointer (some ⟨b2, 0, none⟩)), (4, .bool (meetS a0 (oneS a1 a2)))] rfl ?_
  refine An_done (by decide +kernel) <| E_then <| C_ret <| E_ret1 rfl rfl ?_
  exact ⟨Lret1 (Lbool (show (meetS a0 (oneS a1 a2)) = (meetS a0 (oneS a1 a2)) by rfl)), hS.fin [1, 2] (by decide) rfl⟩
theorem around1_fv (ba1 : Nat) (a1 : Int) (ba2 : Nat) (a2 : Int) (zc : Z) : FV Tryz.prog zc 88 [.pointer (some ⟨ba1, 0, none⟩), .pointer (some ⟨ba2, 0, none⟩)] (fun z_ (x_ : TRect) vs_ => vs_ = [.agg #[.int .i64 x_.Row, .int .i64 x_.Col, .int .i64 x_.Rows, .int .i64 x_.Cols]]) (fun (_ _ : Unit) => allR [bR ba1 3 [.int .i64 a1], bR ba2 3 [.int .i64 a2]]) (fun _ x_ => True) (fun _ _ => ()) (fun _ x_ => .bool ((fun (x_ : TRect) => meetS x_ (oneS a1 a2)) x_)) := ⟨ent88, by
  rintro _ _ x vs w z hz hI hok rfl
  refine (around1_calls x ba1 a1 ba2 a2 z w hI.unb   ).mono ?_
  rintro e w' ⟨rfl, hS⟩
  exact ⟨rfl, (), hS.bun1⟩⟩
theorem around_calls (a0 : TSheet) (Aa0_Widths : Option Addr) (ca0_Widths : Nat) (Aa0_Heights : Option Addr) (ca0_Heights : Nat) (Aa0_Cells : Option Addr) (ca0_Cells : Nat) (Aa0_Merges : Option Addr) (ca0_Merges : Nat) (a1 : Int) (a2 : Int) (z : Z) (w : World) (hI : In z w []) (hra0_Widths : Rd (kint .i64) z Aa0_Widths a0.Widths) (hca0_Widths : Cap Aa0_Widths a0.Widths.length ca0_Widths) (hra0_Heights : Rd (kint .i64) z Aa0_Heights a0.Heights) (hca0_Heights : Cap Aa0_Heights a0.Heights.length ca0_Heights) (hra0_Cells : Rd kdTCell z Aa0_Cells a0.Cells) (hca0_Cells : Cap Aa0_Cells a0.Cells.length ca0_Cells) (hra0_Merges : Rd kdTRect z Aa0_Merges a0.Merges) (hca0_Merges : Cap Aa0_Merges a0.Merges.length ca0_Merges)  :
    Calls Tryz.prog 51 #[.agg #[.int .i64 a0.Right, .slice Aa0_Widths a0.Widths.length ca0_Widths, .slice Aa0_Heights a0.Heights.length ca0_Heights, .slice Aa0_Cells a0.Cells.length ca0_Cells, .slice Aa0_Merges a0.Merges.length ca0_Merges], .int .i64 a1, .int .i64 a2] w fun e w' => e = .returned (.agg #[.int .i64 (aroundS a0 a1 a2).Row, .int .i64 (aroundS a0 a1 a2).Col, .int .i64 (aroundS a0 a1 a2).Rows, .int .i64 (aroundS a0 a1 a2).Cols]) ∧ Sp (FF []) w z w' [] := by
 have hla0_Widths := hca0_Widths.le
 have hma0_Widths := hca0_Widths.mx
 have hla0_Heights := hca0_Heights.le
 have hma0_Heights := hca0_Heights.mx
 have hla0_Cells := hca0_Cells.le
 have hma0_Cells := hca0_Cells.mx
 have hla0_Merges := hca0_Merges.le
 have hma0_Merges := hca0_Merges.mx
 have hS := hI.sp
 refine Calls_of (vs := [.agg #[.int .i64 a0.Right, .slice Aa0_Widths a0.Widths.length ca0_Widths, .slice Aa0_Heights a0.Heights.length ca0_Heights, .slice Aa0_Cells a0.Cells.length ca0_Cells, .slice Aa0_Merges a0.Merges.length ca0_Merges], .int .i64 a1, .int .i64 a2]) (N := 22) Tryz.func51 rfl rfl (Nat.le_of_ble_eq_true rfl) ?_
 refine C_seq <| C_region <| W_cons rfl (by decide) (S_box hS rfl (R_box (cs := [.int .i64 a0.Right, .slice Aa0_Widths a0.Widths.length ca0_Widths, .slice Aa0_Heights a0.Heights.length ca0_Heights, .slice Aa0_Cells a0.Cells.length ca0_Cells, .slice Aa0_Merges a0.Merges.length ca0_Merges]) rfl rfl rfl) (fun b2 w1 hS => ?_))
 refine W_cons rfl (by decide) (S_box hS rfl (R_box (cs := [.int .i64 a1]) rfl rfl rfl) (fun b4 w3 hS => ?_))
 refine W_cons rfl (by decide) (S_box hS rfl (R_box (cs := [.int .i64 a2]) rfl rfl rfl) (fun b6 w5 hS => ?_))
 refine W_cons rfl (by decide) (S_box hS rfl (R_alloc rfl alloc76) (fun b8 w7 hS => ?_))
 refine W_nil <| E_then <| C_seq <| C_region <| wv rfl rfl rfl (R_fld rfl rfl fld30_4) <| wv rfl rfl rfl (R_load1 rfl rfl agg28 ((hS.bx 3 rfl).cell rfl)) <| wv rfl rfl rfl (R_makeFunc rfl rfl) ?_
 have hS := hS.bun [2, 1] (by decide)
 refine W_cons rfl (by decide) (Sv_call rfl rfl rfl ent86 ?_)
 refine (cfq_idx_calls a0.Merges Aa0_Merges ca0_Merges 88 [.pointer (some ⟨b4, 0, none⟩), .pointer (some ⟨b6, 0, none⟩)] (allR [bR b4 3 [.int .i64 a1], bR b6 3 [.int .i64 a2]]) zE (fun (x_ : TRect) => meetS x_ (oneS a1 a2)) _ _ (hS.out [0] (by decide)) (hra0_Merges.mono (hS.zl [0])) hca0_Merges (around1_fv b4 a1 b6 a2 _ ) (zle_E _) ).mono ?_
 rintro e_ w9 ⟨rfl, hS_⟩
 refine ⟨_, rfl, ?_⟩
 have hS := hS.call [0] (by decide) hS_
 have hS := hS.unb
 refine wv rfl rfl rfl (R_assign rfl rfl) ?_
 refine W_nil <| E_then (C_fr [(3, .pointer (some ⟨b2, 0, none⟩)), (4, .pointer (some ⟨b4, 0, none⟩)), (5, .pointer (some ⟨b6, 0, none⟩)), (6, .pointer (some ⟨b8, 0, none⟩)), (7, .int .i64 (idxF (fun (x_ : TRect) => meetS x_ (oneS a1 a2)) a0.Merges 0))] rfl ?_)
 refine C_seq <| C_seq <| C_region <| wv rfl rfl rfl (R_move rfl rfl) <| wv rfl rfl rfl (R_bin rfl rfl rfl rfl rfl) ?_
 refine W_nil <| E_then <| C_ite rfl (fun hC0 => ?_) (fun hC0 => ?_)
 ·have hC0p : (idxF (fun (x_ : TRect) => meetS x_ (oneS a1 a2)) a0.Merges 0) < 0 := by simpa using hC0
  refine C_seq <| C_region <| wv rfl rfl rfl (R_load1 rfl rfl agg3 ((hS.bx 0 rfl).cell rfl)) <| wv rfl rfl rfl (R_load1 rfl rfl agg3 ((hS.bx 1 rfl).cell rfl)) ?_
  refine W_cons rfl (by decide) (Sv_call rfl rfl rfl ent44 ?_)
  refine (one_calls a1 a2 _ _ hS.out0  ).mono ?_
  rintro e_ w12 ⟨rfl, hS_⟩
  refine ⟨_, rfl, ?_⟩
  have hS := hS.call0 hS_
  refine W_cons0 rfl (S_store hS 2 rfl rfl rfl rfl rfl size76 (one_cons rfl (one_cons rfl (one_cons rfl (one_cons rfl one_nil)))) (Nat.le_of_ble_eq_true rfl) (fun w14 hS => ?_))
  have hS : Sp (FF []) w z w14 [bR b4 3 [.int .i64 a1], bR b6 3 [.int .i64 a2], bR b8 76 [.int .i64 (oneS a1 a2).Row, .int .i64 (oneS a1 a2).Col, .int .i64 (oneS a1 a2).Rows, .int .i64 (oneS a1 a2).Cols], bR b2 30 [.int .i64 a0.Right, .slice Aa0_Widths a0.Widths.length ca0_Widths, .slice Aa0_Heights a0.Heights.length ca0_Heights, .slice Aa0_Cells a0.Cells.length ca0_Cells, .slice Aa0_Merges a0.Merges.length ca0_Merges]] := hS
  refine W_nil <| E_then (C_fr [(6, .pointer (some ⟨b8, 0, none⟩))] rfl ?_)
  refine C_ret <| E_then_ret <| E_rv1 rfl (RV_cellN (cs := [.int .i64 (oneS a1 a2).Row, .int .i64 (oneS a1 a2).Col, .int .i64 (oneS a1 a2).Rows, .int .i64 (oneS a1 a2).Cols]) rfl agg76 size76 rfl (boxcells (hS.bx 2 rfl) 0 rfl)) ?_
  exact ⟨Lret1 (show (.agg #[.int .i64 (oneS a1 a2).Row, .int .i64 (oneS a1 a2).Col, .int .i64 (oneS a1 a2).Rows, .int .i64 (oneS a1 a2).Cols] : Value) = .agg #[.int .i64 (aroundS a0 a1 a2).Row, .int .i64 (aroundS a0 a1 a2).Col, .int .i64 (aroundS a0 a1 a2).Rows, .int .i64 (aroundS a0 a1 a2).Cols] by rw [show aroundS a0 a1 a2 = oneS a1 a2 from if_pos hC0p]), hS.fin [] (by decide) rfl⟩
 ·have hC0p : ¬ ((idxF (fun (x_ : TRect) => meetS x_ (oneS a1 a2)) a0.Merges 0) < 0) := by simpa using hC0
  refine C_skip <| E_then <| C_seq ?_
  have hib := (idxF_bd (fun r => meetS r (oneS a1 a2)) a0.Merges 0).resolve_left (fun h_ => by omega)
  refine C_region <| wv rfl rfl rfl (R_fld rfl rfl fld30_4) <| wv rfl rfl rfl (R_load1 rfl rfl agg28 ((hS.bx 3 rfl).cell rfl)) <| wv rfl rfl rfl (R_move rfl rfl) ?_
  obtain ⟨q15, csq15, hAq15, rfl, hkq15⟩ := hra0_Merges.at_ (default : TRect) (i := (idxF (fun (x_ : TRect) => meetS x_ (oneS a1 a2)) a0.Merges 0)) (by omega) (by omega)
  refine wv rfl rfl rfl (R_idx rfl rfl hAq15 rfl Tryz.underlying28 size76 (by omega) (by omega)) <| wv rfl rfl rfl (R_loadN (cs := [.int .i64 (a0.Merges.getD (idxF (fun (x_ : TRect) => meetS x_ (oneS a1 a2)) a0.Merges 0).toNat (default : TRect)).Row, .int .i64 (a0.Merges.getD (idxF (fun (x_ : TRect) => meetS x_ (oneS a1 a2)) a0.Merges 0).toNat (default : TRect)).Col, .int .i64 (a0.Merges.getD (idxF (fun (x_ : TRect) => meetS x_ (oneS a1 a2)) a0.Merges 0).toNat (default : TRect)).Rows, .int .i64 (a0.Merges.getD (idxF (fun (x_ : TRect) => meetS x_ (oneS a1 a2)) a0.Merges 0).toNat (default : TRect)).Cols]) rfl rfl agg76 size76 rfl (fun j u h => cell_add (hS.sub.cell (hkq15 j u h)))) ?_
  refine W_cons0 rfl (S_store hS 2 rfl rfl rfl rfl rfl size76 (one_cons rfl (one_cons rfl (one_cons rfl (one_cons rfl one_nil)))) (Nat.le_of_ble_eq_true rfl) (fun w16 hS => ?_))
  have hS : Sp (FF []) w z w16 [bR b4 3 [.int .i64 a1], bR b6 3 [.int .i64 a2], bR b8 76 [.int .i64 (a0.Merges.getD (idxF (fun (x_ : TRect) => meetS x_ (oneS a1 a2)) a0.Merges 0).toNat (default : TRect)).Row, .int .i64 (a0.Merges.getD (idxF (fun (x_ : TRect) => meetS x_ (oneS a1 a2)) a0.Merges 0).toNat (default : TRect)).Col, .int .i64 (a0.Merges.getD (idxF (fun (x_ : TRect) => meetS x_ (oneS a1 a2)) a0.Merges 0).toNat (default : TRect)).Rows, .int .i64 (a0.Merges.getD (idxF (fun (x_ : TRect) => meetS x_ (oneS a1 a2)) a0.Merges 0).toNat (default : TRect)).Cols], bR b2 30 [.int .i64 a0.Right, .slice Aa0_Widths a0.Widths.length ca0_Widths, .slice Aa0_Heights a0.Heights.length ca0_Heights, .slice Aa0_Cells a0.Cells.length ca0_Cells, .slice Aa0_Merges a0.Merges.length ca0_Merges]] := hS
  refine W_nil <| E_then (C_fr [(6, .pointer (some ⟨b8, 0, none⟩))] rfl ?_)
  refine C_ret <| E_rv1 rfl (RV_cellN (cs := [.int .i64 (a0.Merges.getD (idxF (fun (x_ : TRect) => meetS x_ (oneS a1 a2)) a0.Merges 0).toNat (default : TRect)).Row, .int .i64 (a0.Merges.getD (idxF (fun (x_ : TRect) => meetS x_ (oneS a1 a2)) a0.Merges 0).toNat (default : TRect)).Col, .int .i64 (a0.Merges.getD (idxF (fun (x_ : TRect) => meetS x_ (oneS a1 a2)) a0.Merges 0).toNat (default : TRect)).Rows, .int .i64 (a0.Merges.getD (idxF (fun (x_ : TRect) => meetS x_ (oneS a1 a2)) a0.Merges 0).toNat (default : TRect)).Cols]) rfl agg76 size76 rfl (boxcells (hS.bx 2 rfl) 0 rfl)) ?_
  exact ⟨Lret1 (show (.agg #[.int .i64 (a0.Merges.getD (idxF (fun (x_ : TRect) => meetS x_ (oneS a1 a2)) a0.Merges 0).toNat (default : TRect)).Row, .int .i64 (a0.Merges.getD (idxF (fun (x_ : TRect) => meetS x_ (oneS a1 a2)) a0.Merges 0).toNat (default : TRect)).Col, .int .i64 (a0.Merges.getD (idxF (fun (x_ : TRect) => meetS x_ (oneS a1 a2)) a0.Merges 0).toNat (default : TRect)).Rows, .int .i64 (a0.Merges.getD (idxF (fun (x_ : TRect) => meetS x_ (oneS a1 a2)) a0.Merges 0).toNat (default : TRect)).Cols] : Value) = .agg #[.int .i64 (aroundS a0 a1 a2).Row, .int .i64 (aroundS a0 a1 a2).Col, .int .i64 (aroundS a0 a1 a2).Rows, .int .i64 (aroundS a0 a1 a2).Cols] by (rw [show aroundS a0 a1 a2 = _ from if_neg hC0p]; rfl)), hS.fin [] (by decide) rfl⟩
theorem check1_calls (a0 : TCell) (ba1 : Nat) (a1 : TSheet) (Aa1_Widths : Option Addr) (ca1_Widths : Nat) (Aa1_Heights : Option Addr) (ca1_Heights : Nat) (Aa1_Cells : Option Addr) (ca1_Cells : Nat) (Aa1_Merges : Option Addr) (ca1_Merges : Nat) (z : Z) (w : World) (hI : In z w [bR ba1 30 [.int .i64 a1.Right, .slice Aa1_Widths a1.Widths.length ca1_Widths, .slice Aa1_Heights a1.Heights.length ca1_Heights, .slice Aa1_Cells a1.Cells.length ca1_Cells, .slice Aa1_Merges a1.Merges.length ca1_Merges]]) (hra1_Widths : Rd (kint .i64) z Aa1_Widths a1.Widths) (hca1_Widths : Cap Aa1_Widths a1.Widths.length ca1_Widths) (hra1_Heights : Rd (kint .i64) z Aa1_Heights a1.Heights) (hca1_Heights : Cap Aa1_Heights a1.Heights.length ca1_Heights) (hra1_Cells : Rd kdTCell z Aa1_Cells a1.Cells) (hca1_Cells : Cap Aa1_Cells a1.Cells.length ca1_Cells) (hra1_Merges : Rd kdTRect z Aa1_Merges a1.Merges) (hca1_Merges : Cap Aa1_Merges a1.Merges.length ca1_Merges)  :
    Calls Tryz.prog 42 #[.agg #[.int .i64 a0.Row, .int .i64 a0.Col, vstr a0.Text, .int .i64 a0.Style.Align, .int .i64 a0.Style.Wrap, .int .i64 a0.Style.Dir], .pointer (some ⟨ba1, 0, none⟩)] w fun e w' => e = .returned (.bool (!hasS a1 (oneS a0.Row a0.Col))) ∧ Sp (FF [bR ba1 30 [.int .i64 a1.Right, .slice Aa1_Widths a1.Widths.length ca1_Widths, .slice Aa1_Heights a1.Heights.length ca1_Heights, .slice Aa1_Cells a1.Cells.length ca1_Cells, .slice Aa1_Merges a1.Merges.length ca1_Merges]]) w z w' [bR ba1 30 [.int .i64 a1.Right, .slice Aa1_Widths a1.Widths.length ca1_Widths, .slice Aa1_Heights a1.Heights.length ca1_Heights, .slice Aa1_Cells a1.Cells.length ca1_Cells, .slice Aa1_Merges a1.Merges.length ca1_Merges]] := by
 have hla1_Widths := hca1_Widths.le
 have hma1_Widths := hca1_Widths.mx
 have hla1_Heights := hca1_Heights.le
 have hma1_Heights := hca1_Heights.mx
 have hla1_Cells := hca1_Cells.le
 have hma1_Cells := hca1_Cells.mx
 have hla1_Merges := hca1_Merges.le
 have hma1_Merges := hca1_Merges.mx
 have hS := hI.sp
 refine Calls_of (vs := [.agg #[.int .i64 a0.Row, .int .i64 a0.Col, vstr a0.Text, .int .i64 a0.Style.Align, .int .i64 a0.Style.Wrap, .int .i64 a0.Style.Dir], .pointer (some ⟨ba1, 0, none⟩)]) (N := 12) Tryz.func42 rfl rfl (Nat.le_of_ble_eq_true rfl) ?_
 refine C_seq <| C_region <| W_cons rfl (by decide) (S_box hS rfl (R_box (cs := [.int .i64 a0.Row, .int .i64 a0.Col, vstr a0.Text, .int .i64 a0.Style.Align, .int .i64 a0.Style.Wrap, .int .i64 a0.Style.Dir]) rfl rfl rfl) (fun b2 w1 hS => ?_))
 refine wv rfl rfl rfl (R_assign rfl rfl) ?_
 refine W_nil <| E_then <| C_seq <| C_fr [(1, .pointer (some ⟨ba1, 0, none⟩)), (2, .pointer (some ⟨b2, 0, none⟩))] rfl ?_
 refine C_drawn2 9 [[], [], [1], [], [3], [2, 4], [0, 5, 5], [6], [7, 6, 0, 1, 2, 3, 4, 5, 6, 7]] [some 4, some 5, some 6, some 7, some 8, some 9, some 10, some 11, some 3] [1, 2] (List.replicate 9 9) (List.replicate 9 []) (List.replicate 9 []) [fun γ_ => .agg #[.int .i64 a1.Right, .slice Aa1_Widths a1.Widths.length ca1_Widths, .slice Aa1_Heights a1.Heights.length ca1_Heights, .slice Aa1_Cells a1.Cells.length ca1_Cells, .slice Aa1_Merges a1.Merges.length ca1_Merges], fun γ_ => .pointer (some ⟨b2, 0, none⟩), fun γ_ => .int .i64 a0.Row, fun γ_ => .pointer (some ⟨b2, 1, none⟩), fun γ_ => .int .i64 a0.Col, fun γ_ => .agg #[.int .i64 (oneS a0.Row a0.Col).Row, .int .i64 (oneS a0.Row a0.Col).Col, .int .i64 (oneS a0.Row a0.Col).Rows, .int .i64 (oneS a0.Row a0.Col).Cols], fun γ_ => .bool (hasS a1 (oneS a0.Row a0.Col)), fun γ_ => .bool (!(hasS a1 (oneS a0.Row a0.Col))), fun γ_ => .bool (!(hasS a1 (oneS a0.Row a0.Col)))] (List.replicate 9 (fun _ => [])) rfl (by kernel_rfl) (by decide +kernel) hS ?_ ?_
 ·refine ⟨fun _ _ _ hS => Sv_val rfl (R_loadN (cs := [.int .i64 a1.Right, .slice Aa1_Widths a1.Widths.length ca1_Widths, .slice Aa1_Heights a1.Heights.length ca1_Heights, .slice Aa1_Cells a1.Cells.length ca1_Cells, .slice Aa1_Merges a1.Merges.length ca1_Merges]) rfl rfl agg30 size30 rfl (boxcells (hS.bx 1 rfl) 0 rfl)) ⟨gh0, rfl, hS⟩, fun _ _ _ hS => Sv_val rfl (R_fld rfl rfl fld58_0) ⟨gh0, rfl, hS⟩, fun _ _ _ hS => Sv_val rfl (R_load1 rfl rfl agg3 ((hS.bx 0 rfl).cell rfl)) ⟨gh0, rfl, hS⟩, fun _ _ _ hS => Sv_val rfl (R_fld rfl rfl fld58_1) ⟨gh0, rfl, hS⟩, fun _ _ _ hS => Sv_val rfl (R_load1 rfl rfl agg3 ((hS.bx 0 rfl).cell rfl)) ⟨gh0, rfl, hS⟩, fun g_ w17 fr18 hS => ?_, ?_⟩
  ·have _w17 := trivial
   have hS : Sp (FF [bR ba1 30 [.int .i64 a1.Right, .slice Aa1_Widths a1.Widths.length ca1_Widths, .slice Aa1_Heights a1.Heights.length ca1_Heights, .slice Aa1_Cells a1.Cells.length ca1_Cells, .slice Aa1_Merges a1.Merges.length ca1_Merges]]) w z w17 [bR b2 58 [.int .i64 a0.Row, .int .i64 a0.Col, vstr a0.Text, .int .i64 a0.Style.Align, .int .i64 a0.Style.Wrap, .int .i64 a0.Style.Dir], bR ba1 30 [.int .i64 a1.Right, .slice Aa1_Widths a1.Widths.length ca1_Widths, .slice Aa1_Heights a1.Heights.length ca1_Heights, .slice Aa1_Cells a1.Cells.length ca1_Cells, .slice Aa1_Merges a1.Merges.length ca1_Merges], allR fr18] := hS
   refine Sv_call rfl rfl rfl ent44 ?_
   refine (one_calls a0.Row a0.Col _ _ hS.out0  ).mono ?_
   rintro e_ w19 ⟨rfl, hS_⟩
   refine ⟨_, rfl, ?_⟩
   have hS := hS.call0 hS_
   exact ⟨⟨fun _ => none, fun _ => 0, fun _ => zE, fun _ => 0⟩, rfl, hS.fin [0, 1, 2] (by decide) rfl⟩
  refine ⟨fun g_ w21 fr22 hS => ?_, ?_⟩
  ·have _w21 := trivial
   have hS : Sp (FF [bR ba1 30 [.int .i64 a1.Right, .slice Aa1_Widths a1.Widths.length ca1_Widths, .slice Aa1_Heights a1.Heights.length ca1_Heights, .slice Aa1_Cells a1.Cells.length ca1_Cells, .slice Aa1_Merges a1.Merges.length ca1_Merges]]) w z w21 [bR b2 58 [.int .i64 a0.Row, .int .i64 a0.Col, vstr a0.Text, .int .i64 a0.Style.Align, .int .i64 a0.Style.Wrap, .int .i64 a0.Style.Dir], bR ba1 30 [.int .i64 a1.Right, .slice Aa1_Widths a1.Widths.length ca1_Widths, .slice Aa1_Heights a1.Heights.length ca1_Heights, .slice Aa1_Cells a1.Cells.length ca1_Cells, .slice Aa1_Merges a1.Merges.length ca1_Merges], allR fr22] := hS
   refine Sv_call rfl rfl rfl ent43 ?_
   refine (hass_calls a1 Aa1_Widths ca1_Widths Aa1_Heights ca1_Heights Aa1_Cells ca1_Cells Aa1_Merges ca1_Merges (oneS a0.Row a0.Col) _ _ hS.out0 (hra1_Widths.mono (hS.zl [])) hca1_Widths (hra1_Heights.mono (hS.zl [])) hca1_Heights (hra1_Cells.mono (hS.zl [])) hca1_Cells (hra1_Merges.mono (hS.zl [])) hca1_Merges ).mono ?_
   rintro e_ w23 ⟨rfl, hS_⟩
   refine ⟨_, rfl, ?_⟩
   have hS := hS.call0 hS_
   exact ⟨⟨fun _ => none, fun _ => 0, fun _ => zE, fun _ => 0⟩, rfl, hS.fin [0, 1, 2] (by decide) rfl⟩
  refine ⟨fun _ _ _ hS => Sv_val rfl (R_un rfl rfl rfl) ⟨gh0, rfl, hS⟩, fun _ _ _ hS => Sv_val rfl (R_assign rfl rfl) ⟨gh0, rfl, hS⟩, ?_⟩
  exact trivial
 ·intro g_ w29 hS
  have hS : Sp (FF [bR ba1 30 [.int .i64 a1.Right, .slice Aa1_Widths a1.Widths.length ca1_Widths, .slice Aa1_Heights a1.Heights.length ca1_Heights, .slice Aa1_Cells a1.Cells.length ca1_Cells, .slice Aa1_Merges a1.Merges.length ca1_Merges]]) w z w29 [bR b2 58 [.int .i64 a0.Row, .int .i64 a0.Col, vstr a0.Text, .int .i64 a0.Style.Align, .int .i64 a0.Style.Wrap, .int .i64 a0.Style.Dir], bR ba1 30 [.int .i64 a1.Right, .slice Aa1_Widths a1.Widths.length ca1_Widths, .slice Aa1_Heights a1.Heights.length ca1_Heights, .slice Aa1_Cells a1.Cells.length ca1_Cells, .slice Aa1_Merges a1.Merges.length ca1_Merges]] := hS
  refine An_fr [(1, .pointer (some ⟨ba1, 0, none⟩)), (2, .pointer (some ⟨b2, 0, none⟩)), (3, .bool (!(hasS a1 (oneS a0.Row a0.Col))))] rfl ?_
  refine An_done (by decide +kernel) <| E_then <| C_ret <| E_ret1 rfl rfl ?_
  exact ⟨Lret1 (Lbool (show (!(hasS a1 (oneS a0.Row a0.Col))) = (!hasS a1 (oneS a0.Row a0.Col)) by rfl)), hS.fin [1] (by decide) rfl⟩
theorem check1_fv (ba1 : Nat) (a1 : TSheet) (Aa1_Widths : Option Addr) (ca1_Widths : Nat) (Aa1_Heights : Option Addr) (ca1_Heights : Nat) (Aa1_Cells : Option Addr) (ca1_Cells : Nat) (Aa1_Merges : Option Addr) (ca1_Merges : Nat) (zc : Z) (hra1_Widths : Rd (kint .i64) zc Aa1_Widths a1.Widths) (hca1_Widths : Cap Aa1_Widths a1.Widths.length ca1_Widths) (hra1_Heights : Rd (kint .i64) zc Aa1_Heights a1.Heights) (hca1_Heights : Cap Aa1_Heights a1.Heights.length ca1_Heights) (hra1_Cells : Rd kdTCell zc Aa1_Cells a1.Cells) (hca1_Cells : Cap Aa1_Cells a1.Cells.length ca1_Cells) (hra1_Merges : Rd kdTRect zc Aa1_Merges a1.Merges) (hca1_Merges : Cap Aa1_Merges a1.Merges.length ca1_Merges) : FV Tryz.prog zc 42 [.pointer (some ⟨ba1, 0, none⟩)] (fun z_ (x_ : TCell) vs_ => vs_ = [.agg #[.int .i64 x_.Row, .int .i64 x_.Col, vstr x_.Text, .int .i64 x_.Style.Align, .int .i64 x_.Style.Wrap, .int .i64 x_.Style.Dir]]) (fun (_ _ : Unit) => allR [bR ba1 30 [.int .i64 a1.Right, .slice Aa1_Widths a1.Widths.length ca1_Widths, .slice Aa1_Heights a1.Heights.length ca1_Heights, .slice Aa1_Cells a1.Cells.length ca1_Cells, .slice Aa1_Merges a1.Merges.length ca1_Merges]]) (fun _ x_ => True) (fun _ _ => ()) (fun _ x_ => .bool ((fun (x_ : TCell) => !hasS a1 (oneS x_.Row x_.Col)) x_)) := ⟨ent42, by
  rintro _ _ x vs w z hz hI hok rfl
  refine (check1_calls x ba1 a1 Aa1_Widths ca1_Widths Aa1_Heights ca1_Heights Aa1_Cells ca1_Cells Aa1_Merges ca1_Merges z w hI.unb  (hra1_Widths.mono hz) hca1_Widths (hra1_Heights.mono hz) hca1_Heights (hra1_Cells.mono hz) hca1_Cells (hra1_Merges.mono hz) hca1_Merges ).mono ?_
  rintro e w' ⟨rfl, hS⟩
  exact ⟨rfl, (), hS.bun1⟩⟩
end Go.Proofs.YtaljccgfnmfhnaaGreatDoorG
set_option linter.all false
set_option maxHeartbeats 8000000
set_option maxRecDepth 100000
namespace Go.Proofs.YtaljccgfnmfhnaaGreatDoorG
open Go Go.RowKit
theorem check2_calls (a0 : TRect) (ba1 : Nat) (a1 : TSheet) (Aa1_Widths : Option Addr) (ca1_Widths : Nat) (Aa1_Heights : Option Addr) (ca1_Heights : Nat) (Aa1_Cells : Option Addr) (ca1_Cells : Nat) (Aa1_Merges : Option Addr) (ca1_Merges : Nat) (z : Z) (w : World) (hI : In z w [bR ba1 30 [.int .i64 a1.Right, .slice Aa1_Widths a1.Widths.length ca1_Widths, .slice Aa1_Heights a1.Heights.length ca1_Heights, .slice Aa1_Cells a1.Cells.length ca1_Cells, .slice Aa1_Merges a1.Merges.length ca1_Merges]]) (hra1_Widths : Rd (kint .i64) z Aa1_Widths a1.Widths) (hca1_Widths : Cap Aa1_Widths a1.Widths.length ca1_Widths) (hra1_Heights : Rd (kint .i64) z Aa1_Heights a1.Heights) (hca1_Heights : Cap Aa1_Heights a1.Heights.length ca1_Heights) (hra1_Cells : Rd kdTCell z Aa1_Cells a1.Cells) (hca1_Cells : Cap Aa1_Cells a1.Cells.length ca1_Cells) (hra1_Merges : Rd kdTRect z Aa1_Merges a1.Merges) (hca1_Merges : Cap Aa1_Merges a1.Merges.length ca1_Merges)  :
    Calls Tryz.prog 46 #[.agg #[.int .i64 a0.Row, .int .i64 a0.Col, .int .i64 a0.Rows, .int .i64 a0.Cols], .pointer (some ⟨ba1, 0, none⟩)] w fun e w' => e = .returned (.bool (!hasS a1 a0)) ∧ Sp (FF [bR ba1 30 [.int .i64 a1.Right, .slice Aa1_Widths a1.Widths.length ca1_Widths, .slice Aa1_Heights a1.Heights.length ca1_Heights, .slice Aa1_Cells a1.Cells.length ca1_Cells, .slice Aa1_Merges a1.Merges.length ca1_Merges]]) w z w' [bR ba1 30 [.int .i64 a1.Right, .slice Aa1_Widths a1.Widths.length ca1_Widths, .slice Aa1_Heights a1.Heights.length ca1_Heights, .slice Aa1_Cells a1.Cells.length ca1_Cells, .slice Aa1_Merges a1.Merges.length ca1_Merges]] := by
 have hla1_Widths := hca1_Widths.le
 have hma1_Widths := hca1_Widths.mx
 have hla1_Heights := hca1_Heights.le
 have hma1_Heights := hca1_Heights.mx
 have hla1_Cells := hca1_Cells.le
 have hma1_Cells := hca1_Cells.mx
 have hla1_Merges := hca1_Merges.le
 have hma1_Merges := hca1_Merges.mx
 have hS := hI.sp
 refine Calls_of (vs := [.agg #[.int .i64 a0.Row, .int .i64 a0.Col, .int .i64 a0.Rows, .int .i64 a0.Cols], .pointer (some ⟨ba1, 0, none⟩)]) (N := 8) Tryz.func46 rfl rfl (Nat.le_of_ble_eq_true rfl) ?_
 refine C_seq <| C_region <| W_cons rfl (by decide) (S_box hS rfl (R_box (cs := [.int .i64 a0.Row, .int .i64 a0.Col, .int .i64 a0.Rows, .int .i64 a0.Cols]) rfl rfl rfl) (fun b2 w1 hS => ?_))
 refine wv rfl rfl rfl (R_assign rfl rfl) ?_
 refine W_nil <| E_then <| C_seq <| C_region <| wv rfl rfl rfl (R_loadN (cs := [.int .i64 a1.Right, .slice Aa1_Widths a1.Widths.length ca1_Widths, .slice Aa1_Heights a1.Heights.length ca1_Heights, .slice Aa1_Cells a1.Cells.length ca1_Cells, .slice Aa1_Merges a1.Merges.length ca1_Merges]) rfl rfl agg30 size30 rfl (boxcells (hS.bx 1 rfl) 0 rfl)) <| wv rfl rfl rfl (R_loadN (cs := [.int .i64 a0.Row, .int .i64 a0.Col, .int .i64 a0.Rows, .int .i64 a0.Cols]) rfl rfl agg76 size76 rfl (boxcells (hS.bx 0 rfl) 0 rfl)) ?_
 refine W_cons rfl (by decide) (Sv_call rfl rfl rfl ent43 ?_)
 refine (hass_calls a1 Aa1_Widths ca1_Widths Aa1_Heights ca1_Heights Aa1_Cells ca1_Cells Aa1_Merges ca1_Merges a0 _ _ hS.out0 (hra1_Widths.mono (hS.zl [])) hca1_Widths (hra1_Heights.mono (hS.zl [])) hca1_Heights (hra1_Cells.mono (hS.zl [])) hca1_Cells (hra1_Merges.mono (hS.zl [])) hca1_Merges ).mono ?_
 rintro e_ w3 ⟨rfl, hS_⟩
 refine ⟨_, rfl, ?_⟩
 have hS := hS.call0 hS_
 refine wv rfl rfl rfl (R_un rfl rfl rfl) <| wv rfl rfl rfl (R_assign rfl rfl) ?_
 refine W_nil <| E_then (C_fr [(3, .bool (!(hasS a1 a0)))] rfl ?_)
 refine C_ret <| E_ret1 rfl rfl ?_
 exact ⟨Lret1 (Lbool (show (!(hasS a1 a0)) = (!hasS a1 a0) by rfl)), hS.fin [1] (by decide) rfl⟩
theorem check2_fv (ba1 : Nat) (a1 : TSheet) (Aa1_Widths : Option Addr) (ca1_Widths : Nat) (Aa1_Heights : Option Addr) (ca1_Heights : Nat) (Aa1_Cells : Option Addr) (ca1_Cells : Nat) (Aa1_Merges : Option Addr) (ca1_Merges : Nat) (zc : Z) (hra1_Widths : Rd (kint .i64) zc Aa1_Widths a1.Widths) (hca1_Widths : Cap Aa1_Widths a1.Widths.length ca1_Widths) (hra1_Heights : Rd (kint .i64) zc Aa1_Heights a1.Heights) (hca1_Heights : Cap Aa1_Heights a1.Heights.length ca1_Heights) (hra1_Cells : Rd kdTCell zc Aa1_Cells a1.Cells) (hca1_Cells : Cap Aa1_Cells a1.Cells.length ca1_Cells) (hra1_Merges : Rd kdTRect zc Aa1_Merges a1.Merges) (hca1_Merges : Cap Aa1_Merges a1.Merges.length ca1_Merges) : FV Tryz.prog zc 46 [.pointer (some ⟨ba1, 0, none⟩)] (fun z_ (x_ : TRect) vs_ => vs_ = [.agg #[.int .i64 x_.Row, .int .i64 x_.Col, .int .i64 x_.Rows, .int .i64 x_.Cols]]) (fun (_ _ : Unit) => allR [bR ba1 30 [.int .i64 a1.Right, .slice Aa1_Widths a1.Widths.length ca1_Widths, .slice Aa1_Heights a1.Heights.length ca1_Heights, .slice Aa1_Cells a1.Cells.length ca1_Cells, .slice Aa1_Merges a1.Merges.length ca1_Merges]]) (fun _ x_ => True) (fun _ _ => ()) (fun _ x_ => .bool ((fun (x_ : TRect) => !hasS a1 x_) x_)) := ⟨ent46, by
  rintro _ _ x vs w z hz hI hok rfl
  refine (check2_calls x ba1 a1 Aa1_Widths ca1_Widths Aa1_Heights ca1_Heights Aa1_Cells ca1_Cells Aa1_Merges ca1_Merges z w hI.unb  (hra1_Widths.mono hz) hca1_Widths (hra1_Heights.mono hz) hca1_Heights (hra1_Cells.mono hz) hca1_Cells (hra1_Merges.mono hz) hca1_Merges ).mono ?_
  rintro e w' ⟨rfl, hS⟩
  exact ⟨rfl, (), hS.bun1⟩⟩
theorem check3_calls (a0 : TRect) (ba1 : Nat) (a1 : TRect) (z : Z) (w : World) (hI : In z w [bR ba1 76 [.int .i64 a1.Row, .int .i64 a1.Col, .int .i64 a1.Rows, .int .i64 a1.Cols]])   :
    Calls Tryz.prog 47 #[.agg #[.int .i64 a0.Row, .int .i64 a0.Col, .int .i64 a0.Rows, .int .i64 a0.Cols], .pointer (some ⟨ba1, 0, none⟩)] w fun e w' => e = .returned (.bool (meetS a0 a1)) ∧ Sp (FF [bR ba1 76 [.int .i64 a1.Row, .int .i64 a1.Col, .int .i64 a1.Rows, .int .i64 a1.Cols]]) w z w' [bR ba1 76 [.int .i64 a1.Row, .int .i64 a1.Col, .int .i64 a1.Rows, .int .i64 a1.Cols]] := by
 have hS := hI.sp
 refine Calls_of (vs := [.agg #[.int .i64 a0.Row, .int .i64 a0.Col, .int .i64 a0.Rows, .int .i64 a0.Cols], .pointer (some ⟨ba1, 0, none⟩)]) (N := 7) Tryz.func47 rfl rfl (Nat.le_of_ble_eq_true rfl) ?_
 refine C_seq <| C_region <| W_cons rfl (by decide) (S_box hS rfl (R_box (cs := [.int .i64 a0.Row, .int .i64 a0.Col, .int .i64 a0.Rows, .int .i64 a0.Cols]) rfl rfl rfl) (fun b2 w1 hS => ?_))
 refine wv rfl rfl rfl (R_assign rfl rfl) ?_
 refine W_nil <| E_then <| C_seq <| C_region <| wv rfl rfl rfl (R_loadN (cs := [.int .i64 a0.Row, .int .i64 a0.Col, .int .i64 a0.Rows, .int .i64 a0.Cols]) rfl rfl agg76 size76 rfl (boxcells (hS.bx 0 rfl) 0 rfl)) <| wv rfl rfl rfl (R_loadN (cs := [.int .i64 a1.Row, .int .i64 a1.Col, .int .i64 a1.Rows, .int .i64 a1.Cols]) rfl rfl agg76 size76 rfl (boxcells (hS.bx 1 rfl) 0 rfl)) ?_
 refine W_cons rfl (by decide) (Sv_call rfl rfl rfl ent48 ?_)
 refine (meet_calls a0 a1 _ _ hS.out0  ).mono ?_
 rintro e_ w3 ⟨rfl, hS_⟩
 refine ⟨_, rfl, ?_⟩
 have hS := hS.call0 hS_
 refine wv rfl rfl rfl (R_assign rfl rfl) ?_
 refine W_nil <| E_then (C_fr [(3, .bool (meetS a0 a1))] rfl ?_)
 refine C_ret <| E_ret1 rfl rfl ?_
 exact ⟨Lret1 (Lbool (show (meetS a0 a1) = (meetS a0 a1) by rfl)), hS.fin [1] (by decide) rfl⟩
theorem check3_fv (ba1 : Nat) (a1 : TRect) (zc : Z) : FV Tryz.prog zc 47 [.pointer (some ⟨ba1, 0, none⟩)] (fun z_ (x_ : TRect) vs_ => vs_ = [.agg #[.int .i64 x_.Row, .int .i64 x_.Col, .int .i64 x_.Rows, .int .i64 x_.Cols]]) (fun (_ _ : Unit) => allR [bR ba1 76 [.int .i64 a1.Row, .int .i64 a1.Col, .int .i64 a1.Rows, .int .i64 a1.Cols]]) (fun _ x_ => True) (fun _ _ => ()) (fun _ x_ => .bool ((fun (x_ : TRect) => meetS x_ a1) x_)) := ⟨ent47, by
  rintro _ _ x vs w z hz hI hok rfl
  refine (check3_calls x ba1 a1 z w hI.unb   ).mono ?_
  rintro e w' ⟨rfl, hS⟩
  exact ⟨rfl, (), hS.bun1⟩⟩
theorem check_calls (a0 : TSheet) (Aa0_Widths : Option Addr) (ca0_Widths : Nat) (Aa0_Heights : Option Addr) (ca0_Heights : Nat) (Aa0_Cells : Option Addr) (ca0_Cells : Nat) (Aa0_Merges : Option Addr) (ca0_Merges : Nat) (z : Z) (w : World) (hI : In z w []) (hra0_Widths : Rd (kint .i64) z Aa0_Widths a0.Widths) (hca0_Widths : Cap Aa0_Widths a0.Widths.length ca0_Widths) (hra0_Heights : Rd (kint .i64) z Aa0_Heights a0.Heights) (hca0_Heights : Cap Aa0_Heights a0.Heights.length ca0_Heights) (hra0_Cells : Rd kdTCell z Aa0_Cells a0.Cells) (hca0_Cells : Cap Aa0_Cells a0.Cells.length ca0_Cells) (hra0_Merges : Rd kdTRect z Aa0_Merges a0.Merges) (hca0_Merges : Cap Aa0_Merges a0.Merges.length ca0_Merges)  :
    Calls Tryz.prog 23 #[.agg #[.int .i64 a0.Right, .slice Aa0_Widths a0.Widths.length ca0_Widths, .slice Aa0_Heights a0.Heights.length ca0_Heights, .slice Aa0_Cells a0.Cells.length ca0_Cells, .slice Aa0_Merges a0.Merges.length ca0_Merges]] w fun e w' => e = .returned (.int .i64 (checkSh a0)) ∧ Sp (FF []) w z w' [] := by
 have hla0_Widths := hca0_Widths.le
 have hma0_Widths := hca0_Widths.mx
 have hla0_Heights := hca0_Heights.le
 have hma0_Heights := hca0_Heights.mx
 have hla0_Cells := hca0_Cells.le
 have hma0_Cells := hca0_Cells.mx
 have hla0_Merges := hca0_Merges.le
 have hma0_Merges := hca0_Merges.mx
 have hS := hI.sp
 refine Calls_of (vs := [.agg #[.int .i64 a0.Right, .slice Aa0_Widths a0.Widths.length ca0_Widths, .slice Aa0_Heights a0.Heights.length ca0_Heights, .slice Aa0_Cells a0.Cells.length ca0_Cells, .slice Aa0_Merges a0.Merges.length ca0_Merges]]) (N := 60) Tryz.func23 rfl rfl (Nat.le_of_ble_eq_true rfl) ?_
 refine C_seq <| C_region <| W_cons rfl (by decide) (S_box hS rfl (R_box (cs := [.int .i64 a0.Right, .slice Aa0_Widths a0.Widths.length ca0_Widths, .slice Aa0_Heights a0.Heights.length ca0_Heights, .slice Aa0_Cells a0.Cells.length ca0_Cells, .slice Aa0_Merges a0.Merges.length ca0_Merges]) rfl rfl rfl) (fun b2 w1 hS => ?_))
 refine wv rfl rfl rfl (R_assign rfl rfl) ?_
 refine W_nil <| E_then <| C_seq <| C_block <| C_seq <| C_region <| wv rfl rfl rfl (R_loadN (cs := [.int .i64 a0.Right, .slice Aa0_Widths a0.Widths.length ca0_Widths, .slice Aa0_Heights a0.Heights.length ca0_Heights, .slice Aa0_Cells a0.Cells.length ca0_Cells, .slice Aa0_Merges a0.Merges.length ca0_Merges]) rfl rfl agg30 size30 rfl (boxcells (hS.bx 0 rfl) 0 rfl)) ?_
 refine W_cons rfl (by decide) (Sv_call rfl rfl rfl ent39 ?_)
 refine (limits_calls a0 Aa0_Widths ca0_Widths Aa0_Heights ca0_Heights Aa0_Cells ca0_Cells Aa0_Merges ca0_Merges _ _ hS.out0 (hra0_Widths.mono (hS.zl [])) hca0_Widths (hra0_Heights.mono (hS.zl [])) hca0_Heights (hra0_Cells.mono (hS.zl [])) hca0_Cells (hra0_Merges.mono (hS.zl [])) hca0_Merges ).mono ?_
 rintro e_ w3 ⟨rfl, hS_⟩
 refine ⟨_, rfl, ?_⟩
 have hS := hS.call0 hS_
 refine wv rfl rfl rfl (R_un rfl rfl rfl) <| wv rfl rfl rfl (R_assign rfl rfl) ?_
 refine W_nil <| E_then (C_fr [(1, .pointer (some ⟨b2, 0, none⟩)), (8, .bool (!(limitsS a0)))] rfl ?_)
 refine C_ite rfl (fun hC0 => ?_) (fun hC0 => ?_)
 ·have hC0p : ¬ (limitsS a0 = true) := by simpa using hC0
  refine C_seq <| C_region <| wv rfl rfl rfl (R_assign rfl rfl) ?_
  refine W_nil <| E_then <| C_ret <| E_block_ret <| E_then_ret <| E_ret1 rfl rfl ?_
  exact ⟨Lret1 (Lint (show 3 = checkSh a0 by exact ck3 (by assumption))), hS.fin [] (by decide) rfl⟩
 ·have hC0p : (limitsS a0 = true) := by simpa using hC0
  refine C_seq <| C_region <| wv rfl rfl rfl (R_loadN (cs := [.int .i64 a0.Right, .slice Aa0_Widths a0.Widths.length ca0_Widths, .slice Aa0_Heights a0.Heights.length ca0_Heights, .slice Aa0_Cells a0.Cells.length ca0_Cells, .slice Aa0_Merges a0.Merges.length ca0_Merges]) rfl rfl agg30 size30 rfl (boxcells (hS.bx 0 rfl) 0 rfl)) ?_
  refine W_cons rfl (by decide) (Sv_call rfl rfl rfl ent40 ?_)
  refine (order_calls a0 Aa0_Widths ca0_Widths Aa0_Heights ca0_Heights Aa0_Cells ca0_Cells Aa0_Merges ca0_Merges _ _ hS.out0 (hra0_Widths.mono (hS.zl [])) hca0_Widths (hra0_Heights.mono (hS.zl [])) hca0_Heights (hra0_Cells.mono (hS.zl [])) hca0_Cells (hra0_Merges.mono (hS.zl [])) hca0_Merges ).mono ?_
  rintro e_ w5 ⟨rfl, hS_⟩
  refine ⟨_, rfl, ?_⟩
  have hS := hS.call0 hS_
  refine wv rfl rfl rfl (R_un rfl rfl rfl) <| wv rfl rfl rfl (R_assign rfl rfl) ?_
  refine W_nil <| E_then <| C_ite rfl (fun hC1 => ?_) (fun hC1 => ?_)
  ·have hC1p : ¬ (orderS a0 = true) := by simpa using hC1
   refine C_seq <| C_region <| wv rfl rfl rfl (R_assign rfl rfl) ?_
   refine W_nil <| E_then (C_fr [(2, .int .i64 1)] rfl ?_)
   refine C_ret <| E_block_ret <| E_then_ret <| E_ret1 rfl rfl ?_
   exact ⟨Lret1 (Lint (show 1 = checkSh a0 by exact ck1 (by assumption) (by assumption))), hS.fin [] (by decide) rfl⟩
  ·have hC1p : (orderS a0 = true) := by simpa using hC1
   refine C_skip <| E_block_normal <| E_then (C_fr [(1, .pointer (some ⟨b2, 0, none⟩))] rfl ?_)
   refine C_seq <| C_region <| wv rfl rfl rfl (R_fld rfl rfl fld30_3) <| wv rfl rfl rfl (R_load1 rfl rfl agg27 ((hS.bx 0 rfl).cell rfl)) <| wv rfl rfl rfl (R_makeFunc rfl rfl) ?_
   have hS := hS.bun [0] (by decide)
   refine W_cons rfl (by decide) (Sv_call rfl rfl rfl ent41 ?_)
   refine (cfc_has_calls a0.Cells Aa0_Cells ca0_Cells 42 [.pointer (some ⟨b2, 0, none⟩)] (allR [bR b2 30 [.int .i64 a0.Right, .slice Aa0_Widths a0.Widths.length ca0_Widths, .slice Aa0_Heights a0.Heights.length ca0_Heights, .slice Aa0_Cells a0.Cells.length ca0_Cells, .slice Aa0_Merges a0.Merges.length ca0_Merges]]) z (fun (x_ : TCell) => !hasS a0 (oneS x_.Row x_.Col)) _ _ (hS.out [0] (by decide)) (hra0_Cells.mono (hS.zl [0])) hca0_Cells (check1_fv b2 a0 Aa0_Widths ca0_Widths Aa0_Heights ca0_Heights Aa0_Cells ca0_Cells Aa0_Merges ca0_Merges _ hra0_Widths hca0_Widths hra0_Heights hca0_Heights hra0_Cells hca0_Cells hra0_Merges hca0_Merges) (hS.zl [0]) ).mono ?_
   rintro e_ w7 ⟨rfl, hS_⟩
   refine ⟨_, rfl, ?_⟩
   have hS := hS.call [0] (by decide) hS_
   have hS := hS.unb
   refine wv rfl rfl rfl (R_assign rfl rfl) ?_
   refine W_nil <| E_then <| C_seq <| C_seq <| C_region <| wv rfl rfl rfl (R_move rfl rfl) <| wv rfl rfl rfl (R_move rfl rfl) ?_
   refine W_split (t := 21) rfl (fun hg10 => ?_) (fun hg10 => ?_)
   ·refine W_cons rfl (by decide) (Sv_off rfl rfl rfl (by rw [hg10] <;> rfl) ?_)
    refine W_cons rfl (by decide) (Sv_off rfl rfl rfl (by rw [hg10] <;> rfl) ?_)
    refine W_cons rfl (by decide) (Sv_off rfl rfl rfl (by rw [hg10] <;> rfl) ?_)
    refine W_cons rfl (by decide) (Sv_off rfl rfl rfl (by rw [hg10] <;> rfl) ?_)
    refine wv rfl rfl rfl (R_pick_t rfl rfl hg10 rfl) ?_
    refine W_nil <| E_then (C_fr [(1, .pointer (some ⟨b2, 0, none⟩)), (26, .bool true)] rfl ?_)
    refine C_if rfl rfl ?_
    refine C_seq <| C_region <| wv rfl rfl rfl (R_assign rfl rfl) ?_
    refine W_nil <| E_then <| C_ret <| E_then_ret <| E_ret1 rfl rfl ?_
    exact ⟨Lret1 (Lint (show 4 = checkSh a0 by exact ck4 (by assumption) (by assumption) (out_a (by assumption)))), hS.fin [] (by decide) rfl⟩
   ·refine W_cons rfl (by decide) (Sv_gt rfl rfl rfl hg10 (Sv_val rfl (R_fld rfl rfl fld30_4) ?_))
    refine W_cons rfl (by decide) (Sv_gt rfl rfl rfl hg10 (Sv_val rfl (R_load1 rfl rfl agg28 ((hS.bx 0 rfl).cell rfl)) ?_))
    refine W_cons rfl (by decide) (Sv_gt rfl rfl rfl hg10 (Sv_val rfl (R_makeFunc rfl rfl) ?_))
    have hS := hS.bun [0] (by decide)
    refine W_cons rfl (by decide) (Sv_gt rfl rfl rfl hg10 (Sv_call rfl rfl rfl ent45 ?_))
    refine (cfq_has_calls a0.Merges Aa0_Merges ca0_Merges 46 [.pointer (some ⟨b2, 0, none⟩)] (allR [bR b2 30 [.int .i64 a0.Right, .slice Aa0_Widths a0.Widths.length ca0_Widths, .slice Aa0_Heights a0.Heights.length ca0_Heights, .slice Aa0_Cells a0.Cells.length ca0_Cells, .slice Aa0_Merges a0.Merges.length ca0_Merges]]) z (fun (x_ : TRect) => !hasS a0 x_) _ _ (hS.out [0] (by decide)) (hra0_Merges.mono (hS.zl [0])) hca0_Merges (check2_fv b2 a0 Aa0_Widths ca0_Widths Aa0_Heights ca0_Heights Aa0_Cells ca0_Cells Aa0_Merges ca0_Merges _ hra0_Widths hca0_Widths hra0_Heights hca0_Heights hra0_Cells hca0_Cells hra0_Merges hca0_Merges) (hS.zl [0]) ).mono ?_
    rintro e_ w11 ⟨rfl, hS_⟩
    refine ⟨_, rfl, ?_⟩
    have hS := hS.call [0] (by decide) hS_
    have hS := hS.unb
    refine wv rfl rfl rfl (R_pick_f rfl rfl hg10 rfl) ?_
    refine W_nil <| E_then (C_fr [(1, .pointer (some ⟨b2, 0, none⟩)), (26, .bool (hasF (fun (x_ : TRect) => !hasS a0 x_) a0.Merges))] rfl ?_)
    refine C_ite rfl (fun hC2 => ?_) (fun hC2 => ?_)
    ·refine C_seq <| C_region <| wv rfl rfl rfl (R_assign rfl rfl) ?_
     refine W_nil <| E_then <| C_ret <| E_then_ret <| E_ret1 rfl rfl ?_
     exact ⟨Lret1 (Lint (show 4 = checkSh a0 by exact ck4 (by assumption) (by assumption) (out_b (by assumption)))), hS.fin [] (by decide) rfl⟩
    ·refine C_skip <| E_then <| C_seq <| C_seq <| C_region <| wv rfl rfl rfl (R_fld rfl rfl fld30_4) <| wv rfl rfl rfl (R_load1 rfl rfl agg28 ((hS.bx 0 rfl).cell rfl)) <| wv rfl rfl rfl (R_len rfl rfl Tryz.underlying28) <| wv rfl rfl rfl (R_move rfl rfl) ?_
     refine W_nil <| E_then <| C_block <| C_fr [(1, .pointer (some ⟨b2, 0, none⟩)), (28, .slice Aa0_Merges a0.Merges.length ca0_Merges), (29, .int .i64 (a0.Merges.length : Int)), (30, .int .i64 0)] rfl ?_
     refine C_loop (fun m_ f_ w_ => ∃ (i : Nat), f_ = [(1, .pointer (some ⟨b2, 0, none⟩)), (28, .slice Aa0_Merges a0.Merges.length ca0_Merges), (29, .int .i64 (a0.Merges.length : Int)), (30, .int .i64 (i : Int))] ∧ i ≤ a0.Merges.length ∧ (List.range i).any (meetsS a0) = false ∧ m_ = a0.Merges.length - i ∧ Sp (FF []) w z w_ [bR b2 30 [.int .i64 a0.Right, .slice Aa0_Widths a0.Widths.length ca0_Widths, .slice Aa0_Heights a0.Heights.length ca0_Heights, .slice Aa0_Cells a0.Cells.length ca0_Cells, .slice Aa0_Merges a0.Merges.length ca0_Merges]]) (a0.Merges.length - (0 : Nat)) ⟨(0 : Nat), rfl, (by omega), (by rfl), rfl, hS.fin [0] (by decide) rfl⟩ ?_
     rintro m_ f_ w14 ⟨i, rfl, hI0_0, hI0_1, rfl, hS⟩
     refine C_seq <| C_region <| wv rfl rfl rfl (R_bin rfl rfl rfl rfl rfl) ?_
     refine W_nil <| E_then <| C_seq <| C_ite rfl (fun hC3 => ?_) (fun hC3 => ?_)
     ·have hC3p : (i : Int) < (a0.Merges.length : Int) := by simpa using hC3
      refine C_skip <| E_then <| C_seq <| C_block <| C_seq <| C_region <| wv rfl rfl rfl (R_move rfl rfl) ?_
      obtain ⟨q15, csq15, hAq15, rfl, hkq15⟩ := hra0_Merges.at_ (default : TRect) (i := (i : Int)) (by omega) (by omega)
      have hkq15 : ∀ (j_ : Nat) (u_ : Value), ([.int .i64 (a0.Merges.getD i (default : TRect)).Row, .int .i64 (a0.Merges.getD i (default : TRect)).Col, .int .i64 (a0.Merges.getD i (default : TRect)).Rows, .int .i64 (a0.Merges.getD i (default : TRect)).Cols] : List Value)[j_]? = some u_ → cz z (q15.add (i * 4 + j_)) = some u_ := hkq15
      refine wv rfl rfl rfl (R_idx rfl rfl hAq15 rfl Tryz.underlying28 size76 (by omega) (by omega)) <| wv rfl rfl rfl (R_loadN (cs := [.int .i64 (a0.Merges.getD i (default : TRect)).Row, .int .i64 (a0.Merges.getD i (default : TRect)).Col, .int .i64 (a0.Merges.getD i (default : TRect)).Rows, .int .i64 (a0.Merges.getD i (default : TRect)).Cols]) rfl rfl agg76 size76 rfl (fun j u h => cell_add (hS.sub.cell (hkq15 j u h)))) ?_
      refine W_cons rfl (by decide) (S_box hS rfl (R_alloc rfl alloc76) (fun b17 w16 hS => ?_))
      refine wv rfl rfl rfl (R_assign rfl rfl) ?_
      refine W_cons0 rfl (S_store hS 0 rfl rfl rfl rfl rfl size76 (one_cons rfl (one_cons rfl (one_cons rfl (one_cons rfl one_nil)))) (Nat.le_of_ble_eq_true rfl) (fun w18 hS => ?_))
      have hS : Sp (FF []) w z w18 [bR b17 76 [.int .i64 (a0.Merges.getD i (default : TRect)).Row, .int .i64 (a0.Merges.getD i (default : TRect)).Col, .int .i64 (a0.Merges.getD i (default : TRect)).Rows, .int .i64 (a0.Merges.getD i (default : TRect)).Cols], bR b2 30 [.int .i64 a0.Right, .slice Aa0_Widths a0.Widths.length ca0_Widths, .slice Aa0_Heights a0.Heights.length ca0_Heights, .slice Aa0_Cells a0.Cells.length ca0_Cells, .slice Aa0_Merges a0.Merges.length ca0_Merges]] := hS
      refine W_nil <| E_then <| C_seq <| C_region <| wv rfl rfl rfl (R_fld rfl rfl fld30_4) <| wv rfl rfl rfl (R_load1 rfl rfl agg28 ((hS.bx 1 rfl).cell rfl)) <| wv rfl rfl rfl (R_move rfl rfl) ?_
      have hrq19 := hra0_Merges.take i
      have hcq19 := hca0_Merges.take i
      refine wv rfl rfl rfl (R_cuth rfl rfl rfl (by kernel_rfl) (size76 _) hca0_Merges (by omega) (by omega)) <| wv rfl rfl rfl (R_makeFunc rfl rfl) ?_
      have hS := hS.bun [0] (by decide)
      refine W_cons rfl (by decide) (Sv_call rfl rfl rfl ent45 ?_)
      refine (cfq_has_calls (a0.Merges.take i) Aa0_Merges ca0_Merges 47 [.pointer (some ⟨b17, 0, none⟩)] (allR [bR b17 76 [.int .i64 (a0.Merges.getD i (default : TRect)).Row, .int .i64 (a0.Merges.getD i (default : TRect)).Col, .int .i64 (a0.Merges.getD i (default : TRect)).Rows, .int .i64 (a0.Merges.getD i (default : TRect)).Cols]]) zE (fun (x_ : TRect) => meetS x_ (a0.Merges.getD i (default : TRect))) _ _ (hS.out [0] (by decide)) (hrq19.mono (hS.zl [0])) hcq19 (check3_fv b17 (a0.Merges.getD i (default : TRect)) _ ) (zle_E _) ).mono ?_
      rintro e_ w20 ⟨rfl, hS_⟩
      refine ⟨_, rfl, ?_⟩
      have hS := hS.call [0] (by decide) hS_
      have hS := hS.unb
      refine W_nil <| E_then (C_fr [(1, .pointer (some ⟨b2, 0, none⟩)), (28, .slice Aa0_Merges a0.Merges.length ca0_Merges), (29, .int .i64 (a0.Merges.length : Int)), (30, .int .i64 (i : Int)), (40, .bool (hasF (fun (x_ : TRect) => meetS x_ (a0.Merges.getD i (default : TRect))) (a0.Merges.take i)))] rfl ?_)
      refine C_ite rfl (fun hC4 => ?_) (fun hC4 => ?_)
      ·refine C_seq <| C_region <| wv rfl rfl rfl (R_assign rfl rfl) ?_
       refine W_nil <| E_then (C_fr [(2, .int .i64 5)] rfl ?_)
       refine C_ret <| E_block_ret <| E_then_ret <| E_then_ret <| E_block_ret <| E_then_ret <| E_ret1 rfl rfl ?_
       exact ⟨Lret1 (Lint (show 5 = checkSh a0 by exact ck5 (by assumption) (by assumption) (out_n (by assumption) (by assumption)) (i := i) (by omega) (by assumption))), hS.fin [] (by decide) rfl⟩
      ·refine C_skip <| E_block_normal <| E_then <| C_region <| wv rfl rfl rfl (R_add64 rfl rfl rfl (by omega) (by omega)) <| wv rfl rfl rfl (R_move rfl rfl) ?_
       refine W_nil <| E_round [1, 28, 29, 30] ?_ ⟨(i + 1 : Nat), rfl, (by omega), (by exact range_any_next hI0_1 (by simp_all [meetsS])), rfl, hS.fin [1] (by decide) rfl⟩
       omega
     ·have hC3p : ¬ ((i : Int) < (a0.Merges.length : Int)) := by simpa using hC3
      refine C_exit <| E_then_exit <| E_then_exit <| E_block_hit ?_
      refine E_then <| C_seq <| C_seq <| C_region <| wv rfl rfl rfl (R_fld rfl rfl fld30_3) <| wv rfl rfl rfl (R_load1 rfl rfl agg27 ((hS.bx 0 rfl).cell rfl)) <| wv rfl rfl rfl (R_len rfl rfl Tryz.underlying27) <| wv rfl rfl rfl (R_move rfl rfl) ?_
      refine W_nil <| E_then (C_fr [(1, .pointer (some ⟨b2, 0, none⟩)), (43, .slice Aa0_Cells a0.Cells.length ca0_Cells), (44, .int .i64 (a0.Cells.length : Int)), (45, .int .i64 0)] rfl ?_)
      refine C_block <| C_fr [(1, .pointer (some ⟨b2, 0, none⟩)), (43, .slice Aa0_Cells a0.Cells.length ca0_Cells), (44, .int .i64 (a0.Cells.length : Int)), (45, .int .i64 0)] rfl ?_
      refine C_loop (fun m_ f_ w_ => ∃ (j : Nat), f_ = [(1, .pointer (some ⟨b2, 0, none⟩)), (43, .slice Aa0_Cells a0.Cells.length ca0_Cells), (44, .int .i64 (a0.Cells.length : Int)), (45, .int .i64 (j : Int))] ∧ j ≤ a0.Cells.length ∧ (List.range j).any (underS a0) = false ∧ m_ = a0.Cells.length - j ∧ Sp (FF []) w z w_ [bR b2 30 [.int .i64 a0.Right, .slice Aa0_Widths a0.Widths.length ca0_Widths, .slice Aa0_Heights a0.Heights.length ca0_Heights, .slice Aa0_Cells a0.Cells.length ca0_Cells, .slice Aa0_Merges a0.Merges.length ca0_Merges]]) (a0.Cells.length - (0 : Nat)) ⟨(0 : Nat), rfl, (by omega), (by rfl), rfl, hS.fin [0] (by decide) rfl⟩ ?_
      rintro m_ f_ w23 ⟨j, rfl, hI1_0, hI1_1, rfl, hS⟩
      refine C_seq <| C_region <| wv rfl rfl rfl (R_bin rfl rfl rfl rfl rfl) ?_
      refine W_nil <| E_then <| C_seq <| C_ite rfl (fun hC5 => ?_) (fun hC5 => ?_)
      ·have hC5p : (j : Int) < (a0.Cells.length : Int) := by simpa using hC5
       refine C_skip <| E_then <| C_seq <| C_block <| C_seq <| C_region ?_
       obtain ⟨q24, csq24, hAq24, rfl, hkq24⟩ := hra0_Cells.at_ (default : TCell) (i := (j : Int)) (by omega) (by omega)
       have hkq24 : ∀ (j_ : Nat) (u_ : Value), ([.int .i64 (a0.Cells.getD j (default : TCell)).Row, .int .i64 (a0.Cells.getD j (default : TCell)).Col, vstr (a0.Cells.getD j (default : TCell)).Text, .int .i64 (a0.Cells.getD j (default : TCell)).Style.Align, .int .i64 (a0.Cells.getD j (default : TCell)).Style.Wrap, .int .i64 (a0.Cells.getD j (default : TCell)).Style.Dir] : List Value)[j_]? = some u_ → cz z (q24.add (j * 6 + j_)) = some u_ := hkq24
       refine wv rfl rfl rfl (R_idx rfl rfl hAq24 rfl Tryz.underlying27 size58 (by omega) (by omega)) <| wv rfl rfl rfl (R_loadN (cs := [.int .i64 (a0.Cells.getD j (default : TCell)).Row, .int .i64 (a0.Cells.getD j (default : TCell)).Col, vstr (a0.Cells.getD j (default : TCell)).Text, .int .i64 (a0.Cells.getD j (default : TCell)).Style.Align, .int .i64 (a0.Cells.getD j (default : TCell)).Style.Wrap, .int .i64 (a0.Cells.getD j (default : TCell)).Style.Dir]) rfl rfl agg58 size58 rfl (fun j u h => cell_add (hS.sub.cell (hkq24 j u h)))) ?_
       refine W_cons rfl (by decide) (S_box hS rfl (R_alloc rfl alloc58) (fun b26 w25 hS => ?_))
       refine W_cons0 rfl (S_store hS 0 rfl rfl rfl rfl rfl size58 (one_cons rfl (one_cons rfl (one_cons rfl (one_cons rfl (one_cons rfl (one_cons rfl one_nil)))))) (Nat.le_of_ble_eq_true rfl) (fun w27 hS => ?_))
       have hS : Sp (FF []) w z w27 [bR b26 58 [.int .i64 (a0.Cells.getD j (default : TCell)).Row, .int .i64 (a0.Cells.getD j (default : TCell)).Col, vstr (a0.Cells.getD j (default : TCell)).Text, .int .i64 (a0.Cells.getD j (default : TCell)).Style.Align, .int .i64 (a0.Cells.getD j (default : TCell)).Style.Wrap, .int .i64 (a0.Cells.getD j (default : TCell)).Style.Dir], bR b2 30 [.int .i64 a0.Right, .slice Aa0_Widths a0.Widths.length ca0_Widths, .slice Aa0_Heights a0.Heights.length ca0_Heights, .slice Aa0_Cells a0.Cells.length ca0_Cells, .slice Aa0_Merges a0.Merges.length ca0_Merges]] := hS
       refine W_nil <| E_then <| C_seq <| C_fr [(1, .pointer (some ⟨b2, 0, none⟩)), (7, .pointer (some ⟨b26, 0, none⟩)), (43, .slice Aa0_Cells a0.Cells.length ca0_Cells), (44, .int .i64 (a0.Cells.length : Int)), (45, .int .i64 (j : Int))] rfl ?_
       refine C_drawn2 10 [[], [0], [], [], [3], [], [5], [2, 4, 6, 1], [7, 7], [1, 8]] [some 49, some 50, some 51, some 52, some 53, some 54, some 55, some 56, some 57, some 58] [1, 7, 43, 44, 45] (List.replicate 10 10) (List.replicate 10 []) (List.replicate 10 []) [fun γ_ => .agg #[.int .i64 (a0.Cells.getD j (default : TCell)).Row, .int .i64 (a0.Cells.getD j (default : TCell)).Col, vstr (a0.Cells.getD j (default : TCell)).Text, .int .i64 (a0.Cells.getD j (default : TCell)).Style.Align, .int .i64 (a0.Cells.getD j (default : TCell)).Style.Wrap, .int .i64 (a0.Cells.getD j (default : TCell)).Style.Dir], fun γ_ => .agg #[.int .i64 (spotS (a0.Cells.getD j (default : TCell))).e0, .int .i64 (spotS (a0.Cells.getD j (default : TCell))).e1], fun γ_ => .agg #[.int .i64 a0.Right, .slice Aa0_Widths a0.Widths.length ca0_Widths, .slice Aa0_Heights a0.Heights.length ca0_Heights, .slice Aa0_Cells a0.Cells.length ca0_Cells, .slice Aa0_Merges a0.Merges.length ca0_Merges], fun γ_ => .pointer (some ⟨b26, 0, none⟩), fun γ_ => .int .i64 (a0.Cells.getD j (default : TCell)).Row, fun γ_ => .pointer (some ⟨b26, 1, none⟩), fun γ_ => .int .i64 (a0.Cells.getD j (default : TCell)).Col, fun γ_ => .agg #[.int .i64 (aroundS a0 (a0.Cells.getD j (default : TCell)).Row (a0.Cells.getD j (default : TCell)).Col).Row, .int .i64 (aroundS a0 (a0.Cells.getD j (default : TCell)).Row (a0.Cells.getD j (default : TCell)).Col).Col, .int .i64 (aroundS a0 (a0.Cells.getD j (default : TCell)).Row (a0.Cells.getD j (default : TCell)).Col).Rows, .int .i64 (aroundS a0 (a0.Cells.getD j (default : TCell)).Row (a0.Cells.getD j (default : TCell)).Col).Cols], fun γ_ => .agg #[.int .i64 (cornerS (aroundS a0 (a0.Cells.getD j (default : TCell)).Row (a0.Cells.getD j (default : TCell)).Col)).e0, .int .i64 (cornerS (aroundS a0 (a0.Cells.getD j (default : TCell)).Row (a0.Cells.getD j (default : TCell)).Col)).e1], fun γ_ => .bool (!decide ((spotS (a0.Cells.getD j (default : TCell))) = (cornerS (aroundS a0 (a0.Cells.getD j (default : TCell)).Row (a0.Cells.getD j (default : TCell)).Col))))] (List.replicate 10 (fun _ => [])) rfl (by kernel_rfl) (by decide +kernel) hS ?_ ?_
       ·refine ⟨fun _ _ _ hS => Sv_val rfl (R_loadN (cs := [.int .i64 (a0.Cells.getD j (default : TCell)).Row, .int .i64 (a0.Cells.getD j (default : TCell)).Col, vstr (a0.Cells.getD j (default : TCell)).Text, .int .i64 (a0.Cells.getD j (default : TCell)).Style.Align, .int .i64 (a0.Cells.getD j (default : TCell)).Style.Wrap, .int .i64 (a0.Cells.getD j (default : TCell)).Style.Dir]) rfl rfl agg58 size58 rfl (boxcells (hS.bx 0 rfl) 0 rfl)) ⟨gh0, rfl, hS⟩, fun g_ w36 fr37 hS => ?_, ?_⟩
        ·have _w36 := trivial
         have hS : Sp (FF []) w z w36 [bR b26 58 [.int .i64 (a0.Cells.getD j (default : TCell)).Row, .int .i64 (a0.Cells.getD j (default : TCell)).Col, vstr (a0.Cells.getD j (default : TCell)).Text, .int .i64 (a0.Cells.getD j (default : TCell)).Style.Align, .int .i64 (a0.Cells.getD j (default : TCell)).Style.Wrap, .int .i64 (a0.Cells.getD j (default : TCell)).Style.Dir], bR b2 30 [.int .i64 a0.Right, .slice Aa0_Widths a0.Widths.length ca0_Widths, .slice Aa0_Heights a0.Heights.length ca0_Heights, .slice Aa0_Cells a0.Cells.length ca0_Cells, .slice Aa0_Merges a0.Merges.length ca0_Merges], allR fr37] := hS
         refine Sv_call rfl rfl rfl ent49 ?_
         refine (spot_calls (a0.Cells.getD j (default : TCell)) _ _ hS.out0  ).mono ?_
         rintro e_ w38 ⟨rfl, hS_⟩
         refine ⟨_, rfl, ?_⟩
         have hS := hS.call0 hS_
         exact ⟨⟨fun _ => none, fun _ => 0, fun _ => zE, fun _ => 0⟩, rfl, hS.fin [0, 1, 2] (by decide) rfl⟩
        refine ⟨fun _ _ _ hS => Sv_val rfl (R_loadN (cs := [.int .i64 a0.Right, .slice Aa0_Widths a0.Widths.length ca0_Widths, .slice Aa0_Heights a0.Heights.length ca0_Heights, .slice Aa0_Cells a0.Cells.length ca0_Cells, .slice Aa0_Merges a0.Merges.length ca0_Merges]) rfl rfl agg30 size30 rfl (boxcells (hS.bx 1 rfl) 0 rfl)) ⟨gh0, rfl, hS⟩, fun _ _ _ hS => Sv_val rfl (R_fld rfl rfl fld58_0) ⟨gh0, rfl, hS⟩, fun _ _ _ hS => Sv_val rfl (R_load1 rfl rfl agg3 ((hS.bx 0 rfl).cell rfl)) ⟨gh0, rfl, hS⟩, fun _ _ _ hS => Sv_val rfl (R_fld rfl rfl fld58_1) ⟨gh0, rfl, hS⟩, fun _ _ _ hS => Sv_val rfl (R_load1 rfl rfl agg3 ((hS.bx 0 rfl).cell rfl)) ⟨gh0, rfl, hS⟩, fun g_ w50 fr51 hS => ?_, ?_⟩
        ·have _w50 := trivial
         have hS : Sp (FF []) w z w50 [bR b26 58 [.int .i64 (a0.Cells.getD j (default : TCell)).Row, .int .i64 (a0.Cells.getD j (default : TCell)).Col, vstr (a0.Cells.getD j (default : TCell)).Text, .int .i64 (a0.Cells.getD j (default : TCell)).Style.Align, .int .i64 (a0.Cells.getD j (default : TCell)).Style.Wrap, .int .i64 (a0.Cells.getD j (default : TCell)).Style.Dir], bR b2 30 [.int .i64 a0.Right, .slice Aa0_Widths a0.Widths.length ca0_Widths, .slice Aa0_Heights a0.Heights.length ca0_Heights, .slice Aa0_Cells a0.Cells.length ca0_Cells, .slice Aa0_Merges a0.Merges.length ca0_Merges], allR fr51] := hS
         refine Sv_call rfl rfl rfl ent51 ?_
         refine (around_calls a0 Aa0_Widths ca0_Widths Aa0_Heights ca0_Heights Aa0_Cells ca0_Cells Aa0_Merges ca0_Merges (a0.Cells.getD j (default : TCell)).Row (a0.Cells.getD j (default : TCell)).Col _ _ hS.out0 (hra0_Widths.mono (hS.zl [])) hca0_Widths (hra0_Heights.mono (hS.zl [])) hca0_Heights (hra0_Cells.mono (hS.zl [])) hca0_Cells (hra0_Merges.mono (hS.zl [])) hca0_Merges ).mono ?_
         rintro e_ w52 ⟨rfl, hS_⟩
         refine ⟨_, rfl, ?_⟩
         have hS := hS.call0 hS_
         exact ⟨⟨fun _ => none, fun _ => 0, fun _ => zE, fun _ => 0⟩, rfl, hS.fin [0, 1, 2] (by decide) rfl⟩
        refine ⟨fun g_ w54 fr55 hS => ?_, ?_⟩
        ·have _w54 := trivial
         have hS : Sp (FF []) w z w54 [bR b26 58 [.int .i64 (a0.Cells.getD j (default : TCell)).Row, .int .i64 (a0.Cells.getD j (default : TCell)).Col, vstr (a0.Cells.getD j (default : TCell)).Text, .int .i64 (a0.Cells.getD j (default : TCell)).Style.Align, .int .i64 (a0.Cells.getD j (default : TCell)).Style.Wrap, .int .i64 (a0.Cells.getD j (default : TCell)).Style.Dir], bR b2 30 [.int .i64 a0.Right, .slice Aa0_Widths a0.Widths.length ca0_Widths, .slice Aa0_Heights a0.Heights.length ca0_Heights, .slice Aa0_Cells a0.Cells.length ca0_Cells, .slice Aa0_Merges a0.Merges.length ca0_Merges], allR fr55] := hS
         refine Sv_call rfl rfl rfl ent50 ?_
         refine (corner_calls (aroundS a0 (a0.Cells.getD j (default : TCell)).Row (a0.Cells.getD j (default : TCell)).Col) _ _ hS.out0  ).mono ?_
         rintro e_ w56 ⟨rfl, hS_⟩
         refine ⟨_, rfl, ?_⟩
         have hS := hS.call0 hS_
         exact ⟨⟨fun _ => none, fun _ => 0, fun _ => zE, fun _ => 0⟩, rfl, hS.fin [0, 1, 2] (by decide) rfl⟩
        refine ⟨fun _ _ _ hS => Sv_val rfl (R_neqv rfl rfl rfl eqg82 ((eqv82 (spotS (a0.Cells.getD j (default : TCell))) (cornerS (aroundS a0 (a0.Cells.getD j (default : TCell)).Row (a0.Cells.getD j (default : TCell)).Col))).up 2)) ⟨gh0, rfl, hS⟩, ?_⟩
        exact trivial
       ·intro g_ w60 hS
        have hS : Sp (FF []) w z w60 [bR b26 58 [.int .i64 (a0.Cells.getD j (default : TCell)).Row, .int .i64 (a0.Cells.getD j (default : TCell)).Col, vstr (a0.Cells.getD j (default : TCell)).Text, .int .i64 (a0.Cells.getD j (default : TCell)).Style.Align, .int .i64 (a0.Cells.getD j (default : TCell)).Style.Wrap, .int .i64 (a0.Cells.getD j (default : TCell)).Style.Dir], bR b2 30 [.int .i64 a0.Right, .slice Aa0_Widths a0.Widths.length ca0_Widths, .slice Aa0_Heights a0.Heights.length ca0_Heights, .slice Aa0_Cells a0.Cells.length ca0_Cells, .slice Aa0_Merges a0.Merges.length ca0_Merges]] := hS
        refine An_fr [(1, .pointer (some ⟨b2, 0, none⟩)), (7, .pointer (some ⟨b26, 0, none⟩)), (43, .slice Aa0_Cells a0.Cells.length ca0_Cells), (44, .int .i64 (a0.Cells.length : Int)), (45, .int .i64 (j : Int)), (58, .bool (!decide ((spotS (a0.Cells.getD j (default : TCell))) = (cornerS (aroundS a0 (a0.Cells.getD j (default : TCell)).Row (a0.Cells.getD j (default : TCell)).Col)))))] rfl ?_
        refine An_done (by decide +kernel) <| E_then <| C_ite rfl (fun hC6 => ?_) (fun hC6 => ?_)
        ·have hC6p : ¬ (spotS (a0.Cells.getD j (default : TCell))) = (cornerS (aroundS a0 (a0.Cells.getD j (default : TCell)).Row (a0.Cells.getD j (default : TCell)).Col)) := by simpa using hC6
         refine C_seq <| C_region <| wv rfl rfl rfl (R_assign rfl rfl) ?_
         refine W_nil <| E_then (C_fr [(2, .int .i64 6)] rfl ?_)
         refine C_ret <| E_block_ret <| E_then_ret <| E_then_ret <| E_block_ret <| E_then_ret <| E_ret1 rfl rfl ?_
         exact ⟨Lret1 (Lint (show 6 = checkSh a0 by exact ck6 (by assumption) (by assumption) (out_n (by assumption) (by assumption)) (i := i) (by omega) (by omega) (by assumption) (j := j) (by omega) (by assumption))), hS.fin [] (by decide) rfl⟩
        ·have hC6p : (spotS (a0.Cells.getD j (default : TCell))) = (cornerS (aroundS a0 (a0.Cells.getD j (default : TCell)).Row (a0.Cells.getD j (default : TCell)).Col)) := by simpa using hC6
         refine C_skip <| E_block_normal <| E_then <| C_region <| wv rfl rfl rfl (R_add64 rfl rfl rfl (by omega) (by omega)) <| wv rfl rfl rfl (R_move rfl rfl) ?_
         refine W_nil <| E_round [1, 43, 44, 45] ?_ ⟨(j + 1 : Nat), rfl, (by omega), (by exact range_any_next hI1_1 (by simp_all [underS])), rfl, hS.fin [1] (by decide) rfl⟩
         omega
      ·have hC5p : ¬ ((j : Int) < (a0.Cells.length : Int)) := by simpa using hC5
       refine C_exit <| E_then_exit <| E_then_exit <| E_block_hit ?_
       refine E_then (C_fr [] rfl ?_)
       refine C_seq <| C_region <| wv rfl rfl rfl (R_assign rfl rfl) ?_
       refine W_nil <| E_then <| C_ret <| E_ret1 rfl rfl ?_
       exact ⟨Lret1 (Lint (show 0 = checkSh a0 by exact ck0 (by assumption) (by assumption) (out_n (by assumption) (by assumption)) (i := i) (by omega) (by omega) (by assumption) (j := j) (by omega) (by omega) (by assumption))), hS.fin [] (by decide) rfl⟩
theorem numbers_calls (a0 : List Int) (Aa0 : Option Addr) (ca0 : Nat) (a1 : List Int) (Aa1 : Option Addr) (ca1 : Nat) (z : Z) (w : World) (hI : In z w []) (hra0 : Rd (kint .i64) z Aa0 a0) (hca0 : Cap Aa0 a0.length ca0) (hra1 : Rd (kint .i64) z Aa1 a1) (hca1 : Cap Aa1 a1.length ca1)  :
    Calls Tryz.prog 32 #[.slice Aa0 a0.length ca0, .slice Aa1 a1.length ca1] w fun e w' => e = .returned (.bool (decide (a0 = a1))) ∧ Sp (FF []) w z w' [] := by
 have hla0 := hca0.le
 have hma0 := hca0.mx
 have hla1 := hca1.le
 have hma1 := hca1.mx
 have hS := hI.sp
 refine Calls_of (vs := [.slice Aa0 a0.length ca0, .slice Aa1 a1.length ca1]) (N := 26) Tryz.func32 rfl rfl (Nat.le_of_ble_eq_true rfl) ?_
 refine C_seq <| C_region <| wv rfl rfl rfl (R_assign rfl rfl) ?_
 refine W_nil <| E_then <| C_seq <| C_seq <| C_region <| wv rfl rfl rfl (R_move rfl rfl) <| wv rfl rfl rfl (R_len rfl rfl Tryz.underlying26) <| wv rfl rfl rfl (R_move rfl rfl) <| wv rfl rfl rfl (R_len rfl rfl Tryz.underlying26) <| wv rfl rfl rfl (R_bin rfl rfl rfl rfl rfl) ?_
 refine W_nil <| E_then (C_fr [(0, .slice Aa0 a0.length ca0), (1, .slice Aa1 a1.length ca1), (10, .bool ((a0.length : Int) != (a1.length : Int)))] rfl ?_)
 refine C_ite rfl (fun hC0 => ?_) (fun hC0 => ?_)
 ·have hC0p : ¬ (a0.length : Int) = (a1.length : Int) := by simpa using hC0
  refine C_seq <| C_region <| wv rfl rfl rfl (R_assign rfl rfl) ?_
  refine W_nil <| E_then <| C_ret <| E_then_ret <| E_ret1 rfl rfl ?_
  exact ⟨Lret1 (Lbool (show false = (decide (a0 = a1)) by (exact (decide_eq_false (fun h_ => by subst h_; (exact absurd rfl (by assumption)))).symm))), hS.fin [] (by decide) rfl⟩
 ·have hC0p : (a0.length : Int) = (a1.length : Int) := by simpa using hC0
  refine C_skip <| E_then <| C_seq <| C_seq <| C_region <| wv rfl rfl rfl (R_assign rfl rfl) ?_
  refine W_nil <| E_then <| C_block <| C_fr [(0, .slice Aa0 a0.length ca0), (1, .slice Aa1 a1.length ca1), (5, .int .i64 0)] rfl ?_
  refine C_loop (fun m_ f_ w_ => ∃ (i : Nat), f_ = [(0, .slice Aa0 a0.length ca0), (1, .slice Aa1 a1.length ca1), (5, .int .i64 (i : Int))] ∧ i ≤ a0.length ∧ a0.take i = a1.take i ∧ m_ = a0.length - i ∧ Sp (FF []) w z w_ []) (a0.length - (0 : Nat)) ⟨(0 : Nat), rfl, (by omega), (by rfl), rfl, hS.fin [] (by decide) rfl⟩ ?_
  rintro m_ f_ w1 ⟨i, rfl, hI0_0, hI0_1, rfl, hS⟩
  refine C_seq <| C_seq <| C_region <| wv rfl rfl rfl (R_move rfl rfl) <| wv rfl rfl rfl (R_move rfl rfl) <| wv rfl rfl rfl (R_len rfl rfl Tryz.underlying26) <| wv rfl rfl rfl (R_bin rfl rfl rfl rfl rfl) ?_
  refine W_nil <| E_then <| C_ite rfl (fun hC1 => ?_) (fun hC1 => ?_)
  ·have hC1p : (i : Int) < (a0.length : Int) := by simpa using hC1
   refine C_skip <| E_then <| C_seq <| C_block <| C_seq <| C_fr [(0, .slice Aa0 a0.length ca0), (1, .slice Aa1 a1.length ca1), (5, .int .i64 (i : Int))] rfl ?_
   obtain ⟨q4, csq4, hAq4, rfl, hkq4⟩ := hra0.at_ (0 : Int) (i := (i : Int)) (by omega) (by omega)
   have hkq4 : ∀ (j_ : Nat) (u_ : Value), ([.int .i64 (a0.getD i (0 : Int))] : List Value)[j_]? = some u_ → cz z (q4.add (i * 1 + j_)) = some u_ := hkq4
   obtain ⟨q5, csq5, hAq5, rfl, hkq5⟩ := hra1.at_ (0 : Int) (i := (i : Int)) (by omega) (by omega)
   have hkq5 : ∀ (j_ : Nat) (u_ : Value), ([.int .i64 (a1.getD i (0 : Int))] : List Value)[j_]? = some u_ → cz z (q5.add (i * 1 + j_)) = some u_ := hkq5
   refine C_drawn 9 [[], [], [0, 1], [2], [], [], [4, 5], [6], [3, 7]] [17, 18, 19, 20, 21, 22, 23, 24, 25] [0, 1, 5] rfl (by kernel_rfl) (by decide +kernel) [fun v_ _ => v_ = .slice Aa0 a0.length ca0, fun v_ _ => v_ = .int .i64 (i : Int), fun v_ _ => v_ = .pointer (some (q4.add (i * 1))), fun v_ _ => v_ = .int .i64 (a0.getD i (0 : Int)), fun v_ _ => v_ = .slice Aa1 a1.length ca1, fun v_ _ => v_ = .int .i64 (i : Int), fun v_ _ => v_ = .pointer (some (q5.add (i * 1))), fun v_ _ => v_ = .int .i64 (a1.getD i (0 : Int)), fun v_ _ => v_ = .bool ((a0.getD i (0 : Int)) != (a1.getD i (0 : Int)))] ⟨fun _ _ _ h _ => h, ⟨fun _ _ _ h _ => h, ⟨fun _ _ _ h _ => h, ⟨fun _ _ _ h _ => h, ⟨fun _ _ _ h _ => h, ⟨fun _ _ _ h _ => h, ⟨fun _ _ _ h _ => h, ⟨fun _ _ _ h _ => h, ⟨fun _ _ _ h _ => h, trivial⟩⟩⟩⟩⟩⟩⟩⟩⟩ ⟨fun w2 hc3 => by have hS := hS.chg0 hc3; exact Sv_val rfl (R_move rfl rfl) ⟨Chg.refl _ _, rfl⟩, ⟨fun w2 hc3 => by have hS := hS.chg0 hc3; exact Sv_val rfl (R_move rfl rfl) ⟨Chg.refl _ _, rfl⟩, ⟨fun w2 hc3 => by have hS := hS.chg0 hc3; rintro _ rfl _ rfl; exact Sv_val rfl (R_idx rfl rfl hAq4 rfl Tryz.underlying26 size3 (by omega) (by omega)) ⟨Chg.refl _ _, rfl⟩, ⟨fun w2 hc3 => by have hS := hS.chg0 hc3; rintro _ rfl; exact Sv_val rfl (R_load1 rfl rfl agg3 (hS.sub.cell (hkq4 0 _ rfl))) ⟨Chg.refl _ _, rfl⟩, ⟨fun w2 hc3 => by have hS := hS.chg0 hc3; exact Sv_val rfl (R_move rfl rfl) ⟨Chg.refl _ _, rfl⟩, ⟨fun w2 hc3 => by have hS := hS.chg0 hc3; exact Sv_val rfl (R_move rfl rfl) ⟨Chg.refl _ _, rfl⟩, ⟨fun w2 hc3 => by have hS := hS.chg0 hc3; rintro _ rfl _ rfl; exact Sv_val rfl (R_idx rfl rfl hAq5 rfl Tryz.underlying26 size3 (by omega) (by omega)) ⟨Chg.refl _ _, rfl⟩, ⟨fun w2 hc3 => by have hS := hS.chg0 hc3; rintro _ rfl; exact Sv_val rfl (R_load1 rfl rfl agg3 (hS.sub.cell (hkq5 0 _ rfl))) ⟨Chg.refl _ _, rfl⟩, ⟨fun w2 hc3 => by have hS := hS.chg0 hc3; rintro _ rfl _ rfl; exact Sv_val rfl (R_bin rfl rfl rfl rfl rfl) ⟨Chg.refl _ _, rfl⟩, trivial⟩⟩⟩⟩⟩⟩⟩⟩⟩ ?_
   intro w2 hc3
   have hS := hS.chg0 hc3
   rintro _ rfl _ rfl _ rfl _ rfl _ rfl _ rfl _ rfl _ rfl _ rfl
   refine An_fr [(0, .slice Aa0 a0.length ca0), (1, .slice Aa1 a1.length ca1), (5, .int .i64 (i : Int)), (25, .bool ((a0.getD i (0 : Int)) != (a1.getD i (0 : Int))))] rfl ?_
   refine An_done (by decide +kernel) <| E_then <| C_ite rfl (fun hC2 => ?_) (fun hC2 => ?_)
   ·have hC2p : ¬ (a0.getD i (0 : Int)) = (a1.getD i (0 : Int)) := by simpa using hC2
    refine C_seq <| C_region <| wv rfl rfl rfl (R_assign rfl rfl) ?_
    refine W_nil <| E_then <| C_ret <| E_block_ret <| E_then_ret <| E_then_ret <| E_block_ret <| E_then_ret <| E_ret1 rfl rfl ?_
    exact ⟨Lret1 (Lbool (show false = (decide (a0 = a1)) by (exact (decide_eq_false (fun h_ => by subst h_; (exact absurd rfl (by assumption)))).symm))), hS.fin [] (by decide) rfl⟩
   ·have hC2p : (a0.getD i (0 : Int)) = (a1.getD i (0 : Int)) := by simpa using hC2
    refine C_skip <| E_block_normal <| E_then <| C_region <| wv rfl rfl rfl (R_move rfl rfl) <| wv rfl rfl rfl (R_add64 rfl rfl rfl (by omega) (by omega)) <| wv rfl rfl rfl (R_assign rfl rfl) ?_
    refine W_nil <| E_round [0, 1, 5] ?_ ⟨(i + 1 : Nat), rfl, (by omega), (by exact take_more (by omega) (by omega) hI0_1 (by assumption)), rfl, hS.fin [] (by decide) rfl⟩
    omega
  ·have hC1p : ¬ ((i : Int) < (a0.length : Int)) := by simpa using hC1
   refine C_exit <| E_then_exit <| E_then_exit <| E_block_hit ?_
   refine E_then (C_fr [] rfl ?_)
   refine C_seq <| C_region <| wv rfl rfl rfl (R_assign rfl rfl) ?_
   refine W_nil <| E_then <| C_ret <| E_ret1 rfl rfl ?_
   exact ⟨Lret1 (Lbool (show true = (decide (a0 = a1)) by exact (decide_eq_true (take_all (by omega) (by omega) hI0_1)).symm)), hS.fin [] (by decide) rfl⟩
theorem rects_calls (a0 : List TRect) (Aa0 : Option Addr) (ca0 : Nat) (a1 : List TRect) (Aa1 : Option Addr) (ca1 : Nat) (z : Z) (w : World) (hI : In z w []) (hra0 : Rd kdTRect z Aa0 a0) (hca0 : Cap Aa0 a0.length ca0) (hra1 : Rd kdTRect z Aa1 a1) (hca1 : Cap Aa1 a1.length ca1)  :
    Calls Tryz.prog 33 #[.slice Aa0 a0.length ca0, .slice Aa1 a1.length ca1] w fun e w' => e = .returned (.bool (decide (a0 = a1))) ∧ Sp (FF []) w z w' [] := by
 have hla0 := hca0.le
 have hma0 := hca0.mx
 have hla1 := hca1.le
 have hma1 := hca1.mx
 have hS := hI.sp
 refine Calls_of (vs := [.slice Aa0 a0.length ca0, .slice Aa1 a1.length ca1]) (N := 26) Tryz.func33 rfl rfl (Nat.le_of_ble_eq_true rfl) ?_
 refine C_seq <| C_region <| wv rfl rfl rfl (R_assign rfl rfl) ?_
 refine W_nil <| E_then <| C_seq <| C_seq <| C_region <| wv rfl rfl rfl (R_move rfl rfl) <| wv rfl rfl rfl (R_len rfl rfl Tryz.underlying28) <| wv rfl rfl rfl (R_move rfl rfl) <| wv rfl rfl rfl (R_len rfl rfl Tryz.underlying28) <| wv rfl rfl rfl (R_bin rfl rfl rfl rfl rfl) ?_
 refine W_nil <| E_then (C_fr [(0, .slice Aa0 a0.length ca0), (1, .slice Aa1 a1.length ca1), (10, .bool ((a0.length : Int) != (a1.length : Int)))] rfl ?_)
 refine C_ite rfl (fun hC0 => ?_) (fun hC0 => ?_)
 ·have hC0p : ¬ (a0.length : Int) = (a1.length : Int) := by simpa using hC0
  refine C_seq <| C_region <| wv rfl rfl rfl (R_assign rfl rfl) ?_
  refine W_nil <| E_then <| C_ret <| E_then_ret <| E_ret1 rfl rfl ?_
  exact ⟨Lret1 (Lbool (show false = (decide (a0 = a1)) by (exact (decide_eq_false (fun h_ => by subst h_; (exact absurd rfl (by assumption)))).symm))), hS.fin [] (by decide) rfl⟩
 ·have hC0p : (a0.length : Int) = (a1.length : Int) := by simpa using hC0
  refine C_skip <| E_then <| C_seq <| C_seq <| C_region <| wv rfl rfl rfl (R_assign rfl rfl) ?_
  refine W_nil <| E_then <| C_block <| C_fr [(0, .slice Aa0 a0.length ca0), (1, .slice Aa1 a1.length ca1), (5, .int .i64 0)] rfl ?_
  refine C_loop (fun m_ f_ w_ => ∃ (i : Nat), f_ = [(0, .slice Aa0 a0.length ca0), (1, .slice Aa1 a1.length ca1), (5, .int .i64 (i : Int))] ∧ i ≤ a0.length ∧ a0.take i = a1.take i ∧ m_ = a0.length - i ∧ Sp (FF []) w z w_ []) (a0.length - (0 : Nat)) ⟨(0 : Nat), rfl, (by omega), (by rfl), rfl, hS.fin [] (by decide) rfl⟩ ?_
  rintro m_ f_ w1 ⟨i, rfl, hI0_0, hI0_1, rfl, hS⟩
  refine C_seq <| C_seq <| C_region <| wv rfl rfl rfl (R_move rfl rfl) <| wv rfl rfl rfl (R_move rfl rfl) <| wv rfl rfl rfl (R_len rfl rfl Tryz.underlying28) <| wv rfl rfl rfl (R_bin rfl rfl rfl rfl rfl) ?_
  refine W_nil <| E_then <| C_ite rfl (fun hC1 => ?_) (fun hC1 => ?_)
  ·have hC1p : (i : Int) < (a0.length : Int) := by simpa using hC1
   refine C_skip <| E_then <| C_seq <| C_block <| C_seq <| C_fr [(0, .slice Aa0 a0.length ca0), (1, .slice Aa1 a1.length ca1), (5, .int .i64 (i : Int))] rfl ?_
   obtain ⟨q4, csq4, hAq4, rfl, hkq4⟩ := hra0.at_ (default : TRect) (i := (i : Int)) (by omega) (by omega)
   have hkq4 : ∀ (j_ : Nat) (u_ : Value), ([.int .i64 (a0.getD i (default : TRect)).Row, .int .i64 (a0.getD i (default : TRect)).Col, .int .i64 (a0.getD i (default : TRect)).Rows, .int .i64 (a0.getD i (default : TRect)).Cols] : List Value)[j_]? = some u_ → cz z (q4.add (i * 4 + j_)) = some u_ := hkq4
   obtain ⟨q5, csq5, hAq5, rfl, hkq5⟩ := hra1.at_ (default : TRect) (i := (i : Int)) (by omega) (by omega)
   have hkq5 : ∀ (j_ : Nat) (u_ : Value), ([.int .i64 (a1.getD i (default : TRect)).Row, .int .i64 (a1.getD i (default : TRect)).Col, .int .i64 (a1.getD i (default : TRect)).Rows, .int .i64 (a1.getD i (default : TRect)).Cols] : List Value)[j_]? = some u_ → cz z (q5.add (i * 4 + j_)) = some u_ := hkq5
   refine C_drawn 9 [[], [], [0, 1], [2], [], [], [4, 5], [6], [3, 7]] [17, 18, 19, 20, 21, 22, 23, 24, 25] [0, 1, 5] rfl (by kernel_rfl) (by decide +kernel) [fun v_ _ => v_ = .slice Aa0 a0.length ca0, fun v_ _ => v_ = .int .i64 (i : Int), fun v_ _ => v_ = .pointer (some (q4.add (i * 4))), fun v_ _ => v_ = .agg #[.int .i64 (a0.getD i (default : TRect)).Row, .int .i64 (a0.getD i (default : TRect)).Col, .int .i64 (a0.getD i (default : TRect)).Rows, .int .i64 (a0.getD i (default : TRect)).Cols], fun v_ _ => v_ = .slice Aa1 a1.length ca1, fun v_ _ => v_ = .int .i64 (i : Int), fun v_ _ => v_ = .pointer (some (q5.add (i * 4))), fun v_ _ => v_ = .agg #[.int .i64 (a1.getD i (default : TRect)).Row, .int .i64 (a1.getD i (default : TRect)).Col, .int .i64 (a1.getD i (default : TRect)).Rows, .int .i64 (a1.getD i (default : TRect)).Cols], fun v_ _ => v_ = .bool (!decide (a0.getD i (default : TRect) = a1.getD i (default : TRect)))] ⟨fun _ _ _ h _ => h, ⟨fun _ _ _ h _ => h, ⟨fun _ _ _ h _ => h, ⟨fun _ _ _ h _ => h, ⟨fun _ _ _ h _ => h, ⟨fun _ _ _ h _ => h, ⟨fun _ _ _ h _ => h, ⟨fun _ _ _ h _ => h, ⟨fun _ _ _ h _ => h, trivial⟩⟩⟩⟩⟩⟩⟩⟩⟩ ⟨fun w2 hc3 => by have hS := hS.chg0 hc3; exact Sv_val rfl (R_move rfl rfl) ⟨Chg.refl _ _, rfl⟩, ⟨fun w2 hc3 => by have hS := hS.chg0 hc3; exact Sv_val rfl (R_move rfl rfl) ⟨Chg.refl _ _, rfl⟩, ⟨fun w2 hc3 => by have hS := hS.chg0 hc3; rintro _ rfl _ rfl; exact Sv_val rfl (R_idx rfl rfl hAq4 rfl Tryz.underlying28 size76 (by omega) (by omega)) ⟨Chg.refl _ _, rfl⟩, ⟨fun w2 hc3 => by have hS := hS.chg0 hc3; rintro _ rfl; exact Sv_val rfl (R_loadN (cs := [.int .i64 (a0.getD i (default : TRect)).Row, .int .i64 (a0.getD i (default : TRect)).Col, .int .i64 (a0.getD i (default : TRect)).Rows, .int .i64 (a0.getD i (default : TRect)).Cols]) rfl rfl agg76 size76 rfl (fun j u h => cell_add (hS.sub.cell (hkq4 j u h)))) ⟨Chg.refl _ _, rfl⟩, ⟨fun w2 hc3 => by have hS := hS.chg0 hc3; exact Sv_val rfl (R_move rfl rfl) ⟨Chg.refl _ _, rfl⟩, ⟨fun w2 hc3 => by have hS := hS.chg0 hc3; exact Sv_val rfl (R_move rfl rfl) ⟨Chg.refl _ _, rfl⟩, ⟨fun w2 hc3 => by have hS := hS.chg0 hc3; rintro _ rfl _ rfl; exact Sv_val rfl (R_idx rfl rfl hAq5 rfl Tryz.underlying28 size76 (by omega) (by omega)) ⟨Chg.refl _ _, rfl⟩, ⟨fun w2 hc3 => by have hS := hS.chg0 hc3; rintro _ rfl; exact Sv_val rfl (R_loadN (cs := [.int .i64 (a1.getD i (default : TRect)).Row, .int .i64 (a1.getD i (default : TRect)).Col, .int .i64 (a1.getD i (default : TRect)).Rows, .int .i64 (a1.getD i (default : TRect)).Cols]) rfl rfl agg76 size76 rfl (fun j u h => cell_add (hS.sub.cell (hkq5 j u h)))) ⟨Chg.refl _ _, rfl⟩, ⟨fun w2 hc3 => by have hS := hS.chg0 hc3; rintro _ rfl _ rfl; exact Sv_val rfl (R_neqv rfl rfl rfl eqg76 ((eqv76 (a0.getD i (default : TRect)) (a1.getD i (default : TRect))).up 2)) ⟨Chg.refl _ _, rfl⟩, trivial⟩⟩⟩⟩⟩⟩⟩⟩⟩ ?_
   intro w2 hc3
   have hS := hS.chg0 hc3
   rintro _ rfl _ rfl _ rfl _ rfl _ rfl _ rfl _ rfl _ rfl _ rfl
   refine An_fr [(0, .slice Aa0 a0.length ca0), (1, .slice Aa1 a1.length ca1), (5, .int .i64 (i : Int)), (25, .bool (!decide (a0.getD i (default : TRect) = a1.getD i (default : TRect))))] rfl ?_
   refine An_done (by decide +kernel) <| E_then <| C_ite rfl (fun hC2 => ?_) (fun hC2 => ?_)
   ·have hC2p : ¬ a0.getD i (default : TRect) = a1.getD i (default : TRect) := by simpa using hC2
    refine C_seq <| C_region <| wv rfl rfl rfl (R_assign rfl rfl) ?_
    refine W_nil <| E_then <| C_ret <| E_block_ret <| E_then_ret <| E_then_ret <| E_block_ret <| E_then_ret <| E_ret1 rfl rfl ?_
    exact ⟨Lret1 (Lbool (show false = (decide (a0 = a1)) by (exact (decide_eq_false (fun h_ => by subst h_; (exact absurd rfl (by assumption)))).symm))), hS.fin [] (by decide) rfl⟩
   ·have hC2p : a0.getD i (default : TRect) = a1.getD i (default : TRect) := by simpa using hC2
    refine C_skip <| E_block_normal <| E_then <| C_region <| wv rfl rfl rfl (R_move rfl rfl) <| wv rfl rfl rfl (R_add64 rfl rfl rfl (by omega) (by omega)) <| wv rfl rfl rfl (R_assign rfl rfl) ?_
    refine W_nil <| E_round [0, 1, 5] ?_ ⟨(i + 1 : Nat), rfl, (by omega), (by exact take_more (by omega) (by omega) hI0_1 (by assumption)), rfl, hS.fin [] (by decide) rfl⟩
    omega
  ·have hC1p : ¬ ((i : Int) < (a0.length : Int)) := by simpa using hC1
   refine C_exit <| E_then_exit <| E_then_exit <| E_block_hit ?_
   refine E_then (C_fr [] rfl ?_)
   refine C_seq <| C_region <| wv rfl rfl rfl (R_assign rfl rfl) ?_
   refine W_nil <| E_then <| C_ret <| E_ret1 rfl rfl ?_
   exact ⟨Lret1 (Lbool (show true = (decide (a0 = a1)) by exact (decide_eq_true (take_all (by omega) (by omega) hI0_1)).symm)), hS.fin [] (by decide) rfl⟩
theorem rshsame_calls (a0 : TSheet) (Aa0_Widths : Option Addr) (ca0_Widths : Nat) (Aa0_Heights : Option Addr) (ca0_Heights : Nat) (Aa0_Cells : Option Addr) (ca0_Cells : Nat) (Aa0_Merges : Option Addr) (ca0_Merges : Nat) (a1 : TSheet) (Aa1_Widths : Option Addr) (ca1_Widths : Nat) (Aa1_Heights : Option Addr) (ca1_Heights : Nat) (Aa1_Cells : Option Addr) (ca1_Cells : Nat) (Aa1_Merges : Option Addr) (ca1_Merges : Nat) (z : Z) (w : World) (hI : In z w []) (hra0_Widths : Rd (kint .i64) z Aa0_Widths a0.Widths) (hca0_Widths : Cap Aa0_Widths a0.Widths.length ca0_Widths) (hra0_Heights : Rd (kint .i64) z Aa0_Heights a0.Heights) (hca0_Heights : Cap Aa0_Heights a0.Heights.length ca0_Heights) (hra0_Cells : Rd kdTCell z Aa0_Cells a0.Cells) (hca0_Cells : Cap Aa0_Cells a0.Cells.length ca0_Cells) (hra0_Merges : Rd kdTRect z Aa0_Merges a0.Merges) (hca0_Merges : Cap Aa0_Merges a0.Merges.length ca0_Merges) (hra1_Widths : Rd (kint .i64) z Aa1_Widths a1.Widths) (hca1_Widths : Cap Aa1_Widths a1.Widths.length ca1_Widths) (hra1_Heights : Rd (kint .i64) z Aa1_Heights a1.Heights) (hca1_Heights : Cap Aa1_Heights a1.Heights.length ca1_Heights) (hra1_Cells : Rd kdTCell z Aa1_Cells a1.Cells) (hca1_Cells : Cap Aa1_Cells a1.Cells.length ca1_Cells) (hra1_Merges : Rd kdTRect z Aa1_Merges a1.Merges) (hca1_Merges : Cap Aa1_Merges a1.Merges.length ca1_Merges)  :
    Calls Tryz.prog 13 #[.agg #[.int .i64 a0.Right, .slice Aa0_Widths a0.Widths.length ca0_Widths, .slice Aa0_Heights a0.Heights.length ca0_Heights, .slice Aa0_Cells a0.Cells.length ca0_Cells, .slice Aa0_Merges a0.Merges.length ca0_Merges], .agg #[.int .i64 a1.Right, .slice Aa1_Widths a1.Widths.length ca1_Widths, .slice Aa1_Heights a1.Heights.length ca1_Heights, .slice Aa1_Cells a1.Cells.length ca1_Cells, .slice Aa1_Merges a1.Merges.length ca1_Merges]] w fun e w' => e = .returned (.bool (decide (a0 = a1))) ∧ Sp (FF []) w z w' [] := by
 have hla0_Widths := hca0_Widths.le
 have hma0_Widths := hca0_Widths.mx
 have hla0_Heights := hca0_Heights.le
 have hma0_Heights := hca0_Heights.mx
 have hla0_Cells := hca0_Cells.le
 have hma0_Cells := hca0_Cells.mx
 have hla0_Merges := hca0_Merges.le
 have hma0_Merges := hca0_Merges.mx
 have hla1_Widths := hca1_Widths.le
 have hma1_Widths := hca1_Widths.mx
 have hla1_Heights := hca1_Heights.le
 have hma1_Heights := hca1_Heights.mx
 have hla1_Cells := hca1_Cells.le
 have hma1_Cells := hca1_Cells.mx
 have hla1_Merges := hca1_Merges.le
 have hma1_Merges := hca1_Merges.mx
 have hS := hI.sp
 refine Calls_of (vs := [.agg #[.int .i64 a0.Right, .slice Aa0_Widths a0.Widths.length ca0_Widths, .slice Aa0_Heights a0.Heights.length ca0_Heights, .slice Aa0_Cells a0.Cells.length ca0_Cells, .slice Aa0_Merges a0.Merges.length ca0_Merges], .agg #[.int .i64 a1.Right, .slice Aa1_Widths a1.Widths.length ca1_Widths, .slice Aa1_Heights a1.Heights.length ca1_Heights, .slice Aa1_Cells a1.Cells.length ca1_Cells, .slice Aa1_Merges a1.Merges.length ca1_Merges]]) (N := 62) Tryz.func13 rfl rfl (Nat.le_of_ble_eq_true rfl) ?_
 refine C_seq <| C_region <| W_cons rfl (by decide) (S_box hS rfl (R_box (cs := [.int .i64 a0.Right, .slice Aa0_Widths a0.Widths.length ca0_Widths, .slice Aa0_Heights a0.Heights.length ca0_Heights, .slice Aa0_Cells a0.Cells.length ca0_Cells, .slice Aa0_Merges a0.Merges.length ca0_Merges]) rfl rfl rfl) (fun b2 w1 hS => ?_))
 refine W_cons rfl (by decide) (S_box hS rfl (R_box (cs := [.int .i64 a1.Right, .slice Aa1_Widths a1.Widths.length ca1_Widths, .slice Aa1_Heights a1.Heights.length ca1_Heights, .slice Aa1_Cells a1.Cells.length ca1_Cells, .slice Aa1_Merges a1.Merges.length ca1_Merges]) rfl rfl rfl) (fun b4 w3 hS => ?_))
 refine wv rfl rfl rfl (R_assign rfl rfl) ?_
 refine W_nil <| E_then <| C_seq <| C_seq <| C_region <| wv rfl rfl rfl (R_fld rfl rfl fld30_0) <| wv rfl rfl rfl (R_load1 rfl rfl agg3 ((hS.bx 1 rfl).cell rfl)) <| wv rfl rfl rfl (R_fld rfl rfl fld30_0) <| wv rfl rfl rfl (R_load1 rfl rfl agg3 ((hS.bx 0 rfl).cell rfl)) <| wv rfl rfl rfl (R_bin rfl rfl rfl rfl rfl) <| wv rfl rfl rfl (R_move rfl rfl) <| wg rfl rfl (Gd.no rfl rfl rfl) (fun hB => R_fld rfl rfl fld30_1) <| wg rfl rfl (Gd.no rfl rfl rfl) (fun hB => Runs.at_ (i := 12) (gl rfl hB) (R_load1 rfl rfl agg26 ((hS.bx 1 rfl).cell rfl))) <| wg rfl rfl (Gd.no rfl rfl rfl) (fun hB => R_fld rfl rfl fld30_1) <| wg rfl rfl (Gd.no rfl rfl rfl) (fun hB => Runs.at_ (i := 14) (gl rfl hB) (R_load1 rfl rfl agg26 ((hS.bx 0 rfl).cell rfl))) ?_
 refine W_cons rfl (by decide) (Sv_gcall (Gd.no rfl rfl rfl) hS (fun hB => Sv.at_ (i := 15) (gl rfl hB) (Sv.at_ (i := 13) (gl rfl hB) (Sv_call rfl rfl rfl ent32 ((numbers_calls a0.Widths Aa0_Widths ca0_Widths a1.Widths Aa1_Widths ca1_Widths _ _ hS.out0 (hra0_Widths.mono (hS.zl [])) hca0_Widths (hra1_Widths.mono (hS.zl [])) hca1_Widths ).mono (fun _ _ h_ => ⟨_, h_.1, rfl, hS.call0 h_.2⟩))))) (fun w5 hS => ?_))
 refine wg rfl rfl (Gd.no rfl rfl rfl) (fun hB => Runs.at_ (i := 16) (gl rfl hB) (R_un rfl rfl rfl)) <| wv rfl rfl rfl (R_pick_or rfl rfl rfl rfl) <| wv rfl rfl rfl (R_move rfl rfl) <| wg rfl rfl (Gd.no rfl rfl rfl) (fun hB => R_fld rfl rfl fld30_2) <| wg rfl rfl (Gd.no rfl rfl rfl) (fun hB => Runs.at_ (i := 20) (gl rfl hB) (R_load1 rfl rfl agg26 ((hS.bx 1 rfl).cell rfl))) <| wg rfl rfl (Gd.no rfl rfl rfl) (fun hB => R_fld rfl rfl fld30_2) <| wg rfl rfl (Gd.no rfl rfl rfl) (fun hB => Runs.at_ (i := 22) (gl rfl hB) (R_load1 rfl rfl agg26 ((hS.bx 0 rfl).cell rfl))) ?_
 refine W_cons rfl (by decide) (Sv_gcall (Gd.no rfl rfl rfl) hS (fun hB => Sv.at_ (i := 23) (gl rfl hB) (Sv.at_ (i := 21) (gl rfl hB) (Sv_call rfl rfl rfl ent32 ((numbers_calls a0.Heights Aa0_Heights ca0_Heights a1.Heights Aa1_Heights ca1_Heights _ _ hS.out0 (hra0_Heights.mono (hS.zl [])) hca0_Heights (hra1_Heights.mono (hS.zl [])) hca1_Heights ).mono (fun _ _ h_ => ⟨_, h_.1, rfl, hS.call0 h_.2⟩))))) (fun w6 hS => ?_))
 refine wg rfl rfl (Gd.no rfl rfl rfl) (fun hB => Runs.at_ (i := 24) (gl rfl hB) (R_un rfl rfl rfl)) <| wv rfl rfl rfl (R_pick_or rfl rfl rfl rfl) <| wv rfl rfl rfl (R_move rfl rfl) <| wg rfl rfl (Gd.no rfl rfl rfl) (fun hB => R_fld rfl rfl fld30_3) <| wg rfl rfl (Gd.no rfl rfl rfl) (fun hB => Runs.at_ (i := 28) (gl rfl hB) (R_load1 rfl rfl agg27 ((hS.bx 1 rfl).cell rfl))) <| wg rfl rfl (Gd.no rfl rfl rfl) (fun hB => Runs.at_ (i := 29) (gl rfl hB) (R_len rfl rfl Tryz.underlying27)) <| wg rfl rfl (Gd.no rfl rfl rfl) (fun hB => R_fld rfl rfl fld30_3) <| wg rfl rfl (Gd.no rfl rfl rfl) (fun hB => Runs.at_ (i := 31) (gl rfl hB) (R_load1 rfl rfl agg27 ((hS.bx 0 rfl).cell rfl))) <| wg rfl rfl (Gd.no rfl rfl rfl) (fun hB => Runs.at_ (i := 32) (gl rfl hB) (R_len rfl rfl Tryz.underlying27)) <| wg rfl rfl (Gd.no rfl rfl rfl) (fun hB => Runs.at_ (i := 33) (gl rfl hB) (Runs.at_ (i := 30) (gl rfl hB) (R_bin rfl rfl rfl rfl rfl))) <| wv rfl rfl rfl (R_pick_or rfl rfl rfl rfl) <| wv rfl rfl rfl (R_move rfl rfl) <| wg rfl rfl (Gd.no rfl rfl rfl) (fun hB => R_fld rfl rfl fld30_4) <| wg rfl rfl (Gd.no rfl rfl rfl) (fun hB => Runs.at_ (i := 37) (gl rfl hB) (R_load1 rfl rfl agg28 ((hS.bx 1 rfl).cell rfl))) <| wg rfl rfl (Gd.no rfl rfl rfl) (fun hB => R_fld rfl rfl fld30_4) <| wg rfl rfl (Gd.no rfl rfl rfl) (fun hB => Runs.at_ (i := 39) (gl rfl hB) (R_load1 rfl rfl agg28 ((hS.bx 0 rfl).cell rfl))) ?_
 refine W_cons rfl (by decide) (Sv_gcall (Gd.no rfl rfl rfl) hS (fun hB => Sv.at_ (i := 40) (gl rfl hB) (Sv.at_ (i := 38) (gl rfl hB) (Sv_call rfl rfl rfl ent33 ((rects_calls a0.Merges Aa0_Merges ca0_Merges a1.Merges Aa1_Merges ca1_Merges _ _ hS.out0 (hra0_Merges.mono (hS.zl [])) hca0_Merges (hra1_Merges.mono (hS.zl [])) hca1_Merges ).mono (fun _ _ h_ => ⟨_, h_.1, rfl, hS.call0 h_.2⟩))))) (fun w7 hS => ?_))
 refine wg rfl rfl (Gd.no rfl rfl rfl) (fun hB => Runs.at_ (i := 41) (gl rfl hB) (R_un rfl rfl rfl)) <| wv rfl rfl rfl (R_pick_or rfl rfl rfl rfl) ?_
 refine W_nil <| E_then (C_fr [(2, .pointer (some ⟨b2, 0, none⟩)), (3, .pointer (some ⟨b4, 0, none⟩)), (43, .bool (((((a0.Right != a1.Right) || (!(decide (a0.Widths = a1.Widths)))) || (!(decide (a0.Heights = a1.Heights)))) || ((a0.Cells.length : Int) != (a1.Cells.length : Int))) || (!(decide (a0.Merges = a1.Merges)))))] rfl ?_)
 refine C_ite rfl (fun hC0 => ?_) (fun hC0 => ?_)
 ·have hC0p : ((((¬ a0.Right = a1.Right ∨ ¬ (decide (a0.Widths = a1.Widths) = true)) ∨ ¬ (decide (a0.Heights = a1.Heights) = true)) ∨ ¬ (a0.Cells.length : Int) = (a1.Cells.length : Int)) ∨ ¬ (decide (a0.Merges = a1.Merges) = true)) := by simpa using hC0
  refine C_seq <| C_region <| wv rfl rfl rfl (R_assign rfl rfl) ?_
  refine W_nil <| E_then <| C_ret <| E_then_ret <| E_ret1 rfl rfl ?_
  exact ⟨Lret1 (Lbool (show false = (decide (a0 = a1)) by (exact (decide_eq_false (fun h_ => by subst h_; simp_all)).symm))), hS.fin [] (by decide) rfl⟩
 ·have hC0p : ¬ (((((¬ a0.Right = a1.Right ∨ ¬ (decide (a0.Widths = a1.Widths) = true)) ∨ ¬ (decide (a0.Heights = a1.Heights) = true)) ∨ ¬ (a0.Cells.length : Int) = (a1.Cells.length : Int)) ∨ ¬ (decide (a0.Merges = a1.Merges) = true))) := by simpa using hC0
  refine C_skip <| E_then <| C_seq <| C_seq <| C_region <| wv rfl rfl rfl (R_assign rfl rfl) ?_
  refine W_nil <| E_then <| C_block <| C_fr [(2, .pointer (some ⟨b2, 0, none⟩)), (3, .pointer (some ⟨b4, 0, none⟩)), (5, .int .i64 0)] rfl ?_
  refine C_loop (fun m_ f_ w_ => ∃ (i : Nat), f_ = [(2, .pointer (some ⟨b2, 0, none⟩)), (3, .pointer (some ⟨b4, 0, none⟩)), (5, .int .i64 (i : Int))] ∧ i ≤ a0.Cells.length ∧ a0.Cells.take i = a1.Cells.take i ∧ m_ = a0.Cells.length - i ∧ Sp (FF []) w z w_ [bR b2 30 [.int .i64 a0.Right, .slice Aa0_Widths a0.Widths.length ca0_Widths, .slice Aa0_Heights a0.Heights.length ca0_Heights, .slice Aa0_Cells a0.Cells.length ca0_Cells, .slice Aa0_Merges a0.Merges.length ca0_Merges], bR b4 30 [.int .i64 a1.Right, .slice Aa1_Widths a1.Widths.length ca1_Widths, .slice Aa1_Heights a1.Heights.length ca1_Heights, .slice Aa1_Cells a1.Cells.length ca1_Cells, .slice Aa1_Merges a1.Merges.length ca1_Merges]]) (a0.Cells.length - (0 : Nat)) ⟨(0 : Nat), rfl, (by omega), (by rfl), rfl, hS.fin [1, 0] (by decide) rfl⟩ ?_
  rintro m_ f_ w8 ⟨i, rfl, hI0_0, hI0_1, rfl, hS⟩
  refine C_seq <| C_seq <| C_region <| wv rfl rfl rfl (R_move rfl rfl) <| wv rfl rfl rfl (R_fld rfl rfl fld30_3) <| wv rfl rfl rfl (R_load1 rfl rfl agg27 ((hS.bx 0 rfl).cell rfl)) <| wv rfl rfl rfl (R_len rfl rfl Tryz.underlying27) <| wv rfl rfl rfl (R_bin rfl rfl rfl rfl rfl) ?_
  refine W_nil <| E_then <| C_ite rfl (fun hC1 => ?_) (fun hC1 => ?_)
  ·have hC1p : (i : Int) < (a0.Cells.length : Int) := by simpa using hC1
   refine C_skip <| E_then (C_fr [(2, .pointer (some ⟨b2, 0, none⟩)), (3, .pointer (some ⟨b4, 0, none⟩)), (5, .int .i64 (i : Int))] rfl ?_)
   refine C_seq <| C_block <| C_seq <| C_fr [(2, .pointer (some ⟨b2, 0, none⟩)), (3, .pointer (some ⟨b4, 0, none⟩)), (5, .int .i64 (i : Int))] rfl ?_
   obtain ⟨q11, csq11, hAq11, rfl, hkq11⟩ := hra0_Cells.at_ (default : TCell) (i := (i : Int)) (by omega) (by omega)
   have hkq11 : ∀ (j_ : Nat) (u_ : Value), ([.int .i64 (a0.Cells.getD i (default : TCell)).Row, .int .i64 (a0.Cells.getD i (default : TCell)).Col, vstr (a0.Cells.getD i (default : TCell)).Text, .int .i64 (a0.Cells.getD i (default : TCell)).Style.Align, .int .i64 (a0.Cells.getD i (default : TCell)).Style.Wrap, .int .i64 (a0.Cells.getD i (default : TCell)).Style.Dir] : List Value)[j_]? = some u_ → cz z (q11.add (i * 6 + j_)) = some u_ := hkq11
   obtain ⟨q12, csq12, hAq12, rfl, hkq12⟩ := hra1_Cells.at_ (default : TCell) (i := (i : Int)) (by omega) (by omega)
   have hkq12 : ∀ (j_ : Nat) (u_ : Value), ([.int .i64 (a1.Cells.getD i (default : TCell)).Row, .int .i64 (a1.Cells.getD i (default : TCell)).Col, vstr (a1.Cells.getD i (default : TCell)).Text, .int .i64 (a1.Cells.getD i (default : TCell)).Style.Align, .int .i64 (a1.Cells.getD i (default : TCell)).Style.Wrap, .int .i64 (a1.Cells.getD i (default : TCell)).Style.Dir] : List Value)[j_]? = some u_ → cz z (q12.add (i * 6 + j_)) = some u_ := hkq12
   refine C_drawn 11 [[], [0], [], [1, 2], [3], [], [5], [], [6, 7], [8], [4, 9]] [51, 52, 53, 54, 55, 56, 57, 58, 59, 60, 61] [2, 3, 5] rfl (by kernel_rfl) (by decide +kernel) [fun v_ _ => v_ = .pointer (some ⟨b2, 3, none⟩), fun v_ _ => v_ = .slice Aa0_Cells a0.Cells.length ca0_Cells, fun v_ _ => v_ = .int .i64 (i : Int), fun v_ _ => v_ = .pointer (some (q11.add (i * 6))), fun v_ _ => v_ = .agg #[.int .i64 (a0.Cells.getD i (default : TCell)).Row, .int .i64 (a0.Cells.getD i (default : TCell)).Col, vstr (a0.Cells.getD i (default : TCell)).Text, .int .i64 (a0.Cells.getD i (default : TCell)).Style.Align, .int .i64 (a0.Cells.getD i (default : TCell)).Style.Wrap, .int .i64 (a0.Cells.getD i (default : TCell)).Style.Dir], fun v_ _ => v_ = .pointer (some ⟨b4, 3, none⟩), fun v_ _ => v_ = .slice Aa1_Cells a1.Cells.length ca1_Cells, fun v_ _ => v_ = .int .i64 (i : Int), fun v_ _ => v_ = .pointer (some (q12.add (i * 6))), fun v_ _ => v_ = .agg #[.int .i64 (a1.Cells.getD i (default : TCell)).Row, .int .i64 (a1.Cells.getD i (default : TCell)).Col, vstr (a1.Cells.getD i (default : TCell)).Text, .int .i64 (a1.Cells.getD i (default : TCell)).Style.Align, .int .i64 (a1.Cells.getD i (default : TCell)).Style.Wrap, .int .i64 (a1.Cells.getD i (default : TCell)).Style.Dir], fun v_ _ => v_ = .bool (!decide (a0.Cells.getD i (default : TCell) = a1.Cells.getD i (default : TCell)))] ⟨fun _ _ _ h _ => h, ⟨fun _ _ _ h _ => h, ⟨fun _ _ _ h _ => h, ⟨fun _ _ _ h _ => h, ⟨fun _ _ _ h _ => h, ⟨fun _ _ _ h _ => h, ⟨fun _ _ _ h _ => h, ⟨fun _ _ _ h _ => h, ⟨fun _ _ _ h _ => h, ⟨fun _ _ _ h _ => h, ⟨fun _ _ _ h _ => h, trivial⟩⟩⟩⟩⟩⟩⟩⟩⟩⟩⟩ ⟨fun w9 hc10 => by have hS := hS.chg0 hc10; exact Sv_val rfl (R_fld rfl rfl fld30_3) ⟨Chg.refl _ _, rfl⟩, ⟨fun w9 hc10 => by have hS := hS.chg0 hc10; rintro _ rfl; exact Sv_val rfl (R_load1 rfl rfl agg27 ((hS.bx 0 rfl).cell rfl)) ⟨Chg.refl _ _, rfl⟩, ⟨fun w9 hc10 => by have hS := hS.chg0 hc10; exact Sv_val rfl (R_move rfl rfl) ⟨Chg.refl _ _, rfl⟩, ⟨fun w9 hc10 => by have hS := hS.chg0 hc10; rintro _ rfl _ rfl; exact Sv_val rfl (R_idx rfl rfl hAq11 rfl Tryz.underlying27 size58 (by omega) (by omega)) ⟨Chg.refl _ _, rfl⟩, ⟨fun w9 hc10 => by have hS := hS.chg0 hc10; rintro _ rfl; exact Sv_val rfl (R_loadN (cs := [.int .i64 (a0.Cells.getD i (default : TCell)).Row, .int .i64 (a0.Cells.getD i (default : TCell)).Col, vstr (a0.Cells.getD i (default : TCell)).Text, .int .i64 (a0.Cells.getD i (default : TCell)).Style.Align, .int .i64 (a0.Cells.getD i (default : TCell)).Style.Wrap, .int .i64 (a0.Cells.getD i (default : TCell)).Style.Dir]) rfl rfl agg58 size58 rfl (fun j u h => cell_add (hS.sub.cell (hkq11 j u h)))) ⟨Chg.refl _ _, rfl⟩, ⟨fun w9 hc10 => by have hS := hS.chg0 hc10; exact Sv_val rfl (R_fld rfl rfl fld30_3) ⟨Chg.refl _ _, rfl⟩, ⟨fun w9 hc10 => by have hS := hS.chg0 hc10; rintro _ rfl; exact Sv_val rfl (R_load1 rfl rfl agg27 ((hS.bx 1 rfl).cell rfl)) ⟨Chg.refl _ _, rfl⟩, ⟨fun w9 hc10 => by have hS := hS.chg0 hc10; exact Sv_val rfl (R_move rfl rfl) ⟨Chg.refl _ _, rfl⟩, ⟨fun w9 hc10 => by have hS := hS.chg0 hc10; rintro _ rfl _ rfl; exact Sv_val rfl (R_idx rfl rfl hAq12 rfl Tryz.underlying27 size58 (by omega) (by omega)) ⟨Chg.refl _ _, rfl⟩, ⟨fun w9 hc10 => by have hS := hS.chg0 hc10; rintro _ rfl; exact Sv_val rfl (R_loadN (cs := [.int .i64 (a1.Cells.getD i (default : TCell)).Row, .int .i64 (a1.Cells.getD i (default : TCell)).Col, vstr (a1.Cells.getD i (default : TCell)).Text, .int .i64 (a1.Cells.getD i (default : TCell)).Style.Align, .int .i64 (a1.Cells.getD i (default : TCell)).Style.Wrap, .int .i64 (a1.Cells.getD i (default : TCell)).Style.Dir]) rfl rfl agg58 size58 rfl (fun j u h => cell_add (hS.sub.cell (hkq12 j u h)))) ⟨Chg.refl _ _, rfl⟩, ⟨fun w9 hc10 => by have hS := hS.chg0 hc10; rintro _ rfl _ rfl; exact Sv_val rfl (R_neqv rfl rfl rfl eqg58 ((eqv58 (a0.Cells.getD i (default : TCell)) (a1.Cells.getD i (default : TCell))).up 1)) ⟨Chg.refl _ _, rfl⟩, trivial⟩⟩⟩⟩⟩⟩⟩⟩⟩⟩⟩ ?_
   intro w9 hc10
   have hS := hS.chg0 hc10
   rintro _ rfl _ rfl _ rfl _ rfl _ rfl _ rfl _ rfl _ rfl _ rfl _ rfl _ rfl
   refine An_fr [(2, .pointer (some ⟨b2, 0, none⟩)), (3, .pointer (some ⟨b4, 0, none⟩)), (5, .int .i64 (i : Int)), (61, .bool (!decide (a0.Cells.getD i (default : TCell) = a1.Cells.getD i (default : TCell))))] rfl ?_
   refine An_done (by decide +kernel) <| E_then <| C_ite rfl (fun hC2 => ?_) (fun hC2 => ?_)
   ·have hC2p : ¬ a0.Cells.getD i (default : TCell) = a1.Cells.getD i (default : TCell) := by simpa using hC2
    refine C_seq <| C_region <| wv rfl rfl rfl (R_assign rfl rfl) ?_
    refine W_nil <| E_then <| C_ret <| E_block_ret <| E_then_ret <| E_then_ret <| E_block_ret <| E_then_ret <| E_ret1 rfl rfl ?_
    exact ⟨Lret1 (Lbool (show false = (decide (a0 = a1)) by (exact (decide_eq_false (fun h_ => by subst h_; (exact absurd rfl (by assumption)))).symm))), hS.fin [] (by decide) rfl⟩
   ·have hC2p : a0.Cells.getD i (default : TCell) = a1.Cells.getD i (default : TCell) := by simpa using hC2
    refine C_skip <| E_block_normal <| E_then <| C_region <| wv rfl rfl rfl (R_move rfl rfl) <| wv rfl rfl rfl (R_add64 rfl rfl rfl (by omega) (by omega)) <| wv rfl rfl rfl (R_assign rfl rfl) ?_
    refine W_nil <| E_round [2, 3, 5] ?_ ⟨(i + 1 : Nat), rfl, (by omega), (by exact take_more (by omega) (by omega) hI0_1 (by assumption)), rfl, hS.fin [0, 1] (by decide) rfl⟩
    omega
  ·have hC1p : ¬ ((i : Int) < (a0.Cells.length : Int)) := by simpa using hC1
   refine C_exit <| E_then_exit <| E_then_exit <| E_block_hit ?_
   refine E_then (C_fr [] rfl ?_)
   refine C_seq <| C_region <| wv rfl rfl rfl (R_assign rfl rfl) ?_
   refine W_nil <| E_then <| C_ret <| E_ret1 rfl rfl ?_
   exact ⟨Lret1 (Lbool (show true = (decide (a0 = a1)) by exact sh_yes (by omega) (by simp_all) (by simp_all) (take_all (by omega) (by omega) hI0_1) (by simp_all))), hS.fin [] (by decide) rfl⟩
end Go.Proofs.YtaljccgfnmfhnaaGreatDoorG
set_option linter.all false
namespace Go.Proofs.YtaljccgfnmfhnaaGreatDoorG
open Go Go.RowKit
theorem and_u64 {x : Int} (h0 : 0 ≤ x) (h1 : x < 4294967296) : Go.bits .and .u64 x 4294967295 = x := by
  have h := and_mask64 x 32 4294967295 (by decide) (by decide)
  have e : x % ((2 ^ 32 : Nat) : Int) = x := by
    rw [show ((2 ^ 32 : Nat) : Int) = 4294967296 from by decide]
    omega
  rw [e] at h
  have h' : IntKind.i64.wrap ((BitVec.ofInt 64 x &&& BitVec.ofInt 64 4294967295).toNat : Int) = x := h
  show ((BitVec.ofInt 64 x &&& BitVec.ofInt 64 4294967295).toNat : Int) % 18446744073709551616 = x
  have hl : (BitVec.ofInt 64 x &&& BitVec.ofInt 64 4294967295).toNat < 18446744073709551616 := BitVec.isLt _
  rw [IntKind.wrap_i64] at h'
  omega
theorem rep_len {α : Type} {v d : α} {k n : Nat} (h : k ≤ n) : (List.replicate k v ++ List.replicate (n - k) d).length = n := by simp; omega
theorem rep_take {α : Type} {v d : α} {k n : Nat} : ((List.replicate k v ++ List.replicate (n - k) d).take k).drop 0 = List.replicate k v := by simp
theorem rep_min {α : Type} {v d : α} {k n : Nat} (h : k ≤ n) : min (((List.replicate k v ++ List.replicate (n - k) d).take k).drop 0).length ((List.replicate k v ++ List.replicate (n - k) d).length - k) = min k (n - k) := by
  rw [rep_take, rep_len h, List.length_replicate]
theorem rep_step {α : Type} {v d : α} {k n : Nat} (h : k ≤ n) :
    (List.replicate k v ++ List.replicate (n - k) d).take k ++ (((List.replicate k v ++ List.replicate (n - k) d).take k).drop 0).take ((List.replicate k v ++ List.replicate (n - k) d).length - k) ++ (List.replicate k v ++ List.replicate (n - k) d).drop (k + min (((List.replicate k v ++ List.replicate (n - k) d).take k).drop 0).length ((List.replicate k v ++ List.replicate (n - k) d).length - k))
      = List.replicate (k + min k (n - k)) v ++ List.replicate (n - (k + min k (n - k))) d := by
  have e : (List.replicate k v ++ List.replicate (n - k) d).take k = List.replicate k v := by simp
  rw [rep_min h, rep_take, rep_len h, e]
  simp only [List.take_replicate, List.length_replicate, List.drop_append, List.drop_replicate]
  rw [show k - (k + min k (n - k)) = 0 from by omega, show n - k - (k + min k (n - k) - k) = n - (k + min k (n - k)) from by omega, show min (n - k) k = min k (n - k) from Nat.min_comm _ _]
  simp [List.replicate_append_replicate]
theorem rep_start {n : Nat} {a : List Int} (h : a.length = 1) : a.take (List.replicate n (0 : Int)).length ++ (List.replicate n (0 : Int)).drop a.length = List.replicate (min 1 n) (a.getD 0 0) ++ List.replicate (n - min 1 n) 0 := by
  match a, h with
  | [x], _ =>
    cases n with
    | zero => rfl
    | succ n => simp [show min 1 (n + 1) = 1 from by omega]
def mkC (i j : Nat) (t : St) : TCell := ⟨(i : Int), (j : Int), t, ⟨0, 0, 0⟩⟩
def cellsR (i : Nat) : List St → Nat → List TCell
  | [], _ => []
  | t :: r, j => if t = [] then cellsR i r (j + 1) else mkC i j t :: cellsR i r (j + 1)
def cellsA : Rows → Nat → List TCell
  | [], _ => []
  | r :: l, i => cellsR i r 0 ++ cellsA l (i + 1)
def cellsS (l : Rows) : List TCell := cellsA l 0
def celU (l : Rows) (i k : Nat) : List TCell := cellsA (l.take i) 0 ++ cellsR i ((l.getD i []).take k) 0
theorem cellsR_app (i : Nat) : ∀ (r s : List St) (j : Nat), cellsR i (r ++ s) j = cellsR i r j ++ cellsR i s (j + r.length)
  | [], s, j => by simp [cellsR]
  | t :: r, s, j => by
    rw [List.cons_append, cellsR, cellsR, cellsR_app i r s (j + 1), show j + 1 + r.length = j + (t :: r).length from by simp; omega]
    split <;> simp
theorem cellsA_app : ∀ (l m : Rows) (i : Nat), cellsA (l ++ m) i = cellsA l i ++ cellsA m (i + l.length)
  | [], m, i => by simp [cellsA]
  | r :: l, m, i => by
    rw [List.cons_append, cellsA, cellsA, cellsA_app l m (i + 1), List.append_assoc, show i + 1 + l.length = i + (r :: l).length from by simp; omega]
theorem take_snocD {α : Type} (d : α) {l : List α} {i : Nat} (h : i < l.length) : l.take (i + 1) = l.take i ++ [l.getD i d] := by
  rw [List.take_succ_eq_append_getElem h]
  simp [List.getD, h]
theorem celU_take {l : Rows} {i k : Nat} (hk : k < (l.getD i []).length) : celU l i (k + 1) = celU l i k ++ cellsR i [(l.getD i []).getD k []] k := by
  unfold celU
  rw [take_snocD [] hk, cellsR_app, List.length_take, Nat.zero_add, Nat.min_eq_left (by omega), List.append_assoc]
theorem celU_hit {l : Rows} {i k : Nat} (hk : k < (l.getD i []).length) (h : ¬ (l.getD i []).getD k [] = []) : celU l i (k + 1) = celU l i k ++ [mkC i k ((l.getD i []).getD k [])] := by
  rw [celU_take hk]
  simp only [cellsR, if_neg h]
theorem celU_skip {l : Rows} {i k : Nat} (hk : k < (l.getD i []).length) (h : (l.getD i []).getD k [] = []) : celU l i (k + 1) = celU l i k := by
  rw [celU_take hk]
  simp only [cellsR, if_pos h, List.append_nil]
theorem celU_zero (l : Rows) (i : Nat) : celU l i 0 = cellsA (l.take i) 0 := by simp [celU, cellsR]
theorem celU_row {l : Rows} {i k : Nat} (hi : i < l.length) (hk : (l.getD i []).length ≤ k) : celU l i k = celU l (i + 1) 0 := by
  rw [celU_zero, take_snocD [] hi, cellsA_app, List.length_take, Nat.min_eq_left (by omega)]
  rw [celU, List.take_of_length_le hk]
  simp only [cellsA, List.append_nil, Nat.zero_add]
theorem celU_end {l : Rows} {i : Nat} (hi : l.length ≤ i) : celU l i 0 = cellsS l := by rw [celU_zero, List.take_of_length_le hi]; rfl
theorem celU_start (l : Rows) : celU l 0 0 = [] := by rw [celU_zero]; simp [cellsA]
theorem celU_pre {l : Rows} {i k : Nat} (hi : i < l.length) : celU l i k <+: cellsS l := by
  refine ⟨cellsR i ((l.getD i []).drop k) ((l.getD i []).take k).length ++ cellsA (l.drop (i + 1)) (i + 1), ?_⟩
  have e1 : cellsS l = cellsA (l.take (i + 1) ++ l.drop (i + 1)) 0 := by rw [List.take_append_drop]; rfl
  have e3 : cellsR i (l.getD i []) 0 = cellsR i ((l.getD i []).take k) 0 ++ cellsR i ((l.getD i []).drop k) ((l.getD i []).take k).length := by
    have := cellsR_app i ((l.getD i []).take k) ((l.getD i []).drop k) 0
    rwa [List.take_append_drop, Nat.zero_add] at this
  have e4 : (l.take i).length = i := by rw [List.length_take]; omega
  rw [e1, cellsA_app, take_snocD [] hi, cellsA_app, List.length_append, e4, List.length_singleton, Nat.zero_add, Nat.zero_add]
  simp only [cellsA, List.append_nil]
  rw [e3]
  simp only [celU, List.append_assoc]
theorem celU_more {l : Rows} {i k : Nat} (hi : i < l.length) (hk : k < (l.getD i []).length) (h : ¬ (l.getD i []).getD k [] = []) : celU l i k ++ [mkC i k ((l.getD i []).getD k [])] <+: cellsS l := by
  rw [← celU_hit hk h]
  exact celU_pre hi
theorem cellsR_len (i : Nat) : ∀ (r : List St) (j : Nat), (cellsR i r j).length ≤ r.length
  | [], _ => by simp [cellsR]
  | t :: r, j => by have := cellsR_len i r (j + 1); rw [cellsR]; split <;> simp <;> omega
theorem cellsA_len {n : Nat} : ∀ (l : Rows) (i : Nat), (∀ r ∈ l, r.length ≤ n) → (cellsA l i).length ≤ l.length * n
  | [], _, _ => by simp [cellsA]
  | r :: l, i, h => by
    have h1 := cellsR_len i r 0
    have h2 := cellsA_len l (i + 1) (fun q hq => h q (List.mem_cons_of_mem _ hq))
    have h3 := h r List.mem_cons_self
    rw [cellsA, List.length_append, List.length_cons, Nat.succ_mul]
    omega
theorem pre_len {α : Type} {p x : List α} (h : p <+: x) : p.length ≤ x.length := h.length_le
def zSh : TSheet := ⟨0, [], [], [], []⟩
def makeS (l : Rows) (w h : Int) : TSheet := ⟨0, List.replicate (l.getD 0 []).length w, List.replicate l.length h, cellsS l, []⟩
def faultS (l : Rows) (w h : Int) : Int := if w < 1 ∨ h < 1 then 1 else if ¬ checkS l = 0 ∨ w > 60 ∨ h > 12 then 3 else 0
def fillW (m : TSheet) (l : Rows) (w h : Int) : TSheet := if faultS l w h = 0 then { m with Widths := List.replicate (l.getD 0 []).length w, Heights := List.replicate l.length h, Cells := m.Cells ++ cellsS l } else m
theorem faultS_1 {l : Rows} {w h : Int} (h0 : w < 1 ∨ h < 1) : faultS l w h = 1 := if_pos h0
theorem faultS_3 {l : Rows} {w h : Int} (h0 : ¬ (w < 1 ∨ h < 1)) (h1 : ¬ checkS l = 0 ∨ w > 60 ∨ h > 12) : faultS l w h = 3 := (if_neg h0).trans (if_pos h1)
theorem faultS_0 {l : Rows} {w h : Int} (h0 : ¬ (w < 1 ∨ h < 1)) (h1 : ¬ (¬ checkS l = 0 ∨ w > 60 ∨ h > 12)) : faultS l w h = 0 := (if_neg h0).trans (if_neg h1)
theorem fillW_1 {m : TSheet} {l : Rows} {w h : Int} (h0 : w < 1 ∨ h < 1) : fillW m l w h = m := by rw [fillW, faultS_1 h0]; rfl
theorem fillW_3 {m : TSheet} {l : Rows} {w h : Int} (h0 : ¬ (w < 1 ∨ h < 1)) (h1 : ¬ checkS l = 0 ∨ w > 60 ∨ h > 12) : fillW m l w h = m := by rw [fillW, faultS_3 h0 h1]; rfl
theorem fillW_0 {m : TSheet} {l : Rows} {w h : Int} (h0 : ¬ (w < 1 ∨ h < 1)) (h1 : ¬ (¬ checkS l = 0 ∨ w > 60 ∨ h > 12)) : fillW m l w h = { m with Widths := List.replicate (l.getD 0 []).length w, Heights := List.replicate l.length h, Cells := m.Cells ++ cellsS l } := by rw [fillW, faultS_0 h0 h1]; rfl
theorem chk_fit {l : Rows} (h : checkS l = 0) : 0 < l.length ∧ l.length ≤ 24 ∧ (l.getD 0 []).length ≤ 16 ∧ (cellsS l).length ≤ 384 := by
  unfold checkS at h
  by_cases h1 : widthS l = 0
  · rw [if_pos h1] at h; cases h
  rw [if_neg h1] at h
  by_cases h2 : hasF (fun r => (r.length : Int) != widthS l) l = true
  · rw [if_pos h2] at h; cases h
  rw [if_neg h2] at h
  by_cases h3 : hasF (fun t => decide ((t.length : Int) > 1024)) l.flatten = true
  · rw [if_pos h3] at h; cases h
  rw [if_neg h3] at h
  by_cases h4 : (l.length : Int) > 24
  · rw [if_pos h4] at h; cases h
  rw [if_neg h4] at h
  by_cases h5 : widthS l > 16
  · rw [if_pos h5] at h; cases h
  have hw : ∀ r ∈ l, r.length ≤ 16 := fun r hr => by have := widthS_ge l r hr; omega
  have h0 : 0 < l.length := by
    cases l with
    | nil => exact absurd rfl h1
    | cons a l => simp
  have hc := cellsA_len (n := 16) l 0 hw
  refine ⟨h0, by omega, hw _ (getD_mem [] h0), ?_⟩
  unfold cellsS
  omega
end Go.Proofs.YtaljccgfnmfhnaaGreatDoorG
set_option linter.all false
namespace Go.Proofs.YtaljccgfnmfhnaaGreatDoorG
open Go Go.RowKit Go.Extern.Stop Go.Stop Go.Extern Go.Proofs
theorem as_nil (t : Value) (w : World) :
    Calls Tryz.prog 61 #[.nilIface, t] w fun e w' => e = .returned (.bool false) ∧ w' = w := by
  go_enter Tryz.func61, Tryz.ntmps61
  go_wp2
  go_ret
  exact ⟨rfl, rfl⟩
theorem valueOfT (t : Addr) (w : World) : (ReflectliteValue.unpack (.iface 100 (.pointer (some t)))).run Tryz.prog w
    = .ok (.agg #[.pointer (some ⟨4, 100, none⟩), .pointer (some ⟨w.heap.size, 0, none⟩), .int .u64 150]) (w.alloc (.cells #[.pointer (some t)] 100)) := by kernel_rfl
theorem typeT (a : Addr) (w : World) : (ReflectliteValue.methodAny (ReflectliteValue.valueError "reflectlite.Value.Type" 0) (fun t _ _ _ => ReflectliteType.toType t) #[.agg #[.pointer (some ⟨4, 100, none⟩), .pointer (some a), .int .u64 150]]).run Tryz.prog w
    = .ok (.iface 162 (.agg #[.pointer (some ⟨4, 100, none⟩)])) w := by kernel_rfl
theorem methodKind (h : Value) (w : World) : (Go.method 334 162 (.agg #[h]) "Kind").run Tryz.prog w = .ok (160, h) w := by kernel_rfl
theorem kindT (w : World) : ((ReflectliteType.abiMethod fun t => (fun a : Nat => Value.int IntKind.u8 (a : Int)) <$> Rtype.kind t) #[.pointer (some ⟨4, 100, none⟩)]).run Tryz.prog w = .ok (.int .u8 22) w := by kernel_rfl
theorem kindF (w : World) : ((ReflectliteType.abiMethod fun t => (fun a : Nat => Value.int IntKind.u8 (a : Int)) <$> Rtype.kind t) #[.pointer (some ⟨4, 98, none⟩)]).run Tryz.prog w = .ok (.int .u8 25) w := by kernel_rfl
theorem rlm (z : Sem Value) (f : TypeId → Addr → Nat → Nat → Sem Value) (v : Value) :
    ReflectliteValue.method z f #[v] = (do match ← ReflectliteValue.parts v with | none => z | some (t, a, fl) => f t a fl (fl % 32)) := rfl
theorem partsT (a : Addr) (w : World) : (ReflectliteValue.parts (.agg #[.pointer (some ⟨4, 100, none⟩), .pointer (some a), .int .u64 150])).run Tryz.prog w = .ok (some (100, a, 150)) w := by kernel_rfl
theorem isNilT (a p : Addr) (W : World) (ha : W.cell? a = some (.pointer (some p))) :
    (ReflectliteValue.method (ReflectliteValue.valueError "reflectlite.Value.IsNil" 0) ReflectliteValue.isNil #[.agg #[.pointer (some ⟨4, 100, none⟩), .pointer (some a), .int .u64 150]]).run Tryz.prog W = .ok (.bool false) W := by
  rw [rlm]
  simp only [Sem.run_bind, partsT, Result.andThen]
  simp [ReflectliteValue.isNil, loadVar, isAgg, underlying, Tryz.underlying100, ha, Result.andThen]
theorem methodElem (h : Value) (w : World) : (Go.method 334 162 (.agg #[h]) "Elem").run Tryz.prog w = .ok (173, .agg #[h]) w := by kernel_rfl
theorem methodImplements (h : Value) (w : World) : (Go.method 334 162 (.agg #[h]) "Implements").run Tryz.prog w = .ok (174, .agg #[h]) w := by kernel_rfl
theorem methodAssignableTo (h : Value) (w : World) : (Go.method 334 162 (.agg #[h]) "AssignableTo").run Tryz.prog w = .ok (171, .agg #[h]) w := by kernel_rfl
theorem elemT (w : World) : (ReflectliteType.method ReflectliteType.elem #[.agg #[.pointer (some ⟨4, 100, none⟩)]]).run Tryz.prog w = .ok (.iface 162 (.agg #[.pointer (some ⟨4, 98, none⟩)])) w := by kernel_rfl
theorem implementsF (w : World) : (ReflectliteType.relation "Implements" ReflectliteType.implements_ #[.agg #[.pointer (some ⟨4, 98, none⟩)], .iface 162 (.agg #[.pointer (some ⟨4, 64, none⟩)])]).run Tryz.prog w = .ok (.bool true) w := by kernel_rfl
theorem typeOfF (v : Value) (w : World) : (ReflectliteType.typeOf #[.iface 98 v]).run Tryz.prog w = .ok (.iface 162 (.agg #[.pointer (some ⟨4, 98, none⟩)])) w := by kernel_rfl
theorem assignableF (w : World) : (ReflectliteType.relation "AssignableTo" ReflectliteType.assignableTo #[.agg #[.pointer (some ⟨4, 98, none⟩)], .iface 162 (.agg #[.pointer (some ⟨4, 98, none⟩)])]).run Tryz.prog w = .ok (.bool true) w := by kernel_rfl
theorem valueOfF (x y : Value) (w : World) : (ReflectliteValue.unpack (.iface 98 (.agg #[x, y]))).run Tryz.prog w
    = .ok (.agg #[.pointer (some ⟨4, 98, none⟩), .pointer (some ⟨w.heap.size, 0, none⟩), .int .u64 153]) (w.alloc (.cells #[x, y] 98)) := by kernel_rfl
theorem elemOfT (w : World) : (Rtype.elem? 100).run Tryz.prog w = .ok (some 98) w := by kernel_rfl
theorem mkF (p : Addr) (w : World) : (ReflectliteValue.mk 98 p ReflectliteValue.flagAddr).run Tryz.prog w = .ok (.agg #[.pointer (some ⟨4, 98, none⟩), .pointer (some p), .int .u64 409]) w := by kernel_rfl
theorem elemVT (a p : Addr) (W : World) (ha : W.cell? a = some (.pointer (some p))) :
    (ReflectliteValue.method (ReflectliteValue.valueError "reflectlite.Value.Elem" 0) ReflectliteValue.elem #[.agg #[.pointer (some ⟨4, 100, none⟩), .pointer (some a), .int .u64 150]]).run Tryz.prog W
      = .ok (.agg #[.pointer (some ⟨4, 98, none⟩), .pointer (some p), .int .u64 409]) W := by
  rw [rlm]
  simp only [Sem.run_bind, partsT, Result.andThen]
  simp [ReflectliteValue.elem, loadVar, isAgg, underlying, Tryz.underlying100, ha, Result.andThen, elemOfT, mkF]
theorem rls (v x : Value) : ReflectliteValue.set #[v, x] = (do
    let (some (dst, a, fl), some (src, b, _)) := (← ReflectliteValue.parts v, ← ReflectliteValue.parts x)
      | unsupported (.noEntry "extern/(internal/reflectlite.Value).Set.zeroValue")
    if fl / ReflectliteValue.flagAddr % 2 == 0 then unsupported (.noEntry "extern/(internal/reflectlite.Value).Set.unaddressable")
    let val ← loadVar src b
    if ← Rtype.directlyAssignable dst src then storeVar dst a val
    else if ← Rtype.implements dst src then
      if (← Rtype.kind src) == 20 then
        match val with
        | .nilIface => unsupported (.noEntry "extern/reflectlite: a nil value of one interface type handed on as a value of another")
        | _ => storeVar dst a val
      else storeVar dst a (.iface src val)
    else panicString ("reflectlite.Set: value of type " ++ (← Rtype.spelt src) ++ " is not assignable to type " ++ (← Rtype.spelt dst))
    pure (.tuple #[])) := rfl
theorem partsFa (a : Addr) (w : World) : (ReflectliteValue.parts (.agg #[.pointer (some ⟨4, 98, none⟩), .pointer (some a), .int .u64 409])).run Tryz.prog w = .ok (some (98, a, 409)) w := by kernel_rfl
theorem partsF (a : Addr) (w : World) : (ReflectliteValue.parts (.agg #[.pointer (some ⟨4, 98, none⟩), .pointer (some a), .int .u64 153])).run Tryz.prog w = .ok (some (98, a, 153)) w := by kernel_rfl
theorem directF (w : World) : (Rtype.directlyAssignable 98 98).run Tryz.prog w = .ok true w := by kernel_rfl
theorem sizeF (w : World) : (sizeOf 98).run Tryz.prog w = .ok 2 w := by kernel_rfl
theorem aggF (w : World) : (isAgg 98).run Tryz.prog w = .ok true w := by kernel_rfl
theorem setF (b s : Nat) (x y o1 o2 : Value) (hx : x.oneCell' = true) (hy : y.oneCell' = true) (W : World) (hs : Box W s 98 [x, y]) (hb : Box W b 98 [o1, o2]) :
    ∃ W', (ReflectliteValue.set #[.agg #[.pointer (some ⟨4, 98, none⟩), .pointer (some ⟨b, 0, none⟩), .int .u64 409], .agg #[.pointer (some ⟨4, 98, none⟩), .pointer (some ⟨s, 0, none⟩), .int .u64 153]]).run Tryz.prog W
      = .ok (.tuple #[]) W' ∧ Chg [b] W W' ∧ Box W' b 98 [x, y] := by
  obtain ⟨W', h2, h3, h4⟩ := run_storeBox (P := Tryz.prog) [x, y] [o1, o2] 0 W hb (one_cons hx (one_cons hy one_nil)) ⟨b, 0, none⟩ 0 rfl rfl (Nat.le_refl 2) rfl
  refine ⟨W', ?_, h3, h4⟩
  have hl := run_loadCells (P := Tryz.prog) (w := W) (a := ⟨s, 0, none⟩) [x, y] 0 #[] (fun j u hu => by rw [Nat.zero_add]; rw [add_at]; exact hs.cell hu)
  rw [rls]
  simp only [Sem.run_bind, partsFa, partsF, Result.andThen]
  simp only [List.length_cons, List.length_nil, Nat.zero_add, Nat.reduceAdd] at hl
  simp [ReflectliteValue.flagAddr, loadVar, loadCells, aggF, sizeF, hl, Result.andThen, directF, storeVar, Value.cells, h2]
set_option maxHeartbeats 8000000 in
set_option maxRecDepth 100000 in
theorem as_hit (x y o1 o2 : Value) (hx : x.oneCell' = true) (hy : y.oneCell' = true) (b : Nat) (w : World) (hg : w.cell? ⟨0, 0, none⟩ = some (.iface 162 (.agg #[.pointer (some ⟨4, 64, none⟩)]))) (hb : Box w b 98 [o1, o2]) :
    Calls Tryz.prog 61 #[.iface 98 (.agg #[x, y]), .iface 100 (.pointer (some ⟨b, 0, none⟩))] w fun ev w' => ev = .returned (.bool true) ∧ Chg [b] w w' ∧ Box w' b 98 [x, y] := by
  have h6 := @run_callFunc_extern Tryz.prog 92 _ (fun args => ReflectliteValue.unpack (args.getD 0 (.tuple #[]))) Tryz.func92 (by kernel_rfl) (by kernel_rfl) (by kernel_rfl) (by kernel_rfl)
  have h7 := @run_callFunc_extern Tryz.prog 93 _ (ReflectliteValue.methodAny (ReflectliteValue.valueError "reflectlite.Value.Type" 0) (fun t _ _ _ => ReflectliteType.toType t)) Tryz.func93 (by kernel_rfl) (by kernel_rfl) (by kernel_rfl) (by kernel_rfl)
  have h8 := @run_callFunc_extern Tryz.prog 94 _ (ReflectliteValue.method (ReflectliteValue.valueError "reflectlite.Value.IsNil" 0) ReflectliteValue.isNil) Tryz.func94 (by kernel_rfl) (by kernel_rfl) (by kernel_rfl) (by kernel_rfl)
  have h27 := @run_callFunc_extern Tryz.prog 160 _ (ReflectliteType.abiMethod fun t => do pure (.int .u8 (← Rtype.kind t))) Tryz.func160 (by kernel_rfl) (by kernel_rfl) (by kernel_rfl) (by kernel_rfl)
  have h37 := @run_callFunc_extern Tryz.prog 173 _ (ReflectliteType.method ReflectliteType.elem) Tryz.func173 (by kernel_rfl) (by kernel_rfl) (by kernel_rfl) (by kernel_rfl)
  have h38 := @run_callFunc_extern Tryz.prog 174 _ (ReflectliteType.relation "Implements" ReflectliteType.implements_) Tryz.func174 (by kernel_rfl) (by kernel_rfl) (by kernel_rfl) (by kernel_rfl)
  have h10 := @run_callFunc_extern Tryz.prog 110 _ ReflectliteType.typeOf Tryz.func110 (by kernel_rfl) (by kernel_rfl) (by kernel_rfl) (by kernel_rfl)
  have h35 := @run_callFunc_extern Tryz.prog 171 _ (ReflectliteType.relation "AssignableTo" ReflectliteType.assignableTo) Tryz.func171 (by kernel_rfl) (by kernel_rfl) (by kernel_rfl) (by kernel_rfl)
  have h11 := @run_callFunc_extern Tryz.prog 111 _ (ReflectliteValue.method (ReflectliteValue.valueError "reflectlite.Value.Elem" 0) ReflectliteValue.elem) Tryz.func111 (by kernel_rfl) (by kernel_rfl) (by kernel_rfl) (by kernel_rfl)
  have h12 := @run_callFunc_extern Tryz.prog 112 _ ReflectliteValue.set Tryz.func112 (by kernel_rfl) (by kernel_rfl) (by kernel_rfl) (by kernel_rfl)
  have tO := typeOfF
  have mA := methodAssignableTo
  have a25 := assignableF
  have v25 := valueOfF
  have f6 := valueOfT
  have f7 := typeT
  have mK := methodKind
  have mE := methodElem
  have mI := methodImplements
  have k27 := kindT
  have k25 := kindF
  have e27 := elemT
  have i25 := implementsF
  have n8 := isNilT ⟨w.heap.size, 0, none⟩ ⟨b, 0, none⟩ ((w.alloc (.cells #[.pointer (some ⟨b, 0, none⟩)] 100)).alloc (.cells #[.pointer (some ⟨4, 100, none⟩), .pointer (some ⟨w.heap.size, 0, none⟩), .int .u64 150] 134)) (by simp)
  have hlt : 0 < w.heap.size := by
    rcases Nat.eq_zero_or_pos w.heap.size with h0 | h
    · simp [World.cell?, h0] at hg
    · exact h
  have hg2 : ((w.alloc (.cells #[.pointer (some ⟨b, 0, none⟩)] 100)).alloc (.cells #[.pointer (some ⟨4, 100, none⟩), .pointer (some ⟨w.heap.size, 0, none⟩), .int .u64 150] 134)).cell? ⟨0, 0, none⟩ = some (.iface 162 (.agg #[.pointer (some ⟨4, 64, none⟩)])) := by
    rw [World.cell?_alloc_lt _ _ ⟨0, 0, none⟩ (by simp), World.cell?_alloc_lt _ _ ⟨0, 0, none⟩ hlt]; exact hg
  have el := elemVT ⟨w.heap.size, 0, none⟩ ⟨b, 0, none⟩ (((w.alloc (.cells #[.pointer (some ⟨b, 0, none⟩)] 100)).alloc (.cells #[.pointer (some ⟨4, 100, none⟩), .pointer (some ⟨w.heap.size, 0, none⟩), .int .u64 150] 134)).alloc (.cells #[.pointer (some ⟨4, 100, none⟩), .pointer (some ⟨w.heap.size, 0, none⟩), .int .u64 150] 134)) (by rw [World.cell?_alloc_lt _ _ ⟨w.heap.size, 0, none⟩ (by simp; omega)]; simp)
  obtain ⟨W5, st, hc5, hb5⟩ := setF b (w.heap.size + 1 + 1 + 1) x y o1 o2 hx hy ((((w.alloc (.cells #[.pointer (some ⟨b, 0, none⟩)] 100)).alloc (.cells #[.pointer (some ⟨4, 100, none⟩), .pointer (some ⟨w.heap.size, 0, none⟩), .int .u64 150] 134)).alloc (.cells #[.pointer (some ⟨4, 100, none⟩), .pointer (some ⟨w.heap.size, 0, none⟩), .int .u64 150] 134)).alloc (.cells #[x, y] 98))
    (by have := Box.new (((w.alloc (.cells #[.pointer (some ⟨b, 0, none⟩)] 100)).alloc (.cells #[.pointer (some ⟨4, 100, none⟩), .pointer (some ⟨w.heap.size, 0, none⟩), .int .u64 150] 134)).alloc (.cells #[.pointer (some ⟨4, 100, none⟩), .pointer (some ⟨w.heap.size, 0, none⟩), .int .u64 150] 134)) 98 [x, y]; simpa using this)
    ((((hb.chg0 (Chg.alloc w _)).chg0 (Chg.alloc _ _)).chg0 (Chg.alloc _ _)).chg0 (Chg.alloc _ _))
  have hch : Chg [b] w W5 := ((((Chg.alloc w _).then (Chg.alloc _ _) (by simp)).then (Chg.alloc _ _) (by simp)).then (Chg.alloc _ (.cells #[x, y] 98)) (by simp)).trans hc5
  go_enter Tryz.func61, Tryz.ntmps61
  go_wp2
  refine wp_loop_rounds 1 ?_
  rw [rounds_succ]
  go_wp2
  go_ret
  exact ⟨rfl, hch, hb5⟩
end Go.Proofs.YtaljccgfnmfhnaaGreatDoorG
set_option linter.all false
namespace Go.Proofs.YtaljccgfnmfhnaaGreatDoorG
open Go Go.RowKit
abbrev Er := Option (Int × Int)
abbrev errV (x : Er) : Value := match x with
  | none => .nilIface
  | some p => .iface 98 (.agg #[.int .i64 p.1, .int .i64 p.2])
def wrongS (e at_ : Int) : Er := if e = 0 then none else some (e, at_)
def toldS : Er → Int × Int
  | none => (0, 0)
  | some p => p
def ET (z : Z) : Prop := z 0 = some #[.iface 162 (.agg #[.pointer (some ⟨4, 64, none⟩)])]
theorem ET.mono {z z' : Z} (h : ET z) (hz : zle z z') : ET z' := hz _ _ h
theorem ET.cell {z : Z} {w : World} (h : ET z) (hw : Sub z w) : w.cell? ⟨0, 0, none⟩ = some (.iface 162 (.agg #[.pointer (some ⟨4, 64, none⟩)])) := by
  have := hw _ _ h
  unfold cellsAt at this
  simp only [World.cell?]
  split at this
  · rename_i cs T fz heq
    injection this with this
    subst this
    rw [heq]
    rfl
  · cases this
theorem Chg.sp {z : Z} {w w' : World} {rs out : List Res} (hI : In z w rs) (hc : Chp (FF rs) w w') (ha : ∀ r ∈ out, r.P w') (hn : ∀ r ∈ out, ∀ k, r.F k → FF rs k) (hs : out.Pairwise Ap) : Sp (FF rs) w z w' out := ⟨hI.sub, hI.dz, hc, ha, fun r hr k hk => .inl (hn r hr k hk), hs⟩
theorem as_calls (a0 : Er) (ba1 : Nat) (a1 : TFault) (z : Z) (w : World) (hI : In z w [bR ba1 98 [.int .i64 a1.e, .int .i64 a1.at_]]) (p0 : ET z) :
    Calls Tryz.prog 61 #[errV a0, .iface 100 (.pointer (some ⟨ba1, 0, none⟩))] w fun e w' => e = .returned (.bool a0.isSome) ∧
      Sp (FF [bR ba1 98 [.int .i64 a1.e, .int .i64 a1.at_]]) w z w' [bR ba1 98 [.int .i64 (a0.elim a1 (fun p => ⟨p.1, p.2⟩)).e, .int .i64 (a0.elim a1 (fun p => ⟨p.1, p.2⟩)).at_]] := by
  cases a0 with
  | none =>
    refine (as_nil _ w).mono ?_
    rintro e w' ⟨rfl, rfl⟩
    exact ⟨rfl, hI.sp⟩
  | some p =>
    refine (as_hit (.int .i64 p.1) (.int .i64 p.2) _ _ rfl rfl ba1 w (p0.cell hI.sub) (hI.all _ List.mem_cons_self)).mono ?_
    rintro e w' ⟨rfl, hc, hb⟩
    refine ⟨rfl, Chg.sp hI (hc.chp.mono fun i hi => .inl ⟨_, List.mem_cons_self, List.mem_singleton.1 hi⟩) ?_ ?_ (List.pairwise_singleton _ _)⟩
    · intro r hr
      rw [List.mem_singleton.1 hr]
      exact hb
    · intro r hr k hk
      rw [List.mem_singleton.1 hr] at hk
      exact ⟨_, List.mem_cons_self, hk⟩
section
variable {P : Program} {o : Oper} {f : Fr} {w : World}
theorem R_erne {T T' : TypeId} {x : Operand} {e : Er} {ms : Array (String × TypeId)} (ho : o.op = .binOp .neq T x (.const .nilIface) T') (hx : ev f x = some (errV e)) (hT : P.underlying T = some (.interface ms)) : Runs P o f w (.bool e.isSome) w := by
  cases e with
  | none =>
    refine R_bin ho hx rfl ?_ ?_
    · simp [eqGuard]
    · have h : ∀ d : Nat, (Op.equalIn (d + 1) T .nilIface .nilIface).run P w = .ok true w := fun d => by simp [Op.equalIn, Sem.run_bind, run_underlying hT, Result.andThen]
      simp only [binOp]
      simp [Op.equal, Op.maxDepth, h 9999]
  | some p =>
    refine R_bin ho hx rfl ?_ ?_
    · simp [eqGuard]
    · have h : ∀ d : Nat, (Op.equalIn (d + 1) T (errV (some p)) .nilIface).run P w = .ok false w := fun d => by simp [Op.equalIn, errV, Sem.run_bind, run_underlying hT, Result.andThen]
      simp only [binOp]
      simp [Op.equal, Op.maxDepth, h 9999]
end
end Go.Proofs.YtaljccgfnmfhnaaGreatDoorG
set_option linter.all false
set_option maxHeartbeats 8000000
set_option maxRecDepth 100000
namespace Go.Proofs.YtaljccgfnmfhnaaGreatDoorG
open Go Go.RowKit
theorem alloc98 (w : World) : (Instr.alloc 98 true (.tuple #[])).run Tryz.prog w = .ok (.pointer (some ⟨w.heap.size, 0, none⟩)) (w.alloc (.cells [.int .i64 0, .int .i64 0].toArray 98)) := by kernel_rfl
theorem conc100 : Tryz.prog.concrete 100 = true := by kernel_rfl
theorem ent61 (args : Array Value) (w : World) : (callFunc 61 args).run Tryz.prog w = .ok (.enter 61 args) w := enters Tryz.func61 (by kernel_rfl) rfl args w
theorem fld98_0 (a : Addr) (w : World) : (Instr.fieldAt 98 (.pointer (some a)) 0).run Tryz.prog w = .ok (.pointer (some (a.add 0))) w := by kernel_rfl
theorem agg31 (w : World) : (isAgg 31).run Tryz.prog w = .ok false w := by kernel_rfl
theorem fld98_1 (a : Addr) (w : World) : (Instr.fieldAt 98 (.pointer (some a)) 1).run Tryz.prog w = .ok (.pointer (some (a.add 1))) w := by kernel_rfl
theorem conc98 : Tryz.prog.concrete 98 = true := by kernel_rfl
theorem ent114 (args : Array Value) (w : World) : (callFunc 114 args).run Tryz.prog w = .ok (.enter 114 args) w := enters Tryz.func114 (by kernel_rfl) rfl args w
theorem ent96 (args : Array Value) (w : World) : (callFunc 96 args).run Tryz.prog w = .ok (.enter 96 args) w := enters Tryz.func96 (by kernel_rfl) rfl args w
theorem mk3 : (Tryz.prog.info? 3).map (fun i => (i.zero.map (fun z => z.cells.toList), i.size, i.bytes)) = some (some [.int .i64 0], 1, 8) := by kernel_rfl
end Go.Proofs.YtaljccgfnmfhnaaGreatDoorG
