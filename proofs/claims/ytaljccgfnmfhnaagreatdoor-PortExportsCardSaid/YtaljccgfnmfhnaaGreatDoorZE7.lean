/- Walks and laws of this program: part 7. -/
import Derived.ChangeArms
import Derived.ChangeOld
import Derived.Handed
import Derived.HandedShaped
import Derived.LaidHandle
import Derived.Lay
import Derived.OpenShut
import Derived.ProofKit
import Derived.Shelf.Vars
import Derived.ShutString
import Derived.SizedLaws
import Derived.Test.YtaljccgfnmfhnaaGreatDoorZE6
import Derived.WalkKit
set_option linter.all false
set_option maxHeartbeats 8000000
set_option maxRecDepth 100000
namespace Go.Proofs.YtaljccgfnmfhnaaGreatDoorG
open Go Go.RowKit
theorem texts1_calls (la0 : Nat) (γa0 : Type) (Ra0 : List TCell × Bool → γa0 → Res) (ya0 : γa0) (zca0 : Z) (ba1 : Nat) (a1 : List (List St)) (Aa1 : Option Addr) (ca1 : Nat) (z : Z) (w : World) (hI : In z w [Ra0 ([], true) ya0, bR ba1 22 [.slice Aa1 a1.length ca1]]) (hfa0 : YV Tryz.prog zca0 la0 (fun x_ : TCell => [.agg #[.int .i64 x_.Row, .int .i64 x_.Col, vstr x_.Text, .int .i64 x_.Style.Align, .int .i64 x_.Style.Wrap, .int .i64 x_.Style.Dir]]) Ra0 (fun h_ x_ => h_ ++ [x_] <+: cellsS a1)) (hza0 : zle zca0 z) (hra1 : Rd (kslice kstr) z Aa1 a1) (hca1 : Cap Aa1 a1.length ca1)  :
    Calls Tryz.prog 97 #[.func (.yield la0) #[] #[], .pointer (some ⟨ba1, 0, none⟩)] w fun e w' => ∃ v_ pre_ b_ y_, e = .returned v_ ∧ (b_ = true → pre_ = cellsS a1) ∧ pre_ <+: cellsS a1 ∧ Sp (FF [Ra0 ([], true) ya0, bR ba1 22 [.slice Aa1 a1.length ca1]]) w z w' [Ra0 (pre_, b_) y_, bR ba1 22 [.slice Aa1 a1.length ca1]] := by
 have hla1 := hca1.le
 have hma1 := hca1.mx
 have hS := hI.sp
 refine Calls_of (vs := [.func (.yield la0) #[] #[], .pointer (some ⟨ba1, 0, none⟩)]) (N := 34) Tryz.func97 rfl rfl (Nat.le_of_ble_eq_true rfl) ?_
 refine C_seq <| C_region <| wv rfl rfl rfl (R_load1 rfl rfl agg22 ((hS.bx 1 rfl).cell rfl)) <| wv rfl rfl rfl (R_len rfl rfl Tryz.underlying22) <| wv rfl rfl rfl (R_move rfl rfl) ?_
 refine W_nil <| E_then <| C_block ?_
 have hh3 : ([], true) = (celU a1 (0 : Nat) 0, true) := by rw [celU_start]
 have hS := hS.cbr Ra0 0 rfl hh3
 refine C_fr [(0, .func (.yield la0) #[] #[]), (7, .slice Aa1 a1.length ca1), (8, .int .i64 (a1.length : Int)), (9, .int .i64 0)] rfl ?_
 refine C_loop (fun m_ f_ w_ => ∃ (i : Nat) (y1 : γa0), f_ = [(0, .func (.yield la0) #[] #[]), (7, .slice Aa1 a1.length ca1), (8, .int .i64 (a1.length : Int)), (9, .int .i64 (i : Int))] ∧ i ≤ a1.length ∧ m_ = a1.length - i ∧ Sp (FF [Ra0 ([], true) ya0, bR ba1 22 [.slice Aa1 a1.length ca1]]) w z w_ [Ra0 (celU a1 i 0, true) y1, bR ba1 22 [.slice Aa1 a1.length ca1]]) (a1.length - (0 : Nat)) ⟨(0 : Nat), ya0, rfl, (by omega), rfl, hS.fin [0, 1] (by decide) rfl⟩ ?_
 rintro m_ f_ w2 ⟨i, y1, rfl, hI0_0, rfl, hS⟩
 refine C_seq <| C_region <| wv rfl rfl rfl (R_bin rfl rfl rfl rfl rfl) ?_
 refine W_nil <| E_then <| C_seq <| C_ite rfl (fun hC0 => ?_) (fun hC0 => ?_)
 ·have hC0p : (i : Int) < (a1.length : Int) := by simpa using hC0
  refine C_skip <| E_then <| C_seq <| C_block <| C_seq <| C_region <| wv rfl rfl rfl (R_move rfl rfl) ?_
  obtain ⟨q4, csq4, hAq4, ⟨Aq4, cq4, rfl, hcq4, hrq4⟩, hkq4⟩ := hra1.at_ [] (i := (i : Int)) (by omega) (by omega)
  have hkq4 : ∀ (j_ : Nat) (u_ : Value), ([.slice Aq4 (a1.getD i []).length cq4] : List Value)[j_]? = some u_ → cz z (q4.add (i * 1 + j_)) = some u_ := hkq4
  have hrq4 : Rd kstr z Aq4 ((a1.getD i [])) := hrq4
  have hcq4 : Cap Aq4 ((a1.getD i [])).length cq4 := hcq4
  have hlq4 := hcq4.le
  have hmq4 := hcq4.mx
  refine wv rfl rfl rfl (R_idx rfl rfl hAq4 rfl Tryz.underlying22 size43 (by omega) (by omega)) <| wv rfl rfl rfl (R_load1 rfl rfl agg43 (hS.sub.cell (hkq4 0 _ rfl))) <| wv rfl rfl rfl (R_assign rfl rfl) <| wv rfl rfl rfl (R_assign rfl rfl) ?_
  refine W_nil <| E_then <| C_seq <| C_region <| wv rfl rfl rfl (R_move rfl rfl) <| wv rfl rfl rfl (R_len rfl rfl Tryz.underlying43) <| wv rfl rfl rfl (R_move rfl rfl) ?_
  refine W_nil <| E_then (C_fr [(0, .func (.yield la0) #[] #[]), (3, .int .i64 (i : Int)), (7, .slice Aa1 a1.length ca1), (8, .int .i64 (a1.length : Int)), (9, .int .i64 (i : Int)), (14, .slice Aq4 (a1.getD i []).length cq4), (15, .int .i64 ((a1.getD i []).length : Int)), (16, .int .i64 0)] rfl ?_)
  refine C_block ?_
  have hh7 : (celU a1 i 0, true) = (celU a1 i (0 : Nat), true) := by rfl
  have hS := hS.cbr Ra0 0 rfl hh7
  refine C_fr [(0, .func (.yield la0) #[] #[]), (3, .int .i64 (i : Int)), (7, .slice Aa1 a1.length ca1), (8, .int .i64 (a1.length : Int)), (9, .int .i64 (i : Int)), (14, .slice Aq4 (a1.getD i []).length cq4), (15, .int .i64 ((a1.getD i []).length : Int)), (16, .int .i64 0)] rfl ?_
  refine C_loop (fun m_ f_ w_ => ∃ (k : Nat) (y5 : γa0), f_ = [(0, .func (.yield la0) #[] #[]), (3, .int .i64 (i : Int)), (7, .slice Aa1 a1.length ca1), (8, .int .i64 (a1.length : Int)), (9, .int .i64 (i : Int)), (14, .slice Aq4 (a1.getD i []).length cq4), (15, .int .i64 ((a1.getD i []).length : Int)), (16, .int .i64 (k : Int))] ∧ k ≤ (a1.getD i []).length ∧ m_ = (a1.getD i []).length - k ∧ Sp (FF [Ra0 ([], true) ya0, bR ba1 22 [.slice Aa1 a1.length ca1]]) w z w_ [Ra0 (celU a1 i k, true) y5, bR ba1 22 [.slice Aa1 a1.length ca1]]) ((a1.getD i []).length - (0 : Nat)) ⟨(0 : Nat), y1, rfl, (by omega), rfl, hS.fin [0, 1] (by decide) rfl⟩ ?_
  rintro m_ f_ w6 ⟨k, y5, rfl, hI1_0, rfl, hS⟩
  refine C_seq <| C_region <| wv rfl rfl rfl (R_bin rfl rfl rfl rfl rfl) ?_
  refine W_nil <| E_then <| C_seq <| C_ite rfl (fun hC1 => ?_) (fun hC1 => ?_)
  ·have hC1p : (k : Int) < ((a1.getD i []).length : Int) := by simpa using hC1
   refine C_skip <| E_then <| C_seq <| C_block <| C_seq <| C_region <| wv rfl rfl rfl (R_move rfl rfl) ?_
   obtain ⟨q8, csq8, hAq8, rfl, hkq8⟩ := hrq4.at_ ([] : St) (i := (k : Int)) (by omega) (by omega)
   have hkq8 : ∀ (j_ : Nat) (u_ : Value), ([vstr ((a1.getD i []).getD k ([] : St))] : List Value)[j_]? = some u_ → cz z (q8.add (k * 1 + j_)) = some u_ := hkq8
   refine wv rfl rfl rfl (R_idx rfl rfl hAq8 rfl Tryz.underlying43 size9 (by omega) (by omega)) <| wv rfl rfl rfl (R_load1 rfl rfl agg9 (hS.sub.cell (hkq8 0 _ rfl))) <| wv rfl rfl rfl (R_assign rfl rfl) <| wv rfl rfl rfl (R_assign rfl rfl) ?_
   refine W_nil <| E_then <| C_seq <| C_region <| wv rfl rfl rfl (R_move rfl rfl) <| wv rfl rfl rfl (R_strneq rfl rfl rfl) <| wv rfl rfl rfl (R_move rfl rfl) ?_
   refine W_split (t := 23) rfl (fun hg9 => ?_) (fun hg9 => ?_)
   ·have hg9p : ¬ ((a1.getD i []).getD k ([] : St)) = [] := by simpa using hg9
    refine W_cons rfl (by decide) (Sv_gt rfl rfl rfl hg9 (Sv_val rfl (R_move rfl rfl) ?_))
    refine W_cons rfl (by decide) (Sv_gt rfl rfl rfl hg9 (Sv_val rfl (R_move rfl rfl) ?_))
    refine W_cons rfl (by decide) (Sv_gt rfl rfl rfl hg9 (Sv_val rfl (R_move rfl rfl) ?_))
    refine W_cons rfl (by decide) (Sv_gt rfl rfl rfl hg9 (Sv_val rfl (R_move rfl rfl) ?_))
    refine W_cons rfl (by decide) (Sv_gt rfl rfl rfl hg9 (Sv_val rfl (R_build (w' := w6) (ps := [(0, (.tmp 25)), (1, (.tmp 26)), (2, (.tmp 27))]) (vs := [.int .i64 (i : Int), .int .i64 (k : Int), vstr ((a1.getD i []).getD k ([] : St))]) (r := .agg #[.int .i64 (i : Int), .int .i64 (k : Int), vstr ((a1.getD i []).getD k ([] : St)), .int .i64 0, .int .i64 0, .int .i64 0]) rfl rfl rfl (by kernel_rfl)) ?_))
    refine W_cons rfl (by decide) (Sv_gt rfl rfl rfl hg9 (S_yield (h := celU a1 i k) (y := y5) hfa0 hS 0 rfl hza0 (⟨(i : Int), (k : Int), ((a1.getD i []).getD k ([] : St)), (⟨0, 0, 0⟩ : TStyle)⟩ : TCell) (by exact celU_more (by omega) (by omega) (by assumption)) rfl rfl rfl rfl (fun b12 y11 w10 hS => ?_)))
    refine W_cons rfl (by decide) (Sv_gt rfl rfl rfl hg9 (Sv_val rfl (R_un rfl rfl rfl) ?_))
    refine wv rfl rfl rfl (R_pick_t rfl rfl hg9 rfl) ?_
    refine W_nil <| E_then (C_fr [(0, .func (.yield la0) #[] #[]), (3, .int .i64 (i : Int)), (7, .slice Aa1 a1.length ca1), (8, .int .i64 (a1.length : Int)), (9, .int .i64 (i : Int)), (14, .slice Aq4 (a1.getD i []).length cq4), (15, .int .i64 ((a1.getD i []).length : Int)), (16, .int .i64 (k : Int)), (31, .bool !b12)] rfl ?_)
    refine C_ite rfl (fun hC2 => ?_) (fun hC2 => ?_)
    ·have hC2p : ¬ (b12 = true) := by simpa using hC2
     refine C_ret <| E_block_ret <| E_then_ret <| E_then_ret <| E_block_ret <| E_block_ret <| E_then_ret <| E_then_ret <| E_block_ret <| E_ret0 rfl ?_
     exact ⟨_, celU a1 i k ++ [(⟨(i : Int), (k : Int), ((a1.getD i []).getD k ([] : St)), (⟨0, 0, 0⟩ : TStyle)⟩ : TCell)], b12, y11, rfl, (by (intro h_; simp_all; done)), (by exact celU_more (by omega) (by omega) (by assumption)), hS.fin [0, 1] (by decide) rfl⟩
    ·have hC2p : (b12 = true) := by simpa using hC2
     refine C_skip <| E_block_normal <| E_then <| C_region <| wv rfl rfl rfl (R_add64 rfl rfl rfl (by omega) (by omega)) <| wv rfl rfl rfl (R_move rfl rfl) ?_
     refine W_nil ?_
     have hh13 : (celU a1 i k ++ [(⟨(i : Int), (k : Int), ((a1.getD i []).getD k ([] : St)), (⟨0, 0, 0⟩ : TStyle)⟩ : TCell)], b12) = (celU a1 i (k + 1 : Nat), true) := by (rw [celU_hit (by omega) (by assumption)]; exact Prod.ext rfl (by assumption))
     have hS := hS.cbr Ra0 0 rfl hh13
     refine E_round [0, 3, 7, 8, 9, 14, 15, 16] ?_ ⟨(k + 1 : Nat), y11, rfl, (by omega), rfl, hS.fin [0, 1] (by decide) rfl⟩
     omega
   ·have hg9p : ((a1.getD i []).getD k ([] : St)) = [] := by simpa using hg9
    refine W_cons rfl (by decide) (Sv_off rfl rfl rfl (by rw [hg9] <;> rfl) ?_)
    refine W_cons rfl (by decide) (Sv_off rfl rfl rfl (by rw [hg9] <;> rfl) ?_)
    refine W_cons rfl (by decide) (Sv_off rfl rfl rfl (by rw [hg9] <;> rfl) ?_)
    refine W_cons rfl (by decide) (Sv_off rfl rfl rfl (by rw [hg9] <;> rfl) ?_)
    refine W_cons rfl (by decide) (Sv_off rfl rfl rfl (by rw [hg9] <;> rfl) ?_)
    refine W_cons rfl (by decide) (Sv_off rfl rfl rfl (by rw [hg9] <;> rfl) ?_)
    refine W_cons rfl (by decide) (Sv_off rfl rfl rfl (by rw [hg9] <;> rfl) ?_)
    refine wv rfl rfl rfl (R_pick_f rfl rfl hg9 rfl) ?_
    refine W_nil <| E_then (C_fr [(0, .func (.yield la0) #[] #[]), (3, .int .i64 (i : Int)), (7, .slice Aa1 a1.length ca1), (8, .int .i64 (a1.length : Int)), (9, .int .i64 (i : Int)), (14, .slice Aq4 (a1.getD i []).length cq4), (15, .int .i64 ((a1.getD i []).length : Int)), (16, .int .i64 (k : Int)), (31, .bool false)] rfl ?_)
    refine C_else rfl rfl ?_
    refine C_skip <| E_block_normal <| E_then <| C_region <| wv rfl rfl rfl (R_add64 rfl rfl rfl (by omega) (by omega)) <| wv rfl rfl rfl (R_move rfl rfl) ?_
    refine W_nil ?_
    have hh14 : (celU a1 i k, true) = (celU a1 i (k + 1 : Nat), true) := by (rw [celU_skip (by omega) (by assumption)]; done)
    have hS := hS.cbr Ra0 0 rfl hh14
    refine E_round [0, 3, 7, 8, 9, 14, 15, 16] ?_ ⟨(k + 1 : Nat), y5, rfl, (by omega), rfl, hS.fin [0, 1] (by decide) rfl⟩
    omega
  ·have hC1p : ¬ ((k : Int) < ((a1.getD i []).length : Int)) := by simpa using hC1
   refine C_exit <| E_then_exit <| E_then_exit <| E_block_hit ?_
   refine E_block_normal <| E_then (C_fr [(0, .func (.yield la0) #[] #[]), (7, .slice Aa1 a1.length ca1), (8, .int .i64 (a1.length : Int)), (9, .int .i64 (i : Int))] rfl ?_)
   refine C_region <| wv rfl rfl rfl (R_add64 rfl rfl rfl (by omega) (by omega)) <| wv rfl rfl rfl (R_move rfl rfl) ?_
   refine W_nil ?_
   have hh15 : (celU a1 i k, true) = (celU a1 (i + 1 : Nat) 0, true) := by rw [celU_row (by omega) (by omega)]
   have hS := hS.cbr Ra0 0 rfl hh15
   refine E_round [0, 7, 8, 9] ?_ ⟨(i + 1 : Nat), y5, rfl, (by omega), rfl, hS.fin [0, 1] (by decide) rfl⟩
   omega
 ·have hC0p : ¬ ((i : Int) < (a1.length : Int)) := by simpa using hC0
  refine C_exit <| E_then_exit <| E_then_exit <| E_block_hit ?_
  refine E_end_normal ?_
  refine E_ret0 rfl ?_
  exact ⟨_, celU a1 i 0, true, y1, rfl, (by (intro _; exact celU_end (by omega))), (by (rw [celU_end (by omega)]; exact List.prefix_rfl)), hS.fin [0, 1] (by decide) rfl⟩
theorem iter_texts (a1 : List (List St)) (b : Nat) {A : Option Addr} {c : Nat} {z : Z} (hr : Rd (kslice kstr) z A a1) (hc : Cap A a1.length c) : Iter Tryz.prog z 97 [.pointer (some ⟨b, 0, none⟩)] (fun x_ : TCell => [.agg #[.int .i64 x_.Row, .int .i64 x_.Col, vstr x_.Text, .int .i64 x_.Style.Align, .int .i64 x_.Style.Wrap, .int .i64 x_.Style.Dir]]) [bR b 22 [.slice A a1.length c]] (cellsS a1) :=
  fun γ l R y z' zc w hz hzc hf hI => texts1_calls l γ R y zc b a1 A c z' w hI hf hzc (hr.mono hz) hc
theorem texts_calls (a0 : List (List St)) (Aa0 : Option Addr) (ca0 : Nat) (z : Z) (w : World) (hI : In z w []) (hra0 : Rd (kslice kstr) z Aa0 a0) (hca0 : Cap Aa0 a0.length ca0)  :
    Calls Tryz.prog 63 #[.slice Aa0 a0.length ca0] w fun e w' => ∃ (bFa0 : Nat), e = .returned (.func (.func 97) #[] #[.pointer (some ⟨bFa0, 0, none⟩)]) ∧ Sp (FF []) w z w' [bR bFa0 22 [.slice Aa0 a0.length ca0]] := by
 have hla0 := hca0.le
 have hma0 := hca0.mx
 have hS := hI.sp
 refine Calls_of (vs := [.slice Aa0 a0.length ca0]) (N := 4) Tryz.func63 rfl rfl (Nat.le_of_ble_eq_true rfl) ?_
 refine C_seq <| C_region <| W_cons rfl (by decide) (S_box hS rfl (R_box (cs := [.slice Aa0 a0.length ca0]) rfl rfl rfl) (fun b2 w1 hS => ?_))
 refine wv rfl rfl rfl (R_assign rfl rfl) ?_
 refine W_nil <| E_then <| C_seq <| C_region <| wv rfl rfl rfl (R_makeFunc rfl rfl) <| wv rfl rfl rfl (R_assign rfl rfl) ?_
 refine W_nil <| E_then <| C_ret <| E_ret1 rfl rfl ?_
 exact ⟨b2, Lret1 rfl, hS.fin [0] (by decide) rfl⟩
theorem mfill_calls (ba0 : Nat) (a0 : TMaker) (Aa0_Sheet_Widths : Option Addr) (ca0_Sheet_Widths : Nat) (Aa0_Sheet_Heights : Option Addr) (ca0_Sheet_Heights : Nat) (Aa0_Sheet_Cells : Option Addr) (ca0_Sheet_Cells : Nat) (Aa0_Sheet_Merges : Option Addr) (ca0_Sheet_Merges : Nat) (a1 : List (List St)) (Aa1 : Option Addr) (ca1 : Nat) (a2 : Int) (a3 : Int) (z : Z) (w : World) (hI : In z w [bR ba0 60 [.int .i64 a0.Sheet.Right, .slice Aa0_Sheet_Widths a0.Sheet.Widths.length ca0_Sheet_Widths, .slice Aa0_Sheet_Heights a0.Sheet.Heights.length ca0_Sheet_Heights, .slice Aa0_Sheet_Cells a0.Sheet.Cells.length ca0_Sheet_Cells, .slice Aa0_Sheet_Merges a0.Sheet.Merges.length ca0_Sheet_Merges], oR (kint .i64) 3 zE Aa0_Sheet_Widths ca0_Sheet_Widths a0.Sheet.Widths, oR (kint .i64) 3 zE Aa0_Sheet_Heights ca0_Sheet_Heights a0.Sheet.Heights, oR kdTCell 58 zE Aa0_Sheet_Cells ca0_Sheet_Cells a0.Sheet.Cells, oR kdTRect 76 zE Aa0_Sheet_Merges ca0_Sheet_Merges a0.Sheet.Merges]) (hra1 : Rd (kslice kstr) z Aa1 a1) (hca1 : Cap Aa1 a1.length ca1) (p0 : a1.length ≤ 10000) (p1 : widthS a1 ≤ 10000) (p2 : a0.Sheet.Cells.length ≤ 100000) :
    Calls Tryz.prog 29 #[.pointer (some ⟨ba0, 0, none⟩), .slice Aa1 a1.length ca1, .int .i64 a2, .int .i64 a3] w fun e w' => ∃ (Aa0_Sheet_Widths' : Option Addr) (ca0_Sheet_Widths' : Nat) (Aa0_Sheet_Heights' : Option Addr) (ca0_Sheet_Heights' : Nat) (Aa0_Sheet_Cells' : Option Addr) (ca0_Sheet_Cells' : Nat) (Aa0_Sheet_Merges' : Option Addr) (ca0_Sheet_Merges' : Nat), e = .returned (errV (wrongS (faultS a1 a2 a3) 0)) ∧ Sp (FF [bR ba0 60 [.int .i64 a0.Sheet.Right, .slice Aa0_Sheet_Widths a0.Sheet.Widths.length ca0_Sheet_Widths, .slice Aa0_Sheet_Heights a0.Sheet.Heights.length ca0_Sheet_Heights, .slice Aa0_Sheet_Cells a0.Sheet.Cells.length ca0_Sheet_Cells, .slice Aa0_Sheet_Merges a0.Sheet.Merges.length ca0_Sheet_Merges], oR (kint .i64) 3 zE Aa0_Sheet_Widths ca0_Sheet_Widths a0.Sheet.Widths, oR (kint .i64) 3 zE Aa0_Sheet_Heights ca0_Sheet_Heights a0.Sheet.Heights, oR kdTCell 58 zE Aa0_Sheet_Cells ca0_Sheet_Cells a0.Sheet.Cells, oR kdTRect 76 zE Aa0_Sheet_Merges ca0_Sheet_Merges a0.Sheet.Merges]) w z w' [bR ba0 60 [.int .i64 (⟨fillW a0.Sheet a1 a2 a3⟩ : TMaker).Sheet.Right, .slice Aa0_Sheet_Widths' (⟨fillW a0.Sheet a1 a2 a3⟩ : TMaker).Sheet.Widths.length ca0_Sheet_Widths', .slice Aa0_Sheet_Heights' (⟨fillW a0.Sheet a1 a2 a3⟩ : TMaker).Sheet.Heights.length ca0_Sheet_Heights', .slice Aa0_Sheet_Cells' (⟨fillW a0.Sheet a1 a2 a3⟩ : TMaker).Sheet.Cells.length ca0_Sheet_Cells', .slice Aa0_Sheet_Merges' (⟨fillW a0.Sheet a1 a2 a3⟩ : TMaker).Sheet.Merges.length ca0_Sheet_Merges'], oR (kint .i64) 3 zE Aa0_Sheet_Widths' ca0_Sheet_Widths' (⟨fillW a0.Sheet a1 a2 a3⟩ : TMaker).Sheet.Widths, oR (kint .i64) 3 zE Aa0_Sheet_Heights' ca0_Sheet_Heights' (⟨fillW a0.Sheet a1 a2 a3⟩ : TMaker).Sheet.Heights, oR kdTCell 58 zE Aa0_Sheet_Cells' ca0_Sheet_Cells' (⟨fillW a0.Sheet a1 a2 a3⟩ : TMaker).Sheet.Cells, oR kdTRect 76 zE Aa0_Sheet_Merges' ca0_Sheet_Merges' (⟨fillW a0.Sheet a1 a2 a3⟩ : TMaker).Sheet.Merges] := by
 have hla1 := hca1.le
 have hma1 := hca1.mx
 have hS := hI.sp
 have hp1 := hS.cap 1 rfl
 have hlhp1 := hp1.le
 have hmhp1 := hp1.mx
 have hp2 := hS.cap 2 rfl
 have hlhp2 := hp2.le
 have hmhp2 := hp2.mx
 have hp3 := hS.cap 3 rfl
 have hlhp3 := hp3.le
 have hmhp3 := hp3.mx
 have hp4 := hS.cap 4 rfl
 have hlhp4 := hp4.le
 have hmhp4 := hp4.mx
 refine Calls_of (vs := [.pointer (some ⟨ba0, 0, none⟩), .slice Aa1 a1.length ca1, .int .i64 a2, .int .i64 a3]) (N := 68) Tryz.func29 rfl rfl (Nat.le_of_ble_eq_true rfl) ?_
 refine C_seq <| C_region <| W_cons rfl (by decide) (S_box hS rfl (R_box (cs := [.pointer (some ⟨ba0, 0, none⟩)]) rfl rfl rfl) (fun b6 w5 hS => ?_))
 refine wv rfl rfl rfl (R_assign rfl rfl) ?_
 refine W_nil <| E_then <| C_seq <| C_block <| C_seq <| C_region <| wv rfl rfl rfl (R_move rfl rfl) <| wv rfl rfl rfl (R_bin rfl rfl rfl rfl rfl) <| wv rfl rfl rfl (R_move rfl rfl) <| wg rfl rfl (Gd.no rfl rfl rfl) (fun hB => R_move rfl rfl) <| wg rfl rfl (Gd.no rfl rfl rfl) (fun hB => Runs.at_ (i := 14) (gl rfl hB) (R_bin rfl rfl rfl rfl rfl)) <| wv rfl rfl rfl (R_pick_or rfl rfl rfl rfl) <| wv rfl rfl rfl (R_assign rfl rfl) ?_
 refine W_nil <| E_then (C_fr [(1, .slice Aa1 a1.length ca1), (2, .int .i64 a2), (3, .int .i64 a3), (4, .pointer (some ⟨b6, 0, none⟩)), (10, .bool ((decide (a2 < 1)) || (decide (a3 < 1))))] rfl ?_)
 refine C_ite rfl (fun hC0 => ?_) (fun hC0 => ?_)
 ·have hC0p : (a2 < 1 ∨ a3 < 1) := by simpa using hC0
  refine C_seq <| C_region <| wv rfl rfl rfl (R_build (w' := w5) (ps := [(0, (.const (.int .i64 1)))]) (vs := [.int .i64 1]) (r := .agg #[.int .i64 1, .int .i64 0]) rfl rfl rfl (by kernel_rfl)) <| wv rfl rfl rfl (R_iface rfl rfl conc98) <| wv rfl rfl rfl (R_assign rfl rfl) ?_
  refine W_nil <| E_then (C_fr [(8, .iface 98 (.agg #[.int .i64 1, .int .i64 0]))] rfl ?_)
  refine C_ret <| E_block_ret <| E_then_ret ?_
  have hq7 : a0.Sheet.Widths = (⟨fillW a0.Sheet a1 a2 a3⟩ : TMaker).Sheet.Widths := by (simp only [fillW_1 (m := a0.Sheet) (l := a1) (w := a2) (h := a3) (by omega)]; done)
  have hS := hS.re 2 rfl hq7
  have hq8 : a0.Sheet.Heights = (⟨fillW a0.Sheet a1 a2 a3⟩ : TMaker).Sheet.Heights := by (simp only [fillW_1 (m := a0.Sheet) (l := a1) (w := a2) (h := a3) (by omega)]; done)
  have hS := hS.re 3 rfl hq8
  have hq9 : a0.Sheet.Cells = (⟨fillW a0.Sheet a1 a2 a3⟩ : TMaker).Sheet.Cells := by (simp only [fillW_1 (m := a0.Sheet) (l := a1) (w := a2) (h := a3) (by omega)]; done)
  have hS := hS.re 4 rfl hq9
  have hq10 : a0.Sheet.Merges = (⟨fillW a0.Sheet a1 a2 a3⟩ : TMaker).Sheet.Merges := by (simp only [fillW_1 (m := a0.Sheet) (l := a1) (w := a2) (h := a3) (by omega)]; done)
  have hS := hS.re 5 rfl hq10
  have hv11 : a0.Sheet.Right = (⟨fillW a0.Sheet a1 a2 a3⟩ : TMaker).Sheet.Right := by (simp only [fillW_1 (m := a0.Sheet) (l := a1) (w := a2) (h := a3) (by omega)]; done)
  have hS := hS.as 1 rfl (r' := bR ba0 60 [.int .i64 (⟨fillW a0.Sheet a1 a2 a3⟩ : TMaker).Sheet.Right, .slice Aa0_Sheet_Widths (⟨fillW a0.Sheet a1 a2 a3⟩ : TMaker).Sheet.Widths.length ca0_Sheet_Widths, .slice Aa0_Sheet_Heights (⟨fillW a0.Sheet a1 a2 a3⟩ : TMaker).Sheet.Heights.length ca0_Sheet_Heights, .slice Aa0_Sheet_Cells (⟨fillW a0.Sheet a1 a2 a3⟩ : TMaker).Sheet.Cells.length ca0_Sheet_Cells, .slice Aa0_Sheet_Merges (⟨fillW a0.Sheet a1 a2 a3⟩ : TMaker).Sheet.Merges.length ca0_Sheet_Merges]) (fun h_ => by rw [← hq7, ← hq8, ← hq9, ← hq10, ← hv11]; exact h_) (fun _ h_ => h_)
  refine E_ret1 rfl rfl ?_
  exact ⟨Aa0_Sheet_Widths, ca0_Sheet_Widths, Aa0_Sheet_Heights, ca0_Sheet_Heights, Aa0_Sheet_Cells, ca0_Sheet_Cells, Aa0_Sheet_Merges, ca0_Sheet_Merges, Lret1 (show (.iface 98 (.agg #[.int .i64 1, .int .i64 0]) : Value) = errV (wrongS (faultS a1 a2 a3) 0) by (rw [faultS_1 (by omega)]; rfl)), hS.fin [1, 2, 3, 4, 5] (by decide) rfl⟩
 ·have hC0p : ¬ ((a2 < 1 ∨ a3 < 1)) := by simpa using hC0
  refine C_seq <| C_region <| wv rfl rfl rfl (R_move rfl rfl) ?_
  refine W_cons rfl (by decide) (Sv_call rfl rfl rfl ent26 ?_)
  refine (tcheck_calls a1 Aa1 ca1 _ _ hS.out0 (hra1.mono (hS.zl [])) hca1 (by assumption) (by assumption)).mono ?_
  rintro e_ w12 ⟨rfl, hS_⟩
  refine ⟨_, rfl, ?_⟩
  have hS := hS.call0 hS_
  refine wv rfl rfl rfl (R_bin rfl rfl rfl rfl rfl) <| wv rfl rfl rfl (R_move rfl rfl) <| wg rfl rfl (Gd.no rfl rfl rfl) (fun hB => R_move rfl rfl) <| wg rfl rfl (Gd.no rfl rfl rfl) (fun hB => Runs.at_ (i := 24) (gl rfl hB) (R_bin rfl rfl rfl rfl rfl)) <| wv rfl rfl rfl (R_pick_or rfl rfl rfl rfl) <| wv rfl rfl rfl (R_move rfl rfl) <| wg rfl rfl (Gd.no rfl rfl rfl) (fun hB => R_move rfl rfl) <| wg rfl rfl (Gd.no rfl rfl rfl) (fun hB => Runs.at_ (i := 28) (gl rfl hB) (R_bin rfl rfl rfl rfl rfl)) <| wv rfl rfl rfl (R_pick_or rfl rfl rfl rfl) <| wv rfl rfl rfl (R_assign rfl rfl) ?_
  refine W_nil <| E_then (C_fr [(1, .slice Aa1 a1.length ca1), (2, .int .i64 a2), (3, .int .i64 a3), (4, .pointer (some ⟨b6, 0, none⟩)), (19, .bool ((((checkS a1) != 0) || (decide (a2 > 60))) || (decide (a3 > 12))))] rfl ?_)
  refine C_ite rfl (fun hC1 => ?_) (fun hC1 => ?_)
  ·have hC1p : ((¬ (checkS a1) = 0 ∨ a2 > 60) ∨ a3 > 12) := by simpa using hC1
   refine C_seq <| C_region <| wv rfl rfl rfl (R_build (w' := w12) (ps := [(0, (.const (.int .i64 3)))]) (vs := [.int .i64 3]) (r := .agg #[.int .i64 3, .int .i64 0]) rfl rfl rfl (by kernel_rfl)) <| wv rfl rfl rfl (R_iface rfl rfl conc98) <| wv rfl rfl rfl (R_assign rfl rfl) ?_
   refine W_nil <| E_then (C_fr [(8, .iface 98 (.agg #[.int .i64 3, .int .i64 0]))] rfl ?_)
   refine C_ret <| E_block_ret <| E_then_ret ?_
   have hq14 : a0.Sheet.Widths = (⟨fillW a0.Sheet a1 a2 a3⟩ : TMaker).Sheet.Widths := by (simp only [fillW_3 (m := a0.Sheet) (l := a1) (w := a2) (h := a3) (by omega) (by omega)]; done)
   have hS := hS.re 2 rfl hq14
   have hq15 : a0.Sheet.Heights = (⟨fillW a0.Sheet a1 a2 a3⟩ : TMaker).Sheet.Heights := by (simp only [fillW_3 (m := a0.Sheet) (l := a1) (w := a2) (h := a3) (by omega) (by omega)]; done)
   have hS := hS.re 3 rfl hq15
   have hq16 : a0.Sheet.Cells = (⟨fillW a0.Sheet a1 a2 a3⟩ : TMaker).Sheet.Cells := by (simp only [fillW_3 (m := a0.Sheet) (l := a1) (w := a2) (h := a3) (by omega) (by omega)]; done)
   have hS := hS.re 4 rfl hq16
   have hq17 : a0.Sheet.Merges = (⟨fillW a0.Sheet a1 a2 a3⟩ : TMaker).Sheet.Merges := by (simp only [fillW_3 (m := a0.Sheet) (l := a1) (w := a2) (h := a3) (by omega) (by omega)]; done)
   have hS := hS.re 5 rfl hq17
   have hv18 : a0.Sheet.Right = (⟨fillW a0.Sheet a1 a2 a3⟩ : TMaker).Sheet.Right := by (simp only [fillW_3 (m := a0.Sheet) (l := a1) (w := a2) (h := a3) (by omega) (by omega)]; done)
   have hS := hS.as 1 rfl (r' := bR ba0 60 [.int .i64 (⟨fillW a0.Sheet a1 a2 a3⟩ : TMaker).Sheet.Right, .slice Aa0_Sheet_Widths (⟨fillW a0.Sheet a1 a2 a3⟩ : TMaker).Sheet.Widths.length ca0_Sheet_Widths, .slice Aa0_Sheet_Heights (⟨fillW a0.Sheet a1 a2 a3⟩ : TMaker).Sheet.Heights.length ca0_Sheet_Heights, .slice Aa0_Sheet_Cells (⟨fillW a0.Sheet a1 a2 a3⟩ : TMaker).Sheet.Cells.length ca0_Sheet_Cells, .slice Aa0_Sheet_Merges (⟨fillW a0.Sheet a1 a2 a3⟩ : TMaker).Sheet.Merges.length ca0_Sheet_Merges]) (fun h_ => by rw [← hq14, ← hq15, ← hq16, ← hq17, ← hv18]; exact h_) (fun _ h_ => h_)
   refine E_ret1 rfl rfl ?_
   exact ⟨Aa0_Sheet_Widths, ca0_Sheet_Widths, Aa0_Sheet_Heights, ca0_Sheet_Heights, Aa0_Sheet_Cells, ca0_Sheet_Cells, Aa0_Sheet_Merges, ca0_Sheet_Merges, Lret1 (show (.iface 98 (.agg #[.int .i64 3, .int .i64 0]) : Value) = errV (wrongS (faultS a1 a2 a3) 0) by (rw [faultS_3 (by omega) (by omega)]; rfl)), hS.fin [1, 2, 3, 4, 5] (by decide) rfl⟩
  ·have hC1p : ¬ (((¬ (checkS a1) = 0 ∨ a2 > 60) ∨ a3 > 12)) := by simpa using hC1
   obtain ⟨hck1, hck2, hck3, hck4⟩ := chk_fit (l := a1) (by omega)
   refine C_skip <| E_block_normal <| E_then <| C_seq <| C_fr [(1, .slice Aa1 a1.length ca1), (2, .int .i64 a2), (3, .int .i64 a3), (4, .pointer (some ⟨b6, 0, none⟩))] rfl ?_
   obtain ⟨q21, csq21, hAq21, ⟨Aq21, cq21, rfl, hcq21, hrq21⟩, hkq21⟩ := hra1.at_ [] (i := 0) (by omega) (by omega)
   have hkq21 : ∀ (j_ : Nat) (u_ : Value), ([.slice Aq21 (a1.getD 0 []).length cq21] : List Value)[j_]? = some u_ → cz z (q21.add (0 * 1 + j_)) = some u_ := hkq21
   have hrq21 : Rd kstr z Aq21 ((a1.getD 0 [])) := hrq21
   have hcq21 : Cap Aq21 ((a1.getD 0 [])).length cq21 := hcq21
   have hlq21 := hcq21.le
   have hmq21 := hcq21.mx
   have hS := hS.sel [1, 0, 2, 3, 4, 5] (by decide)
   refine C_drawn3 17 [bR ba0 60 [.int .i64 a0.Sheet.Right, .slice Aa0_Sheet_Widths a0.Sheet.Widths.length ca0_Sheet_Widths, .slice Aa0_Sheet_Heights a0.Sheet.Heights.length ca0_Sheet_Heights, .slice Aa0_Sheet_Cells a0.Sheet.Cells.length ca0_Sheet_Cells, .slice Aa0_Sheet_Merges a0.Sheet.Merges.length ca0_Sheet_Merges]] 22 [[], [], [], [2], [], [4], [5], [6], [3, 7], [], [9], [], [11], [10, 12, 8], [0, 0, 2, 3, 4, 5, 6, 7, 8, 13], [14, 0, 2, 3, 4, 5, 6, 7, 8, 13], [15, 0, 2, 3, 4, 5, 6, 7, 8, 13], [16, 8, 13, 0, 2, 3, 4, 5, 6, 7, 8, 13]] [some 33, some 34, some 35, some 36, some 37, some 38, some 39, some 40, some 41, some 42, some 43, some 44, some 45, some 46, some 47, some 48, some 49, none] [1, 2, 3, 4] [18, 18, 18, 18, 18, 18, 18, 18, 17, 18, 18, 18, 18, 18, 18, 18, 18, 18] [[], [], [], [], [], [], [], [], [], [], [], [], [], [], [], [], [], [8]] [[], [], [], [], [], [], [], [], [3], [], [], [], [], [10], [], [], [], []] [fun γ_ => .pointer (some ⟨ba0, 0, none⟩), fun γ_ => .pointer (some ⟨ba0, 0, none⟩), fun γ_ => .int .i64 a2, fun γ_ => .slice (γ_.a 0) ([a2] : List Int).length 1, fun γ_ => .slice Aa1 a1.length ca1, fun γ_ => .pointer (some (q21.add (0 * 1))), fun γ_ => .slice Aq21 (a1.getD 0 []).length cq21, fun γ_ => .int .i64 ((a1.getD 0 []).length : Int), fun γ_ => .slice (γ_.a 0) (List.replicate ((a1.getD 0 []).length : Int).toNat (([a2] : List Int).getD 0 0)).length (γ_.c 0), fun γ_ => .int .i64 a3, fun γ_ => .slice (γ_.a 0) ([a3] : List Int).length 1, fun γ_ => .slice Aa1 a1.length ca1, fun γ_ => .int .i64 (a1.length : Int), fun γ_ => .slice (γ_.a 0) (List.replicate a1.length (([a3] : List Int).getD 0 0)).length (γ_.c 0), fun γ_ => .pointer (some ⟨ba0, 0, none⟩), fun γ_ => .pointer (some ⟨ba0, 0, none⟩), fun γ_ => .pointer (some ⟨ba0, 1, none⟩), fun γ_ => undef] [fun γ_ => [], fun γ_ => [], fun γ_ => [], fun γ_ => [oR (kint .i64) 3 zE (γ_.a 0) 1 ([a2] : List Int)], fun γ_ => [], fun γ_ => [], fun γ_ => [], fun γ_ => [], fun γ_ => [oR (kint .i64) 3 zE (γ_.a 0) (γ_.c 0) (List.replicate ((a1.getD 0 []).length : Int).toNat (([a2] : List Int).getD 0 0))], fun γ_ => [], fun γ_ => [oR (kint .i64) 3 zE (γ_.a 0) 1 ([a3] : List Int)], fun γ_ => [], fun γ_ => [], fun γ_ => [oR (kint .i64) 3 zE (γ_.a 0) (γ_.c 0) (List.replicate a1.length (([a3] : List Int).getD 0 0))], fun γ_ => [], fun γ_ => [], fun γ_ => [], fun γ_ => [bR ba0 60 [.int .i64 a0.Sheet.Right, .slice (γ_.a 0) (List.replicate ((a1.getD 0 []).length : Int).toNat (([a2] : List Int).getD 0 0)).length (γ_.c 0), .slice Aa0_Sheet_Heights a0.Sheet.Heights.length ca0_Sheet_Heights, .slice Aa0_Sheet_Cells a0.Sheet.Cells.length ca0_Sheet_Cells, .slice Aa0_Sheet_Merges a0.Sheet.Merges.length ca0_Sheet_Merges], oR (kint .i64) 3 zE (γ_.a 0) (γ_.c 0) (List.replicate ((a1.getD 0 []).length : Int).toNat (([a2] : List Int).getD 0 0))]] rfl (by kernel_rfl) (by decide +kernel) hS (.inl (by decide)) ?_ ?_
   ·refine ⟨fun _ _ _ hS => Sv_val rfl (R_load1 rfl rfl agg101 ((hS.bx 0 rfl).cell rfl)) ⟨gh0, rfl, hS⟩, fun _ _ _ hS => Sv_val rfl (R_load1 rfl rfl agg101 ((hS.bx 0 rfl).cell rfl)) ⟨gh0, rfl, hS⟩, fun _ _ _ hS => Sv_val rfl (R_move rfl rfl) ⟨gh0, rfl, hS⟩, fun g_ w37 fr38 hS => ?_, ?_⟩
    ·have _w37 := trivial
     have hS : Sp (FF [bR ba0 60 [.int .i64 a0.Sheet.Right, .slice Aa0_Sheet_Widths a0.Sheet.Widths.length ca0_Sheet_Widths, .slice Aa0_Sheet_Heights a0.Sheet.Heights.length ca0_Sheet_Heights, .slice Aa0_Sheet_Cells a0.Sheet.Cells.length ca0_Sheet_Cells, .slice Aa0_Sheet_Merges a0.Sheet.Merges.length ca0_Sheet_Merges], oR (kint .i64) 3 zE Aa0_Sheet_Widths ca0_Sheet_Widths a0.Sheet.Widths, oR (kint .i64) 3 zE Aa0_Sheet_Heights ca0_Sheet_Heights a0.Sheet.Heights, oR kdTCell 58 zE Aa0_Sheet_Cells ca0_Sheet_Cells a0.Sheet.Cells, oR kdTRect 76 zE Aa0_Sheet_Merges ca0_Sheet_Merges a0.Sheet.Merges]) w z w37 [bR b6 101 [.pointer (some ⟨ba0, 0, none⟩)], oR (kint .i64) 3 zE Aa0_Sheet_Widths ca0_Sheet_Widths a0.Sheet.Widths, oR (kint .i64) 3 zE Aa0_Sheet_Heights ca0_Sheet_Heights a0.Sheet.Heights, oR kdTCell 58 zE Aa0_Sheet_Cells ca0_Sheet_Cells a0.Sheet.Cells, oR kdTRect 76 zE Aa0_Sheet_Merges ca0_Sheet_Merges a0.Sheet.Merges, allR fr38] := hS
     refine S_row (d := (kint .i64)) (q := zE) hS ([a2] : List Int) rfl (R_buildSlice (ps := [(0, (.tmp 35))]) (vs := [.int .i64 a2]) (w' := w37.alloc (.cells [.int .i64 a2].toArray 3)) (r := .slice (some ⟨w37.heap.size, 0, none⟩) 1 1) rfl rfl rfl (by kernel_rfl)) (by simp [Reps, flat, kint]) rfl (by decide) (fun g40 w39 hS => ?_)
     exact ⟨⟨fun _ => (some ⟨g40, 0, none⟩), fun _ => 1, fun _ => zE, fun _ => 0⟩, rfl, hS.fin [0, 1, 2, 3, 4, 5, 6] (by decide) rfl⟩
    refine ⟨fun _ _ _ hS => Sv_val rfl (R_move rfl rfl) ⟨gh0, rfl, hS⟩, fun _ _ _ hS => Sv_val rfl (R_idx rfl rfl hAq21 rfl Tryz.underlying22 size43 (by omega) (by omega)) ⟨gh0, rfl, hS⟩, fun _ _ _ hS => Sv_val rfl (R_load1 rfl rfl agg43 (hS.sub.cell (hkq21 0 _ rfl))) ⟨gh0, rfl, hS⟩, fun _ _ _ hS => Sv_val rfl (R_len rfl rfl Tryz.underlying43) ⟨gh0, rfl, hS⟩, fun g_ w49 fr50 hS => ?_, ?_⟩
    ·have _w49 := trivial
     have hS : Sp (FF [bR ba0 60 [.int .i64 a0.Sheet.Right, .slice Aa0_Sheet_Widths a0.Sheet.Widths.length ca0_Sheet_Widths, .slice Aa0_Sheet_Heights a0.Sheet.Heights.length ca0_Sheet_Heights, .slice Aa0_Sheet_Cells a0.Sheet.Cells.length ca0_Sheet_Cells, .slice Aa0_Sheet_Merges a0.Sheet.Merges.length ca0_Sheet_Merges], oR (kint .i64) 3 zE Aa0_Sheet_Widths ca0_Sheet_Widths a0.Sheet.Widths, oR (kint .i64) 3 zE Aa0_Sheet_Heights ca0_Sheet_Heights a0.Sheet.Heights, oR kdTCell 58 zE Aa0_Sheet_Cells ca0_Sheet_Cells a0.Sheet.Cells, oR kdTRect 76 zE Aa0_Sheet_Merges ca0_Sheet_Merges a0.Sheet.Merges]) w z w49 [oR (kint .i64) 3 zE ((g_ 3).a 0) 1 ([a2] : List Int), bR b6 101 [.pointer (some ⟨ba0, 0, none⟩)], oR (kint .i64) 3 zE Aa0_Sheet_Widths ca0_Sheet_Widths a0.Sheet.Widths, oR (kint .i64) 3 zE Aa0_Sheet_Heights ca0_Sheet_Heights a0.Sheet.Heights, oR kdTCell 58 zE Aa0_Sheet_Cells ca0_Sheet_Cells a0.Sheet.Cells, oR kdTRect 76 zE Aa0_Sheet_Merges ca0_Sheet_Merges a0.Sheet.Merges, allR fr50] := hS
     refine Sv_call rfl rfl rfl ent62 ?_
     refine (repeat_calls ([a2] : List Int) ((g_ 3).a 0) 1 ((a1.getD 0 []).length : Int) _ _ hS.out0 (hS.ow [] 0 rfl rfl (zle_E _)) (hS.cap 0 rfl) (by rfl) (by omega)).mono ?_
     rintro e_ w51 ⟨AR0_52, cR0_52, rfl, hS_⟩
     refine ⟨_, rfl, ?_⟩
     have hS := hS.call0 hS_
     have hp53 := hS.cap 0 rfl
     have hlhp53 := hp53.le
     have hmhp53 := hp53.mx
     exact ⟨⟨fun _ => AR0_52, fun _ => cR0_52, fun _ => zE, fun _ => 0⟩, rfl, hS.fin [0, 1, 2, 3, 4, 5, 6, 7] (by decide) rfl⟩
    refine ⟨fun _ _ _ hS => Sv_val rfl (R_move rfl rfl) ⟨gh0, rfl, hS⟩, fun g_ w56 fr57 hS => ?_, ?_⟩
    ·have _w56 := trivial
     have hS : Sp (FF [bR ba0 60 [.int .i64 a0.Sheet.Right, .slice Aa0_Sheet_Widths a0.Sheet.Widths.length ca0_Sheet_Widths, .slice Aa0_Sheet_Heights a0.Sheet.Heights.length ca0_Sheet_Heights, .slice Aa0_Sheet_Cells a0.Sheet.Cells.length ca0_Sheet_Cells, .slice Aa0_Sheet_Merges a0.Sheet.Merges.length ca0_Sheet_Merges], oR (kint .i64) 3 zE Aa0_Sheet_Widths ca0_Sheet_Widths a0.Sheet.Widths, oR (kint .i64) 3 zE Aa0_Sheet_Heights ca0_Sheet_Heights a0.Sheet.Heights, oR kdTCell 58 zE Aa0_Sheet_Cells ca0_Sheet_Cells a0.Sheet.Cells, oR kdTRect 76 zE Aa0_Sheet_Merges ca0_Sheet_Merges a0.Sheet.Merges]) w z w56 [bR b6 101 [.pointer (some ⟨ba0, 0, none⟩)], oR (kint .i64) 3 zE Aa0_Sheet_Widths ca0_Sheet_Widths a0.Sheet.Widths, oR (kint .i64) 3 zE Aa0_Sheet_Heights ca0_Sheet_Heights a0.Sheet.Heights, oR kdTCell 58 zE Aa0_Sheet_Cells ca0_Sheet_Cells a0.Sheet.Cells, oR kdTRect 76 zE Aa0_Sheet_Merges ca0_Sheet_Merges a0.Sheet.Merges, allR fr57] := hS
     refine S_row (d := (kint .i64)) (q := zE) hS ([a3] : List Int) rfl (R_buildSlice (ps := [(0, (.tmp 42))]) (vs := [.int .i64 a3]) (w' := w56.alloc (.cells [.int .i64 a3].toArray 3)) (r := .slice (some ⟨w56.heap.size, 0, none⟩) 1 1) rfl rfl rfl (by kernel_rfl)) (by simp [Reps, flat, kint]) rfl (by decide) (fun g59 w58 hS => ?_)
     exact ⟨⟨fun _ => (some ⟨g59, 0, none⟩), fun _ => 1, fun _ => zE, fun _ => 0⟩, rfl, hS.fin [0, 1, 2, 3, 4, 5, 6] (by decide) rfl⟩
    refine ⟨fun _ _ _ hS => Sv_val rfl (R_move rfl rfl) ⟨gh0, rfl, hS⟩, fun _ _ _ hS => Sv_val rfl (R_len rfl rfl Tryz.underlying22) ⟨gh0, rfl, hS⟩, fun g_ w64 fr65 hS => ?_, ?_⟩
    ·have _w64 := trivial
     have hS : Sp (FF [bR ba0 60 [.int .i64 a0.Sheet.Right, .slice Aa0_Sheet_Widths a0.Sheet.Widths.length ca0_Sheet_Widths, .slice Aa0_Sheet_Heights a0.Sheet.Heights.length ca0_Sheet_Heights, .slice Aa0_Sheet_Cells a0.Sheet.Cells.length ca0_Sheet_Cells, .slice Aa0_Sheet_Merges a0.Sheet.Merges.length ca0_Sheet_Merges], oR (kint .i64) 3 zE Aa0_Sheet_Widths ca0_Sheet_Widths a0.Sheet.Widths, oR (kint .i64) 3 zE Aa0_Sheet_Heights ca0_Sheet_Heights a0.Sheet.Heights, oR kdTCell 58 zE Aa0_Sheet_Cells ca0_Sheet_Cells a0.Sheet.Cells, oR kdTRect 76 zE Aa0_Sheet_Merges ca0_Sheet_Merges a0.Sheet.Merges]) w z w64 [oR (kint .i64) 3 zE ((g_ 10).a 0) 1 ([a3] : List Int), bR b6 101 [.pointer (some ⟨ba0, 0, none⟩)], oR (kint .i64) 3 zE Aa0_Sheet_Widths ca0_Sheet_Widths a0.Sheet.Widths, oR (kint .i64) 3 zE Aa0_Sheet_Heights ca0_Sheet_Heights a0.Sheet.Heights, oR kdTCell 58 zE Aa0_Sheet_Cells ca0_Sheet_Cells a0.Sheet.Cells, oR kdTRect 76 zE Aa0_Sheet_Merges ca0_Sheet_Merges a0.Sheet.Merges, allR fr65] := hS
     refine Sv_call rfl rfl rfl ent62 ?_
     refine (repeat_calls ([a3] : List Int) ((g_ 10).a 0) 1 (a1.length : Int) _ _ hS.out0 (hS.ow [] 0 rfl rfl (zle_E _)) (hS.cap 0 rfl) (by rfl) (by omega)).mono ?_
     rintro e_ w66 ⟨AR0_67, cR0_67, rfl, hS_⟩
     refine ⟨.slice AR0_67 (List.replicate a1.length (([a3] : List Int).getD 0 0)).length cR0_67, rfl, ?_⟩
     have hS := hS.call0 hS_
     have hS : Sp (FF [bR ba0 60 [.int .i64 a0.Sheet.Right, .slice Aa0_Sheet_Widths a0.Sheet.Widths.length ca0_Sheet_Widths, .slice Aa0_Sheet_Heights a0.Sheet.Heights.length ca0_Sheet_Heights, .slice Aa0_Sheet_Cells a0.Sheet.Cells.length ca0_Sheet_Cells, .slice Aa0_Sheet_Merges a0.Sheet.Merges.length ca0_Sheet_Merges], oR (kint .i64) 3 zE Aa0_Sheet_Widths ca0_Sheet_Widths a0.Sheet.Widths, oR (kint .i64) 3 zE Aa0_Sheet_Heights ca0_Sheet_Heights a0.Sheet.Heights, oR kdTCell 58 zE Aa0_Sheet_Cells ca0_Sheet_Cells a0.Sheet.Cells, oR kdTRect 76 zE Aa0_Sheet_Merges ca0_Sheet_Merges a0.Sheet.Merges]) w z w66 [oR (kint .i64) 3 zE AR0_67 cR0_67 (List.replicate a1.length (([a3] : List Int).getD 0 0)), oR (kint .i64) 3 zE ((g_ 10).a 0) 1 ([a3] : List Int), bR b6 101 [.pointer (some ⟨ba0, 0, none⟩)], oR (kint .i64) 3 zE Aa0_Sheet_Widths ca0_Sheet_Widths a0.Sheet.Widths, oR (kint .i64) 3 zE Aa0_Sheet_Heights ca0_Sheet_Heights a0.Sheet.Heights, oR kdTCell 58 zE Aa0_Sheet_Cells ca0_Sheet_Cells a0.Sheet.Cells, oR kdTRect 76 zE Aa0_Sheet_Merges ca0_Sheet_Merges a0.Sheet.Merges, allR fr65] := hS
     have hp68 := hS.cap 0 rfl
     have hlhp68 := hp68.le
     have hmhp68 := hp68.mx
     exact ⟨⟨fun _ => AR0_67, fun _ => cR0_67, fun _ => zE, fun _ => 0⟩, rfl, hS.fin [0, 1, 2, 3, 4, 5, 6, 7] (by decide) rfl⟩
    refine ⟨fun _ _ _ hS => Sv_val rfl (R_nilcheck rfl rfl) ⟨gh0, rfl, hS⟩, fun _ _ _ hS => Sv_val rfl (R_fld rfl rfl fld60_0) ⟨gh0, rfl, hS⟩, fun _ _ _ hS => Sv_val rfl (R_fld rfl rfl fld30_1) ⟨gh0, rfl, hS⟩, fun g_ w75 fr76 hS => ?_, ?_⟩
    ·have _w75 := trivial
     have hS : Sp (FF [bR ba0 60 [.int .i64 a0.Sheet.Right, .slice Aa0_Sheet_Widths a0.Sheet.Widths.length ca0_Sheet_Widths, .slice Aa0_Sheet_Heights a0.Sheet.Heights.length ca0_Sheet_Heights, .slice Aa0_Sheet_Cells a0.Sheet.Cells.length ca0_Sheet_Cells, .slice Aa0_Sheet_Merges a0.Sheet.Merges.length ca0_Sheet_Merges], oR (kint .i64) 3 zE Aa0_Sheet_Widths ca0_Sheet_Widths a0.Sheet.Widths, oR (kint .i64) 3 zE Aa0_Sheet_Heights ca0_Sheet_Heights a0.Sheet.Heights, oR kdTCell 58 zE Aa0_Sheet_Cells ca0_Sheet_Cells a0.Sheet.Cells, oR kdTRect 76 zE Aa0_Sheet_Merges ca0_Sheet_Merges a0.Sheet.Merges]) w z w75 [bR ba0 60 [.int .i64 a0.Sheet.Right, .slice Aa0_Sheet_Widths a0.Sheet.Widths.length ca0_Sheet_Widths, .slice Aa0_Sheet_Heights a0.Sheet.Heights.length ca0_Sheet_Heights, .slice Aa0_Sheet_Cells a0.Sheet.Cells.length ca0_Sheet_Cells, .slice Aa0_Sheet_Merges a0.Sheet.Merges.length ca0_Sheet_Merges], oR (kint .i64) 3 zE ((g_ 8).a 0) ((g_ 8).c 0) (List.replicate ((a1.getD 0 []).length : Int).toNat (([a2] : List Int).getD 0 0)), bR b6 101 [.pointer (some ⟨ba0, 0, none⟩)], oR (kint .i64) 3 zE Aa0_Sheet_Widths ca0_Sheet_Widths a0.Sheet.Widths, oR (kint .i64) 3 zE Aa0_Sheet_Heights ca0_Sheet_Heights a0.Sheet.Heights, oR kdTCell 58 zE Aa0_Sheet_Cells ca0_Sheet_Cells a0.Sheet.Cells, oR kdTRect 76 zE Aa0_Sheet_Merges ca0_Sheet_Merges a0.Sheet.Merges, allR fr76] := hS
     refine S_store hS 0 rfl rfl rfl rfl rfl size26 (one1 rfl) (Nat.le_of_ble_eq_true rfl) (fun w77 hS => ?_)
     exact ⟨⟨fun _ => ((g_ 8).a 0), fun _ => ((g_ 8).c 0), fun _ => zE, fun _ => ba0⟩, rfl, hS.fin [0, 1, 2, 3, 4, 5, 6, 7] (by decide) rfl⟩
    exact trivial
   ·intro g_ w78 hS
    have hS : Sp (FF [bR ba0 60 [.int .i64 a0.Sheet.Right, .slice Aa0_Sheet_Widths a0.Sheet.Widths.length ca0_Sheet_Widths, .slice Aa0_Sheet_Heights a0.Sheet.Heights.length ca0_Sheet_Heights, .slice Aa0_Sheet_Cells a0.Sheet.Cells.length ca0_Sheet_Cells, .slice Aa0_Sheet_Merges a0.Sheet.Merges.length ca0_Sheet_Merges], oR (kint .i64) 3 zE Aa0_Sheet_Widths ca0_Sheet_Widths a0.Sheet.Widths, oR (kint .i64) 3 zE Aa0_Sheet_Heights ca0_Sheet_Heights a0.Sheet.Heights, oR kdTCell 58 zE Aa0_Sheet_Cells ca0_Sheet_Cells a0.Sheet.Cells, oR kdTRect 76 zE Aa0_Sheet_Merges ca0_Sheet_Merges a0.Sheet.Merges]) w z w78 [oR (kint .i64) 3 zE ((g_ 3).a 0) 1 ([a2] : List Int), oR (kint .i64) 3 zE ((g_ 10).a 0) 1 ([a3] : List Int), oR (kint .i64) 3 zE ((g_ 13).a 0) ((g_ 13).c 0) (List.replicate a1.length (([a3] : List Int).getD 0 0)), bR ba0 60 [.int .i64 a0.Sheet.Right, .slice ((g_ 17).a 0) (List.replicate ((a1.getD 0 []).length : Int).toNat (([a2] : List Int).getD 0 0)).length ((g_ 17).c 0), .slice Aa0_Sheet_Heights a0.Sheet.Heights.length ca0_Sheet_Heights, .slice Aa0_Sheet_Cells a0.Sheet.Cells.length ca0_Sheet_Cells, .slice Aa0_Sheet_Merges a0.Sheet.Merges.length ca0_Sheet_Merges], oR (kint .i64) 3 zE ((g_ 17).a 0) ((g_ 17).c 0) (List.replicate ((a1.getD 0 []).length : Int).toNat (([a2] : List Int).getD 0 0)), bR b6 101 [.pointer (some ⟨ba0, 0, none⟩)], oR (kint .i64) 3 zE Aa0_Sheet_Widths ca0_Sheet_Widths a0.Sheet.Widths, oR (kint .i64) 3 zE Aa0_Sheet_Heights ca0_Sheet_Heights a0.Sheet.Heights, oR kdTCell 58 zE Aa0_Sheet_Cells ca0_Sheet_Cells a0.Sheet.Cells, oR kdTRect 76 zE Aa0_Sheet_Merges ca0_Sheet_Merges a0.Sheet.Merges] := hS
    refine An_fr [(1, .slice Aa1 a1.length ca1), (2, .int .i64 a2), (3, .int .i64 a3), (4, .pointer (some ⟨b6, 0, none⟩)), (34, .pointer (some ⟨ba0, 0, none⟩)), (46, .slice ((g_ 13).a 0) (List.replicate a1.length (([a3] : List Int).getD 0 0)).length ((g_ 13).c 0))] rfl ?_
    generalize ((g_ 3).a 0) = A80 at hS ⊢
    generalize ((g_ 10).a 0) = A81 at hS ⊢
    generalize ((g_ 13).a 0) = A82 at hS ⊢
    generalize ((g_ 13).c 0) = c83 at hS ⊢
    generalize ((g_ 17).a 0) = A84 at hS ⊢
    generalize ((g_ 17).c 0) = c85 at hS ⊢
    have hp86 := hS.cap 0 rfl
    have hlhp86 := hp86.le
    have hmhp86 := hp86.mx
    have hp87 := hS.cap 1 rfl
    have hlhp87 := hp87.le
    have hmhp87 := hp87.mx
    have hp88 := hS.cap 2 rfl
    have hlhp88 := hp88.le
    have hmhp88 := hp88.mx
    have hp89 := hS.cap 4 rfl
    have hlhp89 := hp89.le
    have hmhp89 := hp89.mx
    refine An_one (i := 18) (by decide +kernel) rfl rfl (by decide) (Sv_val rfl (R_nilcheck rfl rfl) ?_)
    refine An_one (i := 19) (by decide +kernel) rfl rfl (by decide) (Sv_val rfl (R_fld rfl rfl fld60_0) ?_)
    refine An_one (i := 20) (by decide +kernel) rfl rfl (by decide) (Sv_val rfl (R_fld rfl rfl fld30_2) ?_)
    refine An_one0 (i := 21) (by decide +kernel) rfl rfl (S_store hS 3 rfl rfl rfl rfl rfl size26 (one1 rfl) (Nat.le_of_ble_eq_true rfl) (fun w90 hS => ?_))
    refine An_done (by decide +kernel) <| E_then (C_fr [(1, .slice Aa1 a1.length ca1), (4, .pointer (some ⟨b6, 0, none⟩))] rfl ?_)
    refine C_seq <| C_seq <| C_region <| wv rfl rfl rfl (R_move rfl rfl) ?_
    refine W_cons rfl (by decide) (Sv_call rfl rfl rfl ent63 ?_)
    refine (texts_calls a1 Aa1 ca1 _ _ hS.out0 (hra1.mono (hS.zl [])) hca1 ).mono ?_
    rintro e_ w91 ⟨bFa0_92, rfl, hS_⟩
    refine ⟨_, rfl, ?_⟩
    have hS := hS.call0 hS_
    refine W_nil <| E_then <| C_block ?_
    have hS := hS.ms0
    refine C_fr [(4, .pointer (some ⟨b6, 0, none⟩)), (54, .func (.func 97) #[] #[.pointer (some ⟨bFa0_92, 0, none⟩)])] rfl ?_
    have hs98 : a0.Sheet.Cells = a0.Sheet.Cells ++ (([] : List TCell) : List TCell) := by simp
    have hS := hS.re 10 rfl hs98
    have hS := hS.as 5 rfl (r' := bR ba0 60 [.int .i64 a0.Sheet.Right, .slice A84 (List.replicate ((a1.getD 0 []).length : Int).toNat (([a2] : List Int).getD 0 0)).length c85, .slice A82 (List.replicate a1.length (([a3] : List Int).getD 0 0)).length c83, .slice Aa0_Sheet_Cells (a0.Sheet.Cells ++ (([] : List TCell) : List TCell)).length ca0_Sheet_Cells, .slice Aa0_Sheet_Merges a0.Sheet.Merges.length ca0_Sheet_Merges]) (fun h_ => by rw [← hs98]; exact h_) (fun _ h_ => h_)
    refine C_range (xs := cellsS a1) (cs := [bR bFa0_92 22 [.slice Aa1 a1.length ca1]]) (encs := fun x_ => [.agg #[.int .i64 x_.Row, .int .i64 x_.Col, vstr x_.Text, .int .i64 x_.Style.Align, .int .i64 x_.Style.Wrap, .int .i64 x_.Style.Dir]]) (fun pre_ (y_ : (Option Addr) × Nat) => match y_ with | (Ar93, cr93) => [bR b6 101 [.pointer (some ⟨ba0, 0, none⟩)], bR ba0 60 [.int .i64 a0.Sheet.Right, .slice A84 (List.replicate ((a1.getD 0 []).length : Int).toNat (([a2] : List Int).getD 0 0)).length c85, .slice A82 (List.replicate a1.length (([a3] : List Int).getD 0 0)).length c83, .slice Ar93 (a0.Sheet.Cells ++ pre_).length cr93, .slice Aa0_Sheet_Merges a0.Sheet.Merges.length ca0_Sheet_Merges], oR (kint .i64) 3 zE A84 c85 (List.replicate ((a1.getD 0 []).length : Int).toNat (([a2] : List Int).getD 0 0)), oR (kint .i64) 3 zE A82 c83 (List.replicate a1.length (([a3] : List Int).getD 0 0)), oR kdTCell 58 zE Ar93 cr93 (a0.Sheet.Cells ++ pre_), oR kdTRect 76 zE Aa0_Sheet_Merges ca0_Sheet_Merges a0.Sheet.Merges, msR []]) (fun pre_ (y_ : (Option Addr) × Nat) => match y_ with | (Ar93, cr93) => True) (fun _ _ (_ : Unit) => []) (fun _ _ _ => False) (fun pre_ x_ y_ f_ J_ => match y_ with | (Ar93, cr93) => ∃ (b96 : Nat), f_ = [(4, .pointer (some ⟨b6, 0, none⟩)), (9, .pointer (some ⟨b96, 0, none⟩))] ∧ J_ = [bR b96 58 [.int .i64 x_.Row, .int .i64 x_.Col, vstr x_.Text, .int .i64 x_.Style.Align, .int .i64 x_.Style.Wrap, .int .i64 x_.Style.Dir], bR b6 101 [.pointer (some ⟨ba0, 0, none⟩)], bR ba0 60 [.int .i64 a0.Sheet.Right, .slice A84 (List.replicate ((a1.getD 0 []).length : Int).toNat (([a2] : List Int).getD 0 0)).length c85, .slice A82 (List.replicate a1.length (([a3] : List Int).getD 0 0)).length c83, .slice Ar93 (a0.Sheet.Cells ++ pre_).length cr93, .slice Aa0_Sheet_Merges a0.Sheet.Merges.length ca0_Sheet_Merges], oR (kint .i64) 3 zE A84 c85 (List.replicate ((a1.getD 0 []).length : Int).toNat (([a2] : List Int).getD 0 0)), oR (kint .i64) 3 zE A82 c83 (List.replicate a1.length (([a3] : List Int).getD 0 0)), oR kdTCell 58 zE Ar93 cr93 (a0.Sheet.Cells ++ pre_), oR kdTRect 76 zE Aa0_Sheet_Merges ca0_Sheet_Merges a0.Sheet.Merges, msR []]) (Aa0_Sheet_Cells, ca0_Sheet_Cells) rfl ent97 (fun _ => rfl) (by decide) (hS.fin [7, 5, 6, 4, 10, 11, 0, 1] (by decide) rfl) (iter_texts a1 bFa0_92 hra1 hca1) trivial ?_ ?_ ?_ ?_
    ·rintro l0_ T0_ X0_ v0_ z0_ pre_ x_ ⟨Ar93, cr93⟩ w94 hz0_ hx0_ _ hS
     have hS : Sp X0_ v0_ z0_ w94 [bR b6 101 [.pointer (some ⟨ba0, 0, none⟩)], bR ba0 60 [.int .i64 a0.Sheet.Right, .slice A84 (List.replicate ((a1.getD 0 []).length : Int).toNat (([a2] : List Int).getD 0 0)).length c85, .slice A82 (List.replicate a1.length (([a3] : List Int).getD 0 0)).length c83, .slice Ar93 (a0.Sheet.Cells ++ pre_).length cr93, .slice Aa0_Sheet_Merges a0.Sheet.Merges.length ca0_Sheet_Merges], oR (kint .i64) 3 zE A84 c85 (List.replicate ((a1.getD 0 []).length : Int).toNat (([a2] : List Int).getD 0 0)), oR (kint .i64) 3 zE A82 c83 (List.replicate a1.length (([a3] : List Int).getD 0 0)), oR kdTCell 58 zE Ar93 cr93 (a0.Sheet.Cells ++ pre_), oR kdTRect 76 zE Aa0_Sheet_Merges ca0_Sheet_Merges a0.Sheet.Merges, msR [], T0_] := hS
     refine C_fr [(4, .pointer (some ⟨b6, 0, none⟩)), (55, .agg #[.int .i64 x_.Row, .int .i64 x_.Col, vstr x_.Text, .int .i64 x_.Style.Align, .int .i64 x_.Style.Wrap, .int .i64 x_.Style.Dir])] rfl ?_
     refine C_region <| W_cons rfl (Nat.le_of_ble_eq_true rfl) (S_box hS rfl (R_alloc rfl alloc58) (fun b96 w95 hS => ?_))
     refine W_cons0 rfl (S_store hS 0 rfl rfl rfl rfl rfl size58 (one_cons rfl (one_cons rfl (one_cons rfl (one_cons rfl (one_cons rfl (one_cons rfl one_nil)))))) (Nat.le_of_ble_eq_true rfl) (fun w97 hS => ?_))
     have hS : Sp X0_ v0_ z0_ w97 [bR b96 58 [.int .i64 x_.Row, .int .i64 x_.Col, vstr x_.Text, .int .i64 x_.Style.Align, .int .i64 x_.Style.Wrap, .int .i64 x_.Style.Dir], bR b6 101 [.pointer (some ⟨ba0, 0, none⟩)], bR ba0 60 [.int .i64 a0.Sheet.Right, .slice A84 (List.replicate ((a1.getD 0 []).length : Int).toNat (([a2] : List Int).getD 0 0)).length c85, .slice A82 (List.replicate a1.length (([a3] : List Int).getD 0 0)).length c83, .slice Ar93 (a0.Sheet.Cells ++ pre_).length cr93, .slice Aa0_Sheet_Merges a0.Sheet.Merges.length ca0_Sheet_Merges], oR (kint .i64) 3 zE A84 c85 (List.replicate ((a1.getD 0 []).length : Int).toNat (([a2] : List Int).getD 0 0)), oR (kint .i64) 3 zE A82 c83 (List.replicate a1.length (([a3] : List Int).getD 0 0)), oR kdTCell 58 zE Ar93 cr93 (a0.Sheet.Cells ++ pre_), oR kdTRect 76 zE Aa0_Sheet_Merges ca0_Sheet_Merges a0.Sheet.Merges, msR [], T0_] := hS
     refine W_nil ?_
     exact E_asg [4, 9] [bR b96 58 [.int .i64 x_.Row, .int .i64 x_.Col, vstr x_.Text, .int .i64 x_.Style.Align, .int .i64 x_.Style.Wrap, .int .i64 x_.Style.Dir], bR b6 101 [.pointer (some ⟨ba0, 0, none⟩)], bR ba0 60 [.int .i64 a0.Sheet.Right, .slice A84 (List.replicate ((a1.getD 0 []).length : Int).toNat (([a2] : List Int).getD 0 0)).length c85, .slice A82 (List.replicate a1.length (([a3] : List Int).getD 0 0)).length c83, .slice Ar93 (a0.Sheet.Cells ++ pre_).length cr93, .slice Aa0_Sheet_Merges a0.Sheet.Merges.length ca0_Sheet_Merges], oR (kint .i64) 3 zE A84 c85 (List.replicate ((a1.getD 0 []).length : Int).toNat (([a2] : List Int).getD 0 0)), oR (kint .i64) 3 zE A82 c83 (List.replicate a1.length (([a3] : List Int).getD 0 0)), oR kdTCell 58 zE Ar93 cr93 (a0.Sheet.Cells ++ pre_), oR kdTRect 76 zE Aa0_Sheet_Merges ca0_Sheet_Merges a0.Sheet.Merges, msR []] ⟨b96, rfl, rfl⟩ (hS.fin [0, 1, 2, 3, 4, 5, 6, 7, 8] (by decide) rfl)
    ·rintro l0_ T0_ X0_ v0_ z0_ pre_ x_ ⟨Ar93, cr93⟩ _ _ w99 hz0_ hx0_ _ ⟨b96, rfl, rfl⟩ hS
     have hS : Sp X0_ v0_ z0_ w99 [bR b96 58 [.int .i64 x_.Row, .int .i64 x_.Col, vstr x_.Text, .int .i64 x_.Style.Align, .int .i64 x_.Style.Wrap, .int .i64 x_.Style.Dir], bR b6 101 [.pointer (some ⟨ba0, 0, none⟩)], bR ba0 60 [.int .i64 a0.Sheet.Right, .slice A84 (List.replicate ((a1.getD 0 []).length : Int).toNat (([a2] : List Int).getD 0 0)).length c85, .slice A82 (List.replicate a1.length (([a3] : List Int).getD 0 0)).length c83, .slice Ar93 (a0.Sheet.Cells ++ pre_).length cr93, .slice Aa0_Sheet_Merges a0.Sheet.Merges.length ca0_Sheet_Merges], oR (kint .i64) 3 zE A84 c85 (List.replicate ((a1.getD 0 []).length : Int).toNat (([a2] : List Int).getD 0 0)), oR (kint .i64) 3 zE A82 c83 (List.replicate a1.length (([a3] : List Int).getD 0 0)), oR kdTCell 58 zE Ar93 cr93 (a0.Sheet.Cells ++ pre_), oR kdTRect 76 zE Aa0_Sheet_Merges ca0_Sheet_Merges a0.Sheet.Merges, msR [], T0_] := hS
     have hp100 := hS.cap 3 rfl
     have hlhp100 := hp100.le
     have hmhp100 := hp100.mx
     have hp101 := hS.cap 4 rfl
     have hlhp101 := hp101.le
     have hmhp101 := hp101.mx
     have hp102 := hS.cap 5 rfl
     have hlhp102 := hp102.le
     have hmhp102 := hp102.mx
     have hp103 := hS.cap 6 rfl
     have hlhp103 := hp103.le
     have hmhp103 := hp103.mx
     have hxl := pre_len hx0_
     rw [List.length_append, List.length_singleton] at hxl
     refine C_block <| C_fr [(4, .pointer (some ⟨b6, 0, none⟩)), (9, .pointer (some ⟨b96, 0, none⟩))] rfl ?_
     have hS := hS.sel [5, 0, 1, 2, 3, 4, 6, 7, 8] (by decide)
     refine C_drawn3 8 [oR kdTCell 58 zE Ar93 cr93 (a0.Sheet.Cells ++ pre_)] 13 [[], [], [1], [2], [3], [4], [], [6], [5, 7], [0, 0, 1, 2, 3, 4, 5, 6, 7, 8], [9, 0, 1, 2, 3, 4, 5, 6, 7, 8], [10, 0, 1, 2, 3, 4, 5, 6, 7, 8]] [some 56, some 57, some 58, some 59, some 60, some 61, some 62, some 63, some 64, some 65, some 66, some 67] [4, 9] (List.replicate 12 12) (List.replicate 12 []) [[], [], [], [], [], [], [], [], [7], [], [], []] [fun γ_ => .pointer (some ⟨ba0, 0, none⟩), fun γ_ => .pointer (some ⟨ba0, 0, none⟩), fun γ_ => .pointer (some ⟨ba0, 0, none⟩), fun γ_ => .pointer (some ⟨ba0, 0, none⟩), fun γ_ => .pointer (some ⟨ba0, 3, none⟩), fun γ_ => .slice Ar93 (a0.Sheet.Cells ++ pre_).length cr93, fun γ_ => .agg #[.int .i64 x_.Row, .int .i64 x_.Col, vstr x_.Text, .int .i64 x_.Style.Align, .int .i64 x_.Style.Wrap, .int .i64 x_.Style.Dir], fun γ_ => .slice (γ_.a 0) ([x_] : List TCell).length 1, fun γ_ => .slice (γ_.a 0) ((a0.Sheet.Cells ++ pre_) ++ ([x_] : List TCell)).length (γ_.c 0), fun γ_ => .pointer (some ⟨ba0, 0, none⟩), fun γ_ => .pointer (some ⟨ba0, 0, none⟩), fun γ_ => .pointer (some ⟨ba0, 3, none⟩)] [fun γ_ => [], fun γ_ => [], fun γ_ => [], fun γ_ => [], fun γ_ => [], fun γ_ => [], fun γ_ => [], fun γ_ => [oR kdTCell 58 zE (γ_.a 0) 1 ([x_] : List TCell)], fun γ_ => [oR kdTCell 58 zE (γ_.a 0) (γ_.c 0) ((a0.Sheet.Cells ++ pre_) ++ ([x_] : List TCell))], fun γ_ => [], fun γ_ => [], fun γ_ => []] rfl (by kernel_rfl) (by kernel_rfl) hS (.inl (by decide)) ?_ ?_
     ·refine ⟨fun _ _ _ hS => Sv_val rfl (R_load1 rfl rfl agg101 ((hS.bx 1 rfl).cell rfl)) ⟨gh0, rfl, hS⟩, fun _ _ _ hS => Sv_val rfl (R_load1 rfl rfl agg101 ((hS.bx 1 rfl).cell rfl)) ⟨gh0, rfl, hS⟩, fun _ _ _ hS => Sv_val rfl (R_nilcheck rfl rfl) ⟨gh0, rfl, hS⟩, fun _ _ _ hS => Sv_val rfl (R_fld rfl rfl fld60_0) ⟨gh0, rfl, hS⟩, fun _ _ _ hS => Sv_val rfl (R_fld rfl rfl fld30_3) ⟨gh0, rfl, hS⟩, fun _ _ _ hS => Sv_val rfl (R_load1 rfl rfl agg27 ((hS.bx 2 rfl).cell rfl)) ⟨gh0, rfl, hS⟩, fun _ _ _ hS => Sv_val rfl (R_loadN (cs := [.int .i64 x_.Row, .int .i64 x_.Col, vstr x_.Text, .int .i64 x_.Style.Align, .int .i64 x_.Style.Wrap, .int .i64 x_.Style.Dir]) rfl rfl agg58 size58 rfl (boxcells (hS.bx 0 rfl) 0 rfl)) ⟨gh0, rfl, hS⟩, fun g_ w123 fr124 hS => ?_, ?_⟩
      ·have _w123 := trivial
       have hS : Sp X0_ v0_ z0_ w123 [bR b96 58 [.int .i64 x_.Row, .int .i64 x_.Col, vstr x_.Text, .int .i64 x_.Style.Align, .int .i64 x_.Style.Wrap, .int .i64 x_.Style.Dir], bR b6 101 [.pointer (some ⟨ba0, 0, none⟩)], bR ba0 60 [.int .i64 a0.Sheet.Right, .slice A84 (List.replicate ((a1.getD 0 []).length : Int).toNat (([a2] : List Int).getD 0 0)).length c85, .slice A82 (List.replicate a1.length (([a3] : List Int).getD 0 0)).length c83, .slice Ar93 (a0.Sheet.Cells ++ pre_).length cr93, .slice Aa0_Sheet_Merges a0.Sheet.Merges.length ca0_Sheet_Merges], oR (kint .i64) 3 zE A84 c85 (List.replicate ((a1.getD 0 []).length : Int).toNat (([a2] : List Int).getD 0 0)), oR (kint .i64) 3 zE A82 c83 (List.replicate a1.length (([a3] : List Int).getD 0 0)), oR kdTRect 76 zE Aa0_Sheet_Merges ca0_Sheet_Merges a0.Sheet.Merges, msR [], T0_, allR fr124] := hS
       refine S_row (d := kdTCell) (q := zE) hS ([x_] : List TCell) rfl (R_buildSlice (ps := [(0, (.tmp 62))]) (vs := [.agg #[.int .i64 x_.Row, .int .i64 x_.Col, vstr x_.Text, .int .i64 x_.Style.Align, .int .i64 x_.Style.Wrap, .int .i64 x_.Style.Dir]]) (w' := w123.alloc (.cells [.int .i64 x_.Row, .int .i64 x_.Col, vstr x_.Text, .int .i64 x_.Style.Align, .int .i64 x_.Style.Wrap, .int .i64 x_.Style.Dir].toArray 58)) (r := .slice (some ⟨w123.heap.size, 0, none⟩) 1 1) rfl rfl rfl (by kernel_rfl)) (by simp [Reps, flat, kdTCell]) rfl (by decide) (fun g126 w125 hS => ?_)
       exact ⟨⟨fun _ => (some ⟨g126, 0, none⟩), fun _ => 1, fun _ => zE, fun _ => 0⟩, rfl, hS.fin [0, 1, 2, 3, 4, 5, 6, 7, 8, 9] (by decide) rfl⟩
      refine ⟨fun g_ w127 fr128 hS => ?_, ?_⟩
      ·have _w127 := trivial
       have hS : Sp X0_ v0_ z0_ w127 [oR kdTCell 58 zE Ar93 cr93 (a0.Sheet.Cells ++ pre_), oR kdTCell 58 zE ((g_ 7).a 0) 1 ([x_] : List TCell), bR b96 58 [.int .i64 x_.Row, .int .i64 x_.Col, vstr x_.Text, .int .i64 x_.Style.Align, .int .i64 x_.Style.Wrap, .int .i64 x_.Style.Dir], bR b6 101 [.pointer (some ⟨ba0, 0, none⟩)], bR ba0 60 [.int .i64 a0.Sheet.Right, .slice A84 (List.replicate ((a1.getD 0 []).length : Int).toNat (([a2] : List Int).getD 0 0)).length c85, .slice A82 (List.replicate a1.length (([a3] : List Int).getD 0 0)).length c83, .slice Ar93 (a0.Sheet.Cells ++ pre_).length cr93, .slice Aa0_Sheet_Merges a0.Sheet.Merges.length ca0_Sheet_Merges], oR (kint .i64) 3 zE A84 c85 (List.replicate ((a1.getD 0 []).length : Int).toNat (([a2] : List Int).getD 0 0)), oR (kint .i64) 3 zE A82 c83 (List.replicate a1.length (([a3] : List Int).getD 0 0)), oR kdTRect 76 zE Aa0_Sheet_Merges ca0_Sheet_Merges a0.Sheet.Merges, msR [], T0_, allR fr128] := hS
       refine S_append hS 0 rfl rfl rfl elem27 rfl rfl (hS.sow 1 rfl (fun _ _ h => h)) (by (try simp only [List.length_append, List.length_cons, List.length_nil, maxLen]); omega) (by (try simp only [List.length_append, List.length_cons, List.length_nil, maxLen]); omega) (fun Ar130 cr130 w129 hS => ?_)
       have hp131 := hS.cap 0 rfl
       have hlhp131 := hp131.le
       have hmhp131 := hp131.mx
       exact ⟨⟨fun _ => Ar130, fun _ => cr130, fun _ => zE, fun _ => 0⟩, rfl, hS.fin [0, 1, 2, 3, 4, 5, 6, 7, 8, 9, 10] (by decide) rfl⟩
      refine ⟨fun _ _ _ hS => Sv_val rfl (R_nilcheck rfl rfl) ⟨gh0, rfl, hS⟩, fun _ _ _ hS => Sv_val rfl (R_fld rfl rfl fld60_0) ⟨gh0, rfl, hS⟩, fun _ _ _ hS => Sv_val rfl (R_fld rfl rfl fld30_3) ⟨gh0, rfl, hS⟩, ?_⟩
      exact trivial
     ·intro g_ w138 hS
      have hS : Sp X0_ v0_ z0_ w138 [oR kdTCell 58 zE ((g_ 7).a 0) 1 ([x_] : List TCell), oR kdTCell 58 zE ((g_ 8).a 0) ((g_ 8).c 0) ((a0.Sheet.Cells ++ pre_) ++ ([x_] : List TCell)), bR b96 58 [.int .i64 x_.Row, .int .i64 x_.Col, vstr x_.Text, .int .i64 x_.Style.Align, .int .i64 x_.Style.Wrap, .int .i64 x_.Style.Dir], bR b6 101 [.pointer (some ⟨ba0, 0, none⟩)], bR ba0 60 [.int .i64 a0.Sheet.Right, .slice A84 (List.replicate ((a1.getD 0 []).length : Int).toNat (([a2] : List Int).getD 0 0)).length c85, .slice A82 (List.replicate a1.length (([a3] : List Int).getD 0 0)).length c83, .slice Ar93 (a0.Sheet.Cells ++ pre_).length cr93, .slice Aa0_Sheet_Merges a0.Sheet.Merges.length ca0_Sheet_Merges], oR (kint .i64) 3 zE A84 c85 (List.replicate ((a1.getD 0 []).length : Int).toNat (([a2] : List Int).getD 0 0)), oR (kint .i64) 3 zE A82 c83 (List.replicate a1.length (([a3] : List Int).getD 0 0)), oR kdTRect 76 zE Aa0_Sheet_Merges ca0_Sheet_Merges a0.Sheet.Merges, msR [], T0_] := hS
      refine An_fr [(4, .pointer (some ⟨b6, 0, none⟩)), (9, .pointer (some ⟨b96, 0, none⟩)), (64, .slice ((g_ 8).a 0) ((a0.Sheet.Cells ++ pre_) ++ ([x_] : List TCell)).length ((g_ 8).c 0)), (67, .pointer (some ⟨ba0, 3, none⟩))] rfl ?_
      generalize ((g_ 7).a 0) = A140 at hS ⊢
      generalize ((g_ 8).a 0) = A141 at hS ⊢
      generalize ((g_ 8).c 0) = c142 at hS ⊢
      have hp143 := hS.cap 0 rfl
      have hlhp143 := hp143.le
      have hmhp143 := hp143.mx
      have hp144 := hS.cap 1 rfl
      have hlhp144 := hp144.le
      have hmhp144 := hp144.mx
      refine An_one0 (i := 12) (by decide +kernel) rfl rfl (S_store hS 4 rfl rfl rfl rfl rfl size27 (one1 rfl) (Nat.le_of_ble_eq_true rfl) (fun w145 hS => ?_))
      refine An_done (by decide +kernel) <| E_block_normal ?_
      have hs146 : (a0.Sheet.Cells ++ pre_) ++ ([x_] : List TCell) = a0.Sheet.Cells ++ ((pre_ ++ [x_]) : List TCell) := by (simp; done)
      have hS := hS.re 1 rfl hs146
      have hS := hS.as 4 rfl (r' := bR ba0 60 [.int .i64 a0.Sheet.Right, .slice A84 (List.replicate ((a1.getD 0 []).length : Int).toNat (([a2] : List Int).getD 0 0)).length c85, .slice A82 (List.replicate a1.length (([a3] : List Int).getD 0 0)).length c83, .slice A141 (a0.Sheet.Cells ++ ((pre_ ++ [x_]) : List TCell)).length c142, .slice Aa0_Sheet_Merges a0.Sheet.Merges.length ca0_Sheet_Merges]) (fun h_ => by rw [← hs146]; exact h_) (fun _ h_ => h_)
      exact E_range_on (A141, c142) trivial (hS.fin [3, 4, 5, 6, 1, 7, 8, 9] (by decide) rfl)
    ·rintro D148 ⟨Ar93, cr93⟩ w147 _ hS
     have hS : Sp (FF [bR ba0 60 [.int .i64 a0.Sheet.Right, .slice Aa0_Sheet_Widths a0.Sheet.Widths.length ca0_Sheet_Widths, .slice Aa0_Sheet_Heights a0.Sheet.Heights.length ca0_Sheet_Heights, .slice Aa0_Sheet_Cells a0.Sheet.Cells.length ca0_Sheet_Cells, .slice Aa0_Sheet_Merges a0.Sheet.Merges.length ca0_Sheet_Merges], oR (kint .i64) 3 zE Aa0_Sheet_Widths ca0_Sheet_Widths a0.Sheet.Widths, oR (kint .i64) 3 zE Aa0_Sheet_Heights ca0_Sheet_Heights a0.Sheet.Heights, oR kdTCell 58 zE Aa0_Sheet_Cells ca0_Sheet_Cells a0.Sheet.Cells, oR kdTRect 76 zE Aa0_Sheet_Merges ca0_Sheet_Merges a0.Sheet.Merges]) w z w147 [mkR D148, bR b6 101 [.pointer (some ⟨ba0, 0, none⟩)], bR ba0 60 [.int .i64 a0.Sheet.Right, .slice A84 (List.replicate ((a1.getD 0 []).length : Int).toNat (([a2] : List Int).getD 0 0)).length c85, .slice A82 (List.replicate a1.length (([a3] : List Int).getD 0 0)).length c83, .slice Ar93 (a0.Sheet.Cells ++ (cellsS a1)).length cr93, .slice Aa0_Sheet_Merges a0.Sheet.Merges.length ca0_Sheet_Merges], oR (kint .i64) 3 zE A84 c85 (List.replicate ((a1.getD 0 []).length : Int).toNat (([a2] : List Int).getD 0 0)), oR (kint .i64) 3 zE A82 c83 (List.replicate a1.length (([a3] : List Int).getD 0 0)), oR kdTCell 58 zE Ar93 cr93 (a0.Sheet.Cells ++ (cellsS a1)), oR kdTRect 76 zE Aa0_Sheet_Merges ca0_Sheet_Merges a0.Sheet.Merges, msR [], bR bFa0_92 22 [.slice Aa1 a1.length ca1]] := hS
     have hS := hS.mj 6 rfl
     have hp149 := hS.cap 3 rfl
     have hlhp149 := hp149.le
     have hmhp149 := hp149.mx
     have hp150 := hS.cap 4 rfl
     have hlhp150 := hp150.le
     have hmhp150 := hp150.mx
     have hp151 := hS.cap 5 rfl
     have hlhp151 := hp151.le
     have hmhp151 := hp151.mx
     have hp152 := hS.cap 6 rfl
     have hlhp152 := hp152.le
     have hmhp152 := hp152.mx
     refine E_block_normal <| E_then <| C_seq <| C_region <| wv rfl rfl rfl (R_assign rfl rfl) ?_
     refine W_nil <| E_then <| C_ret ?_
     have hS := hS.sel [0, 1, 2, 3, 4, 5, 6, 7] (by decide)
     refine E_marks hS (fun w153 hS => ?_)
     have hq154 : List.replicate ((a1.getD 0 []).length : Int).toNat (([a2] : List Int).getD 0 0) = (⟨fillW a0.Sheet a1 a2 a3⟩ : TMaker).Sheet.Widths := by (simp only [fillW_0 (m := a0.Sheet) (l := a1) (w := a2) (h := a3) (by omega) (by omega)]; rfl)
     have hS := hS.re 2 rfl hq154
     have hq155 : List.replicate a1.length (([a3] : List Int).getD 0 0) = (⟨fillW a0.Sheet a1 a2 a3⟩ : TMaker).Sheet.Heights := by (simp only [fillW_0 (m := a0.Sheet) (l := a1) (w := a2) (h := a3) (by omega) (by omega)]; rfl)
     have hS := hS.re 3 rfl hq155
     have hq156 : a0.Sheet.Cells ++ (cellsS a1) = (⟨fillW a0.Sheet a1 a2 a3⟩ : TMaker).Sheet.Cells := by (simp only [fillW_0 (m := a0.Sheet) (l := a1) (w := a2) (h := a3) (by omega) (by omega)]; done)
     have hS := hS.re 4 rfl hq156
     have hq157 : a0.Sheet.Merges = (⟨fillW a0.Sheet a1 a2 a3⟩ : TMaker).Sheet.Merges := by (simp only [fillW_0 (m := a0.Sheet) (l := a1) (w := a2) (h := a3) (by omega) (by omega)]; done)
     have hS := hS.re 5 rfl hq157
     have hv158 : a0.Sheet.Right = (⟨fillW a0.Sheet a1 a2 a3⟩ : TMaker).Sheet.Right := by (simp only [fillW_0 (m := a0.Sheet) (l := a1) (w := a2) (h := a3) (by omega) (by omega)]; done)
     have hS := hS.as 1 rfl (r' := bR ba0 60 [.int .i64 (⟨fillW a0.Sheet a1 a2 a3⟩ : TMaker).Sheet.Right, .slice A84 (⟨fillW a0.Sheet a1 a2 a3⟩ : TMaker).Sheet.Widths.length c85, .slice A82 (⟨fillW a0.Sheet a1 a2 a3⟩ : TMaker).Sheet.Heights.length c83, .slice Ar93 (⟨fillW a0.Sheet a1 a2 a3⟩ : TMaker).Sheet.Cells.length cr93, .slice Aa0_Sheet_Merges (⟨fillW a0.Sheet a1 a2 a3⟩ : TMaker).Sheet.Merges.length ca0_Sheet_Merges]) (fun h_ => by rw [← hq154, ← hq155, ← hq156, ← hq157, ← hv158]; exact h_) (fun _ h_ => h_)
     refine E_ret1 rfl rfl ?_
     exact ⟨A84, c85, A82, c83, Ar93, cr93, Aa0_Sheet_Merges, ca0_Sheet_Merges, Lret1 (show (.nilIface : Value) = errV (wrongS (faultS a1 a2 a3) 0) by (rw [faultS_0 (by omega) (by omega)]; rfl)), hS.fin [1, 2, 3, 4, 5] (by decide) rfl⟩
    ·rintro _ _ _ _ _ _ h_ _
     exact h_.elim
theorem mparse_calls (ba0 : Nat) (a0 : TMaker) (Aa0_Sheet_Widths : Option Addr) (ca0_Sheet_Widths : Nat) (Aa0_Sheet_Heights : Option Addr) (ca0_Sheet_Heights : Nat) (Aa0_Sheet_Cells : Option Addr) (ca0_Sheet_Cells : Nat) (Aa0_Sheet_Merges : Option Addr) (ca0_Sheet_Merges : Nat) (a1 : St) (a2 : Int) (a3 : Int) (z : Z) (w : World) (hI : In z w [bR ba0 60 [.int .i64 a0.Sheet.Right, .slice Aa0_Sheet_Widths a0.Sheet.Widths.length ca0_Sheet_Widths, .slice Aa0_Sheet_Heights a0.Sheet.Heights.length ca0_Sheet_Heights, .slice Aa0_Sheet_Cells a0.Sheet.Cells.length ca0_Sheet_Cells, .slice Aa0_Sheet_Merges a0.Sheet.Merges.length ca0_Sheet_Merges], oR (kint .i64) 3 zE Aa0_Sheet_Widths ca0_Sheet_Widths a0.Sheet.Widths, oR (kint .i64) 3 zE Aa0_Sheet_Heights ca0_Sheet_Heights a0.Sheet.Heights, oR kdTCell 58 zE Aa0_Sheet_Cells ca0_Sheet_Cells a0.Sheet.Cells, oR kdTRect 76 zE Aa0_Sheet_Merges ca0_Sheet_Merges a0.Sheet.Merges])  (p0 : (parseS a1).2.2 = 0 → RecB (parseS a1).1) (p1 : a0.Sheet.Cells.length ≤ 100000) :
    Calls Tryz.prog 37 #[.pointer (some ⟨ba0, 0, none⟩), vstr a1, .int .i64 a2, .int .i64 a3] w fun e w' => ∃ (Aa0_Sheet_Widths' : Option Addr) (ca0_Sheet_Widths' : Nat) (Aa0_Sheet_Heights' : Option Addr) (ca0_Sheet_Heights' : Nat) (Aa0_Sheet_Cells' : Option Addr) (ca0_Sheet_Cells' : Nat) (Aa0_Sheet_Merges' : Option Addr) (ca0_Sheet_Merges' : Nat), e = .returned (errV (readE a1 a2 a3)) ∧ Sp (FF [bR ba0 60 [.int .i64 a0.Sheet.Right, .slice Aa0_Sheet_Widths a0.Sheet.Widths.length ca0_Sheet_Widths, .slice Aa0_Sheet_Heights a0.Sheet.Heights.length ca0_Sheet_Heights, .slice Aa0_Sheet_Cells a0.Sheet.Cells.length ca0_Sheet_Cells, .slice Aa0_Sheet_Merges a0.Sheet.Merges.length ca0_Sheet_Merges], oR (kint .i64) 3 zE Aa0_Sheet_Widths ca0_Sheet_Widths a0.Sheet.Widths, oR (kint .i64) 3 zE Aa0_Sheet_Heights ca0_Sheet_Heights a0.Sheet.Heights, oR kdTCell 58 zE Aa0_Sheet_Cells ca0_Sheet_Cells a0.Sheet.Cells, oR kdTRect 76 zE Aa0_Sheet_Merges ca0_Sheet_Merges a0.Sheet.Merges]) w z w' [bR ba0 60 [.int .i64 (⟨readW a0.Sheet a1 a2 a3⟩ : TMaker).Sheet.Right, .slice Aa0_Sheet_Widths' (⟨readW a0.Sheet a1 a2 a3⟩ : TMaker).Sheet.Widths.length ca0_Sheet_Widths', .slice Aa0_Sheet_Heights' (⟨readW a0.Sheet a1 a2 a3⟩ : TMaker).Sheet.Heights.length ca0_Sheet_Heights', .slice Aa0_Sheet_Cells' (⟨readW a0.Sheet a1 a2 a3⟩ : TMaker).Sheet.Cells.length ca0_Sheet_Cells', .slice Aa0_Sheet_Merges' (⟨readW a0.Sheet a1 a2 a3⟩ : TMaker).Sheet.Merges.length ca0_Sheet_Merges'], oR (kint .i64) 3 zE Aa0_Sheet_Widths' ca0_Sheet_Widths' (⟨readW a0.Sheet a1 a2 a3⟩ : TMaker).Sheet.Widths, oR (kint .i64) 3 zE Aa0_Sheet_Heights' ca0_Sheet_Heights' (⟨readW a0.Sheet a1 a2 a3⟩ : TMaker).Sheet.Heights, oR kdTCell 58 zE Aa0_Sheet_Cells' ca0_Sheet_Cells' (⟨readW a0.Sheet a1 a2 a3⟩ : TMaker).Sheet.Cells, oR kdTRect 76 zE Aa0_Sheet_Merges' ca0_Sheet_Merges' (⟨readW a0.Sheet a1 a2 a3⟩ : TMaker).Sheet.Merges] := by
 have hS := hI.sp
 have hp1 := hS.cap 1 rfl
 have hlhp1 := hp1.le
 have hmhp1 := hp1.mx
 have hp2 := hS.cap 2 rfl
 have hlhp2 := hp2.le
 have hmhp2 := hp2.mx
 have hp3 := hS.cap 3 rfl
 have hlhp3 := hp3.le
 have hmhp3 := hp3.mx
 have hp4 := hS.cap 4 rfl
 have hlhp4 := hp4.le
 have hmhp4 := hp4.mx
 refine Calls_of (vs := [.pointer (some ⟨ba0, 0, none⟩), vstr a1, .int .i64 a2, .int .i64 a3]) (N := 31) Tryz.func37 rfl rfl (Nat.le_of_ble_eq_true rfl) ?_
 refine C_seq <| C_region <| wv rfl rfl rfl (R_assign rfl rfl) ?_
 refine W_nil <| E_then <| C_seq <| C_region <| wv rfl rfl rfl (R_move rfl rfl) ?_
 refine W_cons rfl (by decide) (Sv_call rfl rfl rfl ent25 ?_)
 refine (parse_calls a1 _ _ hS.out0  ).mono ?_
 rintro e_ w5 ⟨AR0_6, cR0_6, qR0_6, rfl, hS_⟩
 refine ⟨_, rfl, ?_⟩
 have hS := hS.call0 hS_
 have hp7 := hS.cap 1 rfl
 have hlhp7 := hp7.le
 have hmhp7 := hp7.mx
 refine wv rfl rfl rfl (R_move rfl rfl) <| wv rfl rfl rfl (R_extract rfl rfl rfl) <| wv rfl rfl rfl (R_extract rfl rfl rfl) <| wv rfl rfl rfl (R_extract rfl rfl rfl) <| wv rfl rfl rfl (R_assign rfl rfl) <| wv rfl rfl rfl (R_assign rfl rfl) <| wv rfl rfl rfl (R_assign rfl rfl) ?_
 refine W_nil <| E_then (C_fr [(0, .pointer (some ⟨ba0, 0, none⟩)), (2, .int .i64 a2), (3, .int .i64 a3), (9, .slice AR0_6 (parseS a1).1.length cR0_6), (10, .int .i64 (parseS a1).2.1), (11, .int .i64 (parseS a1).2.2)] rfl ?_)
 refine C_seq <| C_seq <| C_region <| wv rfl rfl rfl (R_move rfl rfl) <| wv rfl rfl rfl (R_move rfl rfl) ?_
 refine W_cons rfl (by decide) (Sv_call rfl rfl rfl ent75 ?_)
 refine (wrong_calls (parseS a1).2.2 (parseS a1).2.1 _ _ hS.out0  ).mono ?_
 rintro e_ w8 ⟨rfl, hS_⟩
 refine ⟨_, rfl, ?_⟩
 have hS := hS.call0 hS_
 refine wv rfl rfl rfl (R_assign rfl rfl) ?_
 refine W_nil <| E_then (C_fr [(0, .pointer (some ⟨ba0, 0, none⟩)), (2, .int .i64 a2), (3, .int .i64 a3), (9, .slice AR0_6 (parseS a1).1.length cR0_6), (12, errV (wrongS (parseS a1).2.2 (parseS a1).2.1))] rfl ?_)
 refine C_seq <| C_region <| wv rfl rfl rfl (R_move rfl rfl) <| wv rfl rfl rfl (R_erne rfl rfl Tryz.underlying64) ?_
 refine W_nil <| E_then <| C_ite rfl (fun hC0 => ?_) (fun hC0 => ?_)
 ·have hpz : ¬ (parseS a1).2.2 = 0 := wrong_none.1 (by simpa using hC0)
  refine C_seq <| C_region <| wv rfl rfl rfl (R_move rfl rfl) <| wv rfl rfl rfl (R_assign rfl rfl) ?_
  refine W_nil <| E_then (C_fr [(8, errV (wrongS (parseS a1).2.2 (parseS a1).2.1))] rfl ?_)
  refine C_ret <| E_then_ret ?_
  have hq10 : a0.Sheet.Widths = (⟨readW a0.Sheet a1 a2 a3⟩ : TMaker).Sheet.Widths := by (rw [readW_1 hpz]; done)
  have hS := hS.re 3 rfl hq10
  have hq11 : a0.Sheet.Heights = (⟨readW a0.Sheet a1 a2 a3⟩ : TMaker).Sheet.Heights := by (rw [readW_1 hpz]; done)
  have hS := hS.re 4 rfl hq11
  have hq12 : a0.Sheet.Cells = (⟨readW a0.Sheet a1 a2 a3⟩ : TMaker).Sheet.Cells := by (rw [readW_1 hpz]; done)
  have hS := hS.re 5 rfl hq12
  have hq13 : a0.Sheet.Merges = (⟨readW a0.Sheet a1 a2 a3⟩ : TMaker).Sheet.Merges := by (rw [readW_1 hpz]; done)
  have hS := hS.re 6 rfl hq13
  have hv14 : a0.Sheet.Right = (⟨readW a0.Sheet a1 a2 a3⟩ : TMaker).Sheet.Right := by (rw [readW_1 hpz]; done)
  have hS := hS.as 2 rfl (r' := bR ba0 60 [.int .i64 (⟨readW a0.Sheet a1 a2 a3⟩ : TMaker).Sheet.Right, .slice Aa0_Sheet_Widths (⟨readW a0.Sheet a1 a2 a3⟩ : TMaker).Sheet.Widths.length ca0_Sheet_Widths, .slice Aa0_Sheet_Heights (⟨readW a0.Sheet a1 a2 a3⟩ : TMaker).Sheet.Heights.length ca0_Sheet_Heights, .slice Aa0_Sheet_Cells (⟨readW a0.Sheet a1 a2 a3⟩ : TMaker).Sheet.Cells.length ca0_Sheet_Cells, .slice Aa0_Sheet_Merges (⟨readW a0.Sheet a1 a2 a3⟩ : TMaker).Sheet.Merges.length ca0_Sheet_Merges]) (fun h_ => by rw [← hq10, ← hq11, ← hq12, ← hq13, ← hv14]; exact h_) (fun _ h_ => h_)
  refine E_ret1 rfl rfl ?_
  exact ⟨Aa0_Sheet_Widths, ca0_Sheet_Widths, Aa0_Sheet_Heights, ca0_Sheet_Heights, Aa0_Sheet_Cells, ca0_Sheet_Cells, Aa0_Sheet_Merges, ca0_Sheet_Merges, Lret1 (show (errV (wrongS (parseS a1).2.2 (parseS a1).2.1) : Value) = errV (readE a1 a2 a3) by (rw [readE_1 hpz]; done)), hS.fin [2, 3, 4, 5, 6] (by decide) rfl⟩
 ·have hpz : (parseS a1).2.2 = 0 := Decidable.byContradiction fun h_ => by have h2_ := (wrong_none (at_ := (parseS a1).2.1)).2 h_; rw [hC0] at h2_; cases h2_
  have hrb := p0 hpz
  have hrf := hrb.fill
  refine C_skip <| E_then <| C_seq <| C_region <| wv rfl rfl rfl (R_move rfl rfl) <| wv rfl rfl rfl (R_move rfl rfl) ?_
  refine W_cons rfl (by decide) (Sv_call rfl rfl rfl ent24 ?_)
  refine (fill_calls (parseS a1).1 AR0_6 cR0_6 _ _ hS.out0 (hS.ow [] 1 rfl rfl (hS.zq [] 0 rfl rfl)) (hS.cap 1 rfl) (by exact hrb.1) (by exact hrb.2)).mono ?_
  rintro e_ w15 ⟨AR0_16, cR0_16, qR0_16, rfl, hS_⟩
  refine ⟨_, rfl, ?_⟩
  have hS := hS.call0 hS_
  have hp17 := hS.cap 1 rfl
  have hlhp17 := hp17.le
  have hmhp17 := hp17.mx
  refine wv rfl rfl rfl (R_move rfl rfl) <| wv rfl rfl rfl (R_move rfl rfl) ?_
  refine W_cons rfl (by decide) (Sv_call rfl rfl rfl ent29 ?_)
  refine (mfill_calls ba0 a0 Aa0_Sheet_Widths ca0_Sheet_Widths Aa0_Sheet_Heights ca0_Sheet_Heights Aa0_Sheet_Cells ca0_Sheet_Cells Aa0_Sheet_Merges ca0_Sheet_Merges (fillS (parseS a1).1) AR0_16 cR0_16 a2 a3 _ _ (hS.out [4, 5, 6, 7, 8] (by decide)) (hS.ow [4, 5, 6, 7, 8] 1 rfl rfl (hS.zq [4, 5, 6, 7, 8] 0 rfl rfl)) (hS.cap 1 rfl) (by exact hrf.1) (by exact hrf.2) (by assumption)).mono ?_
  rintro e_ w18 ⟨Aa0_19_Sheet_Widths', ca0_19_Sheet_Widths', Aa0_19_Sheet_Heights', ca0_19_Sheet_Heights', Aa0_19_Sheet_Cells', ca0_19_Sheet_Cells', Aa0_19_Sheet_Merges', ca0_19_Sheet_Merges', rfl, hS_⟩
  refine ⟨_, rfl, ?_⟩
  have hS := hS.call [4, 5, 6, 7, 8] (by decide) hS_
  have hp20 := hS.cap 1 rfl
  have hlhp20 := hp20.le
  have hmhp20 := hp20.mx
  have hp21 := hS.cap 2 rfl
  have hlhp21 := hp21.le
  have hmhp21 := hp21.mx
  have hp22 := hS.cap 3 rfl
  have hlhp22 := hp22.le
  have hmhp22 := hp22.mx
  have hp23 := hS.cap 4 rfl
  have hlhp23 := hp23.le
  have hmhp23 := hp23.mx
  refine wv rfl rfl rfl (R_assign rfl rfl) ?_
  refine W_nil <| E_then (C_fr [(8, errV (wrongS (faultS (fillS (parseS a1).1) a2 a3) 0))] rfl ?_)
  refine C_ret ?_
  have hq24 : (⟨fillW a0.Sheet (fillS (parseS a1).1) a2 a3⟩ : TMaker).Sheet.Widths = (⟨readW a0.Sheet a1 a2 a3⟩ : TMaker).Sheet.Widths := by (rw [readW_0 hpz]; done)
  have hS := hS.re 1 rfl hq24
  have hq25 : (⟨fillW a0.Sheet (fillS (parseS a1).1) a2 a3⟩ : TMaker).Sheet.Heights = (⟨readW a0.Sheet a1 a2 a3⟩ : TMaker).Sheet.Heights := by (rw [readW_0 hpz]; done)
  have hS := hS.re 2 rfl hq25
  have hq26 : (⟨fillW a0.Sheet (fillS (parseS a1).1) a2 a3⟩ : TMaker).Sheet.Cells = (⟨readW a0.Sheet a1 a2 a3⟩ : TMaker).Sheet.Cells := by (rw [readW_0 hpz]; done)
  have hS := hS.re 3 rfl hq26
  have hq27 : (⟨fillW a0.Sheet (fillS (parseS a1).1) a2 a3⟩ : TMaker).Sheet.Merges = (⟨readW a0.Sheet a1 a2 a3⟩ : TMaker).Sheet.Merges := by (rw [readW_0 hpz]; done)
  have hS := hS.re 4 rfl hq27
  have hv28 : (⟨fillW a0.Sheet (fillS (parseS a1).1) a2 a3⟩ : TMaker).Sheet.Right = (⟨readW a0.Sheet a1 a2 a3⟩ : TMaker).Sheet.Right := by (rw [readW_0 hpz]; done)
  have hS := hS.as 0 rfl (r' := bR ba0 60 [.int .i64 (⟨readW a0.Sheet a1 a2 a3⟩ : TMaker).Sheet.Right, .slice Aa0_19_Sheet_Widths' (⟨readW a0.Sheet a1 a2 a3⟩ : TMaker).Sheet.Widths.length ca0_19_Sheet_Widths', .slice Aa0_19_Sheet_Heights' (⟨readW a0.Sheet a1 a2 a3⟩ : TMaker).Sheet.Heights.length ca0_19_Sheet_Heights', .slice Aa0_19_Sheet_Cells' (⟨readW a0.Sheet a1 a2 a3⟩ : TMaker).Sheet.Cells.length ca0_19_Sheet_Cells', .slice Aa0_19_Sheet_Merges' (⟨readW a0.Sheet a1 a2 a3⟩ : TMaker).Sheet.Merges.length ca0_19_Sheet_Merges']) (fun h_ => by rw [← hq24, ← hq25, ← hq26, ← hq27, ← hv28]; exact h_) (fun _ h_ => h_)
  refine E_ret1 rfl rfl ?_
  exact ⟨Aa0_19_Sheet_Widths', ca0_19_Sheet_Widths', Aa0_19_Sheet_Heights', ca0_19_Sheet_Heights', Aa0_19_Sheet_Cells', ca0_19_Sheet_Cells', Aa0_19_Sheet_Merges', ca0_19_Sheet_Merges', Lret1 (show (errV (wrongS (faultS (fillS (parseS a1).1) a2 a3) 0) : Value) = errV (readE a1 a2 a3) by (rw [readE_0 hpz]; done)), hS.fin [0, 1, 2, 3, 4] (by decide) rfl⟩
theorem import_calls (a0 : List (List St)) (Aa0 : Option Addr) (ca0 : Nat) (a1 : Int) (a2 : Int) (z : Z) (w : World) (hI : In z w []) (hra0 : Rd (kslice kstr) z Aa0 a0) (hca0 : Cap Aa0 a0.length ca0) (p0 : RecB a0) (p1 : ET z) :
    Calls Tryz.prog 11 #[.slice Aa0 a0.length ca0, .int .i64 a1, .int .i64 a2] w fun e w' => ∃ (AR0_Widths : Option Addr) (cR0_Widths : Nat) (AR0_Heights : Option Addr) (cR0_Heights : Nat) (AR0_Cells : Option Addr) (cR0_Cells : Nat) (AR0_Merges : Option Addr) (cR0_Merges : Nat), e = .returned (.tuple #[.agg #[.int .i64 (fillW zSh (fillS a0) a1 a2).Right, .slice AR0_Widths (fillW zSh (fillS a0) a1 a2).Widths.length cR0_Widths, .slice AR0_Heights (fillW zSh (fillS a0) a1 a2).Heights.length cR0_Heights, .slice AR0_Cells (fillW zSh (fillS a0) a1 a2).Cells.length cR0_Cells, .slice AR0_Merges (fillW zSh (fillS a0) a1 a2).Merges.length cR0_Merges], .int .i64 (faultS (fillS a0) a1 a2)]) ∧ Sp (FF []) w z w' [oR (kint .i64) 3 zE AR0_Widths cR0_Widths (fillW zSh (fillS a0) a1 a2).Widths, oR (kint .i64) 3 zE AR0_Heights cR0_Heights (fillW zSh (fillS a0) a1 a2).Heights, oR kdTCell 58 zE AR0_Cells cR0_Cells (fillW zSh (fillS a0) a1 a2).Cells, oR kdTRect 76 zE AR0_Merges cR0_Merges (fillW zSh (fillS a0) a1 a2).Merges] := by
 have hla0 := hca0.le
 have hma0 := hca0.mx
 have hS := hI.sp
 have hrf := p0.fill
 refine Calls_of (vs := [.slice Aa0 a0.length ca0, .int .i64 a1, .int .i64 a2]) (N := 23) Tryz.func11 rfl rfl (Nat.le_of_ble_eq_true rfl) ?_
 refine C_seq <| C_region <| W_cons rfl (by decide) (S_box hS rfl (R_alloc rfl alloc30) (fun b2 w1 hS => ?_))
 refine wv rfl rfl rfl (R_assign rfl rfl) ?_
 refine W_nil <| E_then <| C_seq <| C_region <| W_cons rfl (by decide) (S_box hS rfl (R_alloc rfl alloc60) (fun b4 w3 hS => ?_))
 refine W_nil <| E_then <| C_seq <| C_region <| wv rfl rfl rfl (R_move rfl rfl) ?_
 refine W_cons rfl (by decide) (Sv_call rfl rfl rfl ent24 ?_)
 refine (fill_calls a0 Aa0 ca0 _ _ hS.out0 (hra0.mono (hS.zl [])) hca0 (by exact p0.1) (by exact p0.2)).mono ?_
 rintro e_ w5 ⟨AR0_6, cR0_6, qR0_6, rfl, hS_⟩
 refine ⟨_, rfl, ?_⟩
 have hS := hS.call0 hS_
 have hp7 := hS.cap 1 rfl
 have hlhp7 := hp7.le
 have hmhp7 := hp7.mx
 refine wv rfl rfl rfl (R_move rfl rfl) <| wv rfl rfl rfl (R_move rfl rfl) ?_
 have hS := hS.nilrow (kint .i64) 3 zE
 have hS := hS.nilrow (kint .i64) 3 zE
 have hS := hS.nilrow kdTCell 58 zE
 have hS := hS.nilrow kdTRect 76 zE
 refine W_cons rfl (by decide) (Sv_call rfl rfl rfl ent29 ?_)
 refine (mfill_calls b4 (⟨(⟨0, ([] : List Int), ([] : List Int), ([] : List TCell), ([] : List TRect)⟩ : TSheet)⟩ : TMaker) none 0 none 0 none 0 none 0 (fillS a0) AR0_6 cR0_6 a1 a2 _ _ (hS.out [6, 3, 2, 1, 0] (by decide)) (hS.ow [6, 3, 2, 1, 0] 5 rfl rfl (hS.zq [6, 3, 2, 1, 0] 4 rfl rfl)) (hS.cap 5 rfl) (by exact hrf.1) (by exact hrf.2) (by exact Nat.zero_le _)).mono ?_
 rintro e_ w8 ⟨Aa0_13_Sheet_Widths', ca0_13_Sheet_Widths', Aa0_13_Sheet_Heights', ca0_13_Sheet_Heights', Aa0_13_Sheet_Cells', ca0_13_Sheet_Cells', Aa0_13_Sheet_Merges', ca0_13_Sheet_Merges', rfl, hS_⟩
 refine ⟨_, rfl, ?_⟩
 have hS := hS.call [6, 3, 2, 1, 0] (by decide) hS_
 have hp14 := hS.cap 1 rfl
 have hlhp14 := hp14.le
 have hmhp14 := hp14.mx
 have hp15 := hS.cap 2 rfl
 have hlhp15 := hp15.le
 have hmhp15 := hp15.mx
 have hp16 := hS.cap 3 rfl
 have hlhp16 := hp16.le
 have hmhp16 := hp16.mx
 have hp17 := hS.cap 4 rfl
 have hlhp17 := hp17.le
 have hmhp17 := hp17.mx
 refine W_cons rfl (by decide) (Sv_call rfl rfl rfl ent28 ?_)
 refine (told_calls (wrongS (faultS (fillS a0) a1 a2) 0) _ _ hS.out0  (by exact ET.mono p1 (hS.zl []))).mono ?_
 rintro e_ w18 ⟨rfl, hS_⟩
 refine ⟨_, rfl, ?_⟩
 have hS := hS.call0 hS_
 refine wv rfl rfl rfl (R_move rfl rfl) <| wv rfl rfl rfl (R_extract rfl rfl rfl) <| wv rfl rfl rfl (R_extract rfl rfl rfl) <| wv rfl rfl rfl (R_assign rfl rfl) <| wv rfl rfl rfl (R_assign rfl rfl) ?_
 refine W_nil <| E_then (C_fr [(6, .pointer (some ⟨b2, 0, none⟩)), (8, .pointer (some ⟨b4, 0, none⟩)), (9, .int .i64 (toldS (wrongS (faultS (fillS a0) a1 a2) 0)).1)] rfl ?_)
 refine C_seq <| C_region <| wv rfl rfl rfl (R_fld rfl rfl fld60_0) <| wv rfl rfl rfl (R_loadN (cs := [.int .i64 (⟨fillW (⟨(⟨0, ([] : List Int), ([] : List Int), ([] : List TCell), ([] : List TRect)⟩ : TSheet)⟩ : TMaker).Sheet (fillS a0) a1 a2⟩ : TMaker).Sheet.Right, .slice Aa0_13_Sheet_Widths' (⟨fillW (⟨(⟨0, ([] : List Int), ([] : List Int), ([] : List TCell), ([] : List TRect)⟩ : TSheet)⟩ : TMaker).Sheet (fillS a0) a1 a2⟩ : TMaker).Sheet.Widths.length ca0_13_Sheet_Widths', .slice Aa0_13_Sheet_Heights' (⟨fillW (⟨(⟨0, ([] : List Int), ([] : List Int), ([] : List TCell), ([] : List TRect)⟩ : TSheet)⟩ : TMaker).Sheet (fillS a0) a1 a2⟩ : TMaker).Sheet.Heights.length ca0_13_Sheet_Heights', .slice Aa0_13_Sheet_Cells' (⟨fillW (⟨(⟨0, ([] : List Int), ([] : List Int), ([] : List TCell), ([] : List TRect)⟩ : TSheet)⟩ : TMaker).Sheet (fillS a0) a1 a2⟩ : TMaker).Sheet.Cells.length ca0_13_Sheet_Cells', .slice Aa0_13_Sheet_Merges' (⟨fillW (⟨(⟨0, ([] : List Int), ([] : List Int), ([] : List TCell), ([] : List TRect)⟩ : TSheet)⟩ : TMaker).Sheet (fillS a0) a1 a2⟩ : TMaker).Sheet.Merges.length ca0_13_Sheet_Merges']) rfl rfl agg30 size30 rfl (boxcells (hS.bx 0 rfl) 0 rfl)) <| wv rfl rfl rfl (R_move rfl rfl) ?_
 refine W_cons0 rfl (S_store hS 7 rfl rfl rfl rfl rfl size30 (one_cons rfl (one_cons rfl (one_cons rfl (one_cons rfl (one_cons rfl one_nil))))) (Nat.le_of_ble_eq_true rfl) (fun w20 hS => ?_))
 have hS : Sp (FF []) w z w20 [bR b4 60 [.int .i64 (⟨fillW (⟨(⟨0, ([] : List Int), ([] : List Int), ([] : List TCell), ([] : List TRect)⟩ : TSheet)⟩ : TMaker).Sheet (fillS a0) a1 a2⟩ : TMaker).Sheet.Right, .slice Aa0_13_Sheet_Widths' (⟨fillW (⟨(⟨0, ([] : List Int), ([] : List Int), ([] : List TCell), ([] : List TRect)⟩ : TSheet)⟩ : TMaker).Sheet (fillS a0) a1 a2⟩ : TMaker).Sheet.Widths.length ca0_13_Sheet_Widths', .slice Aa0_13_Sheet_Heights' (⟨fillW (⟨(⟨0, ([] : List Int), ([] : List Int), ([] : List TCell), ([] : List TRect)⟩ : TSheet)⟩ : TMaker).Sheet (fillS a0) a1 a2⟩ : TMaker).Sheet.Heights.length ca0_13_Sheet_Heights', .slice Aa0_13_Sheet_Cells' (⟨fillW (⟨(⟨0, ([] : List Int), ([] : List Int), ([] : List TCell), ([] : List TRect)⟩ : TSheet)⟩ : TMaker).Sheet (fillS a0) a1 a2⟩ : TMaker).Sheet.Cells.length ca0_13_Sheet_Cells', .slice Aa0_13_Sheet_Merges' (⟨fillW (⟨(⟨0, ([] : List Int), ([] : List Int), ([] : List TCell), ([] : List TRect)⟩ : TSheet)⟩ : TMaker).Sheet (fillS a0) a1 a2⟩ : TMaker).Sheet.Merges.length ca0_13_Sheet_Merges'], oR (kint .i64) 3 zE Aa0_13_Sheet_Widths' ca0_13_Sheet_Widths' (⟨fillW (⟨(⟨0, ([] : List Int), ([] : List Int), ([] : List TCell), ([] : List TRect)⟩ : TSheet)⟩ : TMaker).Sheet (fillS a0) a1 a2⟩ : TMaker).Sheet.Widths, oR (kint .i64) 3 zE Aa0_13_Sheet_Heights' ca0_13_Sheet_Heights' (⟨fillW (⟨(⟨0, ([] : List Int), ([] : List Int), ([] : List TCell), ([] : List TRect)⟩ : TSheet)⟩ : TMaker).Sheet (fillS a0) a1 a2⟩ : TMaker).Sheet.Heights, oR kdTCell 58 zE Aa0_13_Sheet_Cells' ca0_13_Sheet_Cells' (⟨fillW (⟨(⟨0, ([] : List Int), ([] : List Int), ([] : List TCell), ([] : List TRect)⟩ : TSheet)⟩ : TMaker).Sheet (fillS a0) a1 a2⟩ : TMaker).Sheet.Cells, oR kdTRect 76 zE Aa0_13_Sheet_Merges' ca0_13_Sheet_Merges' (⟨fillW (⟨(⟨0, ([] : List Int), ([] : List Int), ([] : List TCell), ([] : List TRect)⟩ : TSheet)⟩ : TMaker).Sheet (fillS a0) a1 a2⟩ : TMaker).Sheet.Merges, zR qR0_6, oR (kslice kstr) 43 qR0_6 AR0_6 cR0_6 (fillS a0), bR b2 30 [.int .i64 (⟨fillW (⟨(⟨0, ([] : List Int), ([] : List Int), ([] : List TCell), ([] : List TRect)⟩ : TSheet)⟩ : TMaker).Sheet (fillS a0) a1 a2⟩ : TMaker).Sheet.Right, .slice Aa0_13_Sheet_Widths' (⟨fillW (⟨(⟨0, ([] : List Int), ([] : List Int), ([] : List TCell), ([] : List TRect)⟩ : TSheet)⟩ : TMaker).Sheet (fillS a0) a1 a2⟩ : TMaker).Sheet.Widths.length ca0_13_Sheet_Widths', .slice Aa0_13_Sheet_Heights' (⟨fillW (⟨(⟨0, ([] : List Int), ([] : List Int), ([] : List TCell), ([] : List TRect)⟩ : TSheet)⟩ : TMaker).Sheet (fillS a0) a1 a2⟩ : TMaker).Sheet.Heights.length ca0_13_Sheet_Heights', .slice Aa0_13_Sheet_Cells' (⟨fillW (⟨(⟨0, ([] : List Int), ([] : List Int), ([] : List TCell), ([] : List TRect)⟩ : TSheet)⟩ : TMaker).Sheet (fillS a0) a1 a2⟩ : TMaker).Sheet.Cells.length ca0_13_Sheet_Cells', .slice Aa0_13_Sheet_Merges' (⟨fillW (⟨(⟨0, ([] : List Int), ([] : List Int), ([] : List TCell), ([] : List TRect)⟩ : TSheet)⟩ : TMaker).Sheet (fillS a0) a1 a2⟩ : TMaker).Sheet.Merges.length ca0_13_Sheet_Merges']] := hS
 refine wv rfl rfl rfl (R_assign rfl rfl) ?_
 refine W_nil <| E_then (C_fr [(6, .pointer (some ⟨b2, 0, none⟩)), (7, .int .i64 (toldS (wrongS (faultS (fillS a0) a1 a2) 0)).1)] rfl ?_)
 refine C_ret ?_
 have hq21 : (⟨fillW (⟨(⟨0, ([] : List Int), ([] : List Int), ([] : List TCell), ([] : List TRect)⟩ : TSheet)⟩ : TMaker).Sheet (fillS a0) a1 a2⟩ : TMaker).Sheet.Widths = (fillW zSh (fillS a0) a1 a2).Widths := by rfl
 have hS := hS.re 1 rfl hq21
 have hq22 : (⟨fillW (⟨(⟨0, ([] : List Int), ([] : List Int), ([] : List TCell), ([] : List TRect)⟩ : TSheet)⟩ : TMaker).Sheet (fillS a0) a1 a2⟩ : TMaker).Sheet.Heights = (fillW zSh (fillS a0) a1 a2).Heights := by rfl
 have hS := hS.re 2 rfl hq22
 have hq23 : (⟨fillW (⟨(⟨0, ([] : List Int), ([] : List Int), ([] : List TCell), ([] : List TRect)⟩ : TSheet)⟩ : TMaker).Sheet (fillS a0) a1 a2⟩ : TMaker).Sheet.Cells = (fillW zSh (fillS a0) a1 a2).Cells := by rfl
 have hS := hS.re 3 rfl hq23
 have hq24 : (⟨fillW (⟨(⟨0, ([] : List Int), ([] : List Int), ([] : List TCell), ([] : List TRect)⟩ : TSheet)⟩ : TMaker).Sheet (fillS a0) a1 a2⟩ : TMaker).Sheet.Merges = (fillW zSh (fillS a0) a1 a2).Merges := by rfl
 have hS := hS.re 4 rfl hq24
 refine E_rv2 rfl (RV_cellN (cs := [.int .i64 (⟨fillW (⟨(⟨0, ([] : List Int), ([] : List Int), ([] : List TCell), ([] : List TRect)⟩ : TSheet)⟩ : TMaker).Sheet (fillS a0) a1 a2⟩ : TMaker).Sheet.Right, .slice Aa0_13_Sheet_Widths' (⟨fillW (⟨(⟨0, ([] : List Int), ([] : List Int), ([] : List TCell), ([] : List TRect)⟩ : TSheet)⟩ : TMaker).Sheet (fillS a0) a1 a2⟩ : TMaker).Sheet.Widths.length ca0_13_Sheet_Widths', .slice Aa0_13_Sheet_Heights' (⟨fillW (⟨(⟨0, ([] : List Int), ([] : List Int), ([] : List TCell), ([] : List TRect)⟩ : TSheet)⟩ : TMaker).Sheet (fillS a0) a1 a2⟩ : TMaker).Sheet.Heights.length ca0_13_Sheet_Heights', .slice Aa0_13_Sheet_Cells' (⟨fillW (⟨(⟨0, ([] : List Int), ([] : List Int), ([] : List TCell), ([] : List TRect)⟩ : TSheet)⟩ : TMaker).Sheet (fillS a0) a1 a2⟩ : TMaker).Sheet.Cells.length ca0_13_Sheet_Cells', .slice Aa0_13_Sheet_Merges' (⟨fillW (⟨(⟨0, ([] : List Int), ([] : List Int), ([] : List TCell), ([] : List TRect)⟩ : TSheet)⟩ : TMaker).Sheet (fillS a0) a1 a2⟩ : TMaker).Sheet.Merges.length ca0_13_Sheet_Merges']) rfl agg30 size30 rfl (boxcells (hS.bx 7 rfl) 0 rfl)) (RV_tmp rfl) ?_
 exact ⟨Aa0_13_Sheet_Widths', ca0_13_Sheet_Widths', Aa0_13_Sheet_Heights', ca0_13_Sheet_Heights', Aa0_13_Sheet_Cells', ca0_13_Sheet_Cells', Aa0_13_Sheet_Merges', ca0_13_Sheet_Merges', Lret2 (show (.agg #[.int .i64 (⟨fillW (⟨(⟨0, ([] : List Int), ([] : List Int), ([] : List TCell), ([] : List TRect)⟩ : TSheet)⟩ : TMaker).Sheet (fillS a0) a1 a2⟩ : TMaker).Sheet.Right, .slice Aa0_13_Sheet_Widths' (⟨fillW (⟨(⟨0, ([] : List Int), ([] : List Int), ([] : List TCell), ([] : List TRect)⟩ : TSheet)⟩ : TMaker).Sheet (fillS a0) a1 a2⟩ : TMaker).Sheet.Widths.length ca0_13_Sheet_Widths', .slice Aa0_13_Sheet_Heights' (⟨fillW (⟨(⟨0, ([] : List Int), ([] : List Int), ([] : List TCell), ([] : List TRect)⟩ : TSheet)⟩ : TMaker).Sheet (fillS a0) a1 a2⟩ : TMaker).Sheet.Heights.length ca0_13_Sheet_Heights', .slice Aa0_13_Sheet_Cells' (⟨fillW (⟨(⟨0, ([] : List Int), ([] : List Int), ([] : List TCell), ([] : List TRect)⟩ : TSheet)⟩ : TMaker).Sheet (fillS a0) a1 a2⟩ : TMaker).Sheet.Cells.length ca0_13_Sheet_Cells', .slice Aa0_13_Sheet_Merges' (⟨fillW (⟨(⟨0, ([] : List Int), ([] : List Int), ([] : List TCell), ([] : List TRect)⟩ : TSheet)⟩ : TMaker).Sheet (fillS a0) a1 a2⟩ : TMaker).Sheet.Merges.length ca0_13_Sheet_Merges'] : Value) = .agg #[.int .i64 (fillW zSh (fillS a0) a1 a2).Right, .slice _ (fillW zSh (fillS a0) a1 a2).Widths.length _, .slice _ (fillW zSh (fillS a0) a1 a2).Heights.length _, .slice _ (fillW zSh (fillS a0) a1 a2).Cells.length _, .slice _ (fillW zSh (fillS a0) a1 a2).Merges.length _] by rfl) (Lint (show (toldS (wrongS (faultS (fillS a0) a1 a2) 0)).1 = faultS (fillS a0) a1 a2 by exact told_wrong _ _)), hS.fin [1, 2, 3, 4] (by decide) rfl⟩
theorem read_calls (a0 : St) (a1 : Int) (a2 : Int) (z : Z) (w : World) (hI : In z w [])  (p0 : (parseS a0).2.2 = 0 → RecB (parseS a0).1) (p1 : ET z) :
    Calls Tryz.prog 21 #[vstr a0, .int .i64 a1, .int .i64 a2] w fun e w' => ∃ (AR0_Widths : Option Addr) (cR0_Widths : Nat) (AR0_Heights : Option Addr) (cR0_Heights : Nat) (AR0_Cells : Option Addr) (cR0_Cells : Nat) (AR0_Merges : Option Addr) (cR0_Merges : Nat), e = .returned (.tuple #[.agg #[.int .i64 (readW zSh a0 a1 a2).Right, .slice AR0_Widths (readW zSh a0 a1 a2).Widths.length cR0_Widths, .slice AR0_Heights (readW zSh a0 a1 a2).Heights.length cR0_Heights, .slice AR0_Cells (readW zSh a0 a1 a2).Cells.length cR0_Cells, .slice AR0_Merges (readW zSh a0 a1 a2).Merges.length cR0_Merges], .int .i64 (toldS (readE a0 a1 a2)).2, .int .i64 (toldS (readE a0 a1 a2)).1]) ∧ Sp (FF []) w z w' [oR (kint .i64) 3 zE AR0_Widths cR0_Widths (readW zSh a0 a1 a2).Widths, oR (kint .i64) 3 zE AR0_Heights cR0_Heights (readW zSh a0 a1 a2).Heights, oR kdTCell 58 zE AR0_Cells cR0_Cells (readW zSh a0 a1 a2).Cells, oR kdTRect 76 zE AR0_Merges cR0_Merges (readW zSh a0 a1 a2).Merges] := by
 have hS := hI.sp
 refine Calls_of (vs := [vstr a0, .int .i64 a1, .int .i64 a2]) (N := 22) Tryz.func21 rfl rfl (Nat.le_of_ble_eq_true rfl) ?_
 refine C_seq <| C_region <| W_cons rfl (by decide) (S_box hS rfl (R_alloc rfl alloc30) (fun b2 w1 hS => ?_))
 refine wv rfl rfl rfl (R_assign rfl rfl) <| wv rfl rfl rfl (R_assign rfl rfl) ?_
 refine W_nil <| E_then <| C_seq <| C_region <| W_cons rfl (by decide) (S_box hS rfl (R_alloc rfl alloc60) (fun b4 w3 hS => ?_))
 refine W_nil <| E_then <| C_seq <| C_region <| wv rfl rfl rfl (R_move rfl rfl) <| wv rfl rfl rfl (R_move rfl rfl) <| wv rfl rfl rfl (R_move rfl rfl) ?_
 have hS := hS.nilrow (kint .i64) 3 zE
 have hS := hS.nilrow (kint .i64) 3 zE
 have hS := hS.nilrow kdTCell 58 zE
 have hS := hS.nilrow kdTRect 76 zE
 refine W_cons rfl (by decide) (Sv_call rfl rfl rfl ent37 ?_)
 refine (mparse_calls b4 (⟨(⟨0, ([] : List Int), ([] : List Int), ([] : List TCell), ([] : List TRect)⟩ : TSheet)⟩ : TMaker) none 0 none 0 none 0 none 0 a0 a1 a2 _ _ (hS.out [4, 3, 2, 1, 0] (by decide))  (by exact p0) (by exact Nat.zero_le _)).mono ?_
 rintro e_ w5 ⟨Aa0_10_Sheet_Widths', ca0_10_Sheet_Widths', Aa0_10_Sheet_Heights', ca0_10_Sheet_Heights', Aa0_10_Sheet_Cells', ca0_10_Sheet_Cells', Aa0_10_Sheet_Merges', ca0_10_Sheet_Merges', rfl, hS_⟩
 refine ⟨_, rfl, ?_⟩
 have hS := hS.call [4, 3, 2, 1, 0] (by decide) hS_
 have hp11 := hS.cap 1 rfl
 have hlhp11 := hp11.le
 have hmhp11 := hp11.mx
 have hp12 := hS.cap 2 rfl
 have hlhp12 := hp12.le
 have hmhp12 := hp12.mx
 have hp13 := hS.cap 3 rfl
 have hlhp13 := hp13.le
 have hmhp13 := hp13.mx
 have hp14 := hS.cap 4 rfl
 have hlhp14 := hp14.le
 have hmhp14 := hp14.mx
 refine W_cons rfl (by decide) (Sv_call rfl rfl rfl ent28 ?_)
 refine (told_calls (readE a0 a1 a2) _ _ hS.out0  (by exact ET.mono p1 (hS.zl []))).mono ?_
 rintro e_ w15 ⟨rfl, hS_⟩
 refine ⟨_, rfl, ?_⟩
 have hS := hS.call0 hS_
 refine wv rfl rfl rfl (R_move rfl rfl) <| wv rfl rfl rfl (R_extract rfl rfl rfl) <| wv rfl rfl rfl (R_extract rfl rfl rfl) <| wv rfl rfl rfl (R_assign rfl rfl) <| wv rfl rfl rfl (R_assign rfl rfl) ?_
 refine W_nil <| E_then (C_fr [(6, .pointer (some ⟨b2, 0, none⟩)), (7, .int .i64 (toldS (readE a0 a1 a2)).2), (8, .int .i64 (toldS (readE a0 a1 a2)).1), (9, .pointer (some ⟨b4, 0, none⟩))] rfl ?_)
 refine C_seq <| C_region <| wv rfl rfl rfl (R_fld rfl rfl fld60_0) <| wv rfl rfl rfl (R_loadN (cs := [.int .i64 (⟨readW (⟨(⟨0, ([] : List Int), ([] : List Int), ([] : List TCell), ([] : List TRect)⟩ : TSheet)⟩ : TMaker).Sheet a0 a1 a2⟩ : TMaker).Sheet.Right, .slice Aa0_10_Sheet_Widths' (⟨readW (⟨(⟨0, ([] : List Int), ([] : List Int), ([] : List TCell), ([] : List TRect)⟩ : TSheet)⟩ : TMaker).Sheet a0 a1 a2⟩ : TMaker).Sheet.Widths.length ca0_10_Sheet_Widths', .slice Aa0_10_Sheet_Heights' (⟨readW (⟨(⟨0, ([] : List Int), ([] : List Int), ([] : List TCell), ([] : List TRect)⟩ : TSheet)⟩ : TMaker).Sheet a0 a1 a2⟩ : TMaker).Sheet.Heights.length ca0_10_Sheet_Heights', .slice Aa0_10_Sheet_Cells' (⟨readW (⟨(⟨0, ([] : List Int), ([] : List Int), ([] : List TCell), ([] : List TRect)⟩ : TSheet)⟩ : TMaker).Sheet a0 a1 a2⟩ : TMaker).Sheet.Cells.length ca0_10_Sheet_Cells', .slice Aa0_10_Sheet_Merges' (⟨readW (⟨(⟨0, ([] : List Int), ([] : List Int), ([] : List TCell), ([] : List TRect)⟩ : TSheet)⟩ : TMaker).Sheet a0 a1 a2⟩ : TMaker).Sheet.Merges.length ca0_10_Sheet_Merges']) rfl rfl agg30 size30 rfl (boxcells (hS.bx 0 rfl) 0 rfl)) <| wv rfl rfl rfl (R_move rfl rfl) <| wv rfl rfl rfl (R_move rfl rfl) ?_
 refine W_cons0 rfl (S_store hS 5 rfl rfl rfl rfl rfl size30 (one_cons rfl (one_cons rfl (one_cons rfl (one_cons rfl (one_cons rfl one_nil))))) (Nat.le_of_ble_eq_true rfl) (fun w17 hS => ?_))
 have hS : Sp (FF []) w z w17 [bR b4 60 [.int .i64 (⟨readW (⟨(⟨0, ([] : List Int), ([] : List Int), ([] : List TCell), ([] : List TRect)⟩ : TSheet)⟩ : TMaker).Sheet a0 a1 a2⟩ : TMaker).Sheet.Right, .slice Aa0_10_Sheet_Widths' (⟨readW (⟨(⟨0, ([] : List Int), ([] : List Int), ([] : List TCell), ([] : List TRect)⟩ : TSheet)⟩ : TMaker).Sheet a0 a1 a2⟩ : TMaker).Sheet.Widths.length ca0_10_Sheet_Widths', .slice Aa0_10_Sheet_Heights' (⟨readW (⟨(⟨0, ([] : List Int), ([] : List Int), ([] : List TCell), ([] : List TRect)⟩ : TSheet)⟩ : TMaker).Sheet a0 a1 a2⟩ : TMaker).Sheet.Heights.length ca0_10_Sheet_Heights', .slice Aa0_10_Sheet_Cells' (⟨readW (⟨(⟨0, ([] : List Int), ([] : List Int), ([] : List TCell), ([] : List TRect)⟩ : TSheet)⟩ : TMaker).Sheet a0 a1 a2⟩ : TMaker).Sheet.Cells.length ca0_10_Sheet_Cells', .slice Aa0_10_Sheet_Merges' (⟨readW (⟨(⟨0, ([] : List Int), ([] : List Int), ([] : List TCell), ([] : List TRect)⟩ : TSheet)⟩ : TMaker).Sheet a0 a1 a2⟩ : TMaker).Sheet.Merges.length ca0_10_Sheet_Merges'], oR (kint .i64) 3 zE Aa0_10_Sheet_Widths' ca0_10_Sheet_Widths' (⟨readW (⟨(⟨0, ([] : List Int), ([] : List Int), ([] : List TCell), ([] : List TRect)⟩ : TSheet)⟩ : TMaker).Sheet a0 a1 a2⟩ : TMaker).Sheet.Widths, oR (kint .i64) 3 zE Aa0_10_Sheet_Heights' ca0_10_Sheet_Heights' (⟨readW (⟨(⟨0, ([] : List Int), ([] : List Int), ([] : List TCell), ([] : List TRect)⟩ : TSheet)⟩ : TMaker).Sheet a0 a1 a2⟩ : TMaker).Sheet.Heights, oR kdTCell 58 zE Aa0_10_Sheet_Cells' ca0_10_Sheet_Cells' (⟨readW (⟨(⟨0, ([] : List Int), ([] : List Int), ([] : List TCell), ([] : List TRect)⟩ : TSheet)⟩ : TMaker).Sheet a0 a1 a2⟩ : TMaker).Sheet.Cells, oR kdTRect 76 zE Aa0_10_Sheet_Merges' ca0_10_Sheet_Merges' (⟨readW (⟨(⟨0, ([] : List Int), ([] : List Int), ([] : List TCell), ([] : List TRect)⟩ : TSheet)⟩ : TMaker).Sheet a0 a1 a2⟩ : TMaker).Sheet.Merges, bR b2 30 [.int .i64 (⟨readW (⟨(⟨0, ([] : List Int), ([] : List Int), ([] : List TCell), ([] : List TRect)⟩ : TSheet)⟩ : TMaker).Sheet a0 a1 a2⟩ : TMaker).Sheet.Right, .slice Aa0_10_Sheet_Widths' (⟨readW (⟨(⟨0, ([] : List Int), ([] : List Int), ([] : List TCell), ([] : List TRect)⟩ : TSheet)⟩ : TMaker).Sheet a0 a1 a2⟩ : TMaker).Sheet.Widths.length ca0_10_Sheet_Widths', .slice Aa0_10_Sheet_Heights' (⟨readW (⟨(⟨0, ([] : List Int), ([] : List Int), ([] : List TCell), ([] : List TRect)⟩ : TSheet)⟩ : TMaker).Sheet a0 a1 a2⟩ : TMaker).Sheet.Heights.length ca0_10_Sheet_Heights', .slice Aa0_10_Sheet_Cells' (⟨readW (⟨(⟨0, ([] : List Int), ([] : List Int), ([] : List TCell), ([] : List TRect)⟩ : TSheet)⟩ : TMaker).Sheet a0 a1 a2⟩ : TMaker).Sheet.Cells.length ca0_10_Sheet_Cells', .slice Aa0_10_Sheet_Merges' (⟨readW (⟨(⟨0, ([] : List Int), ([] : List Int), ([] : List TCell), ([] : List TRect)⟩ : TSheet)⟩ : TMaker).Sheet a0 a1 a2⟩ : TMaker).Sheet.Merges.length ca0_10_Sheet_Merges']] := hS
 refine wv rfl rfl rfl (R_assign rfl rfl) <| wv rfl rfl rfl (R_assign rfl rfl) ?_
 refine W_nil <| E_then (C_fr [(6, .pointer (some ⟨b2, 0, none⟩)), (7, .int .i64 (toldS (readE a0 a1 a2)).2), (8, .int .i64 (toldS (readE a0 a1 a2)).1)] rfl ?_)
 refine C_ret ?_
 have hq18 : (⟨readW (⟨(⟨0, ([] : List Int), ([] : List Int), ([] : List TCell), ([] : List TRect)⟩ : TSheet)⟩ : TMaker).Sheet a0 a1 a2⟩ : TMaker).Sheet.Widths = (readW zSh a0 a1 a2).Widths := by rfl
 have hS := hS.re 1 rfl hq18
 have hq19 : (⟨readW (⟨(⟨0, ([] : List Int), ([] : List Int), ([] : List TCell), ([] : List TRect)⟩ : TSheet)⟩ : TMaker).Sheet a0 a1 a2⟩ : TMaker).Sheet.Heights = (readW zSh a0 a1 a2).Heights := by rfl
 have hS := hS.re 2 rfl hq19
 have hq20 : (⟨readW (⟨(⟨0, ([] : List Int), ([] : List Int), ([] : List TCell), ([] : List TRect)⟩ : TSheet)⟩ : TMaker).Sheet a0 a1 a2⟩ : TMaker).Sheet.Cells = (readW zSh a0 a1 a2).Cells := by rfl
 have hS := hS.re 3 rfl hq20
 have hq21 : (⟨readW (⟨(⟨0, ([] : List Int), ([] : List Int), ([] : List TCell), ([] : List TRect)⟩ : TSheet)⟩ : TMaker).Sheet a0 a1 a2⟩ : TMaker).Sheet.Merges = (readW zSh a0 a1 a2).Merges := by rfl
 have hS := hS.re 4 rfl hq21
 refine E_rv3 rfl (RV_cellN (cs := [.int .i64 (⟨readW (⟨(⟨0, ([] : List Int), ([] : List Int), ([] : List TCell), ([] : List TRect)⟩ : TSheet)⟩ : TMaker).Sheet a0 a1 a2⟩ : TMaker).Sheet.Right, .slice Aa0_10_Sheet_Widths' (⟨readW (⟨(⟨0, ([] : List Int), ([] : List Int), ([] : List TCell), ([] : List TRect)⟩ : TSheet)⟩ : TMaker).Sheet a0 a1 a2⟩ : TMaker).Sheet.Widths.length ca0_10_Sheet_Widths', .slice Aa0_10_Sheet_Heights' (⟨readW (⟨(⟨0, ([] : List Int), ([] : List Int), ([] : List TCell), ([] : List TRect)⟩ : TSheet)⟩ : TMaker).Sheet a0 a1 a2⟩ : TMaker).Sheet.Heights.length ca0_10_Sheet_Heights', .slice Aa0_10_Sheet_Cells' (⟨readW (⟨(⟨0, ([] : List Int), ([] : List Int), ([] : List TCell), ([] : List TRect)⟩ : TSheet)⟩ : TMaker).Sheet a0 a1 a2⟩ : TMaker).Sheet.Cells.length ca0_10_Sheet_Cells', .slice Aa0_10_Sheet_Merges' (⟨readW (⟨(⟨0, ([] : List Int), ([] : List Int), ([] : List TCell), ([] : List TRect)⟩ : TSheet)⟩ : TMaker).Sheet a0 a1 a2⟩ : TMaker).Sheet.Merges.length ca0_10_Sheet_Merges']) rfl agg30 size30 rfl (boxcells (hS.bx 5 rfl) 0 rfl)) (RV_tmp rfl) (RV_tmp rfl) ?_
 exact ⟨Aa0_10_Sheet_Widths', ca0_10_Sheet_Widths', Aa0_10_Sheet_Heights', ca0_10_Sheet_Heights', Aa0_10_Sheet_Cells', ca0_10_Sheet_Cells', Aa0_10_Sheet_Merges', ca0_10_Sheet_Merges', Lret3 (show (.agg #[.int .i64 (⟨readW (⟨(⟨0, ([] : List Int), ([] : List Int), ([] : List TCell), ([] : List TRect)⟩ : TSheet)⟩ : TMaker).Sheet a0 a1 a2⟩ : TMaker).Sheet.Right, .slice Aa0_10_Sheet_Widths' (⟨readW (⟨(⟨0, ([] : List Int), ([] : List Int), ([] : List TCell), ([] : List TRect)⟩ : TSheet)⟩ : TMaker).Sheet a0 a1 a2⟩ : TMaker).Sheet.Widths.length ca0_10_Sheet_Widths', .slice Aa0_10_Sheet_Heights' (⟨readW (⟨(⟨0, ([] : List Int), ([] : List Int), ([] : List TCell), ([] : List TRect)⟩ : TSheet)⟩ : TMaker).Sheet a0 a1 a2⟩ : TMaker).Sheet.Heights.length ca0_10_Sheet_Heights', .slice Aa0_10_Sheet_Cells' (⟨readW (⟨(⟨0, ([] : List Int), ([] : List Int), ([] : List TCell), ([] : List TRect)⟩ : TSheet)⟩ : TMaker).Sheet a0 a1 a2⟩ : TMaker).Sheet.Cells.length ca0_10_Sheet_Cells', .slice Aa0_10_Sheet_Merges' (⟨readW (⟨(⟨0, ([] : List Int), ([] : List Int), ([] : List TCell), ([] : List TRect)⟩ : TSheet)⟩ : TMaker).Sheet a0 a1 a2⟩ : TMaker).Sheet.Merges.length ca0_10_Sheet_Merges'] : Value) = .agg #[.int .i64 (readW zSh a0 a1 a2).Right, .slice _ (readW zSh a0 a1 a2).Widths.length _, .slice _ (readW zSh a0 a1 a2).Heights.length _, .slice _ (readW zSh a0 a1 a2).Cells.length _, .slice _ (readW zSh a0 a1 a2).Merges.length _] by rfl) (Lint (show (toldS (readE a0 a1 a2)).2 = (toldS (readE a0 a1 a2)).2 by rfl)) (Lint (show (toldS (readE a0 a1 a2)).1 = (toldS (readE a0 a1 a2)).1 by rfl)), hS.fin [1, 2, 3, 4] (by decide) rfl⟩
end Go.Proofs.YtaljccgfnmfhnaaGreatDoorG
set_option linter.all false
set_option maxHeartbeats 8000000
set_option maxRecDepth 100000
namespace Go.Proofs.YtaljccgfnmfhnaaGreatDoorG
open Go Go.RowKit
theorem ent74 (args : Array Value) (w : World) : (callFunc 74 args).run Tryz.prog w = .ok (.enter 74 args) w := enters Tryz.func74 (by kernel_rfl) rfl args w
theorem info5 : (Tryz.prog.info? 5).map (fun i => (i.zero, i.size, i.bytes)) = some (some (.int .u8 0), 1, 1) := by kernel_rfl
end Go.Proofs.YtaljccgfnmfhnaaGreatDoorG
set_option linter.all false
set_option maxHeartbeats 8000000
set_option maxRecDepth 100000
namespace Go.Proofs.YtaljccgfnmfhnaaGreatDoorG
open Go Go.RowKit
theorem rqfield_calls (a0 : St) (z : Z) (w : World) (hI : In z w [])  (p0 : a0.length ≤ 1000000000) :
    Calls Tryz.prog 74 #[vstr a0] w fun e w' => e = .returned (vstr (fldQ a0)) ∧ Sp (FF []) w z w' [] := by
 have hS := hI.sp
 refine Calls_of (vs := [vstr a0]) (N := 48) Tryz.func74 rfl rfl (Nat.le_of_ble_eq_true rfl) ?_
 refine C_seq <| C_region <| wv rfl rfl rfl (R_assign rfl rfl) ?_
 refine W_nil <| E_then <| C_seq <| C_region <| wv rfl rfl rfl (R_assign rfl rfl) ?_
 refine W_nil <| E_then <| C_seq <| C_region <| wv rfl rfl rfl (R_assign rfl rfl) ?_
 refine W_nil <| E_then <| C_seq <| C_seq <| C_region <| wv rfl rfl rfl (R_assign rfl rfl) ?_
 refine W_nil <| E_then <| C_block ?_
 have hs2 : false = needS (a0.take (0 : Nat)) := by rfl
 have hs3 : [34] = [34] ++ dupS (a0.take (0 : Nat)) := by rfl
 refine C_fr [(0, vstr a0), (3, .bool false), (4, vstr [34]), (5, .int .i64 0)] rfl ?_
 refine C_loop (fun m_ f_ w_ => ∃ (n : Nat), f_ = [(0, vstr a0), (3, .bool (needS (a0.take n))), (4, vstr ([34] ++ dupS (a0.take n))), (5, .int .i64 (n : Int))] ∧ n ≤ a0.length ∧ m_ = a0.length - n ∧ Sp (FF []) w z w_ []) (a0.length - (0 : Nat)) ⟨(0 : Nat), (by rw [← hs2, ← hs3] <;> rfl), (by omega), rfl, hS.fin [] (by decide) rfl⟩ ?_
 rintro m_ f_ w1 ⟨n, rfl, hI0_0, rfl, hS⟩
 refine C_seq <| C_seq <| C_region <| wv rfl rfl rfl (R_move rfl rfl) <| wv rfl rfl rfl (R_move rfl rfl) <| wv rfl rfl rfl (R_strlen rfl rfl Tryz.underlying9) <| wv rfl rfl rfl (R_bin rfl rfl rfl rfl rfl) ?_
 refine W_nil <| E_then <| C_ite rfl (fun hC0 => ?_) (fun hC0 => ?_)
 ·have hC0p : (n : Int) < (a0.length : Int) := by simpa using hC0
  refine C_skip <| E_then <| C_seq <| C_block <| C_seq <| C_region <| wv rfl rfl rfl (R_move rfl rfl) <| wv rfl rfl rfl (R_move rfl rfl) <| wv rfl rfl rfl (R_stridx rfl rfl rfl Tryz.underlying9 (by omega) (by omega)) <| wv rfl rfl rfl (R_assign rfl rfl) ?_
  refine W_nil <| E_then (C_fr [(0, vstr a0), (3, .bool (needS (a0.take n))), (4, vstr ([34] ++ dupS (a0.take n))), (5, .int .i64 (n : Int)), (6, .int .u8 ((a0.getD n 0).toNat : Int))] rfl ?_)
  refine C_seq <| C_region <| wv rfl rfl rfl (R_move rfl rfl) <| wv rfl rfl rfl (R_move rfl rfl) <| wg rfl rfl (Gd.no rfl rfl rfl) (fun hB => R_move rfl rfl) <| wg rfl rfl (Gd.no rfl rfl rfl) (fun hB => Runs.at_ (i := 18) (gl rfl hB) (R_bin rfl rfl rfl rfl rfl)) <| wv rfl rfl rfl (R_pick_or rfl rfl rfl rfl) <| wv rfl rfl rfl (R_move rfl rfl) <| wg rfl rfl (Gd.no rfl rfl rfl) (fun hB => R_move rfl rfl) <| wg rfl rfl (Gd.no rfl rfl rfl) (fun hB => Runs.at_ (i := 22) (gl rfl hB) (R_bin rfl rfl rfl rfl rfl)) <| wv rfl rfl rfl (R_pick_or rfl rfl rfl rfl) <| wv rfl rfl rfl (R_move rfl rfl) <| wg rfl rfl (Gd.no rfl rfl rfl) (fun hB => R_move rfl rfl) <| wg rfl rfl (Gd.no rfl rfl rfl) (fun hB => Runs.at_ (i := 26) (gl rfl hB) (R_bin rfl rfl rfl rfl rfl)) <| wv rfl rfl rfl (R_pick_or rfl rfl rfl rfl) <| wv rfl rfl rfl (R_move rfl rfl) <| wg rfl rfl (Gd.no rfl rfl rfl) (fun hB => R_move rfl rfl) <| wg rfl rfl (Gd.no rfl rfl rfl) (fun hB => Runs.at_ (i := 30) (gl rfl hB) (R_bin rfl rfl rfl rfl rfl)) <| wv rfl rfl rfl (R_pick_or rfl rfl rfl rfl) <| wv rfl rfl rfl (R_assign rfl rfl) ?_
  refine W_nil <| E_then (C_fr [(0, vstr a0), (3, .bool (((((needS (a0.take n)) || (((a0.getD n 0).toNat : Int) == 34)) || (((a0.getD n 0).toNat : Int) == 44)) || (((a0.getD n 0).toNat : Int) == 13)) || (((a0.getD n 0).toNat : Int) == 10))), (4, vstr ([34] ++ dupS (a0.take n))), (5, .int .i64 (n : Int)), (6, .int .u8 ((a0.getD n 0).toNat : Int))] rfl ?_)
  refine C_seq ?_
  have hdl := dup_take (s := a0) n
  refine C_region <| wv rfl rfl rfl (R_move rfl rfl) <| wv rfl rfl rfl (R_move rfl rfl) <| wv rfl rfl rfl (R_move rfl rfl) <| wv rfl rfl rfl (R_move rfl rfl) <| wv rfl rfl rfl (R_add64 rfl rfl rfl (by omega) (by omega)) <| wv rfl rfl rfl (R_strslice rfl rfl rfl rfl Tryz.underlying9 (by omega) (by omega) (by omega)) <| wv rfl rfl rfl (R_stradd rfl rfl rfl (by simp only [List.length_append, List.length_take, List.length_drop, List.length_cons, List.length_nil]; omega)) <| wv rfl rfl rfl (R_assign rfl rfl) ?_
  refine W_nil <| E_then (C_fr [(0, vstr a0), (3, .bool (((((needS (a0.take n)) || (((a0.getD n 0).toNat : Int) == 34)) || (((a0.getD n 0).toNat : Int) == 44)) || (((a0.getD n 0).toNat : Int) == 13)) || (((a0.getD n 0).toNat : Int) == 10))), (4, vstr (([34] ++ dupS (a0.take n)) ++ ((a0.drop n).take ((n + 1) - n)))), (5, .int .i64 (n : Int)), (6, .int .u8 ((a0.getD n 0).toNat : Int))] rfl ?_)
  refine C_seq <| C_region <| wv rfl rfl rfl (R_move rfl rfl) <| wv rfl rfl rfl (R_bin rfl rfl rfl rfl rfl) ?_
  refine W_nil <| E_then <| C_ite rfl (fun hC1 => ?_) (fun hC1 => ?_)
  ·have hC1p : ((a0.getD n 0).toNat : Int) = 34 := by simpa using hC1
   have hdl2 := congrArg List.length (drop_one (s := a0) (n := n) (by omega))
   refine C_region <| wv rfl rfl rfl (R_move rfl rfl) <| wv rfl rfl rfl (R_stradd rfl rfl rfl (by simp only [List.length_append, List.length_take, List.length_drop, List.length_cons, List.length_nil]; omega)) <| wv rfl rfl rfl (R_assign rfl rfl) ?_
   refine W_nil <| E_block_normal <| E_then (C_fr [(0, vstr a0), (3, .bool (((((needS (a0.take n)) || (((a0.getD n 0).toNat : Int) == 34)) || (((a0.getD n 0).toNat : Int) == 44)) || (((a0.getD n 0).toNat : Int) == 13)) || (((a0.getD n 0).toNat : Int) == 10))), (4, vstr ((([34] ++ dupS (a0.take n)) ++ ((a0.drop n).take ((n + 1) - n))) ++ [34])), (5, .int .i64 (n : Int))] rfl ?_)
   refine C_region <| wv rfl rfl rfl (R_move rfl rfl) <| wv rfl rfl rfl (R_add64 rfl rfl rfl (by omega) (by omega)) <| wv rfl rfl rfl (R_assign rfl rfl) ?_
   refine W_nil ?_
   have hs4 : (((((needS (a0.take n)) || (((a0.getD n 0).toNat : Int) == 34)) || (((a0.getD n 0).toNat : Int) == 44)) || (((a0.getD n 0).toNat : Int) == 13)) || (((a0.getD n 0).toNat : Int) == 10)) = needS (a0.take (n + 1 : Nat)) := by exact need_next (by omega)
   have hs5 : (([34] ++ dupS (a0.take n)) ++ ((a0.drop n).take ((n + 1) - n))) ++ [34] = [34] ++ dupS (a0.take (n + 1 : Nat)) := by exact dup_34 (by omega) (by assumption)
   refine E_round [0, 3, 4, 5] ?_ ⟨(n + 1 : Nat), (by rw [← hs4, ← hs5] <;> rfl), (by omega), rfl, hS.fin [] (by decide) rfl⟩
   omega
  ·have hC1p : ¬ (((a0.getD n 0).toNat : Int) = 34) := by simpa using hC1
   refine C_skip <| E_block_normal <| E_then <| C_region <| wv rfl rfl rfl (R_move rfl rfl) <| wv rfl rfl rfl (R_add64 rfl rfl rfl (by omega) (by omega)) <| wv rfl rfl rfl (R_assign rfl rfl) ?_
   refine W_nil ?_
   have hs6 : (((((needS (a0.take n)) || (((a0.getD n 0).toNat : Int) == 34)) || (((a0.getD n 0).toNat : Int) == 44)) || (((a0.getD n 0).toNat : Int) == 13)) || (((a0.getD n 0).toNat : Int) == 10)) = needS (a0.take (n + 1 : Nat)) := by exact need_next (by omega)
   have hs7 : ([34] ++ dupS (a0.take n)) ++ ((a0.drop n).take ((n + 1) - n)) = [34] ++ dupS (a0.take (n + 1 : Nat)) := by exact dup_no (by omega) (by assumption)
   refine E_round [0, 3, 4, 5] ?_ ⟨(n + 1 : Nat), (by rw [← hs6, ← hs7] <;> rfl), (by omega), rfl, hS.fin [] (by decide) rfl⟩
   omega
 ·have hC0p : ¬ ((n : Int) < (a0.length : Int)) := by simpa using hC0
  refine C_exit <| E_then_exit <| E_then_exit <| E_block_hit ?_
  refine E_then (C_fr [(0, vstr a0), (3, .bool (needS (a0.take n))), (4, vstr ([34] ++ dupS (a0.take n)))] rfl ?_)
  refine C_seq <| C_seq <| C_region <| wv rfl rfl rfl (R_move rfl rfl) ?_
  refine W_nil <| E_then <| C_ite rfl (fun hC2 => ?_) (fun hC2 => ?_)
  ·refine C_seq ?_
   have hdl3 := dup_take (s := a0) n
   refine C_region <| wv rfl rfl rfl (R_move rfl rfl) <| wv rfl rfl rfl (R_stradd rfl rfl rfl (by simp only [List.length_append, List.length_take, List.length_drop, List.length_cons, List.length_nil]; omega)) <| wv rfl rfl rfl (R_assign rfl rfl) ?_
   refine W_nil <| E_then (C_fr [(2, vstr (([34] ++ dupS (a0.take n)) ++ [34]))] rfl ?_)
   refine C_ret <| E_then_ret <| E_ret1 rfl rfl ?_
   exact ⟨Lret1 (Lstr (show ([34] ++ dupS (a0.take n)) ++ [34] = fldQ a0 by (simp_all [fldQ, List.take_of_length_le]; done))), hS.fin [] (by decide) rfl⟩
  ·refine C_skip <| E_then <| C_seq <| C_region <| wv rfl rfl rfl (R_move rfl rfl) <| wv rfl rfl rfl (R_assign rfl rfl) ?_
   refine W_nil <| E_then (C_fr [(2, vstr a0)] rfl ?_)
   refine C_ret <| E_ret1 rfl rfl ?_
   exact ⟨Lret1 (Lstr (show a0 = fldQ a0 by (simp_all [fldQ, List.take_of_length_le]; done))), hS.fin [] (by decide) rfl⟩
theorem rqprint_calls (a0 : List (List St)) (Aa0 : Option Addr) (ca0 : Nat) (z : Z) (w : World) (hI : In z w []) (hra0 : Rd (kslice kstr) z Aa0 a0) (hca0 : Cap Aa0 a0.length ca0) (p0 : FitT a0) :
    Calls Tryz.prog 36 #[.slice Aa0 a0.length ca0] w fun e w' => e = .returned (.tuple #[vstr (printQ a0).1, .int .i64 (printQ a0).2]) ∧ Sp (FF []) w z w' [] := by
 have hla0 := hca0.le
 have hma0 := hca0.mx
 have hS := hI.sp
 obtain ⟨hf1, hf2, hf3⟩ := p0
 refine Calls_of (vs := [.slice Aa0 a0.length ca0]) (N := 61) Tryz.func36 rfl rfl (Nat.le_of_ble_eq_true rfl) ?_
 refine C_seq <| C_region <| wv rfl rfl rfl (R_assign rfl rfl) <| wv rfl rfl rfl (R_assign rfl rfl) ?_
 refine W_nil <| E_then <| C_seq <| C_seq <| C_region <| wv rfl rfl rfl (R_move rfl rfl) <| wv rfl rfl rfl (R_len rfl rfl Tryz.underlying22) <| wv rfl rfl rfl (R_bin rfl rfl rfl rfl rfl) ?_
 refine W_nil <| E_then <| C_ite rfl (fun hC0 => ?_) (fun hC0 => ?_)
 ·have hC0p : (a0.length : Int) = 0 := by simpa using hC0
  refine C_seq <| C_region <| wv rfl rfl rfl (R_assign rfl rfl) <| wv rfl rfl rfl (R_assign rfl rfl) ?_
  refine W_nil <| E_then <| C_ret <| E_then_ret <| E_ret2 rfl rfl rfl ?_
  exact ⟨Lret2 (Lstr (show [] = (printQ a0).1 by (exact congrArg Prod.fst (fine_e0 (by omega)).symm))) (Lint (show 1 = (printQ a0).2 by (exact congrArg Prod.snd (fine_e0 (by omega)).symm))), hS.fin [] (by decide) rfl⟩
 ·have hC0p : ¬ ((a0.length : Int) = 0) := by simpa using hC0
  refine C_skip <| E_then (C_fr [(0, .slice Aa0 a0.length ca0)] rfl ?_)
  refine C_seq <| C_region <| wv rfl rfl rfl (R_assign rfl rfl) ?_
  refine W_nil <| E_then <| C_seq <| C_seq <| C_region <| wv rfl rfl rfl (R_assign rfl rfl) ?_
  refine W_nil <| E_then <| C_block <| C_fr [(0, .slice Aa0 a0.length ca0), (4, .slice none 0 0), (5, .int .i64 0)] rfl ?_
  refine C_loop (fun m_ f_ w_ => ∃ (i : Nat), f_ = [(0, .slice Aa0 a0.length ca0), (4, .slice none 0 0), (5, .int .i64 (i : Int))] ∧ i ≤ a0.length ∧ allT (a0.take i) = true ∧ m_ = a0.length - i ∧ Sp (FF []) w z w_ []) (a0.length - (0 : Nat)) ⟨(0 : Nat), rfl, (by omega), (by rfl), rfl, hS.fin [] (by decide) rfl⟩ ?_
  rintro m_ f_ w1 ⟨i, rfl, hI0_0, hI0_1, rfl, hS⟩
  refine C_seq <| C_seq <| C_region <| wv rfl rfl rfl (R_move rfl rfl) <| wv rfl rfl rfl (R_move rfl rfl) <| wv rfl rfl rfl (R_len rfl rfl Tryz.underlying22) <| wv rfl rfl rfl (R_bin rfl rfl rfl rfl rfl) ?_
  refine W_nil <| E_then <| C_ite rfl (fun hC1 => ?_) (fun hC1 => ?_)
  ·have hC1p : (i : Int) < (a0.length : Int) := by simpa using hC1
   refine C_skip <| E_then <| C_seq <| C_block <| C_seq <| C_region <| wv rfl rfl rfl (R_move rfl rfl) <| wv rfl rfl rfl (R_move rfl rfl) ?_
   obtain ⟨q2, csq2, hAq2, ⟨Aq2, cq2, rfl, hcq2, hrq2⟩, hkq2⟩ := hra0.at_ [] (i := (i : Int)) (by omega) (by omega)
   have hkq2 : ∀ (j_ : Nat) (u_ : Value), ([.slice Aq2 (a0.getD i []).length cq2] : List Value)[j_]? = some u_ → cz z (q2.add (i * 1 + j_)) = some u_ := hkq2
   have hrq2 : Rd kstr z Aq2 ((a0.getD i [])) := hrq2
   have hcq2 : Cap Aq2 ((a0.getD i [])).length cq2 := hcq2
   have hlq2 := hcq2.le
   have hmq2 := hcq2.mx
   refine wv rfl rfl rfl (R_idx rfl rfl hAq2 rfl Tryz.underlying22 size43 (by omega) (by omega)) <| wv rfl rfl rfl (R_load1 rfl rfl agg43 (hS.sub.cell (hkq2 0 _ rfl))) <| wv rfl rfl rfl (R_len rfl rfl Tryz.underlying43) <| wv rfl rfl rfl (R_bin rfl rfl rfl rfl rfl) ?_
   refine W_nil <| E_then (C_fr [(0, .slice Aa0 a0.length ca0), (4, .slice none 0 0), (5, .int .i64 (i : Int)), (22, .bool (((a0.getD i []).length : Int) == 0))] rfl ?_)
   refine C_ite rfl (fun hC2 => ?_) (fun hC2 => ?_)
   ·have hC2p : ((a0.getD i []).length : Int) = 0 := by simpa using hC2
    refine C_seq <| C_region <| wv rfl rfl rfl (R_assign rfl rfl) <| wv rfl rfl rfl (R_assign rfl rfl) ?_
    refine W_nil <| E_then <| C_ret <| E_block_ret <| E_then_ret <| E_then_ret <| E_block_ret <| E_then_ret <| E_ret2 rfl rfl rfl ?_
    exact ⟨Lret2 (Lstr (show [] = (printQ a0).1 by (exact congrArg Prod.fst (fine_e1 (i := i) (by omega) (by omega)).symm))) (Lint (show 1 = (printQ a0).2 by (exact congrArg Prod.snd (fine_e1 (i := i) (by omega) (by omega)).symm))), hS.fin [] (by decide) rfl⟩
   ·have hC2p : ¬ (((a0.getD i []).length : Int) = 0) := by simpa using hC2
    refine C_skip <| E_block_normal <| E_then <| C_region <| wv rfl rfl rfl (R_move rfl rfl) <| wv rfl rfl rfl (R_add64 rfl rfl rfl (by omega) (by omega)) <| wv rfl rfl rfl (R_assign rfl rfl) ?_
    refine W_nil <| E_round [0, 4, 5] ?_ ⟨(i + 1 : Nat), rfl, (by omega), (by exact all_next (by assumption) (by omega) (by omega)), rfl, hS.fin [] (by decide) rfl⟩
    omega
  ·have hC1p : ¬ ((i : Int) < (a0.length : Int)) := by simpa using hC1
   refine C_exit <| E_then_exit <| E_then_exit <| E_block_hit ?_
   refine E_then (C_fr [(0, .slice Aa0 a0.length ca0), (4, .slice none 0 0)] rfl ?_)
   refine C_seq <| C_seq <| C_region <| wv rfl rfl rfl (R_assign rfl rfl) ?_
   refine W_nil <| E_then <| C_block ?_
   have hS := hS.nilrow (kint .u8) 5 zE
   have hs6 : ([] : List Int) = ub (tabQ (a0.take (0 : Nat))) := by rfl
   have hS := hS.re 0 rfl hs6
   refine C_fr [(0, .slice Aa0 a0.length ca0), (4, .slice none 0 0), (6, .int .i64 0)] rfl ?_
   refine C_loop (fun m_ f_ w_ => ∃ (j : Nat) (Ar3 : Option Addr) (cr3 : Nat), f_ = [(0, .slice Aa0 a0.length ca0), (4, .slice Ar3 (ub (tabQ (a0.take j))).length cr3), (6, .int .i64 (j : Int))] ∧ j ≤ a0.length ∧ m_ = a0.length - j ∧ Sp (FF []) w z w_ [oR (kint .u8) 5 zE Ar3 cr3 (ub (tabQ (a0.take j)))]) (a0.length - (0 : Nat)) ⟨(0 : Nat), none, 0, (by rw [← hs6] <;> rfl), (by omega), rfl, hS.fin [0] (by decide) rfl⟩ ?_
   rintro m_ f_ w4 ⟨j, Ar3, cr3, rfl, hI1_0, rfl, hS⟩
   have hp7 := hS.cap 0 rfl
   have hlhp7 := hp7.le
   have hmhp7 := hp7.mx
   refine C_seq <| C_seq <| C_region <| wv rfl rfl rfl (R_move rfl rfl) <| wv rfl rfl rfl (R_move rfl rfl) <| wv rfl rfl rfl (R_len rfl rfl Tryz.underlying22) <| wv rfl rfl rfl (R_bin rfl rfl rfl rfl rfl) ?_
   refine W_nil <| E_then <| C_ite rfl (fun hC3 => ?_) (fun hC3 => ?_)
   ·have hC3p : (j : Int) < (a0.length : Int) := by simpa using hC3
    refine C_skip <| E_then <| C_seq <| C_block <| C_seq <| C_seq <| C_region <| wv rfl rfl rfl (R_assign rfl rfl) ?_
    refine W_nil <| E_then <| C_block ?_
    have hs10 : ub (tabQ (a0.take j)) = ub (tabQ (a0.take j) ++ recQ ((a0.getD j []).take (0 : Nat))) := by simp [recQ, pieces]
    have hS := hS.re 0 rfl hs10
    refine C_fr [(0, .slice Aa0 a0.length ca0), (4, .slice Ar3 (ub (tabQ (a0.take j))).length cr3), (6, .int .i64 (j : Int)), (7, .int .i64 0)] rfl ?_
    refine C_loop (fun m_ f_ w_ => ∃ (k : Nat) (Ar8 : Option Addr) (cr8 : Nat), f_ = [(0, .slice Aa0 a0.length ca0), (4, .slice Ar8 (ub (tabQ (a0.take j) ++ recQ ((a0.getD j []).take k))).length cr8), (6, .int .i64 (j : Int)), (7, .int .i64 (k : Int))] ∧ k ≤ (a0.getD j []).length ∧ m_ = (a0.getD j []).length - k ∧ Sp (FF []) w z w_ [oR (kint .u8) 5 zE Ar8 cr8 (ub (tabQ (a0.take j) ++ recQ ((a0.getD j []).take k)))]) ((a0.getD j []).length - (0 : Nat)) ⟨(0 : Nat), Ar3, cr3, (by rw [← hs10] <;> rfl), (by omega), rfl, hS.fin [0] (by decide) rfl⟩ ?_
    rintro m_ f_ w9 ⟨k, Ar8, cr8, rfl, hI2_0, rfl, hS⟩
    have hp11 := hS.cap 0 rfl
    have hlhp11 := hp11.le
    have hmhp11 := hp11.mx
    refine C_seq <| C_seq <| C_region <| wv rfl rfl rfl (R_move rfl rfl) <| wv rfl rfl rfl (R_move rfl rfl) <| wv rfl rfl rfl (R_move rfl rfl) ?_
    obtain ⟨q12, csq12, hAq12, ⟨Aq12, cq12, rfl, hcq12, hrq12⟩, hkq12⟩ := hra0.at_ [] (i := (j : Int)) (by omega) (by omega)
    have hkq12 : ∀ (j_ : Nat) (u_ : Value), ([.slice Aq12 (a0.getD j []).length cq12] : List Value)[j_]? = some u_ → cz z (q12.add (j * 1 + j_)) = some u_ := hkq12
    have hrq12 : Rd kstr z Aq12 ((a0.getD j [])) := hrq12
    have hcq12 : Cap Aq12 ((a0.getD j [])).length cq12 := hcq12
    have hlq12 := hcq12.le
    have hmq12 := hcq12.mx
    refine wv rfl rfl rfl (R_idx rfl rfl hAq12 rfl Tryz.underlying22 size43 (by omega) (by omega)) <| wv rfl rfl rfl (R_load1 rfl rfl agg43 (hS.sub.cell (hkq12 0 _ rfl))) <| wv rfl rfl rfl (R_len rfl rfl Tryz.underlying43) <| wv rfl rfl rfl (R_bin rfl rfl rfl rfl rfl) ?_
    refine W_nil <| E_then (C_fr [(0, .slice Aa0 a0.length ca0), (4, .slice Ar8 (ub (tabQ (a0.take j) ++ recQ ((a0.getD j []).take k))).length cr8), (6, .int .i64 (j : Int)), (7, .int .i64 (k : Int)), (35, .bool (decide ((k : Int) < ((a0.getD j []).length : Int))))] rfl ?_)
    refine C_ite rfl (fun hC4 => ?_) (fun hC4 => ?_)
    ·have hC4p : (k : Int) < ((a0.getD j []).length : Int) := by simpa using hC4
     refine C_skip <| E_then <| C_seq <| C_block <| C_seq <| C_seq ?_
     have hq15 := tab_room (t := a0) (j := j) (k := k) (by omega) (by omega)
     have hfl := (hf3 _ (qgetD_mem (n := j) [] (by omega))).2.2 _ (qgetD_mem (n := k) [] (by omega))
     refine C_region <| wv rfl rfl rfl (R_move rfl rfl) <| wv rfl rfl rfl (R_bin rfl rfl rfl rfl rfl) ?_
     refine W_nil <| E_then <| C_ite rfl (fun hC5 => ?_) (fun hC5 => ?_)
     ·have hC5p : (k : Int) > 0 := by simpa using hC5
      refine C_region <| wv rfl rfl rfl (R_move rfl rfl) ?_
      refine W_cons rfl (by decide) (S_row (d := (kint .u8)) (q := zE) hS ([44] : List Int) rfl (R_buildSlice (ps := [(0, (.const (.int .u8 44)))]) (vs := [.int .u8 44]) (w' := w9.alloc (.cells [.int .u8 44].toArray 5)) (r := .slice (some ⟨w9.heap.size, 0, none⟩) 1 1) rfl rfl rfl (by kernel_rfl)) (by simp [Reps, flat, kint]) rfl (by decide) (fun g14 w13 hS => ?_))
      refine W_cons rfl (by decide) (S_append hS 1 rfl rfl rfl elem110 rfl rfl (hS.sow 0 rfl (fun _ _ h => h)) (by (try simp only [List.length_cons, List.length_nil, List.length_append, maxLen]); omega) (by (try simp only [List.length_cons, List.length_nil, List.length_append, maxLen]); omega) (fun Ar16 cr16 w15 hS => ?_))
      have hp17 := hS.cap 1 rfl
      have hlhp17 := hp17.le
      have hmhp17 := hp17.mx
      refine wv rfl rfl rfl (R_assign rfl rfl) ?_
      refine W_nil <| E_then (C_fr [(0, .slice Aa0 a0.length ca0), (4, .slice Ar16 ((ub (tabQ (a0.take j) ++ recQ ((a0.getD j []).take k))) ++ ([44] : List Int)).length cr16), (6, .int .i64 (j : Int)), (7, .int .i64 (k : Int))] rfl ?_)
      refine C_region <| wv rfl rfl rfl (R_move rfl rfl) <| wv rfl rfl rfl (R_move rfl rfl) <| wv rfl rfl rfl (R_move rfl rfl) ?_
      obtain ⟨q18, csq18, hAq18, ⟨Aq18, cq18, rfl, hcq18, hrq18⟩, hkq18⟩ := hra0.at_ [] (i := (j : Int)) (by omega) (by omega)
      have hkq18 : ∀ (j_ : Nat) (u_ : Value), ([.slice Aq18 (a0.getD j []).length cq18] : List Value)[j_]? = some u_ → cz z (q18.add (j * 1 + j_)) = some u_ := hkq18
      have hrq18 : Rd kstr z Aq18 ((a0.getD j [])) := hrq18
      have hcq18 : Cap Aq18 ((a0.getD j [])).length cq18 := hcq18
      have hlq18 := hcq18.le
      have hmq18 := hcq18.mx
      refine wv rfl rfl rfl (R_idx rfl rfl hAq18 rfl Tryz.underlying22 size43 (by omega) (by omega)) <| wv rfl rfl rfl (R_load1 rfl rfl agg43 (hS.sub.cell (hkq18 0 _ rfl))) <| wv rfl rfl rfl (R_move rfl rfl) ?_
      obtain ⟨q19, csq19, hAq19, rfl, hkq19⟩ := hrq18.at_ ([] : St) (i := (k : Int)) (by omega) (by omega)
      have hkq19 : ∀ (j_ : Nat) (u_ : Value), ([vstr ((a0.getD j []).getD k ([] : St))] : List Value)[j_]? = some u_ → cz z (q19.add (k * 1 + j_)) = some u_ := hkq19
      refine wv rfl rfl rfl (R_idx rfl rfl hAq19 rfl Tryz.underlying43 size9 (by omega) (by omega)) <| wv rfl rfl rfl (R_load1 rfl rfl agg9 (hS.sub.cell (hkq19 0 _ rfl))) ?_
      refine W_cons rfl (by decide) (Sv_call rfl rfl rfl ent74 ?_)
      refine (rqfield_calls ((a0.getD j []).getD k ([] : St)) _ _ hS.out0  (by omega)).mono ?_
      rintro e_ w20 ⟨rfl, hS_⟩
      refine ⟨_, rfl, ?_⟩
      have hS := hS.call0 hS_
      refine W_cons rfl (by decide) (S_append_str (t := fldQ ((a0.getD j []).getD k ([] : St))) hS 1 rfl rfl rfl Tryz.underlying110 Tryz.underlying9 info5 rfl (by rfl) (by (simp only [ub_len, List.length_append, List.length_cons, List.length_nil] at hq15 ⊢; omega)) (fun Ar23 cr23 w22 hS => ?_))
      have hp24 := hS.cap 1 rfl
      have hlhp24 := hp24.le
      have hmhp24 := hp24.mx
      refine wv rfl rfl rfl (R_assign rfl rfl) ?_
      refine W_nil <| E_block_normal <| E_then (C_fr [(0, .slice Aa0 a0.length ca0), (4, .slice Ar23 (((ub (tabQ (a0.take j) ++ recQ ((a0.getD j []).take k))) ++ ([44] : List Int)) ++ ub (fldQ ((a0.getD j []).getD k ([] : St)))).length cr23), (6, .int .i64 (j : Int)), (7, .int .i64 (k : Int))] rfl ?_)
      refine C_region <| wv rfl rfl rfl (R_move rfl rfl) <| wv rfl rfl rfl (R_add64 rfl rfl rfl (by omega) (by omega)) <| wv rfl rfl rfl (R_assign rfl rfl) ?_
      refine W_nil ?_
      have hs25 : ((ub (tabQ (a0.take j) ++ recQ ((a0.getD j []).take k))) ++ ([44] : List Int)) ++ ub (fldQ ((a0.getD j []).getD k ([] : St))) = ub (tabQ (a0.take j) ++ recQ ((a0.getD j []).take (k + 1 : Nat))) := by exact rec_next (by omega) (by omega)
      have hS := hS.re 1 rfl hs25
      refine E_round [0, 4, 6, 7] ?_ ⟨(k + 1 : Nat), Ar23, cr23, (by rw [← hs25] <;> rfl), (by omega), rfl, hS.fin [1] (by decide) rfl⟩
      omega
     ·have hC5p : ¬ ((k : Int) > 0) := by simpa using hC5
      refine C_skip <| E_then <| C_region <| wv rfl rfl rfl (R_move rfl rfl) <| wv rfl rfl rfl (R_move rfl rfl) <| wv rfl rfl rfl (R_move rfl rfl) ?_
      obtain ⟨q26, csq26, hAq26, ⟨Aq26, cq26, rfl, hcq26, hrq26⟩, hkq26⟩ := hra0.at_ [] (i := (j : Int)) (by omega) (by omega)
      have hkq26 : ∀ (j_ : Nat) (u_ : Value), ([.slice Aq26 (a0.getD j []).length cq26] : List Value)[j_]? = some u_ → cz z (q26.add (j * 1 + j_)) = some u_ := hkq26
      have hrq26 : Rd kstr z Aq26 ((a0.getD j [])) := hrq26
      have hcq26 : Cap Aq26 ((a0.getD j [])).length cq26 := hcq26
      have hlq26 := hcq26.le
      have hmq26 := hcq26.mx
      refine wv rfl rfl rfl (R_idx rfl rfl hAq26 rfl Tryz.underlying22 size43 (by omega) (by omega)) <| wv rfl rfl rfl (R_load1 rfl rfl agg43 (hS.sub.cell (hkq26 0 _ rfl))) <| wv rfl rfl rfl (R_move rfl rfl) ?_
      obtain ⟨q27, csq27, hAq27, rfl, hkq27⟩ := hrq26.at_ ([] : St) (i := (k : Int)) (by omega) (by omega)
      have hkq27 : ∀ (j_ : Nat) (u_ : Value), ([vstr ((a0.getD j []).getD k ([] : St))] : List Value)[j_]? = some u_ → cz z (q27.add (k * 1 + j_)) = some u_ := hkq27
      refine wv rfl rfl rfl (R_idx rfl rfl hAq27 rfl Tryz.underlying43 size9 (by omega) (by omega)) <| wv rfl rfl rfl (R_load1 rfl rfl agg9 (hS.sub.cell (hkq27 0 _ rfl))) ?_
      refine W_cons rfl (by decide) (Sv_call rfl rfl rfl ent74 ?_)
      refine (rqfield_calls ((a0.getD j []).getD k ([] : St)) _ _ hS.out0  (by omega)).mono ?_
      rintro e_ w28 ⟨rfl, hS_⟩
      refine ⟨_, rfl, ?_⟩
      have hS := hS.call0 hS_
      refine W_cons rfl (by decide) (S_append_str (t := fldQ ((a0.getD j []).getD k ([] : St))) hS 0 rfl rfl rfl Tryz.underlying110 Tryz.underlying9 info5 rfl (by rfl) (by (simp only [ub_len, List.length_append, List.length_cons, List.length_nil] at hq15 ⊢; omega)) (fun Ar31 cr31 w30 hS => ?_))
      have hp32 := hS.cap 0 rfl
      have hlhp32 := hp32.le
      have hmhp32 := hp32.mx
      refine wv rfl rfl rfl (R_assign rfl rfl) ?_
      refine W_nil <| E_block_normal <| E_then (C_fr [(0, .slice Aa0 a0.length ca0), (4, .slice Ar31 ((ub (tabQ (a0.take j) ++ recQ ((a0.getD j []).take k))) ++ ub (fldQ ((a0.getD j []).getD k ([] : St)))).length cr31), (6, .int .i64 (j : Int)), (7, .int .i64 (k : Int))] rfl ?_)
      refine C_region <| wv rfl rfl rfl (R_move rfl rfl) <| wv rfl rfl rfl (R_add64 rfl rfl rfl (by omega) (by omega)) <| wv rfl rfl rfl (R_assign rfl rfl) ?_
      refine W_nil ?_
      have hs33 : (ub (tabQ (a0.take j) ++ recQ ((a0.getD j []).take k))) ++ ub (fldQ ((a0.getD j []).getD k ([] : St))) = ub (tabQ (a0.take j) ++ recQ ((a0.getD j []).take (k + 1 : Nat))) := by exact rec_next0 (by omega) (by omega)
      have hS := hS.re 0 rfl hs33
      refine E_round [0, 4, 6, 7] ?_ ⟨(k + 1 : Nat), Ar31, cr31, (by rw [← hs33] <;> rfl), (by omega), rfl, hS.fin [0] (by decide) rfl⟩
      omega
    ·have hC4p : ¬ ((k : Int) < ((a0.getD j []).length : Int)) := by simpa using hC4
     refine C_exit <| E_then_exit <| E_then_exit <| E_block_hit ?_
     refine E_then ?_
     have hq18 := tab_room2 (t := a0) (j := j) (k := k) (by omega)
     refine C_region <| wv rfl rfl rfl (R_move rfl rfl) ?_
     refine W_cons rfl (by decide) (S_row (d := (kint .u8)) (q := zE) hS ([13, 10] : List Int) rfl (R_buildSlice (ps := [(0, (.const (.int .u8 13))), (1, (.const (.int .u8 10)))]) (vs := [.int .u8 13, .int .u8 10]) (w' := w9.alloc (.cells [.int .u8 13, .int .u8 10].toArray 5)) (r := .slice (some ⟨w9.heap.size, 0, none⟩) 2 2) rfl rfl rfl (by kernel_rfl)) (by simp [Reps, flat, kint]) rfl (by decide) (fun g35 w34 hS => ?_))
     refine W_cons rfl (by decide) (S_append hS 1 rfl rfl rfl elem110 rfl rfl (hS.sow 0 rfl (fun _ _ h => h)) (by (try simp only [List.length_cons, List.length_nil, List.length_append, maxLen]); omega) (by (try simp only [List.length_cons, List.length_nil, List.length_append, maxLen]); omega) (fun Ar37 cr37 w36 hS => ?_))
     have hp38 := hS.cap 1 rfl
     have hlhp38 := hp38.le
     have hmhp38 := hp38.mx
     refine wv rfl rfl rfl (R_assign rfl rfl) ?_
     refine W_nil <| E_block_normal <| E_then (C_fr [(0, .slice Aa0 a0.length ca0), (4, .slice Ar37 ((ub (tabQ (a0.take j) ++ recQ ((a0.getD j []).take k))) ++ ([13, 10] : List Int)).length cr37), (6, .int .i64 (j : Int))] rfl ?_)
     refine C_region <| wv rfl rfl rfl (R_move rfl rfl) <| wv rfl rfl rfl (R_add64 rfl rfl rfl (by omega) (by omega)) <| wv rfl rfl rfl (R_assign rfl rfl) ?_
     refine W_nil ?_
     have hs39 : (ub (tabQ (a0.take j) ++ recQ ((a0.getD j []).take k))) ++ ([13, 10] : List Int) = ub (tabQ (a0.take (j + 1 : Nat))) := by exact tab_next (by omega) (by omega)
     have hS := hS.re 1 rfl hs39
     refine E_round [0, 4, 6] ?_ ⟨(j + 1 : Nat), Ar37, cr37, (by rw [← hs39] <;> rfl), (by omega), rfl, hS.fin [1] (by decide) rfl⟩
     omega
   ·have hC3p : ¬ ((j : Int) < (a0.length : Int)) := by simpa using hC3
    refine C_exit <| E_then_exit <| E_then_exit <| E_block_hit ?_
    refine E_then (C_fr [(4, .slice Ar3 (ub (tabQ (a0.take j))).length cr3)] rfl ?_)
    refine C_seq <| C_seq <| C_region <| wv rfl rfl rfl (R_move rfl rfl) <| wv rfl rfl rfl (R_len rfl rfl Tryz.underlying110) <| wv rfl rfl rfl (R_bin rfl rfl rfl rfl rfl) ?_
    refine W_nil <| E_then <| C_ite rfl (fun hC6 => ?_) (fun hC6 => ?_)
    ·have hC6p : ((ub (tabQ (a0.take j))).length : Int) > 65536 := by simpa using hC6
     refine C_seq <| C_region <| wv rfl rfl rfl (R_assign rfl rfl) <| wv rfl rfl rfl (R_assign rfl rfl) ?_
     refine W_nil <| E_then <| C_ret <| E_then_ret <| E_ret2 rfl rfl rfl ?_
     exact ⟨Lret2 (Lstr (show [] = (printQ a0).1 by (exact congrArg Prod.fst (fine_e3 (j := j) (by omega) (by omega) hI0_1 (by omega) (by assumption)).symm))) (Lint (show 3 = (printQ a0).2 by (exact congrArg Prod.snd (fine_e3 (j := j) (by omega) (by omega) hI0_1 (by omega) (by assumption)).symm))), hS.fin [] (by decide) rfl⟩
    ·have hC6p : ¬ (((ub (tabQ (a0.take j))).length : Int) > 65536) := by simpa using hC6
     refine C_skip <| E_then <| C_seq <| C_region <| wv rfl rfl rfl (R_move rfl rfl) <| wv rfl rfl rfl (S_bytestr (t := (tabQ (a0.take j))) hS 0 rfl rfl rfl Tryz.underlying110 Tryz.underlying5 Tryz.underlying9) <| wv rfl rfl rfl (R_assign rfl rfl) <| wv rfl rfl rfl (R_assign rfl rfl) ?_
     refine W_nil <| E_then (C_fr [(2, vstr (tabQ (a0.take j))), (3, .int .i64 0)] rfl ?_)
     refine C_ret <| E_ret2 rfl rfl rfl ?_
     exact ⟨Lret2 (Lstr (show (tabQ (a0.take j)) = (printQ a0).1 by (exact congrArg Prod.fst (fine_e4 (j := j) (by omega) (by omega) hI0_1 (by omega) (by omega)).symm))) (Lint (show 0 = (printQ a0).2 by (exact congrArg Prod.snd (fine_e4 (j := j) (by omega) (by omega) hI0_1 (by omega) (by omega)).symm))), hS.fin [] (by decide) rfl⟩
end Go.Proofs.YtaljccgfnmfhnaaGreatDoorG
set_option linter.all false
set_option maxHeartbeats 8000000
set_option maxRecDepth 100000
namespace Go.Proofs.YtaljccgfnmfhnaaGreatDoorG
open Go Go.RowKit
theorem ent23 (args : Array Value) (w : World) : (callFunc 23 args).run Tryz.prog w = .ok (.enter 23 args) w := enters Tryz.func23 (by kernel_rfl) rfl args w
theorem mk9 : (Tryz.prog.info? 9).map (fun i => (i.zero.map (fun z => z.cells.toList), i.size, i.bytes)) = some (some [vstr []], 1, 16) := by kernel_rfl
theorem ent17 (args : Array Value) (w : World) : (callFunc 17 args).run Tryz.prog w = .ok (.enter 17 args) w := enters Tryz.func17 (by kernel_rfl) rfl args w
theorem ent34 (args : Array Value) (w : World) : (callFunc 34 args).run Tryz.prog w = .ok (.enter 34 args) w := enters Tryz.func34 (by kernel_rfl) rfl args w
theorem ent18 (args : Array Value) (w : World) : (callFunc 18 args).run Tryz.prog w = .ok (.enter 18 args) w := enters Tryz.func18 (by kernel_rfl) rfl args w
theorem ent36 (args : Array Value) (w : World) : (callFunc 36 args).run Tryz.prog w = .ok (.enter 36 args) w := enters Tryz.func36 (by kernel_rfl) rfl args w
end Go.Proofs.YtaljccgfnmfhnaaGreatDoorG
set_option linter.all false
set_option maxHeartbeats 8000000
set_option maxRecDepth 100000
namespace Go.Proofs.YtaljccgfnmfhnaaGreatDoorG
open Go Go.RowKit
theorem export_calls (a0 : TSheet) (Aa0_Widths : Option Addr) (ca0_Widths : Nat) (Aa0_Heights : Option Addr) (ca0_Heights : Nat) (Aa0_Cells : Option Addr) (ca0_Cells : Nat) (Aa0_Merges : Option Addr) (ca0_Merges : Nat) (z : Z) (w : World) (hI : In z w []) (hra0_Widths : Rd (kint .i64) z Aa0_Widths a0.Widths) (hca0_Widths : Cap Aa0_Widths a0.Widths.length ca0_Widths) (hra0_Heights : Rd (kint .i64) z Aa0_Heights a0.Heights) (hca0_Heights : Cap Aa0_Heights a0.Heights.length ca0_Heights) (hra0_Cells : Rd kdTCell z Aa0_Cells a0.Cells) (hca0_Cells : Cap Aa0_Cells a0.Cells.length ca0_Cells) (hra0_Merges : Rd kdTRect z Aa0_Merges a0.Merges) (hca0_Merges : Cap Aa0_Merges a0.Merges.length ca0_Merges) (p0 : SheetI a0) :
    Calls Tryz.prog 17 #[.agg #[.int .i64 a0.Right, .slice Aa0_Widths a0.Widths.length ca0_Widths, .slice Aa0_Heights a0.Heights.length ca0_Heights, .slice Aa0_Cells a0.Cells.length ca0_Cells, .slice Aa0_Merges a0.Merges.length ca0_Merges]] w fun e w' => ∃ (AR0 : Option Addr) (cR0 : Nat) (qR0 : Z), e = .returned (.tuple #[.slice AR0 (exportS a0).1.length cR0, .int .i64 (exportS a0).2]) ∧ Sp (FF []) w z w' [zR qR0, oR (kslice kstr) 43 qR0 AR0 cR0 (exportS a0).1] := by
 have hla0_Widths := hca0_Widths.le
 have hma0_Widths := hca0_Widths.mx
 have hla0_Heights := hca0_Heights.le
 have hma0_Heights := hca0_Heights.mx
 have hla0_Cells := hca0_Cells.le
 have hma0_Cells := hca0_Cells.mx
 have hla0_Merges := hca0_Merges.le
 have hma0_Merges := hca0_Merges.mx
 have hS := hI.sp
 refine Calls_of (vs := [.agg #[.int .i64 a0.Right, .slice Aa0_Widths a0.Widths.length ca0_Widths, .slice Aa0_Heights a0.Heights.length ca0_Heights, .slice Aa0_Cells a0.Cells.length ca0_Cells, .slice Aa0_Merges a0.Merges.length ca0_Merges]]) (N := 42) Tryz.func17 rfl rfl (Nat.le_of_ble_eq_true rfl) ?_
 refine C_seq <| C_region <| W_cons rfl (by decide) (S_box hS rfl (R_box (cs := [.int .i64 a0.Right, .slice Aa0_Widths a0.Widths.length ca0_Widths, .slice Aa0_Heights a0.Heights.length ca0_Heights, .slice Aa0_Cells a0.Cells.length ca0_Cells, .slice Aa0_Merges a0.Merges.length ca0_Merges]) rfl rfl rfl) (fun b2 w1 hS => ?_))
 refine wv rfl rfl rfl (R_assign rfl rfl) <| wv rfl rfl rfl (R_assign rfl rfl) ?_
 refine W_nil <| E_then <| C_seq <| C_seq <| C_region <| wv rfl rfl rfl (R_loadN (cs := [.int .i64 a0.Right, .slice Aa0_Widths a0.Widths.length ca0_Widths, .slice Aa0_Heights a0.Heights.length ca0_Heights, .slice Aa0_Cells a0.Cells.length ca0_Cells, .slice Aa0_Merges a0.Merges.length ca0_Merges]) rfl rfl agg30 size30 rfl (boxcells (hS.bx 0 rfl) 0 rfl)) ?_
 refine W_cons rfl (by decide) (Sv_call rfl rfl rfl ent23 ?_)
 refine (check_calls a0 Aa0_Widths ca0_Widths Aa0_Heights ca0_Heights Aa0_Cells ca0_Cells Aa0_Merges ca0_Merges _ _ hS.out0 (hra0_Widths.mono (hS.zl [])) hca0_Widths (hra0_Heights.mono (hS.zl [])) hca0_Heights (hra0_Cells.mono (hS.zl [])) hca0_Cells (hra0_Merges.mono (hS.zl [])) hca0_Merges ).mono ?_
 rintro e_ w3 ⟨rfl, hS_⟩
 refine ⟨_, rfl, ?_⟩
 have hS := hS.call0 hS_
 refine wv rfl rfl rfl (R_bin rfl rfl rfl rfl rfl) ?_
 refine W_nil <| E_then (C_fr [(1, .pointer (some ⟨b2, 0, none⟩)), (9, .bool ((checkSh a0) != 0))] rfl ?_)
 refine C_ite rfl (fun hC0 => ?_) (fun hC0 => ?_)
 ·have hC0p : ¬ (checkSh a0) = 0 := by simpa using hC0
  refine C_seq <| C_region <| wv rfl rfl rfl (R_assign rfl rfl) <| wv rfl rfl rfl (R_assign rfl rfl) ?_
  refine W_nil <| E_then <| C_ret <| E_then_ret ?_
  obtain ⟨z5, hS⟩ := hS.famx
  have hS := hS.nilrow (kslice kstr) 43 z5
  have hq7 : ([] : List (List St)) = (exportS a0).1 := by (rw [exp_bad (by assumption)]; done)
  have hS := hS.re 0 rfl hq7
  refine E_ret2 rfl rfl rfl ?_
  exact ⟨none, 0, z5, Lret2 (Lslice hq7) (Lint (show 1 = (exportS a0).2 by (rw [exp_bad (by assumption)]; done))), hS.fin [1, 0] (by decide) rfl⟩
 ·have hC0p : (checkSh a0) = 0 := by simpa using hC0
  have hgd := good_of p0 (by omega)
  have hgh := hgd.hs
  have hgw := hgd.ws
  refine C_skip <| E_then <| C_seq <| C_region <| wv rfl rfl rfl (R_assign rfl rfl) ?_
  refine W_nil <| E_then <| C_seq <| C_seq <| C_region <| wv rfl rfl rfl (R_fld rfl rfl fld30_2) <| wv rfl rfl rfl (R_load1 rfl rfl agg26 ((hS.bx 0 rfl).cell rfl)) <| wv rfl rfl rfl (R_len rfl rfl Tryz.underlying26) <| wv rfl rfl rfl (R_move rfl rfl) ?_
  refine W_nil <| E_then <| C_block ?_
  have hS := hS.nilrow kMRowSt 43 zE
  have hS := hS.inNil kstr 9 (fun x_ : List St => x_)
  refine C_fr [(1, .pointer (some ⟨b2, 0, none⟩)), (4, .slice none 0 0), (12, .int .i64 (a0.Heights.length : Int)), (13, .int .i64 0)] rfl ?_
  refine C_loop (fun m_ f_ w_ => ∃ (i : Nat) (Ar8 : Option Addr) (cr8 : Nat) (Mr8 : List (List St × Option Addr × Nat)), f_ = [(1, .pointer (some ⟨b2, 0, none⟩)), (4, .slice Ar8 Mr8.length cr8), (12, .int .i64 (a0.Heights.length : Int)), (13, .int .i64 (i : Int))] ∧ i ≤ a0.Heights.length ∧ Mr8.map Prod.fst = List.replicate i (List.replicate a0.Widths.length ([] : St)) ∧ m_ = a0.Heights.length - i ∧ Sp (FF []) w z w_ [bR b2 30 [.int .i64 a0.Right, .slice Aa0_Widths a0.Widths.length ca0_Widths, .slice Aa0_Heights a0.Heights.length ca0_Heights, .slice Aa0_Cells a0.Cells.length ca0_Cells, .slice Aa0_Merges a0.Merges.length ca0_Merges], oR kMRowSt 43 zE Ar8 cr8 Mr8, inR kstr 9 (fun x_ : List St => x_) Mr8]) (a0.Heights.length - (0 : Nat)) ⟨(0 : Nat), none, 0, ([] : List (List St × Option Addr × Nat)), rfl, (by omega), (by rfl), rfl, hS.fin [2, 1, 0] (by decide) rfl⟩ ?_
  rintro m_ f_ w9 ⟨i, Ar8, cr8, Mr8, rfl, hI0_0, hMr8, rfl, hS⟩
  have hLr8 : Mr8.length = (List.replicate i (List.replicate a0.Widths.length ([] : St))).length := by rw [← hMr8, List.length_map]
  have hp11 := hS.cap 1 rfl
  have hlhp11 := hp11.le
  have hmhp11 := hp11.mx
  refine C_seq <| C_region <| wv rfl rfl rfl (R_bin rfl rfl rfl rfl rfl) ?_
  refine W_nil <| E_then <| C_seq <| C_ite rfl (fun hC1 => ?_) (fun hC1 => ?_)
  ·have hC1p : (i : Int) < (a0.Heights.length : Int) := by simpa using hC1
   refine C_skip <| E_then <| C_seq <| C_block <| C_region <| wv rfl rfl rfl (R_move rfl rfl) <| wv rfl rfl rfl (R_fld rfl rfl fld30_1) <| wv rfl rfl rfl (R_load1 rfl rfl agg26 ((hS.bx 0 rfl).cell rfl)) <| wv rfl rfl rfl (R_len rfl rfl Tryz.underlying26) ?_
   refine W_cons rfl (by decide) (S_make (d := kstr) (q := zE) ([] : St) hS rfl rfl rfl rfl Tryz.underlying43 mk9 rfl (Nat.lt_of_sub_ne_zero (by decide)) (by omega) (by omega) (by omega) (fun g13 w12 hS => ?_))
   refine W_cons rfl (by decide) (S_row (d := kMRowSt) (q := zE) hS ([((List.replicate a0.Widths.length ([] : St)), (some ⟨g13, 0, none⟩), a0.Widths.length)] : List (List St × Option Addr × Nat)) rfl (R_buildSlice (ps := [(0, (.tmp 19))]) (vs := [.slice (some ⟨g13, 0, none⟩) (List.replicate a0.Widths.length ([] : St)).length a0.Widths.length]) (w' := w12.alloc (.cells [.slice (some ⟨g13, 0, none⟩) (List.replicate a0.Widths.length ([] : St)).length a0.Widths.length].toArray 43)) (r := .slice (some ⟨w12.heap.size, 0, none⟩) 1 1) rfl rfl rfl (by kernel_rfl)) (by simp [Reps, flat, kMRowSt]) rfl (by decide) (fun g15 w14 hS => ?_))
   refine W_cons rfl (by decide) (S_append hS 3 rfl rfl rfl elem22 rfl rfl (hS.sow 0 rfl (fun _ _ h => h)) (by (simp only [List.length_append, List.length_replicate, List.length_cons, List.length_nil, maxLen] at *; omega)) (by (simp only [List.length_append, List.length_replicate, List.length_cons, List.length_nil, maxLen] at *; omega)) (fun Ar17 cr17 w16 hS => ?_))
   have hp18 := hS.cap 3 rfl
   have hlhp18 := hp18.le
   have hmhp18 := hp18.mx
   have hS := hS.inAdd 4 1 (List.replicate a0.Widths.length ([] : St)) rfl rfl (by decide) rfl
   have hS : Sp (FF []) w z w16 [inR kstr 9 (fun x_ : List St => x_) (Mr8 ++ ([((List.replicate a0.Widths.length ([] : St)), (some ⟨g13, 0, none⟩), a0.Widths.length)] : List (List St × Option Addr × Nat))), oR kMRowSt 43 zE (some ⟨g15, 0, none⟩) 1 ([((List.replicate a0.Widths.length ([] : St)), (some ⟨g13, 0, none⟩), a0.Widths.length)] : List (List St × Option Addr × Nat)), bR b2 30 [.int .i64 a0.Right, .slice Aa0_Widths a0.Widths.length ca0_Widths, .slice Aa0_Heights a0.Heights.length ca0_Heights, .slice Aa0_Cells a0.Cells.length ca0_Cells, .slice Aa0_Merges a0.Merges.length ca0_Merges], oR kMRowSt 43 zE Ar17 cr17 (Mr8 ++ ([((List.replicate a0.Widths.length ([] : St)), (some ⟨g13, 0, none⟩), a0.Widths.length)] : List (List St × Option Addr × Nat)))] := hS
   refine wv rfl rfl rfl (R_assign rfl rfl) ?_
   refine W_nil <| E_block_normal <| E_then (C_fr [(1, .pointer (some ⟨b2, 0, none⟩)), (4, .slice Ar17 (Mr8 ++ ([((List.replicate a0.Widths.length ([] : St)), (some ⟨g13, 0, none⟩), a0.Widths.length)] : List (List St × Option Addr × Nat))).length cr17), (12, .int .i64 (a0.Heights.length : Int)), (13, .int .i64 (i : Int))] rfl ?_)
   refine C_region <| wv rfl rfl rfl (R_add64 rfl rfl rfl (by omega) (by omega)) <| wv rfl rfl rfl (R_move rfl rfl) ?_
   refine W_nil <| E_round [1, 4, 12, 13] ?_ ⟨(i + 1 : Nat), Ar17, cr17, (Mr8 ++ ([((List.replicate a0.Widths.length ([] : St)), (some ⟨g13, 0, none⟩), a0.Widths.length)] : List (List St × Option Addr × Nat))), rfl, (by omega), (by rw [List.replicate_succ', List.map_append]; congr 1), rfl, hS.fin [2, 3, 0] (by decide) rfl⟩
   omega
  ·have hC1p : ¬ ((i : Int) < (a0.Heights.length : Int)) := by simpa using hC1
   refine C_exit <| E_then_exit <| E_then_exit <| E_block_hit ?_
   refine E_then <| C_seq <| C_seq <| C_region <| wv rfl rfl rfl (R_fld rfl rfl fld30_3) <| wv rfl rfl rfl (R_load1 rfl rfl agg27 ((hS.bx 0 rfl).cell rfl)) <| wv rfl rfl rfl (R_len rfl rfl Tryz.underlying27) <| wv rfl rfl rfl (R_move rfl rfl) ?_
   refine W_nil <| E_then (C_fr [(4, .slice Ar8 Mr8.length cr8), (24, .slice Aa0_Cells a0.Cells.length ca0_Cells), (25, .int .i64 (a0.Cells.length : Int)), (26, .int .i64 0)] rfl ?_)
   refine C_block <| C_fr [(4, .slice Ar8 Mr8.length cr8), (24, .slice Aa0_Cells a0.Cells.length ca0_Cells), (25, .int .i64 (a0.Cells.length : Int)), (26, .int .i64 0)] rfl ?_
   refine C_loop (fun m_ f_ w_ => ∃ (k : Nat) (Ar19 : Option Addr) (cr19 : Nat) (Mr19 : List (List St × Option Addr × Nat)), f_ = [(4, .slice Ar19 Mr19.length cr19), (24, .slice Aa0_Cells a0.Cells.length ca0_Cells), (25, .int .i64 (a0.Cells.length : Int)), (26, .int .i64 (k : Int))] ∧ k ≤ a0.Cells.length ∧ Mr19.map Prod.fst = (a0.Cells.take k).foldl putC (blankS a0) ∧ m_ = a0.Cells.length - k ∧ Sp (FF []) w z w_ [oR kMRowSt 43 zE Ar19 cr19 Mr19, inR kstr 9 (fun x_ : List St => x_) Mr19]) (a0.Cells.length - (0 : Nat)) ⟨(0 : Nat), Ar8, cr8, Mr8, rfl, (by omega), (by (have hi_ : i = a0.Heights.length := (by omega); subst hi_; assumption)), rfl, hS.fin [1, 2] (by decide) rfl⟩ ?_
   rintro m_ f_ w20 ⟨k, Ar19, cr19, Mr19, rfl, hI1_0, hMr19, rfl, hS⟩
   have hLr19 : Mr19.length = ((a0.Cells.take k).foldl putC (blankS a0)).length := by rw [← hMr19, List.length_map]
   have hp21 := hS.cap 0 rfl
   have hlhp21 := hp21.le
   have hmhp21 := hp21.mx
   refine C_seq <| C_region <| wv rfl rfl rfl (R_bin rfl rfl rfl rfl rfl) ?_
   refine W_nil <| E_then <| C_seq <| C_ite rfl (fun hC2 => ?_) (fun hC2 => ?_)
   ·have hC2p : (k : Int) < (a0.Cells.length : Int) := by simpa using hC2
    refine C_skip <| E_then <| C_seq <| C_block <| C_seq <| C_region ?_
    obtain ⟨q22, csq22, hAq22, rfl, hkq22⟩ := hra0_Cells.at_ (default : TCell) (i := (k : Int)) (by omega) (by omega)
    have hkq22 : ∀ (j_ : Nat) (u_ : Value), ([.int .i64 (a0.Cells.getD k (default : TCell)).Row, .int .i64 (a0.Cells.getD k (default : TCell)).Col, vstr (a0.Cells.getD k (default : TCell)).Text, .int .i64 (a0.Cells.getD k (default : TCell)).Style.Align, .int .i64 (a0.Cells.getD k (default : TCell)).Style.Wrap, .int .i64 (a0.Cells.getD k (default : TCell)).Style.Dir] : List Value)[j_]? = some u_ → cz z (q22.add (k * 6 + j_)) = some u_ := hkq22
    refine wv rfl rfl rfl (R_idx rfl rfl hAq22 rfl Tryz.underlying27 size58 (by omega) (by omega)) <| wv rfl rfl rfl (R_loadN (cs := [.int .i64 (a0.Cells.getD k (default : TCell)).Row, .int .i64 (a0.Cells.getD k (default : TCell)).Col, vstr (a0.Cells.getD k (default : TCell)).Text, .int .i64 (a0.Cells.getD k (default : TCell)).Style.Align, .int .i64 (a0.Cells.getD k (default : TCell)).Style.Wrap, .int .i64 (a0.Cells.getD k (default : TCell)).Style.Dir]) rfl rfl agg58 size58 rfl (fun j u h => cell_add (hS.sub.cell (hkq22 j u h)))) ?_
    refine W_cons rfl (by decide) (S_box hS rfl (R_alloc rfl alloc58) (fun b24 w23 hS => ?_))
    refine W_cons0 rfl (S_store hS 0 rfl rfl rfl rfl rfl size58 (one_cons rfl (one_cons rfl (one_cons rfl (one_cons rfl (one_cons rfl (one_cons rfl one_nil)))))) (Nat.le_of_ble_eq_true rfl) (fun w25 hS => ?_))
    have hS : Sp (FF []) w z w25 [bR b24 58 [.int .i64 (a0.Cells.getD k (default : TCell)).Row, .int .i64 (a0.Cells.getD k (default : TCell)).Col, vstr (a0.Cells.getD k (default : TCell)).Text, .int .i64 (a0.Cells.getD k (default : TCell)).Style.Align, .int .i64 (a0.Cells.getD k (default : TCell)).Style.Wrap, .int .i64 (a0.Cells.getD k (default : TCell)).Style.Dir], oR kMRowSt 43 zE Ar19 cr19 Mr19, inR kstr 9 (fun x_ : List St => x_) Mr19] := hS
    refine W_nil <| E_then ?_
    have hfo := hgd.cell (mem_getD default (show k < a0.Cells.length by omega))
    have hfr := exp_row (s := a0) (k := k) (i := (a0.Cells.getD k (default : TCell)).Row.toNat) (by omega)
    have hfl := exp_len a0 k
    have hS := hS.focus 2 rfl (a0.Cells.getD k (default : TCell)).Row.toNat (by omega) (([], none, 0) : List St × Option Addr × Nat)
    have hp27 := hS.cap 0 rfl
    have hlhp27 := hp27.le
    have hmhp27 := hp27.mx
    have hfe : ((Mr19.getD (a0.Cells.getD k (default : TCell)).Row.toNat (([], none, 0) : List St × Option Addr × Nat))).1.length = (((a0.Cells.take k).foldl putC (blankS a0)).getD (a0.Cells.getD k (default : TCell)).Row.toNat []).length := congrArg List.length (mfst hMr19 (a0.Cells.getD k (default : TCell)).Row.toNat (([], none, 0) : List St × Option Addr × Nat))
    refine C_fr [(4, .slice Ar19 Mr19.length cr19), (6, .pointer (some ⟨b24, 0, none⟩)), (24, .slice Aa0_Cells a0.Cells.length ca0_Cells), (25, .int .i64 (a0.Cells.length : Int)), (26, .int .i64 (k : Int))] rfl ?_
    obtain ⟨q28, hAq28, hxq28⟩ := (hS.rw 3 rfl).ix (([], none, 0) : List St × Option Addr × Nat) (i := (a0.Cells.getD k (default : TCell)).Row) (by omega) (by omega)
    obtain ⟨q29, hAq29, hxq29⟩ := (hS.rw 0 rfl).ix ([] : St) (i := (a0.Cells.getD k (default : TCell)).Col) (by omega) (by omega)
    refine C_drawn2 11 [[], [], [1], [0, 2], [3], [], [5], [], [7], [4, 6, 0, 1, 2, 3, 4, 5, 6, 7, 8]] [some 30, some 31, some 32, some 33, some 34, some 35, some 36, some 37, some 38, some 39] [4, 6, 24, 25, 26] (List.replicate 10 10) (List.replicate 10 []) (List.replicate 10 []) [fun γ_ => .slice Ar19 Mr19.length cr19, fun γ_ => .pointer (some ⟨b24, 0, none⟩), fun γ_ => .int .i64 (a0.Cells.getD k (default : TCell)).Row, fun γ_ => .pointer (some (q28.add ((a0.Cells.getD k (default : TCell)).Row.toNat * 1))), fun γ_ => .slice (Mr19.getD (a0.Cells.getD k (default : TCell)).Row.toNat (([], none, 0) : List St × Option Addr × Nat)).2.1 (Mr19.getD (a0.Cells.getD k (default : TCell)).Row.toNat (([], none, 0) : List St × Option Addr × Nat)).1.length (Mr19.getD (a0.Cells.getD k (default : TCell)).Row.toNat (([], none, 0) : List St × Option Addr × Nat)).2.2, fun γ_ => .pointer (some ⟨b24, 1, none⟩), fun γ_ => .int .i64 (a0.Cells.getD k (default : TCell)).Col, fun γ_ => .pointer (some ⟨b24, 2, none⟩), fun γ_ => vstr (a0.Cells.getD k (default : TCell)).Text, fun γ_ => .pointer (some (q29.add ((a0.Cells.getD k (default : TCell)).Col.toNat * 1)))] (List.replicate 10 (fun _ => [])) rfl (by kernel_rfl) (by decide +kernel) hS ?_ ?_
    ·refine ⟨fun _ _ _ hS => Sv_val rfl (R_move rfl rfl) ⟨gh0, rfl, hS⟩, fun _ _ _ hS => Sv_val rfl (R_fld rfl rfl fld58_0) ⟨gh0, rfl, hS⟩, fun _ _ _ hS => Sv_val rfl (R_load1 rfl rfl agg3 ((hS.bx 2 rfl).cell rfl)) ⟨gh0, rfl, hS⟩, fun _ _ _ hS => Sv_val rfl (R_idx rfl rfl hAq28 rfl Tryz.underlying22 size43 (by omega) (by omega)) ⟨gh0, rfl, hS⟩, fun _ _ _ hS => Sv_val rfl (R_load1 rfl rfl agg43 ((hS.rw 3 rfl).cellAt hAq28 hxq28 (fun _ h => h) 0 _ rfl)) ⟨gh0, rfl, hS⟩, fun _ _ _ hS => Sv_val rfl (R_fld rfl rfl fld58_1) ⟨gh0, rfl, hS⟩, fun _ _ _ hS => Sv_val rfl (R_load1 rfl rfl agg3 ((hS.bx 2 rfl).cell rfl)) ⟨gh0, rfl, hS⟩, fun _ _ _ hS => Sv_val rfl (R_fld rfl rfl fld58_2) ⟨gh0, rfl, hS⟩, fun _ _ _ hS => Sv_val rfl (R_load1 rfl rfl agg9 ((hS.bx 2 rfl).cell rfl)) ⟨gh0, rfl, hS⟩, fun _ _ _ hS => Sv_val rfl (R_idx rfl rfl hAq29 rfl Tryz.underlying43 size9 (by omega) (by omega)) ⟨gh0, rfl, hS⟩, ?_⟩
     exact trivial
    ·intro g_ w50 hS
     have hS : Sp (FF []) w z w50 [oR kstr 9 zE (Mr19.getD (a0.Cells.getD k (default : TCell)).Row.toNat (([], none, 0) : List St × Option Addr × Nat)).2.1 (Mr19.getD (a0.Cells.getD k (default : TCell)).Row.toNat (([], none, 0) : List St × Option Addr × Nat)).2.2 (Mr19.getD (a0.Cells.getD k (default : TCell)).Row.toNat (([], none, 0) : List St × Option Addr × Nat)).1, inX kstr 9 (fun x_ : List St => x_) Mr19 (a0.Cells.getD k (default : TCell)).Row.toNat, bR b24 58 [.int .i64 (a0.Cells.getD k (default : TCell)).Row, .int .i64 (a0.Cells.getD k (default : TCell)).Col, vstr (a0.Cells.getD k (default : TCell)).Text, .int .i64 (a0.Cells.getD k (default : TCell)).Style.Align, .int .i64 (a0.Cells.getD k (default : TCell)).Style.Wrap, .int .i64 (a0.Cells.getD k (default : TCell)).Style.Dir], oR kMRowSt 43 zE Ar19 cr19 Mr19] := hS
     refine An_fr [(4, .slice Ar19 Mr19.length cr19), (6, .pointer (some ⟨b24, 0, none⟩)), (24, .slice Aa0_Cells a0.Cells.length ca0_Cells), (25, .int .i64 (a0.Cells.length : Int)), (26, .int .i64 (k : Int)), (38, vstr (a0.Cells.getD k (default : TCell)).Text), (39, .pointer (some (q29.add ((a0.Cells.getD k (default : TCell)).Col.toNat * 1))))] rfl ?_
     refine An_one0 (i := 10) (by decide +kernel) rfl rfl (S_setf (xs := (Mr19.getD (a0.Cells.getD k (default : TCell)).Row.toNat (([], none, 0) : List St × Option Addr × Nat)).1) (j := (a0.Cells.getD k (default : TCell)).Col.toNat) (off := 0) (y' := ((a0.Cells.getD k (default : TCell)).Text : St)) ([] : St) hS 0 rfl rfl rfl hAq29 (by omega) rfl rfl rfl size9 (one1 rfl) (Nat.le_of_ble_eq_true rfl) (fun _ h_ => by rw [h_]; rfl) (fun w52 hS => ?_))
     refine An_done (by decide +kernel) <| E_block_normal <| E_then ?_
     have hS := hS.reM 3 rfl (a0.Cells.getD k (default : TCell)).Row.toNat (((Mr19.getD (a0.Cells.getD k (default : TCell)).Row.toNat (([], none, 0) : List St × Option Addr × Nat)).1.set (a0.Cells.getD k (default : TCell)).Col.toNat (a0.Cells.getD k (default : TCell)).Text, (Mr19.getD (a0.Cells.getD k (default : TCell)).Row.toNat (([], none, 0) : List St × Option Addr × Nat)).2.1, (Mr19.getD (a0.Cells.getD k (default : TCell)).Row.toNat (([], none, 0) : List St × Option Addr × Nat)).2.2) : (List St × Option Addr × Nat)) (([], none, 0) : List St × Option Addr × Nat) (by omega) (fun _ h_ => by rw [h_]; simp [kMRowSt, flat])
     have hS := hS.unfocus 1 0 ((Mr19.getD (a0.Cells.getD k (default : TCell)).Row.toNat (([], none, 0) : List St × Option Addr × Nat)).1.set (a0.Cells.getD k (default : TCell)).Col.toNat (a0.Cells.getD k (default : TCell)).Text : List St) rfl rfl (by decide) (by omega) rfl
     have hS : Sp (FF []) w z w52 [inR kstr 9 (fun x_ : List St => x_) (Mr19.set (a0.Cells.getD k (default : TCell)).Row.toNat (((Mr19.getD (a0.Cells.getD k (default : TCell)).Row.toNat (([], none, 0) : List St × Option Addr × Nat)).1.set (a0.Cells.getD k (default : TCell)).Col.toNat (a0.Cells.getD k (default : TCell)).Text, (Mr19.getD (a0.Cells.getD k (default : TCell)).Row.toNat (([], none, 0) : List St × Option Addr × Nat)).2.1, (Mr19.getD (a0.Cells.getD k (default : TCell)).Row.toNat (([], none, 0) : List St × Option Addr × Nat)).2.2) : (List St × Option Addr × Nat))), bR b24 58 [.int .i64 (a0.Cells.getD k (default : TCell)).Row, .int .i64 (a0.Cells.getD k (default : TCell)).Col, vstr (a0.Cells.getD k (default : TCell)).Text, .int .i64 (a0.Cells.getD k (default : TCell)).Style.Align, .int .i64 (a0.Cells.getD k (default : TCell)).Style.Wrap, .int .i64 (a0.Cells.getD k (default : TCell)).Style.Dir], oR kMRowSt 43 zE Ar19 cr19 (Mr19.set (a0.Cells.getD k (default : TCell)).Row.toNat (((Mr19.getD (a0.Cells.getD k (default : TCell)).Row.toNat (([], none, 0) : List St × Option Addr × Nat)).1.set (a0.Cells.getD k (default : TCell)).Col.toNat (a0.Cells.getD k (default : TCell)).Text, (Mr19.getD (a0.Cells.getD k (default : TCell)).Row.toNat (([], none, 0) : List St × Option Addr × Nat)).2.1, (Mr19.getD (a0.Cells.getD k (default : TCell)).Row.toNat (([], none, 0) : List St × Option Addr × Nat)).2.2) : (List St × Option Addr × Nat)))] := hS
     have hll53 : (Mr19.set (a0.Cells.getD k (default : TCell)).Row.toNat (((Mr19.getD (a0.Cells.getD k (default : TCell)).Row.toNat (([], none, 0) : List St × Option Addr × Nat)).1.set (a0.Cells.getD k (default : TCell)).Col.toNat (a0.Cells.getD k (default : TCell)).Text, (Mr19.getD (a0.Cells.getD k (default : TCell)).Row.toNat (([], none, 0) : List St × Option Addr × Nat)).2.1, (Mr19.getD (a0.Cells.getD k (default : TCell)).Row.toNat (([], none, 0) : List St × Option Addr × Nat)).2.2) : (List St × Option Addr × Nat))).length = Mr19.length := List.length_set ..
     refine C_region <| wv rfl rfl rfl (R_add64 rfl rfl rfl (by omega) (by omega)) <| wv rfl rfl rfl (R_move rfl rfl) ?_
     refine W_nil <| E_round [4, 24, 25, 26] ?_ ⟨(k + 1 : Nat), Ar19, cr19, (Mr19.set (a0.Cells.getD k (default : TCell)).Row.toNat (((Mr19.getD (a0.Cells.getD k (default : TCell)).Row.toNat (([], none, 0) : List St × Option Addr × Nat)).1.set (a0.Cells.getD k (default : TCell)).Col.toNat (a0.Cells.getD k (default : TCell)).Text, (Mr19.getD (a0.Cells.getD k (default : TCell)).Row.toNat (([], none, 0) : List St × Option Addr × Nat)).2.1, (Mr19.getD (a0.Cells.getD k (default : TCell)).Row.toNat (([], none, 0) : List St × Option Addr × Nat)).2.2) : (List St × Option Addr × Nat))), (by rw [hll53] <;> rfl), (by omega), (by rw [put_next (by omega)]; exact mput (d := (([], none, 0) : List St × Option Addr × Nat)) (fun r_ : List St => r_.set (a0.Cells.getD k (default : TCell)).Col.toNat (a0.Cells.getD k (default : TCell)).Text) (by assumption) rfl), rfl, hS.fin [2, 0] (by decide) rfl⟩
     omega
   ·have hC2p : ¬ ((k : Int) < (a0.Cells.length : Int)) := by simpa using hC2
    refine C_exit <| E_then_exit <| E_then_exit <| E_block_hit ?_
    refine E_then <| C_seq <| C_region <| wv rfl rfl rfl (R_move rfl rfl) <| wv rfl rfl rfl (R_assign rfl rfl) <| wv rfl rfl rfl (R_assign rfl rfl) ?_
    refine W_nil <| E_then (C_fr [(2, .slice Ar19 Mr19.length cr19), (3, .int .i64 0)] rfl ?_)
    refine C_ret ?_
    obtain ⟨z54, hS⟩ := hS.sealr (dk := (kslice kstr)) 0 1 rfl rfl (by decide) rfl (fun _ _ _ h_ hc_ hr_ => ⟨_, _, h_, hc_, hr_⟩)
    have hq56 : Mr19.map Prod.fst = (exportS a0).1 := by (rw [exp_ok (by omega)]; refine Eq.trans (by assumption) ?_; rw [List.take_of_length_le (by omega)]; rfl)
    have hS := hS.re 1 rfl hq56
    refine E_ret2 rfl rfl rfl ?_
    exact ⟨Ar19, cr19, z54, Lret2 ((congrArg (fun n_ => Value.slice Ar19 n_ cr19) (List.length_map (f := Prod.fst)).symm).trans (Lslice hq56)) (Lint (show 0 = (exportS a0).2 by (rw [exp_ok (by omega)]; done))), hS.fin [0, 1] (by decide) rfl⟩
theorem write_calls (a0 : TSheet) (Aa0_Widths : Option Addr) (ca0_Widths : Nat) (Aa0_Heights : Option Addr) (ca0_Heights : Nat) (Aa0_Cells : Option Addr) (ca0_Cells : Nat) (Aa0_Merges : Option Addr) (ca0_Merges : Nat) (z : Z) (w : World) (hI : In z w []) (hra0_Widths : Rd (kint .i64) z Aa0_Widths a0.Widths) (hca0_Widths : Cap Aa0_Widths a0.Widths.length ca0_Widths) (hra0_Heights : Rd (kint .i64) z Aa0_Heights a0.Heights) (hca0_Heights : Cap Aa0_Heights a0.Heights.length ca0_Heights) (hra0_Cells : Rd kdTCell z Aa0_Cells a0.Cells) (hca0_Cells : Cap Aa0_Cells a0.Cells.length ca0_Cells) (hra0_Merges : Rd kdTRect z Aa0_Merges a0.Merges) (hca0_Merges : Cap Aa0_Merges a0.Merges.length ca0_Merges) (p0 : SheetI a0) (p1 : HM z) :
    Calls Tryz.prog 19 #[.agg #[.int .i64 a0.Right, .slice Aa0_Widths a0.Widths.length ca0_Widths, .slice Aa0_Heights a0.Heights.length ca0_Heights, .slice Aa0_Cells a0.Cells.length ca0_Cells, .slice Aa0_Merges a0.Merges.length ca0_Merges]] w fun e w' => e = .returned (.tuple #[vstr (writeS a0).1, .int .i64 (writeS a0).2]) ∧ Sp (FF []) w z w' [] := by
 have hla0_Widths := hca0_Widths.le
 have hma0_Widths := hca0_Widths.mx
 have hla0_Heights := hca0_Heights.le
 have hma0_Heights := hca0_Heights.mx
 have hla0_Cells := hca0_Cells.le
 have hma0_Cells := hca0_Cells.mx
 have hla0_Merges := hca0_Merges.le
 have hma0_Merges := hca0_Merges.mx
 have hS := hI.sp
 have hwb := @write_bad a0
 have hwo := @write_ok a0
 refine Calls_of (vs := [.agg #[.int .i64 a0.Right, .slice Aa0_Widths a0.Widths.length ca0_Widths, .slice Aa0_Heights a0.Heights.length ca0_Heights, .slice Aa0_Cells a0.Cells.length ca0_Cells, .slice Aa0_Merges a0.Merges.length ca0_Merges]]) (N := 18) Tryz.func19 rfl rfl (Nat.le_of_ble_eq_true rfl) ?_
 refine C_seq <| C_region <| W_cons rfl (by decide) (S_box hS rfl (R_box (cs := [.int .i64 a0.Right, .slice Aa0_Widths a0.Widths.length ca0_Widths, .slice Aa0_Heights a0.Heights.length ca0_Heights, .slice Aa0_Cells a0.Cells.length ca0_Cells, .slice Aa0_Merges a0.Merges.length ca0_Merges]) rfl rfl rfl) (fun b2 w1 hS => ?_))
 refine wv rfl rfl rfl (R_assign rfl rfl) <| wv rfl rfl rfl (R_assign rfl rfl) ?_
 refine W_nil <| E_then <| C_seq <| C_region <| wv rfl rfl rfl (R_loadN (cs := [.int .i64 a0.Right, .slice Aa0_Widths a0.Widths.length ca0_Widths, .slice Aa0_Heights a0.Heights.length ca0_Heights, .slice Aa0_Cells a0.Cells.length ca0_Cells, .slice Aa0_Merges a0.Merges.length ca0_Merges]) rfl rfl agg30 size30 rfl (boxcells (hS.bx 0 rfl) 0 rfl)) ?_
 refine W_cons rfl (by decide) (Sv_call rfl rfl rfl ent17 ?_)
 refine (export_calls a0 Aa0_Widths ca0_Widths Aa0_Heights ca0_Heights Aa0_Cells ca0_Cells Aa0_Merges ca0_Merges _ _ hS.out0 (hra0_Widths.mono (hS.zl [])) hca0_Widths (hra0_Heights.mono (hS.zl [])) hca0_Heights (hra0_Cells.mono (hS.zl [])) hca0_Cells (hra0_Merges.mono (hS.zl [])) hca0_Merges (by exact p0)).mono ?_
 rintro e_ w3 ⟨AR0_4, cR0_4, qR0_4, rfl, hS_⟩
 refine ⟨_, rfl, ?_⟩
 have hS := hS.call0 hS_
 have hp5 := hS.cap 1 rfl
 have hlhp5 := hp5.le
 have hmhp5 := hp5.mx
 refine wv rfl rfl rfl (R_move rfl rfl) <| wv rfl rfl rfl (R_extract rfl rfl rfl) <| wv rfl rfl rfl (R_extract rfl rfl rfl) <| wv rfl rfl rfl (R_assign rfl rfl) <| wv rfl rfl rfl (R_assign rfl rfl) ?_
 refine W_nil <| E_then (C_fr [(4, .slice AR0_4 (exportS a0).1.length cR0_4), (5, .int .i64 (exportS a0).2)] rfl ?_)
 refine C_seq <| C_seq <| C_region <| wv rfl rfl rfl (R_move rfl rfl) <| wv rfl rfl rfl (R_bin rfl rfl rfl rfl rfl) ?_
 refine W_nil <| E_then <| C_ite rfl (fun hC0 => ?_) (fun hC0 => ?_)
 ·have hC0p : ¬ (exportS a0).2 = 0 := by simpa using hC0
  refine C_seq <| C_region <| wv rfl rfl rfl (R_move rfl rfl) <| wv rfl rfl rfl (R_assign rfl rfl) <| wv rfl rfl rfl (R_assign rfl rfl) ?_
  refine W_nil <| E_then (C_fr [(2, vstr []), (3, .int .i64 (exportS a0).2)] rfl ?_)
  refine C_ret <| E_then_ret <| E_ret2 rfl rfl rfl ?_
  exact ⟨Lret2 (Lstr (show [] = (writeS a0).1 by (rw [hwb (by assumption)]; done))) (Lint (show (exportS a0).2 = (writeS a0).2 by (rw [hwb (by assumption)]; done))), hS.fin [] (by decide) rfl⟩
 ·have hC0p : (exportS a0).2 = 0 := by simpa using hC0
  refine C_skip <| E_then <| C_seq <| C_region <| wv rfl rfl rfl (R_move rfl rfl) ?_
  refine W_cons rfl (by decide) (Sv_call rfl rfl rfl ent35 ?_)
  refine (qprint_calls (exportS a0).1 AR0_4 cR0_4 _ _ hS.out0 (hS.ow [] 1 rfl rfl (hS.zq [] 0 rfl rfl)) (hS.cap 1 rfl) (by exact fit_exp p0) (by exact HM.mono (by assumption) (hS.zl []))).mono ?_
  rintro e_ w6 ⟨rfl, hS_⟩
  refine ⟨_, rfl, ?_⟩
  have hS := hS.call0 hS_
  refine wv rfl rfl rfl (R_extract rfl rfl rfl) <| wv rfl rfl rfl (R_extract rfl rfl rfl) <| wv rfl rfl rfl (R_assign rfl rfl) <| wv rfl rfl rfl (R_assign rfl rfl) ?_
  refine W_nil <| E_then (C_fr [(2, vstr (printQ (exportS a0).1).1), (3, .int .i64 (printQ (exportS a0).1).2)] rfl ?_)
  refine C_ret <| E_ret2 rfl rfl rfl ?_
  exact ⟨Lret2 (Lstr (show (printQ (exportS a0).1).1 = (writeS a0).1 by (rw [hwo (by omega)]; done))) (Lint (show (printQ (exportS a0).1).2 = (writeS a0).2 by (rw [hwo (by omega)]; done))), hS.fin [] (by decide) rfl⟩
theorem rexport_calls (a0 : TSheet) (Aa0_Widths : Option Addr) (ca0_Widths : Nat) (Aa0_Heights : Option Addr) (ca0_Heights : Nat) (Aa0_Cells : Option Addr) (ca0_Cells : Nat) (Aa0_Merges : Option Addr) (ca0_Merges : Nat) (z : Z) (w : World) (hI : In z w []) (hra0_Widths : Rd (kint .i64) z Aa0_Widths a0.Widths) (hca0_Widths : Cap Aa0_Widths a0.Widths.length ca0_Widths) (hra0_Heights : Rd (kint .i64) z Aa0_Heights a0.Heights) (hca0_Heights : Cap Aa0_Heights a0.Heights.length ca0_Heights) (hra0_Cells : Rd kdTCell z Aa0_Cells a0.Cells) (hca0_Cells : Cap Aa0_Cells a0.Cells.length ca0_Cells) (hra0_Merges : Rd kdTRect z Aa0_Merges a0.Merges) (hca0_Merges : Cap Aa0_Merges a0.Merges.length ca0_Merges) (p0 : SheetI a0) :
    Calls Tryz.prog 18 #[.agg #[.int .i64 a0.Right, .slice Aa0_Widths a0.Widths.length ca0_Widths, .slice Aa0_Heights a0.Heights.length ca0_Heights, .slice Aa0_Cells a0.Cells.length ca0_Cells, .slice Aa0_Merges a0.Merges.length ca0_Merges]] w fun e w' => ∃ (AR0 : Option Addr) (cR0 : Nat) (qR0 : Z), e = .returned (.tuple #[.slice AR0 (rexportS a0).1.length cR0, .int .i64 (rexportS a0).2]) ∧ Sp (FF []) w z w' [zR qR0, oR (kslice kstr) 43 qR0 AR0 cR0 (rexportS a0).1] := by
 have hla0_Widths := hca0_Widths.le
 have hma0_Widths := hca0_Widths.mx
 have hla0_Heights := hca0_Heights.le
 have hma0_Heights := hca0_Heights.mx
 have hla0_Cells := hca0_Cells.le
 have hma0_Cells := hca0_Cells.mx
 have hla0_Merges := hca0_Merges.le
 have hma0_Merges := hca0_Merges.mx
 have hS := hI.sp
 refine Calls_of (vs := [.agg #[.int .i64 a0.Right, .slice Aa0_Widths a0.Widths.length ca0_Widths, .slice Aa0_Heights a0.Heights.length ca0_Heights, .slice Aa0_Cells a0.Cells.length ca0_Cells, .slice Aa0_Merges a0.Merges.length ca0_Merges]]) (N := 67) Tryz.func18 rfl rfl (Nat.le_of_ble_eq_true rfl) ?_
 refine C_seq <| C_region <| W_cons rfl (by decide) (S_box hS rfl (R_box (cs := [.int .i64 a0.Right, .slice Aa0_Widths a0.Widths.length ca0_Widths, .slice Aa0_Heights a0.Heights.length ca0_Heights, .slice Aa0_Cells a0.Cells.length ca0_Cells, .slice Aa0_Merges a0.Merges.length ca0_Merges]) rfl rfl rfl) (fun b2 w1 hS => ?_))
 refine wv rfl rfl rfl (R_assign rfl rfl) <| wv rfl rfl rfl (R_assign rfl rfl) ?_
 refine W_nil <| E_then <| C_seq <| C_seq <| C_region <| wv rfl rfl rfl (R_loadN (cs := [.int .i64 a0.Right, .slice Aa0_Widths a0.Widths.length ca0_Widths, .slice Aa0_Heights a0.Heights.length ca0_Heights, .slice Aa0_Cells a0.Cells.length ca0_Cells, .slice Aa0_Merges a0.Merges.length ca0_Merges]) rfl rfl agg30 size30 rfl (boxcells (hS.bx 0 rfl) 0 rfl)) ?_
 refine W_cons rfl (by decide) (Sv_call rfl rfl rfl ent34 ?_)
 refine (rcheck_calls a0 Aa0_Widths ca0_Widths Aa0_Heights ca0_Heights Aa0_Cells ca0_Cells Aa0_Merges ca0_Merges _ _ hS.out0 (hra0_Widths.mono (hS.zl [])) hca0_Widths (hra0_Heights.mono (hS.zl [])) hca0_Heights (hra0_Cells.mono (hS.zl [])) hca0_Cells (hra0_Merges.mono (hS.zl [])) hca0_Merges ).mono ?_
 rintro e_ w3 ⟨rfl, hS_⟩
 refine ⟨_, rfl, ?_⟩
 have hS := hS.call0 hS_
 refine wv rfl rfl rfl (R_bin rfl rfl rfl rfl rfl) ?_
 refine W_nil <| E_then (C_fr [(1, .pointer (some ⟨b2, 0, none⟩)), (12, .bool ((rcheckSh a0) != 0))] rfl ?_)
 refine C_ite rfl (fun hC0 => ?_) (fun hC0 => ?_)
 ·have hC0p : ¬ (rcheckSh a0) = 0 := by simpa using hC0
  refine C_seq <| C_region <| wv rfl rfl rfl (R_assign rfl rfl) <| wv rfl rfl rfl (R_assign rfl rfl) ?_
  refine W_nil <| E_then <| C_ret <| E_then_ret ?_
  obtain ⟨z5, hS⟩ := hS.famx
  have hS := hS.nilrow (kslice kstr) 43 z5
  have hq7 : ([] : List (List St)) = (rexportS a0).1 := by (rw [rexp_bad (by assumption)]; done)
  have hS := hS.re 0 rfl hq7
  refine E_ret2 rfl rfl rfl ?_
  exact ⟨none, 0, z5, Lret2 (Lslice hq7) (Lint (show 1 = (rexportS a0).2 by (rw [rexp_bad (by assumption)]; done))), hS.fin [1, 0] (by decide) rfl⟩
 ·have hC0p : (rcheckSh a0) = 0 := by simpa using hC0
  have hck : checkSh a0 = 0 := by rw [check_law p0]; omega
  have hgd := good_of p0 hck
  have hgh := hgd.hs
  have hgw := hgd.ws
  refine C_skip <| E_then <| C_seq <| C_region <| wv rfl rfl rfl (R_assign rfl rfl) ?_
  refine W_nil <| E_then <| C_seq <| C_seq <| C_region <| wv rfl rfl rfl (R_assign rfl rfl) ?_
  refine W_nil <| E_then <| C_block ?_
  obtain ⟨z11, hS⟩ := hS.famx
  have hS := hS.nilrow (kslice kstr) 43 z11
  have hs13 : ([] : List (List St)) = (List.range (0 : Nat)).map (fun (r_ : Nat) => (List.range a0.Widths.length).map fun (j_ : Nat) => lastT a0.Cells (r_ : Int) (j_ : Int)) := by rfl
  have hS := hS.re 0 rfl hs13
  refine C_fr [(1, .pointer (some ⟨b2, 0, none⟩)), (4, .slice none 0 0), (5, .int .i64 0)] rfl ?_
  refine C_loop (fun m_ f_ w_ => ∃ (i : Nat) (Ar8 : Option Addr) (cr8 : Nat) (z9 : Z), f_ = [(1, .pointer (some ⟨b2, 0, none⟩)), (4, .slice Ar8 ((List.range i).map (fun (r_ : Nat) => (List.range a0.Widths.length).map fun (j_ : Nat) => lastT a0.Cells (r_ : Int) (j_ : Int))).length cr8), (5, .int .i64 (i : Int))] ∧ i ≤ a0.Heights.length ∧ m_ = a0.Heights.length - i ∧ Sp (FF []) w z w_ [bR b2 30 [.int .i64 a0.Right, .slice Aa0_Widths a0.Widths.length ca0_Widths, .slice Aa0_Heights a0.Heights.length ca0_Heights, .slice Aa0_Cells a0.Cells.length ca0_Cells, .slice Aa0_Merges a0.Merges.length ca0_Merges], zR z9, oR (kslice kstr) 43 z9 Ar8 cr8 ((List.range i).map (fun (r_ : Nat) => (List.range a0.Widths.length).map fun (j_ : Nat) => lastT a0.Cells (r_ : Int) (j_ : Int)))]) (a0.Heights.length - (0 : Nat)) ⟨(0 : Nat), none, 0, z11, (by rw [← hs13] <;> rfl), (by omega), rfl, hS.fin [2, 1, 0] (by decide) rfl⟩ ?_
  rintro m_ f_ w10 ⟨i, Ar8, cr8, z9, rfl, hI0_0, rfl, hS⟩
  have hp14 := hS.cap 2 rfl
  have hlhp14 := hp14.le
  have hmhp14 := hp14.mx
  refine C_seq <| C_seq <| C_region <| wv rfl rfl rfl (R_move rfl rfl) <| wv rfl rfl rfl (R_fld rfl rfl fld30_2) <| wv rfl rfl rfl (R_load1 rfl rfl agg26 ((hS.bx 0 rfl).cell rfl)) <| wv rfl rfl rfl (R_len rfl rfl Tryz.underlying26) <| wv rfl rfl rfl (R_bin rfl rfl rfl rfl rfl) ?_
  refine W_nil <| E_then <| C_ite rfl (fun hC1 => ?_) (fun hC1 => ?_)
  ·have hC1p : (i : Int) < (a0.Heights.length : Int) := by simpa using hC1
   refine C_skip <| E_then (C_fr [(1, .pointer (some ⟨b2, 0, none⟩)), (4, .slice Ar8 ((List.range i).map (fun (r_ : Nat) => (List.range a0.Widths.length).map fun (j_ : Nat) => lastT a0.Cells (r_ : Int) (j_ : Int))).length cr8), (5, .int .i64 (i : Int))] rfl ?_)
   refine C_seq <| C_block <| C_seq <| C_region <| wv rfl rfl rfl (R_assign rfl rfl) ?_
   refine W_nil <| E_then <| C_seq <| C_seq <| C_region <| wv rfl rfl rfl (R_assign rfl rfl) ?_
   refine W_nil <| E_then <| C_block ?_
   have hS := hS.nilrow kstr 9 zE
   have hs18 : ([] : List St) = (List.range (0 : Nat)).map (fun (j_ : Nat) => lastT a0.Cells (i : Int) (j_ : Int)) := by rfl
   have hS := hS.re 0 rfl hs18
   refine C_fr [(1, .pointer (some ⟨b2, 0, none⟩)), (4, .slice Ar8 ((List.range i).map (fun (r_ : Nat) => (List.range a0.Widths.length).map fun (j_ : Nat) => lastT a0.Cells (r_ : Int) (j_ : Int))).length cr8), (5, .int .i64 (i : Int)), (6, .slice none 0 0), (7, .int .i64 0)] rfl ?_
   refine C_loop (fun m_ f_ w_ => ∃ (c : Nat) (Ar15 : Option Addr) (cr15 : Nat), f_ = [(1, .pointer (some ⟨b2, 0, none⟩)), (4, .slice Ar8 ((List.range i).map (fun (r_ : Nat) => (List.range a0.Widths.length).map fun (j_ : Nat) => lastT a0.Cells (r_ : Int) (j_ : Int))).length cr8), (5, .int .i64 (i : Int)), (6, .slice Ar15 ((List.range c).map (fun (j_ : Nat) => lastT a0.Cells (i : Int) (j_ : Int))).length cr15), (7, .int .i64 (c : Int))] ∧ c ≤ a0.Widths.length ∧ m_ = a0.Widths.length - c ∧ Sp (FF []) w z w_ [bR b2 30 [.int .i64 a0.Right, .slice Aa0_Widths a0.Widths.length ca0_Widths, .slice Aa0_Heights a0.Heights.length ca0_Heights, .slice Aa0_Cells a0.Cells.length ca0_Cells, .slice Aa0_Merges a0.Merges.length ca0_Merges], zR z9, oR (kslice kstr) 43 z9 Ar8 cr8 ((List.range i).map (fun (r_ : Nat) => (List.range a0.Widths.length).map fun (j_ : Nat) => lastT a0.Cells (r_ : Int) (j_ : Int))), oR kstr 9 zE Ar15 cr15 ((List.range c).map (fun (j_ : Nat) => lastT a0.Cells (i : Int) (j_ : Int)))]) (a0.Widths.length - (0 : Nat)) ⟨(0 : Nat), none, 0, (by rw [← hs18] <;> rfl), (by omega), rfl, hS.fin [1, 2, 3, 0] (by decide) rfl⟩ ?_
   rintro m_ f_ w16 ⟨c, Ar15, cr15, rfl, hI1_0, rfl, hS⟩
   have hp19 := hS.cap 3 rfl
   have hlhp19 := hp19.le
   have hmhp19 := hp19.mx
   refine C_seq <| C_seq <| C_region <| wv rfl rfl rfl (R_move rfl rfl) <| wv rfl rfl rfl (R_fld rfl rfl fld30_1) <| wv rfl rfl rfl (R_load1 rfl rfl agg26 ((hS.bx 0 rfl).cell rfl)) <| wv rfl rfl rfl (R_len rfl rfl Tryz.underlying26) <| wv rfl rfl rfl (R_bin rfl rfl rfl rfl rfl) ?_
   refine W_nil <| E_then <| C_ite rfl (fun hC2 => ?_) (fun hC2 => ?_)
   ·have hC2p : (c : Int) < (a0.Widths.length : Int) := by simpa using hC2
    refine C_skip <| E_then (C_fr [(1, .pointer (some ⟨b2, 0, none⟩)), (4, .slice Ar8 ((List.range i).map (fun (r_ : Nat) => (List.range a0.Widths.length).map fun (j_ : Nat) => lastT a0.Cells (r_ : Int) (j_ : Int))).length cr8), (5, .int .i64 (i : Int)), (6, .slice Ar15 ((List.range c).map (fun (j_ : Nat) => lastT a0.Cells (i : Int) (j_ : Int))).length cr15), (7, .int .i64 (c : Int))] rfl ?_)
    refine C_seq <| C_block <| C_seq <| C_region <| wv rfl rfl rfl (R_assign rfl rfl) ?_
    refine W_nil <| E_then <| C_seq <| C_seq <| C_region <| wv rfl rfl rfl (R_assign rfl rfl) ?_
    refine W_nil <| E_then <| C_block ?_
    have hs21 : [] = lastT (a0.Cells.take (0 : Nat)) (i : Int) (c : Int) := by rfl
    refine C_fr [(1, .pointer (some ⟨b2, 0, none⟩)), (4, .slice Ar8 ((List.range i).map (fun (r_ : Nat) => (List.range a0.Widths.length).map fun (j_ : Nat) => lastT a0.Cells (r_ : Int) (j_ : Int))).length cr8), (5, .int .i64 (i : Int)), (6, .slice Ar15 ((List.range c).map (fun (j_ : Nat) => lastT a0.Cells (i : Int) (j_ : Int))).length cr15), (7, .int .i64 (c : Int)), (8, vstr []), (9, .int .i64 0)] rfl ?_
    refine C_loop (fun m_ f_ w_ => ∃ (k : Nat), f_ = [(1, .pointer (some ⟨b2, 0, none⟩)), (4, .slice Ar8 ((List.range i).map (fun (r_ : Nat) => (List.range a0.Widths.length).map fun (j_ : Nat) => lastT a0.Cells (r_ : Int) (j_ : Int))).length cr8), (5, .int .i64 (i : Int)), (6, .slice Ar15 ((List.range c).map (fun (j_ : Nat) => lastT a0.Cells (i : Int) (j_ : Int))).length cr15), (7, .int .i64 (c : Int)), (8, vstr (lastT (a0.Cells.take k) (i : Int) (c : Int))), (9, .int .i64 (k : Int))] ∧ k ≤ a0.Cells.length ∧ m_ = a0.Cells.length - k ∧ Sp (FF []) w z w_ [bR b2 30 [.int .i64 a0.Right, .slice Aa0_Widths a0.Widths.length ca0_Widths, .slice Aa0_Heights a0.Heights.length ca0_Heights, .slice Aa0_Cells a0.Cells.length ca0_Cells, .slice Aa0_Merges a0.Merges.length ca0_Merges], zR z9, oR (kslice kstr) 43 z9 Ar8 cr8 ((List.range i).map (fun (r_ : Nat) => (List.range a0.Widths.length).map fun (j_ : Nat) => lastT a0.Cells (r_ : Int) (j_ : Int))), oR kstr 9 zE Ar15 cr15 ((List.range c).map (fun (j_ : Nat) => lastT a0.Cells (i : Int) (j_ : Int)))]) (a0.Cells.length - (0 : Nat)) ⟨(0 : Nat), (by rw [← hs21] <;> rfl), (by omega), rfl, hS.fin [0, 1, 2, 3] (by decide) rfl⟩ ?_
    rintro m_ f_ w20 ⟨k, rfl, hI2_0, rfl, hS⟩
    refine C_seq <| C_seq <| C_region <| wv rfl rfl rfl (R_move rfl rfl) <| wv rfl rfl rfl (R_fld rfl rfl fld30_3) <| wv rfl rfl rfl (R_load1 rfl rfl agg27 ((hS.bx 0 rfl).cell rfl)) <| wv rfl rfl rfl (R_len rfl rfl Tryz.underlying27) <| wv rfl rfl rfl (R_bin rfl rfl rfl rfl rfl) ?_
    refine W_nil <| E_then <| C_ite rfl (fun hC3 => ?_) (fun hC3 => ?_)
    ·have hC3p : (k : Int) < (a0.Cells.length : Int) := by simpa using hC3
     refine C_skip <| E_then (C_fr [(1, .pointer (some ⟨b2, 0, none⟩)), (4, .slice Ar8 ((List.range i).map (fun (r_ : Nat) => (List.range a0.Widths.length).map fun (j_ : Nat) => lastT a0.Cells (r_ : Int) (j_ : Int))).length cr8), (5, .int .i64 (i : Int)), (6, .slice Ar15 ((List.range c).map (fun (j_ : Nat) => lastT a0.Cells (i : Int) (j_ : Int))).length cr15), (7, .int .i64 (c : Int)), (8, vstr (lastT (a0.Cells.take k) (i : Int) (c : Int))), (9, .int .i64 (k : Int))] rfl ?_)
     refine C_seq <| C_block <| C_seq <| C_region <| wv rfl rfl rfl (R_fld rfl rfl fld30_3) <| wv rfl rfl rfl (R_load1 rfl rfl agg27 ((hS.bx 0 rfl).cell rfl)) <| wv rfl rfl rfl (R_move rfl rfl) ?_
     obtain ⟨q22, csq22, hAq22, rfl, hkq22⟩ := hra0_Cells.at_ (default : TCell) (i := (k : Int)) (by omega) (by omega)
     have hkq22 : ∀ (j_ : Nat) (u_ : Value), ([.int .i64 (a0.Cells.getD k (default : TCell)).Row, .int .i64 (a0.Cells.getD k (default : TCell)).Col, vstr (a0.Cells.getD k (default : TCell)).Text, .int .i64 (a0.Cells.getD k (default : TCell)).Style.Align, .int .i64 (a0.Cells.getD k (default : TCell)).Style.Wrap, .int .i64 (a0.Cells.getD k (default : TCell)).Style.Dir] : List Value)[j_]? = some u_ → cz z (q22.add (k * 6 + j_)) = some u_ := hkq22
     refine wv rfl rfl rfl (R_idx rfl rfl hAq22 rfl Tryz.underlying27 size58 (by omega) (by omega)) <| wv rfl rfl rfl (R_fld rfl rfl fld58_0) <| wv rfl rfl rfl (R_load1 rfl rfl agg3 (cell_add (hS.sub.cell (hkq22 0 _ rfl)))) <| wv rfl rfl rfl (R_move rfl rfl) <| wv rfl rfl rfl (R_bin rfl rfl rfl rfl rfl) <| wv rfl rfl rfl (R_move rfl rfl) <| wg rfl rfl (Gd.on rfl rfl rfl) (fun hB => R_fld rfl rfl fld30_3) <| wg rfl rfl (Gd.on rfl rfl rfl) (fun hB => Runs.at_ (i := 43) (gl rfl hB) (R_load1 rfl rfl agg27 ((hS.bx 0 rfl).cell rfl))) <| wg rfl rfl (Gd.on rfl rfl rfl) (fun hB => R_move rfl rfl) <| wg (v := .pointer (Aa0_Cells.map (fun q_ => q_.add (k * 6)))) rfl rfl (Gd.on rfl rfl rfl) (fun hB => by have hB0_ : (a0.Cells.getD k (default : TCell)).Row = (i : Int) := (by simpa using (hB)); obtain ⟨q23, csq23, hAq23, rfl, hkq23⟩ := hra0_Cells.at_ (default : TCell) (i := (k : Int)) (by omega) (by omega); have hkq23 : ∀ (j_ : Nat) (u_ : Value), ([.int .i64 (a0.Cells.getD k (default : TCell)).Row, .int .i64 (a0.Cells.getD k (default : TCell)).Col, vstr (a0.Cells.getD k (default : TCell)).Text, .int .i64 (a0.Cells.getD k (default : TCell)).Style.Align, .int .i64 (a0.Cells.getD k (default : TCell)).Style.Wrap, .int .i64 (a0.Cells.getD k (default : TCell)).Style.Dir] : List Value)[j_]? = some u_ → cz z (q23.add (k * 6 + j_)) = some u_ := hkq23; have e_ : Aa0_Cells.map (fun q_ => q_.add (k * 6)) = some (q23.add (k * 6)) := (by rw [hAq23]; rfl); rw [e_]; exact Runs.at_ (i := 45) (gl rfl hB) (Runs.at_ (i := 44) (gl rfl hB) (R_idx (iv := (k : Int)) rfl rfl hAq23 rfl Tryz.underlying27 size58 (by omega) (by omega)))) <| wg (v := .pointer (Aa0_Cells.map (fun q_ => (q_.add (k * 6)).add 1))) rfl rfl (Gd.on rfl rfl rfl) (fun hB => by have hB0_ : (a0.Cells.getD k (default : TCell)).Row = (i : Int) := (by simpa using (hB)); obtain ⟨q24, csq24, hAq24, rfl, hkq24⟩ := hra0_Cells.at_ (default : TCell) (i := (k : Int)) (by omega) (by omega); have hkq24 : ∀ (j_ : Nat) (u_ : Value), ([.int .i64 (a0.Cells.getD k (default : TCell)).Row, .int .i64 (a0.Cells.getD k (default : TCell)).Col, vstr (a0.Cells.getD k (default : TCell)).Text, .int .i64 (a0.Cells.getD k (default : TCell)).Style.Align, .int .i64 (a0.Cells.getD k (default : TCell)).Style.Wrap, .int .i64 (a0.Cells.getD k (default : TCell)).Style.Dir] : List Value)[j_]? = some u_ → cz z (q24.add (k * 6 + j_)) = some u_ := hkq24; have e_ : Aa0_Cells.map (fun q_ => (q_.add (k * 6)).add 1) = some ((q24.add (k * 6)).add 1) := (by rw [hAq24]; rfl); rw [e_]; exact Runs.at_ (i := 46) (((gl rfl hB)).trans (by rw [hAq24]; rfl)) (R_fld rfl rfl fld58_1)) <| wg rfl rfl (Gd.on rfl rfl rfl) (fun hB => by have hB0_ : (a0.Cells.getD k (default : TCell)).Row = (i : Int) := (by simpa using (hB)); obtain ⟨q25, csq25, hAq25, rfl, hkq25⟩ := hra0_Cells.at_ (default : TCell) (i := (k : Int)) (by omega) (by omega); have hkq25 : ∀ (j_ : Nat) (u_ : Value), ([.int .i64 (a0.Cells.getD k (default : TCell)).Row, .int .i64 (a0.Cells.getD k (default : TCell)).Col, vstr (a0.Cells.getD k (default : TCell)).Text, .int .i64 (a0.Cells.getD k (default : TCell)).Style.Align, .int .i64 (a0.Cells.getD k (default : TCell)).Style.Wrap, .int .i64 (a0.Cells.getD k (default : TCell)).Style.Dir] : List Value)[j_]? = some u_ → cz z (q25.add (k * 6 + j_)) = some u_ := hkq25; exact Runs.at_ (i := 47) (((gl rfl hB)).trans (by rw [hAq25]; rfl)) (R_load1 rfl rfl agg3 (cell_add (hS.sub.cell (hkq25 1 _ rfl))))) ?_
     refine wg rfl rfl (Gd.on rfl rfl rfl) (fun hB => R_move rfl rfl) <| wg rfl rfl (Gd.on rfl rfl rfl) (fun hB => Runs.at_ (i := 49) (gl rfl hB) (Runs.at_ (i := 48) (gl rfl hB) (R_bin rfl rfl rfl rfl rfl))) <| wv rfl rfl rfl (R_pick_and rfl rfl rfl rfl) ?_
     refine W_nil <| E_then (C_fr [(1, .pointer (some ⟨b2, 0, none⟩)), (4, .slice Ar8 ((List.range i).map (fun (r_ : Nat) => (List.range a0.Widths.length).map fun (j_ : Nat) => lastT a0.Cells (r_ : Int) (j_ : Int))).length cr8), (5, .int .i64 (i : Int)), (6, .slice Ar15 ((List.range c).map (fun (j_ : Nat) => lastT a0.Cells (i : Int) (j_ : Int))).length cr15), (7, .int .i64 (c : Int)), (8, vstr (lastT (a0.Cells.take k) (i : Int) (c : Int))), (9, .int .i64 (k : Int)), (51, .bool (((a0.Cells.getD k (default : TCell)).Row == (i : Int)) && ((a0.Cells.getD k (default : TCell)).Col == (c : Int))))] rfl ?_)
     refine C_ite rfl (fun hC4 => ?_) (fun hC4 => ?_)
     ·have hC4p : ((a0.Cells.getD k (default : TCell)).Row = (i : Int) ∧ (a0.Cells.getD k (default : TCell)).Col = (c : Int)) := by simpa using hC4
      refine C_region <| wv rfl rfl rfl (R_fld rfl rfl fld30_3) <| wv rfl rfl rfl (R_load1 rfl rfl agg27 ((hS.bx 0 rfl).cell rfl)) <| wv rfl rfl rfl (R_move rfl rfl) ?_
      obtain ⟨q26, csq26, hAq26, rfl, hkq26⟩ := hra0_Cells.at_ (default : TCell) (i := (k : Int)) (by omega) (by omega)
      have hkq26 : ∀ (j_ : Nat) (u_ : Value), ([.int .i64 (a0.Cells.getD k (default : TCell)).Row, .int .i64 (a0.Cells.getD k (default : TCell)).Col, vstr (a0.Cells.getD k (default : TCell)).Text, .int .i64 (a0.Cells.getD k (default : TCell)).Style.Align, .int .i64 (a0.Cells.getD k (default : TCell)).Style.Wrap, .int .i64 (a0.Cells.getD k (default : TCell)).Style.Dir] : List Value)[j_]? = some u_ → cz z (q26.add (k * 6 + j_)) = some u_ := hkq26
      refine wv rfl rfl rfl (R_idx rfl rfl hAq26 rfl Tryz.underlying27 size58 (by omega) (by omega)) <| wv rfl rfl rfl (R_fld rfl rfl fld58_2) <| wv rfl rfl rfl (R_load1 rfl rfl agg9 (cell_add (hS.sub.cell (hkq26 2 _ rfl)))) <| wv rfl rfl rfl (R_assign rfl rfl) ?_
      refine W_nil <| E_block_normal <| E_then (C_fr [(1, .pointer (some ⟨b2, 0, none⟩)), (4, .slice Ar8 ((List.range i).map (fun (r_ : Nat) => (List.range a0.Widths.length).map fun (j_ : Nat) => lastT a0.Cells (r_ : Int) (j_ : Int))).length cr8), (5, .int .i64 (i : Int)), (6, .slice Ar15 ((List.range c).map (fun (j_ : Nat) => lastT a0.Cells (i : Int) (j_ : Int))).length cr15), (7, .int .i64 (c : Int)), (8, vstr (a0.Cells.getD k (default : TCell)).Text), (9, .int .i64 (k : Int))] rfl ?_)
      refine C_region <| wv rfl rfl rfl (R_move rfl rfl) <| wv rfl rfl rfl (R_add64 rfl rfl rfl (by omega) (by omega)) <| wv rfl rfl rfl (R_assign rfl rfl) ?_
      refine W_nil ?_
      have hs27 : (a0.Cells.getD k (default : TCell)).Text = lastT (a0.Cells.take (k + 1 : Nat)) (i : Int) (c : Int) := by rw [lastT_next (by omega)]; exact (if_pos (by assumption)).symm
      refine E_round [1, 4, 5, 6, 7, 8, 9] ?_ ⟨(k + 1 : Nat), (by rw [← hs27] <;> rfl), (by omega), rfl, hS.fin [0, 1, 2, 3] (by decide) rfl⟩
      omega
     ·have hC4p : ¬ (((a0.Cells.getD k (default : TCell)).Row = (i : Int) ∧ (a0.Cells.getD k (default : TCell)).Col = (c : Int))) := by simpa using hC4
      refine C_skip <| E_block_normal <| E_then <| C_region <| wv rfl rfl rfl (R_move rfl rfl) <| wv rfl rfl rfl (R_add64 rfl rfl rfl (by omega) (by omega)) <| wv rfl rfl rfl (R_assign rfl rfl) ?_
      refine W_nil ?_
      have hs28 : lastT (a0.Cells.take k) (i : Int) (c : Int) = lastT (a0.Cells.take (k + 1 : Nat)) (i : Int) (c : Int) := by rw [lastT_next (by omega)]; exact (if_neg (by assumption)).symm
      refine E_round [1, 4, 5, 6, 7, 8, 9] ?_ ⟨(k + 1 : Nat), (by rw [← hs28] <;> rfl), (by omega), rfl, hS.fin [0, 1, 2, 3] (by decide) rfl⟩
      omega
    ·have hC3p : ¬ ((k : Int) < (a0.Cells.length : Int)) := by simpa using hC3
     refine C_exit <| E_then_exit <| E_then_exit <| E_block_hit ?_
     refine E_then (C_fr [(1, .pointer (some ⟨b2, 0, none⟩)), (4, .slice Ar8 ((List.range i).map (fun (r_ : Nat) => (List.range a0.Widths.length).map fun (j_ : Nat) => lastT a0.Cells (r_ : Int) (j_ : Int))).length cr8), (5, .int .i64 (i : Int)), (6, .slice Ar15 ((List.range c).map (fun (j_ : Nat) => lastT a0.Cells (i : Int) (j_ : Int))).length cr15), (7, .int .i64 (c : Int)), (8, vstr (lastT (a0.Cells.take k) (i : Int) (c : Int)))] rfl ?_)
     refine C_region <| wv rfl rfl rfl (R_move rfl rfl) <| wv rfl rfl rfl (R_move rfl rfl) ?_
     refine W_cons rfl (by decide) (S_row (d := kstr) (q := zE) hS ([lastT (a0.Cells.take k) (i : Int) (c : Int)] : List St) rfl (R_buildSlice (ps := [(0, (.tmp 59))]) (vs := [vstr (lastT (a0.Cells.take k) (i : Int) (c : Int))]) (w' := w20.alloc (.cells [vstr (lastT (a0.Cells.take k) (i : Int) (c : Int))].toArray 9)) (r := .slice (some ⟨w20.heap.size, 0, none⟩) 1 1) rfl rfl rfl (by kernel_rfl)) (by simp [Reps, flat, kstr]) rfl (by decide) (fun g30 w29 hS => ?_))
     refine W_cons rfl (by decide) (S_append hS 4 rfl rfl rfl elem43 rfl rfl (hS.sow 0 rfl (fun _ _ h => h)) (by (try simp only [List.length_append, List.length_map, List.length_range, List.length_cons, List.length_nil, maxLen]); omega) (by (try simp only [List.length_append, List.length_map, List.length_range, List.length_cons, List.length_nil, maxLen]); omega) (fun Ar32 cr32 w31 hS => ?_))
     have hp33 := hS.cap 4 rfl
     have hlhp33 := hp33.le
     have hmhp33 := hp33.mx
     refine wv rfl rfl rfl (R_assign rfl rfl) ?_
     refine W_nil <| E_block_normal <| E_then (C_fr [(1, .pointer (some ⟨b2, 0, none⟩)), (4, .slice Ar8 ((List.range i).map (fun (r_ : Nat) => (List.range a0.Widths.length).map fun (j_ : Nat) => lastT a0.Cells (r_ : Int) (j_ : Int))).length cr8), (5, .int .i64 (i : Int)), (6, .slice Ar32 (((List.range c).map (fun (j_ : Nat) => lastT a0.Cells (i : Int) (j_ : Int))) ++ ([lastT (a0.Cells.take k) (i : Int) (c : Int)] : List St)).length cr32), (7, .int .i64 (c : Int))] rfl ?_)
     refine C_region <| wv rfl rfl rfl (R_move rfl rfl) <| wv rfl rfl rfl (R_add64 rfl rfl rfl (by omega) (by omega)) <| wv rfl rfl rfl (R_assign rfl rfl) ?_
     refine W_nil ?_
     have hs34 : ((List.range c).map (fun (j_ : Nat) => lastT a0.Cells (i : Int) (j_ : Int))) ++ ([lastT (a0.Cells.take k) (i : Int) (c : Int)] : List St) = (List.range (c + 1 : Nat)).map (fun (j_ : Nat) => lastT a0.Cells (i : Int) (j_ : Int)) := by rw [row_next, List.take_of_length_le (by omega)]
     have hS := hS.re 4 rfl hs34
     refine E_round [1, 4, 5, 6, 7] ?_ ⟨(c + 1 : Nat), Ar32, cr32, (by rw [← hs34] <;> rfl), (by omega), rfl, hS.fin [1, 2, 3, 4] (by decide) rfl⟩
     omega
   ·have hC2p : ¬ ((c : Int) < (a0.Widths.length : Int)) := by simpa using hC2
    refine C_exit <| E_then_exit <| E_then_exit <| E_block_hit ?_
    refine E_then (C_fr [(1, .pointer (some ⟨b2, 0, none⟩)), (4, .slice Ar8 ((List.range i).map (fun (r_ : Nat) => (List.range a0.Widths.length).map fun (j_ : Nat) => lastT a0.Cells (r_ : Int) (j_ : Int))).length cr8), (5, .int .i64 (i : Int)), (6, .slice Ar15 ((List.range c).map (fun (j_ : Nat) => lastT a0.Cells (i : Int) (j_ : Int))).length cr15)] rfl ?_)
    refine C_region <| wv rfl rfl rfl (R_move rfl rfl) <| wv rfl rfl rfl (R_move rfl rfl) ?_
    have hcz37 := hS.cap 3 rfl
    obtain ⟨z37, hlez37, hrz37, hS⟩ := hS.fz 3 1 rfl rfl (by decide) (zle_E _)
    have hS := hS.lift 2 rfl hlez37
    refine W_cons rfl (by decide) (S_row (d := (kslice kstr)) (q := z37) hS ([(List.range c).map (fun (j_ : Nat) => lastT a0.Cells (i : Int) (j_ : Int))] : List (List St)) rfl (R_buildSlice (ps := [(0, (.tmp 63))]) (vs := [.slice Ar15 ((List.range c).map (fun (j_ : Nat) => lastT a0.Cells (i : Int) (j_ : Int))).length cr15]) (w' := w16.alloc (.cells [.slice Ar15 ((List.range c).map (fun (j_ : Nat) => lastT a0.Cells (i : Int) (j_ : Int))).length cr15].toArray 43)) (r := .slice (some ⟨w16.heap.size, 0, none⟩) 1 1) rfl rfl rfl (by kernel_rfl)) ⟨_, _, rfl, ⟨_, _, rfl, hcz37, hrz37⟩, rfl⟩ rfl (by decide) (fun g36 w35 hS => ?_))
    refine W_cons rfl (by decide) (S_append hS 3 rfl rfl rfl elem22 rfl rfl (hS.sow 0 rfl (fun _ _ h => h)) (by (try simp only [List.length_append, List.length_map, List.length_range, List.length_cons, List.length_nil, maxLen]); omega) (by (try simp only [List.length_append, List.length_map, List.length_range, List.length_cons, List.length_nil, maxLen]); omega) (fun Ar39 cr39 w38 hS => ?_))
    have hp40 := hS.cap 3 rfl
    have hlhp40 := hp40.le
    have hmhp40 := hp40.mx
    refine wv rfl rfl rfl (R_assign rfl rfl) ?_
    refine W_nil <| E_block_normal <| E_then (C_fr [(1, .pointer (some ⟨b2, 0, none⟩)), (4, .slice Ar39 (((List.range i).map (fun (r_ : Nat) => (List.range a0.Widths.length).map fun (j_ : Nat) => lastT a0.Cells (r_ : Int) (j_ : Int))) ++ ([(List.range c).map (fun (j_ : Nat) => lastT a0.Cells (i : Int) (j_ : Int))] : List (List St))).length cr39), (5, .int .i64 (i : Int))] rfl ?_)
    refine C_region <| wv rfl rfl rfl (R_move rfl rfl) <| wv rfl rfl rfl (R_add64 rfl rfl rfl (by omega) (by omega)) <| wv rfl rfl rfl (R_assign rfl rfl) ?_
    refine W_nil ?_
    have hs41 : ((List.range i).map (fun (r_ : Nat) => (List.range a0.Widths.length).map fun (j_ : Nat) => lastT a0.Cells (r_ : Int) (j_ : Int))) ++ ([(List.range c).map (fun (j_ : Nat) => lastT a0.Cells (i : Int) (j_ : Int))] : List (List St)) = (List.range (i + 1 : Nat)).map (fun (r_ : Nat) => (List.range a0.Widths.length).map fun (j_ : Nat) => lastT a0.Cells (r_ : Int) (j_ : Int)) := by rw [row_next, show c = a0.Widths.length from by omega]
    have hS := hS.re 3 rfl hs41
    refine E_round [1, 4, 5] ?_ ⟨(i + 1 : Nat), Ar39, cr39, z37, (by rw [← hs41] <;> rfl), (by omega), rfl, hS.fin [2, 1, 3] (by decide) rfl⟩
    omega
  ·have hC1p : ¬ ((i : Int) < (a0.Heights.length : Int)) := by simpa using hC1
   refine C_exit <| E_then_exit <| E_then_exit <| E_block_hit ?_
   refine E_then (C_fr [(4, .slice Ar8 ((List.range i).map (fun (r_ : Nat) => (List.range a0.Widths.length).map fun (j_ : Nat) => lastT a0.Cells (r_ : Int) (j_ : Int))).length cr8)] rfl ?_)
   refine C_seq <| C_region <| wv rfl rfl rfl (R_move rfl rfl) <| wv rfl rfl rfl (R_assign rfl rfl) <| wv rfl rfl rfl (R_assign rfl rfl) ?_
   refine W_nil <| E_then <| C_ret ?_
   have hq42 : (List.range i).map (fun (r_ : Nat) => (List.range a0.Widths.length).map fun (j_ : Nat) => lastT a0.Cells (r_ : Int) (j_ : Int)) = (rexportS a0).1 := by (rw [rexp_ok (by omega), show i = a0.Heights.length from by omega]; rfl)
   have hS := hS.re 2 rfl hq42
   refine E_ret2 rfl rfl rfl ?_
   exact ⟨Ar8, cr8, z9, Lret2 (Lslice hq42) (Lint (show 0 = (rexportS a0).2 by (rw [rexp_ok (by omega)]; done))), hS.fin [1, 2] (by decide) rfl⟩
theorem rwrite_calls (a0 : TSheet) (Aa0_Widths : Option Addr) (ca0_Widths : Nat) (Aa0_Heights : Option Addr) (ca0_Heights : Nat) (Aa0_Cells : Option Addr) (ca0_Cells : Nat) (Aa0_Merges : Option Addr) (ca0_Merges : Nat) (z : Z) (w : World) (hI : In z w []) (hra0_Widths : Rd (kint .i64) z Aa0_Widths a0.Widths) (hca0_Widths : Cap Aa0_Widths a0.Widths.length ca0_Widths) (hra0_Heights : Rd (kint .i64) z Aa0_Heights a0.Heights) (hca0_Heights : Cap Aa0_Heights a0.Heights.length ca0_Heights) (hra0_Cells : Rd kdTCell z Aa0_Cells a0.Cells) (hca0_Cells : Cap Aa0_Cells a0.Cells.length ca0_Cells) (hra0_Merges : Rd kdTRect z Aa0_Merges a0.Merges) (hca0_Merges : Cap Aa0_Merges a0.Merges.length ca0_Merges) (p0 : SheetI a0) :
    Calls Tryz.prog 20 #[.agg #[.int .i64 a0.Right, .slice Aa0_Widths a0.Widths.length ca0_Widths, .slice Aa0_Heights a0.Heights.length ca0_Heights, .slice Aa0_Cells a0.Cells.length ca0_Cells, .slice Aa0_Merges a0.Merges.length ca0_Merges]] w fun e w' => e = .returned (.tuple #[vstr (rwriteS a0).1, .int .i64 (rwriteS a0).2]) ∧ Sp (FF []) w z w' [] := by
 have hla0_Widths := hca0_Widths.le
 have hma0_Widths := hca0_Widths.mx
 have hla0_Heights := hca0_Heights.le
 have hma0_Heights := hca0_Heights.mx
 have hla0_Cells := hca0_Cells.le
 have hma0_Cells := hca0_Cells.mx
 have hla0_Merges := hca0_Merges.le
 have hma0_Merges := hca0_Merges.mx
 have hS := hI.sp
 have hwb := @rwrite_bad a0
 have hwo := @rwrite_ok a0
 refine Calls_of (vs := [.agg #[.int .i64 a0.Right, .slice Aa0_Widths a0.Widths.length ca0_Widths, .slice Aa0_Heights a0.Heights.length ca0_Heights, .slice Aa0_Cells a0.Cells.length ca0_Cells, .slice Aa0_Merges a0.Merges.length ca0_Merges]]) (N := 18) Tryz.func20 rfl rfl (Nat.le_of_ble_eq_true rfl) ?_
 refine C_seq <| C_region <| W_cons rfl (by decide) (S_box hS rfl (R_box (cs := [.int .i64 a0.Right, .slice Aa0_Widths a0.Widths.length ca0_Widths, .slice Aa0_Heights a0.Heights.length ca0_Heights, .slice Aa0_Cells a0.Cells.length ca0_Cells, .slice Aa0_Merges a0.Merges.length ca0_Merges]) rfl rfl rfl) (fun b2 w1 hS => ?_))
 refine wv rfl rfl rfl (R_assign rfl rfl) <| wv rfl rfl rfl (R_assign rfl rfl) ?_
 refine W_nil <| E_then <| C_seq <| C_region <| wv rfl rfl rfl (R_loadN (cs := [.int .i64 a0.Right, .slice Aa0_Widths a0.Widths.length ca0_Widths, .slice Aa0_Heights a0.Heights.length ca0_Heights, .slice Aa0_Cells a0.Cells.length ca0_Cells, .slice Aa0_Merges a0.Merges.length ca0_Merges]) rfl rfl agg30 size30 rfl (boxcells (hS.bx 0 rfl) 0 rfl)) ?_
 refine W_cons rfl (by decide) (Sv_call rfl rfl rfl ent18 ?_)
 refine (rexport_calls a0 Aa0_Widths ca0_Widths Aa0_Heights ca0_Heights Aa0_Cells ca0_Cells Aa0_Merges ca0_Merges _ _ hS.out0 (hra0_Widths.mono (hS.zl [])) hca0_Widths (hra0_Heights.mono (hS.zl [])) hca0_Heights (hra0_Cells.mono (hS.zl [])) hca0_Cells (hra0_Merges.mono (hS.zl [])) hca0_Merges (by exact p0)).mono ?_
 rintro e_ w3 ⟨AR0_4, cR0_4, qR0_4, rfl, hS_⟩
 refine ⟨_, rfl, ?_⟩
 have hS := hS.call0 hS_
 have hp5 := hS.cap 1 rfl
 have hlhp5 := hp5.le
 have hmhp5 := hp5.mx
 refine wv rfl rfl rfl (R_move rfl rfl) <| wv rfl rfl rfl (R_extract rfl rfl rfl) <| wv rfl rfl rfl (R_extract rfl rfl rfl) <| wv rfl rfl rfl (R_assign rfl rfl) <| wv rfl rfl rfl (R_assign rfl rfl) ?_
 refine W_nil <| E_then (C_fr [(4, .slice AR0_4 (rexportS a0).1.length cR0_4), (5, .int .i64 (rexportS a0).2)] rfl ?_)
 refine C_seq <| C_seq <| C_region <| wv rfl rfl rfl (R_move rfl rfl) <| wv rfl rfl rfl (R_bin rfl rfl rfl rfl rfl) ?_
 refine W_nil <| E_then <| C_ite rfl (fun hC0 => ?_) (fun hC0 => ?_)
 ·have hC0p : ¬ (rexportS a0).2 = 0 := by simpa using hC0
  refine C_seq <| C_region <| wv rfl rfl rfl (R_move rfl rfl) <| wv rfl rfl rfl (R_assign rfl rfl) <| wv rfl rfl rfl (R_assign rfl rfl) ?_
  refine W_nil <| E_then (C_fr [(2, vstr []), (3, .int .i64 (rexportS a0).2)] rfl ?_)
  refine C_ret <| E_then_ret <| E_ret2 rfl rfl rfl ?_
  exact ⟨Lret2 (Lstr (show [] = (rwriteS a0).1 by (rw [hwb (by assumption)]; done))) (Lint (show (rexportS a0).2 = (rwriteS a0).2 by (rw [hwb (by assumption)]; done))), hS.fin [] (by decide) rfl⟩
 ·have hC0p : (rexportS a0).2 = 0 := by simpa using hC0
  refine C_skip <| E_then <| C_seq <| C_region <| wv rfl rfl rfl (R_move rfl rfl) ?_
  refine W_cons rfl (by decide) (Sv_call rfl rfl rfl ent36 ?_)
  refine (rqprint_calls (rexportS a0).1 AR0_4 cR0_4 _ _ hS.out0 (hS.ow [] 1 rfl rfl (hS.zq [] 0 rfl rfl)) (hS.cap 1 rfl) (by rw [← export_law p0]; exact fit_exp p0)).mono ?_
  rintro e_ w6 ⟨rfl, hS_⟩
  refine ⟨_, rfl, ?_⟩
  have hS := hS.call0 hS_
  refine wv rfl rfl rfl (R_extract rfl rfl rfl) <| wv rfl rfl rfl (R_extract rfl rfl rfl) <| wv rfl rfl rfl (R_assign rfl rfl) <| wv rfl rfl rfl (R_assign rfl rfl) ?_
  refine W_nil <| E_then (C_fr [(2, vstr (printQ (rexportS a0).1).1), (3, .int .i64 (printQ (rexportS a0).1).2)] rfl ?_)
  refine C_ret <| E_ret2 rfl rfl rfl ?_
  exact ⟨Lret2 (Lstr (show (printQ (rexportS a0).1).1 = (rwriteS a0).1 by (rw [hwo (by omega)]; done))) (Lint (show (printQ (rexportS a0).1).2 = (rwriteS a0).2 by (rw [hwo (by omega)]; done))), hS.fin [] (by decide) rfl⟩
end Go.Proofs.YtaljccgfnmfhnaaGreatDoorG
set_option linter.all false
namespace Go.Proofs.YtaljccgfnmfhnaaGreatDoorG
open Go Go.RowKit
def Rect (l : Rows) (W : Nat) : Prop := 0 < l.length ∧ l.length ≤ 24 ∧ 0 < W ∧ W ≤ 16 ∧ ∀ r ∈ l, r.length = W ∧ ∀ t ∈ r, t.length ≤ 1024
theorem chk_rect {l : Rows} (h : checkS l = 0) : ∃ W, Rect l W := by
  obtain ⟨h0, h1, _, _⟩ := chk_fit h
  unfold checkS at h
  by_cases h2 : widthS l = 0
  · rw [if_pos h2] at h; cases h
  rw [if_neg h2] at h
  by_cases h3 : hasF (fun r => (r.length : Int) != widthS l) l = true
  · rw [if_pos h3] at h; cases h
  rw [if_neg h3] at h
  by_cases h4 : hasF (fun t => decide ((t.length : Int) > 1024)) l.flatten = true
  · rw [if_pos h4] at h; cases h
  rw [if_neg h4] at h
  by_cases h5 : (l.length : Int) > 24
  · rw [if_pos h5] at h; cases h
  rw [if_neg h5] at h
  by_cases h6 : widthS l > 16
  · rw [if_pos h6] at h; cases h
  have hn := widthS_nonneg l
  refine ⟨(widthS l).toNat, h0, h1, by omega, by omega, fun r hr => ⟨?_, fun t ht => ?_⟩⟩
  · have := hasF_false (by simpa using h3) r hr
    simp only [bne_eq_false_iff_eq] at this
    omega
  · have := hasF_false (by simpa using h4) t (List.mem_flatten.2 ⟨r, hr, ht⟩)
    simp only [decide_eq_false_iff_not] at this
    omega
theorem rect_row {l : Rows} {W i : Nat} (h : Rect l W) (hi : i < l.length) : (l.getD i []).length = W := (h.2.2.2.2 _ (getD_mem [] hi)).1
theorem mem_cellsR {i : Nat} {c : TCell} : ∀ {r : List St} {j : Nat}, c ∈ cellsR i r j → ∃ b, b < r.length ∧ c = mkC i (j + b) (r.getD b []) ∧ ¬ r.getD b [] = []
  | [], j, h => by simp [cellsR] at h
  | t :: r, j, h => by
    rw [cellsR] at h
    have key : c ∈ cellsR i r (j + 1) → ∃ b, b < (t :: r).length ∧ c = mkC i (j + b) ((t :: r).getD b []) ∧ ¬ (t :: r).getD b [] = [] := fun h => by
      obtain ⟨b, h1, h2, h3⟩ := mem_cellsR h
      exact ⟨b + 1, by simp; omega, by rw [h2]; simp [Nat.add_assoc, Nat.add_comm 1 b], by simpa using h3⟩
    split at h
    · exact key h
    · rename_i ht
      rcases List.mem_cons.1 h with rfl | h
      · exact ⟨0, by simp, rfl, by simpa using ht⟩
      · exact key h
theorem mem_cellsA {c : TCell} : ∀ {l : Rows} {i : Nat}, c ∈ cellsA l i → ∃ a b, a < l.length ∧ b < (l.getD a []).length ∧ c = mkC (i + a) b ((l.getD a []).getD b []) ∧ ¬ (l.getD a []).getD b [] = []
  | [], i, h => by simp [cellsA] at h
  | r :: l, i, h => by
    rw [cellsA] at h
    rcases List.mem_append.1 h with h | h
    · obtain ⟨b, h1, h2, h3⟩ := mem_cellsR h
      exact ⟨0, b, by simp, h1, by rw [h2]; simp, h3⟩
    · obtain ⟨a, b, h1, h2, h3, h4⟩ := mem_cellsA h
      exact ⟨a + 1, b, by simp; omega, by simpa using h2, by rw [h3]; simp [Nat.add_assoc, Nat.add_comm 1 a], by simpa using h4⟩
def LTc (c d : TCell) : Prop := c.Row < d.Row ∨ c.Row = d.Row ∧ c.Col < d.Col
theorem pair_cellsR (i : Nat) : ∀ (r : List St) (j : Nat), (cellsR i r j).Pairwise LTc
  | [], _ => List.Pairwise.nil
  | t :: r, j => by
    rw [cellsR]
    split
    · exact pair_cellsR i r (j + 1)
    · refine List.pairwise_cons.2 ⟨fun d hd => ?_, pair_cellsR i r (j + 1)⟩
      obtain ⟨b, _, rfl, _⟩ := mem_cellsR hd
      refine .inr ⟨rfl, ?_⟩
      simp only [mkC]
      omega
theorem pair_cellsA : ∀ (l : Rows) (i : Nat), (cellsA l i).Pairwise LTc
  | [], _ => List.Pairwise.nil
  | r :: l, i => by
    rw [cellsA]
    refine List.pairwise_append.2 ⟨pair_cellsR i r 0, pair_cellsA l (i + 1), fun c hc d hd => ?_⟩
    obtain ⟨b, _, rfl, _⟩ := mem_cellsR hc
    obtain ⟨a', b', _, _, rfl, _⟩ := mem_cellsA hd
    refine .inl ?_
    simp only [mkC]
    omega
theorem I64.small {x : Int} (h0 : 0 ≤ x) (h1 : x ≤ 100000) : I64 x := ⟨by omega, by omega⟩
theorem make_I {l : Rows} {W : Nat} (hl : Rect l W) (w h : Int) : SheetI (makeS l w h) := by
  obtain ⟨h0, h1, h2, h3, h4⟩ := hl
  refine ⟨fun r hr => (by cases hr), fun c hc => ?_, ?_, ?_⟩
  · obtain ⟨a, b, ha, hb, rfl, _⟩ := mem_cellsA hc
    have := (h4 _ (getD_mem [] ha)).1
    exact ⟨I64.small (by simp only [mkC]; omega) (by simp only [mkC]; omega), I64.small (by simp only [mkC]; omega) (by simp only [mkC]; omega)⟩
  · simp only [makeS, List.length_replicate]; omega
  · have := (h4 _ (getD_mem [] h0)).1
    simp only [makeS, List.length_replicate]; omega
theorem make_ok {l : Rows} {W : Nat} (hl : Rect l W) {w h : Int} (hw : 1 ≤ w ∧ w ≤ 60) (hh : 1 ≤ h ∧ h ≤ 12) : rcheckSh (makeS l w h) = 0 := by
  have hr0 := rect_row hl hl.1
  obtain ⟨h0, h1, h2, h3, h4⟩ := hl
  have hcell : ∀ c ∈ cellsS l, 0 ≤ c.Row ∧ c.Row < l.length ∧ 0 ≤ c.Col ∧ c.Col < W ∧ ¬ c.Text = [] ∧ c.Text.length ≤ 1024 ∧ c.Style = ⟨0, 0, 0⟩ := fun c hc => by
    obtain ⟨a, b, ha, hb, rfl, ht⟩ := mem_cellsA hc
    have h5 := h4 _ (getD_mem [] ha)
    have h6 := h5.2 _ (getD_mem [] hb)
    have h7 := h5.1
    refine ⟨?_, ?_, ?_, ?_, ht, h6, rfl⟩ <;> simp only [mkC] <;> omega
  have e1 : rlimitsS (makeS l w h) = true := by
    unfold rlimitsS
    simp only [makeS, List.length_replicate, List.length_nil]
    rw [if_neg (by omega)]
    simp only [Bool.and_eq_true, Bool.not_eq_true', List.any_eq_false, List.mem_replicate, decide_eq_true_eq]
    refine ⟨⟨?_, ?_⟩, ?_⟩
    · rintro x ⟨_, rfl⟩; omega
    · rintro x ⟨_, rfl⟩; omega
    · intro c hc; have := hcell c hc; omega
  have e2 : rorderS (makeS l w h) = true := by
    have e0 : ¬ ((¬ (makeS l w h).Right = 0 ∧ ¬ (makeS l w h).Right = 1) ∨ ((makeS l w h).Widths.length : Int) = 0 ∨ ((makeS l w h).Heights.length : Int) = 0) := by
      rw [show (makeS l w h).Widths.length = W from (List.length_replicate ..).trans hr0, show (makeS l w h).Heights.length = l.length from List.length_replicate ..]
      rintro (⟨h5, _⟩ | h5 | h5)
      · exact h5 rfl
      · omega
      · omega
    rw [rorderS, if_neg e0]
    simp only [makeS, Bool.and_eq_true, Bool.not_eq_true', List.any_eq_false, List.mem_replicate, decide_eq_true_eq, List.mem_range]
    refine ⟨⟨⟨?_, ?_⟩, ?_⟩, ?_⟩
    · rintro x ⟨_, rfl⟩; omega
    · rintro x ⟨_, rfl⟩; omega
    · intro i hi
      have h5 := hcell _ (getD_mem default hi)
      unfold rcellS
      obtain ⟨_, _, _, _, h6, _, h7⟩ := h5
      simp only [h7, h6, Bool.or_eq_true, Bool.and_eq_true, decide_eq_true_eq, Bool.not_eq_true']
      rintro ((⟨h8, h9⟩ | h9) | h9)
      · have hp := pair_cellsA l 0
        have hi2 : i < (cellsA l 0).length := hi
        have hi3 : i - 1 < (cellsA l 0).length := by omega
        have h10 := List.pairwise_iff_getElem.1 hp (i - 1) i hi3 hi2 (by omega)
        have g1 : (cellsS l).getD (i - 1) default = (cellsA l 0)[i - 1] := by simp [cellsS, List.getD, hi3]
        have g2 : (cellsS l).getD i default = (cellsA l 0)[i] := by simp [cellsS, List.getD, hi2]
        rw [g1, g2] at h9
        unfold raheadS at h9
        simp only [Bool.or_eq_false_iff, Bool.and_eq_false_iff, decide_eq_false_iff_not] at h9
        unfold LTc at h10
        omega
      · revert h9; decide
      · exact absurd h9.1.1.1 (by simp)
    · intro i hi; exact absurd hi (Nat.not_lt_zero _)
  have e3 : (makeS l w h).Cells.any (rfarS (makeS l w h)) = false := by
    rw [List.any_eq_false]
    intro c hc
    have h5 := hcell c hc
    unfold rfarS
    simp only [makeS, List.length_replicate, Bool.or_eq_true, decide_eq_true_eq, hr0]
    omega
  have e4 : (makeS l w h).Cells.any (runderS (makeS l w h)) = false := by
    rw [List.any_eq_false]
    intro c hc
    simp [runderS, raroundS, makeS]
  unfold rcheckSh
  rw [if_neg (by rw [e1]; decide), if_neg (by rw [e2]; decide), if_neg (by rw [e3]; decide), if_neg (by simp [makeS]), if_neg (by simp [makeS]), if_neg (by rw [e4]; decide)]
theorem make_chk {l : Rows} {W : Nat} (hl : Rect l W) {w h : Int} (hw : 1 ≤ w ∧ w ≤ 60) (hh : 1 ≤ h ∧ h ≤ 12) : checkSh (makeS l w h) = 0 := (check_law (make_I hl w h)).trans (make_ok hl hw hh)
theorem fold_R (R C i : Nat) : ∀ (r : List St) (j : Nat) (t : St), (cellsR i r j).foldl (fun t x => if x.Row = (R : Int) ∧ x.Col = (C : Int) then x.Text else t) t = if i = R ∧ j ≤ C ∧ C - j < r.length ∧ ¬ r.getD (C - j) [] = [] then r.getD (C - j) [] else t
  | [], j, t => by simp [cellsR]
  | x :: r, j, t => by
    have hn : ∀ t', (if i = R ∧ j + 1 ≤ C ∧ C - (j + 1) < r.length ∧ ¬ r.getD (C - (j + 1)) [] = [] then r.getD (C - (j + 1)) [] else t') = if j + 1 ≤ C then (if i = R ∧ j ≤ C ∧ C - j < (x :: r).length ∧ ¬ (x :: r).getD (C - j) [] = [] then (x :: r).getD (C - j) [] else t') else t' := fun t' => by
      by_cases h : j + 1 ≤ C
      · obtain ⟨d, rfl⟩ : ∃ d, C = j + 1 + d := ⟨C - (j + 1), by omega⟩
        rw [if_pos h, show j + 1 + d - (j + 1) = d from by omega, show j + 1 + d - j = d + 1 from by omega]
        have e : (x :: r).getD (d + 1) [] = r.getD d [] := by simp
        rw [e]
        by_cases h2 : i = R ∧ d < r.length ∧ ¬ r.getD d [] = []
        · rw [if_pos ⟨h2.1, h, h2.2⟩, if_pos ⟨h2.1, by omega, by simp; omega, h2.2.2⟩]
        · rw [if_neg (fun h3 => h2 ⟨h3.1, h3.2.2⟩), if_neg (fun h3 => h2 ⟨h3.1, by have := h3.2.2.1; simp at this; omega, h3.2.2.2⟩)]
      · rw [if_neg h, if_neg (fun h2 => h h2.2.1)]
    rw [cellsR]
    by_cases hx : x = []
    · rw [if_pos hx, fold_R R C i r (j + 1) t, hn]
      by_cases h : j + 1 ≤ C
      · rw [if_pos h]
      · rw [if_neg h]
        refine (if_neg ?_).symm
        rintro ⟨_, h2, _, h4⟩
        have : C - j = 0 := by omega
        rw [this] at h4
        exact h4 (by simpa using hx)
    · have hm : (if (mkC i j x).Row = (R : Int) ∧ (mkC i j x).Col = (C : Int) then (mkC i j x).Text else t) = (if (i : Int) = (R : Int) ∧ (j : Int) = (C : Int) then x else t) := rfl
      rw [if_neg hx, List.foldl_cons, fold_R R C i r (j + 1), hn]
      rw [hm]
      by_cases h : j + 1 ≤ C
      · rw [if_pos h, if_neg (fun h2 : (i : Int) = R ∧ (j : Int) = C => by omega)]
      · rw [if_neg h]
        by_cases h2 : i = R ∧ j = C
        · obtain ⟨rfl, rfl⟩ := h2
          rw [if_pos (c := (i : Int) = (i : Int) ∧ (j : Int) = (j : Int)) ⟨rfl, rfl⟩]
          simp [hx]
        · rw [if_neg (fun h3 : (i : Int) = R ∧ (j : Int) = C => h2 (by omega)), if_neg (fun h3 => h2 (by omega))]
theorem fold_A (R C : Nat) : ∀ (l : Rows) (i : Nat) (t : St), (cellsA l i).foldl (fun t x => if x.Row = (R : Int) ∧ x.Col = (C : Int) then x.Text else t) t = if i ≤ R ∧ R - i < l.length ∧ C < (l.getD (R - i) []).length ∧ ¬ (l.getD (R - i) []).getD C [] = [] then (l.getD (R - i) []).getD C [] else t
  | [], i, t => by simp [cellsA]
  | r :: l, i, t => by
    rw [cellsA, List.foldl_append, fold_A R C l (i + 1), fold_R R C i r 0 t, Nat.sub_zero]
    by_cases h : i + 1 ≤ R
    · obtain ⟨d, rfl⟩ : ∃ d, R = i + 1 + d := ⟨R - (i + 1), by omega⟩
      rw [show i + 1 + d - (i + 1) = d from by omega, show i + 1 + d - i = d + 1 from by omega]
      have e : (r :: l).getD (d + 1) [] = l.getD d [] := by simp
      rw [e, if_neg (c := i = i + 1 + d ∧ _) (fun h2 => by omega)]
      by_cases h2 : d < l.length ∧ C < (l.getD d []).length ∧ ¬ (l.getD d []).getD C [] = []
      · rw [if_pos ⟨h, h2⟩, if_pos ⟨by omega, by simp; omega, h2.2⟩]
      · rw [if_neg (fun h3 => h2 h3.2), if_neg (fun h3 => h2 ⟨by have := h3.2.1; simp at this; omega, h3.2.2⟩)]
    · rw [if_neg (c := i + 1 ≤ R ∧ _) (fun h2 => h h2.1)]
      by_cases h2 : i = R
      · subst h2
        rw [Nat.sub_self]
        have e : (r :: l).getD 0 [] = r := rfl
        rw [e]
        by_cases h3 : C < r.length ∧ ¬ r.getD C [] = []
        · rw [if_pos ⟨rfl, Nat.zero_le _, h3⟩, if_pos ⟨Nat.le_refl _, by simp, h3⟩]
        · rw [if_neg (fun h4 => h3 h4.2.2), if_neg (fun h4 => h3 h4.2.2)]
      · rw [if_neg (fun h3 => h2 h3.1), if_neg (fun h3 => by omega)]
theorem make_exp {l : Rows} {W : Nat} (hl : Rect l W) {w h : Int} (hw : 1 ≤ w ∧ w ≤ 60) (hh : 1 ≤ h ∧ h ≤ 12) : exportS (makeS l w h) = (l, 0) := by
  have hc := make_chk hl hw hh
  have hI := make_I hl w h
  rw [exp_ok hc, exp_eq (good_of hI hc)]
  have e1 : (makeS l w h).Heights.length = l.length := List.length_replicate ..
  have e2 : (makeS l w h).Widths.length = W := (List.length_replicate ..).trans (rect_row hl hl.1)
  refine Prod.ext ?_ rfl
  refine ext_rows (H := l.length) (W := W) ((rexp_len _).trans e1) rfl (fun i hi => (rexp_row (by omega)).trans e2) (fun i hi => rect_row hl hi) (fun i j hi hj => ?_)
  show fldR (rexpS (makeS l w h)) i j = fldR l i j
  rw [rexp_fld (by omega) (by omega)]
  show (cellsA l 0).foldl _ [] = _
  rw [fold_A, Nat.sub_zero]
  by_cases h3 : (l.getD i []).getD j [] = []
  · rw [if_neg (fun h4 => h4.2.2.2 h3)]; exact h3.symm
  · rw [if_pos ⟨Nat.zero_le _, hi, by rw [rect_row hl hi]; exact hj, h3⟩]; rfl
theorem fault_ok {l : Rows} {w h : Int} (h0 : faultS l w h = 0) : (1 ≤ w ∧ w ≤ 60) ∧ (1 ≤ h ∧ h ≤ 12) ∧ checkS l = 0 := by
  unfold faultS at h0
  split at h0
  · cases h0
  · split at h0
    · cases h0
    · omega
theorem fillW_make {l : Rows} {w h : Int} (h0 : faultS l w h = 0) : fillW zSh l w h = makeS l w h := by rw [fillW, if_pos h0]; rfl
theorem fillW_zero {l : Rows} {w h : Int} (h0 : ¬ faultS l w h = 0) : fillW zSh l w h = zSh := if_neg h0
structure Imp (l : Rows) (w h : Int) : Prop where
  eq : fillW zSh (fillS l) w h = makeS (fillS l) w h
  I : SheetI (fillW zSh (fillS l) w h)
  chk : checkSh (fillW zSh (fillS l) w h) = 0
  exp : exportS (fillW zSh (fillS l) w h) = (fillS l, 0)
theorem imp_of {l : Rows} {w h : Int} (h0 : faultS (fillS l) w h = 0) : Imp l w h := by
  obtain ⟨h1, h2, h3⟩ := fault_ok h0
  obtain ⟨W, hl⟩ := chk_rect h3
  have e := fillW_make h0
  exact ⟨e, by rw [e]; exact make_I hl w h, by rw [e]; exact make_chk hl h1 h2, by rw [e]; exact make_exp hl h1 h2⟩
theorem zSh_I : SheetI zSh := ⟨fun _ h => (by cases h), fun _ h => (by cases h), by decide, by decide⟩
theorem imp_I (l : Rows) (w h : Int) : SheetI (fillW zSh (fillS l) w h) := by
  by_cases h0 : faultS (fillS l) w h = 0
  · exact (imp_of h0).I
  · rw [fillW_zero h0]; exact zSh_I
end Go.Proofs.YtaljccgfnmfhnaaGreatDoorG
set_option linter.all false
set_option maxHeartbeats 8000000
set_option maxRecDepth 100000
namespace Go.Proofs.YtaljccgfnmfhnaaGreatDoorG
open Go Go.RowKit
theorem ent11 (args : Array Value) (w : World) : (callFunc 11 args).run Tryz.prog w = .ok (.enter 11 args) w := enters Tryz.func11 (by kernel_rfl) rfl args w
theorem ent21 (args : Array Value) (w : World) : (callFunc 21 args).run Tryz.prog w = .ok (.enter 21 args) w := enters Tryz.func21 (by kernel_rfl) rfl args w
theorem ent19 (args : Array Value) (w : World) : (callFunc 19 args).run Tryz.prog w = .ok (.enter 19 args) w := enters Tryz.func19 (by kernel_rfl) rfl args w
theorem ent14 (args : Array Value) (w : World) : (callFunc 14 args).run Tryz.prog w = .ok (.enter 14 args) w := enters Tryz.func14 (by kernel_rfl) rfl args w
theorem ent9 (args : Array Value) (w : World) : (callFunc 9 args).run Tryz.prog w = .ok (.enter 9 args) w := enters Tryz.func9 (by kernel_rfl) rfl args w
theorem ent13 (args : Array Value) (w : World) : (callFunc 13 args).run Tryz.prog w = .ok (.enter 13 args) w := enters Tryz.func13 (by kernel_rfl) rfl args w
theorem ent15 (args : Array Value) (w : World) : (callFunc 15 args).run Tryz.prog w = .ok (.enter 15 args) w := enters Tryz.func15 (by kernel_rfl) rfl args w
theorem ent16 (args : Array Value) (w : World) : (callFunc 16 args).run Tryz.prog w = .ok (.enter 16 args) w := enters Tryz.func16 (by kernel_rfl) rfl args w
theorem ent20 (args : Array Value) (w : World) : (callFunc 20 args).run Tryz.prog w = .ok (.enter 20 args) w := enters Tryz.func20 (by kernel_rfl) rfl args w
theorem zero9 (w : World) : (zeroValue 9).run Tryz.prog w = .ok (vstr []) w := by kernel_rfl
end Go.Proofs.YtaljccgfnmfhnaaGreatDoorG
set_option linter.all false
set_option maxHeartbeats 8000000
set_option maxRecDepth 100000
namespace Go.Proofs.YtaljccgfnmfhnaaGreatDoorG
open Go Go.RowKit
theorem pawake_calls  (z : Z) (w : World) (hI : In z w [])  (p0 : HM z) (p1 : ET z) :
    Calls Tryz.prog 9 #[] w fun e w' => e = .returned (.bool true) ∧ Sp (FF []) w z w' [] := by
 have hS := hI.sp
 refine Calls_of (vs := []) (N := 83) Tryz.func9 rfl rfl (Nat.le_of_ble_eq_true rfl) ?_
 refine C_seq <| C_region <| wv rfl rfl rfl (R_assign rfl rfl) ?_
 refine W_nil <| E_then <| C_seq <| C_region <| W_cons rfl (by decide) (S_row (d := kstr) (q := zE) hS ([[97], [98]] : List St) rfl (R_buildSlice (ps := [(0, (.const (.string { data := #[97] }))), (1, (.const (.string { data := #[98] })))]) (vs := [vstr [97], vstr [98]]) (w' := w.alloc (.cells [vstr [97], vstr [98]].toArray 9)) (r := .slice (some ⟨w.heap.size, 0, none⟩) 2 2) rfl rfl rfl (by kernel_rfl)) (by simp [Reps, flat, kstr]) rfl (by decide) (fun g2 w1 hS => ?_))
 refine W_cons rfl (by decide) (S_row (d := kstr) (q := zE) hS ([[99]] : List St) rfl (R_buildSlice (ps := [(0, (.const (.string { data := #[99] })))]) (vs := [vstr [99]]) (w' := w1.alloc (.cells [vstr [99]].toArray 9)) (r := .slice (some ⟨w1.heap.size, 0, none⟩) 1 1) rfl rfl rfl (by kernel_rfl)) (by simp [Reps, flat, kstr]) rfl (by decide) (fun g4 w3 hS => ?_))
 obtain ⟨z7, hS⟩ := hS.famx
 have hcz8 := hS.cap 2 rfl
 obtain ⟨z8, hlez8, hrz8, hS⟩ := hS.fz 2 0 rfl rfl (by decide) (zle_E _)
 have hcz9 := hS.cap 1 rfl
 obtain ⟨z9, hlez9, hrz9, hS⟩ := hS.fz 1 0 rfl rfl (by decide) (zle_E _)
 have hrz8 := hrz8.mono hlez9
 refine W_cons rfl (by decide) (S_row (d := (kslice kstr)) (q := z9) hS ([([[97], [98]] : List St), ([[99]] : List St)] : List (List St)) rfl (R_buildSlice (ps := [(0, (.tmp 11)), (1, (.tmp 12))]) (vs := [.slice (some ⟨g2, 0, none⟩) ([[97], [98]] : List St).length 2, .slice (some ⟨g4, 0, none⟩) ([[99]] : List St).length 1]) (w' := w3.alloc (.cells [.slice (some ⟨g2, 0, none⟩) ([[97], [98]] : List St).length 2, .slice (some ⟨g4, 0, none⟩) ([[99]] : List St).length 1].toArray 43)) (r := .slice (some ⟨w3.heap.size, 0, none⟩) 2 2) rfl rfl rfl (by kernel_rfl)) ⟨_, _, rfl, ⟨_, _, rfl, hcz8, hrz8⟩, ⟨_, _, rfl, ⟨_, _, rfl, hcz9, hrz9⟩, rfl⟩⟩ rfl (by decide) (fun g6 w5 hS => ?_))
 refine W_cons rfl (by decide) (Sv_call rfl rfl rfl ent11 ?_)
 refine (import_calls ([([[97], [98]] : List St), ([[99]] : List St)] : List (List St)) (some ⟨g6, 0, none⟩) 2 5 1 _ _ hS.out0 (hS.ow [] 0 rfl rfl (hS.zq [] 1 rfl rfl)) (hS.cap 0 rfl) (by exact ⟨by decide +kernel, by decide +kernel⟩) (by exact ET.mono (by assumption) (hS.zl []))).mono ?_
 rintro e_ w10 ⟨AR0_11_Widths, cR0_11_Widths, AR0_11_Heights, cR0_11_Heights, AR0_11_Cells, cR0_11_Cells, AR0_11_Merges, cR0_11_Merges, rfl, hS_⟩
 refine ⟨_, rfl, ?_⟩
 have hS := hS.call0 hS_
 have hp12 := hS.cap 0 rfl
 have hlhp12 := hp12.le
 have hmhp12 := hp12.mx
 have hp13 := hS.cap 1 rfl
 have hlhp13 := hp13.le
 have hmhp13 := hp13.mx
 have hp14 := hS.cap 2 rfl
 have hlhp14 := hp14.le
 have hmhp14 := hp14.mx
 have hp15 := hS.cap 3 rfl
 have hlhp15 := hp15.le
 have hmhp15 := hp15.mx
 refine wv rfl rfl rfl (R_move rfl rfl) <| wv rfl rfl rfl (R_extract rfl rfl rfl) <| wv rfl rfl rfl (R_extract rfl rfl rfl) ?_
 refine W_cons rfl (by decide) (S_box hS rfl (R_alloc rfl alloc30) (fun b17 w16 hS => ?_))
 refine W_cons0 rfl (S_store hS 0 rfl rfl rfl rfl rfl size30 (one_cons rfl (one_cons rfl (one_cons rfl (one_cons rfl (one_cons rfl one_nil))))) (Nat.le_of_ble_eq_true rfl) (fun w18 hS => ?_))
 have hS : Sp (FF []) w z w18 [bR b17 30 [.int .i64 (fillW zSh (fillS ([([[97], [98]] : List St), ([[99]] : List St)] : List (List St))) 5 1).Right, .slice AR0_11_Widths (fillW zSh (fillS ([([[97], [98]] : List St), ([[99]] : List St)] : List (List St))) 5 1).Widths.length cR0_11_Widths, .slice AR0_11_Heights (fillW zSh (fillS ([([[97], [98]] : List St), ([[99]] : List St)] : List (List St))) 5 1).Heights.length cR0_11_Heights, .slice AR0_11_Cells (fillW zSh (fillS ([([[97], [98]] : List St), ([[99]] : List St)] : List (List St))) 5 1).Cells.length cR0_11_Cells, .slice AR0_11_Merges (fillW zSh (fillS ([([[97], [98]] : List St), ([[99]] : List St)] : List (List St))) 5 1).Merges.length cR0_11_Merges], oR (kint .i64) 3 zE AR0_11_Widths cR0_11_Widths (fillW zSh (fillS ([([[97], [98]] : List St), ([[99]] : List St)] : List (List St))) 5 1).Widths, oR (kint .i64) 3 zE AR0_11_Heights cR0_11_Heights (fillW zSh (fillS ([([[97], [98]] : List St), ([[99]] : List St)] : List (List St))) 5 1).Heights, oR kdTCell 58 zE AR0_11_Cells cR0_11_Cells (fillW zSh (fillS ([([[97], [98]] : List St), ([[99]] : List St)] : List (List St))) 5 1).Cells, oR kdTRect 76 zE AR0_11_Merges cR0_11_Merges (fillW zSh (fillS ([([[97], [98]] : List St), ([[99]] : List St)] : List (List St))) 5 1).Merges, oR (kslice kstr) 43 z9 (some ⟨g6, 0, none⟩) 2 ([([[97], [98]] : List St), ([[99]] : List St)] : List (List St)), zR z9] := hS
 refine wv rfl rfl rfl (R_assign rfl rfl) ?_
 refine W_nil <| E_then (C_fr [(1, .pointer (some ⟨b17, 0, none⟩)), (2, .int .i64 (faultS (fillS ([([[97], [98]] : List St), ([[99]] : List St)] : List (List St))) 5 1))] rfl ?_)
 refine C_seq <| C_region <| wv rfl rfl rfl (R_loadN (cs := [.int .i64 (fillW zSh (fillS ([([[97], [98]] : List St), ([[99]] : List St)] : List (List St))) 5 1).Right, .slice AR0_11_Widths (fillW zSh (fillS ([([[97], [98]] : List St), ([[99]] : List St)] : List (List St))) 5 1).Widths.length cR0_11_Widths, .slice AR0_11_Heights (fillW zSh (fillS ([([[97], [98]] : List St), ([[99]] : List St)] : List (List St))) 5 1).Heights.length cR0_11_Heights, .slice AR0_11_Cells (fillW zSh (fillS ([([[97], [98]] : List St), ([[99]] : List St)] : List (List St))) 5 1).Cells.length cR0_11_Cells, .slice AR0_11_Merges (fillW zSh (fillS ([([[97], [98]] : List St), ([[99]] : List St)] : List (List St))) 5 1).Merges.length cR0_11_Merges]) rfl rfl agg30 size30 rfl (boxcells (hS.bx 0 rfl) 0 rfl)) ?_
 refine W_cons rfl (by decide) (Sv_call rfl rfl rfl ent17 ?_)
 refine (export_calls (fillW zSh (fillS ([([[97], [98]] : List St), ([[99]] : List St)] : List (List St))) 5 1) AR0_11_Widths cR0_11_Widths AR0_11_Heights cR0_11_Heights AR0_11_Cells cR0_11_Cells AR0_11_Merges cR0_11_Merges _ _ hS.out0 (hS.ow [] 1 rfl rfl (zle_E _)) (hS.cap 1 rfl) (hS.ow [] 2 rfl rfl (zle_E _)) (hS.cap 2 rfl) (hS.ow [] 3 rfl rfl (zle_E _)) (hS.cap 3 rfl) (hS.ow [] 4 rfl rfl (zle_E _)) (hS.cap 4 rfl) (by exact imp_I _ _ _)).mono ?_
 rintro e_ w19 ⟨AR0_20, cR0_20, qR0_20, rfl, hS_⟩
 refine ⟨_, rfl, ?_⟩
 have hS := hS.call0 hS_
 have hp21 := hS.cap 1 rfl
 have hlhp21 := hp21.le
 have hmhp21 := hp21.mx
 refine wv rfl rfl rfl (R_move rfl rfl) <| wv rfl rfl rfl (R_extract rfl rfl rfl) <| wv rfl rfl rfl (R_extract rfl rfl rfl) <| wv rfl rfl rfl (R_assign rfl rfl) <| wv rfl rfl rfl (R_assign rfl rfl) ?_
 refine W_nil <| E_then (C_fr [(1, .pointer (some ⟨b17, 0, none⟩)), (2, .int .i64 (faultS (fillS ([([[97], [98]] : List St), ([[99]] : List St)] : List (List St))) 5 1)), (3, .slice AR0_20 (exportS (fillW zSh (fillS ([([[97], [98]] : List St), ([[99]] : List St)] : List (List St))) 5 1)).1.length cR0_20), (4, .int .i64 (exportS (fillW zSh (fillS ([([[97], [98]] : List St), ([[99]] : List St)] : List (List St))) 5 1)).2)] rfl ?_)
 refine C_seq <| C_region <| W_cons rfl (by decide) (Sv_call rfl rfl rfl ent21 ?_)
 refine (read_calls [97, 13, 10, 34, 98] 5 1 _ _ hS.out0  (by (intro _; exact recB_parse (.inl (by decide)))) (by exact ET.mono (by assumption) (hS.zl []))).mono ?_
 rintro e_ w22 ⟨AR0_23_Widths, cR0_23_Widths, AR0_23_Heights, cR0_23_Heights, AR0_23_Cells, cR0_23_Cells, AR0_23_Merges, cR0_23_Merges, rfl, hS_⟩
 refine ⟨_, rfl, ?_⟩
 have hS := hS.call0 hS_
 have hp24 := hS.cap 0 rfl
 have hlhp24 := hp24.le
 have hmhp24 := hp24.mx
 have hp25 := hS.cap 1 rfl
 have hlhp25 := hp25.le
 have hmhp25 := hp25.mx
 have hp26 := hS.cap 2 rfl
 have hlhp26 := hp26.le
 have hmhp26 := hp26.mx
 have hp27 := hS.cap 3 rfl
 have hlhp27 := hp27.le
 have hmhp27 := hp27.mx
 refine wv rfl rfl rfl (R_move rfl rfl) <| wv rfl rfl rfl (R_extract rfl rfl rfl) <| wv rfl rfl rfl (R_extract rfl rfl rfl) <| wv rfl rfl rfl (R_extract rfl rfl rfl) ?_
 refine W_cons rfl (by decide) (S_box hS rfl (R_alloc rfl alloc30) (fun b29 w28 hS => ?_))
 refine W_cons0 rfl (S_store hS 0 rfl rfl rfl rfl rfl size30 (one_cons rfl (one_cons rfl (one_cons rfl (one_cons rfl (one_cons rfl one_nil))))) (Nat.le_of_ble_eq_true rfl) (fun w30 hS => ?_))
 have hS : Sp (FF []) w z w30 [bR b29 30 [.int .i64 (readW zSh [97, 13, 10, 34, 98] 5 1).Right, .slice AR0_23_Widths (readW zSh [97, 13, 10, 34, 98] 5 1).Widths.length cR0_23_Widths, .slice AR0_23_Heights (readW zSh [97, 13, 10, 34, 98] 5 1).Heights.length cR0_23_Heights, .slice AR0_23_Cells (readW zSh [97, 13, 10, 34, 98] 5 1).Cells.length cR0_23_Cells, .slice AR0_23_Merges (readW zSh [97, 13, 10, 34, 98] 5 1).Merges.length cR0_23_Merges], oR (kint .i64) 3 zE AR0_23_Widths cR0_23_Widths (readW zSh [97, 13, 10, 34, 98] 5 1).Widths, oR (kint .i64) 3 zE AR0_23_Heights cR0_23_Heights (readW zSh [97, 13, 10, 34, 98] 5 1).Heights, oR kdTCell 58 zE AR0_23_Cells cR0_23_Cells (readW zSh [97, 13, 10, 34, 98] 5 1).Cells, oR kdTRect 76 zE AR0_23_Merges cR0_23_Merges (readW zSh [97, 13, 10, 34, 98] 5 1).Merges, zR qR0_20, oR (kslice kstr) 43 qR0_20 AR0_20 cR0_20 (exportS (fillW zSh (fillS ([([[97], [98]] : List St), ([[99]] : List St)] : List (List St))) 5 1)).1, bR b17 30 [.int .i64 (fillW zSh (fillS ([([[97], [98]] : List St), ([[99]] : List St)] : List (List St))) 5 1).Right, .slice AR0_11_Widths (fillW zSh (fillS ([([[97], [98]] : List St), ([[99]] : List St)] : List (List St))) 5 1).Widths.length cR0_11_Widths, .slice AR0_11_Heights (fillW zSh (fillS ([([[97], [98]] : List St), ([[99]] : List St)] : List (List St))) 5 1).Heights.length cR0_11_Heights, .slice AR0_11_Cells (fillW zSh (fillS ([([[97], [98]] : List St), ([[99]] : List St)] : List (List St))) 5 1).Cells.length cR0_11_Cells, .slice AR0_11_Merges (fillW zSh (fillS ([([[97], [98]] : List St), ([[99]] : List St)] : List (List St))) 5 1).Merges.length cR0_11_Merges], oR (kint .i64) 3 zE AR0_11_Widths cR0_11_Widths (fillW zSh (fillS ([([[97], [98]] : List St), ([[99]] : List St)] : List (List St))) 5 1).Widths, oR (kint .i64) 3 zE AR0_11_Heights cR0_11_Heights (fillW zSh (fillS ([([[97], [98]] : List St), ([[99]] : List St)] : List (List St))) 5 1).Heights, oR kdTCell 58 zE AR0_11_Cells cR0_11_Cells (fillW zSh (fillS ([([[97], [98]] : List St), ([[99]] : List St)] : List (List St))) 5 1).Cells, oR kdTRect 76 zE AR0_11_Merges cR0_11_Merges (fillW zSh (fillS ([([[97], [98]] : List St), ([[99]] : List St)] : List (List St))) 5 1).Merges, oR (kslice kstr) 43 z9 (some ⟨g6, 0, none⟩) 2 ([([[97], [98]] : List St), ([[99]] : List St)] : List (List St)), zR z9] := hS
 refine wv rfl rfl rfl (R_assign rfl rfl) <| wv rfl rfl rfl (R_assign rfl rfl) ?_
 refine W_nil <| E_then (C_fr [(1, .pointer (some ⟨b17, 0, none⟩)), (2, .int .i64 (faultS (fillS ([([[97], [98]] : List St), ([[99]] : List St)] : List (List St))) 5 1)), (3, .slice AR0_20 (exportS (fillW zSh (fillS ([([[97], [98]] : List St), ([[99]] : List St)] : List (List St))) 5 1)).1.length cR0_20), (4, .int .i64 (exportS (fillW zSh (fillS ([([[97], [98]] : List St), ([[99]] : List St)] : List (List St))) 5 1)).2), (6, .int .i64 (toldS (readE [97, 13, 10, 34, 98] 5 1)).2), (7, .int .i64 (toldS (readE [97, 13, 10, 34, 98] 5 1)).1)] rfl ?_)
 refine C_seq <| C_region <| W_cons rfl (by decide) (S_row (d := (kint .i64)) (q := zE) hS ([5, 5] : List Int) rfl (R_buildSlice (ps := [(0, (.const (.int .i64 5))), (1, (.const (.int .i64 5)))]) (vs := [.int .i64 5, .int .i64 5]) (w' := w30.alloc (.cells [.int .i64 5, .int .i64 5].toArray 3)) (r := .slice (some ⟨w30.heap.size, 0, none⟩) 2 2) rfl rfl rfl (by kernel_rfl)) (by simp [Reps, flat, kint]) rfl (by decide) (fun g32 w31 hS => ?_))
 refine W_cons rfl (by decide) (S_row (d := (kint .i64)) (q := zE) hS ([1] : List Int) rfl (R_buildSlice (ps := [(0, (.const (.int .i64 1)))]) (vs := [.int .i64 1]) (w' := w31.alloc (.cells [.int .i64 1].toArray 3)) (r := .slice (some ⟨w31.heap.size, 0, none⟩) 1 1) rfl rfl rfl (by kernel_rfl)) (by simp [Reps, flat, kint]) rfl (by decide) (fun g34 w33 hS => ?_))
 refine wv rfl rfl rfl (R_build (w' := w33) (ps := [(1, (.const (.int .i64 1))), (2, (.const (.string { data := #[120, 44, 121] })))]) (vs := [.int .i64 1, vstr [120, 44, 121]]) (r := .agg #[.int .i64 0, .int .i64 1, vstr [120, 44, 121], .int .i64 0, .int .i64 0, .int .i64 0]) rfl rfl rfl (by kernel_rfl)) ?_
 refine W_cons rfl (by decide) (S_row (d := kdTCell) (q := zE) hS ([(⟨0, 1, [120, 44, 121], (⟨0, 0, 0⟩ : TStyle)⟩ : TCell)] : List TCell) rfl (R_buildSlice (ps := [(0, (.tmp 30))]) (vs := [.agg #[.int .i64 0, .int .i64 1, vstr [120, 44, 121], .int .i64 0, .int .i64 0, .int .i64 0]]) (w' := w33.alloc (.cells [.int .i64 0, .int .i64 1, vstr [120, 44, 121], .int .i64 0, .int .i64 0, .int .i64 0].toArray 58)) (r := .slice (some ⟨w33.heap.size, 0, none⟩) 1 1) rfl rfl rfl (by kernel_rfl)) (by simp [Reps, flat, kdTCell]) rfl (by decide) (fun g36 w35 hS => ?_))
 refine wv rfl rfl rfl (R_build (w' := w35) (ps := [(1, (.tmp 28)), (2, (.tmp 29)), (3, (.tmp 31))]) (vs := [.slice (some ⟨g32, 0, none⟩) ([5, 5] : List Int).length 2, .slice (some ⟨g34, 0, none⟩) ([1] : List Int).length 1, .slice (some ⟨g36, 0, none⟩) ([(⟨0, 1, [120, 44, 121], (⟨0, 0, 0⟩ : TStyle)⟩ : TCell)] : List TCell).length 1]) (r := .agg #[.int .i64 0, .slice (some ⟨g32, 0, none⟩) ([5, 5] : List Int).length 2, .slice (some ⟨g34, 0, none⟩) ([1] : List Int).length 1, .slice (some ⟨g36, 0, none⟩) ([(⟨0, 1, [120, 44, 121], (⟨0, 0, 0⟩ : TStyle)⟩ : TCell)] : List TCell).length 1, .slice none 0 0]) rfl rfl rfl (by kernel_rfl)) ?_
 refine W_cons rfl (by decide) (Sv_call rfl rfl rfl ent19 ?_)
 refine (write_calls (⟨0, ([5, 5] : List Int), ([1] : List Int), ([(⟨0, 1, [120, 44, 121], (⟨0, 0, 0⟩ : TStyle)⟩ : TCell)] : List TCell), []⟩ : TSheet) (some ⟨g32, 0, none⟩) 2 (some ⟨g34, 0, none⟩) 1 (some ⟨g36, 0, none⟩) 1 none 0 _ _ hS.out0 (hS.ow [] 2 rfl rfl (zle_E _)) (hS.cap 2 rfl) (hS.ow [] 1 rfl rfl (zle_E _)) (hS.cap 1 rfl) (hS.ow [] 0 rfl rfl (zle_E _)) (hS.cap 0 rfl) (Rd.nil _ _ _) Cap.nil_ (by (refine ⟨by simp, by simp [I64], by decide, by decide⟩)) (by exact HM.mono (by assumption) (hS.zl []))).mono ?_
 rintro e_ w37 ⟨rfl, hS_⟩
 refine ⟨_, rfl, ?_⟩
 have hS := hS.call0 hS_
 refine wv rfl rfl rfl (R_move rfl rfl) <| wv rfl rfl rfl (R_extract rfl rfl rfl) <| wv rfl rfl rfl (R_extract rfl rfl rfl) <| wv rfl rfl rfl (R_assign rfl rfl) <| wv rfl rfl rfl (R_assign rfl rfl) ?_
 refine W_nil <| E_then (C_fr [(1, .pointer (some ⟨b17, 0, none⟩)), (2, .int .i64 (faultS (fillS ([([[97], [98]] : List St), ([[99]] : List St)] : List (List St))) 5 1)), (3, .slice AR0_20 (exportS (fillW zSh (fillS ([([[97], [98]] : List St), ([[99]] : List St)] : List (List St))) 5 1)).1.length cR0_20), (4, .int .i64 (exportS (fillW zSh (fillS ([([[97], [98]] : List St), ([[99]] : List St)] : List (List St))) 5 1)).2), (6, .int .i64 (toldS (readE [97, 13, 10, 34, 98] 5 1)).2), (7, .int .i64 (toldS (readE [97, 13, 10, 34, 98] 5 1)).1), (8, vstr (writeS (⟨0, ([5, 5] : List Int), ([1] : List Int), ([(⟨0, 1, [120, 44, 121], (⟨0, 0, 0⟩ : TStyle)⟩ : TCell)] : List TCell), []⟩ : TSheet)).1), (9, .int .i64 (writeS (⟨0, ([5, 5] : List Int), ([1] : List Int), ([(⟨0, 1, [120, 44, 121], (⟨0, 0, 0⟩ : TStyle)⟩ : TCell)] : List TCell), []⟩ : TSheet)).2)] rfl ?_)
 refine C_seq <| C_region <| wv rfl rfl rfl (R_move rfl rfl) <| wv rfl rfl rfl (R_bin rfl rfl rfl rfl rfl) <| wv rfl rfl rfl (R_move rfl rfl) ?_
 have hk39 : (((faultS (fillS ([([[97], [98]] : List St), ([[99]] : List St)] : List (List St))) 5 1) == 0)) = true := by decide +kernel
 have hk39p : (faultS (fillS ([([[97], [98]] : List St), ([[99]] : List St)] : List (List St))) 5 1) = 0 := by simpa using hk39
 refine W_cons rfl (by decide) (Sv_gt rfl rfl rfl hk39 (Sv_val rfl (R_fld rfl rfl fld30_1) ?_))
 refine W_cons rfl (by decide) (Sv_gt rfl rfl rfl hk39 (Sv_val rfl (R_load1 rfl rfl agg26 ((hS.bx 10 rfl).cell rfl)) ?_))
 refine W_cons rfl (by decide) (Sv_gt rfl rfl rfl hk39 (Sv_val rfl (R_len rfl rfl Tryz.underlying26) ?_))
 refine W_cons rfl (by decide) (Sv_gt rfl rfl rfl hk39 (Sv_val rfl (R_bin rfl rfl rfl rfl rfl) ?_))
 refine wv rfl rfl rfl (R_pick_t rfl rfl hk39 rfl) <| wv rfl rfl rfl (R_move rfl rfl) ?_
 have hk40 : ((((fillW zSh (fillS ([([[97], [98]] : List St), ([[99]] : List St)] : List (List St))) 5 1).Widths.length : Int) == 2)) = true := by decide +kernel
 have hk40p : ((fillW zSh (fillS ([([[97], [98]] : List St), ([[99]] : List St)] : List (List St))) 5 1).Widths.length : Int) = 2 := by simpa using hk40
 refine W_cons rfl (by decide) (Sv_gt rfl rfl rfl hk40 (Sv_val rfl (R_fld rfl rfl fld30_2) ?_))
 refine W_cons rfl (by decide) (Sv_gt rfl rfl rfl hk40 (Sv_val rfl (R_load1 rfl rfl agg26 ((hS.bx 10 rfl).cell rfl)) ?_))
 refine W_cons rfl (by decide) (Sv_gt rfl rfl rfl hk40 (Sv_val rfl (R_len rfl rfl Tryz.underlying26) ?_))
 refine W_cons rfl (by decide) (Sv_gt rfl rfl rfl hk40 (Sv_val rfl (R_bin rfl rfl rfl rfl rfl) ?_))
 refine wv rfl rfl rfl (R_pick_t rfl rfl hk40 rfl) <| wv rfl rfl rfl (R_move rfl rfl) ?_
 have hk41 : ((((fillW zSh (fillS ([([[97], [98]] : List St), ([[99]] : List St)] : List (List St))) 5 1).Heights.length : Int) == 2)) = true := by decide +kernel
 have hk41p : ((fillW zSh (fillS ([([[97], [98]] : List St), ([[99]] : List St)] : List (List St))) 5 1).Heights.length : Int) = 2 := by simpa using hk41
 refine W_cons rfl (by decide) (Sv_gt rfl rfl rfl hk41 (Sv_val rfl (R_fld rfl rfl fld30_3) ?_))
 refine W_cons rfl (by decide) (Sv_gt rfl rfl rfl hk41 (Sv_val rfl (R_load1 rfl rfl agg27 ((hS.bx 10 rfl).cell rfl)) ?_))
 refine W_cons rfl (by decide) (Sv_gt rfl rfl rfl hk41 (Sv_val rfl (R_len rfl rfl Tryz.underlying27) ?_))
 refine W_cons rfl (by decide) (Sv_gt rfl rfl rfl hk41 (Sv_val rfl (R_bin rfl rfl rfl rfl rfl) ?_))
 refine wv rfl rfl rfl (R_pick_t rfl rfl hk41 rfl) <| wv rfl rfl rfl (R_move rfl rfl) ?_
 have hk42 : ((((fillW zSh (fillS ([([[97], [98]] : List St), ([[99]] : List St)] : List (List St))) 5 1).Cells.length : Int) == 3)) = true := by decide +kernel
 have hk42p : ((fillW zSh (fillS ([([[97], [98]] : List St), ([[99]] : List St)] : List (List St))) 5 1).Cells.length : Int) = 3 := by simpa using hk42
 refine W_cons rfl (by decide) (Sv_gt rfl rfl rfl hk42 (Sv_val rfl (R_move rfl rfl) ?_))
 refine W_cons rfl (by decide) (Sv_gt rfl rfl rfl hk42 (Sv_val rfl (R_bin rfl rfl rfl rfl rfl) ?_))
 refine wv rfl rfl rfl (R_pick_t rfl rfl hk42 rfl) <| wv rfl rfl rfl (R_move rfl rfl) ?_
 have hk43 : (((exportS (fillW zSh (fillS ([([[97], [98]] : List St), ([[99]] : List St)] : List (List St))) 5 1)).2 == 0)) = true := by decide +kernel
 have hk43p : (exportS (fillW zSh (fillS ([([[97], [98]] : List St), ([[99]] : List St)] : List (List St))) 5 1)).2 = 0 := by simpa using hk43
 refine W_cons rfl (by decide) (Sv_gt rfl rfl rfl hk43 (Sv_val rfl (R_move rfl rfl) ?_))
 refine W_cons rfl (by decide) (Sv_gt rfl rfl rfl hk43 (S_row (d := kstr) (q := zE) hS ([[97], [98]] : List St) rfl (R_buildSlice (ps := [(0, (.const (.string { data := #[97] }))), (1, (.const (.string { data := #[98] })))]) (vs := [vstr [97], vstr [98]]) (w' := w37.alloc (.cells [vstr [97], vstr [98]].toArray 9)) (r := .slice (some ⟨w37.heap.size, 0, none⟩) 2 2) rfl rfl rfl (by kernel_rfl)) (by simp [Reps, flat, kstr]) rfl (by decide) (fun g45 w44 hS => ?_)))
 refine W_cons rfl (by decide) (Sv_gt rfl rfl rfl hk43 (S_row (d := kstr) (q := zE) hS ([[99], []] : List St) rfl (R_buildSlice (ps := [(0, (.const (.string { data := #[99] }))), (1, (.const (.string { data := #[] })))]) (vs := [vstr [99], vstr []]) (w' := w44.alloc (.cells [vstr [99], vstr []].toArray 9)) (r := .slice (some ⟨w44.heap.size, 0, none⟩) 2 2) rfl rfl rfl (by kernel_rfl)) (by simp [Reps, flat, kstr]) rfl (by decide) (fun g47 w46 hS => ?_)))
 obtain ⟨z50, hS⟩ := hS.famx
 have hcz51 := hS.cap 2 rfl
 obtain ⟨z51, hlez51, hrz51, hS⟩ := hS.fz 2 0 rfl rfl (by decide) (zle_E _)
 have hcz52 := hS.cap 1 rfl
 obtain ⟨z52, hlez52, hrz52, hS⟩ := hS.fz 1 0 rfl rfl (by decide) (zle_E _)
 have hrz51 := hrz51.mono hlez52
 refine W_cons rfl (by decide) (Sv_gt rfl rfl rfl hk43 (S_row (d := (kslice kstr)) (q := z52) hS ([([[97], [98]] : List St), ([[99], []] : List St)] : List (List St)) rfl (R_buildSlice (ps := [(0, (.tmp 62)), (1, (.tmp 63))]) (vs := [.slice (some ⟨g45, 0, none⟩) ([[97], [98]] : List St).length 2, .slice (some ⟨g47, 0, none⟩) ([[99], []] : List St).length 2]) (w' := w46.alloc (.cells [.slice (some ⟨g45, 0, none⟩) ([[97], [98]] : List St).length 2, .slice (some ⟨g47, 0, none⟩) ([[99], []] : List St).length 2].toArray 43)) (r := .slice (some ⟨w46.heap.size, 0, none⟩) 2 2) rfl rfl rfl (by kernel_rfl)) ⟨_, _, rfl, ⟨_, _, rfl, hcz51, hrz51⟩, ⟨_, _, rfl, ⟨_, _, rfl, hcz52, hrz52⟩, rfl⟩⟩ rfl (by decide) (fun g49 w48 hS => ?_)))
 refine W_cons rfl (by decide) (Sv_gt rfl rfl rfl hk43 (Sv_call rfl rfl rfl ent14 ?_))
 refine (same_calls (exportS (fillW zSh (fillS ([([[97], [98]] : List St), ([[99]] : List St)] : List (List St))) 5 1)).1 AR0_20 cR0_20 ([([[97], [98]] : List St), ([[99], []] : List St)] : List (List St)) (some ⟨g49, 0, none⟩) 2 _ _ hS.out0 (hS.ow [] 11 rfl rfl (hS.zq [] 10 rfl rfl)) (hS.cap 11 rfl) (hS.ow [] 0 rfl rfl (hS.zq [] 1 rfl rfl)) (hS.cap 0 rfl) ).mono ?_
 rintro e_ w53 ⟨rfl, hS_⟩
 refine ⟨_, rfl, ?_⟩
 have hS := hS.call0 hS_
 refine wv rfl rfl rfl (R_pick_t rfl rfl hk43 rfl) <| wv rfl rfl rfl (R_move rfl rfl) ?_
 have hk55 : (decide ((exportS (fillW zSh (fillS ([([[97], [98]] : List St), ([[99]] : List St)] : List (List St))) 5 1)).1 = ([([[97], [98]] : List St), ([[99], []] : List St)] : List (List St)))) = true := by decide +kernel
 refine W_cons rfl (by decide) (Sv_gt rfl rfl rfl hk55 (Sv_val rfl (R_move rfl rfl) ?_))
 refine W_cons rfl (by decide) (Sv_gt rfl rfl rfl hk55 (Sv_val rfl (R_bin rfl rfl rfl rfl rfl) ?_))
 refine wv rfl rfl rfl (R_pick_t rfl rfl hk55 rfl) <| wv rfl rfl rfl (R_move rfl rfl) ?_
 have hk56 : (((toldS (readE [97, 13, 10, 34, 98] 5 1)).2 == 5)) = true := by decide +kernel
 have hk56p : (toldS (readE [97, 13, 10, 34, 98] 5 1)).2 = 5 := by simpa using hk56
 refine W_cons rfl (by decide) (Sv_gt rfl rfl rfl hk56 (Sv_val rfl (R_move rfl rfl) ?_))
 refine W_cons rfl (by decide) (Sv_gt rfl rfl rfl hk56 (Sv_val rfl (R_bin rfl rfl rfl rfl rfl) ?_))
 refine wv rfl rfl rfl (R_pick_t rfl rfl hk56 rfl) <| wv rfl rfl rfl (R_move rfl rfl) ?_
 have hk57 : (((toldS (readE [97, 13, 10, 34, 98] 5 1)).1 == 2)) = true := by decide +kernel
 have hk57p : (toldS (readE [97, 13, 10, 34, 98] 5 1)).1 = 2 := by simpa using hk57
 refine W_cons rfl (by decide) (Sv_gt rfl rfl rfl hk57 (Sv_val rfl (R_move rfl rfl) ?_))
 refine W_cons rfl (by decide) (Sv_gt rfl rfl rfl hk57 (Sv_val rfl (R_streql rfl rfl rfl) ?_))
 refine wv rfl rfl rfl (R_pick_t rfl rfl hk57 rfl) <| wv rfl rfl rfl (R_move rfl rfl) ?_
 have hk58 : (decide ((writeS (⟨0, ([5, 5] : List Int), ([1] : List Int), ([(⟨0, 1, [120, 44, 121], (⟨0, 0, 0⟩ : TStyle)⟩ : TCell)] : List TCell), []⟩ : TSheet)).1 = [44, 34, 120, 44, 121, 34, 13, 10])) = true := by decide +kernel
 have hk58p : (writeS (⟨0, ([5, 5] : List Int), ([1] : List Int), ([(⟨0, 1, [120, 44, 121], (⟨0, 0, 0⟩ : TStyle)⟩ : TCell)] : List TCell), []⟩ : TSheet)).1 = [44, 34, 120, 44, 121, 34, 13, 10] := by simpa using hk58
 refine W_cons rfl (by decide) (Sv_gt rfl rfl rfl hk58 (Sv_val rfl (R_move rfl rfl) ?_))
 refine W_cons rfl (by decide) (Sv_gt rfl rfl rfl hk58 (Sv_val rfl (R_bin rfl rfl rfl rfl rfl) ?_))
 refine wv rfl rfl rfl (R_pick_t rfl rfl hk58 rfl) <| wv rfl rfl rfl (R_assign rfl rfl) ?_
 refine W_nil <| E_then (C_fr [(0, .bool ((writeS (⟨0, ([5, 5] : List Int), ([1] : List Int), ([(⟨0, 1, [120, 44, 121], (⟨0, 0, 0⟩ : TStyle)⟩ : TCell)] : List TCell), []⟩ : TSheet)).2 == 0))] rfl ?_)
 refine C_ret <| E_ret1 rfl rfl ?_
 exact ⟨Lret1 (Lbool (show ((writeS (⟨0, ([5, 5] : List Int), ([1] : List Int), ([(⟨0, 1, [120, 44, 121], (⟨0, 0, 0⟩ : TStyle)⟩ : TCell)] : List TCell), []⟩ : TSheet)).2 == 0) = true by rfl)), hS.fin [] (by decide) rfl⟩
end Go.Proofs.YtaljccgfnmfhnaaGreatDoorG
set_option linter.all false
set_option maxHeartbeats 8000000
set_option maxRecDepth 100000
namespace Go.Proofs.YtaljccgfnmfhnaaGreatDoorG
open Go Go.RowKit
theorem portExports_calls (a0 : TSheet) (Aa0_Widths : Option Addr) (ca0_Widths : Nat) (Aa0_Heights : Option Addr) (ca0_Heights : Nat) (Aa0_Cells : Option Addr) (ca0_Cells : Nat) (Aa0_Merges : Option Addr) (ca0_Merges : Nat) (z : Z) (w : World) (hI : In z w []) (hra0_Widths : Rd (kint .i64) z Aa0_Widths a0.Widths) (hca0_Widths : Cap Aa0_Widths a0.Widths.length ca0_Widths) (hra0_Heights : Rd (kint .i64) z Aa0_Heights a0.Heights) (hca0_Heights : Cap Aa0_Heights a0.Heights.length ca0_Heights) (hra0_Cells : Rd kdTCell z Aa0_Cells a0.Cells) (hca0_Cells : Cap Aa0_Cells a0.Cells.length ca0_Cells) (hra0_Merges : Rd kdTRect z Aa0_Merges a0.Merges) (hca0_Merges : Cap Aa0_Merges a0.Merges.length ca0_Merges) (p0 : SheetG a0) (p1 : HM z) (p2 : ET z) :
    Calls Tryz.prog 4 #[.agg #[.int .i64 a0.Right, .slice Aa0_Widths a0.Widths.length ca0_Widths, .slice Aa0_Heights a0.Heights.length ca0_Heights, .slice Aa0_Cells a0.Cells.length ca0_Cells, .slice Aa0_Merges a0.Merges.length ca0_Merges]] w fun e w' => e = .returned (.bool true) ∧ Sp (FF []) w z w' [] := by
 have hla0_Widths := hca0_Widths.le
 have hma0_Widths := hca0_Widths.mx
 have hla0_Heights := hca0_Heights.le
 have hma0_Heights := hca0_Heights.mx
 have hla0_Cells := hca0_Cells.le
 have hma0_Cells := hca0_Cells.mx
 have hla0_Merges := hca0_Merges.le
 have hma0_Merges := hca0_Merges.mx
 have hS := hI.sp
 refine Calls_of (vs := [.agg #[.int .i64 a0.Right, .slice Aa0_Widths a0.Widths.length ca0_Widths, .slice Aa0_Heights a0.Heights.length ca0_Heights, .slice Aa0_Cells a0.Cells.length ca0_Cells, .slice Aa0_Merges a0.Merges.length ca0_Merges]]) (N := 73) Tryz.func4 rfl rfl (Nat.le_of_ble_eq_true rfl) ?_
 refine C_seq <| C_region <| W_cons rfl (by decide) (S_box hS rfl (R_box (cs := [.int .i64 a0.Right, .slice Aa0_Widths a0.Widths.length ca0_Widths, .slice Aa0_Heights a0.Heights.length ca0_Heights, .slice Aa0_Cells a0.Cells.length ca0_Cells, .slice Aa0_Merges a0.Merges.length ca0_Merges]) rfl rfl rfl) (fun b2 w1 hS => ?_))
 refine wv rfl rfl rfl (R_assign rfl rfl) ?_
 refine W_nil <| E_then <| C_seq <| C_seq <| C_region <| wv rfl rfl rfl (R_loadN (cs := [.int .i64 a0.Right, .slice Aa0_Widths a0.Widths.length ca0_Widths, .slice Aa0_Heights a0.Heights.length ca0_Heights, .slice Aa0_Cells a0.Cells.length ca0_Cells, .slice Aa0_Merges a0.Merges.length ca0_Merges]) rfl rfl agg30 size30 rfl (boxcells (hS.bx 0 rfl) 0 rfl)) ?_
 refine W_cons rfl (by decide) (Sv_call rfl rfl rfl ent15 ?_)
 refine (great_calls a0 Aa0_Widths ca0_Widths Aa0_Heights ca0_Heights Aa0_Cells ca0_Cells Aa0_Merges ca0_Merges _ _ hS.out0 (hra0_Widths.mono (hS.zl [])) hca0_Widths (hra0_Heights.mono (hS.zl [])) hca0_Heights (hra0_Cells.mono (hS.zl [])) hca0_Cells (hra0_Merges.mono (hS.zl [])) hca0_Merges ).mono ?_
 rintro e_ w3 ⟨rfl, hS_⟩
 refine ⟨_, rfl, ?_⟩
 have hS := hS.call0 hS_
 refine W_nil <| E_then <| C_ite rfl (fun hC0 => ?_) (fun hC0 => ?_)
 ·refine C_seq <| C_region <| W_cons rfl (by decide) (Sv_call rfl rfl rfl ent9 ?_)
  refine (pawake_calls  _ _ hS.out0  (by exact HM.mono (by assumption) (hS.zl [])) (by exact ET.mono (by assumption) (hS.zl []))).mono ?_
  rintro e_ w5 ⟨rfl, hS_⟩
  refine ⟨_, rfl, ?_⟩
  have hS := hS.call0 hS_
  refine wv rfl rfl rfl (R_assign rfl rfl) ?_
  refine W_nil <| E_then (C_fr [(2, .bool true)] rfl ?_)
  refine C_ret <| E_then_ret <| E_ret1 rfl rfl ?_
  exact ⟨Lret1 (Lbool (show true = true by rfl)), hS.fin [] (by decide) rfl⟩
 ·have hgf : greatS a0 = false := by simpa using hC0
  have hgb := great_bd hgf
  have hsi : SheetI a0 := p0.I hgf
  have hel := export_law hsi
  have hwl := write_law hsi
  refine C_skip <| E_then <| C_seq <| C_region <| wv rfl rfl rfl (R_loadN (cs := [.int .i64 a0.Right, .slice Aa0_Widths a0.Widths.length ca0_Widths, .slice Aa0_Heights a0.Heights.length ca0_Heights, .slice Aa0_Cells a0.Cells.length ca0_Cells, .slice Aa0_Merges a0.Merges.length ca0_Merges]) rfl rfl agg30 size30 rfl (boxcells (hS.bx 0 rfl) 0 rfl)) ?_
  refine W_cons rfl (by decide) (Sv_call rfl rfl rfl ent16 ?_)
  refine (rshown_calls a0 Aa0_Widths ca0_Widths Aa0_Heights ca0_Heights Aa0_Cells ca0_Cells Aa0_Merges ca0_Merges _ _ hS.out0 (hra0_Widths.mono (hS.zl [])) hca0_Widths (hra0_Heights.mono (hS.zl [])) hca0_Heights (hra0_Cells.mono (hS.zl [])) hca0_Cells (hra0_Merges.mono (hS.zl [])) hca0_Merges (by omega)).mono ?_
  rintro e_ w7 ⟨AR0_8_Widths, cR0_8_Widths, AR0_8_Heights, cR0_8_Heights, AR0_8_Cells, cR0_8_Cells, AR0_8_Merges, cR0_8_Merges, rfl, hS_⟩
  refine ⟨_, rfl, ?_⟩
  have hS := hS.call0 hS_
  have hp9 := hS.cap 0 rfl
  have hlhp9 := hp9.le
  have hmhp9 := hp9.mx
  have hp10 := hS.cap 1 rfl
  have hlhp10 := hp10.le
  have hmhp10 := hp10.mx
  have hp11 := hS.cap 2 rfl
  have hlhp11 := hp11.le
  have hmhp11 := hp11.mx
  have hp12 := hS.cap 3 rfl
  have hlhp12 := hp12.le
  have hmhp12 := hp12.mx
  refine W_cons rfl (by decide) (S_box hS rfl (R_alloc rfl alloc30) (fun b14 w13 hS => ?_))
  refine W_cons0 rfl (S_store hS 0 rfl rfl rfl rfl rfl size30 (one_cons rfl (one_cons rfl (one_cons rfl (one_cons rfl (one_cons rfl one_nil))))) (Nat.le_of_ble_eq_true rfl) (fun w15 hS => ?_))
  have hS : Sp (FF []) w z w15 [bR b14 30 [.int .i64 a0.Right, .slice AR0_8_Widths a0.Widths.length cR0_8_Widths, .slice AR0_8_Heights a0.Heights.length cR0_8_Heights, .slice AR0_8_Cells a0.Cells.length cR0_8_Cells, .slice AR0_8_Merges a0.Merges.length cR0_8_Merges], oR (kint .i64) 3 zE AR0_8_Widths cR0_8_Widths a0.Widths, oR (kint .i64) 3 zE AR0_8_Heights cR0_8_Heights a0.Heights, oR kdTCell 58 zE AR0_8_Cells cR0_8_Cells a0.Cells, oR kdTRect 76 zE AR0_8_Merges cR0_8_Merges a0.Merges, bR b2 30 [.int .i64 a0.Right, .slice Aa0_Widths a0.Widths.length ca0_Widths, .slice Aa0_Heights a0.Heights.length ca0_Heights, .slice Aa0_Cells a0.Cells.length ca0_Cells, .slice Aa0_Merges a0.Merges.length ca0_Merges]] := hS
  refine W_nil <| E_then (C_fr [(1, .pointer (some ⟨b2, 0, none⟩)), (3, .pointer (some ⟨b14, 0, none⟩))] rfl ?_)
  refine C_seq <| C_region <| wv rfl rfl rfl (R_loadN (cs := [.int .i64 a0.Right, .slice AR0_8_Widths a0.Widths.length cR0_8_Widths, .slice AR0_8_Heights a0.Heights.length cR0_8_Heights, .slice AR0_8_Cells a0.Cells.length cR0_8_Cells, .slice AR0_8_Merges a0.Merges.length cR0_8_Merges]) rfl rfl agg30 size30 rfl (boxcells (hS.bx 0 rfl) 0 rfl)) ?_
  refine W_cons rfl (by decide) (Sv_call rfl rfl rfl ent17 ?_)
  refine (export_calls a0 AR0_8_Widths cR0_8_Widths AR0_8_Heights cR0_8_Heights AR0_8_Cells cR0_8_Cells AR0_8_Merges cR0_8_Merges _ _ hS.out0 (hS.ow [] 1 rfl rfl (zle_E _)) (hS.cap 1 rfl) (hS.ow [] 2 rfl rfl (zle_E _)) (hS.cap 2 rfl) (hS.ow [] 3 rfl rfl (zle_E _)) (hS.cap 3 rfl) (hS.ow [] 4 rfl rfl (zle_E _)) (hS.cap 4 rfl) (by assumption)).mono ?_
  rintro e_ w16 ⟨AR0_17, cR0_17, qR0_17, rfl, hS_⟩
  refine ⟨_, rfl, ?_⟩
  have hS := hS.call0 hS_
  have hp18 := hS.cap 1 rfl
  have hlhp18 := hp18.le
  have hmhp18 := hp18.mx
  refine wv rfl rfl rfl (R_move rfl rfl) <| wv rfl rfl rfl (R_extract rfl rfl rfl) <| wv rfl rfl rfl (R_extract rfl rfl rfl) <| wv rfl rfl rfl (R_assign rfl rfl) <| wv rfl rfl rfl (R_assign rfl rfl) ?_
  refine W_nil <| E_then (C_fr [(1, .pointer (some ⟨b2, 0, none⟩)), (3, .pointer (some ⟨b14, 0, none⟩)), (4, .slice AR0_17 (exportS a0).1.length cR0_17), (5, .int .i64 (exportS a0).2)] rfl ?_)
  refine C_seq <| C_region <| wv rfl rfl rfl (R_loadN (cs := [.int .i64 a0.Right, .slice Aa0_Widths a0.Widths.length ca0_Widths, .slice Aa0_Heights a0.Heights.length ca0_Heights, .slice Aa0_Cells a0.Cells.length ca0_Cells, .slice Aa0_Merges a0.Merges.length ca0_Merges]) rfl rfl agg30 size30 rfl (boxcells (hS.bx 7 rfl) 0 rfl)) ?_
  refine W_cons rfl (by decide) (Sv_call rfl rfl rfl ent18 ?_)
  refine (rexport_calls a0 Aa0_Widths ca0_Widths Aa0_Heights ca0_Heights Aa0_Cells ca0_Cells Aa0_Merges ca0_Merges _ _ hS.out0 (hra0_Widths.mono (hS.zl [])) hca0_Widths (hra0_Heights.mono (hS.zl [])) hca0_Heights (hra0_Cells.mono (hS.zl [])) hca0_Cells (hra0_Merges.mono (hS.zl [])) hca0_Merges (by assumption)).mono ?_
  rintro e_ w19 ⟨AR0_20, cR0_20, qR0_20, rfl, hS_⟩
  refine ⟨_, rfl, ?_⟩
  have hS := hS.call0 hS_
  have hp21 := hS.cap 1 rfl
  have hlhp21 := hp21.le
  have hmhp21 := hp21.mx
  refine wv rfl rfl rfl (R_move rfl rfl) <| wv rfl rfl rfl (R_extract rfl rfl rfl) <| wv rfl rfl rfl (R_extract rfl rfl rfl) <| wv rfl rfl rfl (R_assign rfl rfl) <| wv rfl rfl rfl (R_assign rfl rfl) ?_
  refine W_nil <| E_then (C_fr [(1, .pointer (some ⟨b2, 0, none⟩)), (3, .pointer (some ⟨b14, 0, none⟩)), (4, .slice AR0_17 (exportS a0).1.length cR0_17), (5, .int .i64 (exportS a0).2), (6, .slice AR0_20 (rexportS a0).1.length cR0_20), (7, .int .i64 (rexportS a0).2)] rfl ?_)
  refine C_seq <| C_region <| wv rfl rfl rfl (R_loadN (cs := [.int .i64 a0.Right, .slice AR0_8_Widths a0.Widths.length cR0_8_Widths, .slice AR0_8_Heights a0.Heights.length cR0_8_Heights, .slice AR0_8_Cells a0.Cells.length cR0_8_Cells, .slice AR0_8_Merges a0.Merges.length cR0_8_Merges]) rfl rfl agg30 size30 rfl (boxcells (hS.bx 4 rfl) 0 rfl)) ?_
  refine W_cons rfl (by decide) (Sv_call rfl rfl rfl ent19 ?_)
  refine (write_calls a0 AR0_8_Widths cR0_8_Widths AR0_8_Heights cR0_8_Heights AR0_8_Cells cR0_8_Cells AR0_8_Merges cR0_8_Merges _ _ hS.out0 (hS.ow [] 5 rfl rfl (zle_E _)) (hS.cap 5 rfl) (hS.ow [] 6 rfl rfl (zle_E _)) (hS.cap 6 rfl) (hS.ow [] 7 rfl rfl (zle_E _)) (hS.cap 7 rfl) (hS.ow [] 8 rfl rfl (zle_E _)) (hS.cap 8 rfl) (by assumption) (by exact HM.mono (by assumption) (hS.zl []))).mono ?_
  rintro e_ w22 ⟨rfl, hS_⟩
  refine ⟨_, rfl, ?_⟩
  have hS := hS.call0 hS_
  refine wv rfl rfl rfl (R_move rfl rfl) <| wv rfl rfl rfl (R_extract rfl rfl rfl) <| wv rfl rfl rfl (R_extract rfl rfl rfl) <| wv rfl rfl rfl (R_assign rfl rfl) <| wv rfl rfl rfl (R_assign rfl rfl) ?_
  refine W_nil <| E_then (C_fr [(1, .pointer (some ⟨b2, 0, none⟩)), (3, .pointer (some ⟨b14, 0, none⟩)), (4, .slice AR0_17 (exportS a0).1.length cR0_17), (5, .int .i64 (exportS a0).2), (6, .slice AR0_20 (rexportS a0).1.length cR0_20), (7, .int .i64 (rexportS a0).2), (8, vstr (writeS a0).1), (9, .int .i64 (writeS a0).2)] rfl ?_)
  refine C_seq <| C_region <| wv rfl rfl rfl (R_loadN (cs := [.int .i64 a0.Right, .slice Aa0_Widths a0.Widths.length ca0_Widths, .slice Aa0_Heights a0.Heights.length ca0_Heights, .slice Aa0_Cells a0.Cells.length ca0_Cells, .slice Aa0_Merges a0.Merges.length ca0_Merges]) rfl rfl agg30 size30 rfl (boxcells (hS.bx 9 rfl) 0 rfl)) ?_
  refine W_cons rfl (by decide) (Sv_call rfl rfl rfl ent20 ?_)
  refine (rwrite_calls a0 Aa0_Widths ca0_Widths Aa0_Heights ca0_Heights Aa0_Cells ca0_Cells Aa0_Merges ca0_Merges _ _ hS.out0 (hra0_Widths.mono (hS.zl [])) hca0_Widths (hra0_Heights.mono (hS.zl [])) hca0_Heights (hra0_Cells.mono (hS.zl [])) hca0_Cells (hra0_Merges.mono (hS.zl [])) hca0_Merges (by assumption)).mono ?_
  rintro e_ w24 ⟨rfl, hS_⟩
  refine ⟨_, rfl, ?_⟩
  have hS := hS.call0 hS_
  refine wv rfl rfl rfl (R_move rfl rfl) <| wv rfl rfl rfl (R_extract rfl rfl rfl) <| wv rfl rfl rfl (R_extract rfl rfl rfl) <| wv rfl rfl rfl (R_assign rfl rfl) <| wv rfl rfl rfl (R_assign rfl rfl) ?_
  refine W_nil <| E_then (C_fr [(1, .pointer (some ⟨b2, 0, none⟩)), (3, .pointer (some ⟨b14, 0, none⟩)), (4, .slice AR0_17 (exportS a0).1.length cR0_17), (5, .int .i64 (exportS a0).2), (6, .slice AR0_20 (rexportS a0).1.length cR0_20), (7, .int .i64 (rexportS a0).2), (8, vstr (writeS a0).1), (9, .int .i64 (writeS a0).2), (10, vstr (rwriteS a0).1), (11, .int .i64 (rwriteS a0).2)] rfl ?_)
  refine C_seq <| C_seq <| C_region <| wv rfl rfl rfl (R_move rfl rfl) <| wv rfl rfl rfl (R_move rfl rfl) <| wv rfl rfl rfl (R_bin rfl rfl rfl rfl rfl) <| wv rfl rfl rfl (R_move rfl rfl) ?_
  have hk26 : (((exportS a0).2 != (rexportS a0).2)) = false := by (rw [hel]; simp; done)
  have hk26p : (exportS a0).2 = (rexportS a0).2 := by simpa using hk26
  refine W_cons rfl (by decide) (Sv_gt rfl rfl rfl hk26 (Sv_val rfl (R_move rfl rfl) ?_))
  refine W_cons rfl (by decide) (Sv_gt rfl rfl rfl hk26 (Sv_val rfl (R_move rfl rfl) ?_))
  refine W_cons rfl (by decide) (Sv_gt rfl rfl rfl hk26 (Sv_val rfl (R_bin rfl rfl rfl rfl rfl) ?_))
  refine wv rfl rfl rfl (R_pick_f rfl rfl hk26 rfl) <| wv rfl rfl rfl (R_move rfl rfl) ?_
  have hk27 : (((writeS a0).2 != (rwriteS a0).2)) = false := by (rw [hwl]; simp; done)
  have hk27p : (writeS a0).2 = (rwriteS a0).2 := by simpa using hk27
  refine W_cons rfl (by decide) (Sv_gt rfl rfl rfl hk27 (Sv_val rfl (R_move rfl rfl) ?_))
  refine W_cons rfl (by decide) (Sv_gt rfl rfl rfl hk27 (Sv_val rfl (R_move rfl rfl) ?_))
  refine W_cons rfl (by decide) (Sv_gt rfl rfl rfl hk27 (Sv_call rfl rfl rfl ent14 ?_))
  refine (same_calls (exportS a0).1 AR0_17 cR0_17 (rexportS a0).1 AR0_20 cR0_20 _ _ hS.out0 (hS.ow [] 3 rfl rfl (hS.zq [] 2 rfl rfl)) (hS.cap 3 rfl) (hS.ow [] 1 rfl rfl (hS.zq [] 0 rfl rfl)) (hS.cap 1 rfl) ).mono ?_
  rintro e_ w28 ⟨rfl, hS_⟩
  refine ⟨_, rfl, ?_⟩
  have hS := hS.call0 hS_
  refine W_cons rfl (by decide) (Sv_gt rfl rfl rfl hk27 (Sv_val rfl (R_un rfl rfl rfl) ?_))
  refine wv rfl rfl rfl (R_pick_f rfl rfl hk27 rfl) <| wv rfl rfl rfl (R_move rfl rfl) ?_
  have hk30 : (!(decide ((exportS a0).1 = (rexportS a0).1))) = false := by (rw [hel]; simp; done)
  have hk30p : (decide ((exportS a0).1 = (rexportS a0).1) = true) := by simpa using hk30
  refine W_cons rfl (by decide) (Sv_gt rfl rfl rfl hk30 (Sv_val rfl (R_move rfl rfl) ?_))
  refine W_cons rfl (by decide) (Sv_gt rfl rfl rfl hk30 (Sv_val rfl (R_move rfl rfl) ?_))
  refine W_cons rfl (by decide) (Sv_gt rfl rfl rfl hk30 (Sv_val rfl (R_strneq rfl rfl rfl) ?_))
  refine wv rfl rfl rfl (R_pick_f rfl rfl hk30 rfl) ?_
  refine W_nil <| E_then (C_fr [(1, .pointer (some ⟨b2, 0, none⟩)), (3, .pointer (some ⟨b14, 0, none⟩)), (4, .slice AR0_17 (exportS a0).1.length cR0_17), (56, .bool (!decide ((writeS a0).1 = (rwriteS a0).1)))] rfl ?_)
  have hk31 : (!decide ((writeS a0).1 = (rwriteS a0).1)) = false := by (rw [hwl]; simp; done)
  have hk31p : (writeS a0).1 = (rwriteS a0).1 := by simpa using hk31
  refine C_else rfl hk31 ?_
  refine C_skip <| E_then <| C_seq <| C_seq <| C_region <| wv rfl rfl rfl (R_assign rfl rfl) ?_
  refine W_nil <| E_then <| C_block ?_
  have hs35 : (exportS a0).1 = ((exportS a0).1 : List (List St)) := by rfl
  have hS := hS.re 3 rfl hs35
  refine C_fr [(1, .pointer (some ⟨b2, 0, none⟩)), (3, .pointer (some ⟨b14, 0, none⟩)), (4, .slice AR0_17 (exportS a0).1.length cR0_17), (12, .int .i64 0)] rfl ?_
  refine C_loop (fun m_ f_ w_ => ∃ (l1 : List (List St)) (i : Nat) (Ar32 : Option Addr) (cr32 : Nat) (z33 : Z), f_ = [(1, .pointer (some ⟨b2, 0, none⟩)), (3, .pointer (some ⟨b14, 0, none⟩)), (4, .slice Ar32 l1.length cr32), (12, .int .i64 (i : Int))] ∧ l1.length = (exportS a0).1.length ∧ i ≤ (exportS a0).1.length ∧ m_ = (exportS a0).1.length - i ∧ Sp (FF []) w z w_ [bR b2 30 [.int .i64 a0.Right, .slice Aa0_Widths a0.Widths.length ca0_Widths, .slice Aa0_Heights a0.Heights.length ca0_Heights, .slice Aa0_Cells a0.Cells.length ca0_Cells, .slice Aa0_Merges a0.Merges.length ca0_Merges], bR b14 30 [.int .i64 a0.Right, .slice AR0_8_Widths a0.Widths.length cR0_8_Widths, .slice AR0_8_Heights a0.Heights.length cR0_8_Heights, .slice AR0_8_Cells a0.Cells.length cR0_8_Cells, .slice AR0_8_Merges a0.Merges.length cR0_8_Merges], oR (kint .i64) 3 zE AR0_8_Widths cR0_8_Widths a0.Widths, oR (kint .i64) 3 zE AR0_8_Heights cR0_8_Heights a0.Heights, oR kdTCell 58 zE AR0_8_Cells cR0_8_Cells a0.Cells, oR kdTRect 76 zE AR0_8_Merges cR0_8_Merges a0.Merges, zR z33, oR (kslice kstr) 43 z33 Ar32 cr32 l1]) ((exportS a0).1.length - (0 : Nat)) ⟨((exportS a0).1 : List (List St)), (0 : Nat), AR0_17, cR0_17, qR0_17, (by rw [← hs35] <;> rfl), (by rfl), (by omega), rfl, hS.fin [9, 4, 5, 6, 7, 8, 2, 3] (by decide) rfl⟩ ?_
  rintro m_ f_ w34 ⟨l1, i, Ar32, cr32, z33, rfl, hI0_0, hI0_1, rfl, hS⟩
  have hp36 := hS.cap 7 rfl
  have hlhp36 := hp36.le
  have hmhp36 := hp36.mx
  refine C_seq <| C_seq <| C_region <| wv rfl rfl rfl (R_move rfl rfl) <| wv rfl rfl rfl (R_move rfl rfl) <| wv rfl rfl rfl (R_len rfl rfl Tryz.underlying22) <| wv rfl rfl rfl (R_bin rfl rfl rfl rfl rfl) ?_
  refine W_nil <| E_then <| C_ite rfl (fun hC2 => ?_) (fun hC2 => ?_)
  ·have hC2p : (i : Int) < (l1.length : Int) := by simpa using hC2
   refine C_skip <| E_then <| C_seq <| C_block <| C_region <| wv rfl rfl rfl (R_move rfl rfl) <| wv rfl rfl rfl (R_move rfl rfl) ?_
   obtain ⟨q37, csq37, hAq37, ⟨Aq37, cq37, rfl, hcq37, hrq37⟩, hkq37⟩ := (hS.rw 7 rfl).el [] (i := (i : Int)) (by omega) (by omega)
   have hkq37 : ∀ (j_ : Nat) (u_ : Value), ([.slice Aq37 (l1.getD i []).length cq37] : List Value)[j_]? = some u_ → World.cell? w34 (q37.add (i * 1 + j_)) = some u_ := hkq37
   have hrq37 : Rd kstr z33 Aq37 ((l1.getD i [])) := hrq37
   have hcq37 : Cap Aq37 ((l1.getD i [])).length cq37 := hcq37
   have hlq37 := hcq37.le
   have hmq37 := hcq37.mx
   refine wv rfl rfl rfl (R_idx rfl rfl hAq37 rfl Tryz.underlying22 size43 (by omega) (by omega)) <| wv rfl rfl rfl (R_load1 rfl rfl agg43 (hkq37 0 _ rfl)) ?_
   refine W_cons0 rfl (S_clear_fam hS 6 7 rfl rfl (by decide) rfl rfl Tryz.underlying43 zero9 rfl hrq37 (fun q39 lq39 w38 hllq39 hS => ?_))
   refine W_nil <| E_block_normal <| E_then (C_fr [(1, .pointer (some ⟨b2, 0, none⟩)), (3, .pointer (some ⟨b14, 0, none⟩)), (4, .slice Ar32 lq39.length cr32), (12, .int .i64 (i : Int))] (by rw [hllq39] <;> rfl) ?_)
   refine C_region <| wv rfl rfl rfl (R_move rfl rfl) <| wv rfl rfl rfl (R_add64 rfl rfl rfl (by omega) (by omega)) <| wv rfl rfl rfl (R_assign rfl rfl) ?_
   refine W_nil ?_
   have hs40 : lq39 = (lq39 : List (List St)) := by rfl
   have hS := hS.re 1 rfl hs40
   refine E_round [1, 3, 4, 12] ?_ ⟨(lq39 : List (List St)), (i + 1 : Nat), Ar32, cr32, q39, (by rw [← hs40] <;> rfl), (by omega), (by omega), rfl, hS.fin [2, 3, 4, 5, 6, 7, 0, 1] (by decide) rfl⟩
   omega
  ·have hC2p : ¬ ((i : Int) < (l1.length : Int)) := by simpa using hC2
   refine C_exit <| E_then_exit <| E_then_exit <| E_block_hit ?_
   refine E_then (C_fr [(1, .pointer (some ⟨b2, 0, none⟩)), (3, .pointer (some ⟨b14, 0, none⟩))] rfl ?_)
   refine C_seq <| C_region <| wv rfl rfl rfl (R_loadN (cs := [.int .i64 a0.Right, .slice AR0_8_Widths a0.Widths.length cR0_8_Widths, .slice AR0_8_Heights a0.Heights.length cR0_8_Heights, .slice AR0_8_Cells a0.Cells.length cR0_8_Cells, .slice AR0_8_Merges a0.Merges.length cR0_8_Merges]) rfl rfl agg30 size30 rfl (boxcells (hS.bx 1 rfl) 0 rfl)) <| wv rfl rfl rfl (R_loadN (cs := [.int .i64 a0.Right, .slice Aa0_Widths a0.Widths.length ca0_Widths, .slice Aa0_Heights a0.Heights.length ca0_Heights, .slice Aa0_Cells a0.Cells.length ca0_Cells, .slice Aa0_Merges a0.Merges.length ca0_Merges]) rfl rfl agg30 size30 rfl (boxcells (hS.bx 0 rfl) 0 rfl)) ?_
   refine W_cons rfl (by decide) (Sv_call rfl rfl rfl ent13 ?_)
   refine (rshsame_calls a0 AR0_8_Widths cR0_8_Widths AR0_8_Heights cR0_8_Heights AR0_8_Cells cR0_8_Cells AR0_8_Merges cR0_8_Merges a0 Aa0_Widths ca0_Widths Aa0_Heights ca0_Heights Aa0_Cells ca0_Cells Aa0_Merges ca0_Merges _ _ hS.out0 (hS.ow [] 2 rfl rfl (zle_E _)) (hS.cap 2 rfl) (hS.ow [] 3 rfl rfl (zle_E _)) (hS.cap 3 rfl) (hS.ow [] 4 rfl rfl (zle_E _)) (hS.cap 4 rfl) (hS.ow [] 5 rfl rfl (zle_E _)) (hS.cap 5 rfl) (hra0_Widths.mono (hS.zl [])) hca0_Widths (hra0_Heights.mono (hS.zl [])) hca0_Heights (hra0_Cells.mono (hS.zl [])) hca0_Cells (hra0_Merges.mono (hS.zl [])) hca0_Merges ).mono ?_
   rintro e_ w41 ⟨rfl, hS_⟩
   refine ⟨_, rfl, ?_⟩
   have hS := hS.call0 hS_
   refine wv rfl rfl rfl (R_move rfl rfl) ?_
   have hk43 : (decide (a0 = a0)) = true := by simp
   refine W_cons rfl (by decide) (Sv_gt rfl rfl rfl hk43 (Sv_call rfl rfl rfl ent9 ?_))
   refine (pawake_calls  _ _ hS.out0  (by exact HM.mono (by assumption) (hS.zl [])) (by exact ET.mono (by assumption) (hS.zl []))).mono ?_
   rintro e_ w44 ⟨rfl, hS_⟩
   refine ⟨_, rfl, ?_⟩
   have hS := hS.call0 hS_
   refine wv rfl rfl rfl (R_pick_t rfl rfl hk43 rfl) <| wv rfl rfl rfl (R_assign rfl rfl) ?_
   refine W_nil <| E_then (C_fr [(2, .bool true)] rfl ?_)
   refine C_ret <| E_ret1 rfl rfl ?_
   exact ⟨Lret1 (Lbool (show true = true by rfl)), hS.fin [] (by decide) rfl⟩
end Go.Proofs.YtaljccgfnmfhnaaGreatDoorG
set_option linter.all false
namespace Go.Proofs.YtaljccgfnmfhnaaGreatDoorG
open Go Go.RowKit
theorem cz_cell {w : World} {a : Addr} {v : Value} (h : w.cell? a = some v) : cz (cellsAt w) a = some v := by
  unfold World.cell? at h
  unfold cz cellsAt
  split at h
  · rename_i c e fr hh
    rw [hh]
    split at h
    · cases h
    · rename_i hs
      rw [if_neg hs]
      exact h
  · cases h
def Has (P : Program) (t : TypeId) {α : Type} (d : Kd α) (G : α → Prop) : Prop :=
  ∀ {H : Type} (enc : TypeId × Value → H) (W : World) (spare : Nat → Bool) (held : Bool) (fuel : Nat) (cs : List Value) (x : DataW H × List MemPlace),
    DataW.trod enc P W 0 spare held fuel t cs = some x → ∃ a, d.K (cellsAt W) a cs ∧ G a
def wfi (k : IntKind) (n : Int) : Prop := (Lit.int k n).wf = true
theorem wf64 {n : Int} (h : wfi .i64 n) : -9223372036854775808 ≤ n ∧ n ≤ 9223372036854775807 := by
  unfold wfi Lit.wf at h
  have h4 : IntKind.i64.min = -9223372036854775808 := by decide
  have h5 : IntKind.i64.max = 9223372036854775807 := by decide
  simp [h4, h5] at h
  exact h
theorem Has.int {P : Program} {t : TypeId} {k : IntKind} (ht : P.underlying t = some (.int k)) : Has P t (kint k) (wfi k) := fun enc W spare held fuel cs x h => by
  obtain ⟨n, h1, _, h2⟩ := DataW.trod_int ht h
  exact ⟨n, h1, h2⟩
theorem Has.bool {P : Program} {t : TypeId} (ht : P.underlying t = some .bool) : Has P t kbool (fun _ => True) := fun enc W spare held fuel cs x h => by
  obtain ⟨n, h1, _⟩ := DataW.trod_bool ht h
  exact ⟨n, h1, trivial⟩
theorem Has.str {P : Program} {t : TypeId} (ht : P.underlying t = some .string) : Has P t kstr (fun s => s.length ≤ maxLen) := fun enc W spare held fuel cs x h => by
  obtain ⟨⟨⟨l⟩⟩, h1, _, h2⟩ := DataW.trod_string ht h
  exact ⟨l, h1, h2⟩
theorem pick_list {α : Type} {Q : Nat → α → Prop} : ∀ n, (∀ i, i < n → ∃ a, Q i a) → ∃ xs : List α, xs.length = n ∧ ∀ i x, xs[i]? = some x → Q i x
  | 0, _ => ⟨[], rfl, fun i x h => by simp at h⟩
  | n + 1, h => by
    obtain ⟨xs, h1, h2⟩ := pick_list n (fun i hi => h i (by omega))
    obtain ⟨a, ha⟩ := h n (by omega)
    refine ⟨xs ++ [a], by simp [h1], fun i x hx => ?_⟩
    rcases Nat.lt_or_ge i n with hi | hi
    · rw [List.getElem?_append_left (by omega)] at hx
      exact h2 i x hx
    · rw [List.getElem?_append_right (by omega), h1] at hx
      have h3 : i - n = 0 := by
        have := (List.getElem?_eq_some_iff.1 hx).1
        simp at this
        omega
      rw [h3] at hx
      simp at hx
      subst hx
      have : i = n := by omega
      subst this
      exact ha
theorem Has.slice {P : Program} {t e : TypeId} {α : Type} {d : Kd α} {G : α → Prop} (ht : P.underlying t = some (.slice e)) (hc : P.cellsOf e = d.sz) (he : Has P e d G) : Has P t (kslice d) (fun xs => ∀ x ∈ xs, G x) := fun enc W spare held fuel cs x h => by
  rcases DataW.trod_slice ht h with ⟨rfl, _⟩ | ⟨a, len, cap, elems, rest, n, rfl, rfl, _, _, h2, h3, h4, h5, _⟩
  · exact ⟨[], ⟨none, 0, rfl, ⟨Nat.le_refl _, fun _ => rfl, by decide⟩, Rd.nil _ _ _⟩, by simp⟩
  · obtain ⟨xs, hl, hx⟩ := pick_list (Q := fun i x => G x ∧ ∃ cs, d.K (cellsAt W) x cs ∧ ∀ j u, cs[j]? = some u → cz (cellsAt W) (a.add (i * d.sz + j)) = some u) len (fun i hi => by
      have h6 := h5 i hi
      rw [List.getElem?_eq_getElem (by omega)] at h6
      obtain ⟨cs, h7, h8⟩ := Option.bind_eq_some_iff.1 h6
      obtain ⟨x, h9, h10⟩ := he enc W spare held n cs _ h8
      obtain ⟨_, h11, h12⟩ := World.cells?_some h7
      refine ⟨x, h10, cs, h9, fun j u hu => ?_⟩
      have hj : j < P.cellsOf e := by have := (List.getElem?_eq_some_iff.1 hu).1; omega
      have h13 := h12 j hj
      rw [hu, add_add, hc] at h13
      exact cz_cell h13)
    refine ⟨xs, ⟨some a, cap, by rw [hl], ⟨by omega, (fun h => by cases h), by simp only [maxLen] at h3; omega⟩, fun i x hi => ?_⟩, fun x hm => ?_⟩
    · obtain ⟨_, cs, h6, h7⟩ := hx i x hi
      exact ⟨a, cs, rfl, h6, h7⟩
    · obtain ⟨i, hi⟩ := List.getElem?_of_mem hm
      exact (hx i x hi).1
theorem agg_of {P : Program} {t : TypeId} {w : World} {r : Reach} {b : Nat} {v : Value} {fs : Array Field} (ht : P.underlying t = some (.struct fs)) (h : Value.okWide P w r b t v) : ∃ cs : List Value, v = .agg cs.toArray ∧ v.cells.toList = cs := by
  unfold Value.okWide at h
  rw [ht] at h
  obtain ⟨cs, rfl, _⟩ := h
  exact ⟨cs.toList, by simp, by simp [Value.cells]⟩
end Go.Proofs.YtaljccgfnmfhnaaGreatDoorG
set_option linter.all false
namespace Go.Proofs.YtaljccgfnmfhnaaGreatDoorG
open Go Go.RowKit
def Within (P : Program) (t : TypeId) {H : Type} (x : DataW H) : Prop := ∀ n ∈ x.weights P t, n ≤ reachBytes
def HasZ (P : Program) (t : TypeId) {α : Type} (d : Kd α) (G : α → Prop) : Prop :=
  ∀ {H : Type} (enc : TypeId × Value → H) (W : World) (spare : Nat → Bool) (held : Bool) (fuel : Nat) (cs : List Value) (x : DataW H × List MemPlace),
    DataW.trod enc P W 0 spare held fuel t cs = some x → Within P t x.1 → ∃ a, d.K (cellsAt W) a cs ∧ G a
theorem Has.z {P : Program} {t : TypeId} {α : Type} {d : Kd α} {G : α → Prop} (h : Has P t d G) : HasZ P t d G := fun enc W spare held fuel cs x hx _ => h enc W spare held fuel cs x hx
theorem HasZ.int {P : Program} {t : TypeId} {k : IntKind} (ht : P.underlying t = some (.int k)) : HasZ P t (kint k) (wfi k) := fun enc W spare held fuel cs x hx _ => Has.int ht enc W spare held fuel cs x hx
theorem HasZ.bool {P : Program} {t : TypeId} (ht : P.underlying t = some .bool) : HasZ P t kbool (fun _ => True) := fun enc W spare held fuel cs x hx _ => Has.bool ht enc W spare held fuel cs x hx
theorem HasZ.str {P : Program} {t : TypeId} (ht : P.underlying t = some .string) : HasZ P t kstr (fun s => s.length ≤ 140737488351232) := fun enc W spare held fuel cs x h hw => by
  obtain ⟨⟨⟨l⟩⟩, h1, rfl, h2⟩ := DataW.trod_string ht h
  refine ⟨l, h1, ?_⟩
  have := hw l.length (by simp [DataW.weights])
  exact this
theorem weightsAll_in {H : Type} {P : Program} {e : TypeId} : ∀ {l : List (DataW H)} {d : DataW H}, d ∈ l → ∀ n ∈ d.weights P e, n ∈ DataW.weightsAll P e l
  | d' :: r, d, hd, n, hn => by
    simp only [DataW.weightsAll, List.mem_append]
    rcases List.mem_cons.1 hd with rfl | h
    · exact Or.inl hn
    · exact Or.inr (weightsAll_in h n hn)
theorem HasZ.slice {P : Program} {t e : TypeId} {α : Type} {d : Kd α} {G : α → Prop} {B : Nat} (ht : P.underlying t = some (.slice e)) (hc : P.cellsOf e = d.sz) (hb : P.bytesOf e = B) (he : HasZ P e d G) : HasZ P t (kslice d) (fun xs => xs.length * B ≤ 140737488351232 ∧ ∀ x ∈ xs, G x) := fun enc W spare held fuel cs x h hw => by
  rcases DataW.trod_slice ht h with ⟨rfl, _⟩ | ⟨a, len, cap, elems, rest, n, rfl, rfl, rfl, _, h2, h3, h4, h5, _⟩
  · exact ⟨[], ⟨none, 0, rfl, ⟨Nat.le_refl _, fun _ => rfl, by decide⟩, Rd.nil _ _ _⟩, by simp, by simp⟩
  · have hw1 : (elems.length + rest.length) * P.bytesOf e ≤ reachBytes := hw _ (by simp [DataW.weights, ht])
    have hw2 : ∀ y ∈ elems, Within P e y.1 := fun y hy m hm => hw m (by
      simp only [DataW.weights, ht, List.mem_cons, List.mem_append]
      exact Or.inr (Or.inl (weightsAll_in (List.mem_map_of_mem hy) m hm)))
    obtain ⟨xs, hl, hx⟩ := pick_list (Q := fun i x => G x ∧ ∃ cs, d.K (cellsAt W) x cs ∧ ∀ j u, cs[j]? = some u → cz (cellsAt W) (a.add (i * d.sz + j)) = some u) len (fun i hi => by
      have h6 := h5 i hi
      rw [List.getElem?_eq_getElem (by omega)] at h6
      obtain ⟨cs, h7, h8⟩ := Option.bind_eq_some_iff.1 h6
      obtain ⟨x, h9, h10⟩ := he enc W spare held n cs _ h8 (hw2 _ (List.getElem_mem _))
      obtain ⟨_, h11, h12⟩ := World.cells?_some h7
      refine ⟨x, h10, cs, h9, fun j u hu => ?_⟩
      have hj : j < P.cellsOf e := by have := (List.getElem?_eq_some_iff.1 hu).1; omega
      have h13 := h12 j hj
      rw [hu, add_add, hc] at h13
      exact cz_cell h13)
    refine ⟨xs, ⟨some a, cap, by rw [hl], ⟨by omega, (fun h => by cases h), by simp only [maxLen] at h3; omega⟩, fun i x hi => ?_⟩, ?_, fun x hm => ?_⟩
    · obtain ⟨_, cs, h6, h7⟩ := hx i x hi
      exact ⟨a, cs, rfl, h6, h7⟩
    · subst hb
      rw [hl, ← h4]
      exact Nat.le_trans (Nat.mul_le_mul_right _ (Nat.le_add_right _ _)) hw1
    · obtain ⟨i, hi⟩ := List.getElem?_of_mem hm
      exact (hx i x hi).1
theorem weights_part {H : Type} {P : Program} {t : TypeId} {fs : Array Field} {xs : List (DataW H × List MemPlace)} {i : Nat} {f : Field} {y : DataW H × List MemPlace} (ht : P.underlying t = some (.struct fs)) (hf : fs[i]? = some f) (hy : xs[i]? = some y)
    (hw : Within P t (.agg (xs.map (·.1)) : DataW H)) : Within P f.type y.1 := fun n hn => hw n (by
  simp only [DataW.weights, ht]
  refine DataW.weights_mem_each (j := i) (t := f.type) (d := y.1) ?_ ?_ n hn
  · have : fs.toList[i]? = some f := by simpa using hf
    rw [List.getElem?_map, this]
    rfl
  · rw [List.getElem?_map, hy]
    rfl)
theorem within_arg {H : Type} {P : Program} {ts : List TypeId} {ds : List (DataW H)} (h : (DataW.weightsEach P ts ds).all (· ≤ reachBytes) = true) {j : Nat} {t : TypeId} {d : DataW H} (ht : ts[j]? = some t) (hd : ds[j]? = some d) : Within P t d := fun n hn =>
  of_decide_eq_true (List.all_eq_true.1 h n (DataW.weights_mem_each ht hd n hn))
end Go.Proofs.YtaljccgfnmfhnaaGreatDoorG
set_option linter.all false
namespace Go.Proofs.YtaljccgfnmfhnaaGreatDoorG
open Go Go.RowKit Go.Proofs
variable {H : Type} {enc : TypeId × Value → H}
theorem handed_and_shaped {a : Assume} {C : Checked} {os : Os} {f : FuncId} {fn : Func} {s : ChangeSpec} {conds : List PathCond} {apart fresh handsOn again : Bool} {X : World → Array Value → Prop}
    (hX : ∀ (w w' : World) (args : Array Value), w.heap = w'.heap → X w args → X w' args)
    (own : ownKnob C.prog.godebug = none) (started : os.Started) (noInit : C.prog.inits.idxOf? f = none) (hfn : C.prog.funcs[f]? = some fn)
    (witness : ∃ (w : World) (tape : Tape) (i : Input), w.os = os ∧ (w.forCall tape i).Shaped C.prog ∧ i.vars = [] ∧ Input.okWide C.prog (w.forCall tape i) .any w.heap.size f i ∧
      ((s.pre enc C.prog fn conds apart (w.forCall tape i).memory i.args ∧ X (w.forCall tape i).memory i.args) ∧ sizedMet enc C.prog fn (OpenSpec.ofChange s) apart (w.forCall tape i).memory i.args) ∧ a.holds C.prog (lone (Frame.enter C.prog f i.args .normal) [] (w.forCall tape i)))
    (contract : ∀ (W : World) (base : Nat) (args : Array Value) (ds gs : List (DataW H)) (before : List MemPlace),
      (∀ (j : Nat) t v, fn.params[j]? = some t → args[j]? = some v → Value.okWide C.prog W .any base t v) →
      DataW.Whole enc C.prog fn.params.toList s.vars apart W args.toList ds gs before →
      conds.all (PathCond.test C.prog ⟨fn.params.toList, ds, s.plain.varTypes C.prog, gs⟩) = true →
      (DataW.weightsEach C.prog (fn.params.toList ++ s.plain.varTypes C.prog) (ds ++ gs)).all (· ≤ reachBytes) = true → X W args →
      W.ShapedOpen C.prog →
      a.holds C.prog (lone (Frame.enter C.prog f args .normal) [] W) →
      Calls C.prog f args W fun e W' => ∃ v, e = .returned v ∧ s.post enc C.prog fn apart fresh handsOn again W args v W') :
    ReturnsInHanded a C os f .any (fun w args => (s.pre enc C.prog fn conds apart w args ∧ X w args) ∧ sizedMet enc C.prog fn (OpenSpec.ofChange s) apart w args) (s.post enc C.prog fn apart fresh handsOn again) := by
  refine returnsInHanded_of_calls own started noInit witness ?_
  intro w tape i _ hsh _ hok hpre hholds
  obtain ⟨_, _, _, fn', hfn', _, _, _, _, hval⟩ := hok
  have e : fn' = fn := Option.some.inj (hfn'.symm.trans hfn)
  subst e
  obtain ⟨⟨⟨ds, gs, before, hw, hc⟩, hx⟩, hz⟩ := hpre
  have hw' := DataW.Whole.of_heap (w' := w.forCall tape i) (by rfl) hw
  refine (contract (w.forCall tape i) w.heap.size i.args ds gs before hval hw' hc (hz.weights hw) (hX _ _ _ (by rfl) hx) hsh hholds).mono fun e W' ⟨v, he, hp⟩ => ?_
  subst he
  exact ChangeSpec.post_blind hp
theorem hm_of {W : World} (h : W.ShapedOpen Tryz.prog) : HM (cellsAt W) := by
  obtain ⟨cs, h1, h2, h3⟩ := h.1 (rho.g 1) #[.int .i64 0] 3 (of_decide_eq_true (by kernel_rfl)) (by kernel_rfl)
  obtain ⟨m, hm⟩ := cell_of_shapedOpen_int (P := Tryz.prog) (g := rho.g 1) (t := 3) (zero := #[.int .i64 0]) h (of_decide_eq_true (by kernel_rfl)) (by kernel_rfl) rfl (by kernel_rfl) (by kernel_rfl) Tryz.underlying3
  refine ⟨m, ?_⟩
  have hs : cs.size = 1 := h2
  simp only [World.cell?, h1] at hm
  simp only [cellsAt, h1]
  have h0 : cs[0]? = some (.int .i64 m) := by simpa using hm
  congr 1
  apply Array.ext
  · simpa using hs
  · intro i hi hj
    have : i = 0 := by omega
    subst this
    simp [Array.getElem?_eq_getElem hi] at h0
    simpa using h0
end Go.Proofs.YtaljccgfnmfhnaaGreatDoorG
set_option linter.all false
namespace Go.Proofs.YtaljccgfnmfhnaaGreatDoorG
open Go Go.RowKit Go.Proofs
theorem rt_at : (Tryz.prog.cutTypes.find? (·.1 == "internal/reflectlite.rtype")).map (·.2) = some 162 := by kernel_rfl
theorem err_rows : ((List.range Tryz.prog.types.size).filter fun t => Tryz.prog.rowNamed t [101, 114, 114, 111, 114]) = [64] := by kernel_rfl
theorem err_at : Tryz.prog.globalNamed "errors.errorType" = some 0 := by kernel_rfl
theorem err_handle : typeHandle Tryz.prog 64 = .pointer (some ⟨4, 64, none⟩) := by kernel_rfl
theorem et_of {W : World} {l : List (String × DataW Unit)} (h : laidMetH Tryz.prog l W)
    (hl : (l.filter fun x => x.2.handleName?.isSome) = [("errors.errorType", .iface "internal/reflectlite.rtype" (.agg [.ptr (.lit (.string [101, 114, 114, 111, 114]))]))]) : ET (cellsAt W) := by
  unfold laidMetH at h
  rw [hl] at h
  obtain ⟨_, h2⟩ := h
  have h3 := h2 _ (List.mem_singleton.2 rfl)
  obtain ⟨name, u, ty, e1, e2, e3, e4, e5⟩ := h3
  have en : name = [101, 114, 114, 111, 114] := (Option.some.inj e1).symm
  subst en
  obtain rfl := Option.some.inj (rt_at.symm.trans e2)
  have hm : ty ∈ (List.range Tryz.prog.types.size).filter fun t => Tryz.prog.rowNamed t [101, 114, 114, 111, 114] := List.mem_filter.2 ⟨List.mem_range.2 e3, e4⟩
  rw [err_rows] at hm
  obtain rfl := List.mem_singleton.1 hm
  rw [err_handle] at e5
  unfold World.var? at e5
  rw [err_at] at e5
  unfold ET cellsAt
  cases hh : W.heap[0]? with
  | none => simp [hh] at e5
  | some o => cases o <;> simp_all
noncomputable def hwO (os : Os) : World :=
  let w0 := World.holding Tryz.prog os ⟨#[], #[], []⟩
  { w0 with heap := w0.heap.modify 0 fun
      | .cells _ t frozen => .cells #[.iface 162 (.agg #[.pointer (some ⟨4, 64, none⟩)])] t frozen
      | o => o }
noncomputable def lwO (os : Os) (laid : List (String × DataW Unit)) : World := (hwO os).layVars Tryz.prog laid
theorem lwO_os (os : Os) (laid : List (String × DataW Unit)) : (lwO os laid).os = os := (World.layVars_os _ _ _).trans rfl
theorem lwO_met {os : Os} {laid : List (String × DataW Unit)} (args : Array Value) (hf : (hwO os).layFits Tryz.prog laid [] = true)
    (hi : (hwO os).layIfaces Tryz.prog laid (lwO os laid) = true) : laidMet Tryz.prog laid ((lwO os laid).forCall (fun _ _ => 0) ⟨#[], args, []⟩).memory := by
  have e1 : (laid.filter fun x => (laid.map (·.1)).contains x.1) = laid := List.filter_eq_self.2 fun x hx => List.contains_iff_mem.2 (List.mem_map.2 ⟨x, hx, rfl⟩)
  have e2 : (laid.filter fun x => !(laid.map (·.1)).contains x.1) = [] := List.filter_eq_nil_iff.2 fun x hx => by rw [List.contains_iff_mem.2 (List.mem_map.2 ⟨x, hx, rfl⟩)]; simp
  have h : laidMet Tryz.prog laid (lwO os laid) := laidMet_layVars (w0 := hwO os) (laid.map (·.1)) [] (by rw [e1]; rfl) (by rw [e1]; exact hf) (by rw [e1]; exact hi) (by rw [e2]; exact LaidIn.none)
  exact h.of_heap (by simp [World.memory, World.forCall, Input.heap])
end Go.Proofs.YtaljccgfnmfhnaaGreatDoorG
