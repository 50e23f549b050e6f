/- Walks, each function once: what it computes. -/
import Derived.Test.YtgjnhmidbapjmaaU1
set_option linter.all false
namespace Go.Proofs.YtgjnhmidbapjmaaG
open Go Go.RowKit
set_option maxHeartbeats 400000 in
set_option maxRecDepth 20000 in
theorem order_calls (a0 : TSheet) (Aa0_Widths : Option Addr) (ca0_Widths : Nat) (Aa0_Heights : Option Addr) (ca0_Heights : Nat) (Aa0_Cells : Option Addr) (ca0_Cells : Nat) (Aa0_Merges : Option Addr) (ca0_Merges : Nat) (z : Z) (w : World) (hI : In z w []) (hra0_Widths : Rd (kint .i64) z Aa0_Widths a0.Widths) (hca0_Widths : Cap Aa0_Widths a0.Widths.length ca0_Widths) (hra0_Heights : Rd (kint .i64) z Aa0_Heights a0.Heights) (hca0_Heights : Cap Aa0_Heights a0.Heights.length ca0_Heights) (hra0_Cells : Rd kdTCell z Aa0_Cells a0.Cells) (hca0_Cells : Cap Aa0_Cells a0.Cells.length ca0_Cells) (hra0_Merges : Rd kdTRect z Aa0_Merges a0.Merges) (hca0_Merges : Cap Aa0_Merges a0.Merges.length ca0_Merges)  :
    Calls Try.prog 61 #[.agg #[.int .i64 a0.Right, .slice Aa0_Widths a0.Widths.length ca0_Widths, .slice Aa0_Heights a0.Heights.length ca0_Heights, .slice Aa0_Cells a0.Cells.length ca0_Cells, .slice Aa0_Merges a0.Merges.length ca0_Merges]] w fun e w' => e = .returned (.bool (orderS a0)) ∧ Sp (FF []) w z w' [] := by
 have hla0_Widths := hca0_Widths.le
 have hma0_Widths := hca0_Widths.mx
 have hla0_Heights := hca0_Heights.le
 have hma0_Heights := hca0_Heights.mx
 have hla0_Cells := hca0_Cells.le
 have hma0_Cells := hca0_Cells.mx
 have hla0_Merges := hca0_Merges.le
 have hma0_Merges := hca0_Merges.mx
 have hS := hI.sp
 refine Calls_of (vs := [.agg #[.int .i64 a0.Right, .slice Aa0_Widths a0.Widths.length ca0_Widths, .slice Aa0_Heights a0.Heights.length ca0_Heights, .slice Aa0_Cells a0.Cells.length ca0_Cells, .slice Aa0_Merges a0.Merges.length ca0_Merges]]) (N := 49) Try.func61 rfl rfl (Nat.le_of_ble_eq_true rfl) ?_
 refine C_seq ?_
 refine C_region ?_
 refine W_cons rfl (by decide) (S_box hS rfl (R_box (cs := [.int .i64 a0.Right, .slice Aa0_Widths a0.Widths.length ca0_Widths, .slice Aa0_Heights a0.Heights.length ca0_Heights, .slice Aa0_Cells a0.Cells.length ca0_Cells, .slice Aa0_Merges a0.Merges.length ca0_Merges]) rfl rfl rfl) (fun b2 w1 hS => ?_))
 refine W_cons rfl (by decide) (Sv_val rfl (R_assign rfl rfl) ?_)
 refine W_nil ?_
 refine E_then ?_
 refine C_seq ?_
 refine C_seq ?_
 refine C_region ?_
 refine W_cons rfl (by decide) (Sv_val rfl (R_fld rfl rfl fld39_0) ?_)
 refine W_cons rfl (by decide) (Sv_val rfl (R_load1 rfl rfl agg3 ((hS.bx 0 rfl).cell rfl)) ?_)
 refine W_cons rfl (by decide) (Sv_val rfl (R_bin rfl rfl rfl rfl rfl) ?_)
 refine W_cons rfl (by decide) (Sv_val rfl (R_move rfl rfl) ?_)
 refine W_split (t := 8) rfl (fun hg3 => ?_) (fun hg3 => ?_)
 ·have _hg3 := trivial
  have hg3p : a0.Right < 0 := by simpa using hg3
  refine W_cons rfl (by decide) (Sv_off rfl rfl rfl (by rw [hg3] <;> rfl) ?_)
  refine W_cons rfl (by decide) (Sv_off rfl rfl rfl (by rw [hg3] <;> rfl) ?_)
  refine W_cons rfl (by decide) (Sv_off rfl rfl rfl (by rw [hg3] <;> rfl) ?_)
  refine W_cons rfl (by decide) (Sv_val rfl (R_pick_t rfl rfl hg3 rfl) ?_)
  refine W_cons rfl (by decide) (Sv_val rfl (R_move rfl rfl) ?_)
  refine W_cons rfl (by decide) (Sv_off rfl rfl rfl rfl ?_)
  refine W_cons rfl (by decide) (Sv_off rfl rfl rfl rfl ?_)
  refine W_cons rfl (by decide) (Sv_off rfl rfl rfl rfl ?_)
  refine W_cons rfl (by decide) (Sv_off rfl rfl rfl rfl ?_)
  refine W_cons rfl (by decide) (Sv_val rfl (R_pick_t rfl rfl rfl rfl) ?_)
  refine W_cons rfl (by decide) (Sv_val rfl (R_move rfl rfl) ?_)
  refine W_cons rfl (by decide) (Sv_off rfl rfl rfl rfl ?_)
  refine W_cons rfl (by decide) (Sv_off rfl rfl rfl rfl ?_)
  refine W_cons rfl (by decide) (Sv_off rfl rfl rfl rfl ?_)
  refine W_cons rfl (by decide) (Sv_off rfl rfl rfl rfl ?_)
  refine W_cons rfl (by decide) (Sv_val rfl (R_pick_t rfl rfl rfl rfl) ?_)
  refine W_cons rfl (by decide) (Sv_val rfl (R_move rfl rfl) ?_)
  refine W_cons rfl (by decide) (Sv_off rfl rfl rfl rfl ?_)
  refine W_cons rfl (by decide) (Sv_off rfl rfl rfl rfl ?_)
  refine W_cons rfl (by decide) (Sv_off rfl rfl rfl rfl ?_)
  refine W_cons rfl (by decide) (Sv_off rfl rfl rfl rfl ?_)
  refine W_cons rfl (by decide) (Sv_val rfl (R_pick_t rfl rfl rfl rfl) ?_)
  refine W_cons rfl (by decide) (Sv_val rfl (R_move rfl rfl) ?_)
  refine W_cons rfl (by decide) (Sv_off rfl rfl rfl rfl ?_)
  refine W_cons rfl (by decide) (Sv_off rfl rfl rfl rfl ?_)
  refine W_cons rfl (by decide) (Sv_off rfl rfl rfl rfl ?_)
  refine W_cons rfl (by decide) (Sv_off rfl rfl rfl rfl ?_)
  refine W_cons rfl (by decide) (Sv_val rfl (R_pick_t rfl rfl rfl rfl) ?_)
  refine W_nil ?_
  refine E_then (C_fr [(1, .pointer (some ⟨b2, 0, none⟩)), (36, .bool true)] rfl ?_)
  refine C_if rfl rfl ?_
  refine C_seq ?_
  refine C_region ?_
  refine W_cons rfl (by decide) (Sv_val rfl (R_assign rfl rfl) ?_)
  refine W_nil ?_
  refine E_then ?_
  refine C_ret ?_
  refine E_then_ret ?_
  refine E_ret1 rfl rfl ?_
  exact ⟨Lret1 (Lbool (show false = (orderS a0) by first | (unfold orderS; simp_all; done) | skip)), hS.fin [] (by decide) rfl⟩
 ·have _hg3 := trivial
  have hg3p : ¬ (a0.Right < 0) := by simpa using hg3
  refine W_cons rfl (by decide) (Sv_gt rfl rfl rfl hg3 (Sv_val rfl (R_fld rfl rfl fld39_0) ?_))
  refine W_cons rfl (by decide) (Sv_gt rfl rfl rfl hg3 (Sv_val rfl (R_load1 rfl rfl agg3 ((hS.bx 0 rfl).cell rfl)) ?_))
  refine W_cons rfl (by decide) (Sv_gt rfl rfl rfl hg3 (Sv_val rfl (R_bin rfl rfl rfl rfl rfl) ?_))
  refine W_cons rfl (by decide) (Sv_val rfl (R_pick_f rfl rfl hg3 rfl) ?_)
  refine W_cons rfl (by decide) (Sv_val rfl (R_move rfl rfl) ?_)
  refine W_split (t := 13) rfl (fun hg4 => ?_) (fun hg4 => ?_)
  ·have _hg4 := trivial
   have hg4p : a0.Right > 1 := by simpa using hg4
   refine W_cons rfl (by decide) (Sv_off rfl rfl rfl (by rw [hg4] <;> rfl) ?_)
   refine W_cons rfl (by decide) (Sv_off rfl rfl rfl (by rw [hg4] <;> rfl) ?_)
   refine W_cons rfl (by decide) (Sv_off rfl rfl rfl (by rw [hg4] <;> rfl) ?_)
   refine W_cons rfl (by decide) (Sv_off rfl rfl rfl (by rw [hg4] <;> rfl) ?_)
   refine W_cons rfl (by decide) (Sv_val rfl (R_pick_t rfl rfl hg4 rfl) ?_)
   refine W_cons rfl (by decide) (Sv_val rfl (R_move rfl rfl) ?_)
   refine W_cons rfl (by decide) (Sv_off rfl rfl rfl rfl ?_)
   refine W_cons rfl (by decide) (Sv_off rfl rfl rfl rfl ?_)
   refine W_cons rfl (by decide) (Sv_off rfl rfl rfl rfl ?_)
   refine W_cons rfl (by decide) (Sv_off rfl rfl rfl rfl ?_)
   refine W_cons rfl (by decide) (Sv_val rfl (R_pick_t rfl rfl rfl rfl) ?_)
   refine W_cons rfl (by decide) (Sv_val rfl (R_move rfl rfl) ?_)
   refine W_cons rfl (by decide) (Sv_off rfl rfl rfl rfl ?_)
   refine W_cons rfl (by decide) (Sv_off rfl rfl rfl rfl ?_)
   refine W_cons rfl (by decide) (Sv_off rfl rfl rfl rfl ?_)
   refine W_cons rfl (by decide) (Sv_off rfl rfl rfl rfl ?_)
   refine W_cons rfl (by decide) (Sv_val rfl (R_pick_t rfl rfl rfl rfl) ?_)
   refine W_cons rfl (by decide) (Sv_val rfl (R_move rfl rfl) ?_)
   refine W_cons rfl (by decide) (Sv_off rfl rfl rfl rfl ?_)
   refine W_cons rfl (by decide) (Sv_off rfl rfl rfl rfl ?_)
   refine W_cons rfl (by decide) (Sv_off rfl rfl rfl rfl ?_)
   refine W_cons rfl (by decide) (Sv_off rfl rfl rfl rfl ?_)
   refine W_cons rfl (by decide) (Sv_val rfl (R_pick_t rfl rfl rfl rfl) ?_)
   refine W_nil ?_
   refine E_then (C_fr [(1, .pointer (some ⟨b2, 0, none⟩)), (36, .bool true)] rfl ?_)
   refine C_if rfl rfl ?_
   refine C_seq ?_
   refine C_region ?_
   refine W_cons rfl (by decide) (Sv_val rfl (R_assign rfl rfl) ?_)
   refine W_nil ?_
   refine E_then ?_
   refine C_ret ?_
   refine E_then_ret ?_
   refine E_ret1 rfl rfl ?_
   exact ⟨Lret1 (Lbool (show false = (orderS a0) by first | (unfold orderS; simp_all; done) | skip)), hS.fin [] (by decide) rfl⟩
  ·have _hg4 := trivial
   have hg4p : ¬ (a0.Right > 1) := by simpa using hg4
   refine W_cons rfl (by decide) (Sv_gt rfl rfl rfl hg4 (Sv_val rfl (R_fld rfl rfl fld39_1) ?_))
   refine W_cons rfl (by decide) (Sv_gt rfl rfl rfl hg4 (Sv_val rfl (R_load1 rfl rfl agg35 ((hS.bx 0 rfl).cell rfl)) ?_))
   refine W_cons rfl (by decide) (Sv_gt rfl rfl rfl hg4 (Sv_call rfl rfl rfl ent86 ?_))
   refine (sizes_calls a0.Widths Aa0_Widths ca0_Widths _ _ hS.out0 (hra0_Widths.mono (hS.zl [])) hca0_Widths ).mono ?_
   rintro e_ w5 ⟨rfl, hS_⟩
   refine ⟨_, rfl, ?_⟩
   have hS := hS.call0 hS_
   refine W_cons rfl (by decide) (Sv_gt rfl rfl rfl hg4 (Sv_val rfl (R_un rfl rfl rfl) ?_))
   refine W_cons rfl (by decide) (Sv_val rfl (R_pick_f rfl rfl hg4 rfl) ?_)
   refine W_cons rfl (by decide) (Sv_val rfl (R_move rfl rfl) ?_)
   refine W_split (t := 19) rfl (fun hg7 => ?_) (fun hg7 => ?_)
   ·have _hg7 := trivial
    have hg7p : ¬ (sizesS a0.Widths = true) := by simpa using hg7
    refine W_cons rfl (by decide) (Sv_off rfl rfl rfl (by rw [hg7] <;> rfl) ?_)
    refine W_cons rfl (by decide) (Sv_off rfl rfl rfl (by rw [hg7] <;> rfl) ?_)
    refine W_cons rfl (by decide) (Sv_off rfl rfl rfl (by rw [hg7] <;> rfl) ?_)
    refine W_cons rfl (by decide) (Sv_off rfl rfl rfl (by rw [hg7] <;> rfl) ?_)
    refine W_cons rfl (by decide) (Sv_val rfl (R_pick_t rfl rfl hg7 rfl) ?_)
    refine W_cons rfl (by decide) (Sv_val rfl (R_move rfl rfl) ?_)
    refine W_cons rfl (by decide) (Sv_off rfl rfl rfl rfl ?_)
    refine W_cons rfl (by decide) (Sv_off rfl rfl rfl rfl ?_)
    refine W_cons rfl (by decide) (Sv_off rfl rfl rfl rfl ?_)
    refine W_cons rfl (by decide) (Sv_off rfl rfl rfl rfl ?_)
    refine W_cons rfl (by decide) (Sv_val rfl (R_pick_t rfl rfl rfl rfl) ?_)
    refine W_cons rfl (by decide) (Sv_val rfl (R_move rfl rfl) ?_)
    refine W_cons rfl (by decide) (Sv_off rfl rfl rfl rfl ?_)
    refine W_cons rfl (by decide) (Sv_off rfl rfl rfl rfl ?_)
    refine W_cons rfl (by decide) (Sv_off rfl rfl rfl rfl ?_)
    refine W_cons rfl (by decide) (Sv_off rfl rfl rfl rfl ?_)
    refine W_cons rfl (by decide) (Sv_val rfl (R_pick_t rfl rfl rfl rfl) ?_)
    refine W_nil ?_
    refine E_then (C_fr [(1, .pointer (some ⟨b2, 0, none⟩)), (36, .bool true)] rfl ?_)
    refine C_if rfl rfl ?_
    refine C_seq ?_
    refine C_region ?_
    refine W_cons rfl (by decide) (Sv_val rfl (R_assign rfl rfl) ?_)
    refine W_nil ?_
    refine E_then ?_
    refine C_ret ?_
    refine E_then_ret ?_
    refine E_ret1 rfl rfl ?_
    exact ⟨Lret1 (Lbool (show false = (orderS a0) by first | (unfold orderS; simp_all; done) | skip)), hS.fin [] (by decide) rfl⟩
   ·have _hg7 := trivial
    have hg7p : (sizesS a0.Widths = true) := by simpa using hg7
    refine W_cons rfl (by decide) (Sv_gt rfl rfl rfl hg7 (Sv_val rfl (R_fld rfl rfl fld39_2) ?_))
    refine W_cons rfl (by decide) (Sv_gt rfl rfl rfl hg7 (Sv_val rfl (R_load1 rfl rfl agg35 ((hS.bx 0 rfl).cell rfl)) ?_))
    refine W_cons rfl (by decide) (Sv_gt rfl rfl rfl hg7 (Sv_call rfl rfl rfl ent86 ?_))
    refine (sizes_calls a0.Heights Aa0_Heights ca0_Heights _ _ hS.out0 (hra0_Heights.mono (hS.zl [])) hca0_Heights ).mono ?_
    rintro e_ w8 ⟨rfl, hS_⟩
    refine ⟨_, rfl, ?_⟩
    have hS := hS.call0 hS_
    refine W_cons rfl (by decide) (Sv_gt rfl rfl rfl hg7 (Sv_val rfl (R_un rfl rfl rfl) ?_))
    refine W_cons rfl (by decide) (Sv_val rfl (R_pick_f rfl rfl hg7 rfl) ?_)
    refine W_cons rfl (by decide) (Sv_val rfl (R_move rfl rfl) ?_)
    refine W_split (t := 25) rfl (fun hg10 => ?_) (fun hg10 => ?_)
    ·have _hg10 := trivial
     have hg10p : ¬ (sizesS a0.Heights = true) := by simpa using hg10
     refine W_cons rfl (by decide) (Sv_off rfl rfl rfl (by rw [hg10] <;> rfl) ?_)
     refine W_cons rfl (by decide) (Sv_off rfl rfl rfl (by rw [hg10] <;> rfl) ?_)
     refine W_cons rfl (by decide) (Sv_off rfl rfl rfl (by rw [hg10] <;> rfl) ?_)
     refine W_cons rfl (by decide) (Sv_off rfl rfl rfl (by rw [hg10] <;> rfl) ?_)
     refine W_cons rfl (by decide) (Sv_val rfl (R_pick_t rfl rfl hg10 rfl) ?_)
     refine W_cons rfl (by decide) (Sv_val rfl (R_move rfl rfl) ?_)
     refine W_cons rfl (by decide) (Sv_off rfl rfl rfl rfl ?_)
     refine W_cons rfl (by decide) (Sv_off rfl rfl rfl rfl ?_)
     refine W_cons rfl (by decide) (Sv_off rfl rfl rfl rfl ?_)
     refine W_cons rfl (by decide) (Sv_off rfl rfl rfl rfl ?_)
     refine W_cons rfl (by decide) (Sv_val rfl (R_pick_t rfl rfl rfl rfl) ?_)
     refine W_nil ?_
     refine E_then (C_fr [(1, .pointer (some ⟨b2, 0, none⟩)), (36, .bool true)] rfl ?_)
     refine C_if rfl rfl ?_
     refine C_seq ?_
     refine C_region ?_
     refine W_cons rfl (by decide) (Sv_val rfl (R_assign rfl rfl) ?_)
     refine W_nil ?_
     refine E_then ?_
     refine C_ret ?_
     refine E_then_ret ?_
     refine E_ret1 rfl rfl ?_
     exact ⟨Lret1 (Lbool (show false = (orderS a0) by first | (unfold orderS; simp_all; done) | skip)), hS.fin [] (by decide) rfl⟩
    ·have _hg10 := trivial
     have hg10p : (sizesS a0.Heights = true) := by simpa using hg10
     refine W_cons rfl (by decide) (Sv_gt rfl rfl rfl hg10 (Sv_val rfl (R_fld rfl rfl fld39_3) ?_))
     refine W_cons rfl (by decide) (Sv_gt rfl rfl rfl hg10 (Sv_val rfl (R_load1 rfl rfl agg36 ((hS.bx 0 rfl).cell rfl)) ?_))
     refine W_cons rfl (by decide) (Sv_gt rfl rfl rfl hg10 (Sv_call rfl rfl rfl ent87 ?_))
     refine (risec_calls a0.Cells Aa0_Cells ca0_Cells _ _ hS.out0 (hra0_Cells.mono (hS.zl [])) hca0_Cells ).mono ?_
     rintro e_ w11 ⟨rfl, hS_⟩
     refine ⟨_, rfl, ?_⟩
     have hS := hS.call0 hS_
     refine W_cons rfl (by decide) (Sv_gt rfl rfl rfl hg10 (Sv_val rfl (R_un rfl rfl rfl) ?_))
     refine W_cons rfl (by decide) (Sv_val rfl (R_pick_f rfl rfl hg10 rfl) ?_)
     refine W_cons rfl (by decide) (Sv_val rfl (R_move rfl rfl) ?_)
     refine W_split (t := 31) rfl (fun hg13 => ?_) (fun hg13 => ?_)
     ·have _hg13 := trivial
      have hg13p : ¬ (riseS spotS default a0.Cells = true) := by simpa using hg13
      refine W_cons rfl (by decide) (Sv_off rfl rfl rfl (by rw [hg13] <;> rfl) ?_)
      refine W_cons rfl (by decide) (Sv_off rfl rfl rfl (by rw [hg13] <;> rfl) ?_)
      refine W_cons rfl (by decide) (Sv_off rfl rfl rfl (by rw [hg13] <;> rfl) ?_)
      refine W_cons rfl (by decide) (Sv_off rfl rfl rfl (by rw [hg13] <;> rfl) ?_)
      refine W_cons rfl (by decide) (Sv_val rfl (R_pick_t rfl rfl hg13 rfl) ?_)
      refine W_nil ?_
      refine E_then (C_fr [(1, .pointer (some ⟨b2, 0, none⟩)), (36, .bool true)] rfl ?_)
      refine C_if rfl rfl ?_
      refine C_seq ?_
      refine C_region ?_
      refine W_cons rfl (by decide) (Sv_val rfl (R_assign rfl rfl) ?_)
      refine W_nil ?_
      refine E_then ?_
      refine C_ret ?_
      refine E_then_ret ?_
      refine E_ret1 rfl rfl ?_
      exact ⟨Lret1 (Lbool (show false = (orderS a0) by first | (unfold orderS; simp_all; done) | skip)), hS.fin [] (by decide) rfl⟩
     ·have _hg13 := trivial
      have hg13p : (riseS spotS default a0.Cells = true) := by simpa using hg13
      refine W_cons rfl (by decide) (Sv_gt rfl rfl rfl hg13 (Sv_val rfl (R_fld rfl rfl fld39_4) ?_))
      refine W_cons rfl (by decide) (Sv_gt rfl rfl rfl hg13 (Sv_val rfl (R_load1 rfl rfl agg37 ((hS.bx 0 rfl).cell rfl)) ?_))
      refine W_cons rfl (by decide) (Sv_gt rfl rfl rfl hg13 (Sv_call rfl rfl rfl ent88 ?_))
      refine (riser_calls a0.Merges Aa0_Merges ca0_Merges _ _ hS.out0 (hra0_Merges.mono (hS.zl [])) hca0_Merges ).mono ?_
      rintro e_ w14 ⟨rfl, hS_⟩
      refine ⟨_, rfl, ?_⟩
      have hS := hS.call0 hS_
      refine W_cons rfl (by decide) (Sv_gt rfl rfl rfl hg13 (Sv_val rfl (R_un rfl rfl rfl) ?_))
      refine W_cons rfl (by decide) (Sv_val rfl (R_pick_f rfl rfl hg13 rfl) ?_)
      refine W_nil ?_
      refine E_then (C_fr [(1, .pointer (some ⟨b2, 0, none⟩)), (36, .bool (!(riseS cornerS default a0.Merges)))] rfl ?_)
      refine C_ite rfl (fun hC0 => ?_) (fun hC0 => ?_)
      ·have _hC0 := trivial
       have hC0p : ¬ (riseS cornerS default a0.Merges = true) := by simpa using hC0
       refine C_seq ?_
       refine C_region ?_
       refine W_cons rfl (by decide) (Sv_val rfl (R_assign rfl rfl) ?_)
       refine W_nil ?_
       refine E_then ?_
       refine C_ret ?_
       refine E_then_ret ?_
       refine E_ret1 rfl rfl ?_
       exact ⟨Lret1 (Lbool (show false = (orderS a0) by first | (unfold orderS; simp_all; done) | skip)), hS.fin [] (by decide) rfl⟩
      ·have _hC0 := trivial
       have hC0p : (riseS cornerS default a0.Merges = true) := by simpa using hC0
       refine C_skip ?_
       refine E_then ?_
       refine C_seq ?_
       refine C_region ?_
       refine W_cons rfl (by decide) (Sv_val rfl (R_fld rfl rfl fld39_3) ?_)
       refine W_cons rfl (by decide) (Sv_val rfl (R_load1 rfl rfl agg36 ((hS.bx 0 rfl).cell rfl)) ?_)
       have hS := hS.bun [] (by decide)
       refine W_cons rfl (by decide) (Sv_call rfl rfl rfl ent62 ?_)
       refine (cfc_has_calls a0.Cells Aa0_Cells ca0_Cells 89 [] (allR []) zE (fun (x_ : TCell) => emptyS x_) _ _ (hS.out [0] (by decide)) (hra0_Cells.mono (hS.zl [0])) hca0_Cells (order1_fv  _ ) (zle_E _) ).mono ?_
       rintro e_ w16 ⟨rfl, hS_⟩
       refine ⟨_, rfl, ?_⟩
       have hS := hS.call [0] (by decide) hS_
       have hS := hS.unb
       refine W_cons rfl (by decide) (Sv_val rfl (R_assign rfl rfl) ?_)
       refine W_nil ?_
       refine E_then ?_
       refine C_seq ?_
       refine C_region ?_
       refine W_cons rfl (by decide) (Sv_val rfl (R_fld rfl rfl fld39_4) ?_)
       refine W_cons rfl (by decide) (Sv_val rfl (R_load1 rfl rfl agg37 ((hS.bx 0 rfl).cell rfl)) ?_)
       have hS := hS.bun [] (by decide)
       refine W_cons rfl (by decide) (Sv_call rfl rfl rfl ent64 ?_)
       refine (cfq_has_calls a0.Merges Aa0_Merges ca0_Merges 91 [] (allR []) zE (fun (x_ : TRect) => tinyS x_) _ _ (hS.out [0] (by decide)) (hra0_Merges.mono (hS.zl [0])) hca0_Merges (order2_fv  _ ) (zle_E _) ).mono ?_
       rintro e_ w19 ⟨rfl, hS_⟩
       refine ⟨_, rfl, ?_⟩
       have hS := hS.call [0] (by decide) hS_
       have hS := hS.unb
       refine W_cons rfl (by decide) (Sv_val rfl (R_assign rfl rfl) ?_)
       refine W_nil ?_
       refine E_then (C_fr [(3, .bool (hasF (fun (x_ : TCell) => emptyS x_) a0.Cells)), (4, .bool (hasF (fun (x_ : TRect) => tinyS x_) a0.Merges))] rfl ?_)
       refine C_seq ?_
       refine C_region ?_
       refine W_cons rfl (by decide) (Sv_val rfl (R_move rfl rfl) ?_)
       refine W_cons rfl (by decide) (Sv_val rfl (R_un rfl rfl rfl) ?_)
       refine W_cons rfl (by decide) (Sv_val rfl (R_move rfl rfl) ?_)
       refine W_split (t := 45) rfl (fun hg22 => ?_) (fun hg22 => ?_)
       ·have _hg22 := trivial
        have hg22p : ¬ (hasF (fun (x_ : TCell) => emptyS x_) a0.Cells = true) := by simpa using hg22
        refine W_cons rfl (by decide) (Sv_gt rfl rfl rfl hg22 (Sv_val rfl (R_move rfl rfl) ?_))
        refine W_cons rfl (by decide) (Sv_gt rfl rfl rfl hg22 (Sv_val rfl (R_un rfl rfl rfl) ?_))
        refine W_cons rfl (by decide) (Sv_val rfl (R_pick_t rfl rfl hg22 rfl) ?_)
        refine W_cons rfl (by decide) (Sv_val rfl (R_assign rfl rfl) ?_)
        refine W_nil ?_
        refine E_then (C_fr [(2, .bool (!(hasF (fun (x_ : TRect) => tinyS x_) a0.Merges)))] rfl ?_)
        refine C_ret ?_
        refine E_ret1 rfl rfl ?_
        exact ⟨Lret1 (Lbool (show (!(hasF (fun (x_ : TRect) => tinyS x_) a0.Merges)) = (orderS a0) by first | (unfold orderS; simp_all; done) | skip)), hS.fin [] (by decide) rfl⟩
       ·have _hg22 := trivial
        have hg22p : (hasF (fun (x_ : TCell) => emptyS x_) a0.Cells = true) := by simpa using hg22
        refine W_cons rfl (by decide) (Sv_off rfl rfl rfl (by rw [hg22] <;> rfl) ?_)
        refine W_cons rfl (by decide) (Sv_off rfl rfl rfl (by rw [hg22] <;> rfl) ?_)
        refine W_cons rfl (by decide) (Sv_val rfl (R_pick_f rfl rfl hg22 rfl) ?_)
        refine W_cons rfl (by decide) (Sv_val rfl (R_assign rfl rfl) ?_)
        refine W_nil ?_
        refine E_then (C_fr [(2, .bool false)] rfl ?_)
        refine C_ret ?_
        refine E_ret1 rfl rfl ?_
        exact ⟨Lret1 (Lbool (show false = (orderS a0) by first | (unfold orderS; simp_all; done) | skip)), hS.fin [] (by decide) rfl⟩

set_option maxHeartbeats 400000 in
set_option maxRecDepth 20000 in
theorem around1_calls (a0 : TRect) (ba1 : Nat) (a1 : Int) (ba2 : Nat) (a2 : Int) (z : Z) (w : World) (hI : In z w [bR ba1 3 [.int .i64 a1], bR ba2 3 [.int .i64 a2]])   :
    Calls Try.prog 80 #[.agg #[.int .i64 a0.Row, .int .i64 a0.Col, .int .i64 a0.Rows, .int .i64 a0.Cols], .pointer (some ⟨ba1, 0, none⟩), .pointer (some ⟨ba2, 0, none⟩)] w fun e w' => e = .returned (.bool (meetS a0 (oneS a1 a2))) ∧ Sp (FF [bR ba1 3 [.int .i64 a1], bR ba2 3 [.int .i64 a2]]) w z w' [bR ba1 3 [.int .i64 a1], bR ba2 3 [.int .i64 a2]] := by
 have hS := hI.sp
 refine Calls_of (vs := [.agg #[.int .i64 a0.Row, .int .i64 a0.Col, .int .i64 a0.Rows, .int .i64 a0.Cols], .pointer (some ⟨ba1, 0, none⟩), .pointer (some ⟨ba2, 0, none⟩)]) (N := 10) Try.func80 rfl rfl (Nat.le_of_ble_eq_true rfl) ?_
 refine C_seq ?_
 refine C_region ?_
 refine W_cons rfl (by decide) (S_box hS rfl (R_box (cs := [.int .i64 a0.Row, .int .i64 a0.Col, .int .i64 a0.Rows, .int .i64 a0.Cols]) rfl rfl rfl) (fun b2 w1 hS => ?_))
 refine W_cons rfl (by decide) (Sv_val rfl (R_assign rfl rfl) ?_)
 refine W_nil ?_
 refine E_then ?_
 refine C_seq ?_
 refine C_fr [(1, .pointer (some ⟨ba1, 0, none⟩)), (2, .pointer (some ⟨ba2, 0, none⟩)), (3, .pointer (some ⟨b2, 0, none⟩))] rfl ?_
 refine C_drawn2 6 [[], [], [], [1, 2], [0, 3, 3], [4, 4, 0, 1, 2, 3, 4]] [some 5, some 6, some 7, some 8, some 9, some 4] [1, 2, 3] (List.replicate 6 6) (List.replicate 6 []) (List.replicate 6 []) [fun γ_ => .agg #[.int .i64 a0.Row, .int .i64 a0.Col, .int .i64 a0.Rows, .int .i64 a0.Cols], fun γ_ => .int .i64 a1, fun γ_ => .int .i64 a2, fun γ_ => .agg #[.int .i64 (oneS a1 a2).Row, .int .i64 (oneS a1 a2).Col, .int .i64 (oneS a1 a2).Rows, .int .i64 (oneS a1 a2).Cols], fun γ_ => .bool (meetS a0 (oneS a1 a2)), fun γ_ => .bool (meetS a0 (oneS a1 a2))] (List.replicate 6 (fun _ => [])) rfl (by kernel_rfl) (by decide +kernel) hS ?_ ?_
 ·refine ⟨fun g_ w7 fr8 hS => Sv_val rfl (R_loadN (cs := [.int .i64 a0.Row, .int .i64 a0.Col, .int .i64 a0.Rows, .int .i64 a0.Cols]) rfl rfl agg33 size33 rfl (boxcells (hS.bx 0 rfl) 0 rfl)) ⟨gh0, rfl, hS⟩, ?_⟩
  refine ⟨fun g_ w9 fr10 hS => Sv_val rfl (R_load1 rfl rfl agg3 ((hS.bx 1 rfl).cell rfl)) ⟨gh0, rfl, hS⟩, ?_⟩
  refine ⟨fun g_ w11 fr12 hS => Sv_val rfl (R_load1 rfl rfl agg3 ((hS.bx 2 rfl).cell rfl)) ⟨gh0, rfl, hS⟩, ?_⟩
  refine ⟨fun g_ w13 fr14 hS => ?_, ?_⟩
  ·have _w13 := trivial
   have hS : Sp (FF [bR ba1 3 [.int .i64 a1], bR ba2 3 [.int .i64 a2]]) w z w13 [bR b2 33 [.int .i64 a0.Row, .int .i64 a0.Col, .int .i64 a0.Rows, .int .i64 a0.Cols], bR ba1 3 [.int .i64 a1], bR ba2 3 [.int .i64 a2], allR fr14] := hS
   refine Sv_call rfl rfl rfl ent52 ?_
   refine (one_calls a1 a2 _ _ hS.out0  ).mono ?_
   rintro e_ w15 ⟨rfl, hS_⟩
   refine ⟨_, rfl, ?_⟩
   have hS := hS.call0 hS_
   exact ⟨⟨fun _ => none, fun _ => 0, fun _ => zE, fun _ => 0⟩, rfl, hS.fin [0, 1, 2, 3] (by decide) rfl⟩
  refine ⟨fun g_ w17 fr18 hS => ?_, ?_⟩
  ·have _w17 := trivial
   have hS : Sp (FF [bR ba1 3 [.int .i64 a1], bR ba2 3 [.int .i64 a2]]) w z w17 [bR b2 33 [.int .i64 a0.Row, .int .i64 a0.Col, .int .i64 a0.Rows, .int .i64 a0.Cols], bR ba1 3 [.int .i64 a1], bR ba2 3 [.int .i64 a2], allR fr18] := hS
   refine Sv_call rfl rfl rfl ent27 ?_
   refine (meet_calls a0 (oneS a1 a2) _ _ hS.out0  ).mono ?_
   rintro e_ w19 ⟨rfl, hS_⟩
   refine ⟨_, rfl, ?_⟩
   have hS := hS.call0 hS_
   exact ⟨⟨fun _ => none, fun _ => 0, fun _ => zE, fun _ => 0⟩, rfl, hS.fin [0, 1, 2, 3] (by decide) rfl⟩
  refine ⟨fun g_ w21 fr22 hS => Sv_val rfl (R_assign rfl rfl) ⟨gh0, rfl, hS⟩, ?_⟩
  exact trivial
 ·intro g_ w23 hS
  have hS : Sp (FF [bR ba1 3 [.int .i64 a1], bR ba2 3 [.int .i64 a2]]) w z w23 [bR b2 33 [.int .i64 a0.Row, .int .i64 a0.Col, .int .i64 a0.Rows, .int .i64 a0.Cols], bR ba1 3 [.int .i64 a1], bR ba2 3 [.int .i64 a2]] := hS
  refine An_fr [(1, .pointer (some ⟨ba1, 0, none⟩)), (2, .pointer (some ⟨ba2, 0, none⟩)), (3, .pointer (some ⟨b2, 0, none⟩)), (4, .bool (meetS a0 (oneS a1 a2)))] rfl ?_
  refine An_done (by decide +kernel) ?_
  refine E_then ?_
  refine C_ret ?_
  refine E_ret1 rfl rfl ?_
  exact ⟨Lret1 (Lbool (show (meetS a0 (oneS a1 a2)) = (meetS a0 (oneS a1 a2)) by rfl)), hS.fin [1, 2] (by decide) rfl⟩

theorem around1_fv (ba1 : Nat) (a1 : Int) (ba2 : Nat) (a2 : Int) (zc : Z) : FV Try.prog zc 80 [.pointer (some ⟨ba1, 0, none⟩), .pointer (some ⟨ba2, 0, none⟩)] (fun z_ (x_ : TRect) vs_ => vs_ = [.agg #[.int .i64 x_.Row, .int .i64 x_.Col, .int .i64 x_.Rows, .int .i64 x_.Cols]]) (fun (_ _ : Unit) => allR [bR ba1 3 [.int .i64 a1], bR ba2 3 [.int .i64 a2]]) (fun _ x_ => True) (fun _ _ => ()) (fun _ x_ => .bool ((fun (x_ : TRect) => meetS x_ (oneS a1 a2)) x_)) := ⟨ent80, by
  rintro _ _ x vs w z hz hI hok rfl
  refine (around1_calls x ba1 a1 ba2 a2 z w hI.unb   ).mono ?_
  rintro e w' ⟨rfl, hS⟩
  exact ⟨rfl, (), hS.bun1⟩⟩

set_option maxHeartbeats 400000 in
set_option maxRecDepth 20000 in
theorem around_calls (a0 : TSheet) (Aa0_Widths : Option Addr) (ca0_Widths : Nat) (Aa0_Heights : Option Addr) (ca0_Heights : Nat) (Aa0_Cells : Option Addr) (ca0_Cells : Nat) (Aa0_Merges : Option Addr) (ca0_Merges : Nat) (a1 : Int) (a2 : Int) (z : Z) (w : World) (hI : In z w []) (hra0_Widths : Rd (kint .i64) z Aa0_Widths a0.Widths) (hca0_Widths : Cap Aa0_Widths a0.Widths.length ca0_Widths) (hra0_Heights : Rd (kint .i64) z Aa0_Heights a0.Heights) (hca0_Heights : Cap Aa0_Heights a0.Heights.length ca0_Heights) (hra0_Cells : Rd kdTCell z Aa0_Cells a0.Cells) (hca0_Cells : Cap Aa0_Cells a0.Cells.length ca0_Cells) (hra0_Merges : Rd kdTRect z Aa0_Merges a0.Merges) (hca0_Merges : Cap Aa0_Merges a0.Merges.length ca0_Merges)  :
    Calls Try.prog 53 #[.agg #[.int .i64 a0.Right, .slice Aa0_Widths a0.Widths.length ca0_Widths, .slice Aa0_Heights a0.Heights.length ca0_Heights, .slice Aa0_Cells a0.Cells.length ca0_Cells, .slice Aa0_Merges a0.Merges.length ca0_Merges], .int .i64 a1, .int .i64 a2] w fun e w' => e = .returned (.agg #[.int .i64 (aroundS a0 a1 a2).Row, .int .i64 (aroundS a0 a1 a2).Col, .int .i64 (aroundS a0 a1 a2).Rows, .int .i64 (aroundS a0 a1 a2).Cols]) ∧ Sp (FF []) w z w' [] := by
 have hla0_Widths := hca0_Widths.le
 have hma0_Widths := hca0_Widths.mx
 have hla0_Heights := hca0_Heights.le
 have hma0_Heights := hca0_Heights.mx
 have hla0_Cells := hca0_Cells.le
 have hma0_Cells := hca0_Cells.mx
 have hla0_Merges := hca0_Merges.le
 have hma0_Merges := hca0_Merges.mx
 have hS := hI.sp
 refine Calls_of (vs := [.agg #[.int .i64 a0.Right, .slice Aa0_Widths a0.Widths.length ca0_Widths, .slice Aa0_Heights a0.Heights.length ca0_Heights, .slice Aa0_Cells a0.Cells.length ca0_Cells, .slice Aa0_Merges a0.Merges.length ca0_Merges], .int .i64 a1, .int .i64 a2]) (N := 22) Try.func53 rfl rfl (Nat.le_of_ble_eq_true rfl) ?_
 refine C_seq ?_
 refine C_region ?_
 refine W_cons rfl (by decide) (S_box hS rfl (R_box (cs := [.int .i64 a0.Right, .slice Aa0_Widths a0.Widths.length ca0_Widths, .slice Aa0_Heights a0.Heights.length ca0_Heights, .slice Aa0_Cells a0.Cells.length ca0_Cells, .slice Aa0_Merges a0.Merges.length ca0_Merges]) rfl rfl rfl) (fun b2 w1 hS => ?_))
 refine W_cons rfl (by decide) (S_box hS rfl (R_box (cs := [.int .i64 a1]) rfl rfl rfl) (fun b4 w3 hS => ?_))
 refine W_cons rfl (by decide) (S_box hS rfl (R_box (cs := [.int .i64 a2]) rfl rfl rfl) (fun b6 w5 hS => ?_))
 refine W_cons rfl (by decide) (S_box hS rfl (R_alloc rfl alloc33) (fun b8 w7 hS => ?_))
 refine W_nil ?_
 refine E_then ?_
 refine C_seq ?_
 refine C_region ?_
 refine W_cons rfl (by decide) (Sv_val rfl (R_fld rfl rfl fld39_4) ?_)
 refine W_cons rfl (by decide) (Sv_val rfl (R_load1 rfl rfl agg37 ((hS.bx 3 rfl).cell rfl)) ?_)
 refine W_cons rfl (by decide) (Sv_val rfl (R_makeFunc rfl rfl) ?_)
 have hS := hS.bun [2, 1] (by decide)
 refine W_cons rfl (by decide) (Sv_call rfl rfl rfl ent79 ?_)
 refine (cfq_idx_calls a0.Merges Aa0_Merges ca0_Merges 80 [.pointer (some ⟨b4, 0, none⟩), .pointer (some ⟨b6, 0, none⟩)] (allR [bR b4 3 [.int .i64 a1], bR b6 3 [.int .i64 a2]]) zE (fun (x_ : TRect) => meetS x_ (oneS a1 a2)) _ _ (hS.out [0] (by decide)) (hra0_Merges.mono (hS.zl [0])) hca0_Merges (around1_fv b4 a1 b6 a2 _ ) (zle_E _) ).mono ?_
 rintro e_ w9 ⟨rfl, hS_⟩
 refine ⟨_, rfl, ?_⟩
 have hS := hS.call [0] (by decide) hS_
 have hS := hS.unb
 refine W_cons rfl (by decide) (Sv_val rfl (R_assign rfl rfl) ?_)
 refine W_nil ?_
 refine E_then (C_fr [(3, .pointer (some ⟨b2, 0, none⟩)), (4, .pointer (some ⟨b4, 0, none⟩)), (5, .pointer (some ⟨b6, 0, none⟩)), (6, .pointer (some ⟨b8, 0, none⟩)), (7, .int .i64 (idxF (fun (x_ : TRect) => meetS x_ (oneS a1 a2)) a0.Merges 0))] rfl ?_)
 refine C_seq ?_
 refine C_seq ?_
 refine C_region ?_
 refine W_cons rfl (by decide) (Sv_val rfl (R_move rfl rfl) ?_)
 refine W_cons rfl (by decide) (Sv_val rfl (R_bin rfl rfl rfl rfl rfl) ?_)
 refine W_nil ?_
 refine E_then ?_
 refine C_ite rfl (fun hC0 => ?_) (fun hC0 => ?_)
 ·have _hC0 := trivial
  have hC0p : (idxF (fun (x_ : TRect) => meetS x_ (oneS a1 a2)) a0.Merges 0) < 0 := by simpa using hC0
  refine C_seq ?_
  refine C_region ?_
  refine W_cons rfl (by decide) (Sv_val rfl (R_load1 rfl rfl agg3 ((hS.bx 0 rfl).cell rfl)) ?_)
  refine W_cons rfl (by decide) (Sv_val rfl (R_load1 rfl rfl agg3 ((hS.bx 1 rfl).cell rfl)) ?_)
  refine W_cons rfl (by decide) (Sv_call rfl rfl rfl ent52 ?_)
  refine (one_calls a1 a2 _ _ hS.out0  ).mono ?_
  rintro e_ w12 ⟨rfl, hS_⟩
  refine ⟨_, rfl, ?_⟩
  have hS := hS.call0 hS_
  refine W_cons0 rfl (S_store hS 2 rfl rfl rfl rfl rfl size33 (one_cons rfl (one_cons rfl (one_cons rfl (one_cons rfl one_nil)))) (Nat.le_of_ble_eq_true rfl) (fun w14 hS => ?_))
  have hS : Sp (FF []) w z w14 [bR b4 3 [.int .i64 a1], bR b6 3 [.int .i64 a2], bR b8 33 [.int .i64 (oneS a1 a2).Row, .int .i64 (oneS a1 a2).Col, .int .i64 (oneS a1 a2).Rows, .int .i64 (oneS a1 a2).Cols], bR b2 39 [.int .i64 a0.Right, .slice Aa0_Widths a0.Widths.length ca0_Widths, .slice Aa0_Heights a0.Heights.length ca0_Heights, .slice Aa0_Cells a0.Cells.length ca0_Cells, .slice Aa0_Merges a0.Merges.length ca0_Merges]] := hS
  refine W_nil ?_
  refine E_then (C_fr [(6, .pointer (some ⟨b8, 0, none⟩))] rfl ?_)
  refine C_ret ?_
  refine E_then_ret ?_
  refine E_rv1 rfl (RV_cellN (cs := [.int .i64 (oneS a1 a2).Row, .int .i64 (oneS a1 a2).Col, .int .i64 (oneS a1 a2).Rows, .int .i64 (oneS a1 a2).Cols]) rfl agg33 size33 rfl (boxcells (hS.bx 2 rfl) 0 rfl)) ?_
  exact ⟨Lret1 (show (.agg #[.int .i64 (oneS a1 a2).Row, .int .i64 (oneS a1 a2).Col, .int .i64 (oneS a1 a2).Rows, .int .i64 (oneS a1 a2).Cols] : Value) = .agg #[.int .i64 (aroundS a0 a1 a2).Row, .int .i64 (aroundS a0 a1 a2).Col, .int .i64 (aroundS a0 a1 a2).Rows, .int .i64 (aroundS a0 a1 a2).Cols] by first | rw [show aroundS a0 a1 a2 = oneS a1 a2 from if_pos hC0p] | (rw [show aroundS a0 a1 a2 = _ from if_neg hC0p]; rfl)), hS.fin [] (by decide) rfl⟩
 ·have _hC0 := trivial
  have hC0p : ¬ ((idxF (fun (x_ : TRect) => meetS x_ (oneS a1 a2)) a0.Merges 0) < 0) := by simpa using hC0
  refine C_skip ?_
  refine E_then ?_
  refine C_seq ?_
  have hib := (idxF_bd (fun r => meetS r (oneS a1 a2)) a0.Merges 0).resolve_left (fun h_ => by omega)
  refine C_region ?_
  refine W_cons rfl (by decide) (Sv_val rfl (R_fld rfl rfl fld39_4) ?_)
  refine W_cons rfl (by decide) (Sv_val rfl (R_load1 rfl rfl agg37 ((hS.bx 3 rfl).cell rfl)) ?_)
  refine W_cons rfl (by decide) (Sv_val rfl (R_move rfl rfl) ?_)
  obtain ⟨q15, csq15, hAq15, rfl, hkq15⟩ := hra0_Merges.at_ (default : TRect) (i := (idxF (fun (x_ : TRect) => meetS x_ (oneS a1 a2)) a0.Merges 0)) (by omega) (by omega)
  refine W_cons rfl (by decide) (Sv_val rfl (R_idx rfl rfl hAq15 rfl Try.underlying37 size33 (by omega) (by omega)) ?_)
  refine W_cons rfl (by decide) (Sv_val rfl (R_loadN (cs := [.int .i64 (a0.Merges.getD (idxF (fun (x_ : TRect) => meetS x_ (oneS a1 a2)) a0.Merges 0).toNat (default : TRect)).Row, .int .i64 (a0.Merges.getD (idxF (fun (x_ : TRect) => meetS x_ (oneS a1 a2)) a0.Merges 0).toNat (default : TRect)).Col, .int .i64 (a0.Merges.getD (idxF (fun (x_ : TRect) => meetS x_ (oneS a1 a2)) a0.Merges 0).toNat (default : TRect)).Rows, .int .i64 (a0.Merges.getD (idxF (fun (x_ : TRect) => meetS x_ (oneS a1 a2)) a0.Merges 0).toNat (default : TRect)).Cols]) rfl rfl agg33 size33 rfl (fun j u h => cell_add (hS.sub.cell (hkq15 j u h)))) ?_)
  refine W_cons0 rfl (S_store hS 2 rfl rfl rfl rfl rfl size33 (one_cons rfl (one_cons rfl (one_cons rfl (one_cons rfl one_nil)))) (Nat.le_of_ble_eq_true rfl) (fun w16 hS => ?_))
  have hS : Sp (FF []) w z w16 [bR b4 3 [.int .i64 a1], bR b6 3 [.int .i64 a2], bR b8 33 [.int .i64 (a0.Merges.getD (idxF (fun (x_ : TRect) => meetS x_ (oneS a1 a2)) a0.Merges 0).toNat (default : TRect)).Row, .int .i64 (a0.Merges.getD (idxF (fun (x_ : TRect) => meetS x_ (oneS a1 a2)) a0.Merges 0).toNat (default : TRect)).Col, .int .i64 (a0.Merges.getD (idxF (fun (x_ : TRect) => meetS x_ (oneS a1 a2)) a0.Merges 0).toNat (default : TRect)).Rows, .int .i64 (a0.Merges.getD (idxF (fun (x_ : TRect) => meetS x_ (oneS a1 a2)) a0.Merges 0).toNat (default : TRect)).Cols], bR b2 39 [.int .i64 a0.Right, .slice Aa0_Widths a0.Widths.length ca0_Widths, .slice Aa0_Heights a0.Heights.length ca0_Heights, .slice Aa0_Cells a0.Cells.length ca0_Cells, .slice Aa0_Merges a0.Merges.length ca0_Merges]] := hS
  refine W_nil ?_
  refine E_then (C_fr [(6, .pointer (some ⟨b8, 0, none⟩))] rfl ?_)
  refine C_ret ?_
  refine E_rv1 rfl (RV_cellN (cs := [.int .i64 (a0.Merges.getD (idxF (fun (x_ : TRect) => meetS x_ (oneS a1 a2)) a0.Merges 0).toNat (default : TRect)).Row, .int .i64 (a0.Merges.getD (idxF (fun (x_ : TRect) => meetS x_ (oneS a1 a2)) a0.Merges 0).toNat (default : TRect)).Col, .int .i64 (a0.Merges.getD (idxF (fun (x_ : TRect) => meetS x_ (oneS a1 a2)) a0.Merges 0).toNat (default : TRect)).Rows, .int .i64 (a0.Merges.getD (idxF (fun (x_ : TRect) => meetS x_ (oneS a1 a2)) a0.Merges 0).toNat (default : TRect)).Cols]) rfl agg33 size33 rfl (boxcells (hS.bx 2 rfl) 0 rfl)) ?_
  exact ⟨Lret1 (show (.agg #[.int .i64 (a0.Merges.getD (idxF (fun (x_ : TRect) => meetS x_ (oneS a1 a2)) a0.Merges 0).toNat (default : TRect)).Row, .int .i64 (a0.Merges.getD (idxF (fun (x_ : TRect) => meetS x_ (oneS a1 a2)) a0.Merges 0).toNat (default : TRect)).Col, .int .i64 (a0.Merges.getD (idxF (fun (x_ : TRect) => meetS x_ (oneS a1 a2)) a0.Merges 0).toNat (default : TRect)).Rows, .int .i64 (a0.Merges.getD (idxF (fun (x_ : TRect) => meetS x_ (oneS a1 a2)) a0.Merges 0).toNat (default : TRect)).Cols] : Value) = .agg #[.int .i64 (aroundS a0 a1 a2).Row, .int .i64 (aroundS a0 a1 a2).Col, .int .i64 (aroundS a0 a1 a2).Rows, .int .i64 (aroundS a0 a1 a2).Cols] by first | rw [show aroundS a0 a1 a2 = oneS a1 a2 from if_pos hC0p] | (rw [show aroundS a0 a1 a2 = _ from if_neg hC0p]; rfl)), hS.fin [] (by decide) rfl⟩

set_option maxHeartbeats 400000 in
set_option maxRecDepth 20000 in
theorem check1_calls (a0 : TCell) (ba1 : Nat) (a1 : TSheet) (Aa1_Widths : Option Addr) (ca1_Widths : Nat) (Aa1_Heights : Option Addr) (ca1_Heights : Nat) (Aa1_Cells : Option Addr) (ca1_Cells : Nat) (Aa1_Merges : Option Addr) (ca1_Merges : Nat) (z : Z) (w : World) (hI : In z w [bR ba1 39 [.int .i64 a1.Right, .slice Aa1_Widths a1.Widths.length ca1_Widths, .slice Aa1_Heights a1.Heights.length ca1_Heights, .slice Aa1_Cells a1.Cells.length ca1_Cells, .slice Aa1_Merges a1.Merges.length ca1_Merges]]) (hra1_Widths : Rd (kint .i64) z Aa1_Widths a1.Widths) (hca1_Widths : Cap Aa1_Widths a1.Widths.length ca1_Widths) (hra1_Heights : Rd (kint .i64) z Aa1_Heights a1.Heights) (hca1_Heights : Cap Aa1_Heights a1.Heights.length ca1_Heights) (hra1_Cells : Rd kdTCell z Aa1_Cells a1.Cells) (hca1_Cells : Cap Aa1_Cells a1.Cells.length ca1_Cells) (hra1_Merges : Rd kdTRect z Aa1_Merges a1.Merges) (hca1_Merges : Cap Aa1_Merges a1.Merges.length ca1_Merges)  :
    Calls Try.prog 63 #[.agg #[.int .i64 a0.Row, .int .i64 a0.Col, vstr a0.Text, .int .i64 a0.Style.Align, .int .i64 a0.Style.Wrap, .int .i64 a0.Style.Dir], .pointer (some ⟨ba1, 0, none⟩)] w fun e w' => e = .returned (.bool (!hasS a1 (oneS a0.Row a0.Col))) ∧ Sp (FF [bR ba1 39 [.int .i64 a1.Right, .slice Aa1_Widths a1.Widths.length ca1_Widths, .slice Aa1_Heights a1.Heights.length ca1_Heights, .slice Aa1_Cells a1.Cells.length ca1_Cells, .slice Aa1_Merges a1.Merges.length ca1_Merges]]) w z w' [bR ba1 39 [.int .i64 a1.Right, .slice Aa1_Widths a1.Widths.length ca1_Widths, .slice Aa1_Heights a1.Heights.length ca1_Heights, .slice Aa1_Cells a1.Cells.length ca1_Cells, .slice Aa1_Merges a1.Merges.length ca1_Merges]] := by
 have hla1_Widths := hca1_Widths.le
 have hma1_Widths := hca1_Widths.mx
 have hla1_Heights := hca1_Heights.le
 have hma1_Heights := hca1_Heights.mx
 have hla1_Cells := hca1_Cells.le
 have hma1_Cells := hca1_Cells.mx
 have hla1_Merges := hca1_Merges.le
 have hma1_Merges := hca1_Merges.mx
 have hS := hI.sp
 refine Calls_of (vs := [.agg #[.int .i64 a0.Row, .int .i64 a0.Col, vstr a0.Text, .int .i64 a0.Style.Align, .int .i64 a0.Style.Wrap, .int .i64 a0.Style.Dir], .pointer (some ⟨ba1, 0, none⟩)]) (N := 12) Try.func63 rfl rfl (Nat.le_of_ble_eq_true rfl) ?_
 refine C_seq ?_
 refine C_region ?_
 refine W_cons rfl (by decide) (S_box hS rfl (R_box (cs := [.int .i64 a0.Row, .int .i64 a0.Col, vstr a0.Text, .int .i64 a0.Style.Align, .int .i64 a0.Style.Wrap, .int .i64 a0.Style.Dir]) rfl rfl rfl) (fun b2 w1 hS => ?_))
 refine W_cons rfl (by decide) (Sv_val rfl (R_assign rfl rfl) ?_)
 refine W_nil ?_
 refine E_then ?_
 refine C_seq ?_
 refine C_fr [(1, .pointer (some ⟨ba1, 0, none⟩)), (2, .pointer (some ⟨b2, 0, none⟩))] rfl ?_
 refine C_drawn2 9 [[], [], [1], [], [3], [2, 4], [0, 5, 5], [6], [7, 6, 0, 1, 2, 3, 4, 5, 6, 7]] [some 4, some 5, some 6, some 7, some 8, some 9, some 10, some 11, some 3] [1, 2] (List.replicate 9 9) (List.replicate 9 []) (List.replicate 9 []) [fun γ_ => .agg #[.int .i64 a1.Right, .slice Aa1_Widths a1.Widths.length ca1_Widths, .slice Aa1_Heights a1.Heights.length ca1_Heights, .slice Aa1_Cells a1.Cells.length ca1_Cells, .slice Aa1_Merges a1.Merges.length ca1_Merges], fun γ_ => .pointer (some ⟨b2, 0, none⟩), fun γ_ => .int .i64 a0.Row, fun γ_ => .pointer (some ⟨b2, 1, none⟩), fun γ_ => .int .i64 a0.Col, fun γ_ => .agg #[.int .i64 (oneS a0.Row a0.Col).Row, .int .i64 (oneS a0.Row a0.Col).Col, .int .i64 (oneS a0.Row a0.Col).Rows, .int .i64 (oneS a0.Row a0.Col).Cols], fun γ_ => .bool (hasS a1 (oneS a0.Row a0.Col)), fun γ_ => .bool (!(hasS a1 (oneS a0.Row a0.Col))), fun γ_ => .bool (!(hasS a1 (oneS a0.Row a0.Col)))] (List.replicate 9 (fun _ => [])) rfl (by kernel_rfl) (by decide +kernel) hS ?_ ?_
 ·refine ⟨fun g_ w7 fr8 hS => Sv_val rfl (R_loadN (cs := [.int .i64 a1.Right, .slice Aa1_Widths a1.Widths.length ca1_Widths, .slice Aa1_Heights a1.Heights.length ca1_Heights, .slice Aa1_Cells a1.Cells.length ca1_Cells, .slice Aa1_Merges a1.Merges.length ca1_Merges]) rfl rfl agg39 size39 rfl (boxcells (hS.bx 1 rfl) 0 rfl)) ⟨gh0, rfl, hS⟩, ?_⟩
  refine ⟨fun g_ w9 fr10 hS => Sv_val rfl (R_fld rfl rfl fld46_0) ⟨gh0, rfl, hS⟩, ?_⟩
  refine ⟨fun g_ w11 fr12 hS => Sv_val rfl (R_load1 rfl rfl agg3 ((hS.bx 0 rfl).cell rfl)) ⟨gh0, rfl, hS⟩, ?_⟩
  refine ⟨fun g_ w13 fr14 hS => Sv_val rfl (R_fld rfl rfl fld46_1) ⟨gh0, rfl, hS⟩, ?_⟩
  refine ⟨fun g_ w15 fr16 hS => Sv_val rfl (R_load1 rfl rfl agg3 ((hS.bx 0 rfl).cell rfl)) ⟨gh0, rfl, hS⟩, ?_⟩
  refine ⟨fun g_ w17 fr18 hS => ?_, ?_⟩
  ·have _w17 := trivial
   have hS : Sp (FF [bR ba1 39 [.int .i64 a1.Right, .slice Aa1_Widths a1.Widths.length ca1_Widths, .slice Aa1_Heights a1.Heights.length ca1_Heights, .slice Aa1_Cells a1.Cells.length ca1_Cells, .slice Aa1_Merges a1.Merges.length ca1_Merges]]) w z w17 [bR b2 46 [.int .i64 a0.Row, .int .i64 a0.Col, vstr a0.Text, .int .i64 a0.Style.Align, .int .i64 a0.Style.Wrap, .int .i64 a0.Style.Dir], bR ba1 39 [.int .i64 a1.Right, .slice Aa1_Widths a1.Widths.length ca1_Widths, .slice Aa1_Heights a1.Heights.length ca1_Heights, .slice Aa1_Cells a1.Cells.length ca1_Cells, .slice Aa1_Merges a1.Merges.length ca1_Merges], allR fr18] := hS
   refine Sv_call rfl rfl rfl ent52 ?_
   refine (one_calls a0.Row a0.Col _ _ hS.out0  ).mono ?_
   rintro e_ w19 ⟨rfl, hS_⟩
   refine ⟨_, rfl, ?_⟩
   have hS := hS.call0 hS_
   exact ⟨⟨fun _ => none, fun _ => 0, fun _ => zE, fun _ => 0⟩, rfl, hS.fin [0, 1, 2] (by decide) rfl⟩
  refine ⟨fun g_ w21 fr22 hS => ?_, ?_⟩
  ·have _w21 := trivial
   have hS : Sp (FF [bR ba1 39 [.int .i64 a1.Right, .slice Aa1_Widths a1.Widths.length ca1_Widths, .slice Aa1_Heights a1.Heights.length ca1_Heights, .slice Aa1_Cells a1.Cells.length ca1_Cells, .slice Aa1_Merges a1.Merges.length ca1_Merges]]) w z w21 [bR b2 46 [.int .i64 a0.Row, .int .i64 a0.Col, vstr a0.Text, .int .i64 a0.Style.Align, .int .i64 a0.Style.Wrap, .int .i64 a0.Style.Dir], bR ba1 39 [.int .i64 a1.Right, .slice Aa1_Widths a1.Widths.length ca1_Widths, .slice Aa1_Heights a1.Heights.length ca1_Heights, .slice Aa1_Cells a1.Cells.length ca1_Cells, .slice Aa1_Merges a1.Merges.length ca1_Merges], allR fr22] := hS
   refine Sv_call rfl rfl rfl ent51 ?_
   refine (hass_calls a1 Aa1_Widths ca1_Widths Aa1_Heights ca1_Heights Aa1_Cells ca1_Cells Aa1_Merges ca1_Merges (oneS a0.Row a0.Col) _ _ hS.out0 (hra1_Widths.mono (hS.zl [])) hca1_Widths (hra1_Heights.mono (hS.zl [])) hca1_Heights (hra1_Cells.mono (hS.zl [])) hca1_Cells (hra1_Merges.mono (hS.zl [])) hca1_Merges ).mono ?_
   rintro e_ w23 ⟨rfl, hS_⟩
   refine ⟨_, rfl, ?_⟩
   have hS := hS.call0 hS_
   exact ⟨⟨fun _ => none, fun _ => 0, fun _ => zE, fun _ => 0⟩, rfl, hS.fin [0, 1, 2] (by decide) rfl⟩
  refine ⟨fun g_ w25 fr26 hS => Sv_val rfl (R_un rfl rfl rfl) ⟨gh0, rfl, hS⟩, ?_⟩
  refine ⟨fun g_ w27 fr28 hS => Sv_val rfl (R_assign rfl rfl) ⟨gh0, rfl, hS⟩, ?_⟩
  exact trivial
 ·intro g_ w29 hS
  have hS : Sp (FF [bR ba1 39 [.int .i64 a1.Right, .slice Aa1_Widths a1.Widths.length ca1_Widths, .slice Aa1_Heights a1.Heights.length ca1_Heights, .slice Aa1_Cells a1.Cells.length ca1_Cells, .slice Aa1_Merges a1.Merges.length ca1_Merges]]) w z w29 [bR b2 46 [.int .i64 a0.Row, .int .i64 a0.Col, vstr a0.Text, .int .i64 a0.Style.Align, .int .i64 a0.Style.Wrap, .int .i64 a0.Style.Dir], bR ba1 39 [.int .i64 a1.Right, .slice Aa1_Widths a1.Widths.length ca1_Widths, .slice Aa1_Heights a1.Heights.length ca1_Heights, .slice Aa1_Cells a1.Cells.length ca1_Cells, .slice Aa1_Merges a1.Merges.length ca1_Merges]] := hS
  refine An_fr [(1, .pointer (some ⟨ba1, 0, none⟩)), (2, .pointer (some ⟨b2, 0, none⟩)), (3, .bool (!(hasS a1 (oneS a0.Row a0.Col))))] rfl ?_
  refine An_done (by decide +kernel) ?_
  refine E_then ?_
  refine C_ret ?_
  refine E_ret1 rfl rfl ?_
  exact ⟨Lret1 (Lbool (show (!(hasS a1 (oneS a0.Row a0.Col))) = (!hasS a1 (oneS a0.Row a0.Col)) by rfl)), hS.fin [1] (by decide) rfl⟩

theorem check1_fv (ba1 : Nat) (a1 : TSheet) (Aa1_Widths : Option Addr) (ca1_Widths : Nat) (Aa1_Heights : Option Addr) (ca1_Heights : Nat) (Aa1_Cells : Option Addr) (ca1_Cells : Nat) (Aa1_Merges : Option Addr) (ca1_Merges : Nat) (zc : Z) (hra1_Widths : Rd (kint .i64) zc Aa1_Widths a1.Widths) (hca1_Widths : Cap Aa1_Widths a1.Widths.length ca1_Widths) (hra1_Heights : Rd (kint .i64) zc Aa1_Heights a1.Heights) (hca1_Heights : Cap Aa1_Heights a1.Heights.length ca1_Heights) (hra1_Cells : Rd kdTCell zc Aa1_Cells a1.Cells) (hca1_Cells : Cap Aa1_Cells a1.Cells.length ca1_Cells) (hra1_Merges : Rd kdTRect zc Aa1_Merges a1.Merges) (hca1_Merges : Cap Aa1_Merges a1.Merges.length ca1_Merges) : FV Try.prog zc 63 [.pointer (some ⟨ba1, 0, none⟩)] (fun z_ (x_ : TCell) vs_ => vs_ = [.agg #[.int .i64 x_.Row, .int .i64 x_.Col, vstr x_.Text, .int .i64 x_.Style.Align, .int .i64 x_.Style.Wrap, .int .i64 x_.Style.Dir]]) (fun (_ _ : Unit) => allR [bR ba1 39 [.int .i64 a1.Right, .slice Aa1_Widths a1.Widths.length ca1_Widths, .slice Aa1_Heights a1.Heights.length ca1_Heights, .slice Aa1_Cells a1.Cells.length ca1_Cells, .slice Aa1_Merges a1.Merges.length ca1_Merges]]) (fun _ x_ => True) (fun _ _ => ()) (fun _ x_ => .bool ((fun (x_ : TCell) => !hasS a1 (oneS x_.Row x_.Col)) x_)) := ⟨ent63, by
  rintro _ _ x vs w z hz hI hok rfl
  refine (check1_calls x ba1 a1 Aa1_Widths ca1_Widths Aa1_Heights ca1_Heights Aa1_Cells ca1_Cells Aa1_Merges ca1_Merges z w hI.unb  (hra1_Widths.mono hz) hca1_Widths (hra1_Heights.mono hz) hca1_Heights (hra1_Cells.mono hz) hca1_Cells (hra1_Merges.mono hz) hca1_Merges ).mono ?_
  rintro e w' ⟨rfl, hS⟩
  exact ⟨rfl, (), hS.bun1⟩⟩

set_option maxHeartbeats 400000 in
set_option maxRecDepth 20000 in
theorem check2_calls (a0 : TRect) (ba1 : Nat) (a1 : TSheet) (Aa1_Widths : Option Addr) (ca1_Widths : Nat) (Aa1_Heights : Option Addr) (ca1_Heights : Nat) (Aa1_Cells : Option Addr) (ca1_Cells : Nat) (Aa1_Merges : Option Addr) (ca1_Merges : Nat) (z : Z) (w : World) (hI : In z w [bR ba1 39 [.int .i64 a1.Right, .slice Aa1_Widths a1.Widths.length ca1_Widths, .slice Aa1_Heights a1.Heights.length ca1_Heights, .slice Aa1_Cells a1.Cells.length ca1_Cells, .slice Aa1_Merges a1.Merges.length ca1_Merges]]) (hra1_Widths : Rd (kint .i64) z Aa1_Widths a1.Widths) (hca1_Widths : Cap Aa1_Widths a1.Widths.length ca1_Widths) (hra1_Heights : Rd (kint .i64) z Aa1_Heights a1.Heights) (hca1_Heights : Cap Aa1_Heights a1.Heights.length ca1_Heights) (hra1_Cells : Rd kdTCell z Aa1_Cells a1.Cells) (hca1_Cells : Cap Aa1_Cells a1.Cells.length ca1_Cells) (hra1_Merges : Rd kdTRect z Aa1_Merges a1.Merges) (hca1_Merges : Cap Aa1_Merges a1.Merges.length ca1_Merges)  :
    Calls Try.prog 65 #[.agg #[.int .i64 a0.Row, .int .i64 a0.Col, .int .i64 a0.Rows, .int .i64 a0.Cols], .pointer (some ⟨ba1, 0, none⟩)] w fun e w' => e = .returned (.bool (!hasS a1 a0)) ∧ Sp (FF [bR ba1 39 [.int .i64 a1.Right, .slice Aa1_Widths a1.Widths.length ca1_Widths, .slice Aa1_Heights a1.Heights.length ca1_Heights, .slice Aa1_Cells a1.Cells.length ca1_Cells, .slice Aa1_Merges a1.Merges.length ca1_Merges]]) w z w' [bR ba1 39 [.int .i64 a1.Right, .slice Aa1_Widths a1.Widths.length ca1_Widths, .slice Aa1_Heights a1.Heights.length ca1_Heights, .slice Aa1_Cells a1.Cells.length ca1_Cells, .slice Aa1_Merges a1.Merges.length ca1_Merges]] := by
 have hla1_Widths := hca1_Widths.le
 have hma1_Widths := hca1_Widths.mx
 have hla1_Heights := hca1_Heights.le
 have hma1_Heights := hca1_Heights.mx
 have hla1_Cells := hca1_Cells.le
 have hma1_Cells := hca1_Cells.mx
 have hla1_Merges := hca1_Merges.le
 have hma1_Merges := hca1_Merges.mx
 have hS := hI.sp
 refine Calls_of (vs := [.agg #[.int .i64 a0.Row, .int .i64 a0.Col, .int .i64 a0.Rows, .int .i64 a0.Cols], .pointer (some ⟨ba1, 0, none⟩)]) (N := 8) Try.func65 rfl rfl (Nat.le_of_ble_eq_true rfl) ?_
 refine C_seq ?_
 refine C_region ?_
 refine W_cons rfl (by decide) (S_box hS rfl (R_box (cs := [.int .i64 a0.Row, .int .i64 a0.Col, .int .i64 a0.Rows, .int .i64 a0.Cols]) rfl rfl rfl) (fun b2 w1 hS => ?_))
 refine W_cons rfl (by decide) (Sv_val rfl (R_assign rfl rfl) ?_)
 refine W_nil ?_
 refine E_then ?_
 refine C_seq ?_
 refine C_region ?_
 refine W_cons rfl (by decide) (Sv_val rfl (R_loadN (cs := [.int .i64 a1.Right, .slice Aa1_Widths a1.Widths.length ca1_Widths, .slice Aa1_Heights a1.Heights.length ca1_Heights, .slice Aa1_Cells a1.Cells.length ca1_Cells, .slice Aa1_Merges a1.Merges.length ca1_Merges]) rfl rfl agg39 size39 rfl (boxcells (hS.bx 1 rfl) 0 rfl)) ?_)
 refine W_cons rfl (by decide) (Sv_val rfl (R_loadN (cs := [.int .i64 a0.Row, .int .i64 a0.Col, .int .i64 a0.Rows, .int .i64 a0.Cols]) rfl rfl agg33 size33 rfl (boxcells (hS.bx 0 rfl) 0 rfl)) ?_)
 refine W_cons rfl (by decide) (Sv_call rfl rfl rfl ent51 ?_)
 refine (hass_calls a1 Aa1_Widths ca1_Widths Aa1_Heights ca1_Heights Aa1_Cells ca1_Cells Aa1_Merges ca1_Merges a0 _ _ hS.out0 (hra1_Widths.mono (hS.zl [])) hca1_Widths (hra1_Heights.mono (hS.zl [])) hca1_Heights (hra1_Cells.mono (hS.zl [])) hca1_Cells (hra1_Merges.mono (hS.zl [])) hca1_Merges ).mono ?_
 rintro e_ w3 ⟨rfl, hS_⟩
 refine ⟨_, rfl, ?_⟩
 have hS := hS.call0 hS_
 refine W_cons rfl (by decide) (Sv_val rfl (R_un rfl rfl rfl) ?_)
 refine W_cons rfl (by decide) (Sv_val rfl (R_assign rfl rfl) ?_)
 refine W_nil ?_
 refine E_then (C_fr [(3, .bool (!(hasS a1 a0)))] rfl ?_)
 refine C_ret ?_
 refine E_ret1 rfl rfl ?_
 exact ⟨Lret1 (Lbool (show (!(hasS a1 a0)) = (!hasS a1 a0) by rfl)), hS.fin [1] (by decide) rfl⟩

theorem check2_fv (ba1 : Nat) (a1 : TSheet) (Aa1_Widths : Option Addr) (ca1_Widths : Nat) (Aa1_Heights : Option Addr) (ca1_Heights : Nat) (Aa1_Cells : Option Addr) (ca1_Cells : Nat) (Aa1_Merges : Option Addr) (ca1_Merges : Nat) (zc : Z) (hra1_Widths : Rd (kint .i64) zc Aa1_Widths a1.Widths) (hca1_Widths : Cap Aa1_Widths a1.Widths.length ca1_Widths) (hra1_Heights : Rd (kint .i64) zc Aa1_Heights a1.Heights) (hca1_Heights : Cap Aa1_Heights a1.Heights.length ca1_Heights) (hra1_Cells : Rd kdTCell zc Aa1_Cells a1.Cells) (hca1_Cells : Cap Aa1_Cells a1.Cells.length ca1_Cells) (hra1_Merges : Rd kdTRect zc Aa1_Merges a1.Merges) (hca1_Merges : Cap Aa1_Merges a1.Merges.length ca1_Merges) : FV Try.prog zc 65 [.pointer (some ⟨ba1, 0, none⟩)] (fun z_ (x_ : TRect) vs_ => vs_ = [.agg #[.int .i64 x_.Row, .int .i64 x_.Col, .int .i64 x_.Rows, .int .i64 x_.Cols]]) (fun (_ _ : Unit) => allR [bR ba1 39 [.int .i64 a1.Right, .slice Aa1_Widths a1.Widths.length ca1_Widths, .slice Aa1_Heights a1.Heights.length ca1_Heights, .slice Aa1_Cells a1.Cells.length ca1_Cells, .slice Aa1_Merges a1.Merges.length ca1_Merges]]) (fun _ x_ => True) (fun _ _ => ()) (fun _ x_ => .bool ((fun (x_ : TRect) => !hasS a1 x_) x_)) := ⟨ent65, by
  rintro _ _ x vs w z hz hI hok rfl
  refine (check2_calls x ba1 a1 Aa1_Widths ca1_Widths Aa1_Heights ca1_Heights Aa1_Cells ca1_Cells Aa1_Merges ca1_Merges z w hI.unb  (hra1_Widths.mono hz) hca1_Widths (hra1_Heights.mono hz) hca1_Heights (hra1_Cells.mono hz) hca1_Cells (hra1_Merges.mono hz) hca1_Merges ).mono ?_
  rintro e w' ⟨rfl, hS⟩
  exact ⟨rfl, (), hS.bun1⟩⟩

set_option maxHeartbeats 400000 in
set_option maxRecDepth 20000 in
theorem check3_calls (a0 : TRect) (ba1 : Nat) (a1 : TRect) (z : Z) (w : World) (hI : In z w [bR ba1 33 [.int .i64 a1.Row, .int .i64 a1.Col, .int .i64 a1.Rows, .int .i64 a1.Cols]])   :
    Calls Try.prog 66 #[.agg #[.int .i64 a0.Row, .int .i64 a0.Col, .int .i64 a0.Rows, .int .i64 a0.Cols], .pointer (some ⟨ba1, 0, none⟩)] w fun e w' => e = .returned (.bool (meetS a0 a1)) ∧ Sp (FF [bR ba1 33 [.int .i64 a1.Row, .int .i64 a1.Col, .int .i64 a1.Rows, .int .i64 a1.Cols]]) w z w' [bR ba1 33 [.int .i64 a1.Row, .int .i64 a1.Col, .int .i64 a1.Rows, .int .i64 a1.Cols]] := by
 have hS := hI.sp
 refine Calls_of (vs := [.agg #[.int .i64 a0.Row, .int .i64 a0.Col, .int .i64 a0.Rows, .int .i64 a0.Cols], .pointer (some ⟨ba1, 0, none⟩)]) (N := 7) Try.func66 rfl rfl (Nat.le_of_ble_eq_true rfl) ?_
 refine C_seq ?_
 refine C_region ?_
 refine W_cons rfl (by decide) (S_box hS rfl (R_box (cs := [.int .i64 a0.Row, .int .i64 a0.Col, .int .i64 a0.Rows, .int .i64 a0.Cols]) rfl rfl rfl) (fun b2 w1 hS => ?_))
 refine W_cons rfl (by decide) (Sv_val rfl (R_assign rfl rfl) ?_)
 refine W_nil ?_
 refine E_then ?_
 refine C_seq ?_
 refine C_region ?_
 refine W_cons rfl (by decide) (Sv_val rfl (R_loadN (cs := [.int .i64 a0.Row, .int .i64 a0.Col, .int .i64 a0.Rows, .int .i64 a0.Cols]) rfl rfl agg33 size33 rfl (boxcells (hS.bx 0 rfl) 0 rfl)) ?_)
 refine W_cons rfl (by decide) (Sv_val rfl (R_loadN (cs := [.int .i64 a1.Row, .int .i64 a1.Col, .int .i64 a1.Rows, .int .i64 a1.Cols]) rfl rfl agg33 size33 rfl (boxcells (hS.bx 1 rfl) 0 rfl)) ?_)
 refine W_cons rfl (by decide) (Sv_call rfl rfl rfl ent27 ?_)
 refine (meet_calls a0 a1 _ _ hS.out0  ).mono ?_
 rintro e_ w3 ⟨rfl, hS_⟩
 refine ⟨_, rfl, ?_⟩
 have hS := hS.call0 hS_
 refine W_cons rfl (by decide) (Sv_val rfl (R_assign rfl rfl) ?_)
 refine W_nil ?_
 refine E_then (C_fr [(3, .bool (meetS a0 a1))] rfl ?_)
 refine C_ret ?_
 refine E_ret1 rfl rfl ?_
 exact ⟨Lret1 (Lbool (show (meetS a0 a1) = (meetS a0 a1) by rfl)), hS.fin [1] (by decide) rfl⟩

theorem check3_fv (ba1 : Nat) (a1 : TRect) (zc : Z) : FV Try.prog zc 66 [.pointer (some ⟨ba1, 0, none⟩)] (fun z_ (x_ : TRect) vs_ => vs_ = [.agg #[.int .i64 x_.Row, .int .i64 x_.Col, .int .i64 x_.Rows, .int .i64 x_.Cols]]) (fun (_ _ : Unit) => allR [bR ba1 33 [.int .i64 a1.Row, .int .i64 a1.Col, .int .i64 a1.Rows, .int .i64 a1.Cols]]) (fun _ x_ => True) (fun _ _ => ()) (fun _ x_ => .bool ((fun (x_ : TRect) => meetS x_ a1) x_)) := ⟨ent66, by
  rintro _ _ x vs w z hz hI hok rfl
  refine (check3_calls x ba1 a1 z w hI.unb   ).mono ?_
  rintro e w' ⟨rfl, hS⟩
  exact ⟨rfl, (), hS.bun1⟩⟩

set_option maxHeartbeats 2000000 in
set_option maxRecDepth 20000 in
theorem check_calls (a0 : TSheet) (Aa0_Widths : Option Addr) (ca0_Widths : Nat) (Aa0_Heights : Option Addr) (ca0_Heights : Nat) (Aa0_Cells : Option Addr) (ca0_Cells : Nat) (Aa0_Merges : Option Addr) (ca0_Merges : Nat) (z : Z) (w : World) (hI : In z w []) (hra0_Widths : Rd (kint .i64) z Aa0_Widths a0.Widths) (hca0_Widths : Cap Aa0_Widths a0.Widths.length ca0_Widths) (hra0_Heights : Rd (kint .i64) z Aa0_Heights a0.Heights) (hca0_Heights : Cap Aa0_Heights a0.Heights.length ca0_Heights) (hra0_Cells : Rd kdTCell z Aa0_Cells a0.Cells) (hca0_Cells : Cap Aa0_Cells a0.Cells.length ca0_Cells) (hra0_Merges : Rd kdTRect z Aa0_Merges a0.Merges) (hca0_Merges : Cap Aa0_Merges a0.Merges.length ca0_Merges)  :
    Calls Try.prog 35 #[.agg #[.int .i64 a0.Right, .slice Aa0_Widths a0.Widths.length ca0_Widths, .slice Aa0_Heights a0.Heights.length ca0_Heights, .slice Aa0_Cells a0.Cells.length ca0_Cells, .slice Aa0_Merges a0.Merges.length ca0_Merges]] w fun e w' => e = .returned (.int .i64 (checkSh a0)) ∧ Sp (FF []) w z w' [] := by
 have hla0_Widths := hca0_Widths.le
 have hma0_Widths := hca0_Widths.mx
 have hla0_Heights := hca0_Heights.le
 have hma0_Heights := hca0_Heights.mx
 have hla0_Cells := hca0_Cells.le
 have hma0_Cells := hca0_Cells.mx
 have hla0_Merges := hca0_Merges.le
 have hma0_Merges := hca0_Merges.mx
 have hS := hI.sp
 refine Calls_of (vs := [.agg #[.int .i64 a0.Right, .slice Aa0_Widths a0.Widths.length ca0_Widths, .slice Aa0_Heights a0.Heights.length ca0_Heights, .slice Aa0_Cells a0.Cells.length ca0_Cells, .slice Aa0_Merges a0.Merges.length ca0_Merges]]) (N := 60) Try.func35 rfl rfl (Nat.le_of_ble_eq_true rfl) ?_
 refine C_seq ?_
 refine C_region ?_
 refine W_cons rfl (by decide) (S_box hS rfl (R_box (cs := [.int .i64 a0.Right, .slice Aa0_Widths a0.Widths.length ca0_Widths, .slice Aa0_Heights a0.Heights.length ca0_Heights, .slice Aa0_Cells a0.Cells.length ca0_Cells, .slice Aa0_Merges a0.Merges.length ca0_Merges]) rfl rfl rfl) (fun b2 w1 hS => ?_))
 refine W_cons rfl (by decide) (Sv_val rfl (R_assign rfl rfl) ?_)
 refine W_nil ?_
 refine E_then ?_
 refine C_seq ?_
 refine C_block ?_
 refine C_seq ?_
 refine C_region ?_
 refine W_cons rfl (by decide) (Sv_val rfl (R_loadN (cs := [.int .i64 a0.Right, .slice Aa0_Widths a0.Widths.length ca0_Widths, .slice Aa0_Heights a0.Heights.length ca0_Heights, .slice Aa0_Cells a0.Cells.length ca0_Cells, .slice Aa0_Merges a0.Merges.length ca0_Merges]) rfl rfl agg39 size39 rfl (boxcells (hS.bx 0 rfl) 0 rfl)) ?_)
 refine W_cons rfl (by decide) (Sv_call rfl rfl rfl ent60 ?_)
 refine (limits_calls a0 Aa0_Widths ca0_Widths Aa0_Heights ca0_Heights Aa0_Cells ca0_Cells Aa0_Merges ca0_Merges _ _ hS.out0 (hra0_Widths.mono (hS.zl [])) hca0_Widths (hra0_Heights.mono (hS.zl [])) hca0_Heights (hra0_Cells.mono (hS.zl [])) hca0_Cells (hra0_Merges.mono (hS.zl [])) hca0_Merges ).mono ?_
 rintro e_ w3 ⟨rfl, hS_⟩
 refine ⟨_, rfl, ?_⟩
 have hS := hS.call0 hS_
 refine W_cons rfl (by decide) (Sv_val rfl (R_un rfl rfl rfl) ?_)
 refine W_cons rfl (by decide) (Sv_val rfl (R_assign rfl rfl) ?_)
 refine W_nil ?_
 refine E_then (C_fr [(1, .pointer (some ⟨b2, 0, none⟩)), (8, .bool (!(limitsS a0)))] rfl ?_)
 refine C_ite rfl (fun hC0 => ?_) (fun hC0 => ?_)
 ·have _hC0 := trivial
  have hC0p : ¬ (limitsS a0 = true) := by simpa using hC0
  refine C_seq ?_
  refine C_region ?_
  refine W_cons rfl (by decide) (Sv_val rfl (R_assign rfl rfl) ?_)
  refine W_nil ?_
  refine E_then ?_
  refine C_ret ?_
  refine E_block_ret ?_
  refine E_then_ret ?_
  refine E_ret1 rfl rfl ?_
  exact ⟨Lret1 (Lint (show 3 = checkSh a0 by first | exact ck3 (by assumption) | exact ck1 (by assumption) (by assumption) | exact ck4 (by assumption) (by assumption) (out_a (by assumption)) | exact ck4 (by assumption) (by assumption) (out_b (by assumption)) | exact ck0 (by assumption) (by assumption) (out_n (by assumption) (by assumption)) (i := i) (by omega) (by omega) (by assumption) (j := j) (by omega) (by omega) (by assumption) | exact ck6 (by assumption) (by assumption) (out_n (by assumption) (by assumption)) (i := i) (by omega) (by omega) (by assumption) (j := j) (by omega) (by assumption) | exact ck5 (by assumption) (by assumption) (out_n (by assumption) (by assumption)) (i := i) (by omega) (by assumption))), hS.fin [] (by decide) rfl⟩
 ·have _hC0 := trivial
  have hC0p : (limitsS a0 = true) := by simpa using hC0
  refine C_seq ?_
  refine C_region ?_
  refine W_cons rfl (by decide) (Sv_val rfl (R_loadN (cs := [.int .i64 a0.Right, .slice Aa0_Widths a0.Widths.length ca0_Widths, .slice Aa0_Heights a0.Heights.length ca0_Heights, .slice Aa0_Cells a0.Cells.length ca0_Cells, .slice Aa0_Merges a0.Merges.length ca0_Merges]) rfl rfl agg39 size39 rfl (boxcells (hS.bx 0 rfl) 0 rfl)) ?_)
  refine W_cons rfl (by decide) (Sv_call rfl rfl rfl ent61 ?_)
  refine (order_calls a0 Aa0_Widths ca0_Widths Aa0_Heights ca0_Heights Aa0_Cells ca0_Cells Aa0_Merges ca0_Merges _ _ hS.out0 (hra0_Widths.mono (hS.zl [])) hca0_Widths (hra0_Heights.mono (hS.zl [])) hca0_Heights (hra0_Cells.mono (hS.zl [])) hca0_Cells (hra0_Merges.mono (hS.zl [])) hca0_Merges ).mono ?_
  rintro e_ w5 ⟨rfl, hS_⟩
  refine ⟨_, rfl, ?_⟩
  have hS := hS.call0 hS_
  refine W_cons rfl (by decide) (Sv_val rfl (R_un rfl rfl rfl) ?_)
  refine W_cons rfl (by decide) (Sv_val rfl (R_assign rfl rfl) ?_)
  refine W_nil ?_
  refine E_then ?_
  refine C_ite rfl (fun hC1 => ?_) (fun hC1 => ?_)
  ·have _hC1 := trivial
   have hC1p : ¬ (orderS a0 = true) := by simpa using hC1
   refine C_seq ?_
   refine C_region ?_
   refine W_cons rfl (by decide) (Sv_val rfl (R_assign rfl rfl) ?_)
   refine W_nil ?_
   refine E_then (C_fr [(2, .int .i64 1)] rfl ?_)
   refine C_ret ?_
   refine E_block_ret ?_
   refine E_then_ret ?_
   refine E_ret1 rfl rfl ?_
   exact ⟨Lret1 (Lint (show 1 = checkSh a0 by first | exact ck3 (by assumption) | exact ck1 (by assumption) (by assumption) | exact ck4 (by assumption) (by assumption) (out_a (by assumption)) | exact ck4 (by assumption) (by assumption) (out_b (by assumption)) | exact ck0 (by assumption) (by assumption) (out_n (by assumption) (by assumption)) (i := i) (by omega) (by omega) (by assumption) (j := j) (by omega) (by omega) (by assumption) | exact ck6 (by assumption) (by assumption) (out_n (by assumption) (by assumption)) (i := i) (by omega) (by omega) (by assumption) (j := j) (by omega) (by assumption) | exact ck5 (by assumption) (by assumption) (out_n (by assumption) (by assumption)) (i := i) (by omega) (by assumption))), hS.fin [] (by decide) rfl⟩
  ·have _hC1 := trivial
   have hC1p : (orderS a0 = true) := by simpa using hC1
   refine C_skip ?_
   refine E_block_normal ?_
   refine E_then (C_fr [(1, .pointer (some ⟨b2, 0, none⟩))] rfl ?_)
   refine C_seq ?_
   refine C_region ?_
   refine W_cons rfl (by decide) (Sv_val rfl (R_fld rfl rfl fld39_3) ?_)
   refine W_cons rfl (by decide) (Sv_val rfl (R_load1 rfl rfl agg36 ((hS.bx 0 rfl).cell rfl)) ?_)
   refine W_cons rfl (by decide) (Sv_val rfl (R_makeFunc rfl rfl) ?_)
   have hS := hS.bun [0] (by decide)
   refine W_cons rfl (by decide) (Sv_call rfl rfl rfl ent62 ?_)
   refine (cfc_has_calls a0.Cells Aa0_Cells ca0_Cells 63 [.pointer (some ⟨b2, 0, none⟩)] (allR [bR b2 39 [.int .i64 a0.Right, .slice Aa0_Widths a0.Widths.length ca0_Widths, .slice Aa0_Heights a0.Heights.length ca0_Heights, .slice Aa0_Cells a0.Cells.length ca0_Cells, .slice Aa0_Merges a0.Merges.length ca0_Merges]]) z (fun (x_ : TCell) => !hasS a0 (oneS x_.Row x_.Col)) _ _ (hS.out [0] (by decide)) (hra0_Cells.mono (hS.zl [0])) hca0_Cells (check1_fv b2 a0 Aa0_Widths ca0_Widths Aa0_Heights ca0_Heights Aa0_Cells ca0_Cells Aa0_Merges ca0_Merges _ hra0_Widths hca0_Widths hra0_Heights hca0_Heights hra0_Cells hca0_Cells hra0_Merges hca0_Merges) (hS.zl [0]) ).mono ?_
   rintro e_ w7 ⟨rfl, hS_⟩
   refine ⟨_, rfl, ?_⟩
   have hS := hS.call [0] (by decide) hS_
   have hS := hS.unb
   refine W_cons rfl (by decide) (Sv_val rfl (R_assign rfl rfl) ?_)
   refine W_nil ?_
   refine E_then ?_
   refine C_seq ?_
   refine C_seq ?_
   refine C_region ?_
   refine W_cons rfl (by decide) (Sv_val rfl (R_move rfl rfl) ?_)
   refine W_cons rfl (by decide) (Sv_val rfl (R_move rfl rfl) ?_)
   refine W_split (t := 21) rfl (fun hg10 => ?_) (fun hg10 => ?_)
   ·have _hg10 := trivial
    refine W_cons rfl (by decide) (Sv_off rfl rfl rfl (by rw [hg10] <;> rfl) ?_)
    refine W_cons rfl (by decide) (Sv_off rfl rfl rfl (by rw [hg10] <;> rfl) ?_)
    refine W_cons rfl (by decide) (Sv_off rfl rfl rfl (by rw [hg10] <;> rfl) ?_)
    refine W_cons rfl (by decide) (Sv_off rfl rfl rfl (by rw [hg10] <;> rfl) ?_)
    refine W_cons rfl (by decide) (Sv_val rfl (R_pick_t rfl rfl hg10 rfl) ?_)
    refine W_nil ?_
    refine E_then (C_fr [(1, .pointer (some ⟨b2, 0, none⟩)), (26, .bool true)] rfl ?_)
    refine C_if rfl rfl ?_
    refine C_seq ?_
    refine C_region ?_
    refine W_cons rfl (by decide) (Sv_val rfl (R_assign rfl rfl) ?_)
    refine W_nil ?_
    refine E_then ?_
    refine C_ret ?_
    refine E_then_ret ?_
    refine E_ret1 rfl rfl ?_
    exact ⟨Lret1 (Lint (show 4 = checkSh a0 by first | exact ck3 (by assumption) | exact ck1 (by assumption) (by assumption) | exact ck4 (by assumption) (by assumption) (out_a (by assumption)) | exact ck4 (by assumption) (by assumption) (out_b (by assumption)) | exact ck0 (by assumption) (by assumption) (out_n (by assumption) (by assumption)) (i := i) (by omega) (by omega) (by assumption) (j := j) (by omega) (by omega) (by assumption) | exact ck6 (by assumption) (by assumption) (out_n (by assumption) (by assumption)) (i := i) (by omega) (by omega) (by assumption) (j := j) (by omega) (by assumption) | exact ck5 (by assumption) (by assumption) (out_n (by assumption) (by assumption)) (i := i) (by omega) (by assumption))), hS.fin [] (by decide) rfl⟩
   ·have _hg10 := trivial
    refine W_cons rfl (by decide) (Sv_gt rfl rfl rfl hg10 (Sv_val rfl (R_fld rfl rfl fld39_4) ?_))
    refine W_cons rfl (by decide) (Sv_gt rfl rfl rfl hg10 (Sv_val rfl (R_load1 rfl rfl agg37 ((hS.bx 0 rfl).cell rfl)) ?_))
    refine W_cons rfl (by decide) (Sv_gt rfl rfl rfl hg10 (Sv_val rfl (R_makeFunc rfl rfl) ?_))
    have hS := hS.bun [0] (by decide)
    refine W_cons rfl (by decide) (Sv_gt rfl rfl rfl hg10 (Sv_call rfl rfl rfl ent64 ?_))
    refine (cfq_has_calls a0.Merges Aa0_Merges ca0_Merges 65 [.pointer (some ⟨b2, 0, none⟩)] (allR [bR b2 39 [.int .i64 a0.Right, .slice Aa0_Widths a0.Widths.length ca0_Widths, .slice Aa0_Heights a0.Heights.length ca0_Heights, .slice Aa0_Cells a0.Cells.length ca0_Cells, .slice Aa0_Merges a0.Merges.length ca0_Merges]]) z (fun (x_ : TRect) => !hasS a0 x_) _ _ (hS.out [0] (by decide)) (hra0_Merges.mono (hS.zl [0])) hca0_Merges (check2_fv b2 a0 Aa0_Widths ca0_Widths Aa0_Heights ca0_Heights Aa0_Cells ca0_Cells Aa0_Merges ca0_Merges _ hra0_Widths hca0_Widths hra0_Heights hca0_Heights hra0_Cells hca0_Cells hra0_Merges hca0_Merges) (hS.zl [0]) ).mono ?_
    rintro e_ w11 ⟨rfl, hS_⟩
    refine ⟨_, rfl, ?_⟩
    have hS := hS.call [0] (by decide) hS_
    have hS := hS.unb
    refine W_cons rfl (by decide) (Sv_val rfl (R_pick_f rfl rfl hg10 rfl) ?_)
    refine W_nil ?_
    refine E_then (C_fr [(1, .pointer (some ⟨b2, 0, none⟩)), (26, .bool (hasF (fun (x_ : TRect) => !hasS a0 x_) a0.Merges))] rfl ?_)
    refine C_ite rfl (fun hC2 => ?_) (fun hC2 => ?_)
    ·have _hC2 := trivial
     refine C_seq ?_
     refine C_region ?_
     refine W_cons rfl (by decide) (Sv_val rfl (R_assign rfl rfl) ?_)
     refine W_nil ?_
     refine E_then ?_
     refine C_ret ?_
     refine E_then_ret ?_
     refine E_ret1 rfl rfl ?_
     exact ⟨Lret1 (Lint (show 4 = checkSh a0 by first | exact ck3 (by assumption) | exact ck1 (by assumption) (by assumption) | exact ck4 (by assumption) (by assumption) (out_a (by assumption)) | exact ck4 (by assumption) (by assumption) (out_b (by assumption)) | exact ck0 (by assumption) (by assumption) (out_n (by assumption) (by assumption)) (i := i) (by omega) (by omega) (by assumption) (j := j) (by omega) (by omega) (by assumption) | exact ck6 (by assumption) (by assumption) (out_n (by assumption) (by assumption)) (i := i) (by omega) (by omega) (by assumption) (j := j) (by omega) (by assumption) | exact ck5 (by assumption) (by assumption) (out_n (by assumption) (by assumption)) (i := i) (by omega) (by assumption))), hS.fin [] (by decide) rfl⟩
    ·have _hC2 := trivial
     refine C_skip ?_
     refine E_then ?_
     refine C_seq ?_
     refine C_seq ?_
     refine C_region ?_
     refine W_cons rfl (by decide) (Sv_val rfl (R_fld rfl rfl fld39_4) ?_)
     refine W_cons rfl (by decide) (Sv_val rfl (R_load1 rfl rfl agg37 ((hS.bx 0 rfl).cell rfl)) ?_)
     refine W_cons rfl (by decide) (Sv_val rfl (R_len rfl rfl Try.underlying37) ?_)
     refine W_cons rfl (by decide) (Sv_val rfl (R_move rfl rfl) ?_)
     refine W_nil ?_
     refine E_then ?_
     refine C_block ?_
     refine C_fr [(1, .pointer (some ⟨b2, 0, none⟩)), (28, .slice Aa0_Merges a0.Merges.length ca0_Merges), (29, .int .i64 (a0.Merges.length : Int)), (30, .int .i64 0)] rfl ?_
     refine C_loop (fun m_ f_ w_ => ∃ (i : Nat), f_ = [(1, .pointer (some ⟨b2, 0, none⟩)), (28, .slice Aa0_Merges a0.Merges.length ca0_Merges), (29, .int .i64 (a0.Merges.length : Int)), (30, .int .i64 (i : Int))] ∧ i ≤ a0.Merges.length ∧ (List.range i).any (meetsS a0) = false ∧ m_ = a0.Merges.length - i ∧ Sp (FF []) w z w_ [bR b2 39 [.int .i64 a0.Right, .slice Aa0_Widths a0.Widths.length ca0_Widths, .slice Aa0_Heights a0.Heights.length ca0_Heights, .slice Aa0_Cells a0.Cells.length ca0_Cells, .slice Aa0_Merges a0.Merges.length ca0_Merges]]) (a0.Merges.length - (0 : Nat)) ⟨(0 : Nat), rfl, (by omega), (by rfl), rfl, hS.fin [0] (by decide) rfl⟩ ?_
     rintro m_ f_ w14 ⟨i, rfl, hI0_0, hI0_1, rfl, hS⟩
     refine C_seq ?_
     refine C_region ?_
     refine W_cons rfl (by decide) (Sv_val rfl (R_bin rfl rfl rfl rfl rfl) ?_)
     refine W_nil ?_
     refine E_then ?_
     refine C_seq ?_
     refine C_ite rfl (fun hC3 => ?_) (fun hC3 => ?_)
     ·have _hC3 := trivial
      have hC3p : (i : Int) < (a0.Merges.length : Int) := by simpa using hC3
      refine C_skip ?_
      refine E_then ?_
      refine C_seq ?_
      refine C_block ?_
      refine C_seq ?_
      refine C_region ?_
      refine W_cons rfl (by decide) (Sv_val rfl (R_move rfl rfl) ?_)
      obtain ⟨q15, csq15, hAq15, rfl, hkq15⟩ := hra0_Merges.at_ (default : TRect) (i := (i : Int)) (by omega) (by omega)
      have hkq15 : ∀ (j_ : Nat) (u_ : Value), ([.int .i64 (a0.Merges.getD i (default : TRect)).Row, .int .i64 (a0.Merges.getD i (default : TRect)).Col, .int .i64 (a0.Merges.getD i (default : TRect)).Rows, .int .i64 (a0.Merges.getD i (default : TRect)).Cols] : List Value)[j_]? = some u_ → cz z (q15.add (i * 4 + j_)) = some u_ := hkq15
      refine W_cons rfl (by decide) (Sv_val rfl (R_idx rfl rfl hAq15 rfl Try.underlying37 size33 (by omega) (by omega)) ?_)
      refine W_cons rfl (by decide) (Sv_val rfl (R_loadN (cs := [.int .i64 (a0.Merges.getD i (default : TRect)).Row, .int .i64 (a0.Merges.getD i (default : TRect)).Col, .int .i64 (a0.Merges.getD i (default : TRect)).Rows, .int .i64 (a0.Merges.getD i (default : TRect)).Cols]) rfl rfl agg33 size33 rfl (fun j u h => cell_add (hS.sub.cell (hkq15 j u h)))) ?_)
      refine W_cons rfl (by decide) (S_box hS rfl (R_alloc rfl alloc33) (fun b17 w16 hS => ?_))
      refine W_cons rfl (by decide) (Sv_val rfl (R_assign rfl rfl) ?_)
      refine W_cons0 rfl (S_store hS 0 rfl rfl rfl rfl rfl size33 (one_cons rfl (one_cons rfl (one_cons rfl (one_cons rfl one_nil)))) (Nat.le_of_ble_eq_true rfl) (fun w18 hS => ?_))
      have hS : Sp (FF []) w z w18 [bR b17 33 [.int .i64 (a0.Merges.getD i (default : TRect)).Row, .int .i64 (a0.Merges.getD i (default : TRect)).Col, .int .i64 (a0.Merges.getD i (default : TRect)).Rows, .int .i64 (a0.Merges.getD i (default : TRect)).Cols], bR b2 39 [.int .i64 a0.Right, .slice Aa0_Widths a0.Widths.length ca0_Widths, .slice Aa0_Heights a0.Heights.length ca0_Heights, .slice Aa0_Cells a0.Cells.length ca0_Cells, .slice Aa0_Merges a0.Merges.length ca0_Merges]] := hS
      refine W_nil ?_
      refine E_then ?_
      refine C_seq ?_
      refine C_region ?_
      refine W_cons rfl (by decide) (Sv_val rfl (R_fld rfl rfl fld39_4) ?_)
      refine W_cons rfl (by decide) (Sv_val rfl (R_load1 rfl rfl agg37 ((hS.bx 1 rfl).cell rfl)) ?_)
      refine W_cons rfl (by decide) (Sv_val rfl (R_move rfl rfl) ?_)
      have hrq19 := hra0_Merges.take i
      have hcq19 := hca0_Merges.take i
      refine W_cons rfl (by decide) (Sv_val rfl (R_cuth rfl rfl rfl (by kernel_rfl) (size33 _) hca0_Merges (by omega) (by omega)) ?_)
      refine W_cons rfl (by decide) (Sv_val rfl (R_makeFunc rfl rfl) ?_)
      have hS := hS.bun [0] (by decide)
      refine W_cons rfl (by decide) (Sv_call rfl rfl rfl ent64 ?_)
      refine (cfq_has_calls (a0.Merges.take i) Aa0_Merges ca0_Merges 66 [.pointer (some ⟨b17, 0, none⟩)] (allR [bR b17 33 [.int .i64 (a0.Merges.getD i (default : TRect)).Row, .int .i64 (a0.Merges.getD i (default : TRect)).Col, .int .i64 (a0.Merges.getD i (default : TRect)).Rows, .int .i64 (a0.Merges.getD i (default : TRect)).Cols]]) zE (fun (x_ : TRect) => meetS x_ (a0.Merges.getD i (default : TRect))) _ _ (hS.out [0] (by decide)) (hrq19.mono (hS.zl [0])) hcq19 (check3_fv b17 (a0.Merges.getD i (default : TRect)) _ ) (zle_E _) ).mono ?_
      rintro e_ w20 ⟨rfl, hS_⟩
      refine ⟨_, rfl, ?_⟩
      have hS := hS.call [0] (by decide) hS_
      have hS := hS.unb
      refine W_nil ?_
      refine E_then (C_fr [(1, .pointer (some ⟨b2, 0, none⟩)), (28, .slice Aa0_Merges a0.Merges.length ca0_Merges), (29, .int .i64 (a0.Merges.length : Int)), (30, .int .i64 (i : Int)), (40, .bool (hasF (fun (x_ : TRect) => meetS x_ (a0.Merges.getD i (default : TRect))) (a0.Merges.take i)))] rfl ?_)
      refine C_ite rfl (fun hC4 => ?_) (fun hC4 => ?_)
      ·have _hC4 := trivial
       refine C_seq ?_
       refine C_region ?_
       refine W_cons rfl (by decide) (Sv_val rfl (R_assign rfl rfl) ?_)
       refine W_nil ?_
       refine E_then (C_fr [(2, .int .i64 5)] rfl ?_)
       refine C_ret ?_
       refine E_block_ret ?_
       refine E_then_ret ?_
       refine E_then_ret ?_
       refine E_block_ret ?_
       refine E_then_ret ?_
       refine E_ret1 rfl rfl ?_
       exact ⟨Lret1 (Lint (show 5 = checkSh a0 by first | exact ck3 (by assumption) | exact ck1 (by assumption) (by assumption) | exact ck4 (by assumption) (by assumption) (out_a (by assumption)) | exact ck4 (by assumption) (by assumption) (out_b (by assumption)) | exact ck0 (by assumption) (by assumption) (out_n (by assumption) (by assumption)) (i := i) (by omega) (by omega) (by assumption) (j := j) (by omega) (by omega) (by assumption) | exact ck6 (by assumption) (by assumption) (out_n (by assumption) (by assumption)) (i := i) (by omega) (by omega) (by assumption) (j := j) (by omega) (by assumption) | exact ck5 (by assumption) (by assumption) (out_n (by assumption) (by assumption)) (i := i) (by omega) (by assumption))), hS.fin [] (by decide) rfl⟩
      ·have _hC4 := trivial
       refine C_skip ?_
       refine E_block_normal ?_
       refine E_then ?_
       refine C_region ?_
       refine W_cons rfl (by decide) (Sv_val rfl (R_add64 rfl rfl rfl (by omega) (by omega)) ?_)
       refine W_cons rfl (by decide) (Sv_val rfl (R_move rfl rfl) ?_)
       refine W_nil ?_
       refine E_round [1, 28, 29, 30] ?_ ⟨(i + 1 : Nat), rfl, (by omega), (by exact range_any_next hI0_1 (by simp_all [meetsS])), rfl, hS.fin [1] (by decide) rfl⟩
       omega
     ·have _hC3 := trivial
      have hC3p : ¬ ((i : Int) < (a0.Merges.length : Int)) := by simpa using hC3
      refine C_exit ?_
      refine E_then_exit ?_
      refine E_then_exit ?_
      refine E_block_hit ?_
      refine E_then ?_
      refine C_seq ?_
      refine C_seq ?_
      refine C_region ?_
      refine W_cons rfl (by decide) (Sv_val rfl (R_fld rfl rfl fld39_3) ?_)
      refine W_cons rfl (by decide) (Sv_val rfl (R_load1 rfl rfl agg36 ((hS.bx 0 rfl).cell rfl)) ?_)
      refine W_cons rfl (by decide) (Sv_val rfl (R_len rfl rfl Try.underlying36) ?_)
      refine W_cons rfl (by decide) (Sv_val rfl (R_move rfl rfl) ?_)
      refine W_nil ?_
      refine E_then (C_fr [(1, .pointer (some ⟨b2, 0, none⟩)), (43, .slice Aa0_Cells a0.Cells.length ca0_Cells), (44, .int .i64 (a0.Cells.length : Int)), (45, .int .i64 0)] rfl ?_)
      refine C_block ?_
      refine C_fr [(1, .pointer (some ⟨b2, 0, none⟩)), (43, .slice Aa0_Cells a0.Cells.length ca0_Cells), (44, .int .i64 (a0.Cells.length : Int)), (45, .int .i64 0)] rfl ?_
      refine C_loop (fun m_ f_ w_ => ∃ (j : Nat), f_ = [(1, .pointer (some ⟨b2, 0, none⟩)), (43, .slice Aa0_Cells a0.Cells.length ca0_Cells), (44, .int .i64 (a0.Cells.length : Int)), (45, .int .i64 (j : Int))] ∧ j ≤ a0.Cells.length ∧ (List.range j).any (underS a0) = false ∧ m_ = a0.Cells.length - j ∧ Sp (FF []) w z w_ [bR b2 39 [.int .i64 a0.Right, .slice Aa0_Widths a0.Widths.length ca0_Widths, .slice Aa0_Heights a0.Heights.length ca0_Heights, .slice Aa0_Cells a0.Cells.length ca0_Cells, .slice Aa0_Merges a0.Merges.length ca0_Merges]]) (a0.Cells.length - (0 : Nat)) ⟨(0 : Nat), rfl, (by omega), (by rfl), rfl, hS.fin [0] (by decide) rfl⟩ ?_
      rintro m_ f_ w23 ⟨j, rfl, hI1_0, hI1_1, rfl, hS⟩
      refine C_seq ?_
      refine C_region ?_
      refine W_cons rfl (by decide) (Sv_val rfl (R_bin rfl rfl rfl rfl rfl) ?_)
      refine W_nil ?_
      refine E_then ?_
      refine C_seq ?_
      refine C_ite rfl (fun hC5 => ?_) (fun hC5 => ?_)
      ·have _hC5 := trivial
       have hC5p : (j : Int) < (a0.Cells.length : Int) := by simpa using hC5
       refine C_skip ?_
       refine E_then ?_
       refine C_seq ?_
       refine C_block ?_
       refine C_seq ?_
       refine C_region ?_
       obtain ⟨q24, csq24, hAq24, rfl, hkq24⟩ := hra0_Cells.at_ (default : TCell) (i := (j : Int)) (by omega) (by omega)
       have hkq24 : ∀ (j_ : Nat) (u_ : Value), ([.int .i64 (a0.Cells.getD j (default : TCell)).Row, .int .i64 (a0.Cells.getD j (default : TCell)).Col, vstr (a0.Cells.getD j (default : TCell)).Text, .int .i64 (a0.Cells.getD j (default : TCell)).Style.Align, .int .i64 (a0.Cells.getD j (default : TCell)).Style.Wrap, .int .i64 (a0.Cells.getD j (default : TCell)).Style.Dir] : List Value)[j_]? = some u_ → cz z (q24.add (j * 6 + j_)) = some u_ := hkq24
       refine W_cons rfl (by decide) (Sv_val rfl (R_idx rfl rfl hAq24 rfl Try.underlying36 size46 (by omega) (by omega)) ?_)
       refine W_cons rfl (by decide) (Sv_val rfl (R_loadN (cs := [.int .i64 (a0.Cells.getD j (default : TCell)).Row, .int .i64 (a0.Cells.getD j (default : TCell)).Col, vstr (a0.Cells.getD j (default : TCell)).Text, .int .i64 (a0.Cells.getD j (default : TCell)).Style.Align, .int .i64 (a0.Cells.getD j (default : TCell)).Style.Wrap, .int .i64 (a0.Cells.getD j (default : TCell)).Style.Dir]) rfl rfl agg46 size46 rfl (fun j u h => cell_add (hS.sub.cell (hkq24 j u h)))) ?_)
       refine W_cons rfl (by decide) (S_box hS rfl (R_alloc rfl alloc46) (fun b26 w25 hS => ?_))
       refine W_cons0 rfl (S_store hS 0 rfl rfl rfl rfl rfl size46 (one_cons rfl (one_cons rfl (one_cons rfl (one_cons rfl (one_cons rfl (one_cons rfl one_nil)))))) (Nat.le_of_ble_eq_true rfl) (fun w27 hS => ?_))
       have hS : Sp (FF []) w z w27 [bR b26 46 [.int .i64 (a0.Cells.getD j (default : TCell)).Row, .int .i64 (a0.Cells.getD j (default : TCell)).Col, vstr (a0.Cells.getD j (default : TCell)).Text, .int .i64 (a0.Cells.getD j (default : TCell)).Style.Align, .int .i64 (a0.Cells.getD j (default : TCell)).Style.Wrap, .int .i64 (a0.Cells.getD j (default : TCell)).Style.Dir], bR b2 39 [.int .i64 a0.Right, .slice Aa0_Widths a0.Widths.length ca0_Widths, .slice Aa0_Heights a0.Heights.length ca0_Heights, .slice Aa0_Cells a0.Cells.length ca0_Cells, .slice Aa0_Merges a0.Merges.length ca0_Merges]] := hS
       refine W_nil ?_
       refine E_then ?_
       refine C_seq ?_
       refine C_fr [(1, .pointer (some ⟨b2, 0, none⟩)), (7, .pointer (some ⟨b26, 0, none⟩)), (43, .slice Aa0_Cells a0.Cells.length ca0_Cells), (44, .int .i64 (a0.Cells.length : Int)), (45, .int .i64 (j : Int))] rfl ?_
       refine C_drawn2 10 [[], [0], [], [], [3], [], [5], [2, 4, 6, 1], [7, 7], [1, 8]] [some 49, some 50, some 51, some 52, some 53, some 54, some 55, some 56, some 57, some 58] [1, 7, 43, 44, 45] (List.replicate 10 10) (List.replicate 10 []) (List.replicate 10 []) [fun γ_ => .agg #[.int .i64 (a0.Cells.getD j (default : TCell)).Row, .int .i64 (a0.Cells.getD j (default : TCell)).Col, vstr (a0.Cells.getD j (default : TCell)).Text, .int .i64 (a0.Cells.getD j (default : TCell)).Style.Align, .int .i64 (a0.Cells.getD j (default : TCell)).Style.Wrap, .int .i64 (a0.Cells.getD j (default : TCell)).Style.Dir], fun γ_ => .agg #[.int .i64 (spotS (a0.Cells.getD j (default : TCell))).e0, .int .i64 (spotS (a0.Cells.getD j (default : TCell))).e1], fun γ_ => .agg #[.int .i64 a0.Right, .slice Aa0_Widths a0.Widths.length ca0_Widths, .slice Aa0_Heights a0.Heights.length ca0_Heights, .slice Aa0_Cells a0.Cells.length ca0_Cells, .slice Aa0_Merges a0.Merges.length ca0_Merges], fun γ_ => .pointer (some ⟨b26, 0, none⟩), fun γ_ => .int .i64 (a0.Cells.getD j (default : TCell)).Row, fun γ_ => .pointer (some ⟨b26, 1, none⟩), fun γ_ => .int .i64 (a0.Cells.getD j (default : TCell)).Col, fun γ_ => .agg #[.int .i64 (aroundS a0 (a0.Cells.getD j (default : TCell)).Row (a0.Cells.getD j (default : TCell)).Col).Row, .int .i64 (aroundS a0 (a0.Cells.getD j (default : TCell)).Row (a0.Cells.getD j (default : TCell)).Col).Col, .int .i64 (aroundS a0 (a0.Cells.getD j (default : TCell)).Row (a0.Cells.getD j (default : TCell)).Col).Rows, .int .i64 (aroundS a0 (a0.Cells.getD j (default : TCell)).Row (a0.Cells.getD j (default : TCell)).Col).Cols], fun γ_ => .agg #[.int .i64 (cornerS (aroundS a0 (a0.Cells.getD j (default : TCell)).Row (a0.Cells.getD j (default : TCell)).Col)).e0, .int .i64 (cornerS (aroundS a0 (a0.Cells.getD j (default : TCell)).Row (a0.Cells.getD j (default : TCell)).Col)).e1], fun γ_ => .bool (!decide ((spotS (a0.Cells.getD j (default : TCell))) = (cornerS (aroundS a0 (a0.Cells.getD j (default : TCell)).Row (a0.Cells.getD j (default : TCell)).Col))))] (List.replicate 10 (fun _ => [])) rfl (by kernel_rfl) (by decide +kernel) hS ?_ ?_
       ·refine ⟨fun g_ w34 fr35 hS => Sv_val rfl (R_loadN (cs := [.int .i64 (a0.Cells.getD j (default : TCell)).Row, .int .i64 (a0.Cells.getD j (default : TCell)).Col, vstr (a0.Cells.getD j (default : TCell)).Text, .int .i64 (a0.Cells.getD j (default : TCell)).Style.Align, .int .i64 (a0.Cells.getD j (default : TCell)).Style.Wrap, .int .i64 (a0.Cells.getD j (default : TCell)).Style.Dir]) rfl rfl agg46 size46 rfl (boxcells (hS.bx 0 rfl) 0 rfl)) ⟨gh0, rfl, hS⟩, ?_⟩
        refine ⟨fun g_ w36 fr37 hS => ?_, ?_⟩
        ·have _w36 := trivial
         have hS : Sp (FF []) w z w36 [bR b26 46 [.int .i64 (a0.Cells.getD j (default : TCell)).Row, .int .i64 (a0.Cells.getD j (default : TCell)).Col, vstr (a0.Cells.getD j (default : TCell)).Text, .int .i64 (a0.Cells.getD j (default : TCell)).Style.Align, .int .i64 (a0.Cells.getD j (default : TCell)).Style.Wrap, .int .i64 (a0.Cells.getD j (default : TCell)).Style.Dir], bR b2 39 [.int .i64 a0.Right, .slice Aa0_Widths a0.Widths.length ca0_Widths, .slice Aa0_Heights a0.Heights.length ca0_Heights, .slice Aa0_Cells a0.Cells.length ca0_Cells, .slice Aa0_Merges a0.Merges.length ca0_Merges], allR fr37] := hS
         refine Sv_call rfl rfl rfl ent58 ?_
         refine (spot_calls (a0.Cells.getD j (default : TCell)) _ _ hS.out0  ).mono ?_
         rintro e_ w38 ⟨rfl, hS_⟩
         refine ⟨_, rfl, ?_⟩
         have hS := hS.call0 hS_
         exact ⟨⟨fun _ => none, fun _ => 0, fun _ => zE, fun _ => 0⟩, rfl, hS.fin [0, 1, 2] (by decide) rfl⟩
        refine ⟨fun g_ w40 fr41 hS => Sv_val rfl (R_loadN (cs := [.int .i64 a0.Right, .slice Aa0_Widths a0.Widths.length ca0_Widths, .slice Aa0_Heights a0.Heights.length ca0_Heights, .slice Aa0_Cells a0.Cells.length ca0_Cells, .slice Aa0_Merges a0.Merges.length ca0_Merges]) rfl rfl agg39 size39 rfl (boxcells (hS.bx 1 rfl) 0 rfl)) ⟨gh0, rfl, hS⟩, ?_⟩
        refine ⟨fun g_ w42 fr43 hS => Sv_val rfl (R_fld rfl rfl fld46_0) ⟨gh0, rfl, hS⟩, ?_⟩
        refine ⟨fun g_ w44 fr45 hS => Sv_val rfl (R_load1 rfl rfl agg3 ((hS.bx 0 rfl).cell rfl)) ⟨gh0, rfl, hS⟩, ?_⟩
        refine ⟨fun g_ w46 fr47 hS => Sv_val rfl (R_fld rfl rfl fld46_1) ⟨gh0, rfl, hS⟩, ?_⟩
        refine ⟨fun g_ w48 fr49 hS => Sv_val rfl (R_load1 rfl rfl agg3 ((hS.bx 0 rfl).cell rfl)) ⟨gh0, rfl, hS⟩, ?_⟩
        refine ⟨fun g_ w50 fr51 hS => ?_, ?_⟩
        ·have _w50 := trivial
         have hS : Sp (FF []) w z w50 [bR b26 46 [.int .i64 (a0.Cells.getD j (default : TCell)).Row, .int .i64 (a0.Cells.getD j (default : TCell)).Col, vstr (a0.Cells.getD j (default : TCell)).Text, .int .i64 (a0.Cells.getD j (default : TCell)).Style.Align, .int .i64 (a0.Cells.getD j (default : TCell)).Style.Wrap, .int .i64 (a0.Cells.getD j (default : TCell)).Style.Dir], bR b2 39 [.int .i64 a0.Right, .slice Aa0_Widths a0.Widths.length ca0_Widths, .slice Aa0_Heights a0.Heights.length ca0_Heights, .slice Aa0_Cells a0.Cells.length ca0_Cells, .slice Aa0_Merges a0.Merges.length ca0_Merges], allR fr51] := hS
         refine Sv_call rfl rfl rfl ent53 ?_
         refine (around_calls a0 Aa0_Widths ca0_Widths Aa0_Heights ca0_Heights Aa0_Cells ca0_Cells Aa0_Merges ca0_Merges (a0.Cells.getD j (default : TCell)).Row (a0.Cells.getD j (default : TCell)).Col _ _ hS.out0 (hra0_Widths.mono (hS.zl [])) hca0_Widths (hra0_Heights.mono (hS.zl [])) hca0_Heights (hra0_Cells.mono (hS.zl [])) hca0_Cells (hra0_Merges.mono (hS.zl [])) hca0_Merges ).mono ?_
         rintro e_ w52 ⟨rfl, hS_⟩
         refine ⟨_, rfl, ?_⟩
         have hS := hS.call0 hS_
         exact ⟨⟨fun _ => none, fun _ => 0, fun _ => zE, fun _ => 0⟩, rfl, hS.fin [0, 1, 2] (by decide) rfl⟩
        refine ⟨fun g_ w54 fr55 hS => ?_, ?_⟩
        ·have _w54 := trivial
         have hS : Sp (FF []) w z w54 [bR b26 46 [.int .i64 (a0.Cells.getD j (default : TCell)).Row, .int .i64 (a0.Cells.getD j (default : TCell)).Col, vstr (a0.Cells.getD j (default : TCell)).Text, .int .i64 (a0.Cells.getD j (default : TCell)).Style.Align, .int .i64 (a0.Cells.getD j (default : TCell)).Style.Wrap, .int .i64 (a0.Cells.getD j (default : TCell)).Style.Dir], bR b2 39 [.int .i64 a0.Right, .slice Aa0_Widths a0.Widths.length ca0_Widths, .slice Aa0_Heights a0.Heights.length ca0_Heights, .slice Aa0_Cells a0.Cells.length ca0_Cells, .slice Aa0_Merges a0.Merges.length ca0_Merges], allR fr55] := hS
         refine Sv_call rfl rfl rfl ent59 ?_
         refine (corner_calls (aroundS a0 (a0.Cells.getD j (default : TCell)).Row (a0.Cells.getD j (default : TCell)).Col) _ _ hS.out0  ).mono ?_
         rintro e_ w56 ⟨rfl, hS_⟩
         refine ⟨_, rfl, ?_⟩
         have hS := hS.call0 hS_
         exact ⟨⟨fun _ => none, fun _ => 0, fun _ => zE, fun _ => 0⟩, rfl, hS.fin [0, 1, 2] (by decide) rfl⟩
        refine ⟨fun g_ w58 fr59 hS => Sv_val rfl (R_neqv rfl rfl rfl eqg75 ((eqv75 (spotS (a0.Cells.getD j (default : TCell))) (cornerS (aroundS a0 (a0.Cells.getD j (default : TCell)).Row (a0.Cells.getD j (default : TCell)).Col))).up 2)) ⟨gh0, rfl, hS⟩, ?_⟩
        exact trivial
       ·intro g_ w60 hS
        have hS : Sp (FF []) w z w60 [bR b26 46 [.int .i64 (a0.Cells.getD j (default : TCell)).Row, .int .i64 (a0.Cells.getD j (default : TCell)).Col, vstr (a0.Cells.getD j (default : TCell)).Text, .int .i64 (a0.Cells.getD j (default : TCell)).Style.Align, .int .i64 (a0.Cells.getD j (default : TCell)).Style.Wrap, .int .i64 (a0.Cells.getD j (default : TCell)).Style.Dir], bR b2 39 [.int .i64 a0.Right, .slice Aa0_Widths a0.Widths.length ca0_Widths, .slice Aa0_Heights a0.Heights.length ca0_Heights, .slice Aa0_Cells a0.Cells.length ca0_Cells, .slice Aa0_Merges a0.Merges.length ca0_Merges]] := hS
        refine An_fr [(1, .pointer (some ⟨b2, 0, none⟩)), (7, .pointer (some ⟨b26, 0, none⟩)), (43, .slice Aa0_Cells a0.Cells.length ca0_Cells), (44, .int .i64 (a0.Cells.length : Int)), (45, .int .i64 (j : Int)), (58, .bool (!decide ((spotS (a0.Cells.getD j (default : TCell))) = (cornerS (aroundS a0 (a0.Cells.getD j (default : TCell)).Row (a0.Cells.getD j (default : TCell)).Col)))))] rfl ?_
        refine An_done (by decide +kernel) ?_
        refine E_then ?_
        refine C_ite rfl (fun hC6 => ?_) (fun hC6 => ?_)
        ·have _hC6 := trivial
         have hC6p : ¬ (spotS (a0.Cells.getD j (default : TCell))) = (cornerS (aroundS a0 (a0.Cells.getD j (default : TCell)).Row (a0.Cells.getD j (default : TCell)).Col)) := by simpa using hC6
         refine C_seq ?_
         refine C_region ?_
         refine W_cons rfl (by decide) (Sv_val rfl (R_assign rfl rfl) ?_)
         refine W_nil ?_
         refine E_then (C_fr [(2, .int .i64 6)] rfl ?_)
         refine C_ret ?_
         refine E_block_ret ?_
         refine E_then_ret ?_
         refine E_then_ret ?_
         refine E_block_ret ?_
         refine E_then_ret ?_
         refine E_ret1 rfl rfl ?_
         exact ⟨Lret1 (Lint (show 6 = checkSh a0 by first | exact ck3 (by assumption) | exact ck1 (by assumption) (by assumption) | exact ck4 (by assumption) (by assumption) (out_a (by assumption)) | exact ck4 (by assumption) (by assumption) (out_b (by assumption)) | exact ck0 (by assumption) (by assumption) (out_n (by assumption) (by assumption)) (i := i) (by omega) (by omega) (by assumption) (j := j) (by omega) (by omega) (by assumption) | exact ck6 (by assumption) (by assumption) (out_n (by assumption) (by assumption)) (i := i) (by omega) (by omega) (by assumption) (j := j) (by omega) (by assumption) | exact ck5 (by assumption) (by assumption) (out_n (by assumption) (by assumption)) (i := i) (by omega) (by assumption))), hS.fin [] (by decide) rfl⟩
        ·have _hC6 := trivial
         have hC6p : (spotS (a0.Cells.getD j (default : TCell))) = (cornerS (aroundS a0 (a0.Cells.getD j (default : TCell)).Row (a0.Cells.getD j (default : TCell)).Col)) := by simpa using hC6
         refine C_skip ?_
         refine E_block_normal ?_
         refine E_then ?_
         refine C_region ?_
         refine W_cons rfl (by decide) (Sv_val rfl (R_add64 rfl rfl rfl (by omega) (by omega)) ?_)
         refine W_cons rfl (by decide) (Sv_val rfl (R_move rfl rfl) ?_)
         refine W_nil ?_
         refine E_round [1, 43, 44, 45] ?_ ⟨(j + 1 : Nat), rfl, (by omega), (by exact range_any_next hI1_1 (by simp_all [underS])), rfl, hS.fin [1] (by decide) rfl⟩
         omega
      ·have _hC5 := trivial
       have hC5p : ¬ ((j : Int) < (a0.Cells.length : Int)) := by simpa using hC5
       refine C_exit ?_
       refine E_then_exit ?_
       refine E_then_exit ?_
       refine E_block_hit ?_
       refine E_then (C_fr [] rfl ?_)
       refine C_seq ?_
       refine C_region ?_
       refine W_cons rfl (by decide) (Sv_val rfl (R_assign rfl rfl) ?_)
       refine W_nil ?_
       refine E_then ?_
       refine C_ret ?_
       refine E_ret1 rfl rfl ?_
       exact ⟨Lret1 (Lint (show 0 = checkSh a0 by first | exact ck3 (by assumption) | exact ck1 (by assumption) (by assumption) | exact ck4 (by assumption) (by assumption) (out_a (by assumption)) | exact ck4 (by assumption) (by assumption) (out_b (by assumption)) | exact ck0 (by assumption) (by assumption) (out_n (by assumption) (by assumption)) (i := i) (by omega) (by omega) (by assumption) (j := j) (by omega) (by omega) (by assumption) | exact ck6 (by assumption) (by assumption) (out_n (by assumption) (by assumption)) (i := i) (by omega) (by omega) (by assumption) (j := j) (by omega) (by assumption) | exact ck5 (by assumption) (by assumption) (out_n (by assumption) (by assumption)) (i := i) (by omega) (by assumption))), hS.fin [] (by decide) rfl⟩

set_option maxHeartbeats 400000 in
set_option maxRecDepth 20000 in
theorem region_calls (a0 : TSheet) (Aa0_Widths : Option Addr) (ca0_Widths : Nat) (Aa0_Heights : Option Addr) (ca0_Heights : Nat) (Aa0_Cells : Option Addr) (ca0_Cells : Nat) (Aa0_Merges : Option Addr) (ca0_Merges : Nat) (a1 : Int) (a2 : Int) (z : Z) (w : World) (hI : In z w []) (hra0_Widths : Rd (kint .i64) z Aa0_Widths a0.Widths) (hca0_Widths : Cap Aa0_Widths a0.Widths.length ca0_Widths) (hra0_Heights : Rd (kint .i64) z Aa0_Heights a0.Heights) (hca0_Heights : Cap Aa0_Heights a0.Heights.length ca0_Heights) (hra0_Cells : Rd kdTCell z Aa0_Cells a0.Cells) (hca0_Cells : Cap Aa0_Cells a0.Cells.length ca0_Cells) (hra0_Merges : Rd kdTRect z Aa0_Merges a0.Merges) (hca0_Merges : Cap Aa0_Merges a0.Merges.length ca0_Merges)  :
    Calls Try.prog 31 #[.agg #[.int .i64 a0.Right, .slice Aa0_Widths a0.Widths.length ca0_Widths, .slice Aa0_Heights a0.Heights.length ca0_Heights, .slice Aa0_Cells a0.Cells.length ca0_Cells, .slice Aa0_Merges a0.Merges.length ca0_Merges], .int .i64 a1, .int .i64 a2] w fun e w' => e = .returned (.tuple #[.agg #[.int .i64 (regionS a0 a1 a2).1.Row, .int .i64 (regionS a0 a1 a2).1.Col, .int .i64 (regionS a0 a1 a2).1.Rows, .int .i64 (regionS a0 a1 a2).1.Cols], .int .i64 (regionS a0 a1 a2).2]) ∧ Sp (FF []) w z w' [] := by
 have hla0_Widths := hca0_Widths.le
 have hma0_Widths := hca0_Widths.mx
 have hla0_Heights := hca0_Heights.le
 have hma0_Heights := hca0_Heights.mx
 have hla0_Cells := hca0_Cells.le
 have hma0_Cells := hca0_Cells.mx
 have hla0_Merges := hca0_Merges.le
 have hma0_Merges := hca0_Merges.mx
 have hS := hI.sp
 refine Calls_of (vs := [.agg #[.int .i64 a0.Right, .slice Aa0_Widths a0.Widths.length ca0_Widths, .slice Aa0_Heights a0.Heights.length ca0_Heights, .slice Aa0_Cells a0.Cells.length ca0_Cells, .slice Aa0_Merges a0.Merges.length ca0_Merges], .int .i64 a1, .int .i64 a2]) (N := 25) Try.func31 rfl rfl (Nat.le_of_ble_eq_true rfl) ?_
 refine C_seq ?_
 refine C_region ?_
 refine W_cons rfl (by decide) (S_box hS rfl (R_box (cs := [.int .i64 a0.Right, .slice Aa0_Widths a0.Widths.length ca0_Widths, .slice Aa0_Heights a0.Heights.length ca0_Heights, .slice Aa0_Cells a0.Cells.length ca0_Cells, .slice Aa0_Merges a0.Merges.length ca0_Merges]) rfl rfl rfl) (fun b2 w1 hS => ?_))
 refine W_cons rfl (by decide) (S_box hS rfl (R_alloc rfl alloc33) (fun b4 w3 hS => ?_))
 refine W_cons rfl (by decide) (Sv_val rfl (R_assign rfl rfl) ?_)
 refine W_nil ?_
 refine E_then ?_
 refine C_seq ?_
 refine C_block ?_
 refine C_seq ?_
 refine C_region ?_
 refine W_cons rfl (by decide) (Sv_val rfl (R_loadN (cs := [.int .i64 a0.Right, .slice Aa0_Widths a0.Widths.length ca0_Widths, .slice Aa0_Heights a0.Heights.length ca0_Heights, .slice Aa0_Cells a0.Cells.length ca0_Cells, .slice Aa0_Merges a0.Merges.length ca0_Merges]) rfl rfl agg39 size39 rfl (boxcells (hS.bx 1 rfl) 0 rfl)) ?_)
 refine W_cons rfl (by decide) (Sv_call rfl rfl rfl ent35 ?_)
 refine (check_calls a0 Aa0_Widths ca0_Widths Aa0_Heights ca0_Heights Aa0_Cells ca0_Cells Aa0_Merges ca0_Merges _ _ hS.out0 (hra0_Widths.mono (hS.zl [])) hca0_Widths (hra0_Heights.mono (hS.zl [])) hca0_Heights (hra0_Cells.mono (hS.zl [])) hca0_Cells (hra0_Merges.mono (hS.zl [])) hca0_Merges ).mono ?_
 rintro e_ w5 ⟨rfl, hS_⟩
 refine ⟨_, rfl, ?_⟩
 have hS := hS.call0 hS_
 refine W_cons rfl (by decide) (Sv_val rfl (R_bin rfl rfl rfl rfl rfl) ?_)
 refine W_cons rfl (by decide) (Sv_val rfl (R_assign rfl rfl) ?_)
 refine W_nil ?_
 refine E_then (C_fr [(1, .int .i64 a1), (2, .int .i64 a2), (3, .pointer (some ⟨b2, 0, none⟩)), (6, .pointer (some ⟨b4, 0, none⟩)), (8, .bool ((checkSh a0) != 0))] rfl ?_)
 refine C_ite rfl (fun hC0 => ?_) (fun hC0 => ?_)
 ·have _hC0 := trivial
  have hC0p : ¬ (checkSh a0) = 0 := by simpa using hC0
  refine C_seq ?_
  refine C_region ?_
  refine W_cons rfl (by decide) (Sv_val rfl (R_build (w' := w5) (ps := []) (vs := []) (r := .agg #[.int .i64 0, .int .i64 0, .int .i64 0, .int .i64 0]) rfl rfl rfl (by kernel_rfl)) ?_)
  refine W_cons0 rfl (S_store hS 0 rfl rfl rfl rfl rfl size33 (one_cons rfl (one_cons rfl (one_cons rfl (one_cons rfl one_nil)))) (Nat.le_of_ble_eq_true rfl) (fun w7 hS => ?_))
  have hS : Sp (FF []) w z w7 [bR b4 33 [.int .i64 0, .int .i64 0, .int .i64 0, .int .i64 0], bR b2 39 [.int .i64 a0.Right, .slice Aa0_Widths a0.Widths.length ca0_Widths, .slice Aa0_Heights a0.Heights.length ca0_Heights, .slice Aa0_Cells a0.Cells.length ca0_Cells, .slice Aa0_Merges a0.Merges.length ca0_Merges]] := hS
  refine W_cons rfl (by decide) (Sv_val rfl (R_assign rfl rfl) ?_)
  refine W_nil ?_
  refine E_then (C_fr [(6, .pointer (some ⟨b4, 0, none⟩)), (7, .int .i64 1)] rfl ?_)
  refine C_ret ?_
  refine E_block_ret ?_
  refine E_then_ret ?_
  refine E_rv2 rfl (RV_cellN (cs := [.int .i64 0, .int .i64 0, .int .i64 0, .int .i64 0]) rfl agg33 size33 rfl (boxcells (hS.bx 0 rfl) 0 rfl)) (RV_tmp rfl) ?_
  exact ⟨Lret2 (show (.agg #[.int .i64 0, .int .i64 0, .int .i64 0, .int .i64 0] : Value) = .agg #[.int .i64 (regionS a0 a1 a2).1.Row, .int .i64 (regionS a0 a1 a2).1.Col, .int .i64 (regionS a0 a1 a2).1.Rows, .int .i64 (regionS a0 a1 a2).1.Cols] by unfold regionS; simp_all) (Lint (show 1 = (regionS a0 a1 a2).2 by unfold regionS; simp_all)), hS.fin [] (by decide) rfl⟩
 ·have _hC0 := trivial
  have hC0p : (checkSh a0) = 0 := by simpa using hC0
  refine C_seq ?_
  refine C_fr [(1, .int .i64 a1), (2, .int .i64 a2), (3, .pointer (some ⟨b2, 0, none⟩)), (6, .pointer (some ⟨b4, 0, none⟩))] rfl ?_
  refine C_drawn2 7 [[], [], [], [1, 2], [0, 3, 3], [4], [5, 4]] [some 14, some 15, some 16, some 17, some 18, some 19, some 13] [1, 2, 3, 6] (List.replicate 7 7) (List.replicate 7 []) (List.replicate 7 []) [fun γ_ => .agg #[.int .i64 a0.Right, .slice Aa0_Widths a0.Widths.length ca0_Widths, .slice Aa0_Heights a0.Heights.length ca0_Heights, .slice Aa0_Cells a0.Cells.length ca0_Cells, .slice Aa0_Merges a0.Merges.length ca0_Merges], fun γ_ => .int .i64 a1, fun γ_ => .int .i64 a2, fun γ_ => .agg #[.int .i64 (oneS a1 a2).Row, .int .i64 (oneS a1 a2).Col, .int .i64 (oneS a1 a2).Rows, .int .i64 (oneS a1 a2).Cols], fun γ_ => .bool (hasS a0 (oneS a1 a2)), fun γ_ => .bool (!(hasS a0 (oneS a1 a2))), fun γ_ => .bool (!(hasS a0 (oneS a1 a2)))] (List.replicate 7 (fun _ => [])) rfl (by kernel_rfl) (by decide +kernel) hS ?_ ?_
  ·refine ⟨fun g_ w12 fr13 hS => Sv_val rfl (R_loadN (cs := [.int .i64 a0.Right, .slice Aa0_Widths a0.Widths.length ca0_Widths, .slice Aa0_Heights a0.Heights.length ca0_Heights, .slice Aa0_Cells a0.Cells.length ca0_Cells, .slice Aa0_Merges a0.Merges.length ca0_Merges]) rfl rfl agg39 size39 rfl (boxcells (hS.bx 1 rfl) 0 rfl)) ⟨gh0, rfl, hS⟩, ?_⟩
   refine ⟨fun g_ w14 fr15 hS => Sv_val rfl (R_move rfl rfl) ⟨gh0, rfl, hS⟩, ?_⟩
   refine ⟨fun g_ w16 fr17 hS => Sv_val rfl (R_move rfl rfl) ⟨gh0, rfl, hS⟩, ?_⟩
   refine ⟨fun g_ w18 fr19 hS => ?_, ?_⟩
   ·have _w18 := trivial
    have hS : Sp (FF []) w z w18 [bR b4 33 [.int .i64 0, .int .i64 0, .int .i64 0, .int .i64 0], bR b2 39 [.int .i64 a0.Right, .slice Aa0_Widths a0.Widths.length ca0_Widths, .slice Aa0_Heights a0.Heights.length ca0_Heights, .slice Aa0_Cells a0.Cells.length ca0_Cells, .slice Aa0_Merges a0.Merges.length ca0_Merges], allR fr19] := hS
    refine Sv_call rfl rfl rfl ent52 ?_
    refine (one_calls a1 a2 _ _ hS.out0  ).mono ?_
    rintro e_ w20 ⟨rfl, hS_⟩
    refine ⟨_, rfl, ?_⟩
    have hS := hS.call0 hS_
    exact ⟨⟨fun _ => none, fun _ => 0, fun _ => zE, fun _ => 0⟩, rfl, hS.fin [0, 1, 2] (by decide) rfl⟩
   refine ⟨fun g_ w22 fr23 hS => ?_, ?_⟩
   ·have _w22 := trivial
    have hS : Sp (FF []) w z w22 [bR b4 33 [.int .i64 0, .int .i64 0, .int .i64 0, .int .i64 0], bR b2 39 [.int .i64 a0.Right, .slice Aa0_Widths a0.Widths.length ca0_Widths, .slice Aa0_Heights a0.Heights.length ca0_Heights, .slice Aa0_Cells a0.Cells.length ca0_Cells, .slice Aa0_Merges a0.Merges.length ca0_Merges], allR fr23] := hS
    refine Sv_call rfl rfl rfl ent51 ?_
    refine (hass_calls a0 Aa0_Widths ca0_Widths Aa0_Heights ca0_Heights Aa0_Cells ca0_Cells Aa0_Merges ca0_Merges (oneS a1 a2) _ _ hS.out0 (hra0_Widths.mono (hS.zl [])) hca0_Widths (hra0_Heights.mono (hS.zl [])) hca0_Heights (hra0_Cells.mono (hS.zl [])) hca0_Cells (hra0_Merges.mono (hS.zl [])) hca0_Merges ).mono ?_
    rintro e_ w24 ⟨rfl, hS_⟩
    refine ⟨_, rfl, ?_⟩
    have hS := hS.call0 hS_
    exact ⟨⟨fun _ => none, fun _ => 0, fun _ => zE, fun _ => 0⟩, rfl, hS.fin [0, 1, 2] (by decide) rfl⟩
   refine ⟨fun g_ w26 fr27 hS => Sv_val rfl (R_un rfl rfl rfl) ⟨gh0, rfl, hS⟩, ?_⟩
   refine ⟨fun g_ w28 fr29 hS => Sv_val rfl (R_assign rfl rfl) ⟨gh0, rfl, hS⟩, ?_⟩
   exact trivial
  ·intro g_ w30 hS
   have hS : Sp (FF []) w z w30 [bR b4 33 [.int .i64 0, .int .i64 0, .int .i64 0, .int .i64 0], bR b2 39 [.int .i64 a0.Right, .slice Aa0_Widths a0.Widths.length ca0_Widths, .slice Aa0_Heights a0.Heights.length ca0_Heights, .slice Aa0_Cells a0.Cells.length ca0_Cells, .slice Aa0_Merges a0.Merges.length ca0_Merges]] := hS
   refine An_fr [(1, .int .i64 a1), (2, .int .i64 a2), (3, .pointer (some ⟨b2, 0, none⟩)), (6, .pointer (some ⟨b4, 0, none⟩)), (13, .bool (!(hasS a0 (oneS a1 a2))))] rfl ?_
   refine An_done (by decide +kernel) ?_
   refine E_then ?_
   refine C_ite rfl (fun hC1 => ?_) (fun hC1 => ?_)
   ·have _hC1 := trivial
    have hC1p : ¬ (hasS a0 (oneS a1 a2) = true) := by simpa using hC1
    refine C_seq ?_
    refine C_region ?_
    refine W_cons rfl (by decide) (Sv_val rfl (R_build (w' := w30) (ps := []) (vs := []) (r := .agg #[.int .i64 0, .int .i64 0, .int .i64 0, .int .i64 0]) rfl rfl rfl (by kernel_rfl)) ?_)
    refine W_cons0 rfl (S_store hS 0 rfl rfl rfl rfl rfl size33 (one_cons rfl (one_cons rfl (one_cons rfl (one_cons rfl one_nil)))) (Nat.le_of_ble_eq_true rfl) (fun w32 hS => ?_))
    have hS : Sp (FF []) w z w32 [bR b4 33 [.int .i64 0, .int .i64 0, .int .i64 0, .int .i64 0], bR b2 39 [.int .i64 a0.Right, .slice Aa0_Widths a0.Widths.length ca0_Widths, .slice Aa0_Heights a0.Heights.length ca0_Heights, .slice Aa0_Cells a0.Cells.length ca0_Cells, .slice Aa0_Merges a0.Merges.length ca0_Merges]] := hS
    refine W_cons rfl (by decide) (Sv_val rfl (R_assign rfl rfl) ?_)
    refine W_nil ?_
    refine E_then (C_fr [(6, .pointer (some ⟨b4, 0, none⟩)), (7, .int .i64 4)] rfl ?_)
    refine C_ret ?_
    refine E_block_ret ?_
    refine E_then_ret ?_
    refine E_rv2 rfl (RV_cellN (cs := [.int .i64 0, .int .i64 0, .int .i64 0, .int .i64 0]) rfl agg33 size33 rfl (boxcells (hS.bx 0 rfl) 0 rfl)) (RV_tmp rfl) ?_
    exact ⟨Lret2 (show (.agg #[.int .i64 0, .int .i64 0, .int .i64 0, .int .i64 0] : Value) = .agg #[.int .i64 (regionS a0 a1 a2).1.Row, .int .i64 (regionS a0 a1 a2).1.Col, .int .i64 (regionS a0 a1 a2).1.Rows, .int .i64 (regionS a0 a1 a2).1.Cols] by unfold regionS; simp_all) (Lint (show 4 = (regionS a0 a1 a2).2 by unfold regionS; simp_all)), hS.fin [] (by decide) rfl⟩
   ·have _hC1 := trivial
    have hC1p : (hasS a0 (oneS a1 a2) = true) := by simpa using hC1
    refine C_skip ?_
    refine E_block_normal ?_
    refine E_then ?_
    refine C_seq ?_
    refine C_region ?_
    refine W_cons rfl (by decide) (Sv_val rfl (R_loadN (cs := [.int .i64 a0.Right, .slice Aa0_Widths a0.Widths.length ca0_Widths, .slice Aa0_Heights a0.Heights.length ca0_Heights, .slice Aa0_Cells a0.Cells.length ca0_Cells, .slice Aa0_Merges a0.Merges.length ca0_Merges]) rfl rfl agg39 size39 rfl (boxcells (hS.bx 1 rfl) 0 rfl)) ?_)
    refine W_cons rfl (by decide) (Sv_val rfl (R_move rfl rfl) ?_)
    refine W_cons rfl (by decide) (Sv_val rfl (R_move rfl rfl) ?_)
    refine W_cons rfl (by decide) (Sv_call rfl rfl rfl ent53 ?_)
    refine (around_calls a0 Aa0_Widths ca0_Widths Aa0_Heights ca0_Heights Aa0_Cells ca0_Cells Aa0_Merges ca0_Merges a1 a2 _ _ hS.out0 (hra0_Widths.mono (hS.zl [])) hca0_Widths (hra0_Heights.mono (hS.zl [])) hca0_Heights (hra0_Cells.mono (hS.zl [])) hca0_Cells (hra0_Merges.mono (hS.zl [])) hca0_Merges ).mono ?_
    rintro e_ w33 ⟨rfl, hS_⟩
    refine ⟨_, rfl, ?_⟩
    have hS := hS.call0 hS_
    refine W_cons0 rfl (S_store hS 0 rfl rfl rfl rfl rfl size33 (one_cons rfl (one_cons rfl (one_cons rfl (one_cons rfl one_nil)))) (Nat.le_of_ble_eq_true rfl) (fun w35 hS => ?_))
    have hS : Sp (FF []) w z w35 [bR b4 33 [.int .i64 (aroundS a0 a1 a2).Row, .int .i64 (aroundS a0 a1 a2).Col, .int .i64 (aroundS a0 a1 a2).Rows, .int .i64 (aroundS a0 a1 a2).Cols], bR b2 39 [.int .i64 a0.Right, .slice Aa0_Widths a0.Widths.length ca0_Widths, .slice Aa0_Heights a0.Heights.length ca0_Heights, .slice Aa0_Cells a0.Cells.length ca0_Cells, .slice Aa0_Merges a0.Merges.length ca0_Merges]] := hS
    refine W_cons rfl (by decide) (Sv_val rfl (R_assign rfl rfl) ?_)
    refine W_nil ?_
    refine E_then (C_fr [(6, .pointer (some ⟨b4, 0, none⟩)), (7, .int .i64 0)] rfl ?_)
    refine C_ret ?_
    refine E_rv2 rfl (RV_cellN (cs := [.int .i64 (aroundS a0 a1 a2).Row, .int .i64 (aroundS a0 a1 a2).Col, .int .i64 (aroundS a0 a1 a2).Rows, .int .i64 (aroundS a0 a1 a2).Cols]) rfl agg33 size33 rfl (boxcells (hS.bx 0 rfl) 0 rfl)) (RV_tmp rfl) ?_
    exact ⟨Lret2 (show (.agg #[.int .i64 (aroundS a0 a1 a2).Row, .int .i64 (aroundS a0 a1 a2).Col, .int .i64 (aroundS a0 a1 a2).Rows, .int .i64 (aroundS a0 a1 a2).Cols] : Value) = .agg #[.int .i64 (regionS a0 a1 a2).1.Row, .int .i64 (regionS a0 a1 a2).1.Col, .int .i64 (regionS a0 a1 a2).1.Rows, .int .i64 (regionS a0 a1 a2).1.Cols] by unfold regionS; simp_all) (Lint (show 0 = (regionS a0 a1 a2).2 by unfold regionS; simp_all)), hS.fin [] (by decide) rfl⟩

set_option maxHeartbeats 400000 in
set_option maxRecDepth 20000 in
theorem get1_calls (a0 : TCell) (ba1 : Nat) (a1 : TRect) (z : Z) (w : World) (hI : In z w [bR ba1 33 [.int .i64 a1.Row, .int .i64 a1.Col, .int .i64 a1.Rows, .int .i64 a1.Cols]])   :
    Calls Try.prog 57 #[.agg #[.int .i64 a0.Row, .int .i64 a0.Col, vstr a0.Text, .int .i64 a0.Style.Align, .int .i64 a0.Style.Wrap, .int .i64 a0.Style.Dir], .pointer (some ⟨ba1, 0, none⟩)] w fun e w' => e = .returned (.bool (decide (spotS a0 = cornerS a1))) ∧ Sp (FF [bR ba1 33 [.int .i64 a1.Row, .int .i64 a1.Col, .int .i64 a1.Rows, .int .i64 a1.Cols]]) w z w' [bR ba1 33 [.int .i64 a1.Row, .int .i64 a1.Col, .int .i64 a1.Rows, .int .i64 a1.Cols]] := by
 have hS := hI.sp
 refine Calls_of (vs := [.agg #[.int .i64 a0.Row, .int .i64 a0.Col, vstr a0.Text, .int .i64 a0.Style.Align, .int .i64 a0.Style.Wrap, .int .i64 a0.Style.Dir], .pointer (some ⟨ba1, 0, none⟩)]) (N := 9) Try.func57 rfl rfl (Nat.le_of_ble_eq_true rfl) ?_
 refine C_seq ?_
 refine C_region ?_
 refine W_cons rfl (by decide) (S_box hS rfl (R_box (cs := [.int .i64 a0.Row, .int .i64 a0.Col, vstr a0.Text, .int .i64 a0.Style.Align, .int .i64 a0.Style.Wrap, .int .i64 a0.Style.Dir]) rfl rfl rfl) (fun b2 w1 hS => ?_))
 refine W_cons rfl (by decide) (Sv_val rfl (R_assign rfl rfl) ?_)
 refine W_nil ?_
 refine E_then ?_
 refine C_seq ?_
 refine C_fr [(1, .pointer (some ⟨ba1, 0, none⟩)), (2, .pointer (some ⟨b2, 0, none⟩))] rfl ?_
 refine C_drawn2 6 [[], [0], [], [2, 1], [1, 3], [4, 3, 0, 1, 2, 3, 4]] [some 4, some 5, some 6, some 7, some 8, some 3] [1, 2] (List.replicate 6 6) (List.replicate 6 []) (List.replicate 6 []) [fun γ_ => .agg #[.int .i64 a0.Row, .int .i64 a0.Col, vstr a0.Text, .int .i64 a0.Style.Align, .int .i64 a0.Style.Wrap, .int .i64 a0.Style.Dir], fun γ_ => .agg #[.int .i64 (spotS a0).e0, .int .i64 (spotS a0).e1], fun γ_ => .agg #[.int .i64 a1.Row, .int .i64 a1.Col, .int .i64 a1.Rows, .int .i64 a1.Cols], fun γ_ => .agg #[.int .i64 (cornerS a1).e0, .int .i64 (cornerS a1).e1], fun γ_ => .bool (decide ((spotS a0) = (cornerS a1))), fun γ_ => .bool (decide ((spotS a0) = (cornerS a1)))] (List.replicate 6 (fun _ => [])) rfl (by kernel_rfl) (by decide +kernel) hS ?_ ?_
 ·refine ⟨fun g_ w7 fr8 hS => Sv_val rfl (R_loadN (cs := [.int .i64 a0.Row, .int .i64 a0.Col, vstr a0.Text, .int .i64 a0.Style.Align, .int .i64 a0.Style.Wrap, .int .i64 a0.Style.Dir]) rfl rfl agg46 size46 rfl (boxcells (hS.bx 0 rfl) 0 rfl)) ⟨gh0, rfl, hS⟩, ?_⟩
  refine ⟨fun g_ w9 fr10 hS => ?_, ?_⟩
  ·have _w9 := trivial
   have hS : Sp (FF [bR ba1 33 [.int .i64 a1.Row, .int .i64 a1.Col, .int .i64 a1.Rows, .int .i64 a1.Cols]]) w z w9 [bR b2 46 [.int .i64 a0.Row, .int .i64 a0.Col, vstr a0.Text, .int .i64 a0.Style.Align, .int .i64 a0.Style.Wrap, .int .i64 a0.Style.Dir], bR ba1 33 [.int .i64 a1.Row, .int .i64 a1.Col, .int .i64 a1.Rows, .int .i64 a1.Cols], allR fr10] := hS
   refine Sv_call rfl rfl rfl ent58 ?_
   refine (spot_calls a0 _ _ hS.out0  ).mono ?_
   rintro e_ w11 ⟨rfl, hS_⟩
   refine ⟨_, rfl, ?_⟩
   have hS := hS.call0 hS_
   exact ⟨⟨fun _ => none, fun _ => 0, fun _ => zE, fun _ => 0⟩, rfl, hS.fin [0, 1, 2] (by decide) rfl⟩
  refine ⟨fun g_ w13 fr14 hS => Sv_val rfl (R_loadN (cs := [.int .i64 a1.Row, .int .i64 a1.Col, .int .i64 a1.Rows, .int .i64 a1.Cols]) rfl rfl agg33 size33 rfl (boxcells (hS.bx 1 rfl) 0 rfl)) ⟨gh0, rfl, hS⟩, ?_⟩
  refine ⟨fun g_ w15 fr16 hS => ?_, ?_⟩
  ·have _w15 := trivial
   have hS : Sp (FF [bR ba1 33 [.int .i64 a1.Row, .int .i64 a1.Col, .int .i64 a1.Rows, .int .i64 a1.Cols]]) w z w15 [bR b2 46 [.int .i64 a0.Row, .int .i64 a0.Col, vstr a0.Text, .int .i64 a0.Style.Align, .int .i64 a0.Style.Wrap, .int .i64 a0.Style.Dir], bR ba1 33 [.int .i64 a1.Row, .int .i64 a1.Col, .int .i64 a1.Rows, .int .i64 a1.Cols], allR fr16] := hS
   refine Sv_call rfl rfl rfl ent59 ?_
   refine (corner_calls a1 _ _ hS.out0  ).mono ?_
   rintro e_ w17 ⟨rfl, hS_⟩
   refine ⟨_, rfl, ?_⟩
   have hS := hS.call0 hS_
   exact ⟨⟨fun _ => none, fun _ => 0, fun _ => zE, fun _ => 0⟩, rfl, hS.fin [0, 1, 2] (by decide) rfl⟩
  refine ⟨fun g_ w19 fr20 hS => Sv_val rfl (R_eqv rfl rfl rfl eqg75 ((eqv75 (spotS a0) (cornerS a1)).up 2)) ⟨gh0, rfl, hS⟩, ?_⟩
  refine ⟨fun g_ w21 fr22 hS => Sv_val rfl (R_assign rfl rfl) ⟨gh0, rfl, hS⟩, ?_⟩
  exact trivial
 ·intro g_ w23 hS
  have hS : Sp (FF [bR ba1 33 [.int .i64 a1.Row, .int .i64 a1.Col, .int .i64 a1.Rows, .int .i64 a1.Cols]]) w z w23 [bR b2 46 [.int .i64 a0.Row, .int .i64 a0.Col, vstr a0.Text, .int .i64 a0.Style.Align, .int .i64 a0.Style.Wrap, .int .i64 a0.Style.Dir], bR ba1 33 [.int .i64 a1.Row, .int .i64 a1.Col, .int .i64 a1.Rows, .int .i64 a1.Cols]] := hS
  refine An_fr [(1, .pointer (some ⟨ba1, 0, none⟩)), (2, .pointer (some ⟨b2, 0, none⟩)), (3, .bool (decide ((spotS a0) = (cornerS a1))))] rfl ?_
  refine An_done (by decide +kernel) ?_
  refine E_then ?_
  refine C_ret ?_
  refine E_ret1 rfl rfl ?_
  exact ⟨Lret1 (Lbool (show (decide ((spotS a0) = (cornerS a1))) = (decide (spotS a0 = cornerS a1)) by rfl)), hS.fin [1] (by decide) rfl⟩

theorem get1_fv (ba1 : Nat) (a1 : TRect) (zc : Z) : FV Try.prog zc 57 [.pointer (some ⟨ba1, 0, none⟩)] (fun z_ (x_ : TCell) vs_ => vs_ = [.agg #[.int .i64 x_.Row, .int .i64 x_.Col, vstr x_.Text, .int .i64 x_.Style.Align, .int .i64 x_.Style.Wrap, .int .i64 x_.Style.Dir]]) (fun (_ _ : Unit) => allR [bR ba1 33 [.int .i64 a1.Row, .int .i64 a1.Col, .int .i64 a1.Rows, .int .i64 a1.Cols]]) (fun _ x_ => True) (fun _ _ => ()) (fun _ x_ => .bool ((fun (x_ : TCell) => decide (spotS x_ = cornerS a1)) x_)) := ⟨ent57, by
  rintro _ _ x vs w z hz hI hok rfl
  refine (get1_calls x ba1 a1 z w hI.unb   ).mono ?_
  rintro e w' ⟨rfl, hS⟩
  exact ⟨rfl, (), hS.bun1⟩⟩

set_option maxHeartbeats 400000 in
set_option maxRecDepth 20000 in
theorem get_calls (a0 : TSheet) (Aa0_Widths : Option Addr) (ca0_Widths : Nat) (Aa0_Heights : Option Addr) (ca0_Heights : Nat) (Aa0_Cells : Option Addr) (ca0_Cells : Nat) (Aa0_Merges : Option Addr) (ca0_Merges : Nat) (a1 : Int) (a2 : Int) (z : Z) (w : World) (hI : In z w []) (hra0_Widths : Rd (kint .i64) z Aa0_Widths a0.Widths) (hca0_Widths : Cap Aa0_Widths a0.Widths.length ca0_Widths) (hra0_Heights : Rd (kint .i64) z Aa0_Heights a0.Heights) (hca0_Heights : Cap Aa0_Heights a0.Heights.length ca0_Heights) (hra0_Cells : Rd kdTCell z Aa0_Cells a0.Cells) (hca0_Cells : Cap Aa0_Cells a0.Cells.length ca0_Cells) (hra0_Merges : Rd kdTRect z Aa0_Merges a0.Merges) (hca0_Merges : Cap Aa0_Merges a0.Merges.length ca0_Merges)  :
    Calls Try.prog 33 #[.agg #[.int .i64 a0.Right, .slice Aa0_Widths a0.Widths.length ca0_Widths, .slice Aa0_Heights a0.Heights.length ca0_Heights, .slice Aa0_Cells a0.Cells.length ca0_Cells, .slice Aa0_Merges a0.Merges.length ca0_Merges], .int .i64 a1, .int .i64 a2] w fun e w' => e = .returned (.tuple #[.agg #[.int .i64 (getS a0 a1 a2).1.Row, .int .i64 (getS a0 a1 a2).1.Col, vstr (getS a0 a1 a2).1.Text, .int .i64 (getS a0 a1 a2).1.Style.Align, .int .i64 (getS a0 a1 a2).1.Style.Wrap, .int .i64 (getS a0 a1 a2).1.Style.Dir], .int .i64 (getS a0 a1 a2).2]) ∧ Sp (FF []) w z w' [] := by
 have hla0_Widths := hca0_Widths.le
 have hma0_Widths := hca0_Widths.mx
 have hla0_Heights := hca0_Heights.le
 have hma0_Heights := hca0_Heights.mx
 have hla0_Cells := hca0_Cells.le
 have hma0_Cells := hca0_Cells.mx
 have hla0_Merges := hca0_Merges.le
 have hma0_Merges := hca0_Merges.mx
 have hS := hI.sp
 refine Calls_of (vs := [.agg #[.int .i64 a0.Right, .slice Aa0_Widths a0.Widths.length ca0_Widths, .slice Aa0_Heights a0.Heights.length ca0_Heights, .slice Aa0_Cells a0.Cells.length ca0_Cells, .slice Aa0_Merges a0.Merges.length ca0_Merges], .int .i64 a1, .int .i64 a2]) (N := 38) Try.func33 rfl rfl (Nat.le_of_ble_eq_true rfl) ?_
 refine C_seq ?_
 refine C_region ?_
 refine W_cons rfl (by decide) (S_box hS rfl (R_box (cs := [.int .i64 a0.Right, .slice Aa0_Widths a0.Widths.length ca0_Widths, .slice Aa0_Heights a0.Heights.length ca0_Heights, .slice Aa0_Cells a0.Cells.length ca0_Cells, .slice Aa0_Merges a0.Merges.length ca0_Merges]) rfl rfl rfl) (fun b2 w1 hS => ?_))
 refine W_cons rfl (by decide) (S_box hS rfl (R_alloc rfl alloc46) (fun b4 w3 hS => ?_))
 refine W_cons rfl (by decide) (Sv_val rfl (R_assign rfl rfl) ?_)
 refine W_nil ?_
 refine E_then ?_
 refine C_seq ?_
 refine C_region ?_
 refine W_cons rfl (by decide) (Sv_val rfl (R_loadN (cs := [.int .i64 a0.Right, .slice Aa0_Widths a0.Widths.length ca0_Widths, .slice Aa0_Heights a0.Heights.length ca0_Heights, .slice Aa0_Cells a0.Cells.length ca0_Cells, .slice Aa0_Merges a0.Merges.length ca0_Merges]) rfl rfl agg39 size39 rfl (boxcells (hS.bx 1 rfl) 0 rfl)) ?_)
 refine W_cons rfl (by decide) (Sv_val rfl (R_move rfl rfl) ?_)
 refine W_cons rfl (by decide) (Sv_val rfl (R_move rfl rfl) ?_)
 refine W_cons rfl (by decide) (Sv_call rfl rfl rfl ent31 ?_)
 refine (region_calls a0 Aa0_Widths ca0_Widths Aa0_Heights ca0_Heights Aa0_Cells ca0_Cells Aa0_Merges ca0_Merges a1 a2 _ _ hS.out0 (hra0_Widths.mono (hS.zl [])) hca0_Widths (hra0_Heights.mono (hS.zl [])) hca0_Heights (hra0_Cells.mono (hS.zl [])) hca0_Cells (hra0_Merges.mono (hS.zl [])) hca0_Merges ).mono ?_
 rintro e_ w5 ⟨rfl, hS_⟩
 refine ⟨_, rfl, ?_⟩
 have hS := hS.call0 hS_
 refine W_cons rfl (by decide) (Sv_val rfl (R_move rfl rfl) ?_)
 refine W_cons rfl (by decide) (Sv_val rfl (R_extract rfl rfl rfl) ?_)
 refine W_cons rfl (by decide) (Sv_val rfl (R_extract rfl rfl rfl) ?_)
 refine W_cons rfl (by decide) (S_box hS rfl (R_alloc rfl alloc33) (fun b8 w7 hS => ?_))
 refine W_cons0 rfl (S_store hS 0 rfl rfl rfl rfl rfl size33 (one_cons rfl (one_cons rfl (one_cons rfl (one_cons rfl one_nil)))) (Nat.le_of_ble_eq_true rfl) (fun w9 hS => ?_))
 have hS : Sp (FF []) w z w9 [bR b8 33 [.int .i64 (regionS a0 a1 a2).1.Row, .int .i64 (regionS a0 a1 a2).1.Col, .int .i64 (regionS a0 a1 a2).1.Rows, .int .i64 (regionS a0 a1 a2).1.Cols], bR b4 46 [.int .i64 0, .int .i64 0, vstr [], .int .i64 0, .int .i64 0, .int .i64 0], bR b2 39 [.int .i64 a0.Right, .slice Aa0_Widths a0.Widths.length ca0_Widths, .slice Aa0_Heights a0.Heights.length ca0_Heights, .slice Aa0_Cells a0.Cells.length ca0_Cells, .slice Aa0_Merges a0.Merges.length ca0_Merges]] := hS
 refine W_cons rfl (by decide) (Sv_val rfl (R_assign rfl rfl) ?_)
 refine W_nil ?_
 refine E_then (C_fr [(3, .pointer (some ⟨b2, 0, none⟩)), (6, .pointer (some ⟨b4, 0, none⟩)), (8, .pointer (some ⟨b8, 0, none⟩)), (9, .int .i64 (regionS a0 a1 a2).2)] rfl ?_)
 refine C_seq ?_
 refine C_seq ?_
 refine C_region ?_
 refine W_cons rfl (by decide) (Sv_val rfl (R_move rfl rfl) ?_)
 refine W_cons rfl (by decide) (Sv_val rfl (R_bin rfl rfl rfl rfl rfl) ?_)
 refine W_nil ?_
 refine E_then ?_
 refine C_ite rfl (fun hC0 => ?_) (fun hC0 => ?_)
 ·have _hC0 := trivial
  have hC0p : ¬ (regionS a0 a1 a2).2 = 0 := by simpa using hC0
  refine C_seq ?_
  refine C_region ?_
  refine W_cons rfl (by decide) (Sv_val rfl (R_build (w' := w9) (ps := []) (vs := []) (r := .agg #[.int .i64 0, .int .i64 0, vstr [], .int .i64 0, .int .i64 0, .int .i64 0]) rfl rfl rfl (by kernel_rfl)) ?_)
  refine W_cons rfl (by decide) (Sv_val rfl (R_move rfl rfl) ?_)
  refine W_cons0 rfl (S_store hS 1 rfl rfl rfl rfl rfl size46 (one_cons rfl (one_cons rfl (one_cons rfl (one_cons rfl (one_cons rfl (one_cons rfl one_nil)))))) (Nat.le_of_ble_eq_true rfl) (fun w10 hS => ?_))
  have hS : Sp (FF []) w z w10 [bR b8 33 [.int .i64 (regionS a0 a1 a2).1.Row, .int .i64 (regionS a0 a1 a2).1.Col, .int .i64 (regionS a0 a1 a2).1.Rows, .int .i64 (regionS a0 a1 a2).1.Cols], bR b4 46 [.int .i64 0, .int .i64 0, vstr [], .int .i64 0, .int .i64 0, .int .i64 0], bR b2 39 [.int .i64 a0.Right, .slice Aa0_Widths a0.Widths.length ca0_Widths, .slice Aa0_Heights a0.Heights.length ca0_Heights, .slice Aa0_Cells a0.Cells.length ca0_Cells, .slice Aa0_Merges a0.Merges.length ca0_Merges]] := hS
  refine W_cons rfl (by decide) (Sv_val rfl (R_assign rfl rfl) ?_)
  refine W_nil ?_
  refine E_then (C_fr [(6, .pointer (some ⟨b4, 0, none⟩)), (7, .int .i64 (regionS a0 a1 a2).2)] rfl ?_)
  refine C_ret ?_
  refine E_then_ret ?_
  refine E_rv2 rfl (RV_cellN (cs := [.int .i64 0, .int .i64 0, vstr [], .int .i64 0, .int .i64 0, .int .i64 0]) rfl agg46 size46 rfl (boxcells (hS.bx 1 rfl) 0 rfl)) (RV_tmp rfl) ?_
  exact ⟨Lret2 (show (.agg #[.int .i64 0, .int .i64 0, vstr [], .int .i64 0, .int .i64 0, .int .i64 0] : Value) = .agg #[.int .i64 (getS a0 a1 a2).1.Row, .int .i64 (getS a0 a1 a2).1.Col, vstr (getS a0 a1 a2).1.Text, .int .i64 (getS a0 a1 a2).1.Style.Align, .int .i64 (getS a0 a1 a2).1.Style.Wrap, .int .i64 (getS a0 a1 a2).1.Style.Dir] by first | (rw [getS_bad (by assumption)] <;> rfl) | (rw [getS_none (by omega) (by assumption)] <;> rfl) | (rw [getS_at (by omega) (by assumption)] <;> rfl)) (Lint (show (regionS a0 a1 a2).2 = (getS a0 a1 a2).2 by first | (rw [getS_bad (by assumption)] <;> rfl) | (rw [getS_none (by omega) (by assumption)] <;> rfl) | (rw [getS_at (by omega) (by assumption)] <;> rfl))), hS.fin [] (by decide) rfl⟩
 ·have _hC0 := trivial
  have hC0p : (regionS a0 a1 a2).2 = 0 := by simpa using hC0
  refine C_skip ?_
  refine E_then ?_
  refine C_seq ?_
  refine C_region ?_
  refine W_cons rfl (by decide) (Sv_val rfl (R_fld rfl rfl fld39_3) ?_)
  refine W_cons rfl (by decide) (Sv_val rfl (R_load1 rfl rfl agg36 ((hS.bx 2 rfl).cell rfl)) ?_)
  refine W_cons rfl (by decide) (Sv_val rfl (R_makeFunc rfl rfl) ?_)
  have hS := hS.bun [0] (by decide)
  refine W_cons rfl (by decide) (Sv_call rfl rfl rfl ent56 ?_)
  refine (cfc_idx_calls a0.Cells Aa0_Cells ca0_Cells 57 [.pointer (some ⟨b8, 0, none⟩)] (allR [bR b8 33 [.int .i64 (regionS a0 a1 a2).1.Row, .int .i64 (regionS a0 a1 a2).1.Col, .int .i64 (regionS a0 a1 a2).1.Rows, .int .i64 (regionS a0 a1 a2).1.Cols]]) zE (fun (x_ : TCell) => decide (spotS x_ = cornerS (regionS a0 a1 a2).1)) _ _ (hS.out [0] (by decide)) (hra0_Cells.mono (hS.zl [0])) hca0_Cells (get1_fv b8 (regionS a0 a1 a2).1 _ ) (zle_E _) ).mono ?_
  rintro e_ w11 ⟨rfl, hS_⟩
  refine ⟨_, rfl, ?_⟩
  have hS := hS.call [0] (by decide) hS_
  have hS := hS.unb
  refine W_cons rfl (by decide) (Sv_val rfl (R_assign rfl rfl) ?_)
  refine W_nil ?_
  refine E_then (C_fr [(3, .pointer (some ⟨b2, 0, none⟩)), (6, .pointer (some ⟨b4, 0, none⟩)), (8, .pointer (some ⟨b8, 0, none⟩)), (10, .int .i64 (idxF (fun (x_ : TCell) => decide (spotS x_ = cornerS (regionS a0 a1 a2).1)) a0.Cells 0))] rfl ?_)
  refine C_seq ?_
  refine C_seq ?_
  refine C_region ?_
  refine W_cons rfl (by decide) (Sv_val rfl (R_move rfl rfl) ?_)
  refine W_cons rfl (by decide) (Sv_val rfl (R_bin rfl rfl rfl rfl rfl) ?_)
  refine W_nil ?_
  refine E_then ?_
  refine C_ite rfl (fun hC1 => ?_) (fun hC1 => ?_)
  ·have _hC1 := trivial
   have hC1p : (idxF (fun (x_ : TCell) => decide (spotS x_ = cornerS (regionS a0 a1 a2).1)) a0.Cells 0) < 0 := by simpa using hC1
   refine C_seq ?_
   refine C_region ?_
   refine W_cons rfl (by decide) (Sv_val rfl (R_fld rfl rfl fld33_0) ?_)
   refine W_cons rfl (by decide) (Sv_val rfl (R_load1 rfl rfl agg3 ((hS.bx 0 rfl).cell rfl)) ?_)
   refine W_cons rfl (by decide) (Sv_val rfl (R_fld rfl rfl fld33_1) ?_)
   refine W_cons rfl (by decide) (Sv_val rfl (R_load1 rfl rfl agg3 ((hS.bx 0 rfl).cell rfl)) ?_)
   refine W_cons rfl (by decide) (Sv_val rfl (R_build (w' := w11) (ps := [(0, (.tmp 29)), (1, (.tmp 31))]) (vs := [.int .i64 (regionS a0 a1 a2).1.Row, .int .i64 (regionS a0 a1 a2).1.Col]) (r := .agg #[.int .i64 (regionS a0 a1 a2).1.Row, .int .i64 (regionS a0 a1 a2).1.Col, vstr [], .int .i64 0, .int .i64 0, .int .i64 0]) rfl rfl rfl (by kernel_rfl)) ?_)
   refine W_cons0 rfl (S_store hS 1 rfl rfl rfl rfl rfl size46 (one_cons rfl (one_cons rfl (one_cons rfl (one_cons rfl (one_cons rfl (one_cons rfl one_nil)))))) (Nat.le_of_ble_eq_true rfl) (fun w14 hS => ?_))
   have hS : Sp (FF []) w z w14 [bR b8 33 [.int .i64 (regionS a0 a1 a2).1.Row, .int .i64 (regionS a0 a1 a2).1.Col, .int .i64 (regionS a0 a1 a2).1.Rows, .int .i64 (regionS a0 a1 a2).1.Cols], bR b4 46 [.int .i64 (regionS a0 a1 a2).1.Row, .int .i64 (regionS a0 a1 a2).1.Col, vstr [], .int .i64 0, .int .i64 0, .int .i64 0], bR b2 39 [.int .i64 a0.Right, .slice Aa0_Widths a0.Widths.length ca0_Widths, .slice Aa0_Heights a0.Heights.length ca0_Heights, .slice Aa0_Cells a0.Cells.length ca0_Cells, .slice Aa0_Merges a0.Merges.length ca0_Merges]] := hS
   refine W_cons rfl (by decide) (Sv_val rfl (R_assign rfl rfl) ?_)
   refine W_nil ?_
   refine E_then (C_fr [(6, .pointer (some ⟨b4, 0, none⟩)), (7, .int .i64 0)] rfl ?_)
   refine C_ret ?_
   refine E_then_ret ?_
   refine E_rv2 rfl (RV_cellN (cs := [.int .i64 (regionS a0 a1 a2).1.Row, .int .i64 (regionS a0 a1 a2).1.Col, vstr [], .int .i64 0, .int .i64 0, .int .i64 0]) rfl agg46 size46 rfl (boxcells (hS.bx 1 rfl) 0 rfl)) (RV_tmp rfl) ?_
   exact ⟨Lret2 (show (.agg #[.int .i64 (regionS a0 a1 a2).1.Row, .int .i64 (regionS a0 a1 a2).1.Col, vstr [], .int .i64 0, .int .i64 0, .int .i64 0] : Value) = .agg #[.int .i64 (getS a0 a1 a2).1.Row, .int .i64 (getS a0 a1 a2).1.Col, vstr (getS a0 a1 a2).1.Text, .int .i64 (getS a0 a1 a2).1.Style.Align, .int .i64 (getS a0 a1 a2).1.Style.Wrap, .int .i64 (getS a0 a1 a2).1.Style.Dir] by first | (rw [getS_bad (by assumption)] <;> rfl) | (rw [getS_none (by omega) (by assumption)] <;> rfl) | (rw [getS_at (by omega) (by assumption)] <;> rfl)) (Lint (show 0 = (getS a0 a1 a2).2 by first | (rw [getS_bad (by assumption)] <;> rfl) | (rw [getS_none (by omega) (by assumption)] <;> rfl) | (rw [getS_at (by omega) (by assumption)] <;> rfl))), hS.fin [] (by decide) rfl⟩
  ·have _hC1 := trivial
   have hC1p : ¬ ((idxF (fun (x_ : TCell) => decide (spotS x_ = cornerS (regionS a0 a1 a2).1)) a0.Cells 0) < 0) := by simpa using hC1
   refine C_skip ?_
   refine E_then ?_
   refine C_seq ?_
   have hib := (idxF_bd (fun c => decide (spotS c = cornerS (regionS a0 a1 a2).1)) a0.Cells 0).resolve_left (fun h_ => by omega)
   refine C_region ?_
   refine W_cons rfl (by decide) (Sv_val rfl (R_fld rfl rfl fld39_3) ?_)
   refine W_cons rfl (by decide) (Sv_val rfl (R_load1 rfl rfl agg36 ((hS.bx 2 rfl).cell rfl)) ?_)
   refine W_cons rfl (by decide) (Sv_val rfl (R_move rfl rfl) ?_)
   obtain ⟨q15, csq15, hAq15, rfl, hkq15⟩ := hra0_Cells.at_ (default : TCell) (i := (idxF (fun (x_ : TCell) => decide (spotS x_ = cornerS (regionS a0 a1 a2).1)) a0.Cells 0)) (by omega) (by omega)
   refine W_cons rfl (by decide) (Sv_val rfl (R_idx rfl rfl hAq15 rfl Try.underlying36 size46 (by omega) (by omega)) ?_)
   refine W_cons rfl (by decide) (Sv_val rfl (R_loadN (cs := [.int .i64 (a0.Cells.getD (idxF (fun (x_ : TCell) => decide (spotS x_ = cornerS (regionS a0 a1 a2).1)) a0.Cells 0).toNat (default : TCell)).Row, .int .i64 (a0.Cells.getD (idxF (fun (x_ : TCell) => decide (spotS x_ = cornerS (regionS a0 a1 a2).1)) a0.Cells 0).toNat (default : TCell)).Col, vstr (a0.Cells.getD (idxF (fun (x_ : TCell) => decide (spotS x_ = cornerS (regionS a0 a1 a2).1)) a0.Cells 0).toNat (default : TCell)).Text, .int .i64 (a0.Cells.getD (idxF (fun (x_ : TCell) => decide (spotS x_ = cornerS (regionS a0 a1 a2).1)) a0.Cells 0).toNat (default : TCell)).Style.Align, .int .i64 (a0.Cells.getD (idxF (fun (x_ : TCell) => decide (spotS x_ = cornerS (regionS a0 a1 a2).1)) a0.Cells 0).toNat (default : TCell)).Style.Wrap, .int .i64 (a0.Cells.getD (idxF (fun (x_ : TCell) => decide (spotS x_ = cornerS (regionS a0 a1 a2).1)) a0.Cells 0).toNat (default : TCell)).Style.Dir]) rfl rfl agg46 size46 rfl (fun j u h => cell_add (hS.sub.cell (hkq15 j u h)))) ?_)
   refine W_cons0 rfl (S_store hS 1 rfl rfl rfl rfl rfl size46 (one_cons rfl (one_cons rfl (one_cons rfl (one_cons rfl (one_cons rfl (one_cons rfl one_nil)))))) (Nat.le_of_ble_eq_true rfl) (fun w16 hS => ?_))
   have hS : Sp (FF []) w z w16 [bR b8 33 [.int .i64 (regionS a0 a1 a2).1.Row, .int .i64 (regionS a0 a1 a2).1.Col, .int .i64 (regionS a0 a1 a2).1.Rows, .int .i64 (regionS a0 a1 a2).1.Cols], bR b4 46 [.int .i64 (a0.Cells.getD (idxF (fun (x_ : TCell) => decide (spotS x_ = cornerS (regionS a0 a1 a2).1)) a0.Cells 0).toNat (default : TCell)).Row, .int .i64 (a0.Cells.getD (idxF (fun (x_ : TCell) => decide (spotS x_ = cornerS (regionS a0 a1 a2).1)) a0.Cells 0).toNat (default : TCell)).Col, vstr (a0.Cells.getD (idxF (fun (x_ : TCell) => decide (spotS x_ = cornerS (regionS a0 a1 a2).1)) a0.Cells 0).toNat (default : TCell)).Text, .int .i64 (a0.Cells.getD (idxF (fun (x_ : TCell) => decide (spotS x_ = cornerS (regionS a0 a1 a2).1)) a0.Cells 0).toNat (default : TCell)).Style.Align, .int .i64 (a0.Cells.getD (idxF (fun (x_ : TCell) => decide (spotS x_ = cornerS (regionS a0 a1 a2).1)) a0.Cells 0).toNat (default : TCell)).Style.Wrap, .int .i64 (a0.Cells.getD (idxF (fun (x_ : TCell) => decide (spotS x_ = cornerS (regionS a0 a1 a2).1)) a0.Cells 0).toNat (default : TCell)).Style.Dir], bR b2 39 [.int .i64 a0.Right, .slice Aa0_Widths a0.Widths.length ca0_Widths, .slice Aa0_Heights a0.Heights.length ca0_Heights, .slice Aa0_Cells a0.Cells.length ca0_Cells, .slice Aa0_Merges a0.Merges.length ca0_Merges]] := hS
   refine W_cons rfl (by decide) (Sv_val rfl (R_assign rfl rfl) ?_)
   refine W_nil ?_
   refine E_then (C_fr [(6, .pointer (some ⟨b4, 0, none⟩)), (7, .int .i64 0)] rfl ?_)
   refine C_ret ?_
   refine E_rv2 rfl (RV_cellN (cs := [.int .i64 (a0.Cells.getD (idxF (fun (x_ : TCell) => decide (spotS x_ = cornerS (regionS a0 a1 a2).1)) a0.Cells 0).toNat (default : TCell)).Row, .int .i64 (a0.Cells.getD (idxF (fun (x_ : TCell) => decide (spotS x_ = cornerS (regionS a0 a1 a2).1)) a0.Cells 0).toNat (default : TCell)).Col, vstr (a0.Cells.getD (idxF (fun (x_ : TCell) => decide (spotS x_ = cornerS (regionS a0 a1 a2).1)) a0.Cells 0).toNat (default : TCell)).Text, .int .i64 (a0.Cells.getD (idxF (fun (x_ : TCell) => decide (spotS x_ = cornerS (regionS a0 a1 a2).1)) a0.Cells 0).toNat (default : TCell)).Style.Align, .int .i64 (a0.Cells.getD (idxF (fun (x_ : TCell) => decide (spotS x_ = cornerS (regionS a0 a1 a2).1)) a0.Cells 0).toNat (default : TCell)).Style.Wrap, .int .i64 (a0.Cells.getD (idxF (fun (x_ : TCell) => decide (spotS x_ = cornerS (regionS a0 a1 a2).1)) a0.Cells 0).toNat (default : TCell)).Style.Dir]) rfl agg46 size46 rfl (boxcells (hS.bx 1 rfl) 0 rfl)) (RV_tmp rfl) ?_
   exact ⟨Lret2 (show (.agg #[.int .i64 (a0.Cells.getD (idxF (fun (x_ : TCell) => decide (spotS x_ = cornerS (regionS a0 a1 a2).1)) a0.Cells 0).toNat (default : TCell)).Row, .int .i64 (a0.Cells.getD (idxF (fun (x_ : TCell) => decide (spotS x_ = cornerS (regionS a0 a1 a2).1)) a0.Cells 0).toNat (default : TCell)).Col, vstr (a0.Cells.getD (idxF (fun (x_ : TCell) => decide (spotS x_ = cornerS (regionS a0 a1 a2).1)) a0.Cells 0).toNat (default : TCell)).Text, .int .i64 (a0.Cells.getD (idxF (fun (x_ : TCell) => decide (spotS x_ = cornerS (regionS a0 a1 a2).1)) a0.Cells 0).toNat (default : TCell)).Style.Align, .int .i64 (a0.Cells.getD (idxF (fun (x_ : TCell) => decide (spotS x_ = cornerS (regionS a0 a1 a2).1)) a0.Cells 0).toNat (default : TCell)).Style.Wrap, .int .i64 (a0.Cells.getD (idxF (fun (x_ : TCell) => decide (spotS x_ = cornerS (regionS a0 a1 a2).1)) a0.Cells 0).toNat (default : TCell)).Style.Dir] : Value) = .agg #[.int .i64 (getS a0 a1 a2).1.Row, .int .i64 (getS a0 a1 a2).1.Col, vstr (getS a0 a1 a2).1.Text, .int .i64 (getS a0 a1 a2).1.Style.Align, .int .i64 (getS a0 a1 a2).1.Style.Wrap, .int .i64 (getS a0 a1 a2).1.Style.Dir] by first | (rw [getS_bad (by assumption)] <;> rfl) | (rw [getS_none (by omega) (by assumption)] <;> rfl) | (rw [getS_at (by omega) (by assumption)] <;> rfl)) (Lint (show 0 = (getS a0 a1 a2).2 by first | (rw [getS_bad (by assumption)] <;> rfl) | (rw [getS_none (by omega) (by assumption)] <;> rfl) | (rw [getS_at (by omega) (by assumption)] <;> rfl))), hS.fin [] (by decide) rfl⟩

set_option maxHeartbeats 400000 in
set_option maxRecDepth 20000 in
theorem regions_calls (a0 : TSheet) (Aa0_Widths : Option Addr) (ca0_Widths : Nat) (Aa0_Heights : Option Addr) (ca0_Heights : Nat) (Aa0_Cells : Option Addr) (ca0_Cells : Nat) (Aa0_Merges : Option Addr) (ca0_Merges : Nat) (z : Z) (w : World) (hI : In z w []) (hra0_Widths : Rd (kint .i64) z Aa0_Widths a0.Widths) (hca0_Widths : Cap Aa0_Widths a0.Widths.length ca0_Widths) (hra0_Heights : Rd (kint .i64) z Aa0_Heights a0.Heights) (hca0_Heights : Cap Aa0_Heights a0.Heights.length ca0_Heights) (hra0_Cells : Rd kdTCell z Aa0_Cells a0.Cells) (hca0_Cells : Cap Aa0_Cells a0.Cells.length ca0_Cells) (hra0_Merges : Rd kdTRect z Aa0_Merges a0.Merges) (hca0_Merges : Cap Aa0_Merges a0.Merges.length ca0_Merges)  :
    Calls Try.prog 36 #[.agg #[.int .i64 a0.Right, .slice Aa0_Widths a0.Widths.length ca0_Widths, .slice Aa0_Heights a0.Heights.length ca0_Heights, .slice Aa0_Cells a0.Cells.length ca0_Cells, .slice Aa0_Merges a0.Merges.length ca0_Merges]] w fun e w' => ∃ (AR0 : Option Addr) (cR0 : Nat), e = .returned (.slice AR0 (regionsS a0).length cR0) ∧ Sp (FF []) w z w' [oR kdTRect 33 zE AR0 cR0 (regionsS a0)] := by
 have hla0_Widths := hca0_Widths.le
 have hma0_Widths := hca0_Widths.mx
 have hla0_Heights := hca0_Heights.le
 have hma0_Heights := hca0_Heights.mx
 have hla0_Cells := hca0_Cells.le
 have hma0_Cells := hca0_Cells.mx
 have hla0_Merges := hca0_Merges.le
 have hma0_Merges := hca0_Merges.mx
 have hS := hI.sp
 refine Calls_of (vs := [.agg #[.int .i64 a0.Right, .slice Aa0_Widths a0.Widths.length ca0_Widths, .slice Aa0_Heights a0.Heights.length ca0_Heights, .slice Aa0_Cells a0.Cells.length ca0_Cells, .slice Aa0_Merges a0.Merges.length ca0_Merges]]) (N := 39) Try.func36 rfl rfl (Nat.le_of_ble_eq_true rfl) ?_
 refine C_seq ?_
 refine C_region ?_
 refine W_cons rfl (by decide) (S_box hS rfl (R_box (cs := [.int .i64 a0.Right, .slice Aa0_Widths a0.Widths.length ca0_Widths, .slice Aa0_Heights a0.Heights.length ca0_Heights, .slice Aa0_Cells a0.Cells.length ca0_Cells, .slice Aa0_Merges a0.Merges.length ca0_Merges]) rfl rfl rfl) (fun b2 w1 hS => ?_))
 refine W_cons rfl (by decide) (Sv_val rfl (R_assign rfl rfl) ?_)
 refine W_nil ?_
 refine E_then ?_
 refine C_seq ?_
 refine C_seq ?_
 refine C_region ?_
 refine W_cons rfl (by decide) (Sv_val rfl (R_loadN (cs := [.int .i64 a0.Right, .slice Aa0_Widths a0.Widths.length ca0_Widths, .slice Aa0_Heights a0.Heights.length ca0_Heights, .slice Aa0_Cells a0.Cells.length ca0_Cells, .slice Aa0_Merges a0.Merges.length ca0_Merges]) rfl rfl agg39 size39 rfl (boxcells (hS.bx 0 rfl) 0 rfl)) ?_)
 refine W_cons rfl (by decide) (Sv_call rfl rfl rfl ent35 ?_)
 refine (check_calls a0 Aa0_Widths ca0_Widths Aa0_Heights ca0_Heights Aa0_Cells ca0_Cells Aa0_Merges ca0_Merges _ _ hS.out0 (hra0_Widths.mono (hS.zl [])) hca0_Widths (hra0_Heights.mono (hS.zl [])) hca0_Heights (hra0_Cells.mono (hS.zl [])) hca0_Cells (hra0_Merges.mono (hS.zl [])) hca0_Merges ).mono ?_
 rintro e_ w3 ⟨rfl, hS_⟩
 refine ⟨_, rfl, ?_⟩
 have hS := hS.call0 hS_
 refine W_cons rfl (by decide) (Sv_val rfl (R_bin rfl rfl rfl rfl rfl) ?_)
 refine W_nil ?_
 refine E_then ?_
 refine C_ite rfl (fun hC0 => ?_) (fun hC0 => ?_)
 ·have _hC0 := trivial
  have hC0p : ¬ (checkSh a0) = 0 := by simpa using hC0
  refine C_seq ?_
  refine C_region ?_
  refine W_cons rfl (by decide) (Sv_val rfl (R_assign rfl rfl) ?_)
  refine W_nil ?_
  refine E_then (C_fr [(2, .slice none 0 0)] rfl ?_)
  refine C_ret ?_
  refine E_then_ret ?_
  have hS := hS.nilrow kdTRect 33 zE
  have hq6 : ([] : List TRect) = regionsS a0 := by first | (unfold regionsS; simp_all; done) | (rw [show regionsS a0 = regUp a0 a0.Heights.length from if_neg (by omega), show a0.Heights.length = i from by omega])
  have hS := hS.re 0 rfl hq6
  refine E_ret1 rfl rfl ?_
  exact ⟨none, 0, Lret1 (Lslice hq6), hS.fin [0] (by decide) rfl⟩
 ·have _hC0 := trivial
  have hC0p : (checkSh a0) = 0 := by simpa using hC0
  refine C_skip ?_
  refine E_then (C_fr [(1, .pointer (some ⟨b2, 0, none⟩))] rfl ?_)
  refine C_seq ?_
  refine C_region ?_
  refine W_cons rfl (by decide) (Sv_val rfl (R_assign rfl rfl) ?_)
  refine W_nil ?_
  refine E_then ?_
  refine C_seq ?_
  refine C_seq ?_
  refine C_region ?_
  refine W_cons rfl (by decide) (Sv_val rfl (R_fld rfl rfl fld39_2) ?_)
  refine W_cons rfl (by decide) (Sv_val rfl (R_load1 rfl rfl agg35 ((hS.bx 0 rfl).cell rfl)) ?_)
  refine W_cons rfl (by decide) (Sv_val rfl (R_len rfl rfl Try.underlying35) ?_)
  refine W_cons rfl (by decide) (Sv_val rfl (R_move rfl rfl) ?_)
  refine W_nil ?_
  refine E_then ?_
  refine C_block ?_
  have hS := hS.nilrow kdTRect 33 zE
  have hs10 : ([] : List TRect) = regUp a0 (0 : Nat) := by rfl
  have hS := hS.re 0 rfl hs10
  refine C_fr [(1, .pointer (some ⟨b2, 0, none⟩)), (3, .slice none 0 0), (12, .int .i64 (a0.Heights.length : Int)), (13, .int .i64 0)] rfl ?_
  refine C_loop (fun m_ f_ w_ => ∃ (i : Nat) (Ar7 : Option Addr) (cr7 : Nat), f_ = [(1, .pointer (some ⟨b2, 0, none⟩)), (3, .slice Ar7 (regUp a0 i).length cr7), (12, .int .i64 (a0.Heights.length : Int)), (13, .int .i64 (i : Int))] ∧ i ≤ a0.Heights.length ∧ m_ = a0.Heights.length - i ∧ Sp (FF []) w z w_ [bR b2 39 [.int .i64 a0.Right, .slice Aa0_Widths a0.Widths.length ca0_Widths, .slice Aa0_Heights a0.Heights.length ca0_Heights, .slice Aa0_Cells a0.Cells.length ca0_Cells, .slice Aa0_Merges a0.Merges.length ca0_Merges], oR kdTRect 33 zE Ar7 cr7 (regUp a0 i)]) (a0.Heights.length - (0 : Nat)) ⟨(0 : Nat), none, 0, (by rw [← hs10] <;> rfl), (by omega), rfl, hS.fin [1, 0] (by decide) rfl⟩ ?_
  rintro m_ f_ w8 ⟨i, Ar7, cr7, rfl, hI0_0, rfl, hS⟩
  have hp11 := hS.cap 1 rfl
  have hlhp11 := hp11.le
  have hmhp11 := hp11.mx
  refine C_seq ?_
  refine C_region ?_
  refine W_cons rfl (by decide) (Sv_val rfl (R_bin rfl rfl rfl rfl rfl) ?_)
  refine W_nil ?_
  refine E_then ?_
  refine C_seq ?_
  refine C_ite rfl (fun hC1 => ?_) (fun hC1 => ?_)
  ·have _hC1 := trivial
   have hC1p : (i : Int) < (a0.Heights.length : Int) := by simpa using hC1
   refine C_skip ?_
   refine E_then ?_
   refine C_seq ?_
   refine C_block ?_
   refine C_seq ?_
   refine C_region ?_
   refine W_cons rfl (by decide) (Sv_val rfl (R_move rfl rfl) ?_)
   refine W_cons rfl (by decide) (Sv_val rfl (R_assign rfl rfl) ?_)
   refine W_nil ?_
   refine E_then ?_
   refine C_seq ?_
   refine C_region ?_
   refine W_cons rfl (by decide) (Sv_val rfl (R_fld rfl rfl fld39_1) ?_)
   refine W_cons rfl (by decide) (Sv_val rfl (R_load1 rfl rfl agg35 ((hS.bx 0 rfl).cell rfl)) ?_)
   refine W_cons rfl (by decide) (Sv_val rfl (R_len rfl rfl Try.underlying35) ?_)
   refine W_cons rfl (by decide) (Sv_val rfl (R_move rfl rfl) ?_)
   refine W_nil ?_
   refine E_then ?_
   refine C_block ?_
   have hs14 : regUp a0 i = regUp a0 i ++ regRow a0 i (0 : Nat) := by simp [regRow]
   have hS := hS.re 1 rfl hs14
   refine C_fr [(1, .pointer (some ⟨b2, 0, none⟩)), (3, .slice Ar7 (regUp a0 i).length cr7), (4, .int .i64 (i : Int)), (12, .int .i64 (a0.Heights.length : Int)), (13, .int .i64 (i : Int)), (18, .int .i64 (a0.Widths.length : Int)), (19, .int .i64 0)] rfl ?_
   refine C_loop (fun m_ f_ w_ => ∃ (j : Nat) (Ar12 : Option Addr) (cr12 : Nat), f_ = [(1, .pointer (some ⟨b2, 0, none⟩)), (3, .slice Ar12 (regUp a0 i ++ regRow a0 i j).length cr12), (4, .int .i64 (i : Int)), (12, .int .i64 (a0.Heights.length : Int)), (13, .int .i64 (i : Int)), (18, .int .i64 (a0.Widths.length : Int)), (19, .int .i64 (j : Int))] ∧ j ≤ a0.Widths.length ∧ m_ = a0.Widths.length - j ∧ Sp (FF []) w z w_ [bR b2 39 [.int .i64 a0.Right, .slice Aa0_Widths a0.Widths.length ca0_Widths, .slice Aa0_Heights a0.Heights.length ca0_Heights, .slice Aa0_Cells a0.Cells.length ca0_Cells, .slice Aa0_Merges a0.Merges.length ca0_Merges], oR kdTRect 33 zE Ar12 cr12 (regUp a0 i ++ regRow a0 i j)]) (a0.Widths.length - (0 : Nat)) ⟨(0 : Nat), Ar7, cr7, (by rw [← hs14] <;> rfl), (by omega), rfl, hS.fin [0, 1] (by decide) rfl⟩ ?_
   rintro m_ f_ w13 ⟨j, Ar12, cr12, rfl, hI1_0, rfl, hS⟩
   have hp15 := hS.cap 1 rfl
   have hlhp15 := hp15.le
   have hmhp15 := hp15.mx
   refine C_seq ?_
   refine C_region ?_
   refine W_cons rfl (by decide) (Sv_val rfl (R_bin rfl rfl rfl rfl rfl) ?_)
   refine W_nil ?_
   refine E_then ?_
   refine C_seq ?_
   refine C_ite rfl (fun hC2 => ?_) (fun hC2 => ?_)
   ·have _hC2 := trivial
    have hC2p : (j : Int) < (a0.Widths.length : Int) := by simpa using hC2
    refine C_skip ?_
    refine E_then ?_
    refine C_seq ?_
    refine C_block ?_
    refine C_seq ?_
    refine C_region ?_
    refine W_cons rfl (by decide) (Sv_val rfl (R_move rfl rfl) ?_)
    refine W_cons rfl (by decide) (Sv_val rfl (R_assign rfl rfl) ?_)
    refine W_nil ?_
    refine E_then ?_
    refine C_seq ?_
    refine C_region ?_
    refine W_cons rfl (by decide) (Sv_val rfl (R_loadN (cs := [.int .i64 a0.Right, .slice Aa0_Widths a0.Widths.length ca0_Widths, .slice Aa0_Heights a0.Heights.length ca0_Heights, .slice Aa0_Cells a0.Cells.length ca0_Cells, .slice Aa0_Merges a0.Merges.length ca0_Merges]) rfl rfl agg39 size39 rfl (boxcells (hS.bx 0 rfl) 0 rfl)) ?_)
    refine W_cons rfl (by decide) (Sv_val rfl (R_move rfl rfl) ?_)
    refine W_cons rfl (by decide) (Sv_val rfl (R_move rfl rfl) ?_)
    refine W_cons rfl (by decide) (Sv_call rfl rfl rfl ent53 ?_)
    refine (around_calls a0 Aa0_Widths ca0_Widths Aa0_Heights ca0_Heights Aa0_Cells ca0_Cells Aa0_Merges ca0_Merges (i : Int) (j : Int) _ _ hS.out0 (hra0_Widths.mono (hS.zl [])) hca0_Widths (hra0_Heights.mono (hS.zl [])) hca0_Heights (hra0_Cells.mono (hS.zl [])) hca0_Cells (hra0_Merges.mono (hS.zl [])) hca0_Merges ).mono ?_
    rintro e_ w16 ⟨rfl, hS_⟩
    refine ⟨_, rfl, ?_⟩
    have hS := hS.call0 hS_
    refine W_cons rfl (by decide) (S_box hS rfl (R_alloc rfl alloc33) (fun b19 w18 hS => ?_))
    refine W_cons0 rfl (S_store hS 0 rfl rfl rfl rfl rfl size33 (one_cons rfl (one_cons rfl (one_cons rfl (one_cons rfl one_nil)))) (Nat.le_of_ble_eq_true rfl) (fun w20 hS => ?_))
    have hS : Sp (FF []) w z w20 [bR b19 33 [.int .i64 (aroundS a0 (i : Int) (j : Int)).Row, .int .i64 (aroundS a0 (i : Int) (j : Int)).Col, .int .i64 (aroundS a0 (i : Int) (j : Int)).Rows, .int .i64 (aroundS a0 (i : Int) (j : Int)).Cols], bR b2 39 [.int .i64 a0.Right, .slice Aa0_Widths a0.Widths.length ca0_Widths, .slice Aa0_Heights a0.Heights.length ca0_Heights, .slice Aa0_Cells a0.Cells.length ca0_Cells, .slice Aa0_Merges a0.Merges.length ca0_Merges], oR kdTRect 33 zE Ar12 cr12 (regUp a0 i ++ regRow a0 i j)] := hS
    refine W_nil ?_
    refine E_then (C_fr [(1, .pointer (some ⟨b2, 0, none⟩)), (3, .slice Ar12 (regUp a0 i ++ regRow a0 i j).length cr12), (4, .int .i64 (i : Int)), (5, .int .i64 (j : Int)), (6, .pointer (some ⟨b19, 0, none⟩)), (12, .int .i64 (a0.Heights.length : Int)), (13, .int .i64 (i : Int)), (18, .int .i64 (a0.Widths.length : Int)), (19, .int .i64 (j : Int))] rfl ?_)
    refine C_seq ?_
    refine C_region ?_
    refine W_cons rfl (by decide) (Sv_val rfl (R_loadN (cs := [.int .i64 (aroundS a0 (i : Int) (j : Int)).Row, .int .i64 (aroundS a0 (i : Int) (j : Int)).Col, .int .i64 (aroundS a0 (i : Int) (j : Int)).Rows, .int .i64 (aroundS a0 (i : Int) (j : Int)).Cols]) rfl rfl agg33 size33 rfl (boxcells (hS.bx 0 rfl) 0 rfl)) ?_)
    refine W_cons rfl (by decide) (Sv_call rfl rfl rfl ent59 ?_)
    refine (corner_calls (aroundS a0 (i : Int) (j : Int)) _ _ hS.out0  ).mono ?_
    rintro e_ w21 ⟨rfl, hS_⟩
    refine ⟨_, rfl, ?_⟩
    have hS := hS.call0 hS_
    refine W_cons rfl (by decide) (Sv_val rfl (R_move rfl rfl) ?_)
    refine W_cons rfl (by decide) (Sv_val rfl (R_move rfl rfl) ?_)
    refine W_cons rfl (by decide) (Sv_val rfl (R_build (w' := w21) (ps := [(0, (.tmp 28)), (1, (.tmp 29))]) (vs := [.int .i64 (i : Int), .int .i64 (j : Int)]) (r := .agg #[.int .i64 (i : Int), .int .i64 (j : Int)]) rfl rfl rfl (by kernel_rfl)) ?_)
    refine W_cons rfl (by decide) (Sv_val rfl (R_eqv rfl rfl rfl eqg75 ((eqv75 (cornerS (aroundS a0 (i : Int) (j : Int))) (⟨(i : Int), (j : Int)⟩ : Ar2_Int)).up 2)) ?_)
    refine W_nil ?_
    refine E_then (C_fr [(1, .pointer (some ⟨b2, 0, none⟩)), (3, .slice Ar12 (regUp a0 i ++ regRow a0 i j).length cr12), (4, .int .i64 (i : Int)), (6, .pointer (some ⟨b19, 0, none⟩)), (12, .int .i64 (a0.Heights.length : Int)), (13, .int .i64 (i : Int)), (18, .int .i64 (a0.Widths.length : Int)), (19, .int .i64 (j : Int)), (31, .bool (decide ((cornerS (aroundS a0 (i : Int) (j : Int))) = (⟨(i : Int), (j : Int)⟩ : Ar2_Int))))] rfl ?_)
    refine C_ite rfl (fun hC3 => ?_) (fun hC3 => ?_)
    ·have _hC3 := trivial
     have hC3p : (cornerS (aroundS a0 (i : Int) (j : Int))) = (⟨(i : Int), (j : Int)⟩ : Ar2_Int) := by simpa using hC3
     obtain ⟨hsm0, hsm1, hsm2⟩ := chk_small (s := a0) (by omega)
     have hu1 := regUp_len a0 hsm1 i
     have hu2 := regRow_len a0 i j
     refine C_region ?_
     refine W_cons rfl (by decide) (Sv_val rfl (R_move rfl rfl) ?_)
     refine W_cons rfl (by decide) (Sv_val rfl (R_loadN (cs := [.int .i64 (aroundS a0 (i : Int) (j : Int)).Row, .int .i64 (aroundS a0 (i : Int) (j : Int)).Col, .int .i64 (aroundS a0 (i : Int) (j : Int)).Rows, .int .i64 (aroundS a0 (i : Int) (j : Int)).Cols]) rfl rfl agg33 size33 rfl (boxcells (hS.bx 0 rfl) 0 rfl)) ?_)
     refine W_cons rfl (by decide) (S_row (d := kdTRect) (q := zE) hS ([(aroundS a0 (i : Int) (j : Int))] : List TRect) rfl (R_buildSlice (ps := [(0, (.tmp 33))]) (vs := [.agg #[.int .i64 (aroundS a0 (i : Int) (j : Int)).Row, .int .i64 (aroundS a0 (i : Int) (j : Int)).Col, .int .i64 (aroundS a0 (i : Int) (j : Int)).Rows, .int .i64 (aroundS a0 (i : Int) (j : Int)).Cols]]) (w' := w21.alloc (.cells [.int .i64 (aroundS a0 (i : Int) (j : Int)).Row, .int .i64 (aroundS a0 (i : Int) (j : Int)).Col, .int .i64 (aroundS a0 (i : Int) (j : Int)).Rows, .int .i64 (aroundS a0 (i : Int) (j : Int)).Cols].toArray 33)) (r := .slice (some ⟨w21.heap.size, 0, none⟩) 1 1) rfl rfl rfl (by kernel_rfl)) (by simp [Reps, flat, kdTRect]) rfl (by decide) (fun g24 w23 hS => ?_))
     refine W_cons rfl (by decide) (S_append hS 3 rfl rfl rfl elem37 rfl rfl (hS.sow 0 rfl (fun _ _ h => h)) (by (try simp only [List.length_cons, List.length_nil, List.length_append, maxLen]); omega) (by (try simp only [List.length_cons, List.length_nil, List.length_append, maxLen]); omega) (fun Ar26 cr26 w25 hS => ?_))
     have hp27 := hS.cap 3 rfl
     have hlhp27 := hp27.le
     have hmhp27 := hp27.mx
     refine W_cons rfl (by decide) (Sv_val rfl (R_assign rfl rfl) ?_)
     refine W_nil ?_
     refine E_block_normal ?_
     refine E_then (C_fr [(1, .pointer (some ⟨b2, 0, none⟩)), (3, .slice Ar26 ((regUp a0 i ++ regRow a0 i j) ++ ([(aroundS a0 (i : Int) (j : Int))] : List TRect)).length cr26), (4, .int .i64 (i : Int)), (12, .int .i64 (a0.Heights.length : Int)), (13, .int .i64 (i : Int)), (18, .int .i64 (a0.Widths.length : Int)), (19, .int .i64 (j : Int))] rfl ?_)
     refine C_region ?_
     refine W_cons rfl (by decide) (Sv_val rfl (R_add64 rfl rfl rfl (by omega) (by omega)) ?_)
     refine W_cons rfl (by decide) (Sv_val rfl (R_move rfl rfl) ?_)
     refine W_nil ?_
     have hs28 : (regUp a0 i ++ regRow a0 i j) ++ ([(aroundS a0 (i : Int) (j : Int))] : List TRect) = regUp a0 i ++ regRow a0 i (j + 1 : Nat) := by rw [regRow_next, ← List.append_assoc, regAt, if_pos (by assumption)]
     have hS := hS.re 3 rfl hs28
     refine E_round [1, 3, 4, 12, 13, 18, 19] ?_ ⟨(j + 1 : Nat), Ar26, cr26, (by rw [← hs28] <;> rfl), (by omega), rfl, hS.fin [2, 3] (by decide) rfl⟩
     omega
    ·have _hC3 := trivial
     have hC3p : ¬ ((cornerS (aroundS a0 (i : Int) (j : Int))) = (⟨(i : Int), (j : Int)⟩ : Ar2_Int)) := by simpa using hC3
     refine C_skip ?_
     refine E_block_normal ?_
     refine E_then ?_
     refine C_region ?_
     refine W_cons rfl (by decide) (Sv_val rfl (R_add64 rfl rfl rfl (by omega) (by omega)) ?_)
     refine W_cons rfl (by decide) (Sv_val rfl (R_move rfl rfl) ?_)
     refine W_nil ?_
     have hs29 : regUp a0 i ++ regRow a0 i j = regUp a0 i ++ regRow a0 i (j + 1 : Nat) := by rw [regRow_next, regAt, if_neg (by assumption), List.append_nil]
     have hS := hS.re 2 rfl hs29
     refine E_round [1, 3, 4, 12, 13, 18, 19] ?_ ⟨(j + 1 : Nat), Ar12, cr12, (by rw [← hs29] <;> rfl), (by omega), rfl, hS.fin [1, 2] (by decide) rfl⟩
     omega
   ·have _hC2 := trivial
    have hC2p : ¬ ((j : Int) < (a0.Widths.length : Int)) := by simpa using hC2
    refine C_exit ?_
    refine E_then_exit ?_
    refine E_then_exit ?_
    refine E_block_hit ?_
    refine E_block_normal ?_
    refine E_then ?_
    refine C_region ?_
    refine W_cons rfl (by decide) (Sv_val rfl (R_add64 rfl rfl rfl (by omega) (by omega)) ?_)
    refine W_cons rfl (by decide) (Sv_val rfl (R_move rfl rfl) ?_)
    refine W_nil ?_
    have hs30 : regUp a0 i ++ regRow a0 i j = regUp a0 (i + 1 : Nat) := by rw [regUp_next, show a0.Widths.length = j from by omega]
    have hS := hS.re 1 rfl hs30
    refine E_round [1, 3, 12, 13] ?_ ⟨(i + 1 : Nat), Ar12, cr12, (by rw [← hs30] <;> rfl), (by omega), rfl, hS.fin [0, 1] (by decide) rfl⟩
    omega
  ·have _hC1 := trivial
   have hC1p : ¬ ((i : Int) < (a0.Heights.length : Int)) := by simpa using hC1
   refine C_exit ?_
   refine E_then_exit ?_
   refine E_then_exit ?_
   refine E_block_hit ?_
   refine E_then ?_
   refine C_seq ?_
   refine C_region ?_
   refine W_cons rfl (by decide) (Sv_val rfl (R_move rfl rfl) ?_)
   refine W_cons rfl (by decide) (Sv_val rfl (R_assign rfl rfl) ?_)
   refine W_nil ?_
   refine E_then (C_fr [(2, .slice Ar7 (regUp a0 i).length cr7)] rfl ?_)
   refine C_ret ?_
   have hq31 : regUp a0 i = regionsS a0 := by first | (unfold regionsS; simp_all; done) | (rw [show regionsS a0 = regUp a0 a0.Heights.length from if_neg (by omega), show a0.Heights.length = i from by omega])
   have hS := hS.re 1 rfl hq31
   refine E_ret1 rfl rfl ?_
   exact ⟨Ar7, cr7, Lret1 (Lslice hq31), hS.fin [1] (by decide) rfl⟩

set_option maxHeartbeats 400000 in
set_option maxRecDepth 20000 in
theorem eqi_calls (a0 : List Int) (Aa0 : Option Addr) (ca0 : Nat) (a1 : List Int) (Aa1 : Option Addr) (ca1 : Nat) (z : Z) (w : World) (hI : In z w []) (hra0 : Rd (kint .i64) z Aa0 a0) (hca0 : Cap Aa0 a0.length ca0) (hra1 : Rd (kint .i64) z Aa1 a1) (hca1 : Cap Aa1 a1.length ca1)  :
    Calls Try.prog 72 #[.slice Aa0 a0.length ca0, .slice Aa1 a1.length ca1] w fun e w' => e = .returned (.bool (decide (a0 = a1))) ∧ Sp (FF []) w z w' [] := by
 have hla0 := hca0.le
 have hma0 := hca0.mx
 have hla1 := hca1.le
 have hma1 := hca1.mx
 have hS := hI.sp
 refine Calls_of (vs := [.slice Aa0 a0.length ca0, .slice Aa1 a1.length ca1]) (N := 26) Try.func72 rfl rfl (Nat.le_of_ble_eq_true rfl) ?_
 refine C_seq ?_
 refine C_region ?_
 refine W_cons rfl (by decide) (Sv_val rfl (R_assign rfl rfl) ?_)
 refine W_nil ?_
 refine E_then ?_
 refine C_seq ?_
 refine C_seq ?_
 refine C_region ?_
 refine W_cons rfl (by decide) (Sv_val rfl (R_move rfl rfl) ?_)
 refine W_cons rfl (by decide) (Sv_val rfl (R_len rfl rfl Try.underlying35) ?_)
 refine W_cons rfl (by decide) (Sv_val rfl (R_move rfl rfl) ?_)
 refine W_cons rfl (by decide) (Sv_val rfl (R_len rfl rfl Try.underlying35) ?_)
 refine W_cons rfl (by decide) (Sv_val rfl (R_bin rfl rfl rfl rfl rfl) ?_)
 refine W_nil ?_
 refine E_then (C_fr [(0, .slice Aa0 a0.length ca0), (1, .slice Aa1 a1.length ca1), (10, .bool ((a0.length : Int) != (a1.length : Int)))] rfl ?_)
 refine C_ite rfl (fun hC0 => ?_) (fun hC0 => ?_)
 ·have _hC0 := trivial
  have hC0p : ¬ (a0.length : Int) = (a1.length : Int) := by simpa using hC0
  refine C_seq ?_
  refine C_region ?_
  refine W_cons rfl (by decide) (Sv_val rfl (R_assign rfl rfl) ?_)
  refine W_nil ?_
  refine E_then ?_
  refine C_ret ?_
  refine E_then_ret ?_
  refine E_ret1 rfl rfl ?_
  exact ⟨Lret1 (Lbool (show false = (decide (a0 = a1)) by first | exact (decide_eq_false (fun h_ => by subst h_; first | (exact absurd rfl (by assumption)) | omega)).symm | exact (decide_eq_true (take_all (by omega) (by omega) hI0_1)).symm)), hS.fin [] (by decide) rfl⟩
 ·have _hC0 := trivial
  have hC0p : (a0.length : Int) = (a1.length : Int) := by simpa using hC0
  refine C_skip ?_
  refine E_then ?_
  refine C_seq ?_
  refine C_seq ?_
  refine C_region ?_
  refine W_cons rfl (by decide) (Sv_val rfl (R_move rfl rfl) ?_)
  refine W_cons rfl (by decide) (Sv_val rfl (R_len rfl rfl Try.underlying35) ?_)
  refine W_cons rfl (by decide) (Sv_val rfl (R_move rfl rfl) ?_)
  refine W_nil ?_
  refine E_then ?_
  refine C_block ?_
  refine C_fr [(0, .slice Aa0 a0.length ca0), (1, .slice Aa1 a1.length ca1), (12, .int .i64 (a0.length : Int)), (13, .int .i64 0)] rfl ?_
  refine C_loop (fun m_ f_ w_ => ∃ (i : Nat), f_ = [(0, .slice Aa0 a0.length ca0), (1, .slice Aa1 a1.length ca1), (12, .int .i64 (a0.length : Int)), (13, .int .i64 (i : Int))] ∧ i ≤ a0.length ∧ a0.take i = a1.take i ∧ m_ = a0.length - i ∧ Sp (FF []) w z w_ []) (a0.length - (0 : Nat)) ⟨(0 : Nat), rfl, (by omega), (by rfl), rfl, hS.fin [] (by decide) rfl⟩ ?_
  rintro m_ f_ w1 ⟨i, rfl, hI0_0, hI0_1, rfl, hS⟩
  refine C_seq ?_
  refine C_region ?_
  refine W_cons rfl (by decide) (Sv_val rfl (R_bin rfl rfl rfl rfl rfl) ?_)
  refine W_nil ?_
  refine E_then ?_
  refine C_seq ?_
  refine C_ite rfl (fun hC1 => ?_) (fun hC1 => ?_)
  ·have _hC1 := trivial
   have hC1p : (i : Int) < (a0.length : Int) := by simpa using hC1
   refine C_skip ?_
   refine E_then ?_
   refine C_seq ?_
   refine C_block ?_
   refine C_seq ?_
   refine C_region ?_
   refine W_cons rfl (by decide) (Sv_val rfl (R_move rfl rfl) ?_)
   refine W_cons rfl (by decide) (Sv_val rfl (R_assign rfl rfl) ?_)
   refine W_nil ?_
   refine E_then ?_
   refine C_seq ?_
   refine C_fr [(0, .slice Aa0 a0.length ca0), (1, .slice Aa1 a1.length ca1), (5, .int .i64 (i : Int)), (12, .int .i64 (a0.length : Int)), (13, .int .i64 (i : Int))] rfl ?_
   obtain ⟨q4, csq4, hAq4, rfl, hkq4⟩ := hra0.at_ (0 : Int) (i := (i : Int)) (by omega) (by omega)
   have hkq4 : ∀ (j_ : Nat) (u_ : Value), ([.int .i64 (a0.getD i (0 : Int))] : List Value)[j_]? = some u_ → cz z (q4.add (i * 1 + j_)) = some u_ := hkq4
   obtain ⟨q5, csq5, hAq5, rfl, hkq5⟩ := hra1.at_ (0 : Int) (i := (i : Int)) (by omega) (by omega)
   have hkq5 : ∀ (j_ : Nat) (u_ : Value), ([.int .i64 (a1.getD i (0 : Int))] : List Value)[j_]? = some u_ → cz z (q5.add (i * 1 + j_)) = some u_ := hkq5
   refine C_drawn 9 [[], [], [0, 1], [2], [], [], [4, 5], [6], [3, 7]] [16, 17, 18, 19, 20, 21, 22, 23, 24] [0, 1, 5, 12, 13] rfl (by kernel_rfl) (by decide +kernel) [fun v_ _ => v_ = .slice Aa0 a0.length ca0, fun v_ _ => v_ = .int .i64 (i : Int), fun v_ _ => v_ = .pointer (some (q4.add (i * 1))), fun v_ _ => v_ = .int .i64 (a0.getD i (0 : Int)), fun v_ _ => v_ = .slice Aa1 a1.length ca1, fun v_ _ => v_ = .int .i64 (i : Int), fun v_ _ => v_ = .pointer (some (q5.add (i * 1))), fun v_ _ => v_ = .int .i64 (a1.getD i (0 : Int)), fun v_ _ => v_ = .bool ((a0.getD i (0 : Int)) != (a1.getD i (0 : Int)))] ⟨fun _ _ _ h _ => h, ⟨fun _ _ _ h _ => h, ⟨fun _ _ _ h _ => h, ⟨fun _ _ _ h _ => h, ⟨fun _ _ _ h _ => h, ⟨fun _ _ _ h _ => h, ⟨fun _ _ _ h _ => h, ⟨fun _ _ _ h _ => h, ⟨fun _ _ _ h _ => h, trivial⟩⟩⟩⟩⟩⟩⟩⟩⟩ ⟨fun w2 hc3 => by have hS := hS.chg0 hc3; exact Sv_val rfl (R_move rfl rfl) ⟨Chg.refl _ _, rfl⟩, ⟨fun w2 hc3 => by have hS := hS.chg0 hc3; exact Sv_val rfl (R_move rfl rfl) ⟨Chg.refl _ _, rfl⟩, ⟨fun w2 hc3 => by have hS := hS.chg0 hc3; rintro _ rfl _ rfl; exact Sv_val rfl (R_idx rfl rfl hAq4 rfl Try.underlying35 size3 (by omega) (by omega)) ⟨Chg.refl _ _, rfl⟩, ⟨fun w2 hc3 => by have hS := hS.chg0 hc3; rintro _ rfl; exact Sv_val rfl (R_load1 rfl rfl agg3 (hS.sub.cell (hkq4 0 _ rfl))) ⟨Chg.refl _ _, rfl⟩, ⟨fun w2 hc3 => by have hS := hS.chg0 hc3; exact Sv_val rfl (R_move rfl rfl) ⟨Chg.refl _ _, rfl⟩, ⟨fun w2 hc3 => by have hS := hS.chg0 hc3; exact Sv_val rfl (R_move rfl rfl) ⟨Chg.refl _ _, rfl⟩, ⟨fun w2 hc3 => by have hS := hS.chg0 hc3; rintro _ rfl _ rfl; exact Sv_val rfl (R_idx rfl rfl hAq5 rfl Try.underlying35 size3 (by omega) (by omega)) ⟨Chg.refl _ _, rfl⟩, ⟨fun w2 hc3 => by have hS := hS.chg0 hc3; rintro _ rfl; exact Sv_val rfl (R_load1 rfl rfl agg3 (hS.sub.cell (hkq5 0 _ rfl))) ⟨Chg.refl _ _, rfl⟩, ⟨fun w2 hc3 => by have hS := hS.chg0 hc3; rintro _ rfl _ rfl; exact Sv_val rfl (R_bin rfl rfl rfl rfl rfl) ⟨Chg.refl _ _, rfl⟩, trivial⟩⟩⟩⟩⟩⟩⟩⟩⟩ ?_
   intro w2 hc3
   have hS := hS.chg0 hc3
   rintro _ rfl _ rfl _ rfl _ rfl _ rfl _ rfl _ rfl _ rfl _ rfl
   refine An_fr [(0, .slice Aa0 a0.length ca0), (1, .slice Aa1 a1.length ca1), (12, .int .i64 (a0.length : Int)), (13, .int .i64 (i : Int)), (24, .bool ((a0.getD i (0 : Int)) != (a1.getD i (0 : Int))))] rfl ?_
   refine An_done (by decide +kernel) ?_
   refine E_then ?_
   refine C_ite rfl (fun hC2 => ?_) (fun hC2 => ?_)
   ·have _hC2 := trivial
    have hC2p : ¬ (a0.getD i (0 : Int)) = (a1.getD i (0 : Int)) := by simpa using hC2
    refine C_seq ?_
    refine C_region ?_
    refine W_cons rfl (by decide) (Sv_val rfl (R_assign rfl rfl) ?_)
    refine W_nil ?_
    refine E_then (C_fr [(4, .bool false)] rfl ?_)
    refine C_ret ?_
    refine E_block_ret ?_
    refine E_then_ret ?_
    refine E_then_ret ?_
    refine E_block_ret ?_
    refine E_then_ret ?_
    refine E_ret1 rfl rfl ?_
    exact ⟨Lret1 (Lbool (show false = (decide (a0 = a1)) by first | exact (decide_eq_false (fun h_ => by subst h_; first | (exact absurd rfl (by assumption)) | omega)).symm | exact (decide_eq_true (take_all (by omega) (by omega) hI0_1)).symm)), hS.fin [] (by decide) rfl⟩
   ·have _hC2 := trivial
    have hC2p : (a0.getD i (0 : Int)) = (a1.getD i (0 : Int)) := by simpa using hC2
    refine C_skip ?_
    refine E_block_normal ?_
    refine E_then ?_
    refine C_region ?_
    refine W_cons rfl (by decide) (Sv_val rfl (R_add64 rfl rfl rfl (by omega) (by omega)) ?_)
    refine W_cons rfl (by decide) (Sv_val rfl (R_move rfl rfl) ?_)
    refine W_nil ?_
    refine E_round [0, 1, 12, 13] ?_ ⟨(i + 1 : Nat), rfl, (by omega), (by exact take_more (by omega) (by omega) hI0_1 (by assumption)), rfl, hS.fin [] (by decide) rfl⟩
    omega
  ·have _hC1 := trivial
   have hC1p : ¬ ((i : Int) < (a0.length : Int)) := by simpa using hC1
   refine C_exit ?_
   refine E_then_exit ?_
   refine E_then_exit ?_
   refine E_block_hit ?_
   refine E_then (C_fr [] rfl ?_)
   refine C_seq ?_
   refine C_region ?_
   refine W_cons rfl (by decide) (Sv_val rfl (R_assign rfl rfl) ?_)
   refine W_nil ?_
   refine E_then ?_
   refine C_ret ?_
   refine E_ret1 rfl rfl ?_
   exact ⟨Lret1 (Lbool (show true = (decide (a0 = a1)) by first | exact (decide_eq_false (fun h_ => by subst h_; first | (exact absurd rfl (by assumption)) | omega)).symm | exact (decide_eq_true (take_all (by omega) (by omega) hI0_1)).symm)), hS.fin [] (by decide) rfl⟩

set_option maxHeartbeats 400000 in
set_option maxRecDepth 20000 in
theorem eqi_clone_calls (a0 : List Int) (Aa0 : Option Addr) (ca0 : Nat) (z : Z) (w : World) (hI : In z w []) (hra0 : Rd (kint .i64) z Aa0 a0) (hca0 : Cap Aa0 a0.length ca0) (p0 : a0.length ≤ 100000) :
    Calls Try.prog 67 #[.slice Aa0 a0.length ca0] w fun e w' => ∃ (AR0 : Option Addr) (cR0 : Nat), e = .returned (.slice AR0 a0.length cR0) ∧ Sp (FF []) w z w' [oR (kint .i64) 3 zE AR0 cR0 a0] := by
 have hla0 := hca0.le
 have hma0 := hca0.mx
 have hS := hI.sp
 refine Calls_of (vs := [.slice Aa0 a0.length ca0]) (N := 8) Try.func67 rfl rfl (Nat.le_of_ble_eq_true rfl) ?_
 refine C_seq ?_
 refine C_region ?_
 refine W_cons rfl (by decide) (Sv_val rfl (R_assign rfl rfl) ?_)
 refine W_nil ?_
 refine E_then ?_
 refine C_seq ?_
 refine C_seq ?_
 refine C_region ?_
 refine W_cons rfl (by decide) (Sv_val rfl (R_move rfl rfl) ?_)
 refine W_cons rfl (by decide) (Sv_val rfl (R_isnil rfl rfl rfl Try.underlying35) ?_)
 refine W_nil ?_
 refine E_then ?_
 refine C_ite rfl (fun hC0 => ?_) (fun hC0 => ?_)
 ·have _hC0 := trivial
  refine C_seq ?_
  refine C_region ?_
  refine W_cons rfl (by decide) (Sv_val rfl (R_assign rfl rfl) ?_)
  refine W_nil ?_
  refine E_then ?_
  refine C_ret ?_
  refine E_then_ret ?_
  have hS := hS.nilrow (kint .i64) 3 zE
  have hq2 : ([] : List Int) = a0 := by first | (have hn_ := hca0.nil (by simpa using hC0); exact (List.length_eq_zero_iff.1 (by omega)).symm) | simp
  have hS := hS.re 0 rfl hq2
  refine E_ret1 rfl rfl ?_
  exact ⟨none, 0, Lret1 (Lslice hq2), hS.fin [0] (by decide) rfl⟩
 ·have _hC0 := trivial
  refine C_skip ?_
  refine E_then ?_
  refine C_seq ?_
  refine C_region ?_
  refine W_cons rfl (by decide) (S_row (d := (kint .i64)) (q := zE) hS ([] : List Int) rfl (R_buildSlice (ps := []) (vs := []) (w' := w.alloc (.cells [].toArray 3)) (r := .slice (some ⟨w.heap.size, 0, none⟩) 0 0) rfl rfl rfl (by kernel_rfl)) (by simp [Reps, flat, kint]) rfl (by decide) (fun g4 w3 hS => ?_))
  refine W_cons rfl (by decide) (Sv_val rfl (R_move rfl rfl) ?_)
  refine W_cons rfl (by decide) (S_append hS 0 rfl rfl rfl elem35 rfl rfl (Sp.srd hS.sub hra0 hca0 (fun _ _ h => h)) (by (try simp only [List.length_cons, List.length_nil, List.length_append, maxLen]); omega) (by (try simp only [List.length_cons, List.length_nil, List.length_append, maxLen]); omega) (fun Ar6 cr6 w5 hS => ?_))
  have hp7 := hS.cap 0 rfl
  have hlhp7 := hp7.le
  have hmhp7 := hp7.mx
  refine W_cons rfl (by decide) (Sv_val rfl (R_assign rfl rfl) ?_)
  refine W_nil ?_
  refine E_then (C_fr [(2, .slice Ar6 (([] : List Int) ++ a0).length cr6)] rfl ?_)
  refine C_ret ?_
  have hq8 : ([] : List Int) ++ a0 = a0 := by first | (have hn_ := hca0.nil (by simpa using hC0); exact (List.length_eq_zero_iff.1 (by omega)).symm) | simp
  have hS := hS.re 0 rfl hq8
  refine E_ret1 rfl rfl ?_
  exact ⟨Ar6, cr6, Lret1 (Lslice hq8), hS.fin [0] (by decide) rfl⟩

end Go.Proofs.YtgjnhmidbapjmaaG
