/- Walks, each function once: what it computes. -/
import Derived.Test.YtgjnhmidbapjmaaU3
set_option linter.all false
namespace Go.Proofs.YtgjnhmidbapjmaaG
open Go Go.RowKit
set_option maxHeartbeats 400000 in
set_option maxRecDepth 20000 in
theorem rshsame_calls (a0 : TSheet) (Aa0_Widths : Option Addr) (ca0_Widths : Nat) (Aa0_Heights : Option Addr) (ca0_Heights : Nat) (Aa0_Cells : Option Addr) (ca0_Cells : Nat) (Aa0_Merges : Option Addr) (ca0_Merges : Nat) (a1 : TSheet) (Aa1_Widths : Option Addr) (ca1_Widths : Nat) (Aa1_Heights : Option Addr) (ca1_Heights : Nat) (Aa1_Cells : Option Addr) (ca1_Cells : Nat) (Aa1_Merges : Option Addr) (ca1_Merges : Nat) (z : Z) (w : World) (hI : In z w []) (hra0_Widths : Rd (kint .i64) z Aa0_Widths a0.Widths) (hca0_Widths : Cap Aa0_Widths a0.Widths.length ca0_Widths) (hra0_Heights : Rd (kint .i64) z Aa0_Heights a0.Heights) (hca0_Heights : Cap Aa0_Heights a0.Heights.length ca0_Heights) (hra0_Cells : Rd kdTCell z Aa0_Cells a0.Cells) (hca0_Cells : Cap Aa0_Cells a0.Cells.length ca0_Cells) (hra0_Merges : Rd kdTRect z Aa0_Merges a0.Merges) (hca0_Merges : Cap Aa0_Merges a0.Merges.length ca0_Merges) (hra1_Widths : Rd (kint .i64) z Aa1_Widths a1.Widths) (hca1_Widths : Cap Aa1_Widths a1.Widths.length ca1_Widths) (hra1_Heights : Rd (kint .i64) z Aa1_Heights a1.Heights) (hca1_Heights : Cap Aa1_Heights a1.Heights.length ca1_Heights) (hra1_Cells : Rd kdTCell z Aa1_Cells a1.Cells) (hca1_Cells : Cap Aa1_Cells a1.Cells.length ca1_Cells) (hra1_Merges : Rd kdTRect z Aa1_Merges a1.Merges) (hca1_Merges : Cap Aa1_Merges a1.Merges.length ca1_Merges)  :
    Calls Try.prog 40 #[.agg #[.int .i64 a0.Right, .slice Aa0_Widths a0.Widths.length ca0_Widths, .slice Aa0_Heights a0.Heights.length ca0_Heights, .slice Aa0_Cells a0.Cells.length ca0_Cells, .slice Aa0_Merges a0.Merges.length ca0_Merges], .agg #[.int .i64 a1.Right, .slice Aa1_Widths a1.Widths.length ca1_Widths, .slice Aa1_Heights a1.Heights.length ca1_Heights, .slice Aa1_Cells a1.Cells.length ca1_Cells, .slice Aa1_Merges a1.Merges.length ca1_Merges]] w fun e w' => e = .returned (.bool (decide (a0 = a1))) ∧ Sp (FF []) w z w' [] := by
 have hla0_Widths := hca0_Widths.le
 have hma0_Widths := hca0_Widths.mx
 have hla0_Heights := hca0_Heights.le
 have hma0_Heights := hca0_Heights.mx
 have hla0_Cells := hca0_Cells.le
 have hma0_Cells := hca0_Cells.mx
 have hla0_Merges := hca0_Merges.le
 have hma0_Merges := hca0_Merges.mx
 have hla1_Widths := hca1_Widths.le
 have hma1_Widths := hca1_Widths.mx
 have hla1_Heights := hca1_Heights.le
 have hma1_Heights := hca1_Heights.mx
 have hla1_Cells := hca1_Cells.le
 have hma1_Cells := hca1_Cells.mx
 have hla1_Merges := hca1_Merges.le
 have hma1_Merges := hca1_Merges.mx
 have hS := hI.sp
 refine Calls_of (vs := [.agg #[.int .i64 a0.Right, .slice Aa0_Widths a0.Widths.length ca0_Widths, .slice Aa0_Heights a0.Heights.length ca0_Heights, .slice Aa0_Cells a0.Cells.length ca0_Cells, .slice Aa0_Merges a0.Merges.length ca0_Merges], .agg #[.int .i64 a1.Right, .slice Aa1_Widths a1.Widths.length ca1_Widths, .slice Aa1_Heights a1.Heights.length ca1_Heights, .slice Aa1_Cells a1.Cells.length ca1_Cells, .slice Aa1_Merges a1.Merges.length ca1_Merges]]) (N := 62) Try.func40 rfl rfl (Nat.le_of_ble_eq_true rfl) ?_
 refine C_seq ?_
 refine C_region ?_
 refine W_cons rfl (by decide) (S_box hS rfl (R_box (cs := [.int .i64 a0.Right, .slice Aa0_Widths a0.Widths.length ca0_Widths, .slice Aa0_Heights a0.Heights.length ca0_Heights, .slice Aa0_Cells a0.Cells.length ca0_Cells, .slice Aa0_Merges a0.Merges.length ca0_Merges]) rfl rfl rfl) (fun b2 w1 hS => ?_))
 refine W_cons rfl (by decide) (S_box hS rfl (R_box (cs := [.int .i64 a1.Right, .slice Aa1_Widths a1.Widths.length ca1_Widths, .slice Aa1_Heights a1.Heights.length ca1_Heights, .slice Aa1_Cells a1.Cells.length ca1_Cells, .slice Aa1_Merges a1.Merges.length ca1_Merges]) rfl rfl rfl) (fun b4 w3 hS => ?_))
 refine W_cons rfl (by decide) (Sv_val rfl (R_assign rfl rfl) ?_)
 refine W_nil ?_
 refine E_then ?_
 refine C_seq ?_
 refine C_seq ?_
 refine C_region ?_
 refine W_cons rfl (by decide) (Sv_val rfl (R_fld rfl rfl fld39_0) ?_)
 refine W_cons rfl (by decide) (Sv_val rfl (R_load1 rfl rfl agg3 ((hS.bx 1 rfl).cell rfl)) ?_)
 refine W_cons rfl (by decide) (Sv_val rfl (R_fld rfl rfl fld39_0) ?_)
 refine W_cons rfl (by decide) (Sv_val rfl (R_load1 rfl rfl agg3 ((hS.bx 0 rfl).cell rfl)) ?_)
 refine W_cons rfl (by decide) (Sv_val rfl (R_bin rfl rfl rfl rfl rfl) ?_)
 refine W_cons rfl (by decide) (Sv_val rfl (R_move rfl rfl) ?_)
 refine W_split (t := 11) rfl (fun hg5 => ?_) (fun hg5 => ?_)
 ·have _hg5 := trivial
  have hg5p : ¬ a0.Right = a1.Right := by simpa using hg5
  refine W_cons rfl (by decide) (Sv_off rfl rfl rfl (by rw [hg5] <;> rfl) ?_)
  refine W_cons rfl (by decide) (Sv_off rfl rfl rfl (by rw [hg5] <;> rfl) ?_)
  refine W_cons rfl (by decide) (Sv_off rfl rfl rfl (by rw [hg5] <;> rfl) ?_)
  refine W_cons rfl (by decide) (Sv_off rfl rfl rfl (by rw [hg5] <;> rfl) ?_)
  refine W_cons rfl (by decide) (Sv_off rfl rfl rfl (by rw [hg5] <;> rfl) ?_)
  refine W_cons rfl (by decide) (Sv_off rfl rfl rfl (by rw [hg5] <;> rfl) ?_)
  refine W_cons rfl (by decide) (Sv_val rfl (R_pick_t rfl rfl hg5 rfl) ?_)
  refine W_cons rfl (by decide) (Sv_val rfl (R_move rfl rfl) ?_)
  refine W_cons rfl (by decide) (Sv_off rfl rfl rfl rfl ?_)
  refine W_cons rfl (by decide) (Sv_off rfl rfl rfl rfl ?_)
  refine W_cons rfl (by decide) (Sv_off rfl rfl rfl rfl ?_)
  refine W_cons rfl (by decide) (Sv_off rfl rfl rfl rfl ?_)
  refine W_cons rfl (by decide) (Sv_off rfl rfl rfl rfl ?_)
  refine W_cons rfl (by decide) (Sv_off rfl rfl rfl rfl ?_)
  refine W_cons rfl (by decide) (Sv_val rfl (R_pick_t rfl rfl rfl rfl) ?_)
  refine W_cons rfl (by decide) (Sv_val rfl (R_move rfl rfl) ?_)
  refine W_cons rfl (by decide) (Sv_off rfl rfl rfl rfl ?_)
  refine W_cons rfl (by decide) (Sv_off rfl rfl rfl rfl ?_)
  refine W_cons rfl (by decide) (Sv_off rfl rfl rfl rfl ?_)
  refine W_cons rfl (by decide) (Sv_off rfl rfl rfl rfl ?_)
  refine W_cons rfl (by decide) (Sv_off rfl rfl rfl rfl ?_)
  refine W_cons rfl (by decide) (Sv_off rfl rfl rfl rfl ?_)
  refine W_cons rfl (by decide) (Sv_off rfl rfl rfl rfl ?_)
  refine W_cons rfl (by decide) (Sv_val rfl (R_pick_t rfl rfl rfl rfl) ?_)
  refine W_cons rfl (by decide) (Sv_val rfl (R_move rfl rfl) ?_)
  refine W_cons rfl (by decide) (Sv_off rfl rfl rfl rfl ?_)
  refine W_cons rfl (by decide) (Sv_off rfl rfl rfl rfl ?_)
  refine W_cons rfl (by decide) (Sv_off rfl rfl rfl rfl ?_)
  refine W_cons rfl (by decide) (Sv_off rfl rfl rfl rfl ?_)
  refine W_cons rfl (by decide) (Sv_off rfl rfl rfl rfl ?_)
  refine W_cons rfl (by decide) (Sv_off rfl rfl rfl rfl ?_)
  refine W_cons rfl (by decide) (Sv_val rfl (R_pick_t rfl rfl rfl rfl) ?_)
  refine W_nil ?_
  refine E_then (C_fr [(2, .pointer (some ⟨b2, 0, none⟩)), (3, .pointer (some ⟨b4, 0, none⟩)), (43, .bool true)] rfl ?_)
  refine C_if rfl rfl ?_
  refine C_seq ?_
  refine C_region ?_
  refine W_cons rfl (by decide) (Sv_val rfl (R_assign rfl rfl) ?_)
  refine W_nil ?_
  refine E_then ?_
  refine C_ret ?_
  refine E_then_ret ?_
  refine E_ret1 rfl rfl ?_
  exact ⟨Lret1 (Lbool (show false = (decide (a0 = a1)) by first | exact (decide_eq_false (fun h_ => by subst h_; first | (exact absurd rfl (by assumption)) | omega | simp_all)).symm | exact sh_yes (by first | assumption | omega) (by simp_all) (by simp_all) (take_all (by omega) (by omega) hI0_1) (by simp_all))), hS.fin [] (by decide) rfl⟩
 ·have _hg5 := trivial
  have hg5p : a0.Right = a1.Right := by simpa using hg5
  refine W_cons rfl (by decide) (Sv_gt rfl rfl rfl hg5 (Sv_val rfl (R_fld rfl rfl fld39_1) ?_))
  refine W_cons rfl (by decide) (Sv_gt rfl rfl rfl hg5 (Sv_val rfl (R_load1 rfl rfl agg35 ((hS.bx 1 rfl).cell rfl)) ?_))
  refine W_cons rfl (by decide) (Sv_gt rfl rfl rfl hg5 (Sv_val rfl (R_fld rfl rfl fld39_1) ?_))
  refine W_cons rfl (by decide) (Sv_gt rfl rfl rfl hg5 (Sv_val rfl (R_load1 rfl rfl agg35 ((hS.bx 0 rfl).cell rfl)) ?_))
  refine W_cons rfl (by decide) (Sv_gt rfl rfl rfl hg5 (Sv_call rfl rfl rfl ent70 ?_))
  refine (numbers_calls a0.Widths Aa0_Widths ca0_Widths a1.Widths Aa1_Widths ca1_Widths _ _ hS.out0 (hra0_Widths.mono (hS.zl [])) hca0_Widths (hra1_Widths.mono (hS.zl [])) hca1_Widths ).mono ?_
  rintro e_ w6 ⟨rfl, hS_⟩
  refine ⟨_, rfl, ?_⟩
  have hS := hS.call0 hS_
  refine W_cons rfl (by decide) (Sv_gt rfl rfl rfl hg5 (Sv_val rfl (R_un rfl rfl rfl) ?_))
  refine W_cons rfl (by decide) (Sv_val rfl (R_pick_f rfl rfl hg5 rfl) ?_)
  refine W_cons rfl (by decide) (Sv_val rfl (R_move rfl rfl) ?_)
  refine W_split (t := 19) rfl (fun hg8 => ?_) (fun hg8 => ?_)
  ·have _hg8 := trivial
   have hg8p : ¬ (decide (a0.Widths = a1.Widths) = true) := by simpa using hg8
   refine W_cons rfl (by decide) (Sv_off rfl rfl rfl (by rw [hg8] <;> rfl) ?_)
   refine W_cons rfl (by decide) (Sv_off rfl rfl rfl (by rw [hg8] <;> rfl) ?_)
   refine W_cons rfl (by decide) (Sv_off rfl rfl rfl (by rw [hg8] <;> rfl) ?_)
   refine W_cons rfl (by decide) (Sv_off rfl rfl rfl (by rw [hg8] <;> rfl) ?_)
   refine W_cons rfl (by decide) (Sv_off rfl rfl rfl (by rw [hg8] <;> rfl) ?_)
   refine W_cons rfl (by decide) (Sv_off rfl rfl rfl (by rw [hg8] <;> rfl) ?_)
   refine W_cons rfl (by decide) (Sv_val rfl (R_pick_t rfl rfl hg8 rfl) ?_)
   refine W_cons rfl (by decide) (Sv_val rfl (R_move rfl rfl) ?_)
   refine W_cons rfl (by decide) (Sv_off rfl rfl rfl rfl ?_)
   refine W_cons rfl (by decide) (Sv_off rfl rfl rfl rfl ?_)
   refine W_cons rfl (by decide) (Sv_off rfl rfl rfl rfl ?_)
   refine W_cons rfl (by decide) (Sv_off rfl rfl rfl rfl ?_)
   refine W_cons rfl (by decide) (Sv_off rfl rfl rfl rfl ?_)
   refine W_cons rfl (by decide) (Sv_off rfl rfl rfl rfl ?_)
   refine W_cons rfl (by decide) (Sv_off rfl rfl rfl rfl ?_)
   refine W_cons rfl (by decide) (Sv_val rfl (R_pick_t rfl rfl rfl rfl) ?_)
   refine W_cons rfl (by decide) (Sv_val rfl (R_move rfl rfl) ?_)
   refine W_cons rfl (by decide) (Sv_off rfl rfl rfl rfl ?_)
   refine W_cons rfl (by decide) (Sv_off rfl rfl rfl rfl ?_)
   refine W_cons rfl (by decide) (Sv_off rfl rfl rfl rfl ?_)
   refine W_cons rfl (by decide) (Sv_off rfl rfl rfl rfl ?_)
   refine W_cons rfl (by decide) (Sv_off rfl rfl rfl rfl ?_)
   refine W_cons rfl (by decide) (Sv_off rfl rfl rfl rfl ?_)
   refine W_cons rfl (by decide) (Sv_val rfl (R_pick_t rfl rfl rfl rfl) ?_)
   refine W_nil ?_
   refine E_then (C_fr [(2, .pointer (some ⟨b2, 0, none⟩)), (3, .pointer (some ⟨b4, 0, none⟩)), (43, .bool true)] rfl ?_)
   refine C_if rfl rfl ?_
   refine C_seq ?_
   refine C_region ?_
   refine W_cons rfl (by decide) (Sv_val rfl (R_assign rfl rfl) ?_)
   refine W_nil ?_
   refine E_then ?_
   refine C_ret ?_
   refine E_then_ret ?_
   refine E_ret1 rfl rfl ?_
   exact ⟨Lret1 (Lbool (show false = (decide (a0 = a1)) by first | exact (decide_eq_false (fun h_ => by subst h_; first | (exact absurd rfl (by assumption)) | omega | simp_all)).symm | exact sh_yes (by first | assumption | omega) (by simp_all) (by simp_all) (take_all (by omega) (by omega) hI0_1) (by simp_all))), hS.fin [] (by decide) rfl⟩
  ·have _hg8 := trivial
   have hg8p : (decide (a0.Widths = a1.Widths) = true) := by simpa using hg8
   refine W_cons rfl (by decide) (Sv_gt rfl rfl rfl hg8 (Sv_val rfl (R_fld rfl rfl fld39_2) ?_))
   refine W_cons rfl (by decide) (Sv_gt rfl rfl rfl hg8 (Sv_val rfl (R_load1 rfl rfl agg35 ((hS.bx 1 rfl).cell rfl)) ?_))
   refine W_cons rfl (by decide) (Sv_gt rfl rfl rfl hg8 (Sv_val rfl (R_fld rfl rfl fld39_2) ?_))
   refine W_cons rfl (by decide) (Sv_gt rfl rfl rfl hg8 (Sv_val rfl (R_load1 rfl rfl agg35 ((hS.bx 0 rfl).cell rfl)) ?_))
   refine W_cons rfl (by decide) (Sv_gt rfl rfl rfl hg8 (Sv_call rfl rfl rfl ent70 ?_))
   refine (numbers_calls a0.Heights Aa0_Heights ca0_Heights a1.Heights Aa1_Heights ca1_Heights _ _ hS.out0 (hra0_Heights.mono (hS.zl [])) hca0_Heights (hra1_Heights.mono (hS.zl [])) hca1_Heights ).mono ?_
   rintro e_ w9 ⟨rfl, hS_⟩
   refine ⟨_, rfl, ?_⟩
   have hS := hS.call0 hS_
   refine W_cons rfl (by decide) (Sv_gt rfl rfl rfl hg8 (Sv_val rfl (R_un rfl rfl rfl) ?_))
   refine W_cons rfl (by decide) (Sv_val rfl (R_pick_f rfl rfl hg8 rfl) ?_)
   refine W_cons rfl (by decide) (Sv_val rfl (R_move rfl rfl) ?_)
   refine W_split (t := 27) rfl (fun hg11 => ?_) (fun hg11 => ?_)
   ·have _hg11 := trivial
    have hg11p : ¬ (decide (a0.Heights = a1.Heights) = true) := by simpa using hg11
    refine W_cons rfl (by decide) (Sv_off rfl rfl rfl (by rw [hg11] <;> rfl) ?_)
    refine W_cons rfl (by decide) (Sv_off rfl rfl rfl (by rw [hg11] <;> rfl) ?_)
    refine W_cons rfl (by decide) (Sv_off rfl rfl rfl (by rw [hg11] <;> rfl) ?_)
    refine W_cons rfl (by decide) (Sv_off rfl rfl rfl (by rw [hg11] <;> rfl) ?_)
    refine W_cons rfl (by decide) (Sv_off rfl rfl rfl (by rw [hg11] <;> rfl) ?_)
    refine W_cons rfl (by decide) (Sv_off rfl rfl rfl (by rw [hg11] <;> rfl) ?_)
    refine W_cons rfl (by decide) (Sv_off rfl rfl rfl (by rw [hg11] <;> rfl) ?_)
    refine W_cons rfl (by decide) (Sv_val rfl (R_pick_t rfl rfl hg11 rfl) ?_)
    refine W_cons rfl (by decide) (Sv_val rfl (R_move rfl rfl) ?_)
    refine W_cons rfl (by decide) (Sv_off rfl rfl rfl rfl ?_)
    refine W_cons rfl (by decide) (Sv_off rfl rfl rfl rfl ?_)
    refine W_cons rfl (by decide) (Sv_off rfl rfl rfl rfl ?_)
    refine W_cons rfl (by decide) (Sv_off rfl rfl rfl rfl ?_)
    refine W_cons rfl (by decide) (Sv_off rfl rfl rfl rfl ?_)
    refine W_cons rfl (by decide) (Sv_off rfl rfl rfl rfl ?_)
    refine W_cons rfl (by decide) (Sv_val rfl (R_pick_t rfl rfl rfl rfl) ?_)
    refine W_nil ?_
    refine E_then (C_fr [(2, .pointer (some ⟨b2, 0, none⟩)), (3, .pointer (some ⟨b4, 0, none⟩)), (43, .bool true)] rfl ?_)
    refine C_if rfl rfl ?_
    refine C_seq ?_
    refine C_region ?_
    refine W_cons rfl (by decide) (Sv_val rfl (R_assign rfl rfl) ?_)
    refine W_nil ?_
    refine E_then ?_
    refine C_ret ?_
    refine E_then_ret ?_
    refine E_ret1 rfl rfl ?_
    exact ⟨Lret1 (Lbool (show false = (decide (a0 = a1)) by first | exact (decide_eq_false (fun h_ => by subst h_; first | (exact absurd rfl (by assumption)) | omega | simp_all)).symm | exact sh_yes (by first | assumption | omega) (by simp_all) (by simp_all) (take_all (by omega) (by omega) hI0_1) (by simp_all))), hS.fin [] (by decide) rfl⟩
   ·have _hg11 := trivial
    have hg11p : (decide (a0.Heights = a1.Heights) = true) := by simpa using hg11
    refine W_cons rfl (by decide) (Sv_gt rfl rfl rfl hg11 (Sv_val rfl (R_fld rfl rfl fld39_3) ?_))
    refine W_cons rfl (by decide) (Sv_gt rfl rfl rfl hg11 (Sv_val rfl (R_load1 rfl rfl agg36 ((hS.bx 1 rfl).cell rfl)) ?_))
    refine W_cons rfl (by decide) (Sv_gt rfl rfl rfl hg11 (Sv_val rfl (R_len rfl rfl Try.underlying36) ?_))
    refine W_cons rfl (by decide) (Sv_gt rfl rfl rfl hg11 (Sv_val rfl (R_fld rfl rfl fld39_3) ?_))
    refine W_cons rfl (by decide) (Sv_gt rfl rfl rfl hg11 (Sv_val rfl (R_load1 rfl rfl agg36 ((hS.bx 0 rfl).cell rfl)) ?_))
    refine W_cons rfl (by decide) (Sv_gt rfl rfl rfl hg11 (Sv_val rfl (R_len rfl rfl Try.underlying36) ?_))
    refine W_cons rfl (by decide) (Sv_gt rfl rfl rfl hg11 (Sv_val rfl (R_bin rfl rfl rfl rfl rfl) ?_))
    refine W_cons rfl (by decide) (Sv_val rfl (R_pick_f rfl rfl hg11 rfl) ?_)
    refine W_cons rfl (by decide) (Sv_val rfl (R_move rfl rfl) ?_)
    refine W_split (t := 36) rfl (fun hg12 => ?_) (fun hg12 => ?_)
    ·have _hg12 := trivial
     have hg12p : ¬ (a0.Cells.length : Int) = (a1.Cells.length : Int) := by simpa using hg12
     refine W_cons rfl (by decide) (Sv_off rfl rfl rfl (by rw [hg12] <;> rfl) ?_)
     refine W_cons rfl (by decide) (Sv_off rfl rfl rfl (by rw [hg12] <;> rfl) ?_)
     refine W_cons rfl (by decide) (Sv_off rfl rfl rfl (by rw [hg12] <;> rfl) ?_)
     refine W_cons rfl (by decide) (Sv_off rfl rfl rfl (by rw [hg12] <;> rfl) ?_)
     refine W_cons rfl (by decide) (Sv_off rfl rfl rfl (by rw [hg12] <;> rfl) ?_)
     refine W_cons rfl (by decide) (Sv_off rfl rfl rfl (by rw [hg12] <;> rfl) ?_)
     refine W_cons rfl (by decide) (Sv_val rfl (R_pick_t rfl rfl hg12 rfl) ?_)
     refine W_nil ?_
     refine E_then (C_fr [(2, .pointer (some ⟨b2, 0, none⟩)), (3, .pointer (some ⟨b4, 0, none⟩)), (43, .bool true)] rfl ?_)
     refine C_if rfl rfl ?_
     refine C_seq ?_
     refine C_region ?_
     refine W_cons rfl (by decide) (Sv_val rfl (R_assign rfl rfl) ?_)
     refine W_nil ?_
     refine E_then ?_
     refine C_ret ?_
     refine E_then_ret ?_
     refine E_ret1 rfl rfl ?_
     exact ⟨Lret1 (Lbool (show false = (decide (a0 = a1)) by first | exact (decide_eq_false (fun h_ => by subst h_; first | (exact absurd rfl (by assumption)) | omega | simp_all)).symm | exact sh_yes (by first | assumption | omega) (by simp_all) (by simp_all) (take_all (by omega) (by omega) hI0_1) (by simp_all))), hS.fin [] (by decide) rfl⟩
    ·have _hg12 := trivial
     have hg12p : (a0.Cells.length : Int) = (a1.Cells.length : Int) := by simpa using hg12
     refine W_cons rfl (by decide) (Sv_gt rfl rfl rfl hg12 (Sv_val rfl (R_fld rfl rfl fld39_4) ?_))
     refine W_cons rfl (by decide) (Sv_gt rfl rfl rfl hg12 (Sv_val rfl (R_load1 rfl rfl agg37 ((hS.bx 1 rfl).cell rfl)) ?_))
     refine W_cons rfl (by decide) (Sv_gt rfl rfl rfl hg12 (Sv_val rfl (R_fld rfl rfl fld39_4) ?_))
     refine W_cons rfl (by decide) (Sv_gt rfl rfl rfl hg12 (Sv_val rfl (R_load1 rfl rfl agg37 ((hS.bx 0 rfl).cell rfl)) ?_))
     refine W_cons rfl (by decide) (Sv_gt rfl rfl rfl hg12 (Sv_call rfl rfl rfl ent71 ?_))
     refine (rects_calls a0.Merges Aa0_Merges ca0_Merges a1.Merges Aa1_Merges ca1_Merges _ _ hS.out0 (hra0_Merges.mono (hS.zl [])) hca0_Merges (hra1_Merges.mono (hS.zl [])) hca1_Merges ).mono ?_
     rintro e_ w13 ⟨rfl, hS_⟩
     refine ⟨_, rfl, ?_⟩
     have hS := hS.call0 hS_
     refine W_cons rfl (by decide) (Sv_gt rfl rfl rfl hg12 (Sv_val rfl (R_un rfl rfl rfl) ?_))
     refine W_cons rfl (by decide) (Sv_val rfl (R_pick_f rfl rfl hg12 rfl) ?_)
     refine W_nil ?_
     refine E_then (C_fr [(2, .pointer (some ⟨b2, 0, none⟩)), (3, .pointer (some ⟨b4, 0, none⟩)), (43, .bool (!(decide (a0.Merges = a1.Merges))))] rfl ?_)
     refine C_ite rfl (fun hC0 => ?_) (fun hC0 => ?_)
     ·have _hC0 := trivial
      have hC0p : ¬ (decide (a0.Merges = a1.Merges) = true) := by simpa using hC0
      refine C_seq ?_
      refine C_region ?_
      refine W_cons rfl (by decide) (Sv_val rfl (R_assign rfl rfl) ?_)
      refine W_nil ?_
      refine E_then ?_
      refine C_ret ?_
      refine E_then_ret ?_
      refine E_ret1 rfl rfl ?_
      exact ⟨Lret1 (Lbool (show false = (decide (a0 = a1)) by first | exact (decide_eq_false (fun h_ => by subst h_; first | (exact absurd rfl (by assumption)) | omega | simp_all)).symm | exact sh_yes (by first | assumption | omega) (by simp_all) (by simp_all) (take_all (by omega) (by omega) hI0_1) (by simp_all))), hS.fin [] (by decide) rfl⟩
     ·have _hC0 := trivial
      have hC0p : (decide (a0.Merges = a1.Merges) = true) := by simpa using hC0
      refine C_skip ?_
      refine E_then ?_
      refine C_seq ?_
      refine C_seq ?_
      refine C_region ?_
      refine W_cons rfl (by decide) (Sv_val rfl (R_assign rfl rfl) ?_)
      refine W_nil ?_
      refine E_then ?_
      refine C_block ?_
      refine C_fr [(2, .pointer (some ⟨b2, 0, none⟩)), (3, .pointer (some ⟨b4, 0, none⟩)), (5, .int .i64 0)] rfl ?_
      refine C_loop (fun m_ f_ w_ => ∃ (i : Nat), f_ = [(2, .pointer (some ⟨b2, 0, none⟩)), (3, .pointer (some ⟨b4, 0, none⟩)), (5, .int .i64 (i : Int))] ∧ i ≤ a0.Cells.length ∧ a0.Cells.take i = a1.Cells.take i ∧ m_ = a0.Cells.length - i ∧ Sp (FF []) w z w_ [bR b2 39 [.int .i64 a0.Right, .slice Aa0_Widths a0.Widths.length ca0_Widths, .slice Aa0_Heights a0.Heights.length ca0_Heights, .slice Aa0_Cells a0.Cells.length ca0_Cells, .slice Aa0_Merges a0.Merges.length ca0_Merges], bR b4 39 [.int .i64 a1.Right, .slice Aa1_Widths a1.Widths.length ca1_Widths, .slice Aa1_Heights a1.Heights.length ca1_Heights, .slice Aa1_Cells a1.Cells.length ca1_Cells, .slice Aa1_Merges a1.Merges.length ca1_Merges]]) (a0.Cells.length - (0 : Nat)) ⟨(0 : Nat), rfl, (by omega), (by rfl), rfl, hS.fin [1, 0] (by decide) rfl⟩ ?_
      rintro m_ f_ w15 ⟨i, rfl, hI0_0, hI0_1, rfl, hS⟩
      refine C_seq ?_
      refine C_seq ?_
      refine C_region ?_
      refine W_cons rfl (by decide) (Sv_val rfl (R_move rfl rfl) ?_)
      refine W_cons rfl (by decide) (Sv_val rfl (R_fld rfl rfl fld39_3) ?_)
      refine W_cons rfl (by decide) (Sv_val rfl (R_load1 rfl rfl agg36 ((hS.bx 0 rfl).cell rfl)) ?_)
      refine W_cons rfl (by decide) (Sv_val rfl (R_len rfl rfl Try.underlying36) ?_)
      refine W_cons rfl (by decide) (Sv_val rfl (R_bin rfl rfl rfl rfl rfl) ?_)
      refine W_nil ?_
      refine E_then ?_
      refine C_ite rfl (fun hC1 => ?_) (fun hC1 => ?_)
      ·have _hC1 := trivial
       have hC1p : (i : Int) < (a0.Cells.length : Int) := by simpa using hC1
       refine C_skip ?_
       refine E_then (C_fr [(2, .pointer (some ⟨b2, 0, none⟩)), (3, .pointer (some ⟨b4, 0, none⟩)), (5, .int .i64 (i : Int))] rfl ?_)
       refine C_seq ?_
       refine C_block ?_
       refine C_seq ?_
       refine C_fr [(2, .pointer (some ⟨b2, 0, none⟩)), (3, .pointer (some ⟨b4, 0, none⟩)), (5, .int .i64 (i : Int))] rfl ?_
       obtain ⟨q18, csq18, hAq18, rfl, hkq18⟩ := hra0_Cells.at_ (default : TCell) (i := (i : Int)) (by omega) (by omega)
       have hkq18 : ∀ (j_ : Nat) (u_ : Value), ([.int .i64 (a0.Cells.getD i (default : TCell)).Row, .int .i64 (a0.Cells.getD i (default : TCell)).Col, vstr (a0.Cells.getD i (default : TCell)).Text, .int .i64 (a0.Cells.getD i (default : TCell)).Style.Align, .int .i64 (a0.Cells.getD i (default : TCell)).Style.Wrap, .int .i64 (a0.Cells.getD i (default : TCell)).Style.Dir] : List Value)[j_]? = some u_ → cz z (q18.add (i * 6 + j_)) = some u_ := hkq18
       obtain ⟨q19, csq19, hAq19, rfl, hkq19⟩ := hra1_Cells.at_ (default : TCell) (i := (i : Int)) (by omega) (by omega)
       have hkq19 : ∀ (j_ : Nat) (u_ : Value), ([.int .i64 (a1.Cells.getD i (default : TCell)).Row, .int .i64 (a1.Cells.getD i (default : TCell)).Col, vstr (a1.Cells.getD i (default : TCell)).Text, .int .i64 (a1.Cells.getD i (default : TCell)).Style.Align, .int .i64 (a1.Cells.getD i (default : TCell)).Style.Wrap, .int .i64 (a1.Cells.getD i (default : TCell)).Style.Dir] : List Value)[j_]? = some u_ → cz z (q19.add (i * 6 + j_)) = some u_ := hkq19
       refine C_drawn 11 [[], [0], [], [1, 2], [3], [], [5], [], [6, 7], [8], [4, 9]] [51, 52, 53, 54, 55, 56, 57, 58, 59, 60, 61] [2, 3, 5] rfl (by kernel_rfl) (by decide +kernel) [fun v_ _ => v_ = .pointer (some ⟨b2, 3, none⟩), fun v_ _ => v_ = .slice Aa0_Cells a0.Cells.length ca0_Cells, fun v_ _ => v_ = .int .i64 (i : Int), fun v_ _ => v_ = .pointer (some (q18.add (i * 6))), fun v_ _ => v_ = .agg #[.int .i64 (a0.Cells.getD i (default : TCell)).Row, .int .i64 (a0.Cells.getD i (default : TCell)).Col, vstr (a0.Cells.getD i (default : TCell)).Text, .int .i64 (a0.Cells.getD i (default : TCell)).Style.Align, .int .i64 (a0.Cells.getD i (default : TCell)).Style.Wrap, .int .i64 (a0.Cells.getD i (default : TCell)).Style.Dir], fun v_ _ => v_ = .pointer (some ⟨b4, 3, none⟩), fun v_ _ => v_ = .slice Aa1_Cells a1.Cells.length ca1_Cells, fun v_ _ => v_ = .int .i64 (i : Int), fun v_ _ => v_ = .pointer (some (q19.add (i * 6))), fun v_ _ => v_ = .agg #[.int .i64 (a1.Cells.getD i (default : TCell)).Row, .int .i64 (a1.Cells.getD i (default : TCell)).Col, vstr (a1.Cells.getD i (default : TCell)).Text, .int .i64 (a1.Cells.getD i (default : TCell)).Style.Align, .int .i64 (a1.Cells.getD i (default : TCell)).Style.Wrap, .int .i64 (a1.Cells.getD i (default : TCell)).Style.Dir], fun v_ _ => v_ = .bool (!decide (a0.Cells.getD i (default : TCell) = a1.Cells.getD i (default : TCell)))] ⟨fun _ _ _ h _ => h, ⟨fun _ _ _ h _ => h, ⟨fun _ _ _ h _ => h, ⟨fun _ _ _ h _ => h, ⟨fun _ _ _ h _ => h, ⟨fun _ _ _ h _ => h, ⟨fun _ _ _ h _ => h, ⟨fun _ _ _ h _ => h, ⟨fun _ _ _ h _ => h, ⟨fun _ _ _ h _ => h, ⟨fun _ _ _ h _ => h, trivial⟩⟩⟩⟩⟩⟩⟩⟩⟩⟩⟩ ⟨fun w16 hc17 => by have hS := hS.chg0 hc17; exact Sv_val rfl (R_fld rfl rfl fld39_3) ⟨Chg.refl _ _, rfl⟩, ⟨fun w16 hc17 => by have hS := hS.chg0 hc17; rintro _ rfl; exact Sv_val rfl (R_load1 rfl rfl agg36 ((hS.bx 0 rfl).cell rfl)) ⟨Chg.refl _ _, rfl⟩, ⟨fun w16 hc17 => by have hS := hS.chg0 hc17; exact Sv_val rfl (R_move rfl rfl) ⟨Chg.refl _ _, rfl⟩, ⟨fun w16 hc17 => by have hS := hS.chg0 hc17; rintro _ rfl _ rfl; exact Sv_val rfl (R_idx rfl rfl hAq18 rfl Try.underlying36 size46 (by omega) (by omega)) ⟨Chg.refl _ _, rfl⟩, ⟨fun w16 hc17 => by have hS := hS.chg0 hc17; rintro _ rfl; exact Sv_val rfl (R_loadN (cs := [.int .i64 (a0.Cells.getD i (default : TCell)).Row, .int .i64 (a0.Cells.getD i (default : TCell)).Col, vstr (a0.Cells.getD i (default : TCell)).Text, .int .i64 (a0.Cells.getD i (default : TCell)).Style.Align, .int .i64 (a0.Cells.getD i (default : TCell)).Style.Wrap, .int .i64 (a0.Cells.getD i (default : TCell)).Style.Dir]) rfl rfl agg46 size46 rfl (fun j u h => cell_add (hS.sub.cell (hkq18 j u h)))) ⟨Chg.refl _ _, rfl⟩, ⟨fun w16 hc17 => by have hS := hS.chg0 hc17; exact Sv_val rfl (R_fld rfl rfl fld39_3) ⟨Chg.refl _ _, rfl⟩, ⟨fun w16 hc17 => by have hS := hS.chg0 hc17; rintro _ rfl; exact Sv_val rfl (R_load1 rfl rfl agg36 ((hS.bx 1 rfl).cell rfl)) ⟨Chg.refl _ _, rfl⟩, ⟨fun w16 hc17 => by have hS := hS.chg0 hc17; exact Sv_val rfl (R_move rfl rfl) ⟨Chg.refl _ _, rfl⟩, ⟨fun w16 hc17 => by have hS := hS.chg0 hc17; rintro _ rfl _ rfl; exact Sv_val rfl (R_idx rfl rfl hAq19 rfl Try.underlying36 size46 (by omega) (by omega)) ⟨Chg.refl _ _, rfl⟩, ⟨fun w16 hc17 => by have hS := hS.chg0 hc17; rintro _ rfl; exact Sv_val rfl (R_loadN (cs := [.int .i64 (a1.Cells.getD i (default : TCell)).Row, .int .i64 (a1.Cells.getD i (default : TCell)).Col, vstr (a1.Cells.getD i (default : TCell)).Text, .int .i64 (a1.Cells.getD i (default : TCell)).Style.Align, .int .i64 (a1.Cells.getD i (default : TCell)).Style.Wrap, .int .i64 (a1.Cells.getD i (default : TCell)).Style.Dir]) rfl rfl agg46 size46 rfl (fun j u h => cell_add (hS.sub.cell (hkq19 j u h)))) ⟨Chg.refl _ _, rfl⟩, ⟨fun w16 hc17 => by have hS := hS.chg0 hc17; rintro _ rfl _ rfl; exact Sv_val rfl (R_neqv rfl rfl rfl eqg46 ((eqv46 (a0.Cells.getD i (default : TCell)) (a1.Cells.getD i (default : TCell))).up 1)) ⟨Chg.refl _ _, rfl⟩, trivial⟩⟩⟩⟩⟩⟩⟩⟩⟩⟩⟩ ?_
       intro w16 hc17
       have hS := hS.chg0 hc17
       rintro _ rfl _ rfl _ rfl _ rfl _ rfl _ rfl _ rfl _ rfl _ rfl _ rfl _ rfl
       refine An_fr [(2, .pointer (some ⟨b2, 0, none⟩)), (3, .pointer (some ⟨b4, 0, none⟩)), (5, .int .i64 (i : Int)), (61, .bool (!decide (a0.Cells.getD i (default : TCell) = a1.Cells.getD i (default : TCell))))] rfl ?_
       refine An_done (by decide +kernel) ?_
       refine E_then ?_
       refine C_ite rfl (fun hC2 => ?_) (fun hC2 => ?_)
       ·have _hC2 := trivial
        have hC2p : ¬ a0.Cells.getD i (default : TCell) = a1.Cells.getD i (default : TCell) := by simpa using hC2
        refine C_seq ?_
        refine C_region ?_
        refine W_cons rfl (by decide) (Sv_val rfl (R_assign rfl rfl) ?_)
        refine W_nil ?_
        refine E_then ?_
        refine C_ret ?_
        refine E_block_ret ?_
        refine E_then_ret ?_
        refine E_then_ret ?_
        refine E_block_ret ?_
        refine E_then_ret ?_
        refine E_ret1 rfl rfl ?_
        exact ⟨Lret1 (Lbool (show false = (decide (a0 = a1)) by first | exact (decide_eq_false (fun h_ => by subst h_; first | (exact absurd rfl (by assumption)) | omega | simp_all)).symm | exact sh_yes (by first | assumption | omega) (by simp_all) (by simp_all) (take_all (by omega) (by omega) hI0_1) (by simp_all))), hS.fin [] (by decide) rfl⟩
       ·have _hC2 := trivial
        have hC2p : a0.Cells.getD i (default : TCell) = a1.Cells.getD i (default : TCell) := by simpa using hC2
        refine C_skip ?_
        refine E_block_normal ?_
        refine E_then ?_
        refine C_region ?_
        refine W_cons rfl (by decide) (Sv_val rfl (R_move rfl rfl) ?_)
        refine W_cons rfl (by decide) (Sv_val rfl (R_add64 rfl rfl rfl (by omega) (by omega)) ?_)
        refine W_cons rfl (by decide) (Sv_val rfl (R_assign rfl rfl) ?_)
        refine W_nil ?_
        refine E_round [2, 3, 5] ?_ ⟨(i + 1 : Nat), rfl, (by omega), (by exact take_more (by omega) (by omega) hI0_1 (by assumption)), rfl, hS.fin [0, 1] (by decide) rfl⟩
        omega
      ·have _hC1 := trivial
       have hC1p : ¬ ((i : Int) < (a0.Cells.length : Int)) := by simpa using hC1
       refine C_exit ?_
       refine E_then_exit ?_
       refine E_then_exit ?_
       refine E_block_hit ?_
       refine E_then (C_fr [] rfl ?_)
       refine C_seq ?_
       refine C_region ?_
       refine W_cons rfl (by decide) (Sv_val rfl (R_assign rfl rfl) ?_)
       refine W_nil ?_
       refine E_then ?_
       refine C_ret ?_
       refine E_ret1 rfl rfl ?_
       exact ⟨Lret1 (Lbool (show true = (decide (a0 = a1)) by first | exact (decide_eq_false (fun h_ => by subst h_; first | (exact absurd rfl (by assumption)) | omega | simp_all)).symm | exact sh_yes (by first | assumption | omega) (by simp_all) (by simp_all) (take_all (by omega) (by omega) hI0_1) (by simp_all))), hS.fin [] (by decide) rfl⟩

set_option maxHeartbeats 400000 in
set_option maxRecDepth 20000 in
theorem shown_calls (a0 : TSheet) (Aa0_Widths : Option Addr) (ca0_Widths : Nat) (Aa0_Heights : Option Addr) (ca0_Heights : Nat) (Aa0_Cells : Option Addr) (ca0_Cells : Nat) (Aa0_Merges : Option Addr) (ca0_Merges : Nat) (z : Z) (w : World) (hI : In z w []) (hra0_Widths : Rd (kint .i64) z Aa0_Widths a0.Widths) (hca0_Widths : Cap Aa0_Widths a0.Widths.length ca0_Widths) (hra0_Heights : Rd (kint .i64) z Aa0_Heights a0.Heights) (hca0_Heights : Cap Aa0_Heights a0.Heights.length ca0_Heights) (hra0_Cells : Rd kdTCell z Aa0_Cells a0.Cells) (hca0_Cells : Cap Aa0_Cells a0.Cells.length ca0_Cells) (hra0_Merges : Rd kdTRect z Aa0_Merges a0.Merges) (hca0_Merges : Cap Aa0_Merges a0.Merges.length ca0_Merges) (p0 : a0.Widths.length ≤ 100000 ∧ a0.Heights.length ≤ 100000 ∧ a0.Cells.length ≤ 100000 ∧ a0.Merges.length ≤ 100000) :
    Calls Try.prog 39 #[.agg #[.int .i64 a0.Right, .slice Aa0_Widths a0.Widths.length ca0_Widths, .slice Aa0_Heights a0.Heights.length ca0_Heights, .slice Aa0_Cells a0.Cells.length ca0_Cells, .slice Aa0_Merges a0.Merges.length ca0_Merges]] w fun e w' => ∃ (AR0_Widths : Option Addr) (cR0_Widths : Nat) (AR0_Heights : Option Addr) (cR0_Heights : Nat) (AR0_Cells : Option Addr) (cR0_Cells : Nat) (AR0_Merges : Option Addr) (cR0_Merges : Nat), e = .returned (.agg #[.int .i64 a0.Right, .slice AR0_Widths a0.Widths.length cR0_Widths, .slice AR0_Heights a0.Heights.length cR0_Heights, .slice AR0_Cells a0.Cells.length cR0_Cells, .slice AR0_Merges a0.Merges.length cR0_Merges]) ∧ Sp (FF []) w z w' [oR (kint .i64) 3 zE AR0_Widths cR0_Widths a0.Widths, oR (kint .i64) 3 zE AR0_Heights cR0_Heights a0.Heights, oR kdTCell 46 zE AR0_Cells cR0_Cells a0.Cells, oR kdTRect 33 zE AR0_Merges cR0_Merges a0.Merges] := by
 have hla0_Widths := hca0_Widths.le
 have hma0_Widths := hca0_Widths.mx
 have hla0_Heights := hca0_Heights.le
 have hma0_Heights := hca0_Heights.mx
 have hla0_Cells := hca0_Cells.le
 have hma0_Cells := hca0_Cells.mx
 have hla0_Merges := hca0_Merges.le
 have hma0_Merges := hca0_Merges.mx
 have hS := hI.sp
 refine Calls_of (vs := [.agg #[.int .i64 a0.Right, .slice Aa0_Widths a0.Widths.length ca0_Widths, .slice Aa0_Heights a0.Heights.length ca0_Heights, .slice Aa0_Cells a0.Cells.length ca0_Cells, .slice Aa0_Merges a0.Merges.length ca0_Merges]]) (N := 20) Try.func39 rfl rfl (Nat.le_of_ble_eq_true rfl) ?_
 refine C_seq ?_
 refine C_region ?_
 refine W_cons rfl (by decide) (S_box hS rfl (R_box (cs := [.int .i64 a0.Right, .slice Aa0_Widths a0.Widths.length ca0_Widths, .slice Aa0_Heights a0.Heights.length ca0_Heights, .slice Aa0_Cells a0.Cells.length ca0_Cells, .slice Aa0_Merges a0.Merges.length ca0_Merges]) rfl rfl rfl) (fun b2 w1 hS => ?_))
 refine W_cons rfl (by decide) (S_box hS rfl (R_alloc rfl alloc39) (fun b4 w3 hS => ?_))
 refine W_nil ?_
 refine E_then ?_
 refine C_seq ?_
 refine C_fr [(1, .pointer (some ⟨b2, 0, none⟩)), (2, .pointer (some ⟨b4, 0, none⟩))] rfl ?_
 refine C_drawn2 10 [[], [0], [1], [], [3], [4, 2], [0, 1, 2, 3, 4]] [some 3, some 4, some 5, some 6, some 7, some 8, some 9] [1, 2] (List.replicate 7 7) (List.replicate 7 []) (List.replicate 7 []) [fun γ_ => .pointer (some ⟨b2, 1, none⟩), fun γ_ => .slice Aa0_Widths a0.Widths.length ca0_Widths, fun γ_ => .slice (γ_.a 0) a0.Widths.length (γ_.c 0), fun γ_ => .pointer (some ⟨b2, 2, none⟩), fun γ_ => .slice Aa0_Heights a0.Heights.length ca0_Heights, fun γ_ => .slice (γ_.a 0) a0.Heights.length (γ_.c 0), fun γ_ => .pointer (some ⟨b2, 1, none⟩)] [fun γ_ => [], fun γ_ => [], fun γ_ => [oR (kint .i64) 3 zE (γ_.a 0) (γ_.c 0) a0.Widths], fun γ_ => [], fun γ_ => [], fun γ_ => [oR (kint .i64) 3 zE (γ_.a 0) (γ_.c 0) a0.Heights], fun γ_ => []] rfl (by kernel_rfl) (by decide +kernel) hS ?_ ?_
 ·refine ⟨fun g_ w11 fr12 hS => Sv_val rfl (R_fld rfl rfl fld39_1) ⟨gh0, rfl, hS⟩, ?_⟩
  refine ⟨fun g_ w13 fr14 hS => Sv_val rfl (R_load1 rfl rfl agg35 ((hS.bx 1 rfl).cell rfl)) ⟨gh0, rfl, hS⟩, ?_⟩
  refine ⟨fun g_ w15 fr16 hS => ?_, ?_⟩
  ·have _w15 := trivial
   have hS : Sp (FF []) w z w15 [bR b4 39 [.int .i64 0, .slice none 0 0, .slice none 0 0, .slice none 0 0, .slice none 0 0], bR b2 39 [.int .i64 a0.Right, .slice Aa0_Widths a0.Widths.length ca0_Widths, .slice Aa0_Heights a0.Heights.length ca0_Heights, .slice Aa0_Cells a0.Cells.length ca0_Cells, .slice Aa0_Merges a0.Merges.length ca0_Merges], allR fr16] := hS
   refine Sv_call rfl rfl rfl ent67 ?_
   refine (eqi_clone_calls a0.Widths Aa0_Widths ca0_Widths _ _ hS.out0 (hra0_Widths.mono (hS.zl [])) hca0_Widths (by omega)).mono ?_
   rintro e_ w17 ⟨AR0_18, cR0_18, rfl, hS_⟩
   refine ⟨_, rfl, ?_⟩
   have hS := hS.call0 hS_
   have hp19 := hS.cap 0 rfl
   have hlhp19 := hp19.le
   have hmhp19 := hp19.mx
   exact ⟨⟨fun _ => AR0_18, fun _ => cR0_18, fun _ => zE, fun _ => 0⟩, rfl, hS.fin [0, 1, 2, 3] (by decide) rfl⟩
  refine ⟨fun g_ w20 fr21 hS => Sv_val rfl (R_fld rfl rfl fld39_2) ⟨gh0, rfl, hS⟩, ?_⟩
  refine ⟨fun g_ w22 fr23 hS => Sv_val rfl (R_load1 rfl rfl agg35 ((hS.bx 1 rfl).cell rfl)) ⟨gh0, rfl, hS⟩, ?_⟩
  refine ⟨fun g_ w24 fr25 hS => ?_, ?_⟩
  ·have _w24 := trivial
   have hS : Sp (FF []) w z w24 [bR b4 39 [.int .i64 0, .slice none 0 0, .slice none 0 0, .slice none 0 0, .slice none 0 0], bR b2 39 [.int .i64 a0.Right, .slice Aa0_Widths a0.Widths.length ca0_Widths, .slice Aa0_Heights a0.Heights.length ca0_Heights, .slice Aa0_Cells a0.Cells.length ca0_Cells, .slice Aa0_Merges a0.Merges.length ca0_Merges], allR fr25] := hS
   refine Sv_call rfl rfl rfl ent67 ?_
   refine (eqi_clone_calls a0.Heights Aa0_Heights ca0_Heights _ _ hS.out0 (hra0_Heights.mono (hS.zl [])) hca0_Heights (by omega)).mono ?_
   rintro e_ w26 ⟨AR0_27, cR0_27, rfl, hS_⟩
   refine ⟨_, rfl, ?_⟩
   have hS := hS.call0 hS_
   have hp28 := hS.cap 0 rfl
   have hlhp28 := hp28.le
   have hmhp28 := hp28.mx
   exact ⟨⟨fun _ => AR0_27, fun _ => cR0_27, fun _ => zE, fun _ => 0⟩, rfl, hS.fin [0, 1, 2, 3] (by decide) rfl⟩
  refine ⟨fun g_ w29 fr30 hS => Sv_val rfl (R_fld rfl rfl fld39_1) ⟨gh0, rfl, hS⟩, ?_⟩
  exact trivial
 ·intro g_ w31 hS
  have hS : Sp (FF []) w z w31 [oR (kint .i64) 3 zE ((g_ 2).a 0) ((g_ 2).c 0) a0.Widths, oR (kint .i64) 3 zE ((g_ 5).a 0) ((g_ 5).c 0) a0.Heights, bR b4 39 [.int .i64 0, .slice none 0 0, .slice none 0 0, .slice none 0 0, .slice none 0 0], bR b2 39 [.int .i64 a0.Right, .slice Aa0_Widths a0.Widths.length ca0_Widths, .slice Aa0_Heights a0.Heights.length ca0_Heights, .slice Aa0_Cells a0.Cells.length ca0_Cells, .slice Aa0_Merges a0.Merges.length ca0_Merges]] := hS
  refine An_fr [(1, .pointer (some ⟨b2, 0, none⟩)), (2, .pointer (some ⟨b4, 0, none⟩)), (5, .slice ((g_ 2).a 0) a0.Widths.length ((g_ 2).c 0)), (8, .slice ((g_ 5).a 0) a0.Heights.length ((g_ 5).c 0)), (9, .pointer (some ⟨b2, 1, none⟩))] rfl ?_
  generalize ((g_ 2).a 0) = A33 at hS ⊢
  generalize ((g_ 2).c 0) = c34 at hS ⊢
  generalize ((g_ 5).a 0) = A35 at hS ⊢
  generalize ((g_ 5).c 0) = c36 at hS ⊢
  have hp37 := hS.cap 0 rfl
  have hlhp37 := hp37.le
  have hmhp37 := hp37.mx
  have hp38 := hS.cap 1 rfl
  have hlhp38 := hp38.le
  have hmhp38 := hp38.mx
  refine An_one0 (i := 7) (by decide +kernel) rfl rfl (S_store hS 3 rfl rfl rfl rfl rfl size35 (one1 rfl) (Nat.le_of_ble_eq_true rfl) (fun w39 hS => ?_))
  refine An_one (i := 8) (by decide +kernel) rfl rfl (by decide) (Sv_val rfl (R_fld rfl rfl fld39_2) ?_)
  refine An_one0 (i := 9) (by decide +kernel) rfl rfl (S_store hS 3 rfl rfl rfl rfl rfl size35 (one1 rfl) (Nat.le_of_ble_eq_true rfl) (fun w40 hS => ?_))
  refine An_done (by decide +kernel) ?_
  refine E_then ?_
  refine C_seq ?_
  refine C_fr [(1, .pointer (some ⟨b2, 0, none⟩)), (2, .pointer (some ⟨b4, 0, none⟩))] rfl ?_
  refine C_drawn2 10 [[], [0], [1], [], [3], [4, 2], [0, 1, 2, 3, 4]] [some 11, some 12, some 13, some 14, some 15, some 16, some 17] [1, 2] (List.replicate 7 7) (List.replicate 7 []) (List.replicate 7 []) [fun γ_ => .pointer (some ⟨b2, 3, none⟩), fun γ_ => .slice Aa0_Cells a0.Cells.length ca0_Cells, fun γ_ => .slice (γ_.a 0) a0.Cells.length (γ_.c 0), fun γ_ => .pointer (some ⟨b2, 4, none⟩), fun γ_ => .slice Aa0_Merges a0.Merges.length ca0_Merges, fun γ_ => .slice (γ_.a 0) a0.Merges.length (γ_.c 0), fun γ_ => .pointer (some ⟨b2, 3, none⟩)] [fun γ_ => [], fun γ_ => [], fun γ_ => [oR kdTCell 46 zE (γ_.a 0) (γ_.c 0) a0.Cells], fun γ_ => [], fun γ_ => [], fun γ_ => [oR kdTRect 33 zE (γ_.a 0) (γ_.c 0) a0.Merges], fun γ_ => []] rfl (by kernel_rfl) (by decide +kernel) hS ?_ ?_
  ·refine ⟨fun g_ w47 fr48 hS => Sv_val rfl (R_fld rfl rfl fld39_3) ⟨gh0, rfl, hS⟩, ?_⟩
   refine ⟨fun g_ w49 fr50 hS => Sv_val rfl (R_load1 rfl rfl agg36 ((hS.bx 3 rfl).cell rfl)) ⟨gh0, rfl, hS⟩, ?_⟩
   refine ⟨fun g_ w51 fr52 hS => ?_, ?_⟩
   ·have _w51 := trivial
    have hS : Sp (FF []) w z w51 [oR (kint .i64) 3 zE A33 c34 a0.Widths, oR (kint .i64) 3 zE A35 c36 a0.Heights, bR b4 39 [.int .i64 0, .slice none 0 0, .slice none 0 0, .slice none 0 0, .slice none 0 0], bR b2 39 [.int .i64 a0.Right, .slice A33 a0.Widths.length c34, .slice A35 a0.Heights.length c36, .slice Aa0_Cells a0.Cells.length ca0_Cells, .slice Aa0_Merges a0.Merges.length ca0_Merges], allR fr52] := hS
    refine Sv_call rfl rfl rfl ent68 ?_
    refine (eqc_clone_calls a0.Cells Aa0_Cells ca0_Cells _ _ hS.out0 (hra0_Cells.mono (hS.zl [])) hca0_Cells (by omega)).mono ?_
    rintro e_ w53 ⟨AR0_54, cR0_54, rfl, hS_⟩
    refine ⟨_, rfl, ?_⟩
    have hS := hS.call0 hS_
    have hp55 := hS.cap 0 rfl
    have hlhp55 := hp55.le
    have hmhp55 := hp55.mx
    exact ⟨⟨fun _ => AR0_54, fun _ => cR0_54, fun _ => zE, fun _ => 0⟩, rfl, hS.fin [0, 1, 2, 3, 4, 5] (by decide) rfl⟩
   refine ⟨fun g_ w56 fr57 hS => Sv_val rfl (R_fld rfl rfl fld39_4) ⟨gh0, rfl, hS⟩, ?_⟩
   refine ⟨fun g_ w58 fr59 hS => Sv_val rfl (R_load1 rfl rfl agg37 ((hS.bx 3 rfl).cell rfl)) ⟨gh0, rfl, hS⟩, ?_⟩
   refine ⟨fun g_ w60 fr61 hS => ?_, ?_⟩
   ·have _w60 := trivial
    have hS : Sp (FF []) w z w60 [oR (kint .i64) 3 zE A33 c34 a0.Widths, oR (kint .i64) 3 zE A35 c36 a0.Heights, bR b4 39 [.int .i64 0, .slice none 0 0, .slice none 0 0, .slice none 0 0, .slice none 0 0], bR b2 39 [.int .i64 a0.Right, .slice A33 a0.Widths.length c34, .slice A35 a0.Heights.length c36, .slice Aa0_Cells a0.Cells.length ca0_Cells, .slice Aa0_Merges a0.Merges.length ca0_Merges], allR fr61] := hS
    refine Sv_call rfl rfl rfl ent69 ?_
    refine (eqr_clone_calls a0.Merges Aa0_Merges ca0_Merges _ _ hS.out0 (hra0_Merges.mono (hS.zl [])) hca0_Merges (by omega)).mono ?_
    rintro e_ w62 ⟨AR0_63, cR0_63, rfl, hS_⟩
    refine ⟨_, rfl, ?_⟩
    have hS := hS.call0 hS_
    have hp64 := hS.cap 0 rfl
    have hlhp64 := hp64.le
    have hmhp64 := hp64.mx
    exact ⟨⟨fun _ => AR0_63, fun _ => cR0_63, fun _ => zE, fun _ => 0⟩, rfl, hS.fin [0, 1, 2, 3, 4, 5] (by decide) rfl⟩
   refine ⟨fun g_ w65 fr66 hS => Sv_val rfl (R_fld rfl rfl fld39_3) ⟨gh0, rfl, hS⟩, ?_⟩
   exact trivial
  ·intro g_ w67 hS
   have hS : Sp (FF []) w z w67 [oR kdTCell 46 zE ((g_ 2).a 0) ((g_ 2).c 0) a0.Cells, oR kdTRect 33 zE ((g_ 5).a 0) ((g_ 5).c 0) a0.Merges, oR (kint .i64) 3 zE A33 c34 a0.Widths, oR (kint .i64) 3 zE A35 c36 a0.Heights, bR b4 39 [.int .i64 0, .slice none 0 0, .slice none 0 0, .slice none 0 0, .slice none 0 0], bR b2 39 [.int .i64 a0.Right, .slice A33 a0.Widths.length c34, .slice A35 a0.Heights.length c36, .slice Aa0_Cells a0.Cells.length ca0_Cells, .slice Aa0_Merges a0.Merges.length ca0_Merges]] := hS
   refine An_fr [(1, .pointer (some ⟨b2, 0, none⟩)), (2, .pointer (some ⟨b4, 0, none⟩)), (13, .slice ((g_ 2).a 0) a0.Cells.length ((g_ 2).c 0)), (16, .slice ((g_ 5).a 0) a0.Merges.length ((g_ 5).c 0)), (17, .pointer (some ⟨b2, 3, none⟩))] rfl ?_
   generalize ((g_ 2).a 0) = A69 at hS ⊢
   generalize ((g_ 2).c 0) = c70 at hS ⊢
   generalize ((g_ 5).a 0) = A71 at hS ⊢
   generalize ((g_ 5).c 0) = c72 at hS ⊢
   have hp73 := hS.cap 0 rfl
   have hlhp73 := hp73.le
   have hmhp73 := hp73.mx
   have hp74 := hS.cap 1 rfl
   have hlhp74 := hp74.le
   have hmhp74 := hp74.mx
   refine An_one0 (i := 7) (by decide +kernel) rfl rfl (S_store hS 5 rfl rfl rfl rfl rfl size36 (one1 rfl) (Nat.le_of_ble_eq_true rfl) (fun w75 hS => ?_))
   refine An_one (i := 8) (by decide +kernel) rfl rfl (by decide) (Sv_val rfl (R_fld rfl rfl fld39_4) ?_)
   refine An_one0 (i := 9) (by decide +kernel) rfl rfl (S_store hS 5 rfl rfl rfl rfl rfl size37 (one1 rfl) (Nat.le_of_ble_eq_true rfl) (fun w76 hS => ?_))
   refine An_done (by decide +kernel) ?_
   refine E_then ?_
   refine C_seq ?_
   refine C_region ?_
   refine W_cons rfl (by decide) (Sv_val rfl (R_loadN (cs := [.int .i64 a0.Right, .slice A33 a0.Widths.length c34, .slice A35 a0.Heights.length c36, .slice A69 a0.Cells.length c70, .slice A71 a0.Merges.length c72]) rfl rfl agg39 size39 rfl (boxcells (hS.bx 5 rfl) 0 rfl)) ?_)
   refine W_cons0 rfl (S_store hS 4 rfl rfl rfl rfl rfl size39 (one_cons rfl (one_cons rfl (one_cons rfl (one_cons rfl (one_cons rfl one_nil))))) (Nat.le_of_ble_eq_true rfl) (fun w77 hS => ?_))
   have hS : Sp (FF []) w z w77 [oR kdTCell 46 zE A69 c70 a0.Cells, oR kdTRect 33 zE A71 c72 a0.Merges, oR (kint .i64) 3 zE A33 c34 a0.Widths, oR (kint .i64) 3 zE A35 c36 a0.Heights, bR b4 39 [.int .i64 a0.Right, .slice A33 a0.Widths.length c34, .slice A35 a0.Heights.length c36, .slice A69 a0.Cells.length c70, .slice A71 a0.Merges.length c72], bR b2 39 [.int .i64 a0.Right, .slice A33 a0.Widths.length c34, .slice A35 a0.Heights.length c36, .slice A69 a0.Cells.length c70, .slice A71 a0.Merges.length c72]] := hS
   refine W_nil ?_
   refine E_then (C_fr [(2, .pointer (some ⟨b4, 0, none⟩))] rfl ?_)
   refine C_ret ?_
   have hq78 : a0.Widths = a0.Widths := by rfl
   have hS := hS.re 2 rfl hq78
   have hq79 : a0.Heights = a0.Heights := by rfl
   have hS := hS.re 3 rfl hq79
   have hq80 : a0.Cells = a0.Cells := by rfl
   have hS := hS.re 0 rfl hq80
   have hq81 : a0.Merges = a0.Merges := by rfl
   have hS := hS.re 1 rfl hq81
   refine E_rv1 rfl (RV_cellN (cs := [.int .i64 a0.Right, .slice A33 a0.Widths.length c34, .slice A35 a0.Heights.length c36, .slice A69 a0.Cells.length c70, .slice A71 a0.Merges.length c72]) rfl agg39 size39 rfl (boxcells (hS.bx 4 rfl) 0 rfl)) ?_
   exact ⟨A33, c34, A35, c36, A69, c70, A71, c72, Lret1 (show (.agg #[.int .i64 a0.Right, .slice A33 a0.Widths.length c34, .slice A35 a0.Heights.length c36, .slice A69 a0.Cells.length c70, .slice A71 a0.Merges.length c72] : Value) = .agg #[.int .i64 a0.Right, .slice _ a0.Widths.length _, .slice _ a0.Heights.length _, .slice _ a0.Cells.length _, .slice _ a0.Merges.length _] by rfl), hS.fin [2, 3, 0, 1] (by decide) rfl⟩

set_option maxHeartbeats 400000 in
set_option maxRecDepth 20000 in
theorem rshown_calls (a0 : TSheet) (Aa0_Widths : Option Addr) (ca0_Widths : Nat) (Aa0_Heights : Option Addr) (ca0_Heights : Nat) (Aa0_Cells : Option Addr) (ca0_Cells : Nat) (Aa0_Merges : Option Addr) (ca0_Merges : Nat) (z : Z) (w : World) (hI : In z w []) (hra0_Widths : Rd (kint .i64) z Aa0_Widths a0.Widths) (hca0_Widths : Cap Aa0_Widths a0.Widths.length ca0_Widths) (hra0_Heights : Rd (kint .i64) z Aa0_Heights a0.Heights) (hca0_Heights : Cap Aa0_Heights a0.Heights.length ca0_Heights) (hra0_Cells : Rd kdTCell z Aa0_Cells a0.Cells) (hca0_Cells : Cap Aa0_Cells a0.Cells.length ca0_Cells) (hra0_Merges : Rd kdTRect z Aa0_Merges a0.Merges) (hca0_Merges : Cap Aa0_Merges a0.Merges.length ca0_Merges) (p0 : a0.Widths.length ≤ 100000 ∧ a0.Heights.length ≤ 100000 ∧ a0.Cells.length ≤ 100000 ∧ a0.Merges.length ≤ 100000) :
    Calls Try.prog 38 #[.agg #[.int .i64 a0.Right, .slice Aa0_Widths a0.Widths.length ca0_Widths, .slice Aa0_Heights a0.Heights.length ca0_Heights, .slice Aa0_Cells a0.Cells.length ca0_Cells, .slice Aa0_Merges a0.Merges.length ca0_Merges]] w fun e w' => ∃ (AR0_Widths : Option Addr) (cR0_Widths : Nat) (AR0_Heights : Option Addr) (cR0_Heights : Nat) (AR0_Cells : Option Addr) (cR0_Cells : Nat) (AR0_Merges : Option Addr) (cR0_Merges : Nat), e = .returned (.agg #[.int .i64 a0.Right, .slice AR0_Widths a0.Widths.length cR0_Widths, .slice AR0_Heights a0.Heights.length cR0_Heights, .slice AR0_Cells a0.Cells.length cR0_Cells, .slice AR0_Merges a0.Merges.length cR0_Merges]) ∧ Sp (FF []) w z w' [oR (kint .i64) 3 zE AR0_Widths cR0_Widths a0.Widths, oR (kint .i64) 3 zE AR0_Heights cR0_Heights a0.Heights, oR kdTCell 46 zE AR0_Cells cR0_Cells a0.Cells, oR kdTRect 33 zE AR0_Merges cR0_Merges a0.Merges] := by
 have hla0_Widths := hca0_Widths.le
 have hma0_Widths := hca0_Widths.mx
 have hla0_Heights := hca0_Heights.le
 have hma0_Heights := hca0_Heights.mx
 have hla0_Cells := hca0_Cells.le
 have hma0_Cells := hca0_Cells.mx
 have hla0_Merges := hca0_Merges.le
 have hma0_Merges := hca0_Merges.mx
 have hS := hI.sp
 refine Calls_of (vs := [.agg #[.int .i64 a0.Right, .slice Aa0_Widths a0.Widths.length ca0_Widths, .slice Aa0_Heights a0.Heights.length ca0_Heights, .slice Aa0_Cells a0.Cells.length ca0_Cells, .slice Aa0_Merges a0.Merges.length ca0_Merges]]) (N := 22) Try.func38 rfl rfl (Nat.le_of_ble_eq_true rfl) ?_
 refine C_seq ?_
 refine C_region ?_
 refine W_cons rfl (by decide) (S_box hS rfl (R_box (cs := [.int .i64 a0.Right, .slice Aa0_Widths a0.Widths.length ca0_Widths, .slice Aa0_Heights a0.Heights.length ca0_Heights, .slice Aa0_Cells a0.Cells.length ca0_Cells, .slice Aa0_Merges a0.Merges.length ca0_Merges]) rfl rfl rfl) (fun b2 w1 hS => ?_))
 refine W_cons rfl (by decide) (S_box hS rfl (R_alloc rfl alloc39) (fun b4 w3 hS => ?_))
 refine W_nil ?_
 refine E_then ?_
 refine C_seq ?_
 refine C_fr [(1, .pointer (some ⟨b2, 0, none⟩)), (2, .pointer (some ⟨b4, 0, none⟩))] rfl ?_
 refine C_drawn2 20 [[], [0], [], [], [3], [2, 4], [], [], [7], [6, 8, 5], [], [], [11], [10, 12, 9], [], [], [15], [14, 16, 13]] [some 3, some 4, some 5, some 6, some 7, some 8, some 9, some 10, some 11, some 12, some 13, some 14, some 15, some 16, some 17, some 18, some 19, some 20] [1, 2] [18, 18, 5, 18, 18, 18, 9, 18, 18, 18, 13, 18, 18, 18, 17, 18, 18, 18] [[], [], [], [], [], [2], [], [], [], [6], [], [], [], [10], [], [], [], [14]] (List.replicate 18 []) [fun γ_ => .pointer (some ⟨b2, 0, none⟩), fun γ_ => .int .i64 a0.Right, fun γ_ => .slice (γ_.a 0) ([] : List Int).length 0, fun γ_ => .pointer (some ⟨b2, 1, none⟩), fun γ_ => .slice Aa0_Widths a0.Widths.length ca0_Widths, fun γ_ => .slice (γ_.a 0) (([] : List Int) ++ a0.Widths).length (γ_.c 0), fun γ_ => .slice (γ_.a 0) ([] : List Int).length 0, fun γ_ => .pointer (some ⟨b2, 2, none⟩), fun γ_ => .slice Aa0_Heights a0.Heights.length ca0_Heights, fun γ_ => .slice (γ_.a 0) (([] : List Int) ++ a0.Heights).length (γ_.c 0), fun γ_ => .slice (γ_.a 0) ([] : List TCell).length 0, fun γ_ => .pointer (some ⟨b2, 3, none⟩), fun γ_ => .slice Aa0_Cells a0.Cells.length ca0_Cells, fun γ_ => .slice (γ_.a 0) (([] : List TCell) ++ a0.Cells).length (γ_.c 0), fun γ_ => .slice (γ_.a 0) ([] : List TRect).length 0, fun γ_ => .pointer (some ⟨b2, 4, none⟩), fun γ_ => .slice Aa0_Merges a0.Merges.length ca0_Merges, fun γ_ => .slice (γ_.a 0) (([] : List TRect) ++ a0.Merges).length (γ_.c 0)] [fun γ_ => [], fun γ_ => [], fun γ_ => [oR (kint .i64) 3 zE (γ_.a 0) 0 ([] : List Int)], fun γ_ => [], fun γ_ => [], fun γ_ => [oR (kint .i64) 3 zE (γ_.a 0) (γ_.c 0) (([] : List Int) ++ a0.Widths)], fun γ_ => [oR (kint .i64) 3 zE (γ_.a 0) 0 ([] : List Int)], fun γ_ => [], fun γ_ => [], fun γ_ => [oR (kint .i64) 3 zE (γ_.a 0) (γ_.c 0) (([] : List Int) ++ a0.Heights)], fun γ_ => [oR kdTCell 46 zE (γ_.a 0) 0 ([] : List TCell)], fun γ_ => [], fun γ_ => [], fun γ_ => [oR kdTCell 46 zE (γ_.a 0) (γ_.c 0) (([] : List TCell) ++ a0.Cells)], fun γ_ => [oR kdTRect 33 zE (γ_.a 0) 0 ([] : List TRect)], fun γ_ => [], fun γ_ => [], fun γ_ => [oR kdTRect 33 zE (γ_.a 0) (γ_.c 0) (([] : List TRect) ++ a0.Merges)]] rfl (by kernel_rfl) (by decide +kernel) hS ?_ ?_
 ·refine ⟨fun g_ w25 fr26 hS => Sv_val rfl (R_fld rfl rfl fld39_0) ⟨gh0, rfl, hS⟩, ?_⟩
  refine ⟨fun g_ w27 fr28 hS => Sv_val rfl (R_load1 rfl rfl agg3 ((hS.bx 1 rfl).cell rfl)) ⟨gh0, rfl, hS⟩, ?_⟩
  refine ⟨fun g_ w29 fr30 hS => ?_, ?_⟩
  ·have _w29 := trivial
   have hS : Sp (FF []) w z w29 [bR b4 39 [.int .i64 0, .slice none 0 0, .slice none 0 0, .slice none 0 0, .slice none 0 0], bR b2 39 [.int .i64 a0.Right, .slice Aa0_Widths a0.Widths.length ca0_Widths, .slice Aa0_Heights a0.Heights.length ca0_Heights, .slice Aa0_Cells a0.Cells.length ca0_Cells, .slice Aa0_Merges a0.Merges.length ca0_Merges], allR fr30] := hS
   refine S_row (d := (kint .i64)) (q := zE) hS ([] : List Int) rfl (R_buildSlice (ps := []) (vs := []) (w' := w29.alloc (.cells [].toArray 3)) (r := .slice (some ⟨w29.heap.size, 0, none⟩) 0 0) rfl rfl rfl (by kernel_rfl)) (by simp [Reps, flat, kint]) rfl (by decide) (fun g32 w31 hS => ?_)
   exact ⟨⟨fun _ => (some ⟨g32, 0, none⟩), fun _ => 0, fun _ => zE, fun _ => 0⟩, rfl, hS.fin [0, 1, 2, 3] (by decide) rfl⟩
  refine ⟨fun g_ w33 fr34 hS => Sv_val rfl (R_fld rfl rfl fld39_1) ⟨gh0, rfl, hS⟩, ?_⟩
  refine ⟨fun g_ w35 fr36 hS => Sv_val rfl (R_load1 rfl rfl agg35 ((hS.bx 1 rfl).cell rfl)) ⟨gh0, rfl, hS⟩, ?_⟩
  refine ⟨fun g_ w37 fr38 hS => ?_, ?_⟩
  ·have _w37 := trivial
   have hS : Sp (FF []) w z w37 [oR (kint .i64) 3 zE ((g_ 2).a 0) 0 ([] : List Int), bR b4 39 [.int .i64 0, .slice none 0 0, .slice none 0 0, .slice none 0 0, .slice none 0 0], bR b2 39 [.int .i64 a0.Right, .slice Aa0_Widths a0.Widths.length ca0_Widths, .slice Aa0_Heights a0.Heights.length ca0_Heights, .slice Aa0_Cells a0.Cells.length ca0_Cells, .slice Aa0_Merges a0.Merges.length ca0_Merges], allR fr38] := hS
   refine S_append hS 0 rfl rfl rfl elem35 rfl rfl (Sp.srd hS.sub hra0_Widths hca0_Widths (fun _ _ h => h)) (by (try simp only [List.length_cons, List.length_nil, List.length_append, maxLen]); omega) (by (try simp only [List.length_cons, List.length_nil, List.length_append, maxLen]); omega) (fun Ar40 cr40 w39 hS => ?_)
   have hp41 := hS.cap 0 rfl
   have hlhp41 := hp41.le
   have hmhp41 := hp41.mx
   exact ⟨⟨fun _ => Ar40, fun _ => cr40, fun _ => zE, fun _ => 0⟩, rfl, hS.fin [0, 1, 2, 3] (by decide) rfl⟩
  refine ⟨fun g_ w42 fr43 hS => ?_, ?_⟩
  ·have _w42 := trivial
   have hS : Sp (FF []) w z w42 [bR b4 39 [.int .i64 0, .slice none 0 0, .slice none 0 0, .slice none 0 0, .slice none 0 0], bR b2 39 [.int .i64 a0.Right, .slice Aa0_Widths a0.Widths.length ca0_Widths, .slice Aa0_Heights a0.Heights.length ca0_Heights, .slice Aa0_Cells a0.Cells.length ca0_Cells, .slice Aa0_Merges a0.Merges.length ca0_Merges], allR fr43] := hS
   refine S_row (d := (kint .i64)) (q := zE) hS ([] : List Int) rfl (R_buildSlice (ps := []) (vs := []) (w' := w42.alloc (.cells [].toArray 3)) (r := .slice (some ⟨w42.heap.size, 0, none⟩) 0 0) rfl rfl rfl (by kernel_rfl)) (by simp [Reps, flat, kint]) rfl (by decide) (fun g45 w44 hS => ?_)
   exact ⟨⟨fun _ => (some ⟨g45, 0, none⟩), fun _ => 0, fun _ => zE, fun _ => 0⟩, rfl, hS.fin [0, 1, 2, 3] (by decide) rfl⟩
  refine ⟨fun g_ w46 fr47 hS => Sv_val rfl (R_fld rfl rfl fld39_2) ⟨gh0, rfl, hS⟩, ?_⟩
  refine ⟨fun g_ w48 fr49 hS => Sv_val rfl (R_load1 rfl rfl agg35 ((hS.bx 1 rfl).cell rfl)) ⟨gh0, rfl, hS⟩, ?_⟩
  refine ⟨fun g_ w50 fr51 hS => ?_, ?_⟩
  ·have _w50 := trivial
   have hS : Sp (FF []) w z w50 [oR (kint .i64) 3 zE ((g_ 6).a 0) 0 ([] : List Int), bR b4 39 [.int .i64 0, .slice none 0 0, .slice none 0 0, .slice none 0 0, .slice none 0 0], bR b2 39 [.int .i64 a0.Right, .slice Aa0_Widths a0.Widths.length ca0_Widths, .slice Aa0_Heights a0.Heights.length ca0_Heights, .slice Aa0_Cells a0.Cells.length ca0_Cells, .slice Aa0_Merges a0.Merges.length ca0_Merges], allR fr51] := hS
   refine S_append hS 0 rfl rfl rfl elem35 rfl rfl (Sp.srd hS.sub hra0_Heights hca0_Heights (fun _ _ h => h)) (by (try simp only [List.length_cons, List.length_nil, List.length_append, maxLen]); omega) (by (try simp only [List.length_cons, List.length_nil, List.length_append, maxLen]); omega) (fun Ar53 cr53 w52 hS => ?_)
   have hp54 := hS.cap 0 rfl
   have hlhp54 := hp54.le
   have hmhp54 := hp54.mx
   exact ⟨⟨fun _ => Ar53, fun _ => cr53, fun _ => zE, fun _ => 0⟩, rfl, hS.fin [0, 1, 2, 3] (by decide) rfl⟩
  refine ⟨fun g_ w55 fr56 hS => ?_, ?_⟩
  ·have _w55 := trivial
   have hS : Sp (FF []) w z w55 [bR b4 39 [.int .i64 0, .slice none 0 0, .slice none 0 0, .slice none 0 0, .slice none 0 0], bR b2 39 [.int .i64 a0.Right, .slice Aa0_Widths a0.Widths.length ca0_Widths, .slice Aa0_Heights a0.Heights.length ca0_Heights, .slice Aa0_Cells a0.Cells.length ca0_Cells, .slice Aa0_Merges a0.Merges.length ca0_Merges], allR fr56] := hS
   refine S_row (d := kdTCell) (q := zE) hS ([] : List TCell) rfl (R_buildSlice (ps := []) (vs := []) (w' := w55.alloc (.cells [].toArray 46)) (r := .slice (some ⟨w55.heap.size, 0, none⟩) 0 0) rfl rfl rfl (by kernel_rfl)) (by simp [Reps, flat, kdTCell]) rfl (by decide) (fun g58 w57 hS => ?_)
   exact ⟨⟨fun _ => (some ⟨g58, 0, none⟩), fun _ => 0, fun _ => zE, fun _ => 0⟩, rfl, hS.fin [0, 1, 2, 3] (by decide) rfl⟩
  refine ⟨fun g_ w59 fr60 hS => Sv_val rfl (R_fld rfl rfl fld39_3) ⟨gh0, rfl, hS⟩, ?_⟩
  refine ⟨fun g_ w61 fr62 hS => Sv_val rfl (R_load1 rfl rfl agg36 ((hS.bx 1 rfl).cell rfl)) ⟨gh0, rfl, hS⟩, ?_⟩
  refine ⟨fun g_ w63 fr64 hS => ?_, ?_⟩
  ·have _w63 := trivial
   have hS : Sp (FF []) w z w63 [oR kdTCell 46 zE ((g_ 10).a 0) 0 ([] : List TCell), bR b4 39 [.int .i64 0, .slice none 0 0, .slice none 0 0, .slice none 0 0, .slice none 0 0], bR b2 39 [.int .i64 a0.Right, .slice Aa0_Widths a0.Widths.length ca0_Widths, .slice Aa0_Heights a0.Heights.length ca0_Heights, .slice Aa0_Cells a0.Cells.length ca0_Cells, .slice Aa0_Merges a0.Merges.length ca0_Merges], allR fr64] := hS
   refine S_append hS 0 rfl rfl rfl elem36 rfl rfl (Sp.srd hS.sub hra0_Cells hca0_Cells (fun _ _ h => h)) (by (try simp only [List.length_cons, List.length_nil, List.length_append, maxLen]); omega) (by (try simp only [List.length_cons, List.length_nil, List.length_append, maxLen]); omega) (fun Ar66 cr66 w65 hS => ?_)
   have hp67 := hS.cap 0 rfl
   have hlhp67 := hp67.le
   have hmhp67 := hp67.mx
   exact ⟨⟨fun _ => Ar66, fun _ => cr66, fun _ => zE, fun _ => 0⟩, rfl, hS.fin [0, 1, 2, 3] (by decide) rfl⟩
  refine ⟨fun g_ w68 fr69 hS => ?_, ?_⟩
  ·have _w68 := trivial
   have hS : Sp (FF []) w z w68 [bR b4 39 [.int .i64 0, .slice none 0 0, .slice none 0 0, .slice none 0 0, .slice none 0 0], bR b2 39 [.int .i64 a0.Right, .slice Aa0_Widths a0.Widths.length ca0_Widths, .slice Aa0_Heights a0.Heights.length ca0_Heights, .slice Aa0_Cells a0.Cells.length ca0_Cells, .slice Aa0_Merges a0.Merges.length ca0_Merges], allR fr69] := hS
   refine S_row (d := kdTRect) (q := zE) hS ([] : List TRect) rfl (R_buildSlice (ps := []) (vs := []) (w' := w68.alloc (.cells [].toArray 33)) (r := .slice (some ⟨w68.heap.size, 0, none⟩) 0 0) rfl rfl rfl (by kernel_rfl)) (by simp [Reps, flat, kdTRect]) rfl (by decide) (fun g71 w70 hS => ?_)
   exact ⟨⟨fun _ => (some ⟨g71, 0, none⟩), fun _ => 0, fun _ => zE, fun _ => 0⟩, rfl, hS.fin [0, 1, 2, 3] (by decide) rfl⟩
  refine ⟨fun g_ w72 fr73 hS => Sv_val rfl (R_fld rfl rfl fld39_4) ⟨gh0, rfl, hS⟩, ?_⟩
  refine ⟨fun g_ w74 fr75 hS => Sv_val rfl (R_load1 rfl rfl agg37 ((hS.bx 1 rfl).cell rfl)) ⟨gh0, rfl, hS⟩, ?_⟩
  refine ⟨fun g_ w76 fr77 hS => ?_, ?_⟩
  ·have _w76 := trivial
   have hS : Sp (FF []) w z w76 [oR kdTRect 33 zE ((g_ 14).a 0) 0 ([] : List TRect), bR b4 39 [.int .i64 0, .slice none 0 0, .slice none 0 0, .slice none 0 0, .slice none 0 0], bR b2 39 [.int .i64 a0.Right, .slice Aa0_Widths a0.Widths.length ca0_Widths, .slice Aa0_Heights a0.Heights.length ca0_Heights, .slice Aa0_Cells a0.Cells.length ca0_Cells, .slice Aa0_Merges a0.Merges.length ca0_Merges], allR fr77] := hS
   refine S_append hS 0 rfl rfl rfl elem37 rfl rfl (Sp.srd hS.sub hra0_Merges hca0_Merges (fun _ _ h => h)) (by (try simp only [List.length_cons, List.length_nil, List.length_append, maxLen]); omega) (by (try simp only [List.length_cons, List.length_nil, List.length_append, maxLen]); omega) (fun Ar79 cr79 w78 hS => ?_)
   have hp80 := hS.cap 0 rfl
   have hlhp80 := hp80.le
   have hmhp80 := hp80.mx
   exact ⟨⟨fun _ => Ar79, fun _ => cr79, fun _ => zE, fun _ => 0⟩, rfl, hS.fin [0, 1, 2, 3] (by decide) rfl⟩
  exact trivial
 ·intro g_ w81 hS
  have hS : Sp (FF []) w z w81 [oR (kint .i64) 3 zE ((g_ 5).a 0) ((g_ 5).c 0) (([] : List Int) ++ a0.Widths), oR (kint .i64) 3 zE ((g_ 9).a 0) ((g_ 9).c 0) (([] : List Int) ++ a0.Heights), oR kdTCell 46 zE ((g_ 13).a 0) ((g_ 13).c 0) (([] : List TCell) ++ a0.Cells), oR kdTRect 33 zE ((g_ 17).a 0) ((g_ 17).c 0) (([] : List TRect) ++ a0.Merges), bR b4 39 [.int .i64 0, .slice none 0 0, .slice none 0 0, .slice none 0 0, .slice none 0 0], bR b2 39 [.int .i64 a0.Right, .slice Aa0_Widths a0.Widths.length ca0_Widths, .slice Aa0_Heights a0.Heights.length ca0_Heights, .slice Aa0_Cells a0.Cells.length ca0_Cells, .slice Aa0_Merges a0.Merges.length ca0_Merges]] := hS
  refine An_fr [(1, .pointer (some ⟨b2, 0, none⟩)), (2, .pointer (some ⟨b4, 0, none⟩)), (4, .int .i64 a0.Right), (8, .slice ((g_ 5).a 0) (([] : List Int) ++ a0.Widths).length ((g_ 5).c 0)), (12, .slice ((g_ 9).a 0) (([] : List Int) ++ a0.Heights).length ((g_ 9).c 0)), (16, .slice ((g_ 13).a 0) (([] : List TCell) ++ a0.Cells).length ((g_ 13).c 0)), (20, .slice ((g_ 17).a 0) (([] : List TRect) ++ a0.Merges).length ((g_ 17).c 0))] rfl ?_
  generalize ((g_ 5).a 0) = A83 at hS ⊢
  generalize ((g_ 5).c 0) = c84 at hS ⊢
  generalize ((g_ 9).a 0) = A85 at hS ⊢
  generalize ((g_ 9).c 0) = c86 at hS ⊢
  generalize ((g_ 13).a 0) = A87 at hS ⊢
  generalize ((g_ 13).c 0) = c88 at hS ⊢
  generalize ((g_ 17).a 0) = A89 at hS ⊢
  generalize ((g_ 17).c 0) = c90 at hS ⊢
  have hp91 := hS.cap 0 rfl
  have hlhp91 := hp91.le
  have hmhp91 := hp91.mx
  have hp92 := hS.cap 1 rfl
  have hlhp92 := hp92.le
  have hmhp92 := hp92.mx
  have hp93 := hS.cap 2 rfl
  have hlhp93 := hp93.le
  have hmhp93 := hp93.mx
  have hp94 := hS.cap 3 rfl
  have hlhp94 := hp94.le
  have hmhp94 := hp94.mx
  refine An_one (i := 18) (by decide +kernel) rfl rfl (by decide) (Sv_val rfl (R_build (w' := w81) (ps := [(0, (.tmp 4)), (1, (.tmp 8)), (2, (.tmp 12)), (3, (.tmp 16)), (4, (.tmp 20))]) (vs := [.int .i64 a0.Right, .slice A83 (([] : List Int) ++ a0.Widths).length c84, .slice A85 (([] : List Int) ++ a0.Heights).length c86, .slice A87 (([] : List TCell) ++ a0.Cells).length c88, .slice A89 (([] : List TRect) ++ a0.Merges).length c90]) (r := .agg #[.int .i64 a0.Right, .slice A83 (([] : List Int) ++ a0.Widths).length c84, .slice A85 (([] : List Int) ++ a0.Heights).length c86, .slice A87 (([] : List TCell) ++ a0.Cells).length c88, .slice A89 (([] : List TRect) ++ a0.Merges).length c90]) rfl rfl rfl (by kernel_rfl)) ?_)
  refine An_one0 (i := 19) (by decide +kernel) rfl rfl (S_store hS 4 rfl rfl rfl rfl rfl size39 (one_cons rfl (one_cons rfl (one_cons rfl (one_cons rfl (one_cons rfl one_nil))))) (Nat.le_of_ble_eq_true rfl) (fun w95 hS => ?_))
  have hS : Sp (FF []) w z w95 [oR (kint .i64) 3 zE A83 c84 (([] : List Int) ++ a0.Widths), oR (kint .i64) 3 zE A85 c86 (([] : List Int) ++ a0.Heights), oR kdTCell 46 zE A87 c88 (([] : List TCell) ++ a0.Cells), oR kdTRect 33 zE A89 c90 (([] : List TRect) ++ a0.Merges), bR b4 39 [.int .i64 a0.Right, .slice A83 (([] : List Int) ++ a0.Widths).length c84, .slice A85 (([] : List Int) ++ a0.Heights).length c86, .slice A87 (([] : List TCell) ++ a0.Cells).length c88, .slice A89 (([] : List TRect) ++ a0.Merges).length c90], bR b2 39 [.int .i64 a0.Right, .slice Aa0_Widths a0.Widths.length ca0_Widths, .slice Aa0_Heights a0.Heights.length ca0_Heights, .slice Aa0_Cells a0.Cells.length ca0_Cells, .slice Aa0_Merges a0.Merges.length ca0_Merges]] := hS
  refine An_done (by decide +kernel) ?_
  refine E_then (C_fr [(2, .pointer (some ⟨b4, 0, none⟩))] rfl ?_)
  refine C_ret ?_
  have hq96 : ([] : List Int) ++ a0.Widths = a0.Widths := by rfl
  have hS := hS.re 0 rfl hq96
  have hq97 : ([] : List Int) ++ a0.Heights = a0.Heights := by rfl
  have hS := hS.re 1 rfl hq97
  have hq98 : ([] : List TCell) ++ a0.Cells = a0.Cells := by rfl
  have hS := hS.re 2 rfl hq98
  have hq99 : ([] : List TRect) ++ a0.Merges = a0.Merges := by rfl
  have hS := hS.re 3 rfl hq99
  refine E_rv1 rfl (RV_cellN (cs := [.int .i64 a0.Right, .slice A83 (([] : List Int) ++ a0.Widths).length c84, .slice A85 (([] : List Int) ++ a0.Heights).length c86, .slice A87 (([] : List TCell) ++ a0.Cells).length c88, .slice A89 (([] : List TRect) ++ a0.Merges).length c90]) rfl agg39 size39 rfl (boxcells (hS.bx 4 rfl) 0 rfl)) ?_
  exact ⟨A83, c84, A85, c86, A87, c88, A89, c90, Lret1 (show (.agg #[.int .i64 a0.Right, .slice A83 (([] : List Int) ++ a0.Widths).length c84, .slice A85 (([] : List Int) ++ a0.Heights).length c86, .slice A87 (([] : List TCell) ++ a0.Cells).length c88, .slice A89 (([] : List TRect) ++ a0.Merges).length c90] : Value) = .agg #[.int .i64 a0.Right, .slice _ a0.Widths.length _, .slice _ a0.Heights.length _, .slice _ a0.Cells.length _, .slice _ a0.Merges.length _] by rfl), hS.fin [0, 1, 2, 3] (by decide) rfl⟩

set_option maxHeartbeats 400000 in
set_option maxRecDepth 20000 in
theorem within_calls (a0 : TRect) (a1 : Int) (a2 : Int) (z : Z) (w : World) (hI : In z w [])   :
    Calls Try.prog 37 #[.agg #[.int .i64 a0.Row, .int .i64 a0.Col, .int .i64 a0.Rows, .int .i64 a0.Cols], .int .i64 a1, .int .i64 a2] w fun e w' => e = .returned (.bool (withinS a0 a1 a2)) ∧ Sp (FF []) w z w' [] := by
 have hS := hI.sp
 refine Calls_of (vs := [.agg #[.int .i64 a0.Row, .int .i64 a0.Col, .int .i64 a0.Rows, .int .i64 a0.Cols], .int .i64 a1, .int .i64 a2]) (N := 35) Try.func37 rfl rfl (Nat.le_of_ble_eq_true rfl) ?_
 refine C_seq ?_
 refine C_region ?_
 refine W_cons rfl (by decide) (S_box hS rfl (R_box (cs := [.int .i64 a0.Row, .int .i64 a0.Col, .int .i64 a0.Rows, .int .i64 a0.Cols]) rfl rfl rfl) (fun b2 w1 hS => ?_))
 refine W_cons rfl (by decide) (Sv_val rfl (R_assign rfl rfl) ?_)
 refine W_nil ?_
 refine E_then ?_
 refine C_seq ?_
 refine C_region ?_
 refine W_cons rfl (by decide) (Sv_val rfl (R_move rfl rfl) ?_)
 refine W_cons rfl (by decide) (Sv_val rfl (R_fld rfl rfl fld33_0) ?_)
 refine W_cons rfl (by decide) (Sv_val rfl (R_load1 rfl rfl agg3 ((hS.bx 0 rfl).cell rfl)) ?_)
 refine W_cons rfl (by decide) (Sv_val rfl (R_bin rfl rfl rfl rfl rfl) ?_)
 refine W_cons rfl (by decide) (Sv_val rfl (R_move rfl rfl) ?_)
 refine W_split (t := 11) rfl (fun hg3 => ?_) (fun hg3 => ?_)
 ·have _hg3 := trivial
  have hg3p : a1 ≥ a0.Row := by simpa using hg3
  refine W_cons rfl (by decide) (Sv_gt rfl rfl rfl hg3 (Sv_val rfl (R_move rfl rfl) ?_))
  refine W_cons rfl (by decide) (Sv_gt rfl rfl rfl hg3 (Sv_val rfl (R_fld rfl rfl fld33_0) ?_))
  refine W_cons rfl (by decide) (Sv_gt rfl rfl rfl hg3 (Sv_val rfl (R_load1 rfl rfl agg3 ((hS.bx 0 rfl).cell rfl)) ?_))
  refine W_cons rfl (by decide) (Sv_gt rfl rfl rfl hg3 (Sv_val rfl (R_fld rfl rfl fld33_2) ?_))
  refine W_cons rfl (by decide) (Sv_gt rfl rfl rfl hg3 (Sv_val rfl (R_load1 rfl rfl agg3 ((hS.bx 0 rfl).cell rfl)) ?_))
  refine W_cons rfl (by decide) (Sv_gt rfl rfl rfl hg3 (Sv_val rfl (R_bin rfl rfl rfl rfl rfl) ?_))
  refine W_cons rfl (by decide) (Sv_gt rfl rfl rfl hg3 (Sv_val rfl (R_bin rfl rfl rfl rfl rfl) ?_))
  refine W_cons rfl (by decide) (Sv_val rfl (R_pick_t rfl rfl hg3 rfl) ?_)
  refine W_cons rfl (by decide) (Sv_val rfl (R_move rfl rfl) ?_)
  refine W_split (t := 20) rfl (fun hg4 => ?_) (fun hg4 => ?_)
  ·have _hg4 := trivial
   have hg4p : a1 < (IntKind.i64.wrap (a0.Row + a0.Rows)) := by simpa using hg4
   refine W_cons rfl (by decide) (Sv_gt rfl rfl rfl hg4 (Sv_val rfl (R_move rfl rfl) ?_))
   refine W_cons rfl (by decide) (Sv_gt rfl rfl rfl hg4 (Sv_val rfl (R_fld rfl rfl fld33_1) ?_))
   refine W_cons rfl (by decide) (Sv_gt rfl rfl rfl hg4 (Sv_val rfl (R_load1 rfl rfl agg3 ((hS.bx 0 rfl).cell rfl)) ?_))
   refine W_cons rfl (by decide) (Sv_gt rfl rfl rfl hg4 (Sv_val rfl (R_bin rfl rfl rfl rfl rfl) ?_))
   refine W_cons rfl (by decide) (Sv_val rfl (R_pick_t rfl rfl hg4 rfl) ?_)
   refine W_cons rfl (by decide) (Sv_val rfl (R_move rfl rfl) ?_)
   refine W_split (t := 26) rfl (fun hg5 => ?_) (fun hg5 => ?_)
   ·have _hg5 := trivial
    have hg5p : a2 ≥ a0.Col := by simpa using hg5
    refine W_cons rfl (by decide) (Sv_gt rfl rfl rfl hg5 (Sv_val rfl (R_move rfl rfl) ?_))
    refine W_cons rfl (by decide) (Sv_gt rfl rfl rfl hg5 (Sv_val rfl (R_fld rfl rfl fld33_1) ?_))
    refine W_cons rfl (by decide) (Sv_gt rfl rfl rfl hg5 (Sv_val rfl (R_load1 rfl rfl agg3 ((hS.bx 0 rfl).cell rfl)) ?_))
    refine W_cons rfl (by decide) (Sv_gt rfl rfl rfl hg5 (Sv_val rfl (R_fld rfl rfl fld33_3) ?_))
    refine W_cons rfl (by decide) (Sv_gt rfl rfl rfl hg5 (Sv_val rfl (R_load1 rfl rfl agg3 ((hS.bx 0 rfl).cell rfl)) ?_))
    refine W_cons rfl (by decide) (Sv_gt rfl rfl rfl hg5 (Sv_val rfl (R_bin rfl rfl rfl rfl rfl) ?_))
    refine W_cons rfl (by decide) (Sv_gt rfl rfl rfl hg5 (Sv_val rfl (R_bin rfl rfl rfl rfl rfl) ?_))
    refine W_cons rfl (by decide) (Sv_val rfl (R_pick_t rfl rfl hg5 rfl) ?_)
    refine W_cons rfl (by decide) (Sv_val rfl (R_assign rfl rfl) ?_)
    refine W_nil ?_
    refine E_then (C_fr [(6, .bool (decide (a2 < (IntKind.i64.wrap (a0.Col + a0.Cols)))))] rfl ?_)
    refine C_ret ?_
    refine E_ret1 rfl rfl ?_
    exact ⟨Lret1 (Lbool (show (decide (a2 < (IntKind.i64.wrap (a0.Col + a0.Cols)))) = (withinS a0 a1 a2) by first | (unfold withinS; simp_all; done) | (unfold withinS; simp_all; omega) | (unfold withinS; simp_all; intros; omega) | (unfold withinS; rw [Bool.eq_iff_iff]; simp_all; done) | (unfold withinS; rw [Bool.eq_iff_iff]; simp_all; omega))), hS.fin [] (by decide) rfl⟩
   ·have _hg5 := trivial
    have hg5p : ¬ (a2 ≥ a0.Col) := by simpa using hg5
    refine W_cons rfl (by decide) (Sv_off rfl rfl rfl (by rw [hg5] <;> rfl) ?_)
    refine W_cons rfl (by decide) (Sv_off rfl rfl rfl (by rw [hg5] <;> rfl) ?_)
    refine W_cons rfl (by decide) (Sv_off rfl rfl rfl (by rw [hg5] <;> rfl) ?_)
    refine W_cons rfl (by decide) (Sv_off rfl rfl rfl (by rw [hg5] <;> rfl) ?_)
    refine W_cons rfl (by decide) (Sv_off rfl rfl rfl (by rw [hg5] <;> rfl) ?_)
    refine W_cons rfl (by decide) (Sv_off rfl rfl rfl (by rw [hg5] <;> rfl) ?_)
    refine W_cons rfl (by decide) (Sv_off rfl rfl rfl (by rw [hg5] <;> rfl) ?_)
    refine W_cons rfl (by decide) (Sv_val rfl (R_pick_f rfl rfl hg5 rfl) ?_)
    refine W_cons rfl (by decide) (Sv_val rfl (R_assign rfl rfl) ?_)
    refine W_nil ?_
    refine E_then (C_fr [(6, .bool false)] rfl ?_)
    refine C_ret ?_
    refine E_ret1 rfl rfl ?_
    exact ⟨Lret1 (Lbool (show false = (withinS a0 a1 a2) by first | (unfold withinS; simp_all; done) | (unfold withinS; simp_all; omega) | (unfold withinS; simp_all; intros; omega) | (unfold withinS; rw [Bool.eq_iff_iff]; simp_all; done) | (unfold withinS; rw [Bool.eq_iff_iff]; simp_all; omega))), hS.fin [] (by decide) rfl⟩
  ·have _hg4 := trivial
   have hg4p : ¬ (a1 < (IntKind.i64.wrap (a0.Row + a0.Rows))) := by simpa using hg4
   refine W_cons rfl (by decide) (Sv_off rfl rfl rfl (by rw [hg4] <;> rfl) ?_)
   refine W_cons rfl (by decide) (Sv_off rfl rfl rfl (by rw [hg4] <;> rfl) ?_)
   refine W_cons rfl (by decide) (Sv_off rfl rfl rfl (by rw [hg4] <;> rfl) ?_)
   refine W_cons rfl (by decide) (Sv_off rfl rfl rfl (by rw [hg4] <;> rfl) ?_)
   refine W_cons rfl (by decide) (Sv_val rfl (R_pick_f rfl rfl hg4 rfl) ?_)
   refine W_cons rfl (by decide) (Sv_val rfl (R_move rfl rfl) ?_)
   refine W_cons rfl (by decide) (Sv_off rfl rfl rfl rfl ?_)
   refine W_cons rfl (by decide) (Sv_off rfl rfl rfl rfl ?_)
   refine W_cons rfl (by decide) (Sv_off rfl rfl rfl rfl ?_)
   refine W_cons rfl (by decide) (Sv_off rfl rfl rfl rfl ?_)
   refine W_cons rfl (by decide) (Sv_off rfl rfl rfl rfl ?_)
   refine W_cons rfl (by decide) (Sv_off rfl rfl rfl rfl ?_)
   refine W_cons rfl (by decide) (Sv_off rfl rfl rfl rfl ?_)
   refine W_cons rfl (by decide) (Sv_val rfl (R_pick_f rfl rfl rfl rfl) ?_)
   refine W_cons rfl (by decide) (Sv_val rfl (R_assign rfl rfl) ?_)
   refine W_nil ?_
   refine E_then (C_fr [(6, .bool false)] rfl ?_)
   refine C_ret ?_
   refine E_ret1 rfl rfl ?_
   exact ⟨Lret1 (Lbool (show false = (withinS a0 a1 a2) by first | (unfold withinS; simp_all; done) | (unfold withinS; simp_all; omega) | (unfold withinS; simp_all; intros; omega) | (unfold withinS; rw [Bool.eq_iff_iff]; simp_all; done) | (unfold withinS; rw [Bool.eq_iff_iff]; simp_all; omega))), hS.fin [] (by decide) rfl⟩
 ·have _hg3 := trivial
  have hg3p : ¬ (a1 ≥ a0.Row) := by simpa using hg3
  refine W_cons rfl (by decide) (Sv_off rfl rfl rfl (by rw [hg3] <;> rfl) ?_)
  refine W_cons rfl (by decide) (Sv_off rfl rfl rfl (by rw [hg3] <;> rfl) ?_)
  refine W_cons rfl (by decide) (Sv_off rfl rfl rfl (by rw [hg3] <;> rfl) ?_)
  refine W_cons rfl (by decide) (Sv_off rfl rfl rfl (by rw [hg3] <;> rfl) ?_)
  refine W_cons rfl (by decide) (Sv_off rfl rfl rfl (by rw [hg3] <;> rfl) ?_)
  refine W_cons rfl (by decide) (Sv_off rfl rfl rfl (by rw [hg3] <;> rfl) ?_)
  refine W_cons rfl (by decide) (Sv_off rfl rfl rfl (by rw [hg3] <;> rfl) ?_)
  refine W_cons rfl (by decide) (Sv_val rfl (R_pick_f rfl rfl hg3 rfl) ?_)
  refine W_cons rfl (by decide) (Sv_val rfl (R_move rfl rfl) ?_)
  refine W_cons rfl (by decide) (Sv_off rfl rfl rfl rfl ?_)
  refine W_cons rfl (by decide) (Sv_off rfl rfl rfl rfl ?_)
  refine W_cons rfl (by decide) (Sv_off rfl rfl rfl rfl ?_)
  refine W_cons rfl (by decide) (Sv_off rfl rfl rfl rfl ?_)
  refine W_cons rfl (by decide) (Sv_val rfl (R_pick_f rfl rfl rfl rfl) ?_)
  refine W_cons rfl (by decide) (Sv_val rfl (R_move rfl rfl) ?_)
  refine W_cons rfl (by decide) (Sv_off rfl rfl rfl rfl ?_)
  refine W_cons rfl (by decide) (Sv_off rfl rfl rfl rfl ?_)
  refine W_cons rfl (by decide) (Sv_off rfl rfl rfl rfl ?_)
  refine W_cons rfl (by decide) (Sv_off rfl rfl rfl rfl ?_)
  refine W_cons rfl (by decide) (Sv_off rfl rfl rfl rfl ?_)
  refine W_cons rfl (by decide) (Sv_off rfl rfl rfl rfl ?_)
  refine W_cons rfl (by decide) (Sv_off rfl rfl rfl rfl ?_)
  refine W_cons rfl (by decide) (Sv_val rfl (R_pick_f rfl rfl rfl rfl) ?_)
  refine W_cons rfl (by decide) (Sv_val rfl (R_assign rfl rfl) ?_)
  refine W_nil ?_
  refine E_then (C_fr [(6, .bool false)] rfl ?_)
  refine C_ret ?_
  refine E_ret1 rfl rfl ?_
  exact ⟨Lret1 (Lbool (show false = (withinS a0 a1 a2) by first | (unfold withinS; simp_all; done) | (unfold withinS; simp_all; omega) | (unfold withinS; simp_all; intros; omega) | (unfold withinS; rw [Bool.eq_iff_iff]; simp_all; done) | (unfold withinS; rw [Bool.eq_iff_iff]; simp_all; omega))), hS.fin [] (by decide) rfl⟩

set_option maxHeartbeats 400000 in
set_option maxRecDepth 20000 in
theorem great_calls (a0 : TSheet) (Aa0_Widths : Option Addr) (ca0_Widths : Nat) (Aa0_Heights : Option Addr) (ca0_Heights : Nat) (Aa0_Cells : Option Addr) (ca0_Cells : Nat) (Aa0_Merges : Option Addr) (ca0_Merges : Nat) (z : Z) (w : World) (hI : In z w []) (hra0_Widths : Rd (kint .i64) z Aa0_Widths a0.Widths) (hca0_Widths : Cap Aa0_Widths a0.Widths.length ca0_Widths) (hra0_Heights : Rd (kint .i64) z Aa0_Heights a0.Heights) (hca0_Heights : Cap Aa0_Heights a0.Heights.length ca0_Heights) (hra0_Cells : Rd kdTCell z Aa0_Cells a0.Cells) (hca0_Cells : Cap Aa0_Cells a0.Cells.length ca0_Cells) (hra0_Merges : Rd kdTRect z Aa0_Merges a0.Merges) (hca0_Merges : Cap Aa0_Merges a0.Merges.length ca0_Merges)  :
    Calls Try.prog 30 #[.agg #[.int .i64 a0.Right, .slice Aa0_Widths a0.Widths.length ca0_Widths, .slice Aa0_Heights a0.Heights.length ca0_Heights, .slice Aa0_Cells a0.Cells.length ca0_Cells, .slice Aa0_Merges a0.Merges.length ca0_Merges]] w fun e w' => e = .returned (.bool (greatS a0)) ∧ Sp (FF []) w z w' [] := by
 have hla0_Widths := hca0_Widths.le
 have hma0_Widths := hca0_Widths.mx
 have hla0_Heights := hca0_Heights.le
 have hma0_Heights := hca0_Heights.mx
 have hla0_Cells := hca0_Cells.le
 have hma0_Cells := hca0_Cells.mx
 have hla0_Merges := hca0_Merges.le
 have hma0_Merges := hca0_Merges.mx
 have hS := hI.sp
 refine Calls_of (vs := [.agg #[.int .i64 a0.Right, .slice Aa0_Widths a0.Widths.length ca0_Widths, .slice Aa0_Heights a0.Heights.length ca0_Heights, .slice Aa0_Cells a0.Cells.length ca0_Cells, .slice Aa0_Merges a0.Merges.length ca0_Merges]]) (N := 41) Try.func30 rfl rfl (Nat.le_of_ble_eq_true rfl) ?_
 refine C_seq ?_
 refine C_region ?_
 refine W_cons rfl (by decide) (S_box hS rfl (R_box (cs := [.int .i64 a0.Right, .slice Aa0_Widths a0.Widths.length ca0_Widths, .slice Aa0_Heights a0.Heights.length ca0_Heights, .slice Aa0_Cells a0.Cells.length ca0_Cells, .slice Aa0_Merges a0.Merges.length ca0_Merges]) rfl rfl rfl) (fun b2 w1 hS => ?_))
 refine W_cons rfl (by decide) (Sv_val rfl (R_assign rfl rfl) ?_)
 refine W_nil ?_
 refine E_then ?_
 refine C_seq ?_
 refine C_seq ?_
 refine C_region ?_
 refine W_cons rfl (by decide) (Sv_val rfl (R_fld rfl rfl fld39_1) ?_)
 refine W_cons rfl (by decide) (Sv_val rfl (R_load1 rfl rfl agg35 ((hS.bx 0 rfl).cell rfl)) ?_)
 refine W_cons rfl (by decide) (Sv_val rfl (R_len rfl rfl Try.underlying35) ?_)
 refine W_cons rfl (by decide) (Sv_val rfl (R_bin rfl rfl rfl rfl rfl) ?_)
 refine W_cons rfl (by decide) (Sv_val rfl (R_move rfl rfl) ?_)
 refine W_split (t := 8) rfl (fun hg3 => ?_) (fun hg3 => ?_)
 ·have _hg3 := trivial
  have hg3p : (a0.Widths.length : Int) > 100 := by simpa using hg3
  refine W_cons rfl (by decide) (Sv_off rfl rfl rfl (by rw [hg3] <;> rfl) ?_)
  refine W_cons rfl (by decide) (Sv_off rfl rfl rfl (by rw [hg3] <;> rfl) ?_)
  refine W_cons rfl (by decide) (Sv_off rfl rfl rfl (by rw [hg3] <;> rfl) ?_)
  refine W_cons rfl (by decide) (Sv_off rfl rfl rfl (by rw [hg3] <;> rfl) ?_)
  refine W_cons rfl (by decide) (Sv_val rfl (R_pick_t rfl rfl hg3 rfl) ?_)
  refine W_cons rfl (by decide) (Sv_val rfl (R_move rfl rfl) ?_)
  refine W_cons rfl (by decide) (Sv_off rfl rfl rfl rfl ?_)
  refine W_cons rfl (by decide) (Sv_off rfl rfl rfl rfl ?_)
  refine W_cons rfl (by decide) (Sv_off rfl rfl rfl rfl ?_)
  refine W_cons rfl (by decide) (Sv_off rfl rfl rfl rfl ?_)
  refine W_cons rfl (by decide) (Sv_val rfl (R_pick_t rfl rfl rfl rfl) ?_)
  refine W_cons rfl (by decide) (Sv_val rfl (R_move rfl rfl) ?_)
  refine W_cons rfl (by decide) (Sv_off rfl rfl rfl rfl ?_)
  refine W_cons rfl (by decide) (Sv_off rfl rfl rfl rfl ?_)
  refine W_cons rfl (by decide) (Sv_off rfl rfl rfl rfl ?_)
  refine W_cons rfl (by decide) (Sv_off rfl rfl rfl rfl ?_)
  refine W_cons rfl (by decide) (Sv_val rfl (R_pick_t rfl rfl rfl rfl) ?_)
  refine W_nil ?_
  refine E_then (C_fr [(1, .pointer (some ⟨b2, 0, none⟩)), (25, .bool true)] rfl ?_)
  refine C_if rfl rfl ?_
  refine C_seq ?_
  refine C_region ?_
  refine W_cons rfl (by decide) (Sv_val rfl (R_assign rfl rfl) ?_)
  refine W_nil ?_
  refine E_then ?_
  refine C_ret ?_
  refine E_then_ret ?_
  refine E_ret1 rfl rfl ?_
  exact ⟨Lret1 (Lbool (show true = (greatS a0) by first | exact great_len (by omega) | exact great_c (i := i) (by omega) (by assumption) | exact great_no (i := i) (by omega) (by omega) hI0_1)), hS.fin [] (by decide) rfl⟩
 ·have _hg3 := trivial
  have hg3p : ¬ ((a0.Widths.length : Int) > 100) := by simpa using hg3
  refine W_cons rfl (by decide) (Sv_gt rfl rfl rfl hg3 (Sv_val rfl (R_fld rfl rfl fld39_2) ?_))
  refine W_cons rfl (by decide) (Sv_gt rfl rfl rfl hg3 (Sv_val rfl (R_load1 rfl rfl agg35 ((hS.bx 0 rfl).cell rfl)) ?_))
  refine W_cons rfl (by decide) (Sv_gt rfl rfl rfl hg3 (Sv_val rfl (R_len rfl rfl Try.underlying35) ?_))
  refine W_cons rfl (by decide) (Sv_gt rfl rfl rfl hg3 (Sv_val rfl (R_bin rfl rfl rfl rfl rfl) ?_))
  refine W_cons rfl (by decide) (Sv_val rfl (R_pick_f rfl rfl hg3 rfl) ?_)
  refine W_cons rfl (by decide) (Sv_val rfl (R_move rfl rfl) ?_)
  refine W_split (t := 14) rfl (fun hg4 => ?_) (fun hg4 => ?_)
  ·have _hg4 := trivial
   have hg4p : (a0.Heights.length : Int) > 100 := by simpa using hg4
   refine W_cons rfl (by decide) (Sv_off rfl rfl rfl (by rw [hg4] <;> rfl) ?_)
   refine W_cons rfl (by decide) (Sv_off rfl rfl rfl (by rw [hg4] <;> rfl) ?_)
   refine W_cons rfl (by decide) (Sv_off rfl rfl rfl (by rw [hg4] <;> rfl) ?_)
   refine W_cons rfl (by decide) (Sv_off rfl rfl rfl (by rw [hg4] <;> rfl) ?_)
   refine W_cons rfl (by decide) (Sv_val rfl (R_pick_t rfl rfl hg4 rfl) ?_)
   refine W_cons rfl (by decide) (Sv_val rfl (R_move rfl rfl) ?_)
   refine W_cons rfl (by decide) (Sv_off rfl rfl rfl rfl ?_)
   refine W_cons rfl (by decide) (Sv_off rfl rfl rfl rfl ?_)
   refine W_cons rfl (by decide) (Sv_off rfl rfl rfl rfl ?_)
   refine W_cons rfl (by decide) (Sv_off rfl rfl rfl rfl ?_)
   refine W_cons rfl (by decide) (Sv_val rfl (R_pick_t rfl rfl rfl rfl) ?_)
   refine W_nil ?_
   refine E_then (C_fr [(1, .pointer (some ⟨b2, 0, none⟩)), (25, .bool true)] rfl ?_)
   refine C_if rfl rfl ?_
   refine C_seq ?_
   refine C_region ?_
   refine W_cons rfl (by decide) (Sv_val rfl (R_assign rfl rfl) ?_)
   refine W_nil ?_
   refine E_then ?_
   refine C_ret ?_
   refine E_then_ret ?_
   refine E_ret1 rfl rfl ?_
   exact ⟨Lret1 (Lbool (show true = (greatS a0) by first | exact great_len (by omega) | exact great_c (i := i) (by omega) (by assumption) | exact great_no (i := i) (by omega) (by omega) hI0_1)), hS.fin [] (by decide) rfl⟩
  ·have _hg4 := trivial
   have hg4p : ¬ ((a0.Heights.length : Int) > 100) := by simpa using hg4
   refine W_cons rfl (by decide) (Sv_gt rfl rfl rfl hg4 (Sv_val rfl (R_fld rfl rfl fld39_4) ?_))
   refine W_cons rfl (by decide) (Sv_gt rfl rfl rfl hg4 (Sv_val rfl (R_load1 rfl rfl agg37 ((hS.bx 0 rfl).cell rfl)) ?_))
   refine W_cons rfl (by decide) (Sv_gt rfl rfl rfl hg4 (Sv_val rfl (R_len rfl rfl Try.underlying37) ?_))
   refine W_cons rfl (by decide) (Sv_gt rfl rfl rfl hg4 (Sv_val rfl (R_bin rfl rfl rfl rfl rfl) ?_))
   refine W_cons rfl (by decide) (Sv_val rfl (R_pick_f rfl rfl hg4 rfl) ?_)
   refine W_cons rfl (by decide) (Sv_val rfl (R_move rfl rfl) ?_)
   refine W_split (t := 20) rfl (fun hg5 => ?_) (fun hg5 => ?_)
   ·have _hg5 := trivial
    have hg5p : (a0.Merges.length : Int) > 100 := by simpa using hg5
    refine W_cons rfl (by decide) (Sv_off rfl rfl rfl (by rw [hg5] <;> rfl) ?_)
    refine W_cons rfl (by decide) (Sv_off rfl rfl rfl (by rw [hg5] <;> rfl) ?_)
    refine W_cons rfl (by decide) (Sv_off rfl rfl rfl (by rw [hg5] <;> rfl) ?_)
    refine W_cons rfl (by decide) (Sv_off rfl rfl rfl (by rw [hg5] <;> rfl) ?_)
    refine W_cons rfl (by decide) (Sv_val rfl (R_pick_t rfl rfl hg5 rfl) ?_)
    refine W_nil ?_
    refine E_then (C_fr [(1, .pointer (some ⟨b2, 0, none⟩)), (25, .bool true)] rfl ?_)
    refine C_if rfl rfl ?_
    refine C_seq ?_
    refine C_region ?_
    refine W_cons rfl (by decide) (Sv_val rfl (R_assign rfl rfl) ?_)
    refine W_nil ?_
    refine E_then ?_
    refine C_ret ?_
    refine E_then_ret ?_
    refine E_ret1 rfl rfl ?_
    exact ⟨Lret1 (Lbool (show true = (greatS a0) by first | exact great_len (by omega) | exact great_c (i := i) (by omega) (by assumption) | exact great_no (i := i) (by omega) (by omega) hI0_1)), hS.fin [] (by decide) rfl⟩
   ·have _hg5 := trivial
    have hg5p : ¬ ((a0.Merges.length : Int) > 100) := by simpa using hg5
    refine W_cons rfl (by decide) (Sv_gt rfl rfl rfl hg5 (Sv_val rfl (R_fld rfl rfl fld39_3) ?_))
    refine W_cons rfl (by decide) (Sv_gt rfl rfl rfl hg5 (Sv_val rfl (R_load1 rfl rfl agg36 ((hS.bx 0 rfl).cell rfl)) ?_))
    refine W_cons rfl (by decide) (Sv_gt rfl rfl rfl hg5 (Sv_val rfl (R_len rfl rfl Try.underlying36) ?_))
    refine W_cons rfl (by decide) (Sv_gt rfl rfl rfl hg5 (Sv_val rfl (R_bin rfl rfl rfl rfl rfl) ?_))
    refine W_cons rfl (by decide) (Sv_val rfl (R_pick_f rfl rfl hg5 rfl) ?_)
    refine W_nil ?_
    refine E_then (C_fr [(1, .pointer (some ⟨b2, 0, none⟩)), (25, .bool (decide ((a0.Cells.length : Int) > 500)))] rfl ?_)
    refine C_ite rfl (fun hC0 => ?_) (fun hC0 => ?_)
    ·have _hC0 := trivial
     have hC0p : (a0.Cells.length : Int) > 500 := by simpa using hC0
     refine C_seq ?_
     refine C_region ?_
     refine W_cons rfl (by decide) (Sv_val rfl (R_assign rfl rfl) ?_)
     refine W_nil ?_
     refine E_then ?_
     refine C_ret ?_
     refine E_then_ret ?_
     refine E_ret1 rfl rfl ?_
     exact ⟨Lret1 (Lbool (show true = (greatS a0) by first | exact great_len (by omega) | exact great_c (i := i) (by omega) (by assumption) | exact great_no (i := i) (by omega) (by omega) hI0_1)), hS.fin [] (by decide) rfl⟩
    ·have _hC0 := trivial
     have hC0p : ¬ ((a0.Cells.length : Int) > 500) := by simpa using hC0
     refine C_skip ?_
     refine E_then ?_
     refine C_seq ?_
     refine C_seq ?_
     refine C_region ?_
     refine W_cons rfl (by decide) (Sv_val rfl (R_assign rfl rfl) ?_)
     refine W_nil ?_
     refine E_then ?_
     refine C_block ?_
     refine C_fr [(1, .pointer (some ⟨b2, 0, none⟩)), (3, .int .i64 0)] rfl ?_
     refine C_loop (fun m_ f_ w_ => ∃ (i : Nat), f_ = [(1, .pointer (some ⟨b2, 0, none⟩)), (3, .int .i64 (i : Int))] ∧ i ≤ a0.Cells.length ∧ (a0.Cells.take i).any (fun c : TCell => decide ((c.Text.length : Int) > 2000)) = false ∧ m_ = a0.Cells.length - i ∧ Sp (FF []) w z w_ [bR b2 39 [.int .i64 a0.Right, .slice Aa0_Widths a0.Widths.length ca0_Widths, .slice Aa0_Heights a0.Heights.length ca0_Heights, .slice Aa0_Cells a0.Cells.length ca0_Cells, .slice Aa0_Merges a0.Merges.length ca0_Merges]]) (a0.Cells.length - (0 : Nat)) ⟨(0 : Nat), rfl, (by omega), (by rfl), rfl, hS.fin [0] (by decide) rfl⟩ ?_
     rintro m_ f_ w6 ⟨i, rfl, hI0_0, hI0_1, rfl, hS⟩
     refine C_seq ?_
     refine C_seq ?_
     refine C_region ?_
     refine W_cons rfl (by decide) (Sv_val rfl (R_move rfl rfl) ?_)
     refine W_cons rfl (by decide) (Sv_val rfl (R_fld rfl rfl fld39_3) ?_)
     refine W_cons rfl (by decide) (Sv_val rfl (R_load1 rfl rfl agg36 ((hS.bx 0 rfl).cell rfl)) ?_)
     refine W_cons rfl (by decide) (Sv_val rfl (R_len rfl rfl Try.underlying36) ?_)
     refine W_cons rfl (by decide) (Sv_val rfl (R_bin rfl rfl rfl rfl rfl) ?_)
     refine W_nil ?_
     refine E_then ?_
     refine C_ite rfl (fun hC1 => ?_) (fun hC1 => ?_)
     ·have _hC1 := trivial
      have hC1p : (i : Int) < (a0.Cells.length : Int) := by simpa using hC1
      refine C_skip ?_
      refine E_then (C_fr [(1, .pointer (some ⟨b2, 0, none⟩)), (3, .int .i64 (i : Int))] rfl ?_)
      refine C_seq ?_
      refine C_block ?_
      refine C_seq ?_
      refine C_region ?_
      refine W_cons rfl (by decide) (Sv_val rfl (R_fld rfl rfl fld39_3) ?_)
      refine W_cons rfl (by decide) (Sv_val rfl (R_load1 rfl rfl agg36 ((hS.bx 0 rfl).cell rfl)) ?_)
      refine W_cons rfl (by decide) (Sv_val rfl (R_move rfl rfl) ?_)
      obtain ⟨q7, csq7, hAq7, rfl, hkq7⟩ := hra0_Cells.at_ (default : TCell) (i := (i : Int)) (by omega) (by omega)
      have hkq7 : ∀ (j_ : Nat) (u_ : Value), ([.int .i64 (a0.Cells.getD i (default : TCell)).Row, .int .i64 (a0.Cells.getD i (default : TCell)).Col, vstr (a0.Cells.getD i (default : TCell)).Text, .int .i64 (a0.Cells.getD i (default : TCell)).Style.Align, .int .i64 (a0.Cells.getD i (default : TCell)).Style.Wrap, .int .i64 (a0.Cells.getD i (default : TCell)).Style.Dir] : List Value)[j_]? = some u_ → cz z (q7.add (i * 6 + j_)) = some u_ := hkq7
      refine W_cons rfl (by decide) (Sv_val rfl (R_idx rfl rfl hAq7 rfl Try.underlying36 size46 (by omega) (by omega)) ?_)
      refine W_cons rfl (by decide) (Sv_val rfl (R_fld rfl rfl fld46_2) ?_)
      refine W_cons rfl (by decide) (Sv_val rfl (R_load1 rfl rfl agg9 (cell_add (hS.sub.cell (hkq7 2 _ rfl)))) ?_)
      refine W_cons rfl (by decide) (Sv_val rfl (R_strlen rfl rfl Try.underlying9) ?_)
      refine W_cons rfl (by decide) (Sv_val rfl (R_bin rfl rfl rfl rfl rfl) ?_)
      refine W_nil ?_
      refine E_then (C_fr [(1, .pointer (some ⟨b2, 0, none⟩)), (3, .int .i64 (i : Int)), (40, .bool (decide (((a0.Cells.getD i (default : TCell)).Text.length : Int) > 2000)))] rfl ?_)
      refine C_ite rfl (fun hC2 => ?_) (fun hC2 => ?_)
      ·have _hC2 := trivial
       have hC2p : ((a0.Cells.getD i (default : TCell)).Text.length : Int) > 2000 := by simpa using hC2
       refine C_seq ?_
       refine C_region ?_
       refine W_cons rfl (by decide) (Sv_val rfl (R_assign rfl rfl) ?_)
       refine W_nil ?_
       refine E_then ?_
       refine C_ret ?_
       refine E_block_ret ?_
       refine E_then_ret ?_
       refine E_then_ret ?_
       refine E_block_ret ?_
       refine E_then_ret ?_
       refine E_ret1 rfl rfl ?_
       exact ⟨Lret1 (Lbool (show true = (greatS a0) by first | exact great_len (by omega) | exact great_c (i := i) (by omega) (by assumption) | exact great_no (i := i) (by omega) (by omega) hI0_1)), hS.fin [] (by decide) rfl⟩
      ·have _hC2 := trivial
       have hC2p : ¬ (((a0.Cells.getD i (default : TCell)).Text.length : Int) > 2000) := by simpa using hC2
       refine C_skip ?_
       refine E_block_normal ?_
       refine E_then ?_
       refine C_region ?_
       refine W_cons rfl (by decide) (Sv_val rfl (R_move rfl rfl) ?_)
       refine W_cons rfl (by decide) (Sv_val rfl (R_add64 rfl rfl rfl (by omega) (by omega)) ?_)
       refine W_cons rfl (by decide) (Sv_val rfl (R_assign rfl rfl) ?_)
       refine W_nil ?_
       refine E_round [1, 3] ?_ ⟨(i + 1 : Nat), rfl, (by omega), (by exact any_step (p := (fun c : TCell => decide ((c.Text.length : Int) > 2000))) default (by omega) hI0_1 (by simp_all)), rfl, hS.fin [0] (by decide) rfl⟩
       omega
     ·have _hC1 := trivial
      have hC1p : ¬ ((i : Int) < (a0.Cells.length : Int)) := by simpa using hC1
      refine C_exit ?_
      refine E_then_exit ?_
      refine E_then_exit ?_
      refine E_block_hit ?_
      refine E_then (C_fr [] rfl ?_)
      refine C_seq ?_
      refine C_region ?_
      refine W_cons rfl (by decide) (Sv_val rfl (R_assign rfl rfl) ?_)
      refine W_nil ?_
      refine E_then ?_
      refine C_ret ?_
      refine E_ret1 rfl rfl ?_
      exact ⟨Lret1 (Lbool (show false = (greatS a0) by first | exact great_len (by omega) | exact great_c (i := i) (by omega) (by assumption) | exact great_no (i := i) (by omega) (by omega) hI0_1)), hS.fin [] (by decide) rfl⟩

set_option maxHeartbeats 400000 in
set_option maxRecDepth 20000 in
theorem small_calls  (z : Z) (w : World) (hI : In z w [])   :
    Calls Try.prog 50 #[] w fun e w' => ∃ (AR0_Widths : Option Addr) (cR0_Widths : Nat) (AR0_Heights : Option Addr) (cR0_Heights : Nat) (AR0_Cells : Option Addr) (cR0_Cells : Nat) (AR0_Merges : Option Addr) (cR0_Merges : Nat), e = .returned (.agg #[.int .i64 smallS.Right, .slice AR0_Widths smallS.Widths.length cR0_Widths, .slice AR0_Heights smallS.Heights.length cR0_Heights, .slice AR0_Cells smallS.Cells.length cR0_Cells, .slice AR0_Merges smallS.Merges.length cR0_Merges]) ∧ Sp (FF []) w z w' [oR (kint .i64) 3 zE AR0_Widths cR0_Widths smallS.Widths, oR (kint .i64) 3 zE AR0_Heights cR0_Heights smallS.Heights, oR kdTCell 46 zE AR0_Cells cR0_Cells smallS.Cells, oR kdTRect 33 zE AR0_Merges cR0_Merges smallS.Merges] := by
 have hS := hI.sp
 refine Calls_of (vs := []) (N := 8) Try.func50 rfl rfl (Nat.le_of_ble_eq_true rfl) ?_
 refine C_seq ?_
 refine C_region ?_
 refine W_cons rfl (by decide) (S_box hS rfl (R_alloc rfl alloc39) (fun b2 w1 hS => ?_))
 refine W_nil ?_
 refine E_then ?_
 refine C_seq ?_
 refine C_region ?_
 refine W_cons rfl (by decide) (S_row (d := (kint .i64)) (q := zE) hS ([5, 5, 5] : List Int) rfl (R_buildSlice (ps := [(0, (.const (.int .i64 5))), (1, (.const (.int .i64 5))), (2, (.const (.int .i64 5)))]) (vs := [.int .i64 5, .int .i64 5, .int .i64 5]) (w' := w1.alloc (.cells [.int .i64 5, .int .i64 5, .int .i64 5].toArray 3)) (r := .slice (some ⟨w1.heap.size, 0, none⟩) 3 3) rfl rfl rfl (by kernel_rfl)) (by simp [Reps, flat, kint]) rfl (by decide) (fun g4 w3 hS => ?_))
 refine W_cons rfl (by decide) (S_row (d := (kint .i64)) (q := zE) hS ([1, 1] : List Int) rfl (R_buildSlice (ps := [(0, (.const (.int .i64 1))), (1, (.const (.int .i64 1)))]) (vs := [.int .i64 1, .int .i64 1]) (w' := w3.alloc (.cells [.int .i64 1, .int .i64 1].toArray 3)) (r := .slice (some ⟨w3.heap.size, 0, none⟩) 2 2) rfl rfl rfl (by kernel_rfl)) (by simp [Reps, flat, kint]) rfl (by decide) (fun g6 w5 hS => ?_))
 refine W_cons rfl (by decide) (Sv_val rfl (R_build (w' := w5) (ps := [(2, (.const (.string { data := #[97] })))]) (vs := [vstr [97]]) (r := .agg #[.int .i64 0, .int .i64 0, vstr [97], .int .i64 0, .int .i64 0, .int .i64 0]) rfl rfl rfl (by kernel_rfl)) ?_)
 refine W_cons rfl (by decide) (S_row (d := kdTCell) (q := zE) hS ([(⟨0, 0, [97], (⟨0, 0, 0⟩ : TStyle)⟩ : TCell)] : List TCell) rfl (R_buildSlice (ps := [(0, (.tmp 3))]) (vs := [.agg #[.int .i64 0, .int .i64 0, vstr [97], .int .i64 0, .int .i64 0, .int .i64 0]]) (w' := w5.alloc (.cells [.int .i64 0, .int .i64 0, vstr [97], .int .i64 0, .int .i64 0, .int .i64 0].toArray 46)) (r := .slice (some ⟨w5.heap.size, 0, none⟩) 1 1) rfl rfl rfl (by kernel_rfl)) (by simp [Reps, flat, kdTCell]) rfl (by decide) (fun g8 w7 hS => ?_))
 refine W_cons rfl (by decide) (Sv_val rfl (R_build (w' := w7) (ps := [(0, (.const (.int .i64 1))), (1, (.const (.int .i64 1))), (2, (.const (.int .i64 1))), (3, (.const (.int .i64 2)))]) (vs := [.int .i64 1, .int .i64 1, .int .i64 1, .int .i64 2]) (r := .agg #[.int .i64 1, .int .i64 1, .int .i64 1, .int .i64 2]) rfl rfl rfl (by kernel_rfl)) ?_)
 refine W_cons rfl (by decide) (S_row (d := kdTRect) (q := zE) hS ([(⟨1, 1, 1, 2⟩ : TRect)] : List TRect) rfl (R_buildSlice (ps := [(0, (.tmp 5))]) (vs := [.agg #[.int .i64 1, .int .i64 1, .int .i64 1, .int .i64 2]]) (w' := w7.alloc (.cells [.int .i64 1, .int .i64 1, .int .i64 1, .int .i64 2].toArray 33)) (r := .slice (some ⟨w7.heap.size, 0, none⟩) 1 1) rfl rfl rfl (by kernel_rfl)) (by simp [Reps, flat, kdTRect]) rfl (by decide) (fun g10 w9 hS => ?_))
 refine W_cons rfl (by decide) (Sv_val rfl (R_build (w' := w9) (ps := [(1, (.tmp 1)), (2, (.tmp 2)), (3, (.tmp 4)), (4, (.tmp 6))]) (vs := [.slice (some ⟨g4, 0, none⟩) ([5, 5, 5] : List Int).length 3, .slice (some ⟨g6, 0, none⟩) ([1, 1] : List Int).length 2, .slice (some ⟨g8, 0, none⟩) ([(⟨0, 0, [97], (⟨0, 0, 0⟩ : TStyle)⟩ : TCell)] : List TCell).length 1, .slice (some ⟨g10, 0, none⟩) ([(⟨1, 1, 1, 2⟩ : TRect)] : List TRect).length 1]) (r := .agg #[.int .i64 0, .slice (some ⟨g4, 0, none⟩) ([5, 5, 5] : List Int).length 3, .slice (some ⟨g6, 0, none⟩) ([1, 1] : List Int).length 2, .slice (some ⟨g8, 0, none⟩) ([(⟨0, 0, [97], (⟨0, 0, 0⟩ : TStyle)⟩ : TCell)] : List TCell).length 1, .slice (some ⟨g10, 0, none⟩) ([(⟨1, 1, 1, 2⟩ : TRect)] : List TRect).length 1]) rfl rfl rfl (by kernel_rfl)) ?_)
 refine W_cons0 rfl (S_store hS 4 rfl rfl rfl rfl rfl size39 (one_cons rfl (one_cons rfl (one_cons rfl (one_cons rfl (one_cons rfl one_nil))))) (Nat.le_of_ble_eq_true rfl) (fun w11 hS => ?_))
 have hS : Sp (FF []) w z w11 [oR kdTRect 33 zE (some ⟨g10, 0, none⟩) 1 ([(⟨1, 1, 1, 2⟩ : TRect)] : List TRect), oR kdTCell 46 zE (some ⟨g8, 0, none⟩) 1 ([(⟨0, 0, [97], (⟨0, 0, 0⟩ : TStyle)⟩ : TCell)] : List TCell), oR (kint .i64) 3 zE (some ⟨g6, 0, none⟩) 2 ([1, 1] : List Int), oR (kint .i64) 3 zE (some ⟨g4, 0, none⟩) 3 ([5, 5, 5] : List Int), bR b2 39 [.int .i64 0, .slice (some ⟨g4, 0, none⟩) ([5, 5, 5] : List Int).length 3, .slice (some ⟨g6, 0, none⟩) ([1, 1] : List Int).length 2, .slice (some ⟨g8, 0, none⟩) ([(⟨0, 0, [97], (⟨0, 0, 0⟩ : TStyle)⟩ : TCell)] : List TCell).length 1, .slice (some ⟨g10, 0, none⟩) ([(⟨1, 1, 1, 2⟩ : TRect)] : List TRect).length 1]] := hS
 refine W_nil ?_
 refine E_then (C_fr [(0, .pointer (some ⟨b2, 0, none⟩))] rfl ?_)
 refine C_ret ?_
 have hq12 : ([5, 5, 5] : List Int) = smallS.Widths := by rfl
 have hS := hS.re 3 rfl hq12
 have hq13 : ([1, 1] : List Int) = smallS.Heights := by rfl
 have hS := hS.re 2 rfl hq13
 have hq14 : ([(⟨0, 0, [97], (⟨0, 0, 0⟩ : TStyle)⟩ : TCell)] : List TCell) = smallS.Cells := by rfl
 have hS := hS.re 1 rfl hq14
 have hq15 : ([(⟨1, 1, 1, 2⟩ : TRect)] : List TRect) = smallS.Merges := by rfl
 have hS := hS.re 0 rfl hq15
 refine E_rv1 rfl (RV_cellN (cs := [.int .i64 0, .slice (some ⟨g4, 0, none⟩) ([5, 5, 5] : List Int).length 3, .slice (some ⟨g6, 0, none⟩) ([1, 1] : List Int).length 2, .slice (some ⟨g8, 0, none⟩) ([(⟨0, 0, [97], (⟨0, 0, 0⟩ : TStyle)⟩ : TCell)] : List TCell).length 1, .slice (some ⟨g10, 0, none⟩) ([(⟨1, 1, 1, 2⟩ : TRect)] : List TRect).length 1]) rfl agg39 size39 rfl (boxcells (hS.bx 4 rfl) 0 rfl)) ?_
 exact ⟨(some ⟨g4, 0, none⟩), 3, (some ⟨g6, 0, none⟩), 2, (some ⟨g8, 0, none⟩), 1, (some ⟨g10, 0, none⟩), 1, Lret1 (show (.agg #[.int .i64 0, .slice (some ⟨g4, 0, none⟩) ([5, 5, 5] : List Int).length 3, .slice (some ⟨g6, 0, none⟩) ([1, 1] : List Int).length 2, .slice (some ⟨g8, 0, none⟩) ([(⟨0, 0, [97], (⟨0, 0, 0⟩ : TStyle)⟩ : TCell)] : List TCell).length 1, .slice (some ⟨g10, 0, none⟩) ([(⟨1, 1, 1, 2⟩ : TRect)] : List TRect).length 1] : Value) = .agg #[.int .i64 smallS.Right, .slice _ smallS.Widths.length _, .slice _ smallS.Heights.length _, .slice _ smallS.Cells.length _, .slice _ smallS.Merges.length _] by rfl), hS.fin [3, 2, 1, 0] (by decide) rfl⟩

set_option maxHeartbeats 400000 in
set_option maxRecDepth 20000 in
theorem lawk_calls  (z : Z) (w : World) (hI : In z w [])   :
    Calls Try.prog 29 #[] w fun e w' => e = .returned (.bool true) ∧ Sp (FF []) w z w' [] := by
 have hS := hI.sp
 refine Calls_of (vs := []) (N := 113) Try.func29 rfl rfl (Nat.le_of_ble_eq_true rfl) ?_
 refine C_seq ?_
 refine C_region ?_
 refine W_cons rfl (by decide) (Sv_val rfl (R_assign rfl rfl) ?_)
 refine W_nil ?_
 refine E_then ?_
 refine C_seq ?_
 refine C_region ?_
 refine W_cons rfl (by decide) (Sv_call rfl rfl rfl ent50 ?_)
 refine (small_calls  _ _ hS.out0  ).mono ?_
 rintro e_ w1 ⟨AR0_2_Widths, cR0_2_Widths, AR0_2_Heights, cR0_2_Heights, AR0_2_Cells, cR0_2_Cells, AR0_2_Merges, cR0_2_Merges, rfl, hS_⟩
 refine ⟨_, rfl, ?_⟩
 have hS := hS.call0 hS_
 have hp3 := hS.cap 0 rfl
 have hlhp3 := hp3.le
 have hmhp3 := hp3.mx
 have hp4 := hS.cap 1 rfl
 have hlhp4 := hp4.le
 have hmhp4 := hp4.mx
 have hp5 := hS.cap 2 rfl
 have hlhp5 := hp5.le
 have hmhp5 := hp5.mx
 have hp6 := hS.cap 3 rfl
 have hlhp6 := hp6.le
 have hmhp6 := hp6.mx
 refine W_cons rfl (by decide) (S_box hS rfl (R_alloc rfl alloc39) (fun b8 w7 hS => ?_))
 refine W_cons0 rfl (S_store hS 0 rfl rfl rfl rfl rfl size39 (one_cons rfl (one_cons rfl (one_cons rfl (one_cons rfl (one_cons rfl one_nil))))) (Nat.le_of_ble_eq_true rfl) (fun w9 hS => ?_))
 have hS : Sp (FF []) w z w9 [bR b8 39 [.int .i64 smallS.Right, .slice AR0_2_Widths smallS.Widths.length cR0_2_Widths, .slice AR0_2_Heights smallS.Heights.length cR0_2_Heights, .slice AR0_2_Cells smallS.Cells.length cR0_2_Cells, .slice AR0_2_Merges smallS.Merges.length cR0_2_Merges], oR (kint .i64) 3 zE AR0_2_Widths cR0_2_Widths smallS.Widths, oR (kint .i64) 3 zE AR0_2_Heights cR0_2_Heights smallS.Heights, oR kdTCell 46 zE AR0_2_Cells cR0_2_Cells smallS.Cells, oR kdTRect 33 zE AR0_2_Merges cR0_2_Merges smallS.Merges] := hS
 refine W_nil ?_
 refine E_then ?_
 refine C_seq ?_
 refine C_region ?_
 refine W_cons rfl (by decide) (Sv_val rfl (R_loadN (cs := [.int .i64 smallS.Right, .slice AR0_2_Widths smallS.Widths.length cR0_2_Widths, .slice AR0_2_Heights smallS.Heights.length cR0_2_Heights, .slice AR0_2_Cells smallS.Cells.length cR0_2_Cells, .slice AR0_2_Merges smallS.Merges.length cR0_2_Merges]) rfl rfl agg39 size39 rfl (boxcells (hS.bx 0 rfl) 0 rfl)) ?_)
 refine W_cons rfl (by decide) (Sv_call rfl rfl rfl ent31 ?_)
 refine (region_calls smallS AR0_2_Widths cR0_2_Widths AR0_2_Heights cR0_2_Heights AR0_2_Cells cR0_2_Cells AR0_2_Merges cR0_2_Merges 1 2 _ _ hS.out0 (hS.ow [] 1 rfl rfl (zle_E _)) (hS.cap 1 rfl) (hS.ow [] 2 rfl rfl (zle_E _)) (hS.cap 2 rfl) (hS.ow [] 3 rfl rfl (zle_E _)) (hS.cap 3 rfl) (hS.ow [] 4 rfl rfl (zle_E _)) (hS.cap 4 rfl) ).mono ?_
 rintro e_ w10 ⟨rfl, hS_⟩
 refine ⟨_, rfl, ?_⟩
 have hS := hS.call0 hS_
 refine W_cons rfl (by decide) (Sv_val rfl (R_move rfl rfl) ?_)
 refine W_cons rfl (by decide) (Sv_val rfl (R_extract rfl rfl rfl) ?_)
 refine W_cons rfl (by decide) (Sv_val rfl (R_extract rfl rfl rfl) ?_)
 refine W_cons rfl (by decide) (S_box hS rfl (R_alloc rfl alloc33) (fun b13 w12 hS => ?_))
 refine W_cons0 rfl (S_store hS 0 rfl rfl rfl rfl rfl size33 (one_cons rfl (one_cons rfl (one_cons rfl (one_cons rfl one_nil)))) (Nat.le_of_ble_eq_true rfl) (fun w14 hS => ?_))
 have hS : Sp (FF []) w z w14 [bR b13 33 [.int .i64 (regionS smallS 1 2).1.Row, .int .i64 (regionS smallS 1 2).1.Col, .int .i64 (regionS smallS 1 2).1.Rows, .int .i64 (regionS smallS 1 2).1.Cols], bR b8 39 [.int .i64 smallS.Right, .slice AR0_2_Widths smallS.Widths.length cR0_2_Widths, .slice AR0_2_Heights smallS.Heights.length cR0_2_Heights, .slice AR0_2_Cells smallS.Cells.length cR0_2_Cells, .slice AR0_2_Merges smallS.Merges.length cR0_2_Merges], oR (kint .i64) 3 zE AR0_2_Widths cR0_2_Widths smallS.Widths, oR (kint .i64) 3 zE AR0_2_Heights cR0_2_Heights smallS.Heights, oR kdTCell 46 zE AR0_2_Cells cR0_2_Cells smallS.Cells, oR kdTRect 33 zE AR0_2_Merges cR0_2_Merges smallS.Merges] := hS
 refine W_cons rfl (by decide) (Sv_val rfl (R_assign rfl rfl) ?_)
 refine W_nil ?_
 refine E_then (C_fr [(1, .pointer (some ⟨b8, 0, none⟩)), (2, .pointer (some ⟨b13, 0, none⟩)), (3, .int .i64 (regionS smallS 1 2).2)] rfl ?_)
 refine C_seq ?_
 refine C_region ?_
 refine W_cons rfl (by decide) (Sv_val rfl (R_loadN (cs := [.int .i64 smallS.Right, .slice AR0_2_Widths smallS.Widths.length cR0_2_Widths, .slice AR0_2_Heights smallS.Heights.length cR0_2_Heights, .slice AR0_2_Cells smallS.Cells.length cR0_2_Cells, .slice AR0_2_Merges smallS.Merges.length cR0_2_Merges]) rfl rfl agg39 size39 rfl (boxcells (hS.bx 1 rfl) 0 rfl)) ?_)
 refine W_cons rfl (by decide) (Sv_call rfl rfl rfl ent31 ?_)
 refine (region_calls smallS AR0_2_Widths cR0_2_Widths AR0_2_Heights cR0_2_Heights AR0_2_Cells cR0_2_Cells AR0_2_Merges cR0_2_Merges 0 0 _ _ hS.out0 (hS.ow [] 2 rfl rfl (zle_E _)) (hS.cap 2 rfl) (hS.ow [] 3 rfl rfl (zle_E _)) (hS.cap 3 rfl) (hS.ow [] 4 rfl rfl (zle_E _)) (hS.cap 4 rfl) (hS.ow [] 5 rfl rfl (zle_E _)) (hS.cap 5 rfl) ).mono ?_
 rintro e_ w15 ⟨rfl, hS_⟩
 refine ⟨_, rfl, ?_⟩
 have hS := hS.call0 hS_
 refine W_cons rfl (by decide) (Sv_val rfl (R_move rfl rfl) ?_)
 refine W_cons rfl (by decide) (Sv_val rfl (R_extract rfl rfl rfl) ?_)
 refine W_cons rfl (by decide) (Sv_val rfl (R_extract rfl rfl rfl) ?_)
 refine W_cons rfl (by decide) (S_box hS rfl (R_alloc rfl alloc33) (fun b18 w17 hS => ?_))
 refine W_cons0 rfl (S_store hS 0 rfl rfl rfl rfl rfl size33 (one_cons rfl (one_cons rfl (one_cons rfl (one_cons rfl one_nil)))) (Nat.le_of_ble_eq_true rfl) (fun w19 hS => ?_))
 have hS : Sp (FF []) w z w19 [bR b18 33 [.int .i64 (regionS smallS 0 0).1.Row, .int .i64 (regionS smallS 0 0).1.Col, .int .i64 (regionS smallS 0 0).1.Rows, .int .i64 (regionS smallS 0 0).1.Cols], bR b13 33 [.int .i64 (regionS smallS 1 2).1.Row, .int .i64 (regionS smallS 1 2).1.Col, .int .i64 (regionS smallS 1 2).1.Rows, .int .i64 (regionS smallS 1 2).1.Cols], bR b8 39 [.int .i64 smallS.Right, .slice AR0_2_Widths smallS.Widths.length cR0_2_Widths, .slice AR0_2_Heights smallS.Heights.length cR0_2_Heights, .slice AR0_2_Cells smallS.Cells.length cR0_2_Cells, .slice AR0_2_Merges smallS.Merges.length cR0_2_Merges], oR (kint .i64) 3 zE AR0_2_Widths cR0_2_Widths smallS.Widths, oR (kint .i64) 3 zE AR0_2_Heights cR0_2_Heights smallS.Heights, oR kdTCell 46 zE AR0_2_Cells cR0_2_Cells smallS.Cells, oR kdTRect 33 zE AR0_2_Merges cR0_2_Merges smallS.Merges] := hS
 refine W_cons rfl (by decide) (Sv_val rfl (R_assign rfl rfl) ?_)
 refine W_nil ?_
 refine E_then (C_fr [(1, .pointer (some ⟨b8, 0, none⟩)), (2, .pointer (some ⟨b13, 0, none⟩)), (3, .int .i64 (regionS smallS 1 2).2), (4, .pointer (some ⟨b18, 0, none⟩)), (5, .int .i64 (regionS smallS 0 0).2)] rfl ?_)
 refine C_seq ?_
 refine C_region ?_
 refine W_cons rfl (by decide) (Sv_val rfl (R_loadN (cs := [.int .i64 smallS.Right, .slice AR0_2_Widths smallS.Widths.length cR0_2_Widths, .slice AR0_2_Heights smallS.Heights.length cR0_2_Heights, .slice AR0_2_Cells smallS.Cells.length cR0_2_Cells, .slice AR0_2_Merges smallS.Merges.length cR0_2_Merges]) rfl rfl agg39 size39 rfl (boxcells (hS.bx 2 rfl) 0 rfl)) ?_)
 refine W_cons rfl (by decide) (Sv_call rfl rfl rfl ent31 ?_)
 refine (region_calls smallS AR0_2_Widths cR0_2_Widths AR0_2_Heights cR0_2_Heights AR0_2_Cells cR0_2_Cells AR0_2_Merges cR0_2_Merges 2 0 _ _ hS.out0 (hS.ow [] 3 rfl rfl (zle_E _)) (hS.cap 3 rfl) (hS.ow [] 4 rfl rfl (zle_E _)) (hS.cap 4 rfl) (hS.ow [] 5 rfl rfl (zle_E _)) (hS.cap 5 rfl) (hS.ow [] 6 rfl rfl (zle_E _)) (hS.cap 6 rfl) ).mono ?_
 rintro e_ w20 ⟨rfl, hS_⟩
 refine ⟨_, rfl, ?_⟩
 have hS := hS.call0 hS_
 refine W_cons rfl (by decide) (Sv_val rfl (R_move rfl rfl) ?_)
 refine W_cons rfl (by decide) (Sv_val rfl (R_extract rfl rfl rfl) ?_)
 refine W_cons rfl (by decide) (Sv_val rfl (R_extract rfl rfl rfl) ?_)
 refine W_cons rfl (by decide) (S_box hS rfl (R_alloc rfl alloc33) (fun b23 w22 hS => ?_))
 refine W_cons0 rfl (S_store hS 0 rfl rfl rfl rfl rfl size33 (one_cons rfl (one_cons rfl (one_cons rfl (one_cons rfl one_nil)))) (Nat.le_of_ble_eq_true rfl) (fun w24 hS => ?_))
 have hS : Sp (FF []) w z w24 [bR b23 33 [.int .i64 (regionS smallS 2 0).1.Row, .int .i64 (regionS smallS 2 0).1.Col, .int .i64 (regionS smallS 2 0).1.Rows, .int .i64 (regionS smallS 2 0).1.Cols], bR b18 33 [.int .i64 (regionS smallS 0 0).1.Row, .int .i64 (regionS smallS 0 0).1.Col, .int .i64 (regionS smallS 0 0).1.Rows, .int .i64 (regionS smallS 0 0).1.Cols], bR b13 33 [.int .i64 (regionS smallS 1 2).1.Row, .int .i64 (regionS smallS 1 2).1.Col, .int .i64 (regionS smallS 1 2).1.Rows, .int .i64 (regionS smallS 1 2).1.Cols], bR b8 39 [.int .i64 smallS.Right, .slice AR0_2_Widths smallS.Widths.length cR0_2_Widths, .slice AR0_2_Heights smallS.Heights.length cR0_2_Heights, .slice AR0_2_Cells smallS.Cells.length cR0_2_Cells, .slice AR0_2_Merges smallS.Merges.length cR0_2_Merges], oR (kint .i64) 3 zE AR0_2_Widths cR0_2_Widths smallS.Widths, oR (kint .i64) 3 zE AR0_2_Heights cR0_2_Heights smallS.Heights, oR kdTCell 46 zE AR0_2_Cells cR0_2_Cells smallS.Cells, oR kdTRect 33 zE AR0_2_Merges cR0_2_Merges smallS.Merges] := hS
 refine W_cons rfl (by decide) (Sv_val rfl (R_assign rfl rfl) ?_)
 refine W_nil ?_
 refine E_then (C_fr [(1, .pointer (some ⟨b8, 0, none⟩)), (2, .pointer (some ⟨b13, 0, none⟩)), (3, .int .i64 (regionS smallS 1 2).2), (4, .pointer (some ⟨b18, 0, none⟩)), (5, .int .i64 (regionS smallS 0 0).2), (7, .int .i64 (regionS smallS 2 0).2)] rfl ?_)
 refine C_seq ?_
 refine C_region ?_
 refine W_cons rfl (by decide) (Sv_val rfl (R_loadN (cs := [.int .i64 smallS.Right, .slice AR0_2_Widths smallS.Widths.length cR0_2_Widths, .slice AR0_2_Heights smallS.Heights.length cR0_2_Heights, .slice AR0_2_Cells smallS.Cells.length cR0_2_Cells, .slice AR0_2_Merges smallS.Merges.length cR0_2_Merges]) rfl rfl agg39 size39 rfl (boxcells (hS.bx 3 rfl) 0 rfl)) ?_)
 refine W_cons rfl (by decide) (Sv_call rfl rfl rfl ent33 ?_)
 refine (get_calls smallS AR0_2_Widths cR0_2_Widths AR0_2_Heights cR0_2_Heights AR0_2_Cells cR0_2_Cells AR0_2_Merges cR0_2_Merges 0 0 _ _ hS.out0 (hS.ow [] 4 rfl rfl (zle_E _)) (hS.cap 4 rfl) (hS.ow [] 5 rfl rfl (zle_E _)) (hS.cap 5 rfl) (hS.ow [] 6 rfl rfl (zle_E _)) (hS.cap 6 rfl) (hS.ow [] 7 rfl rfl (zle_E _)) (hS.cap 7 rfl) ).mono ?_
 rintro e_ w25 ⟨rfl, hS_⟩
 refine ⟨_, rfl, ?_⟩
 have hS := hS.call0 hS_
 refine W_cons rfl (by decide) (Sv_val rfl (R_move rfl rfl) ?_)
 refine W_cons rfl (by decide) (Sv_val rfl (R_extract rfl rfl rfl) ?_)
 refine W_cons rfl (by decide) (Sv_val rfl (R_extract rfl rfl rfl) ?_)
 refine W_cons rfl (by decide) (S_box hS rfl (R_alloc rfl alloc46) (fun b28 w27 hS => ?_))
 refine W_cons0 rfl (S_store hS 0 rfl rfl rfl rfl rfl size46 (one_cons rfl (one_cons rfl (one_cons rfl (one_cons rfl (one_cons rfl (one_cons rfl one_nil)))))) (Nat.le_of_ble_eq_true rfl) (fun w29 hS => ?_))
 have hS : Sp (FF []) w z w29 [bR b28 46 [.int .i64 (getS smallS 0 0).1.Row, .int .i64 (getS smallS 0 0).1.Col, vstr (getS smallS 0 0).1.Text, .int .i64 (getS smallS 0 0).1.Style.Align, .int .i64 (getS smallS 0 0).1.Style.Wrap, .int .i64 (getS smallS 0 0).1.Style.Dir], bR b23 33 [.int .i64 (regionS smallS 2 0).1.Row, .int .i64 (regionS smallS 2 0).1.Col, .int .i64 (regionS smallS 2 0).1.Rows, .int .i64 (regionS smallS 2 0).1.Cols], bR b18 33 [.int .i64 (regionS smallS 0 0).1.Row, .int .i64 (regionS smallS 0 0).1.Col, .int .i64 (regionS smallS 0 0).1.Rows, .int .i64 (regionS smallS 0 0).1.Cols], bR b13 33 [.int .i64 (regionS smallS 1 2).1.Row, .int .i64 (regionS smallS 1 2).1.Col, .int .i64 (regionS smallS 1 2).1.Rows, .int .i64 (regionS smallS 1 2).1.Cols], bR b8 39 [.int .i64 smallS.Right, .slice AR0_2_Widths smallS.Widths.length cR0_2_Widths, .slice AR0_2_Heights smallS.Heights.length cR0_2_Heights, .slice AR0_2_Cells smallS.Cells.length cR0_2_Cells, .slice AR0_2_Merges smallS.Merges.length cR0_2_Merges], oR (kint .i64) 3 zE AR0_2_Widths cR0_2_Widths smallS.Widths, oR (kint .i64) 3 zE AR0_2_Heights cR0_2_Heights smallS.Heights, oR kdTCell 46 zE AR0_2_Cells cR0_2_Cells smallS.Cells, oR kdTRect 33 zE AR0_2_Merges cR0_2_Merges smallS.Merges] := hS
 refine W_cons rfl (by decide) (Sv_val rfl (R_assign rfl rfl) ?_)
 refine W_nil ?_
 refine E_then (C_fr [(1, .pointer (some ⟨b8, 0, none⟩)), (2, .pointer (some ⟨b13, 0, none⟩)), (3, .int .i64 (regionS smallS 1 2).2), (4, .pointer (some ⟨b18, 0, none⟩)), (5, .int .i64 (regionS smallS 0 0).2), (7, .int .i64 (regionS smallS 2 0).2), (8, .pointer (some ⟨b28, 0, none⟩)), (9, .int .i64 (getS smallS 0 0).2)] rfl ?_)
 refine C_seq ?_
 refine C_region ?_
 refine W_cons rfl (by decide) (Sv_val rfl (R_loadN (cs := [.int .i64 smallS.Right, .slice AR0_2_Widths smallS.Widths.length cR0_2_Widths, .slice AR0_2_Heights smallS.Heights.length cR0_2_Heights, .slice AR0_2_Cells smallS.Cells.length cR0_2_Cells, .slice AR0_2_Merges smallS.Merges.length cR0_2_Merges]) rfl rfl agg39 size39 rfl (boxcells (hS.bx 4 rfl) 0 rfl)) ?_)
 refine W_cons rfl (by decide) (Sv_call rfl rfl rfl ent33 ?_)
 refine (get_calls smallS AR0_2_Widths cR0_2_Widths AR0_2_Heights cR0_2_Heights AR0_2_Cells cR0_2_Cells AR0_2_Merges cR0_2_Merges 1 2 _ _ hS.out0 (hS.ow [] 5 rfl rfl (zle_E _)) (hS.cap 5 rfl) (hS.ow [] 6 rfl rfl (zle_E _)) (hS.cap 6 rfl) (hS.ow [] 7 rfl rfl (zle_E _)) (hS.cap 7 rfl) (hS.ow [] 8 rfl rfl (zle_E _)) (hS.cap 8 rfl) ).mono ?_
 rintro e_ w30 ⟨rfl, hS_⟩
 refine ⟨_, rfl, ?_⟩
 have hS := hS.call0 hS_
 refine W_cons rfl (by decide) (Sv_val rfl (R_move rfl rfl) ?_)
 refine W_cons rfl (by decide) (Sv_val rfl (R_extract rfl rfl rfl) ?_)
 refine W_cons rfl (by decide) (Sv_val rfl (R_extract rfl rfl rfl) ?_)
 refine W_cons rfl (by decide) (S_box hS rfl (R_alloc rfl alloc46) (fun b33 w32 hS => ?_))
 refine W_cons0 rfl (S_store hS 0 rfl rfl rfl rfl rfl size46 (one_cons rfl (one_cons rfl (one_cons rfl (one_cons rfl (one_cons rfl (one_cons rfl one_nil)))))) (Nat.le_of_ble_eq_true rfl) (fun w34 hS => ?_))
 have hS : Sp (FF []) w z w34 [bR b33 46 [.int .i64 (getS smallS 1 2).1.Row, .int .i64 (getS smallS 1 2).1.Col, vstr (getS smallS 1 2).1.Text, .int .i64 (getS smallS 1 2).1.Style.Align, .int .i64 (getS smallS 1 2).1.Style.Wrap, .int .i64 (getS smallS 1 2).1.Style.Dir], bR b28 46 [.int .i64 (getS smallS 0 0).1.Row, .int .i64 (getS smallS 0 0).1.Col, vstr (getS smallS 0 0).1.Text, .int .i64 (getS smallS 0 0).1.Style.Align, .int .i64 (getS smallS 0 0).1.Style.Wrap, .int .i64 (getS smallS 0 0).1.Style.Dir], bR b23 33 [.int .i64 (regionS smallS 2 0).1.Row, .int .i64 (regionS smallS 2 0).1.Col, .int .i64 (regionS smallS 2 0).1.Rows, .int .i64 (regionS smallS 2 0).1.Cols], bR b18 33 [.int .i64 (regionS smallS 0 0).1.Row, .int .i64 (regionS smallS 0 0).1.Col, .int .i64 (regionS smallS 0 0).1.Rows, .int .i64 (regionS smallS 0 0).1.Cols], bR b13 33 [.int .i64 (regionS smallS 1 2).1.Row, .int .i64 (regionS smallS 1 2).1.Col, .int .i64 (regionS smallS 1 2).1.Rows, .int .i64 (regionS smallS 1 2).1.Cols], bR b8 39 [.int .i64 smallS.Right, .slice AR0_2_Widths smallS.Widths.length cR0_2_Widths, .slice AR0_2_Heights smallS.Heights.length cR0_2_Heights, .slice AR0_2_Cells smallS.Cells.length cR0_2_Cells, .slice AR0_2_Merges smallS.Merges.length cR0_2_Merges], oR (kint .i64) 3 zE AR0_2_Widths cR0_2_Widths smallS.Widths, oR (kint .i64) 3 zE AR0_2_Heights cR0_2_Heights smallS.Heights, oR kdTCell 46 zE AR0_2_Cells cR0_2_Cells smallS.Cells, oR kdTRect 33 zE AR0_2_Merges cR0_2_Merges smallS.Merges] := hS
 refine W_cons rfl (by decide) (Sv_val rfl (R_assign rfl rfl) ?_)
 refine W_nil ?_
 refine E_then (C_fr [(1, .pointer (some ⟨b8, 0, none⟩)), (2, .pointer (some ⟨b13, 0, none⟩)), (3, .int .i64 (regionS smallS 1 2).2), (4, .pointer (some ⟨b18, 0, none⟩)), (5, .int .i64 (regionS smallS 0 0).2), (7, .int .i64 (regionS smallS 2 0).2), (8, .pointer (some ⟨b28, 0, none⟩)), (9, .int .i64 (getS smallS 0 0).2), (10, .pointer (some ⟨b33, 0, none⟩)), (11, .int .i64 (getS smallS 1 2).2)] rfl ?_)
 refine C_seq ?_
 refine C_region ?_
 refine W_cons rfl (by decide) (Sv_call rfl rfl rfl ent50 ?_)
 refine (small_calls  _ _ hS.out0  ).mono ?_
 rintro e_ w35 ⟨AR0_36_Widths, cR0_36_Widths, AR0_36_Heights, cR0_36_Heights, AR0_36_Cells, cR0_36_Cells, AR0_36_Merges, cR0_36_Merges, rfl, hS_⟩
 refine ⟨_, rfl, ?_⟩
 have hS := hS.call0 hS_
 have hp37 := hS.cap 0 rfl
 have hlhp37 := hp37.le
 have hmhp37 := hp37.mx
 have hp38 := hS.cap 1 rfl
 have hlhp38 := hp38.le
 have hmhp38 := hp38.mx
 have hp39 := hS.cap 2 rfl
 have hlhp39 := hp39.le
 have hmhp39 := hp39.mx
 have hp40 := hS.cap 3 rfl
 have hlhp40 := hp40.le
 have hmhp40 := hp40.mx
 refine W_cons rfl (by decide) (Sv_call rfl rfl rfl ent50 ?_)
 refine (small_calls  _ _ hS.out0  ).mono ?_
 rintro e_ w41 ⟨AR0_42_Widths, cR0_42_Widths, AR0_42_Heights, cR0_42_Heights, AR0_42_Cells, cR0_42_Cells, AR0_42_Merges, cR0_42_Merges, rfl, hS_⟩
 refine ⟨_, rfl, ?_⟩
 have hS := hS.call0 hS_
 have hp43 := hS.cap 0 rfl
 have hlhp43 := hp43.le
 have hmhp43 := hp43.mx
 have hp44 := hS.cap 1 rfl
 have hlhp44 := hp44.le
 have hmhp44 := hp44.mx
 have hp45 := hS.cap 2 rfl
 have hlhp45 := hp45.le
 have hmhp45 := hp45.mx
 have hp46 := hS.cap 3 rfl
 have hlhp46 := hp46.le
 have hmhp46 := hp46.mx
 refine W_cons rfl (by decide) (S_box hS rfl (R_alloc rfl alloc39) (fun b48 w47 hS => ?_))
 refine W_cons rfl (by decide) (S_box hS rfl (R_alloc rfl alloc39) (fun b50 w49 hS => ?_))
 refine W_cons0 rfl (S_store hS 1 rfl rfl rfl rfl rfl size39 (one_cons rfl (one_cons rfl (one_cons rfl (one_cons rfl (one_cons rfl one_nil))))) (Nat.le_of_ble_eq_true rfl) (fun w51 hS => ?_))
 have hS : Sp (FF []) w z w51 [bR b50 39 [.int .i64 0, .slice none 0 0, .slice none 0 0, .slice none 0 0, .slice none 0 0], bR b48 39 [.int .i64 smallS.Right, .slice AR0_36_Widths smallS.Widths.length cR0_36_Widths, .slice AR0_36_Heights smallS.Heights.length cR0_36_Heights, .slice AR0_36_Cells smallS.Cells.length cR0_36_Cells, .slice AR0_36_Merges smallS.Merges.length cR0_36_Merges], oR (kint .i64) 3 zE AR0_42_Widths cR0_42_Widths smallS.Widths, oR (kint .i64) 3 zE AR0_42_Heights cR0_42_Heights smallS.Heights, oR kdTCell 46 zE AR0_42_Cells cR0_42_Cells smallS.Cells, oR kdTRect 33 zE AR0_42_Merges cR0_42_Merges smallS.Merges, oR (kint .i64) 3 zE AR0_36_Widths cR0_36_Widths smallS.Widths, oR (kint .i64) 3 zE AR0_36_Heights cR0_36_Heights smallS.Heights, oR kdTCell 46 zE AR0_36_Cells cR0_36_Cells smallS.Cells, oR kdTRect 33 zE AR0_36_Merges cR0_36_Merges smallS.Merges, bR b33 46 [.int .i64 (getS smallS 1 2).1.Row, .int .i64 (getS smallS 1 2).1.Col, vstr (getS smallS 1 2).1.Text, .int .i64 (getS smallS 1 2).1.Style.Align, .int .i64 (getS smallS 1 2).1.Style.Wrap, .int .i64 (getS smallS 1 2).1.Style.Dir], bR b28 46 [.int .i64 (getS smallS 0 0).1.Row, .int .i64 (getS smallS 0 0).1.Col, vstr (getS smallS 0 0).1.Text, .int .i64 (getS smallS 0 0).1.Style.Align, .int .i64 (getS smallS 0 0).1.Style.Wrap, .int .i64 (getS smallS 0 0).1.Style.Dir], bR b23 33 [.int .i64 (regionS smallS 2 0).1.Row, .int .i64 (regionS smallS 2 0).1.Col, .int .i64 (regionS smallS 2 0).1.Rows, .int .i64 (regionS smallS 2 0).1.Cols], bR b18 33 [.int .i64 (regionS smallS 0 0).1.Row, .int .i64 (regionS smallS 0 0).1.Col, .int .i64 (regionS smallS 0 0).1.Rows, .int .i64 (regionS smallS 0 0).1.Cols], bR b13 33 [.int .i64 (regionS smallS 1 2).1.Row, .int .i64 (regionS smallS 1 2).1.Col, .int .i64 (regionS smallS 1 2).1.Rows, .int .i64 (regionS smallS 1 2).1.Cols], bR b8 39 [.int .i64 smallS.Right, .slice AR0_2_Widths smallS.Widths.length cR0_2_Widths, .slice AR0_2_Heights smallS.Heights.length cR0_2_Heights, .slice AR0_2_Cells smallS.Cells.length cR0_2_Cells, .slice AR0_2_Merges smallS.Merges.length cR0_2_Merges], oR (kint .i64) 3 zE AR0_2_Widths cR0_2_Widths smallS.Widths, oR (kint .i64) 3 zE AR0_2_Heights cR0_2_Heights smallS.Heights, oR kdTCell 46 zE AR0_2_Cells cR0_2_Cells smallS.Cells, oR kdTRect 33 zE AR0_2_Merges cR0_2_Merges smallS.Merges] := hS
 refine W_cons0 rfl (S_store hS 0 rfl rfl rfl rfl rfl size39 (one_cons rfl (one_cons rfl (one_cons rfl (one_cons rfl (one_cons rfl one_nil))))) (Nat.le_of_ble_eq_true rfl) (fun w52 hS => ?_))
 have hS : Sp (FF []) w z w52 [bR b50 39 [.int .i64 smallS.Right, .slice AR0_42_Widths smallS.Widths.length cR0_42_Widths, .slice AR0_42_Heights smallS.Heights.length cR0_42_Heights, .slice AR0_42_Cells smallS.Cells.length cR0_42_Cells, .slice AR0_42_Merges smallS.Merges.length cR0_42_Merges], bR b48 39 [.int .i64 smallS.Right, .slice AR0_36_Widths smallS.Widths.length cR0_36_Widths, .slice AR0_36_Heights smallS.Heights.length cR0_36_Heights, .slice AR0_36_Cells smallS.Cells.length cR0_36_Cells, .slice AR0_36_Merges smallS.Merges.length cR0_36_Merges], oR (kint .i64) 3 zE AR0_42_Widths cR0_42_Widths smallS.Widths, oR (kint .i64) 3 zE AR0_42_Heights cR0_42_Heights smallS.Heights, oR kdTCell 46 zE AR0_42_Cells cR0_42_Cells smallS.Cells, oR kdTRect 33 zE AR0_42_Merges cR0_42_Merges smallS.Merges, oR (kint .i64) 3 zE AR0_36_Widths cR0_36_Widths smallS.Widths, oR (kint .i64) 3 zE AR0_36_Heights cR0_36_Heights smallS.Heights, oR kdTCell 46 zE AR0_36_Cells cR0_36_Cells smallS.Cells, oR kdTRect 33 zE AR0_36_Merges cR0_36_Merges smallS.Merges, bR b33 46 [.int .i64 (getS smallS 1 2).1.Row, .int .i64 (getS smallS 1 2).1.Col, vstr (getS smallS 1 2).1.Text, .int .i64 (getS smallS 1 2).1.Style.Align, .int .i64 (getS smallS 1 2).1.Style.Wrap, .int .i64 (getS smallS 1 2).1.Style.Dir], bR b28 46 [.int .i64 (getS smallS 0 0).1.Row, .int .i64 (getS smallS 0 0).1.Col, vstr (getS smallS 0 0).1.Text, .int .i64 (getS smallS 0 0).1.Style.Align, .int .i64 (getS smallS 0 0).1.Style.Wrap, .int .i64 (getS smallS 0 0).1.Style.Dir], bR b23 33 [.int .i64 (regionS smallS 2 0).1.Row, .int .i64 (regionS smallS 2 0).1.Col, .int .i64 (regionS smallS 2 0).1.Rows, .int .i64 (regionS smallS 2 0).1.Cols], bR b18 33 [.int .i64 (regionS smallS 0 0).1.Row, .int .i64 (regionS smallS 0 0).1.Col, .int .i64 (regionS smallS 0 0).1.Rows, .int .i64 (regionS smallS 0 0).1.Cols], bR b13 33 [.int .i64 (regionS smallS 1 2).1.Row, .int .i64 (regionS smallS 1 2).1.Col, .int .i64 (regionS smallS 1 2).1.Rows, .int .i64 (regionS smallS 1 2).1.Cols], bR b8 39 [.int .i64 smallS.Right, .slice AR0_2_Widths smallS.Widths.length cR0_2_Widths, .slice AR0_2_Heights smallS.Heights.length cR0_2_Heights, .slice AR0_2_Cells smallS.Cells.length cR0_2_Cells, .slice AR0_2_Merges smallS.Merges.length cR0_2_Merges], oR (kint .i64) 3 zE AR0_2_Widths cR0_2_Widths smallS.Widths, oR (kint .i64) 3 zE AR0_2_Heights cR0_2_Heights smallS.Heights, oR kdTCell 46 zE AR0_2_Cells cR0_2_Cells smallS.Cells, oR kdTRect 33 zE AR0_2_Merges cR0_2_Merges smallS.Merges] := hS
 refine W_nil ?_
 refine E_then ?_
 refine C_seq ?_
 refine C_region ?_
 refine W_cons rfl (by decide) (Sv_val rfl (R_fld rfl rfl fld39_3) ?_)
 refine W_cons rfl (by decide) (Sv_val rfl (R_load1 rfl rfl agg36 ((hS.bx 1 rfl).cell rfl)) ?_)
 refine W_cons rfl (by decide) (Sv_val rfl (R_build (w' := w52) (ps := [(0, (.const (.int .i64 1))), (1, (.const (.int .i64 2))), (2, (.const (.string { data := #[98] })))]) (vs := [.int .i64 1, .int .i64 2, vstr [98]]) (r := .agg #[.int .i64 1, .int .i64 2, vstr [98], .int .i64 0, .int .i64 0, .int .i64 0]) rfl rfl rfl (by kernel_rfl)) ?_)
 refine W_cons rfl (by decide) (S_row (d := kdTCell) (q := zE) hS ([(⟨1, 2, [98], (⟨0, 0, 0⟩ : TStyle)⟩ : TCell)] : List TCell) rfl (R_buildSlice (ps := [(0, (.tmp 44))]) (vs := [.agg #[.int .i64 1, .int .i64 2, vstr [98], .int .i64 0, .int .i64 0, .int .i64 0]]) (w' := w52.alloc (.cells [.int .i64 1, .int .i64 2, vstr [98], .int .i64 0, .int .i64 0, .int .i64 0].toArray 46)) (r := .slice (some ⟨w52.heap.size, 0, none⟩) 1 1) rfl rfl rfl (by kernel_rfl)) (by simp [Reps, flat, kdTCell]) rfl (by decide) (fun g54 w53 hS => ?_))
 refine W_cons rfl (by decide) (S_append hS 9 rfl rfl rfl elem36 rfl rfl (hS.sow 0 rfl (fun _ _ h => h)) (by first | decide +kernel | omega) (by first | decide +kernel | omega) (fun Ar56 cr56 w55 hS => ?_))
 have hp57 := hS.cap 9 rfl
 have hlhp57 := hp57.le
 have hmhp57 := hp57.mx
 refine W_cons rfl (by decide) (Sv_val rfl (R_fld rfl rfl fld39_3) ?_)
 refine W_cons0 rfl (S_store hS 2 rfl rfl rfl rfl rfl size36 (one1 rfl) (Nat.le_of_ble_eq_true rfl) (fun w58 hS => ?_))
 refine W_nil ?_
 refine E_then (C_fr [(1, .pointer (some ⟨b8, 0, none⟩)), (2, .pointer (some ⟨b13, 0, none⟩)), (3, .int .i64 (regionS smallS 1 2).2), (4, .pointer (some ⟨b18, 0, none⟩)), (5, .int .i64 (regionS smallS 0 0).2), (7, .int .i64 (regionS smallS 2 0).2), (8, .pointer (some ⟨b28, 0, none⟩)), (9, .int .i64 (getS smallS 0 0).2), (10, .pointer (some ⟨b33, 0, none⟩)), (11, .int .i64 (getS smallS 1 2).2), (12, .pointer (some ⟨b48, 0, none⟩)), (13, .pointer (some ⟨b50, 0, none⟩))] rfl ?_)
 refine C_seq ?_
 refine C_region ?_
 refine W_cons rfl (by decide) (Sv_val rfl (R_build (w' := w58) (ps := [(1, (.const (.int .i64 1))), (2, (.const (.int .i64 2))), (3, (.const (.int .i64 1)))]) (vs := [.int .i64 1, .int .i64 2, .int .i64 1]) (r := .agg #[.int .i64 0, .int .i64 1, .int .i64 2, .int .i64 1]) rfl rfl rfl (by kernel_rfl)) ?_)
 refine W_cons rfl (by decide) (S_row (d := kdTRect) (q := zE) hS ([(⟨0, 1, 2, 1⟩ : TRect)] : List TRect) rfl (R_buildSlice (ps := [(0, (.tmp 48))]) (vs := [.agg #[.int .i64 0, .int .i64 1, .int .i64 2, .int .i64 1]]) (w' := w58.alloc (.cells [.int .i64 0, .int .i64 1, .int .i64 2, .int .i64 1].toArray 33)) (r := .slice (some ⟨w58.heap.size, 0, none⟩) 1 1) rfl rfl rfl (by kernel_rfl)) (by simp [Reps, flat, kdTRect]) rfl (by decide) (fun g60 w59 hS => ?_))
 refine W_cons rfl (by decide) (Sv_val rfl (R_fld rfl rfl fld39_4) ?_)
 refine W_cons rfl (by decide) (Sv_val rfl (R_load1 rfl rfl agg37 ((hS.bx 2 rfl).cell rfl)) ?_)
 refine W_cons rfl (by decide) (S_append hS 0 rfl rfl rfl elem37 rfl rfl (hS.sow 7 rfl (fun _ _ h => h)) (by first | decide +kernel | omega) (by first | decide +kernel | omega) (fun Ar62 cr62 w61 hS => ?_))
 have hp63 := hS.cap 0 rfl
 have hlhp63 := hp63.le
 have hmhp63 := hp63.mx
 refine W_cons rfl (by decide) (Sv_val rfl (R_fld rfl rfl fld39_4) ?_)
 refine W_cons0 rfl (S_store hS 2 rfl rfl rfl rfl rfl size37 (one1 rfl) (Nat.le_of_ble_eq_true rfl) (fun w64 hS => ?_))
 refine W_nil ?_
 refine E_then (C_fr [(1, .pointer (some ⟨b8, 0, none⟩)), (2, .pointer (some ⟨b13, 0, none⟩)), (3, .int .i64 (regionS smallS 1 2).2), (4, .pointer (some ⟨b18, 0, none⟩)), (5, .int .i64 (regionS smallS 0 0).2), (7, .int .i64 (regionS smallS 2 0).2), (8, .pointer (some ⟨b28, 0, none⟩)), (9, .int .i64 (getS smallS 0 0).2), (10, .pointer (some ⟨b33, 0, none⟩)), (11, .int .i64 (getS smallS 1 2).2), (12, .pointer (some ⟨b48, 0, none⟩)), (13, .pointer (some ⟨b50, 0, none⟩))] rfl ?_)
 refine C_seq ?_
 refine C_region ?_
 refine W_cons rfl (by decide) (Sv_val rfl (R_loadN (cs := [.int .i64 (regionS smallS 1 2).1.Row, .int .i64 (regionS smallS 1 2).1.Col, .int .i64 (regionS smallS 1 2).1.Rows, .int .i64 (regionS smallS 1 2).1.Cols]) rfl rfl agg33 size33 rfl (boxcells (hS.bx 16 rfl) 0 rfl)) ?_)
 refine W_cons rfl (by decide) (Sv_val rfl (R_build (w' := w64) (ps := [(0, (.const (.int .i64 1))), (1, (.const (.int .i64 1))), (2, (.const (.int .i64 1))), (3, (.const (.int .i64 2)))]) (vs := [.int .i64 1, .int .i64 1, .int .i64 1, .int .i64 2]) (r := .agg #[.int .i64 1, .int .i64 1, .int .i64 1, .int .i64 2]) rfl rfl rfl (by kernel_rfl)) ?_)
 refine W_cons rfl (by decide) (Sv_val rfl (R_eqv rfl rfl rfl eqg33 ((eqv33 (regionS smallS 1 2).1 (⟨1, 1, 1, 2⟩ : TRect)).up 2)) ?_)
 refine W_cons rfl (by decide) (Sv_val rfl (R_move rfl rfl) ?_)
 have hk65 : (decide ((regionS smallS 1 2).1 = (⟨1, 1, 1, 2⟩ : TRect))) = true := by decide +kernel
 have hk65p : (regionS smallS 1 2).1 = (⟨1, 1, 1, 2⟩ : TRect) := by simpa using hk65
 refine W_cons rfl (by decide) (Sv_gt rfl rfl rfl hk65 (Sv_val rfl (R_move rfl rfl) ?_))
 refine W_cons rfl (by decide) (Sv_gt rfl rfl rfl hk65 (Sv_val rfl (R_bin rfl rfl rfl rfl rfl) ?_))
 refine W_cons rfl (by decide) (Sv_val rfl (R_pick_t rfl rfl hk65 rfl) ?_)
 refine W_cons rfl (by decide) (Sv_val rfl (R_move rfl rfl) ?_)
 have hk66 : (((regionS smallS 1 2).2 == 0)) = true := by decide +kernel
 have hk66p : (regionS smallS 1 2).2 = 0 := by simpa using hk66
 refine W_cons rfl (by decide) (Sv_gt rfl rfl rfl hk66 (Sv_val rfl (R_loadN (cs := [.int .i64 (regionS smallS 0 0).1.Row, .int .i64 (regionS smallS 0 0).1.Col, .int .i64 (regionS smallS 0 0).1.Rows, .int .i64 (regionS smallS 0 0).1.Cols]) rfl rfl agg33 size33 rfl (boxcells (hS.bx 15 rfl) 0 rfl)) ?_))
 refine W_cons rfl (by decide) (Sv_gt rfl rfl rfl hk66 (Sv_val rfl (R_build (w' := w64) (ps := [(2, (.const (.int .i64 1))), (3, (.const (.int .i64 1)))]) (vs := [.int .i64 1, .int .i64 1]) (r := .agg #[.int .i64 0, .int .i64 0, .int .i64 1, .int .i64 1]) rfl rfl rfl (by kernel_rfl)) ?_))
 refine W_cons rfl (by decide) (Sv_gt rfl rfl rfl hk66 (Sv_val rfl (R_eqv rfl rfl rfl eqg33 ((eqv33 (regionS smallS 0 0).1 (⟨0, 0, 1, 1⟩ : TRect)).up 2)) ?_))
 refine W_cons rfl (by decide) (Sv_val rfl (R_pick_t rfl rfl hk66 rfl) ?_)
 refine W_cons rfl (by decide) (Sv_val rfl (R_move rfl rfl) ?_)
 have hk67 : (decide ((regionS smallS 0 0).1 = (⟨0, 0, 1, 1⟩ : TRect))) = true := by decide +kernel
 have hk67p : (regionS smallS 0 0).1 = (⟨0, 0, 1, 1⟩ : TRect) := by simpa using hk67
 refine W_cons rfl (by decide) (Sv_gt rfl rfl rfl hk67 (Sv_val rfl (R_move rfl rfl) ?_))
 refine W_cons rfl (by decide) (Sv_gt rfl rfl rfl hk67 (Sv_val rfl (R_bin rfl rfl rfl rfl rfl) ?_))
 refine W_cons rfl (by decide) (Sv_val rfl (R_pick_t rfl rfl hk67 rfl) ?_)
 refine W_cons rfl (by decide) (Sv_val rfl (R_move rfl rfl) ?_)
 have hk68 : (((regionS smallS 0 0).2 == 0)) = true := by decide +kernel
 have hk68p : (regionS smallS 0 0).2 = 0 := by simpa using hk68
 refine W_cons rfl (by decide) (Sv_gt rfl rfl rfl hk68 (Sv_val rfl (R_move rfl rfl) ?_))
 refine W_cons rfl (by decide) (Sv_gt rfl rfl rfl hk68 (Sv_val rfl (R_bin rfl rfl rfl rfl rfl) ?_))
 refine W_cons rfl (by decide) (Sv_val rfl (R_pick_t rfl rfl hk68 rfl) ?_)
 refine W_cons rfl (by decide) (Sv_val rfl (R_move rfl rfl) ?_)
 have hk69 : (((regionS smallS 2 0).2 == 4)) = true := by decide +kernel
 have hk69p : (regionS smallS 2 0).2 = 4 := by simpa using hk69
 refine W_cons rfl (by decide) (Sv_gt rfl rfl rfl hk69 (Sv_val rfl (R_fld rfl rfl fld46_2) ?_))
 refine W_cons rfl (by decide) (Sv_gt rfl rfl rfl hk69 (Sv_val rfl (R_load1 rfl rfl agg9 ((hS.bx 13 rfl).cell rfl)) ?_))
 refine W_cons rfl (by decide) (Sv_gt rfl rfl rfl hk69 (Sv_val rfl (R_streql rfl rfl rfl) ?_))
 refine W_cons rfl (by decide) (Sv_val rfl (R_pick_t rfl rfl hk69 rfl) ?_)
 refine W_cons rfl (by decide) (Sv_val rfl (R_move rfl rfl) ?_)
 have hk70 : (decide ((getS smallS 0 0).1.Text = [97])) = true := by decide +kernel
 have hk70p : (getS smallS 0 0).1.Text = [97] := by simpa using hk70
 refine W_cons rfl (by decide) (Sv_gt rfl rfl rfl hk70 (Sv_val rfl (R_move rfl rfl) ?_))
 refine W_cons rfl (by decide) (Sv_gt rfl rfl rfl hk70 (Sv_val rfl (R_bin rfl rfl rfl rfl rfl) ?_))
 refine W_cons rfl (by decide) (Sv_val rfl (R_pick_t rfl rfl hk70 rfl) ?_)
 refine W_cons rfl (by decide) (Sv_val rfl (R_move rfl rfl) ?_)
 have hk71 : (((getS smallS 0 0).2 == 0)) = true := by decide +kernel
 have hk71p : (getS smallS 0 0).2 = 0 := by simpa using hk71
 refine W_cons rfl (by decide) (Sv_gt rfl rfl rfl hk71 (Sv_val rfl (R_loadN (cs := [.int .i64 (getS smallS 1 2).1.Row, .int .i64 (getS smallS 1 2).1.Col, vstr (getS smallS 1 2).1.Text, .int .i64 (getS smallS 1 2).1.Style.Align, .int .i64 (getS smallS 1 2).1.Style.Wrap, .int .i64 (getS smallS 1 2).1.Style.Dir]) rfl rfl agg46 size46 rfl (boxcells (hS.bx 12 rfl) 0 rfl)) ?_))
 refine W_cons rfl (by decide) (Sv_gt rfl rfl rfl hk71 (Sv_val rfl (R_build (w' := w64) (ps := [(0, (.const (.int .i64 1))), (1, (.const (.int .i64 1)))]) (vs := [.int .i64 1, .int .i64 1]) (r := .agg #[.int .i64 1, .int .i64 1, vstr [], .int .i64 0, .int .i64 0, .int .i64 0]) rfl rfl rfl (by kernel_rfl)) ?_))
 refine W_cons rfl (by decide) (Sv_gt rfl rfl rfl hk71 (Sv_val rfl (R_eqv rfl rfl rfl eqg46 ((eqv46 (getS smallS 1 2).1 (⟨1, 1, [], (⟨0, 0, 0⟩ : TStyle)⟩ : TCell)).up 1)) ?_))
 refine W_cons rfl (by decide) (Sv_val rfl (R_pick_t rfl rfl hk71 rfl) ?_)
 refine W_cons rfl (by decide) (Sv_val rfl (R_move rfl rfl) ?_)
 have hk72 : (decide ((getS smallS 1 2).1 = (⟨1, 1, [], (⟨0, 0, 0⟩ : TStyle)⟩ : TCell))) = true := by decide +kernel
 have hk72p : (getS smallS 1 2).1 = (⟨1, 1, [], (⟨0, 0, 0⟩ : TStyle)⟩ : TCell) := by simpa using hk72
 refine W_cons rfl (by decide) (Sv_gt rfl rfl rfl hk72 (Sv_val rfl (R_move rfl rfl) ?_))
 refine W_cons rfl (by decide) (Sv_gt rfl rfl rfl hk72 (Sv_val rfl (R_bin rfl rfl rfl rfl rfl) ?_))
 refine W_cons rfl (by decide) (Sv_val rfl (R_pick_t rfl rfl hk72 rfl) ?_)
 refine W_cons rfl (by decide) (Sv_val rfl (R_move rfl rfl) ?_)
 have hk73 : (((getS smallS 1 2).2 == 0)) = true := by decide +kernel
 have hk73p : (getS smallS 1 2).2 = 0 := by simpa using hk73
 refine W_cons rfl (by decide) (Sv_gt rfl rfl rfl hk73 (Sv_val rfl (R_loadN (cs := [.int .i64 smallS.Right, .slice AR0_2_Widths smallS.Widths.length cR0_2_Widths, .slice AR0_2_Heights smallS.Heights.length cR0_2_Heights, .slice AR0_2_Cells smallS.Cells.length cR0_2_Cells, .slice AR0_2_Merges smallS.Merges.length cR0_2_Merges]) rfl rfl agg39 size39 rfl (boxcells (hS.bx 17 rfl) 0 rfl)) ?_))
 refine W_cons rfl (by decide) (Sv_gt rfl rfl rfl hk73 (Sv_call rfl rfl rfl ent36 ?_))
 refine (regions_calls smallS AR0_2_Widths cR0_2_Widths AR0_2_Heights cR0_2_Heights AR0_2_Cells cR0_2_Cells AR0_2_Merges cR0_2_Merges _ _ hS.out0 (hS.ow [] 18 rfl rfl (zle_E _)) (hS.cap 18 rfl) (hS.ow [] 19 rfl rfl (zle_E _)) (hS.cap 19 rfl) (hS.ow [] 20 rfl rfl (zle_E _)) (hS.cap 20 rfl) (hS.ow [] 21 rfl rfl (zle_E _)) (hS.cap 21 rfl) ).mono ?_
 rintro e_ w74 ⟨AR0_75, cR0_75, rfl, hS_⟩
 refine ⟨_, rfl, ?_⟩
 have hS := hS.call0 hS_
 have hp76 := hS.cap 0 rfl
 have hlhp76 := hp76.le
 have hmhp76 := hp76.mx
 refine W_cons rfl (by decide) (Sv_gt rfl rfl rfl hk73 (Sv_val rfl (R_len rfl rfl Try.underlying37) ?_))
 refine W_cons rfl (by decide) (Sv_gt rfl rfl rfl hk73 (Sv_val rfl (R_bin rfl rfl rfl rfl rfl) ?_))
 refine W_cons rfl (by decide) (Sv_val rfl (R_pick_t rfl rfl hk73 rfl) ?_)
 refine W_cons rfl (by decide) (Sv_val rfl (R_move rfl rfl) ?_)
 have hk77 : ((((regionsS smallS).length : Int) == 5)) = true := by decide +kernel
 have hk77p : ((regionsS smallS).length : Int) = 5 := by simpa using hk77
 refine W_cons rfl (by decide) (Sv_gt rfl rfl rfl hk77 (Sv_val rfl (R_loadN (cs := [.int .i64 smallS.Right, .slice AR0_2_Widths smallS.Widths.length cR0_2_Widths, .slice AR0_2_Heights smallS.Heights.length cR0_2_Heights, .slice AR0_2_Cells smallS.Cells.length cR0_2_Cells, .slice AR0_2_Merges smallS.Merges.length cR0_2_Merges]) rfl rfl agg39 size39 rfl (boxcells (hS.bx 18 rfl) 0 rfl)) ?_))
 refine W_cons rfl (by decide) (Sv_gt rfl rfl rfl hk77 (Sv_call rfl rfl rfl ent35 ?_))
 refine (check_calls smallS AR0_2_Widths cR0_2_Widths AR0_2_Heights cR0_2_Heights AR0_2_Cells cR0_2_Cells AR0_2_Merges cR0_2_Merges _ _ hS.out0 (hS.ow [] 19 rfl rfl (zle_E _)) (hS.cap 19 rfl) (hS.ow [] 20 rfl rfl (zle_E _)) (hS.cap 20 rfl) (hS.ow [] 21 rfl rfl (zle_E _)) (hS.cap 21 rfl) (hS.ow [] 22 rfl rfl (zle_E _)) (hS.cap 22 rfl) ).mono ?_
 rintro e_ w78 ⟨rfl, hS_⟩
 refine ⟨_, rfl, ?_⟩
 have hS := hS.call0 hS_
 refine W_cons rfl (by decide) (Sv_gt rfl rfl rfl hk77 (Sv_val rfl (R_bin rfl rfl rfl rfl rfl) ?_))
 refine W_cons rfl (by decide) (Sv_val rfl (R_pick_t rfl rfl hk77 rfl) ?_)
 refine W_cons rfl (by decide) (Sv_val rfl (R_move rfl rfl) ?_)
 have hk80 : (((checkSh smallS) == 0)) = true := by decide +kernel
 have hk80p : (checkSh smallS) = 0 := by simpa using hk80
 refine W_cons rfl (by decide) (Sv_gt rfl rfl rfl hk80 (Sv_val rfl (R_loadN (cs := [.int .i64 smallS.Right, .slice AR0_36_Widths smallS.Widths.length cR0_36_Widths, .slice AR0_36_Heights smallS.Heights.length cR0_36_Heights, .slice Ar56 (smallS.Cells ++ ([(⟨1, 2, [98], (⟨0, 0, 0⟩ : TStyle)⟩ : TCell)] : List TCell)).length cr56, .slice AR0_36_Merges smallS.Merges.length cR0_36_Merges]) rfl rfl agg39 size39 rfl (boxcells (hS.bx 4 rfl) 0 rfl)) ?_))
 refine W_cons rfl (by decide) (Sv_gt rfl rfl rfl hk80 (Sv_call rfl rfl rfl ent35 ?_))
 refine (check_calls (⟨smallS.Right, smallS.Widths, smallS.Heights, smallS.Cells ++ ([(⟨1, 2, [98], (⟨0, 0, 0⟩ : TStyle)⟩ : TCell)] : List TCell), smallS.Merges⟩ : TSheet) AR0_36_Widths cR0_36_Widths AR0_36_Heights cR0_36_Heights Ar56 cr56 AR0_36_Merges cR0_36_Merges _ _ hS.out0 (hS.ow [] 9 rfl rfl (zle_E _)) (hS.cap 9 rfl) (hS.ow [] 10 rfl rfl (zle_E _)) (hS.cap 10 rfl) (hS.ow [] 11 rfl rfl (zle_E _)) (hS.cap 11 rfl) (hS.ow [] 12 rfl rfl (zle_E _)) (hS.cap 12 rfl) ).mono ?_
 rintro e_ w81 ⟨rfl, hS_⟩
 refine ⟨_, rfl, ?_⟩
 have hS := hS.call0 hS_
 refine W_cons rfl (by decide) (Sv_gt rfl rfl rfl hk80 (Sv_val rfl (R_bin rfl rfl rfl rfl rfl) ?_))
 refine W_cons rfl (by decide) (Sv_val rfl (R_pick_t rfl rfl hk80 rfl) ?_)
 refine W_cons rfl (by decide) (Sv_val rfl (R_move rfl rfl) ?_)
 have hk83 : (((checkSh (⟨smallS.Right, smallS.Widths, smallS.Heights, smallS.Cells ++ ([(⟨1, 2, [98], (⟨0, 0, 0⟩ : TStyle)⟩ : TCell)] : List TCell), smallS.Merges⟩ : TSheet)) == 6)) = true := by decide +kernel
 have hk83p : (checkSh (⟨smallS.Right, smallS.Widths, smallS.Heights, smallS.Cells ++ ([(⟨1, 2, [98], (⟨0, 0, 0⟩ : TStyle)⟩ : TCell)] : List TCell), smallS.Merges⟩ : TSheet)) = 6 := by simpa using hk83
 refine W_cons rfl (by decide) (Sv_gt rfl rfl rfl hk83 (Sv_val rfl (R_loadN (cs := [.int .i64 smallS.Right, .slice AR0_42_Widths smallS.Widths.length cR0_42_Widths, .slice AR0_42_Heights smallS.Heights.length cR0_42_Heights, .slice AR0_42_Cells smallS.Cells.length cR0_42_Cells, .slice Ar62 (([(⟨0, 1, 2, 1⟩ : TRect)] : List TRect) ++ smallS.Merges).length cr62]) rfl rfl agg39 size39 rfl (boxcells (hS.bx 3 rfl) 0 rfl)) ?_))
 refine W_cons rfl (by decide) (Sv_gt rfl rfl rfl hk83 (Sv_call rfl rfl rfl ent35 ?_))
 refine (check_calls (⟨smallS.Right, smallS.Widths, smallS.Heights, smallS.Cells, ([(⟨0, 1, 2, 1⟩ : TRect)] : List TRect) ++ smallS.Merges⟩ : TSheet) AR0_42_Widths cR0_42_Widths AR0_42_Heights cR0_42_Heights AR0_42_Cells cR0_42_Cells Ar62 cr62 _ _ hS.out0 (hS.ow [] 5 rfl rfl (zle_E _)) (hS.cap 5 rfl) (hS.ow [] 6 rfl rfl (zle_E _)) (hS.cap 6 rfl) (hS.ow [] 7 rfl rfl (zle_E _)) (hS.cap 7 rfl) (hS.ow [] 1 rfl rfl (zle_E _)) (hS.cap 1 rfl) ).mono ?_
 rintro e_ w84 ⟨rfl, hS_⟩
 refine ⟨_, rfl, ?_⟩
 have hS := hS.call0 hS_
 refine W_cons rfl (by decide) (Sv_gt rfl rfl rfl hk83 (Sv_val rfl (R_bin rfl rfl rfl rfl rfl) ?_))
 refine W_cons rfl (by decide) (Sv_val rfl (R_pick_t rfl rfl hk83 rfl) ?_)
 refine W_cons rfl (by decide) (Sv_val rfl (R_assign rfl rfl) ?_)
 refine W_nil ?_
 refine E_then (C_fr [(0, .bool ((checkSh (⟨smallS.Right, smallS.Widths, smallS.Heights, smallS.Cells, ([(⟨0, 1, 2, 1⟩ : TRect)] : List TRect) ++ smallS.Merges⟩ : TSheet)) == 5))] rfl ?_)
 refine C_ret ?_
 refine E_ret1 rfl rfl ?_
 exact ⟨Lret1 (Lbool (show ((checkSh (⟨smallS.Right, smallS.Widths, smallS.Heights, smallS.Cells, ([(⟨0, 1, 2, 1⟩ : TRect)] : List TRect) ++ smallS.Merges⟩ : TSheet)) == 5) = true by rfl)), hS.fin [] (by decide) rfl⟩

end Go.Proofs.YtgjnhmidbapjmaaG
