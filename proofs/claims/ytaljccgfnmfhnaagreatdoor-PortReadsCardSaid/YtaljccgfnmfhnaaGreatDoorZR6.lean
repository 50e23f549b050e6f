/- Walks and laws of this program: part 6. -/
import Derived.ChangeArms
import Derived.ChangeOld
import Derived.Handed
import Derived.HandedShaped
import Derived.LaidHandle
import Derived.Lay
import Derived.OpenShut
import Derived.ProofKit
import Derived.Shelf.Vars
import Derived.ShutString
import Derived.SizedLaws
import Derived.Test.YtaljccgfnmfhnaaGreatDoorZR5
import Derived.WalkKit
set_option linter.all false
set_option maxHeartbeats 8000000
set_option maxRecDepth 100000
namespace Go.Proofs.YtaljccgfnmfhnaaGreatDoorG
open Go Go.RowKit
theorem portReads_calls (a0 : St) (a1 : Int) (a2 : Int) (z : Z) (w : World) (hI : In z w [])  (p0 : HM z) (p1 : ET z) :
    Calls Tryz.prog 5 #[vstr a0, .int .i64 a1, .int .i64 a2] w fun e w' => e = .returned (.bool true) ∧ Sp (FF []) w z w' [] := by
 have hS := hI.sp
 refine Calls_of (vs := [vstr a0, .int .i64 a1, .int .i64 a2]) (N := 71) Tryz.func5 rfl rfl (Nat.le_of_ble_eq_true rfl) ?_
 refine C_seq <| C_region <| wv rfl rfl rfl (R_assign rfl rfl) ?_
 refine W_nil <| E_then <| C_seq <| C_seq <| C_region <| wv rfl rfl rfl (R_move rfl rfl) <| wv rfl rfl rfl (R_strlen rfl rfl Tryz.underlying9) <| wv rfl rfl rfl (R_bin rfl rfl rfl rfl rfl) <| wv rfl rfl rfl (R_move rfl rfl) ?_
 refine W_split (t := 16) rfl (fun hg1 => ?_) (fun hg1 => ?_)
 ·have hg1p : (a0.length : Int) > 4000 := by simpa using hg1
  refine W_cons rfl (by decide) (Sv_gt rfl rfl rfl hg1 (Sv_val rfl (R_move rfl rfl) ?_))
  refine W_cons rfl (by decide) (Sv_gt rfl rfl rfl hg1 (Sv_val rfl (R_strlen rfl rfl Tryz.underlying9) ?_))
  refine W_cons rfl (by decide) (Sv_gt rfl rfl rfl hg1 (Sv_val rfl (R_bin rfl rfl rfl rfl rfl) ?_))
  refine wv rfl rfl rfl (R_pick_t rfl rfl hg1 rfl) ?_
  refine W_nil <| E_then (C_fr [(0, vstr a0), (1, .int .i64 a1), (2, .int .i64 a2), (20, .bool (decide ((a0.length : Int) ≤ 65536)))] rfl ?_)
  refine C_ite rfl (fun hC0 => ?_) (fun hC0 => ?_)
  ·have hC0p : (a0.length : Int) ≤ 65536 := by simpa using hC0
   refine C_seq <| C_region <| W_cons rfl (by decide) (Sv_call rfl rfl rfl ent9 ?_)
   refine (pawake_calls  _ _ hS.out0  (by exact HM.mono (by assumption) (hS.zl [])) (by exact ET.mono (by assumption) (hS.zl []))).mono ?_
   rintro e_ w2 ⟨rfl, hS_⟩
   refine ⟨_, rfl, ?_⟩
   have hS := hS.call0 hS_
   refine wv rfl rfl rfl (R_assign rfl rfl) ?_
   refine W_nil <| E_then (C_fr [(6, .bool true)] rfl ?_)
   refine C_ret <| E_then_ret <| E_ret1 rfl rfl ?_
   exact ⟨Lret1 (Lbool (show true = true by rfl)), hS.fin [] (by decide) rfl⟩
  ·have hC0p : ¬ ((a0.length : Int) ≤ 65536) := by simpa using hC0
   refine C_skip <| E_then <| C_seq <| C_region <| wv rfl rfl rfl (R_move rfl rfl) <| wv rfl rfl rfl (R_move rfl rfl) <| wv rfl rfl rfl (R_move rfl rfl) ?_
   refine W_cons rfl (by decide) (Sv_call rfl rfl rfl ent21 ?_)
   refine (read_calls a0 a1 a2 _ _ hS.out0  (by (intro _; exact recB_parse (by omega))) (by exact ET.mono (by assumption) (hS.zl []))).mono ?_
   rintro e_ w4 ⟨AR0_5_Widths, cR0_5_Widths, AR0_5_Heights, cR0_5_Heights, AR0_5_Cells, cR0_5_Cells, AR0_5_Merges, cR0_5_Merges, rfl, hS_⟩
   refine ⟨_, rfl, ?_⟩
   have hS := hS.call0 hS_
   have hp6 := hS.cap 0 rfl
   have hlhp6 := hp6.le
   have hmhp6 := hp6.mx
   have hp7 := hS.cap 1 rfl
   have hlhp7 := hp7.le
   have hmhp7 := hp7.mx
   have hp8 := hS.cap 2 rfl
   have hlhp8 := hp8.le
   have hmhp8 := hp8.mx
   have hp9 := hS.cap 3 rfl
   have hlhp9 := hp9.le
   have hmhp9 := hp9.mx
   refine wv rfl rfl rfl (R_move rfl rfl) <| wv rfl rfl rfl (R_extract rfl rfl rfl) <| wv rfl rfl rfl (R_extract rfl rfl rfl) <| wv rfl rfl rfl (R_extract rfl rfl rfl) ?_
   refine W_cons rfl (by decide) (S_box hS rfl (R_alloc rfl alloc30) (fun b11 w10 hS => ?_))
   refine W_cons0 rfl (S_store hS 0 rfl rfl rfl rfl rfl size30 (one_cons rfl (one_cons rfl (one_cons rfl (one_cons rfl (one_cons rfl one_nil))))) (Nat.le_of_ble_eq_true rfl) (fun w12 hS => ?_))
   have hS : Sp (FF []) w z w12 [bR b11 30 [.int .i64 (readW zSh a0 a1 a2).Right, .slice AR0_5_Widths (readW zSh a0 a1 a2).Widths.length cR0_5_Widths, .slice AR0_5_Heights (readW zSh a0 a1 a2).Heights.length cR0_5_Heights, .slice AR0_5_Cells (readW zSh a0 a1 a2).Cells.length cR0_5_Cells, .slice AR0_5_Merges (readW zSh a0 a1 a2).Merges.length cR0_5_Merges], oR (kint .i64) 3 zE AR0_5_Widths cR0_5_Widths (readW zSh a0 a1 a2).Widths, oR (kint .i64) 3 zE AR0_5_Heights cR0_5_Heights (readW zSh a0 a1 a2).Heights, oR kdTCell 58 zE AR0_5_Cells cR0_5_Cells (readW zSh a0 a1 a2).Cells, oR kdTRect 76 zE AR0_5_Merges cR0_5_Merges (readW zSh a0 a1 a2).Merges] := hS
   refine wv rfl rfl rfl (R_assign rfl rfl) <| wv rfl rfl rfl (R_assign rfl rfl) ?_
   refine W_nil <| E_then (C_fr [(0, vstr a0), (1, .int .i64 a1), (2, .int .i64 a2), (7, .pointer (some ⟨b11, 0, none⟩)), (8, .int .i64 (toldS (readE a0 a1 a2)).2), (9, .int .i64 (toldS (readE a0 a1 a2)).1)] rfl ?_)
   refine C_seq <| C_seq <| C_region <| wv rfl rfl rfl (R_move rfl rfl) <| wv rfl rfl rfl (R_strlen rfl rfl Tryz.underlying9) <| wv rfl rfl rfl (R_bin rfl rfl rfl rfl rfl) ?_
   refine W_nil <| E_then <| C_ite rfl (fun hC1 => ?_) (fun hC1 => ?_)
   ·have hC1p : (a0.length : Int) > 65536 := by simpa using hC1
    have hrl := read_long (t := a0) (w := a1) (h := a2) (by omega)
    refine C_seq <| C_region <| wv rfl rfl rfl (R_move rfl rfl) <| wv rfl rfl rfl (R_bin rfl rfl rfl rfl rfl) <| wv rfl rfl rfl (R_move rfl rfl) ?_
    have hk13 : (((toldS (readE a0 a1 a2)).1 == 3)) = true := by (rw [hrl.2.2]; simp; done)
    have hk13p : (toldS (readE a0 a1 a2)).1 = 3 := by simpa using hk13
    refine W_cons rfl (by decide) (Sv_gt rfl rfl rfl hk13 (Sv_val rfl (R_move rfl rfl) ?_))
    refine W_cons rfl (by decide) (Sv_gt rfl rfl rfl hk13 (Sv_val rfl (R_bin rfl rfl rfl rfl rfl) ?_))
    refine wv rfl rfl rfl (R_pick_t rfl rfl hk13 rfl) <| wv rfl rfl rfl (R_move rfl rfl) ?_
    have hk14 : (((toldS (readE a0 a1 a2)).2 == 0)) = true := by (rw [hrl.2.1]; simp; done)
    have hk14p : (toldS (readE a0 a1 a2)).2 = 0 := by simpa using hk14
    refine W_cons rfl (by decide) (Sv_gt rfl rfl rfl hk14 (Sv_val rfl (R_loadN (cs := [.int .i64 (readW zSh a0 a1 a2).Right, .slice AR0_5_Widths (readW zSh a0 a1 a2).Widths.length cR0_5_Widths, .slice AR0_5_Heights (readW zSh a0 a1 a2).Heights.length cR0_5_Heights, .slice AR0_5_Cells (readW zSh a0 a1 a2).Cells.length cR0_5_Cells, .slice AR0_5_Merges (readW zSh a0 a1 a2).Merges.length cR0_5_Merges]) rfl rfl agg30 size30 rfl (boxcells (hS.bx 0 rfl) 0 rfl)) ?_))
    refine W_cons rfl (by decide) (Sv_gt rfl rfl rfl hk14 (Sv_val rfl (R_build (w' := w12) (ps := []) (vs := []) (r := .agg #[.int .i64 0, .slice none 0 0, .slice none 0 0, .slice none 0 0, .slice none 0 0]) rfl rfl rfl (by kernel_rfl)) ?_))
    refine W_cons rfl (by decide) (Sv_gt rfl rfl rfl hk14 (Sv_call rfl rfl rfl ent13 ?_))
    refine (rshsame_calls (readW zSh a0 a1 a2) AR0_5_Widths cR0_5_Widths AR0_5_Heights cR0_5_Heights AR0_5_Cells cR0_5_Cells AR0_5_Merges cR0_5_Merges (⟨0, [], [], [], []⟩ : TSheet) none 0 none 0 none 0 none 0 _ _ hS.out0 (hS.ow [] 1 rfl rfl (zle_E _)) (hS.cap 1 rfl) (hS.ow [] 2 rfl rfl (zle_E _)) (hS.cap 2 rfl) (hS.ow [] 3 rfl rfl (zle_E _)) (hS.cap 3 rfl) (hS.ow [] 4 rfl rfl (zle_E _)) (hS.cap 4 rfl) (Rd.nil _ _ _) Cap.nil_ (Rd.nil _ _ _) Cap.nil_ (Rd.nil _ _ _) Cap.nil_ (Rd.nil _ _ _) Cap.nil_ ).mono ?_
    rintro e_ w15 ⟨rfl, hS_⟩
    refine ⟨_, rfl, ?_⟩
    have hS := hS.call0 hS_
    refine wv rfl rfl rfl (R_pick_t rfl rfl hk14 rfl) <| wv rfl rfl rfl (R_move rfl rfl) ?_
    have hk17 : (decide ((readW zSh a0 a1 a2) = (⟨0, [], [], [], []⟩ : TSheet))) = true := by exact decide_eq_true hrl.1
    refine W_cons rfl (by decide) (Sv_gt rfl rfl rfl hk17 (Sv_call rfl rfl rfl ent9 ?_))
    refine (pawake_calls  _ _ hS.out0  (by exact HM.mono (by assumption) (hS.zl [])) (by exact ET.mono (by assumption) (hS.zl []))).mono ?_
    rintro e_ w18 ⟨rfl, hS_⟩
    refine ⟨_, rfl, ?_⟩
    have hS := hS.call0 hS_
    refine wv rfl rfl rfl (R_pick_t rfl rfl hk17 rfl) <| wv rfl rfl rfl (R_assign rfl rfl) ?_
    refine W_nil <| E_then (C_fr [(6, .bool true)] rfl ?_)
    refine C_ret <| E_then_ret <| E_ret1 rfl rfl ?_
    exact ⟨Lret1 (Lbool (show true = true by rfl)), hS.fin [] (by decide) rfl⟩
   ·have hC1p : ¬ ((a0.length : Int) > 65536) := by simpa using hC1
    have hrl := read_law (t := a0) (w := a1) (h := a2) (by omega)
    refine C_skip <| E_then <| C_seq <| C_region <| wv rfl rfl rfl (R_move rfl rfl) <| wv rfl rfl rfl (R_move rfl rfl) <| wv rfl rfl rfl (R_move rfl rfl) ?_
    refine W_cons rfl (by decide) (Sv_call rfl rfl rfl ent22 ?_)
    refine (rread_calls a0 a1 a2 _ _ hS.out0  (by omega)).mono ?_
    rintro e_ w20 ⟨AR0_21_Widths, cR0_21_Widths, AR0_21_Heights, cR0_21_Heights, AR0_21_Cells, cR0_21_Cells, AR0_21_Merges, cR0_21_Merges, rfl, hS_⟩
    refine ⟨_, rfl, ?_⟩
    have hS := hS.call0 hS_
    have hp22 := hS.cap 0 rfl
    have hlhp22 := hp22.le
    have hmhp22 := hp22.mx
    have hp23 := hS.cap 1 rfl
    have hlhp23 := hp23.le
    have hmhp23 := hp23.mx
    have hp24 := hS.cap 2 rfl
    have hlhp24 := hp24.le
    have hmhp24 := hp24.mx
    have hp25 := hS.cap 3 rfl
    have hlhp25 := hp25.le
    have hmhp25 := hp25.mx
    refine wv rfl rfl rfl (R_move rfl rfl) <| wv rfl rfl rfl (R_extract rfl rfl rfl) <| wv rfl rfl rfl (R_extract rfl rfl rfl) <| wv rfl rfl rfl (R_extract rfl rfl rfl) ?_
    refine W_cons rfl (by decide) (S_box hS rfl (R_alloc rfl alloc30) (fun b27 w26 hS => ?_))
    refine W_cons0 rfl (S_store hS 0 rfl rfl rfl rfl rfl size30 (one_cons rfl (one_cons rfl (one_cons rfl (one_cons rfl (one_cons rfl one_nil))))) (Nat.le_of_ble_eq_true rfl) (fun w28 hS => ?_))
    have hS : Sp (FF []) w z w28 [bR b27 30 [.int .i64 (rreadS a0 a1 a2).1.Right, .slice AR0_21_Widths (rreadS a0 a1 a2).1.Widths.length cR0_21_Widths, .slice AR0_21_Heights (rreadS a0 a1 a2).1.Heights.length cR0_21_Heights, .slice AR0_21_Cells (rreadS a0 a1 a2).1.Cells.length cR0_21_Cells, .slice AR0_21_Merges (rreadS a0 a1 a2).1.Merges.length cR0_21_Merges], oR (kint .i64) 3 zE AR0_21_Widths cR0_21_Widths (rreadS a0 a1 a2).1.Widths, oR (kint .i64) 3 zE AR0_21_Heights cR0_21_Heights (rreadS a0 a1 a2).1.Heights, oR kdTCell 58 zE AR0_21_Cells cR0_21_Cells (rreadS a0 a1 a2).1.Cells, oR kdTRect 76 zE AR0_21_Merges cR0_21_Merges (rreadS a0 a1 a2).1.Merges, bR b11 30 [.int .i64 (readW zSh a0 a1 a2).Right, .slice AR0_5_Widths (readW zSh a0 a1 a2).Widths.length cR0_5_Widths, .slice AR0_5_Heights (readW zSh a0 a1 a2).Heights.length cR0_5_Heights, .slice AR0_5_Cells (readW zSh a0 a1 a2).Cells.length cR0_5_Cells, .slice AR0_5_Merges (readW zSh a0 a1 a2).Merges.length cR0_5_Merges], oR (kint .i64) 3 zE AR0_5_Widths cR0_5_Widths (readW zSh a0 a1 a2).Widths, oR (kint .i64) 3 zE AR0_5_Heights cR0_5_Heights (readW zSh a0 a1 a2).Heights, oR kdTCell 58 zE AR0_5_Cells cR0_5_Cells (readW zSh a0 a1 a2).Cells, oR kdTRect 76 zE AR0_5_Merges cR0_5_Merges (readW zSh a0 a1 a2).Merges] := hS
    refine wv rfl rfl rfl (R_assign rfl rfl) <| wv rfl rfl rfl (R_assign rfl rfl) ?_
    refine W_nil <| E_then (C_fr [(7, .pointer (some ⟨b11, 0, none⟩)), (8, .int .i64 (toldS (readE a0 a1 a2)).2), (9, .int .i64 (toldS (readE a0 a1 a2)).1), (10, .pointer (some ⟨b27, 0, none⟩)), (11, .int .i64 (rreadS a0 a1 a2).2.1), (12, .int .i64 (rreadS a0 a1 a2).2.2)] rfl ?_)
    refine C_seq <| C_region <| wv rfl rfl rfl (R_move rfl rfl) <| wv rfl rfl rfl (R_move rfl rfl) <| wv rfl rfl rfl (R_bin rfl rfl rfl rfl rfl) <| wv rfl rfl rfl (R_move rfl rfl) ?_
    have hk29 : (((toldS (readE a0 a1 a2)).1 == (rreadS a0 a1 a2).2.2)) = true := by (rw [hrl.2.2]; simp; done)
    have hk29p : (toldS (readE a0 a1 a2)).1 = (rreadS a0 a1 a2).2.2 := by simpa using hk29
    refine W_cons rfl (by decide) (Sv_gt rfl rfl rfl hk29 (Sv_val rfl (R_move rfl rfl) ?_))
    refine W_cons rfl (by decide) (Sv_gt rfl rfl rfl hk29 (Sv_val rfl (R_move rfl rfl) ?_))
    refine W_cons rfl (by decide) (Sv_gt rfl rfl rfl hk29 (Sv_val rfl (R_bin rfl rfl rfl rfl rfl) ?_))
    refine wv rfl rfl rfl (R_pick_t rfl rfl hk29 rfl) <| wv rfl rfl rfl (R_move rfl rfl) ?_
    have hk30 : (((toldS (readE a0 a1 a2)).2 == (rreadS a0 a1 a2).2.1)) = true := by (rw [hrl.2.1]; simp; done)
    have hk30p : (toldS (readE a0 a1 a2)).2 = (rreadS a0 a1 a2).2.1 := by simpa using hk30
    refine W_cons rfl (by decide) (Sv_gt rfl rfl rfl hk30 (Sv_val rfl (R_loadN (cs := [.int .i64 (readW zSh a0 a1 a2).Right, .slice AR0_5_Widths (readW zSh a0 a1 a2).Widths.length cR0_5_Widths, .slice AR0_5_Heights (readW zSh a0 a1 a2).Heights.length cR0_5_Heights, .slice AR0_5_Cells (readW zSh a0 a1 a2).Cells.length cR0_5_Cells, .slice AR0_5_Merges (readW zSh a0 a1 a2).Merges.length cR0_5_Merges]) rfl rfl agg30 size30 rfl (boxcells (hS.bx 5 rfl) 0 rfl)) ?_))
    refine W_cons rfl (by decide) (Sv_gt rfl rfl rfl hk30 (Sv_val rfl (R_loadN (cs := [.int .i64 (rreadS a0 a1 a2).1.Right, .slice AR0_21_Widths (rreadS a0 a1 a2).1.Widths.length cR0_21_Widths, .slice AR0_21_Heights (rreadS a0 a1 a2).1.Heights.length cR0_21_Heights, .slice AR0_21_Cells (rreadS a0 a1 a2).1.Cells.length cR0_21_Cells, .slice AR0_21_Merges (rreadS a0 a1 a2).1.Merges.length cR0_21_Merges]) rfl rfl agg30 size30 rfl (boxcells (hS.bx 0 rfl) 0 rfl)) ?_))
    refine W_cons rfl (by decide) (Sv_gt rfl rfl rfl hk30 (Sv_call rfl rfl rfl ent13 ?_))
    refine (rshsame_calls (readW zSh a0 a1 a2) AR0_5_Widths cR0_5_Widths AR0_5_Heights cR0_5_Heights AR0_5_Cells cR0_5_Cells AR0_5_Merges cR0_5_Merges (rreadS a0 a1 a2).1 AR0_21_Widths cR0_21_Widths AR0_21_Heights cR0_21_Heights AR0_21_Cells cR0_21_Cells AR0_21_Merges cR0_21_Merges _ _ hS.out0 (hS.ow [] 6 rfl rfl (zle_E _)) (hS.cap 6 rfl) (hS.ow [] 7 rfl rfl (zle_E _)) (hS.cap 7 rfl) (hS.ow [] 8 rfl rfl (zle_E _)) (hS.cap 8 rfl) (hS.ow [] 9 rfl rfl (zle_E _)) (hS.cap 9 rfl) (hS.ow [] 1 rfl rfl (zle_E _)) (hS.cap 1 rfl) (hS.ow [] 2 rfl rfl (zle_E _)) (hS.cap 2 rfl) (hS.ow [] 3 rfl rfl (zle_E _)) (hS.cap 3 rfl) (hS.ow [] 4 rfl rfl (zle_E _)) (hS.cap 4 rfl) ).mono ?_
    rintro e_ w31 ⟨rfl, hS_⟩
    refine ⟨_, rfl, ?_⟩
    have hS := hS.call0 hS_
    refine wv rfl rfl rfl (R_pick_t rfl rfl hk30 rfl) <| wv rfl rfl rfl (R_move rfl rfl) ?_
    have hk33 : (decide ((readW zSh a0 a1 a2) = (rreadS a0 a1 a2).1)) = true := by exact decide_eq_true hrl.1
    refine W_cons rfl (by decide) (Sv_gt rfl rfl rfl hk33 (Sv_call rfl rfl rfl ent9 ?_))
    refine (pawake_calls  _ _ hS.out0  (by exact HM.mono (by assumption) (hS.zl [])) (by exact ET.mono (by assumption) (hS.zl []))).mono ?_
    rintro e_ w34 ⟨rfl, hS_⟩
    refine ⟨_, rfl, ?_⟩
    have hS := hS.call0 hS_
    refine wv rfl rfl rfl (R_pick_t rfl rfl hk33 rfl) <| wv rfl rfl rfl (R_assign rfl rfl) ?_
    refine W_nil <| E_then (C_fr [(6, .bool true)] rfl ?_)
    refine C_ret <| E_ret1 rfl rfl ?_
    exact ⟨Lret1 (Lbool (show true = true by rfl)), hS.fin [] (by decide) rfl⟩
 ·have hg1p : ¬ ((a0.length : Int) > 4000) := by simpa using hg1
  refine W_cons rfl (by decide) (Sv_off rfl rfl rfl (by rw [hg1] <;> rfl) ?_)
  refine W_cons rfl (by decide) (Sv_off rfl rfl rfl (by rw [hg1] <;> rfl) ?_)
  refine W_cons rfl (by decide) (Sv_off rfl rfl rfl (by rw [hg1] <;> rfl) ?_)
  refine wv rfl rfl rfl (R_pick_f rfl rfl hg1 rfl) ?_
  refine W_nil <| E_then (C_fr [(0, vstr a0), (1, .int .i64 a1), (2, .int .i64 a2), (20, .bool false)] rfl ?_)
  refine C_else rfl rfl ?_
  refine C_skip <| E_then <| C_seq <| C_region <| wv rfl rfl rfl (R_move rfl rfl) <| wv rfl rfl rfl (R_move rfl rfl) <| wv rfl rfl rfl (R_move rfl rfl) ?_
  refine W_cons rfl (by decide) (Sv_call rfl rfl rfl ent21 ?_)
  refine (read_calls a0 a1 a2 _ _ hS.out0  (by (intro _; exact recB_parse (.inl (by omega)))) (by exact ET.mono (by assumption) (hS.zl []))).mono ?_
  rintro e_ w36 ⟨AR0_37_Widths, cR0_37_Widths, AR0_37_Heights, cR0_37_Heights, AR0_37_Cells, cR0_37_Cells, AR0_37_Merges, cR0_37_Merges, rfl, hS_⟩
  refine ⟨_, rfl, ?_⟩
  have hS := hS.call0 hS_
  have hp38 := hS.cap 0 rfl
  have hlhp38 := hp38.le
  have hmhp38 := hp38.mx
  have hp39 := hS.cap 1 rfl
  have hlhp39 := hp39.le
  have hmhp39 := hp39.mx
  have hp40 := hS.cap 2 rfl
  have hlhp40 := hp40.le
  have hmhp40 := hp40.mx
  have hp41 := hS.cap 3 rfl
  have hlhp41 := hp41.le
  have hmhp41 := hp41.mx
  refine wv rfl rfl rfl (R_move rfl rfl) <| wv rfl rfl rfl (R_extract rfl rfl rfl) <| wv rfl rfl rfl (R_extract rfl rfl rfl) <| wv rfl rfl rfl (R_extract rfl rfl rfl) ?_
  refine W_cons rfl (by decide) (S_box hS rfl (R_alloc rfl alloc30) (fun b43 w42 hS => ?_))
  refine W_cons0 rfl (S_store hS 0 rfl rfl rfl rfl rfl size30 (one_cons rfl (one_cons rfl (one_cons rfl (one_cons rfl (one_cons rfl one_nil))))) (Nat.le_of_ble_eq_true rfl) (fun w44 hS => ?_))
  have hS : Sp (FF []) w z w44 [bR b43 30 [.int .i64 (readW zSh a0 a1 a2).Right, .slice AR0_37_Widths (readW zSh a0 a1 a2).Widths.length cR0_37_Widths, .slice AR0_37_Heights (readW zSh a0 a1 a2).Heights.length cR0_37_Heights, .slice AR0_37_Cells (readW zSh a0 a1 a2).Cells.length cR0_37_Cells, .slice AR0_37_Merges (readW zSh a0 a1 a2).Merges.length cR0_37_Merges], oR (kint .i64) 3 zE AR0_37_Widths cR0_37_Widths (readW zSh a0 a1 a2).Widths, oR (kint .i64) 3 zE AR0_37_Heights cR0_37_Heights (readW zSh a0 a1 a2).Heights, oR kdTCell 58 zE AR0_37_Cells cR0_37_Cells (readW zSh a0 a1 a2).Cells, oR kdTRect 76 zE AR0_37_Merges cR0_37_Merges (readW zSh a0 a1 a2).Merges] := hS
  refine wv rfl rfl rfl (R_assign rfl rfl) <| wv rfl rfl rfl (R_assign rfl rfl) ?_
  refine W_nil <| E_then (C_fr [(0, vstr a0), (1, .int .i64 a1), (2, .int .i64 a2), (7, .pointer (some ⟨b43, 0, none⟩)), (8, .int .i64 (toldS (readE a0 a1 a2)).2), (9, .int .i64 (toldS (readE a0 a1 a2)).1)] rfl ?_)
  refine C_seq <| C_seq <| C_region <| wv rfl rfl rfl (R_move rfl rfl) <| wv rfl rfl rfl (R_strlen rfl rfl Tryz.underlying9) <| wv rfl rfl rfl (R_bin rfl rfl rfl rfl rfl) ?_
  refine W_nil <| E_then <| C_ite rfl (fun hC1 => ?_) (fun hC1 => ?_)
  ·have hC1p : (a0.length : Int) > 65536 := by simpa using hC1
   have hrl := read_long (t := a0) (w := a1) (h := a2) (by omega)
   refine C_seq <| C_region <| wv rfl rfl rfl (R_move rfl rfl) <| wv rfl rfl rfl (R_bin rfl rfl rfl rfl rfl) <| wv rfl rfl rfl (R_move rfl rfl) ?_
   have hk45 : (((toldS (readE a0 a1 a2)).1 == 3)) = true := by (rw [hrl.2.2]; simp; done)
   have hk45p : (toldS (readE a0 a1 a2)).1 = 3 := by simpa using hk45
   refine W_cons rfl (by decide) (Sv_gt rfl rfl rfl hk45 (Sv_val rfl (R_move rfl rfl) ?_))
   refine W_cons rfl (by decide) (Sv_gt rfl rfl rfl hk45 (Sv_val rfl (R_bin rfl rfl rfl rfl rfl) ?_))
   refine wv rfl rfl rfl (R_pick_t rfl rfl hk45 rfl) <| wv rfl rfl rfl (R_move rfl rfl) ?_
   have hk46 : (((toldS (readE a0 a1 a2)).2 == 0)) = true := by (rw [hrl.2.1]; simp; done)
   have hk46p : (toldS (readE a0 a1 a2)).2 = 0 := by simpa using hk46
   refine W_cons rfl (by decide) (Sv_gt rfl rfl rfl hk46 (Sv_val rfl (R_loadN (cs := [.int .i64 (readW zSh a0 a1 a2).Right, .slice AR0_37_Widths (readW zSh a0 a1 a2).Widths.length cR0_37_Widths, .slice AR0_37_Heights (readW zSh a0 a1 a2).Heights.length cR0_37_Heights, .slice AR0_37_Cells (readW zSh a0 a1 a2).Cells.length cR0_37_Cells, .slice AR0_37_Merges (readW zSh a0 a1 a2).Merges.length cR0_37_Merges]) rfl rfl agg30 size30 rfl (boxcells (hS.bx 0 rfl) 0 rfl)) ?_))
   refine W_cons rfl (by decide) (Sv_gt rfl rfl rfl hk46 (Sv_val rfl (R_build (w' := w44) (ps := []) (vs := []) (r := .agg #[.int .i64 0, .slice none 0 0, .slice none 0 0, .slice none 0 0, .slice none 0 0]) rfl rfl rfl (by kernel_rfl)) ?_))
   refine W_cons rfl (by decide) (Sv_gt rfl rfl rfl hk46 (Sv_call rfl rfl rfl ent13 ?_))
   refine (rshsame_calls (readW zSh a0 a1 a2) AR0_37_Widths cR0_37_Widths AR0_37_Heights cR0_37_Heights AR0_37_Cells cR0_37_Cells AR0_37_Merges cR0_37_Merges (⟨0, [], [], [], []⟩ : TSheet) none 0 none 0 none 0 none 0 _ _ hS.out0 (hS.ow [] 1 rfl rfl (zle_E _)) (hS.cap 1 rfl) (hS.ow [] 2 rfl rfl (zle_E _)) (hS.cap 2 rfl) (hS.ow [] 3 rfl rfl (zle_E _)) (hS.cap 3 rfl) (hS.ow [] 4 rfl rfl (zle_E _)) (hS.cap 4 rfl) (Rd.nil _ _ _) Cap.nil_ (Rd.nil _ _ _) Cap.nil_ (Rd.nil _ _ _) Cap.nil_ (Rd.nil _ _ _) Cap.nil_ ).mono ?_
   rintro e_ w47 ⟨rfl, hS_⟩
   refine ⟨_, rfl, ?_⟩
   have hS := hS.call0 hS_
   refine wv rfl rfl rfl (R_pick_t rfl rfl hk46 rfl) <| wv rfl rfl rfl (R_move rfl rfl) ?_
   have hk49 : (decide ((readW zSh a0 a1 a2) = (⟨0, [], [], [], []⟩ : TSheet))) = true := by exact decide_eq_true hrl.1
   refine W_cons rfl (by decide) (Sv_gt rfl rfl rfl hk49 (Sv_call rfl rfl rfl ent9 ?_))
   refine (pawake_calls  _ _ hS.out0  (by exact HM.mono (by assumption) (hS.zl [])) (by exact ET.mono (by assumption) (hS.zl []))).mono ?_
   rintro e_ w50 ⟨rfl, hS_⟩
   refine ⟨_, rfl, ?_⟩
   have hS := hS.call0 hS_
   refine wv rfl rfl rfl (R_pick_t rfl rfl hk49 rfl) <| wv rfl rfl rfl (R_assign rfl rfl) ?_
   refine W_nil <| E_then (C_fr [(6, .bool true)] rfl ?_)
   refine C_ret <| E_then_ret <| E_ret1 rfl rfl ?_
   exact ⟨Lret1 (Lbool (show true = true by rfl)), hS.fin [] (by decide) rfl⟩
  ·have hC1p : ¬ ((a0.length : Int) > 65536) := by simpa using hC1
   have hrl := read_law (t := a0) (w := a1) (h := a2) (by omega)
   refine C_skip <| E_then <| C_seq <| C_region <| wv rfl rfl rfl (R_move rfl rfl) <| wv rfl rfl rfl (R_move rfl rfl) <| wv rfl rfl rfl (R_move rfl rfl) ?_
   refine W_cons rfl (by decide) (Sv_call rfl rfl rfl ent22 ?_)
   refine (rread_calls a0 a1 a2 _ _ hS.out0  (by omega)).mono ?_
   rintro e_ w52 ⟨AR0_53_Widths, cR0_53_Widths, AR0_53_Heights, cR0_53_Heights, AR0_53_Cells, cR0_53_Cells, AR0_53_Merges, cR0_53_Merges, rfl, hS_⟩
   refine ⟨_, rfl, ?_⟩
   have hS := hS.call0 hS_
   have hp54 := hS.cap 0 rfl
   have hlhp54 := hp54.le
   have hmhp54 := hp54.mx
   have hp55 := hS.cap 1 rfl
   have hlhp55 := hp55.le
   have hmhp55 := hp55.mx
   have hp56 := hS.cap 2 rfl
   have hlhp56 := hp56.le
   have hmhp56 := hp56.mx
   have hp57 := hS.cap 3 rfl
   have hlhp57 := hp57.le
   have hmhp57 := hp57.mx
   refine wv rfl rfl rfl (R_move rfl rfl) <| wv rfl rfl rfl (R_extract rfl rfl rfl) <| wv rfl rfl rfl (R_extract rfl rfl rfl) <| wv rfl rfl rfl (R_extract rfl rfl rfl) ?_
   refine W_cons rfl (by decide) (S_box hS rfl (R_alloc rfl alloc30) (fun b59 w58 hS => ?_))
   refine W_cons0 rfl (S_store hS 0 rfl rfl rfl rfl rfl size30 (one_cons rfl (one_cons rfl (one_cons rfl (one_cons rfl (one_cons rfl one_nil))))) (Nat.le_of_ble_eq_true rfl) (fun w60 hS => ?_))
   have hS : Sp (FF []) w z w60 [bR b59 30 [.int .i64 (rreadS a0 a1 a2).1.Right, .slice AR0_53_Widths (rreadS a0 a1 a2).1.Widths.length cR0_53_Widths, .slice AR0_53_Heights (rreadS a0 a1 a2).1.Heights.length cR0_53_Heights, .slice AR0_53_Cells (rreadS a0 a1 a2).1.Cells.length cR0_53_Cells, .slice AR0_53_Merges (rreadS a0 a1 a2).1.Merges.length cR0_53_Merges], oR (kint .i64) 3 zE AR0_53_Widths cR0_53_Widths (rreadS a0 a1 a2).1.Widths, oR (kint .i64) 3 zE AR0_53_Heights cR0_53_Heights (rreadS a0 a1 a2).1.Heights, oR kdTCell 58 zE AR0_53_Cells cR0_53_Cells (rreadS a0 a1 a2).1.Cells, oR kdTRect 76 zE AR0_53_Merges cR0_53_Merges (rreadS a0 a1 a2).1.Merges, bR b43 30 [.int .i64 (readW zSh a0 a1 a2).Right, .slice AR0_37_Widths (readW zSh a0 a1 a2).Widths.length cR0_37_Widths, .slice AR0_37_Heights (readW zSh a0 a1 a2).Heights.length cR0_37_Heights, .slice AR0_37_Cells (readW zSh a0 a1 a2).Cells.length cR0_37_Cells, .slice AR0_37_Merges (readW zSh a0 a1 a2).Merges.length cR0_37_Merges], oR (kint .i64) 3 zE AR0_37_Widths cR0_37_Widths (readW zSh a0 a1 a2).Widths, oR (kint .i64) 3 zE AR0_37_Heights cR0_37_Heights (readW zSh a0 a1 a2).Heights, oR kdTCell 58 zE AR0_37_Cells cR0_37_Cells (readW zSh a0 a1 a2).Cells, oR kdTRect 76 zE AR0_37_Merges cR0_37_Merges (readW zSh a0 a1 a2).Merges] := hS
   refine wv rfl rfl rfl (R_assign rfl rfl) <| wv rfl rfl rfl (R_assign rfl rfl) ?_
   refine W_nil <| E_then (C_fr [(7, .pointer (some ⟨b43, 0, none⟩)), (8, .int .i64 (toldS (readE a0 a1 a2)).2), (9, .int .i64 (toldS (readE a0 a1 a2)).1), (10, .pointer (some ⟨b59, 0, none⟩)), (11, .int .i64 (rreadS a0 a1 a2).2.1), (12, .int .i64 (rreadS a0 a1 a2).2.2)] rfl ?_)
   refine C_seq <| C_region <| wv rfl rfl rfl (R_move rfl rfl) <| wv rfl rfl rfl (R_move rfl rfl) <| wv rfl rfl rfl (R_bin rfl rfl rfl rfl rfl) <| wv rfl rfl rfl (R_move rfl rfl) ?_
   have hk61 : (((toldS (readE a0 a1 a2)).1 == (rreadS a0 a1 a2).2.2)) = true := by (rw [hrl.2.2]; simp; done)
   have hk61p : (toldS (readE a0 a1 a2)).1 = (rreadS a0 a1 a2).2.2 := by simpa using hk61
   refine W_cons rfl (by decide) (Sv_gt rfl rfl rfl hk61 (Sv_val rfl (R_move rfl rfl) ?_))
   refine W_cons rfl (by decide) (Sv_gt rfl rfl rfl hk61 (Sv_val rfl (R_move rfl rfl) ?_))
   refine W_cons rfl (by decide) (Sv_gt rfl rfl rfl hk61 (Sv_val rfl (R_bin rfl rfl rfl rfl rfl) ?_))
   refine wv rfl rfl rfl (R_pick_t rfl rfl hk61 rfl) <| wv rfl rfl rfl (R_move rfl rfl) ?_
   have hk62 : (((toldS (readE a0 a1 a2)).2 == (rreadS a0 a1 a2).2.1)) = true := by (rw [hrl.2.1]; simp; done)
   have hk62p : (toldS (readE a0 a1 a2)).2 = (rreadS a0 a1 a2).2.1 := by simpa using hk62
   refine W_cons rfl (by decide) (Sv_gt rfl rfl rfl hk62 (Sv_val rfl (R_loadN (cs := [.int .i64 (readW zSh a0 a1 a2).Right, .slice AR0_37_Widths (readW zSh a0 a1 a2).Widths.length cR0_37_Widths, .slice AR0_37_Heights (readW zSh a0 a1 a2).Heights.length cR0_37_Heights, .slice AR0_37_Cells (readW zSh a0 a1 a2).Cells.length cR0_37_Cells, .slice AR0_37_Merges (readW zSh a0 a1 a2).Merges.length cR0_37_Merges]) rfl rfl agg30 size30 rfl (boxcells (hS.bx 5 rfl) 0 rfl)) ?_))
   refine W_cons rfl (by decide) (Sv_gt rfl rfl rfl hk62 (Sv_val rfl (R_loadN (cs := [.int .i64 (rreadS a0 a1 a2).1.Right, .slice AR0_53_Widths (rreadS a0 a1 a2).1.Widths.length cR0_53_Widths, .slice AR0_53_Heights (rreadS a0 a1 a2).1.Heights.length cR0_53_Heights, .slice AR0_53_Cells (rreadS a0 a1 a2).1.Cells.length cR0_53_Cells, .slice AR0_53_Merges (rreadS a0 a1 a2).1.Merges.length cR0_53_Merges]) rfl rfl agg30 size30 rfl (boxcells (hS.bx 0 rfl) 0 rfl)) ?_))
   refine W_cons rfl (by decide) (Sv_gt rfl rfl rfl hk62 (Sv_call rfl rfl rfl ent13 ?_))
   refine (rshsame_calls (readW zSh a0 a1 a2) AR0_37_Widths cR0_37_Widths AR0_37_Heights cR0_37_Heights AR0_37_Cells cR0_37_Cells AR0_37_Merges cR0_37_Merges (rreadS a0 a1 a2).1 AR0_53_Widths cR0_53_Widths AR0_53_Heights cR0_53_Heights AR0_53_Cells cR0_53_Cells AR0_53_Merges cR0_53_Merges _ _ hS.out0 (hS.ow [] 6 rfl rfl (zle_E _)) (hS.cap 6 rfl) (hS.ow [] 7 rfl rfl (zle_E _)) (hS.cap 7 rfl) (hS.ow [] 8 rfl rfl (zle_E _)) (hS.cap 8 rfl) (hS.ow [] 9 rfl rfl (zle_E _)) (hS.cap 9 rfl) (hS.ow [] 1 rfl rfl (zle_E _)) (hS.cap 1 rfl) (hS.ow [] 2 rfl rfl (zle_E _)) (hS.cap 2 rfl) (hS.ow [] 3 rfl rfl (zle_E _)) (hS.cap 3 rfl) (hS.ow [] 4 rfl rfl (zle_E _)) (hS.cap 4 rfl) ).mono ?_
   rintro e_ w63 ⟨rfl, hS_⟩
   refine ⟨_, rfl, ?_⟩
   have hS := hS.call0 hS_
   refine wv rfl rfl rfl (R_pick_t rfl rfl hk62 rfl) <| wv rfl rfl rfl (R_move rfl rfl) ?_
   have hk65 : (decide ((readW zSh a0 a1 a2) = (rreadS a0 a1 a2).1)) = true := by exact decide_eq_true hrl.1
   refine W_cons rfl (by decide) (Sv_gt rfl rfl rfl hk65 (Sv_call rfl rfl rfl ent9 ?_))
   refine (pawake_calls  _ _ hS.out0  (by exact HM.mono (by assumption) (hS.zl [])) (by exact ET.mono (by assumption) (hS.zl []))).mono ?_
   rintro e_ w66 ⟨rfl, hS_⟩
   refine ⟨_, rfl, ?_⟩
   have hS := hS.call0 hS_
   refine wv rfl rfl rfl (R_pick_t rfl rfl hk65 rfl) <| wv rfl rfl rfl (R_assign rfl rfl) ?_
   refine W_nil <| E_then (C_fr [(6, .bool true)] rfl ?_)
   refine C_ret <| E_ret1 rfl rfl ?_
   exact ⟨Lret1 (Lbool (show true = true by rfl)), hS.fin [] (by decide) rfl⟩
end Go.Proofs.YtaljccgfnmfhnaaGreatDoorG
set_option linter.all false
namespace Go.Proofs.YtaljccgfnmfhnaaGreatDoorG
open Go Go.RowKit
theorem cz_cell {w : World} {a : Addr} {v : Value} (h : w.cell? a = some v) : cz (cellsAt w) a = some v := by
  unfold World.cell? at h
  unfold cz cellsAt
  split at h
  · rename_i c e fr hh
    rw [hh]
    split at h
    · cases h
    · rename_i hs
      rw [if_neg hs]
      exact h
  · cases h
def Has (P : Program) (t : TypeId) {α : Type} (d : Kd α) (G : α → Prop) : Prop :=
  ∀ {H : Type} (enc : TypeId × Value → H) (W : World) (spare : Nat → Bool) (held : Bool) (fuel : Nat) (cs : List Value) (x : DataW H × List MemPlace),
    DataW.trod enc P W 0 spare held fuel t cs = some x → ∃ a, d.K (cellsAt W) a cs ∧ G a
def wfi (k : IntKind) (n : Int) : Prop := (Lit.int k n).wf = true
theorem wf64 {n : Int} (h : wfi .i64 n) : -9223372036854775808 ≤ n ∧ n ≤ 9223372036854775807 := by
  unfold wfi Lit.wf at h
  have h4 : IntKind.i64.min = -9223372036854775808 := by decide
  have h5 : IntKind.i64.max = 9223372036854775807 := by decide
  simp [h4, h5] at h
  exact h
theorem Has.int {P : Program} {t : TypeId} {k : IntKind} (ht : P.underlying t = some (.int k)) : Has P t (kint k) (wfi k) := fun enc W spare held fuel cs x h => by
  obtain ⟨n, h1, _, h2⟩ := DataW.trod_int ht h
  exact ⟨n, h1, h2⟩
theorem Has.bool {P : Program} {t : TypeId} (ht : P.underlying t = some .bool) : Has P t kbool (fun _ => True) := fun enc W spare held fuel cs x h => by
  obtain ⟨n, h1, _⟩ := DataW.trod_bool ht h
  exact ⟨n, h1, trivial⟩
theorem Has.str {P : Program} {t : TypeId} (ht : P.underlying t = some .string) : Has P t kstr (fun s => s.length ≤ maxLen) := fun enc W spare held fuel cs x h => by
  obtain ⟨⟨⟨l⟩⟩, h1, _, h2⟩ := DataW.trod_string ht h
  exact ⟨l, h1, h2⟩
theorem pick_list {α : Type} {Q : Nat → α → Prop} : ∀ n, (∀ i, i < n → ∃ a, Q i a) → ∃ xs : List α, xs.length = n ∧ ∀ i x, xs[i]? = some x → Q i x
  | 0, _ => ⟨[], rfl, fun i x h => by simp at h⟩
  | n + 1, h => by
    obtain ⟨xs, h1, h2⟩ := pick_list n (fun i hi => h i (by omega))
    obtain ⟨a, ha⟩ := h n (by omega)
    refine ⟨xs ++ [a], by simp [h1], fun i x hx => ?_⟩
    rcases Nat.lt_or_ge i n with hi | hi
    · rw [List.getElem?_append_left (by omega)] at hx
      exact h2 i x hx
    · rw [List.getElem?_append_right (by omega), h1] at hx
      have h3 : i - n = 0 := by
        have := (List.getElem?_eq_some_iff.1 hx).1
        simp at this
        omega
      rw [h3] at hx
      simp at hx
      subst hx
      have : i = n := by omega
      subst this
      exact ha
theorem Has.slice {P : Program} {t e : TypeId} {α : Type} {d : Kd α} {G : α → Prop} (ht : P.underlying t = some (.slice e)) (hc : P.cellsOf e = d.sz) (he : Has P e d G) : Has P t (kslice d) (fun xs => ∀ x ∈ xs, G x) := fun enc W spare held fuel cs x h => by
  rcases DataW.trod_slice ht h with ⟨rfl, _⟩ | ⟨a, len, cap, elems, rest, n, rfl, rfl, _, _, h2, h3, h4, h5, _⟩
  · exact ⟨[], ⟨none, 0, rfl, ⟨Nat.le_refl _, fun _ => rfl, by decide⟩, Rd.nil _ _ _⟩, by simp⟩
  · obtain ⟨xs, hl, hx⟩ := pick_list (Q := fun i x => G x ∧ ∃ cs, d.K (cellsAt W) x cs ∧ ∀ j u, cs[j]? = some u → cz (cellsAt W) (a.add (i * d.sz + j)) = some u) len (fun i hi => by
      have h6 := h5 i hi
      rw [List.getElem?_eq_getElem (by omega)] at h6
      obtain ⟨cs, h7, h8⟩ := Option.bind_eq_some_iff.1 h6
      obtain ⟨x, h9, h10⟩ := he enc W spare held n cs _ h8
      obtain ⟨_, h11, h12⟩ := World.cells?_some h7
      refine ⟨x, h10, cs, h9, fun j u hu => ?_⟩
      have hj : j < P.cellsOf e := by have := (List.getElem?_eq_some_iff.1 hu).1; omega
      have h13 := h12 j hj
      rw [hu, add_add, hc] at h13
      exact cz_cell h13)
    refine ⟨xs, ⟨some a, cap, by rw [hl], ⟨by omega, (fun h => by cases h), by simp only [maxLen] at h3; omega⟩, fun i x hi => ?_⟩, fun x hm => ?_⟩
    · obtain ⟨_, cs, h6, h7⟩ := hx i x hi
      exact ⟨a, cs, rfl, h6, h7⟩
    · obtain ⟨i, hi⟩ := List.getElem?_of_mem hm
      exact (hx i x hi).1
end Go.Proofs.YtaljccgfnmfhnaaGreatDoorG
set_option linter.all false
namespace Go.Proofs.YtaljccgfnmfhnaaGreatDoorG
open Go Go.RowKit
def Within (P : Program) (t : TypeId) {H : Type} (x : DataW H) : Prop := ∀ n ∈ x.weights P t, n ≤ reachBytes
def HasZ (P : Program) (t : TypeId) {α : Type} (d : Kd α) (G : α → Prop) : Prop :=
  ∀ {H : Type} (enc : TypeId × Value → H) (W : World) (spare : Nat → Bool) (held : Bool) (fuel : Nat) (cs : List Value) (x : DataW H × List MemPlace),
    DataW.trod enc P W 0 spare held fuel t cs = some x → Within P t x.1 → ∃ a, d.K (cellsAt W) a cs ∧ G a
theorem Has.z {P : Program} {t : TypeId} {α : Type} {d : Kd α} {G : α → Prop} (h : Has P t d G) : HasZ P t d G := fun enc W spare held fuel cs x hx _ => h enc W spare held fuel cs x hx
theorem HasZ.int {P : Program} {t : TypeId} {k : IntKind} (ht : P.underlying t = some (.int k)) : HasZ P t (kint k) (wfi k) := fun enc W spare held fuel cs x hx _ => Has.int ht enc W spare held fuel cs x hx
theorem HasZ.bool {P : Program} {t : TypeId} (ht : P.underlying t = some .bool) : HasZ P t kbool (fun _ => True) := fun enc W spare held fuel cs x hx _ => Has.bool ht enc W spare held fuel cs x hx
theorem HasZ.str {P : Program} {t : TypeId} (ht : P.underlying t = some .string) : HasZ P t kstr (fun s => s.length ≤ 140737488351232) := fun enc W spare held fuel cs x h hw => by
  obtain ⟨⟨⟨l⟩⟩, h1, rfl, h2⟩ := DataW.trod_string ht h
  refine ⟨l, h1, ?_⟩
  have := hw l.length (by simp [DataW.weights])
  exact this
theorem weightsAll_in {H : Type} {P : Program} {e : TypeId} : ∀ {l : List (DataW H)} {d : DataW H}, d ∈ l → ∀ n ∈ d.weights P e, n ∈ DataW.weightsAll P e l
  | d' :: r, d, hd, n, hn => by
    simp only [DataW.weightsAll, List.mem_append]
    rcases List.mem_cons.1 hd with rfl | h
    · exact Or.inl hn
    · exact Or.inr (weightsAll_in h n hn)
theorem HasZ.slice {P : Program} {t e : TypeId} {α : Type} {d : Kd α} {G : α → Prop} {B : Nat} (ht : P.underlying t = some (.slice e)) (hc : P.cellsOf e = d.sz) (hb : P.bytesOf e = B) (he : HasZ P e d G) : HasZ P t (kslice d) (fun xs => xs.length * B ≤ 140737488351232 ∧ ∀ x ∈ xs, G x) := fun enc W spare held fuel cs x h hw => by
  rcases DataW.trod_slice ht h with ⟨rfl, _⟩ | ⟨a, len, cap, elems, rest, n, rfl, rfl, rfl, _, h2, h3, h4, h5, _⟩
  · exact ⟨[], ⟨none, 0, rfl, ⟨Nat.le_refl _, fun _ => rfl, by decide⟩, Rd.nil _ _ _⟩, by simp, by simp⟩
  · have hw1 : (elems.length + rest.length) * P.bytesOf e ≤ reachBytes := hw _ (by simp [DataW.weights, ht])
    have hw2 : ∀ y ∈ elems, Within P e y.1 := fun y hy m hm => hw m (by
      simp only [DataW.weights, ht, List.mem_cons, List.mem_append]
      exact Or.inr (Or.inl (weightsAll_in (List.mem_map_of_mem hy) m hm)))
    obtain ⟨xs, hl, hx⟩ := pick_list (Q := fun i x => G x ∧ ∃ cs, d.K (cellsAt W) x cs ∧ ∀ j u, cs[j]? = some u → cz (cellsAt W) (a.add (i * d.sz + j)) = some u) len (fun i hi => by
      have h6 := h5 i hi
      rw [List.getElem?_eq_getElem (by omega)] at h6
      obtain ⟨cs, h7, h8⟩ := Option.bind_eq_some_iff.1 h6
      obtain ⟨x, h9, h10⟩ := he enc W spare held n cs _ h8 (hw2 _ (List.getElem_mem _))
      obtain ⟨_, h11, h12⟩ := World.cells?_some h7
      refine ⟨x, h10, cs, h9, fun j u hu => ?_⟩
      have hj : j < P.cellsOf e := by have := (List.getElem?_eq_some_iff.1 hu).1; omega
      have h13 := h12 j hj
      rw [hu, add_add, hc] at h13
      exact cz_cell h13)
    refine ⟨xs, ⟨some a, cap, by rw [hl], ⟨by omega, (fun h => by cases h), by simp only [maxLen] at h3; omega⟩, fun i x hi => ?_⟩, ?_, fun x hm => ?_⟩
    · obtain ⟨_, cs, h6, h7⟩ := hx i x hi
      exact ⟨a, cs, rfl, h6, h7⟩
    · subst hb
      rw [hl, ← h4]
      exact Nat.le_trans (Nat.mul_le_mul_right _ (Nat.le_add_right _ _)) hw1
    · obtain ⟨i, hi⟩ := List.getElem?_of_mem hm
      exact (hx i x hi).1
theorem within_arg {H : Type} {P : Program} {ts : List TypeId} {ds : List (DataW H)} (h : (DataW.weightsEach P ts ds).all (· ≤ reachBytes) = true) {j : Nat} {t : TypeId} {d : DataW H} (ht : ts[j]? = some t) (hd : ds[j]? = some d) : Within P t d := fun n hn =>
  of_decide_eq_true (List.all_eq_true.1 h n (DataW.weights_mem_each ht hd n hn))
end Go.Proofs.YtaljccgfnmfhnaaGreatDoorG
set_option linter.all false
namespace Go.Proofs.YtaljccgfnmfhnaaGreatDoorG
open Go Go.RowKit Go.Proofs
variable {H : Type} {enc : TypeId × Value → H}
theorem handed_and_shaped {a : Assume} {C : Checked} {os : Os} {f : FuncId} {fn : Func} {s : ChangeSpec} {conds : List PathCond} {apart fresh handsOn again : Bool} {X : World → Array Value → Prop}
    (hX : ∀ (w w' : World) (args : Array Value), w.heap = w'.heap → X w args → X w' args)
    (own : ownKnob C.prog.godebug = none) (started : os.Started) (noInit : C.prog.inits.idxOf? f = none) (hfn : C.prog.funcs[f]? = some fn)
    (witness : ∃ (w : World) (tape : Tape) (i : Input), w.os = os ∧ (w.forCall tape i).Shaped C.prog ∧ i.vars = [] ∧ Input.okWide C.prog (w.forCall tape i) .any w.heap.size f i ∧
      ((s.pre enc C.prog fn conds apart (w.forCall tape i).memory i.args ∧ X (w.forCall tape i).memory i.args) ∧ sizedMet enc C.prog fn (OpenSpec.ofChange s) apart (w.forCall tape i).memory i.args) ∧ a.holds C.prog (lone (Frame.enter C.prog f i.args .normal) [] (w.forCall tape i)))
    (contract : ∀ (W : World) (base : Nat) (args : Array Value) (ds gs : List (DataW H)) (before : List MemPlace),
      (∀ (j : Nat) t v, fn.params[j]? = some t → args[j]? = some v → Value.okWide C.prog W .any base t v) →
      DataW.Whole enc C.prog fn.params.toList s.vars apart W args.toList ds gs before →
      conds.all (PathCond.test C.prog ⟨fn.params.toList, ds, s.plain.varTypes C.prog, gs⟩) = true →
      (DataW.weightsEach C.prog (fn.params.toList ++ s.plain.varTypes C.prog) (ds ++ gs)).all (· ≤ reachBytes) = true → X W args →
      W.ShapedOpen C.prog →
      a.holds C.prog (lone (Frame.enter C.prog f args .normal) [] W) →
      Calls C.prog f args W fun e W' => ∃ v, e = .returned v ∧ s.post enc C.prog fn apart fresh handsOn again W args v W') :
    ReturnsInHanded a C os f .any (fun w args => (s.pre enc C.prog fn conds apart w args ∧ X w args) ∧ sizedMet enc C.prog fn (OpenSpec.ofChange s) apart w args) (s.post enc C.prog fn apart fresh handsOn again) := by
  refine returnsInHanded_of_calls own started noInit witness ?_
  intro w tape i _ hsh _ hok hpre hholds
  obtain ⟨_, _, _, fn', hfn', _, _, _, _, hval⟩ := hok
  have e : fn' = fn := Option.some.inj (hfn'.symm.trans hfn)
  subst e
  obtain ⟨⟨⟨ds, gs, before, hw, hc⟩, hx⟩, hz⟩ := hpre
  have hw' := DataW.Whole.of_heap (w' := w.forCall tape i) (by rfl) hw
  refine (contract (w.forCall tape i) w.heap.size i.args ds gs before hval hw' hc (hz.weights hw) (hX _ _ _ (by rfl) hx) hsh hholds).mono fun e W' ⟨v, he, hp⟩ => ?_
  subst he
  exact ChangeSpec.post_blind hp
theorem hm_of {W : World} (h : W.ShapedOpen Tryz.prog) : HM (cellsAt W) := by
  obtain ⟨cs, h1, h2, h3⟩ := h.1 (rho.g 1) #[.int .i64 0] 3 (of_decide_eq_true (by kernel_rfl)) (by kernel_rfl)
  obtain ⟨m, hm⟩ := cell_of_shapedOpen_int (P := Tryz.prog) (g := rho.g 1) (t := 3) (zero := #[.int .i64 0]) h (of_decide_eq_true (by kernel_rfl)) (by kernel_rfl) rfl (by kernel_rfl) (by kernel_rfl) Tryz.underlying3
  refine ⟨m, ?_⟩
  have hs : cs.size = 1 := h2
  simp only [World.cell?, h1] at hm
  simp only [cellsAt, h1]
  have h0 : cs[0]? = some (.int .i64 m) := by simpa using hm
  congr 1
  apply Array.ext
  · simpa using hs
  · intro i hi hj
    have : i = 0 := by omega
    subst this
    simp [Array.getElem?_eq_getElem hi] at h0
    simpa using h0
end Go.Proofs.YtaljccgfnmfhnaaGreatDoorG
set_option linter.all false
namespace Go.Proofs.YtaljccgfnmfhnaaGreatDoorG
open Go Go.RowKit Go.Proofs
theorem rt_at : (Tryz.prog.cutTypes.find? (·.1 == "internal/reflectlite.rtype")).map (·.2) = some 162 := by kernel_rfl
theorem err_rows : ((List.range Tryz.prog.types.size).filter fun t => Tryz.prog.rowNamed t [101, 114, 114, 111, 114]) = [64] := by kernel_rfl
theorem err_at : Tryz.prog.globalNamed "errors.errorType" = some 0 := by kernel_rfl
theorem err_handle : typeHandle Tryz.prog 64 = .pointer (some ⟨4, 64, none⟩) := by kernel_rfl
theorem et_of {W : World} {l : List (String × DataW Unit)} (h : laidMetH Tryz.prog l W)
    (hl : (l.filter fun x => x.2.handleName?.isSome) = [("errors.errorType", .iface "internal/reflectlite.rtype" (.agg [.ptr (.lit (.string [101, 114, 114, 111, 114]))]))]) : ET (cellsAt W) := by
  unfold laidMetH at h
  rw [hl] at h
  obtain ⟨_, h2⟩ := h
  have h3 := h2 _ (List.mem_singleton.2 rfl)
  obtain ⟨name, u, ty, e1, e2, e3, e4, e5⟩ := h3
  have en : name = [101, 114, 114, 111, 114] := (Option.some.inj e1).symm
  subst en
  obtain rfl := Option.some.inj (rt_at.symm.trans e2)
  have hm : ty ∈ (List.range Tryz.prog.types.size).filter fun t => Tryz.prog.rowNamed t [101, 114, 114, 111, 114] := List.mem_filter.2 ⟨List.mem_range.2 e3, e4⟩
  rw [err_rows] at hm
  obtain rfl := List.mem_singleton.1 hm
  rw [err_handle] at e5
  unfold World.var? at e5
  rw [err_at] at e5
  unfold ET cellsAt
  cases hh : W.heap[0]? with
  | none => simp [hh] at e5
  | some o => cases o <;> simp_all
noncomputable def hwO (os : Os) : World :=
  let w0 := World.holding Tryz.prog os ⟨#[], #[], []⟩
  { w0 with heap := w0.heap.modify 0 fun
      | .cells _ t frozen => .cells #[.iface 162 (.agg #[.pointer (some ⟨4, 64, none⟩)])] t frozen
      | o => o }
noncomputable def lwO (os : Os) (laid : List (String × DataW Unit)) : World := (hwO os).layVars Tryz.prog laid
theorem lwO_os (os : Os) (laid : List (String × DataW Unit)) : (lwO os laid).os = os := (World.layVars_os _ _ _).trans rfl
theorem lwO_met {os : Os} {laid : List (String × DataW Unit)} (args : Array Value) (hf : (hwO os).layFits Tryz.prog laid [] = true)
    (hi : (hwO os).layIfaces Tryz.prog laid (lwO os laid) = true) : laidMet Tryz.prog laid ((lwO os laid).forCall (fun _ _ => 0) ⟨#[], args, []⟩).memory := by
  have e1 : (laid.filter fun x => (laid.map (·.1)).contains x.1) = laid := List.filter_eq_self.2 fun x hx => List.contains_iff_mem.2 (List.mem_map.2 ⟨x, hx, rfl⟩)
  have e2 : (laid.filter fun x => !(laid.map (·.1)).contains x.1) = [] := List.filter_eq_nil_iff.2 fun x hx => by rw [List.contains_iff_mem.2 (List.mem_map.2 ⟨x, hx, rfl⟩)]; simp
  have h : laidMet Tryz.prog laid (lwO os laid) := laidMet_layVars (w0 := hwO os) (laid.map (·.1)) [] (by rw [e1]; rfl) (by rw [e1]; exact hf) (by rw [e1]; exact hi) (by rw [e2]; exact LaidIn.none)
  exact h.of_heap (by simp [World.memory, World.forCall, Input.heap])
end Go.Proofs.YtaljccgfnmfhnaaGreatDoorG
