/- The walk of the law SheetOwns: it returns true. -/
import Derived.Test.YtgjnhmidbapjmaaU4
set_option linter.all false
namespace Go.Proofs.YtgjnhmidbapjmaaG
open Go Go.RowKit
set_option maxHeartbeats 2000000 in
set_option maxRecDepth 20000 in
theorem sheetOwns_calls (a0 : TSheet) (Aa0_Widths : Option Addr) (ca0_Widths : Nat) (Aa0_Heights : Option Addr) (ca0_Heights : Nat) (Aa0_Cells : Option Addr) (ca0_Cells : Nat) (Aa0_Merges : Option Addr) (ca0_Merges : Nat) (a1 : TSheet) (Aa1_Widths : Option Addr) (ca1_Widths : Nat) (Aa1_Heights : Option Addr) (ca1_Heights : Nat) (Aa1_Cells : Option Addr) (ca1_Cells : Nat) (Aa1_Merges : Option Addr) (ca1_Merges : Nat) (z : Z) (w : World) (hI : In z w []) (hra0_Widths : Rd (kint .i64) z Aa0_Widths a0.Widths) (hca0_Widths : Cap Aa0_Widths a0.Widths.length ca0_Widths) (hra0_Heights : Rd (kint .i64) z Aa0_Heights a0.Heights) (hca0_Heights : Cap Aa0_Heights a0.Heights.length ca0_Heights) (hra0_Cells : Rd kdTCell z Aa0_Cells a0.Cells) (hca0_Cells : Cap Aa0_Cells a0.Cells.length ca0_Cells) (hra0_Merges : Rd kdTRect z Aa0_Merges a0.Merges) (hca0_Merges : Cap Aa0_Merges a0.Merges.length ca0_Merges) (hra1_Widths : Rd (kint .i64) z Aa1_Widths a1.Widths) (hca1_Widths : Cap Aa1_Widths a1.Widths.length ca1_Widths) (hra1_Heights : Rd (kint .i64) z Aa1_Heights a1.Heights) (hca1_Heights : Cap Aa1_Heights a1.Heights.length ca1_Heights) (hra1_Cells : Rd kdTCell z Aa1_Cells a1.Cells) (hca1_Cells : Cap Aa1_Cells a1.Cells.length ca1_Cells) (hra1_Merges : Rd kdTRect z Aa1_Merges a1.Merges) (hca1_Merges : Cap Aa1_Merges a1.Merges.length ca1_Merges)  :
    Calls Try.prog 11 #[.agg #[.int .i64 a0.Right, .slice Aa0_Widths a0.Widths.length ca0_Widths, .slice Aa0_Heights a0.Heights.length ca0_Heights, .slice Aa0_Cells a0.Cells.length ca0_Cells, .slice Aa0_Merges a0.Merges.length ca0_Merges], .agg #[.int .i64 a1.Right, .slice Aa1_Widths a1.Widths.length ca1_Widths, .slice Aa1_Heights a1.Heights.length ca1_Heights, .slice Aa1_Cells a1.Cells.length ca1_Cells, .slice Aa1_Merges a1.Merges.length ca1_Merges]] w fun e w' => e = .returned (.bool true) ∧ Sp (FF []) w z w' [] := by
 have hla0_Widths := hca0_Widths.le
 have hma0_Widths := hca0_Widths.mx
 have hla0_Heights := hca0_Heights.le
 have hma0_Heights := hca0_Heights.mx
 have hla0_Cells := hca0_Cells.le
 have hma0_Cells := hca0_Cells.mx
 have hla0_Merges := hca0_Merges.le
 have hma0_Merges := hca0_Merges.mx
 have hla1_Widths := hca1_Widths.le
 have hma1_Widths := hca1_Widths.mx
 have hla1_Heights := hca1_Heights.le
 have hma1_Heights := hca1_Heights.mx
 have hla1_Cells := hca1_Cells.le
 have hma1_Cells := hca1_Cells.mx
 have hla1_Merges := hca1_Merges.le
 have hma1_Merges := hca1_Merges.mx
 have hS := hI.sp
 refine Calls_of (vs := [.agg #[.int .i64 a0.Right, .slice Aa0_Widths a0.Widths.length ca0_Widths, .slice Aa0_Heights a0.Heights.length ca0_Heights, .slice Aa0_Cells a0.Cells.length ca0_Cells, .slice Aa0_Merges a0.Merges.length ca0_Merges], .agg #[.int .i64 a1.Right, .slice Aa1_Widths a1.Widths.length ca1_Widths, .slice Aa1_Heights a1.Heights.length ca1_Heights, .slice Aa1_Cells a1.Cells.length ca1_Cells, .slice Aa1_Merges a1.Merges.length ca1_Merges]]) (N := 51) Try.func11 rfl rfl (Nat.le_of_ble_eq_true rfl) ?_
 refine C_seq ?_
 refine C_region ?_
 refine W_cons rfl (by decide) (S_box hS rfl (R_box (cs := [.int .i64 a0.Right, .slice Aa0_Widths a0.Widths.length ca0_Widths, .slice Aa0_Heights a0.Heights.length ca0_Heights, .slice Aa0_Cells a0.Cells.length ca0_Cells, .slice Aa0_Merges a0.Merges.length ca0_Merges]) rfl rfl rfl) (fun b2 w1 hS => ?_))
 refine W_cons rfl (by decide) (S_box hS rfl (R_box (cs := [.int .i64 a1.Right, .slice Aa1_Widths a1.Widths.length ca1_Widths, .slice Aa1_Heights a1.Heights.length ca1_Heights, .slice Aa1_Cells a1.Cells.length ca1_Cells, .slice Aa1_Merges a1.Merges.length ca1_Merges]) rfl rfl rfl) (fun b4 w3 hS => ?_))
 refine W_cons rfl (by decide) (Sv_val rfl (R_assign rfl rfl) ?_)
 refine W_nil ?_
 refine E_then ?_
 refine C_seq ?_
 refine C_seq ?_
 refine C_region ?_
 refine W_cons rfl (by decide) (Sv_val rfl (R_loadN (cs := [.int .i64 a0.Right, .slice Aa0_Widths a0.Widths.length ca0_Widths, .slice Aa0_Heights a0.Heights.length ca0_Heights, .slice Aa0_Cells a0.Cells.length ca0_Cells, .slice Aa0_Merges a0.Merges.length ca0_Merges]) rfl rfl agg39 size39 rfl (boxcells (hS.bx 1 rfl) 0 rfl)) ?_)
 refine W_cons rfl (by decide) (Sv_call rfl rfl rfl ent30 ?_)
 refine (great_calls a0 Aa0_Widths ca0_Widths Aa0_Heights ca0_Heights Aa0_Cells ca0_Cells Aa0_Merges ca0_Merges _ _ hS.out0 (hra0_Widths.mono (hS.zl [])) hca0_Widths (hra0_Heights.mono (hS.zl [])) hca0_Heights (hra0_Cells.mono (hS.zl [])) hca0_Cells (hra0_Merges.mono (hS.zl [])) hca0_Merges ).mono ?_
 rintro e_ w5 ⟨rfl, hS_⟩
 refine ⟨_, rfl, ?_⟩
 have hS := hS.call0 hS_
 refine W_cons rfl (by decide) (Sv_val rfl (R_move rfl rfl) ?_)
 refine W_split (t := 9) rfl (fun hg7 => ?_) (fun hg7 => ?_)
 ·have _hg7 := trivial
  refine W_cons rfl (by decide) (Sv_off rfl rfl rfl (by rw [hg7] <;> rfl) ?_)
  refine W_cons rfl (by decide) (Sv_off rfl rfl rfl (by rw [hg7] <;> rfl) ?_)
  refine W_cons rfl (by decide) (Sv_val rfl (R_pick_t rfl rfl hg7 rfl) ?_)
  refine W_nil ?_
  refine E_then (C_fr [(2, .pointer (some ⟨b2, 0, none⟩)), (3, .pointer (some ⟨b4, 0, none⟩)), (12, .bool true)] rfl ?_)
  refine C_if rfl rfl ?_
  refine C_seq ?_
  refine C_region ?_
  refine W_cons rfl (by decide) (Sv_call rfl rfl rfl ent29 ?_)
  refine (lawk_calls  _ _ hS.out0  ).mono ?_
  rintro e_ w8 ⟨rfl, hS_⟩
  refine ⟨_, rfl, ?_⟩
  have hS := hS.call0 hS_
  refine W_cons rfl (by decide) (Sv_val rfl (R_assign rfl rfl) ?_)
  refine W_nil ?_
  refine E_then ?_
  refine C_ret ?_
  refine E_then_ret ?_
  refine E_ret1 rfl rfl ?_
  exact ⟨Lret1 (Lbool (show true = true by rfl)), hS.fin [] (by decide) rfl⟩
 ·have _hg7 := trivial
  refine W_cons rfl (by decide) (Sv_gt rfl rfl rfl hg7 (Sv_val rfl (R_loadN (cs := [.int .i64 a1.Right, .slice Aa1_Widths a1.Widths.length ca1_Widths, .slice Aa1_Heights a1.Heights.length ca1_Heights, .slice Aa1_Cells a1.Cells.length ca1_Cells, .slice Aa1_Merges a1.Merges.length ca1_Merges]) rfl rfl agg39 size39 rfl (boxcells (hS.bx 0 rfl) 0 rfl)) ?_))
  refine W_cons rfl (by decide) (Sv_gt rfl rfl rfl hg7 (Sv_call rfl rfl rfl ent30 ?_))
  refine (great_calls a1 Aa1_Widths ca1_Widths Aa1_Heights ca1_Heights Aa1_Cells ca1_Cells Aa1_Merges ca1_Merges _ _ hS.out0 (hra1_Widths.mono (hS.zl [])) hca1_Widths (hra1_Heights.mono (hS.zl [])) hca1_Heights (hra1_Cells.mono (hS.zl [])) hca1_Cells (hra1_Merges.mono (hS.zl [])) hca1_Merges ).mono ?_
  rintro e_ w10 ⟨rfl, hS_⟩
  refine ⟨_, rfl, ?_⟩
  have hS := hS.call0 hS_
  refine W_cons rfl (by decide) (Sv_val rfl (R_pick_f rfl rfl hg7 rfl) ?_)
  refine W_nil ?_
  refine E_then (C_fr [(2, .pointer (some ⟨b2, 0, none⟩)), (3, .pointer (some ⟨b4, 0, none⟩)), (12, .bool (greatS a1))] rfl ?_)
  refine C_ite rfl (fun hC0 => ?_) (fun hC0 => ?_)
  ·have _hC0 := trivial
   refine C_seq ?_
   refine C_region ?_
   refine W_cons rfl (by decide) (Sv_call rfl rfl rfl ent29 ?_)
   refine (lawk_calls  _ _ hS.out0  ).mono ?_
   rintro e_ w12 ⟨rfl, hS_⟩
   refine ⟨_, rfl, ?_⟩
   have hS := hS.call0 hS_
   refine W_cons rfl (by decide) (Sv_val rfl (R_assign rfl rfl) ?_)
   refine W_nil ?_
   refine E_then ?_
   refine C_ret ?_
   refine E_then_ret ?_
   refine E_ret1 rfl rfl ?_
   exact ⟨Lret1 (Lbool (show true = true by rfl)), hS.fin [] (by decide) rfl⟩
  ·have _hC0 := trivial
   refine C_skip ?_
   refine E_then ?_
   refine C_seq ?_
   refine C_region ?_
   refine W_cons rfl (by decide) (Sv_val rfl (R_loadN (cs := [.int .i64 a0.Right, .slice Aa0_Widths a0.Widths.length ca0_Widths, .slice Aa0_Heights a0.Heights.length ca0_Heights, .slice Aa0_Cells a0.Cells.length ca0_Cells, .slice Aa0_Merges a0.Merges.length ca0_Merges]) rfl rfl agg39 size39 rfl (boxcells (hS.bx 1 rfl) 0 rfl)) ?_)
   refine W_cons rfl (by decide) (Sv_call rfl rfl rfl ent38 ?_)
   refine (rshown_calls a0 Aa0_Widths ca0_Widths Aa0_Heights ca0_Heights Aa0_Cells ca0_Cells Aa0_Merges ca0_Merges _ _ hS.out0 (hra0_Widths.mono (hS.zl [])) hca0_Widths (hra0_Heights.mono (hS.zl [])) hca0_Heights (hra0_Cells.mono (hS.zl [])) hca0_Cells (hra0_Merges.mono (hS.zl [])) hca0_Merges (by have hgb := great_bd (s := a0) (by assumption); omega)).mono ?_
   rintro e_ w14 ⟨AR0_15_Widths, cR0_15_Widths, AR0_15_Heights, cR0_15_Heights, AR0_15_Cells, cR0_15_Cells, AR0_15_Merges, cR0_15_Merges, rfl, hS_⟩
   refine ⟨_, rfl, ?_⟩
   have hS := hS.call0 hS_
   have hp16 := hS.cap 0 rfl
   have hlhp16 := hp16.le
   have hmhp16 := hp16.mx
   have hp17 := hS.cap 1 rfl
   have hlhp17 := hp17.le
   have hmhp17 := hp17.mx
   have hp18 := hS.cap 2 rfl
   have hlhp18 := hp18.le
   have hmhp18 := hp18.mx
   have hp19 := hS.cap 3 rfl
   have hlhp19 := hp19.le
   have hmhp19 := hp19.mx
   refine W_cons rfl (by decide) (S_box hS rfl (R_alloc rfl alloc39) (fun b21 w20 hS => ?_))
   refine W_cons0 rfl (S_store hS 0 rfl rfl rfl rfl rfl size39 (one_cons rfl (one_cons rfl (one_cons rfl (one_cons rfl (one_cons rfl one_nil))))) (Nat.le_of_ble_eq_true rfl) (fun w22 hS => ?_))
   have hS : Sp (FF []) w z w22 [bR b21 39 [.int .i64 a0.Right, .slice AR0_15_Widths a0.Widths.length cR0_15_Widths, .slice AR0_15_Heights a0.Heights.length cR0_15_Heights, .slice AR0_15_Cells a0.Cells.length cR0_15_Cells, .slice AR0_15_Merges a0.Merges.length cR0_15_Merges], oR (kint .i64) 3 zE AR0_15_Widths cR0_15_Widths a0.Widths, oR (kint .i64) 3 zE AR0_15_Heights cR0_15_Heights a0.Heights, oR kdTCell 46 zE AR0_15_Cells cR0_15_Cells a0.Cells, oR kdTRect 33 zE AR0_15_Merges cR0_15_Merges a0.Merges, bR b4 39 [.int .i64 a1.Right, .slice Aa1_Widths a1.Widths.length ca1_Widths, .slice Aa1_Heights a1.Heights.length ca1_Heights, .slice Aa1_Cells a1.Cells.length ca1_Cells, .slice Aa1_Merges a1.Merges.length ca1_Merges], bR b2 39 [.int .i64 a0.Right, .slice Aa0_Widths a0.Widths.length ca0_Widths, .slice Aa0_Heights a0.Heights.length ca0_Heights, .slice Aa0_Cells a0.Cells.length ca0_Cells, .slice Aa0_Merges a0.Merges.length ca0_Merges]] := hS
   refine W_nil ?_
   refine E_then ?_
   refine C_seq ?_
   refine C_region ?_
   refine W_cons rfl (by decide) (Sv_val rfl (R_loadN (cs := [.int .i64 a0.Right, .slice AR0_15_Widths a0.Widths.length cR0_15_Widths, .slice AR0_15_Heights a0.Heights.length cR0_15_Heights, .slice AR0_15_Cells a0.Cells.length cR0_15_Cells, .slice AR0_15_Merges a0.Merges.length cR0_15_Merges]) rfl rfl agg39 size39 rfl (boxcells (hS.bx 0 rfl) 0 rfl)) ?_)
   refine W_cons rfl (by decide) (Sv_call rfl rfl rfl ent39 ?_)
   refine (shown_calls a0 AR0_15_Widths cR0_15_Widths AR0_15_Heights cR0_15_Heights AR0_15_Cells cR0_15_Cells AR0_15_Merges cR0_15_Merges _ _ hS.out0 (hS.ow [] 1 rfl rfl (zle_E _)) (hS.cap 1 rfl) (hS.ow [] 2 rfl rfl (zle_E _)) (hS.cap 2 rfl) (hS.ow [] 3 rfl rfl (zle_E _)) (hS.cap 3 rfl) (hS.ow [] 4 rfl rfl (zle_E _)) (hS.cap 4 rfl) (by have hgb := great_bd (s := a0) (by assumption); omega)).mono ?_
   rintro e_ w23 ⟨AR0_24_Widths, cR0_24_Widths, AR0_24_Heights, cR0_24_Heights, AR0_24_Cells, cR0_24_Cells, AR0_24_Merges, cR0_24_Merges, rfl, hS_⟩
   refine ⟨_, rfl, ?_⟩
   have hS := hS.call0 hS_
   have hp25 := hS.cap 0 rfl
   have hlhp25 := hp25.le
   have hmhp25 := hp25.mx
   have hp26 := hS.cap 1 rfl
   have hlhp26 := hp26.le
   have hmhp26 := hp26.mx
   have hp27 := hS.cap 2 rfl
   have hlhp27 := hp27.le
   have hmhp27 := hp27.mx
   have hp28 := hS.cap 3 rfl
   have hlhp28 := hp28.le
   have hmhp28 := hp28.mx
   refine W_cons rfl (by decide) (S_box hS rfl (R_alloc rfl alloc39) (fun b30 w29 hS => ?_))
   refine W_cons0 rfl (S_store hS 0 rfl rfl rfl rfl rfl size39 (one_cons rfl (one_cons rfl (one_cons rfl (one_cons rfl (one_cons rfl one_nil))))) (Nat.le_of_ble_eq_true rfl) (fun w31 hS => ?_))
   have hS : Sp (FF []) w z w31 [bR b30 39 [.int .i64 a0.Right, .slice AR0_24_Widths a0.Widths.length cR0_24_Widths, .slice AR0_24_Heights a0.Heights.length cR0_24_Heights, .slice AR0_24_Cells a0.Cells.length cR0_24_Cells, .slice AR0_24_Merges a0.Merges.length cR0_24_Merges], oR (kint .i64) 3 zE AR0_24_Widths cR0_24_Widths a0.Widths, oR (kint .i64) 3 zE AR0_24_Heights cR0_24_Heights a0.Heights, oR kdTCell 46 zE AR0_24_Cells cR0_24_Cells a0.Cells, oR kdTRect 33 zE AR0_24_Merges cR0_24_Merges a0.Merges, bR b21 39 [.int .i64 a0.Right, .slice AR0_15_Widths a0.Widths.length cR0_15_Widths, .slice AR0_15_Heights a0.Heights.length cR0_15_Heights, .slice AR0_15_Cells a0.Cells.length cR0_15_Cells, .slice AR0_15_Merges a0.Merges.length cR0_15_Merges], oR (kint .i64) 3 zE AR0_15_Widths cR0_15_Widths a0.Widths, oR (kint .i64) 3 zE AR0_15_Heights cR0_15_Heights a0.Heights, oR kdTCell 46 zE AR0_15_Cells cR0_15_Cells a0.Cells, oR kdTRect 33 zE AR0_15_Merges cR0_15_Merges a0.Merges, bR b4 39 [.int .i64 a1.Right, .slice Aa1_Widths a1.Widths.length ca1_Widths, .slice Aa1_Heights a1.Heights.length ca1_Heights, .slice Aa1_Cells a1.Cells.length ca1_Cells, .slice Aa1_Merges a1.Merges.length ca1_Merges], bR b2 39 [.int .i64 a0.Right, .slice Aa0_Widths a0.Widths.length ca0_Widths, .slice Aa0_Heights a0.Heights.length ca0_Heights, .slice Aa0_Cells a0.Cells.length ca0_Cells, .slice Aa0_Merges a0.Merges.length ca0_Merges]] := hS
   refine W_nil ?_
   refine E_then (C_fr [(2, .pointer (some ⟨b2, 0, none⟩)), (3, .pointer (some ⟨b4, 0, none⟩)), (5, .pointer (some ⟨b21, 0, none⟩)), (6, .pointer (some ⟨b30, 0, none⟩))] rfl ?_)
   refine C_seq ?_
   refine C_seq ?_
   refine C_fr [(2, .pointer (some ⟨b2, 0, none⟩)), (3, .pointer (some ⟨b4, 0, none⟩)), (5, .pointer (some ⟨b21, 0, none⟩)), (6, .pointer (some ⟨b30, 0, none⟩))] rfl ?_
   have hk34 : (!(decide (a0 = a0))) = false := by simp
   have hk34p : (decide (a0 = a0) = true) := by simpa using hk34
   refine C_drawn2 19 [[], [], [0, 1], [2], [3, 2], [4], [4], [5, 6, 4, 4], [7, 4], [4, 8], [9, 7], [10], [10], [11, 12, 10, 10], [10], [10], [14, 15, 13, 10], [13, 16, 10], [10, 17]] [some 18, some 19, some 20, some 21, some 22, some 23, some 24, some 25, some 26, some 27, some 28, some 29, some 30, some 31, some 32, some 33, some 34, some 35, some 36] [2, 3, 5, 6] (List.replicate 19 19) (List.replicate 19 []) (List.replicate 19 []) [fun γ_ => .agg #[.int .i64 a0.Right, .slice AR0_24_Widths a0.Widths.length cR0_24_Widths, .slice AR0_24_Heights a0.Heights.length cR0_24_Heights, .slice AR0_24_Cells a0.Cells.length cR0_24_Cells, .slice AR0_24_Merges a0.Merges.length cR0_24_Merges], fun γ_ => .agg #[.int .i64 a0.Right, .slice Aa0_Widths a0.Widths.length ca0_Widths, .slice Aa0_Heights a0.Heights.length ca0_Heights, .slice Aa0_Cells a0.Cells.length ca0_Cells, .slice Aa0_Merges a0.Merges.length ca0_Merges], fun γ_ => .bool (decide (a0 = a0)), fun γ_ => .bool (!(decide (a0 = a0))), fun γ_ => .bool (!(decide (a0 = a0))), fun γ_ => .agg #[.int .i64 a0.Right, .slice AR0_24_Widths a0.Widths.length cR0_24_Widths, .slice AR0_24_Heights a0.Heights.length cR0_24_Heights, .slice AR0_24_Cells a0.Cells.length cR0_24_Cells, .slice AR0_24_Merges a0.Merges.length cR0_24_Merges], fun γ_ => .agg #[.int .i64 a0.Right, .slice Aa0_Widths a0.Widths.length ca0_Widths, .slice Aa0_Heights a0.Heights.length ca0_Heights, .slice Aa0_Cells a0.Cells.length ca0_Cells, .slice Aa0_Merges a0.Merges.length ca0_Merges], fun γ_ => .bool (decide (a0 = a0)), fun γ_ => .bool (!(decide (a0 = a0))), fun γ_ => .bool (!(decide (a0 = a0))), fun γ_ => .bool (!(decide (a0 = a0))), fun γ_ => .agg #[.int .i64 a0.Right, .slice Aa0_Widths a0.Widths.length ca0_Widths, .slice Aa0_Heights a0.Heights.length ca0_Heights, .slice Aa0_Cells a0.Cells.length ca0_Cells, .slice Aa0_Merges a0.Merges.length ca0_Merges], fun γ_ => .agg #[.int .i64 a1.Right, .slice Aa1_Widths a1.Widths.length ca1_Widths, .slice Aa1_Heights a1.Heights.length ca1_Heights, .slice Aa1_Cells a1.Cells.length ca1_Cells, .slice Aa1_Merges a1.Merges.length ca1_Merges], fun γ_ => .bool (decide (a0 = a1)), fun γ_ => .agg #[.int .i64 a0.Right, .slice Aa0_Widths a0.Widths.length ca0_Widths, .slice Aa0_Heights a0.Heights.length ca0_Heights, .slice Aa0_Cells a0.Cells.length ca0_Cells, .slice Aa0_Merges a0.Merges.length ca0_Merges], fun γ_ => .agg #[.int .i64 a1.Right, .slice Aa1_Widths a1.Widths.length ca1_Widths, .slice Aa1_Heights a1.Heights.length ca1_Heights, .slice Aa1_Cells a1.Cells.length ca1_Cells, .slice Aa1_Merges a1.Merges.length ca1_Merges], fun γ_ => .bool (decide (a0 = a1)), fun γ_ => .bool ((decide (a0 = a1)) != (decide (a0 = a1))), fun γ_ => .bool ((decide (a0 = a1)) != (decide (a0 = a1)))] (List.replicate 19 (fun _ => [])) rfl (by kernel_rfl) (by decide +kernel) hS ?_ ?_
   ·refine ⟨fun g_ w41 fr42 hS => Sv_val rfl (R_loadN (cs := [.int .i64 a0.Right, .slice AR0_24_Widths a0.Widths.length cR0_24_Widths, .slice AR0_24_Heights a0.Heights.length cR0_24_Heights, .slice AR0_24_Cells a0.Cells.length cR0_24_Cells, .slice AR0_24_Merges a0.Merges.length cR0_24_Merges]) rfl rfl agg39 size39 rfl (boxcells (hS.bx 0 rfl) 0 rfl)) ⟨gh0, rfl, hS⟩, ?_⟩
    refine ⟨fun g_ w43 fr44 hS => Sv_val rfl (R_loadN (cs := [.int .i64 a0.Right, .slice Aa0_Widths a0.Widths.length ca0_Widths, .slice Aa0_Heights a0.Heights.length ca0_Heights, .slice Aa0_Cells a0.Cells.length ca0_Cells, .slice Aa0_Merges a0.Merges.length ca0_Merges]) rfl rfl agg39 size39 rfl (boxcells (hS.bx 11 rfl) 0 rfl)) ⟨gh0, rfl, hS⟩, ?_⟩
    refine ⟨fun g_ w45 fr46 hS => ?_, ?_⟩
    ·have _w45 := trivial
     have hS : Sp (FF []) w z w45 [bR b30 39 [.int .i64 a0.Right, .slice AR0_24_Widths a0.Widths.length cR0_24_Widths, .slice AR0_24_Heights a0.Heights.length cR0_24_Heights, .slice AR0_24_Cells a0.Cells.length cR0_24_Cells, .slice AR0_24_Merges a0.Merges.length cR0_24_Merges], oR (kint .i64) 3 zE AR0_24_Widths cR0_24_Widths a0.Widths, oR (kint .i64) 3 zE AR0_24_Heights cR0_24_Heights a0.Heights, oR kdTCell 46 zE AR0_24_Cells cR0_24_Cells a0.Cells, oR kdTRect 33 zE AR0_24_Merges cR0_24_Merges a0.Merges, bR b21 39 [.int .i64 a0.Right, .slice AR0_15_Widths a0.Widths.length cR0_15_Widths, .slice AR0_15_Heights a0.Heights.length cR0_15_Heights, .slice AR0_15_Cells a0.Cells.length cR0_15_Cells, .slice AR0_15_Merges a0.Merges.length cR0_15_Merges], oR (kint .i64) 3 zE AR0_15_Widths cR0_15_Widths a0.Widths, oR (kint .i64) 3 zE AR0_15_Heights cR0_15_Heights a0.Heights, oR kdTCell 46 zE AR0_15_Cells cR0_15_Cells a0.Cells, oR kdTRect 33 zE AR0_15_Merges cR0_15_Merges a0.Merges, bR b4 39 [.int .i64 a1.Right, .slice Aa1_Widths a1.Widths.length ca1_Widths, .slice Aa1_Heights a1.Heights.length ca1_Heights, .slice Aa1_Cells a1.Cells.length ca1_Cells, .slice Aa1_Merges a1.Merges.length ca1_Merges], bR b2 39 [.int .i64 a0.Right, .slice Aa0_Widths a0.Widths.length ca0_Widths, .slice Aa0_Heights a0.Heights.length ca0_Heights, .slice Aa0_Cells a0.Cells.length ca0_Cells, .slice Aa0_Merges a0.Merges.length ca0_Merges], allR fr46] := hS
     refine Sv_call rfl rfl rfl ent40 ?_
     refine (rshsame_calls a0 AR0_24_Widths cR0_24_Widths AR0_24_Heights cR0_24_Heights AR0_24_Cells cR0_24_Cells AR0_24_Merges cR0_24_Merges a0 Aa0_Widths ca0_Widths Aa0_Heights ca0_Heights Aa0_Cells ca0_Cells Aa0_Merges ca0_Merges _ _ hS.out0 (hS.ow [] 1 rfl rfl (zle_E _)) (hS.cap 1 rfl) (hS.ow [] 2 rfl rfl (zle_E _)) (hS.cap 2 rfl) (hS.ow [] 3 rfl rfl (zle_E _)) (hS.cap 3 rfl) (hS.ow [] 4 rfl rfl (zle_E _)) (hS.cap 4 rfl) (hra0_Widths.mono (hS.zl [])) hca0_Widths (hra0_Heights.mono (hS.zl [])) hca0_Heights (hra0_Cells.mono (hS.zl [])) hca0_Cells (hra0_Merges.mono (hS.zl [])) hca0_Merges ).mono ?_
     rintro e_ w47 ⟨rfl, hS_⟩
     refine ⟨_, rfl, ?_⟩
     have hS := hS.call0 hS_
     exact ⟨⟨fun _ => none, fun _ => 0, fun _ => zE, fun _ => 0⟩, rfl, hS.fin [0, 1, 2, 3, 4, 5, 6, 7, 8, 9, 10, 11, 12] (by decide) rfl⟩
    refine ⟨fun g_ w49 fr50 hS => Sv_val rfl (R_un rfl rfl rfl) ⟨gh0, rfl, hS⟩, ?_⟩
    refine ⟨fun g_ w51 fr52 hS => Sv_val rfl (R_move rfl rfl) ⟨gh0, rfl, hS⟩, ?_⟩
    refine ⟨fun g_ w53 fr54 hS => (Sv_gt rfl rfl rfl hk34 (Sv_val rfl (R_loadN (cs := [.int .i64 a0.Right, .slice AR0_24_Widths a0.Widths.length cR0_24_Widths, .slice AR0_24_Heights a0.Heights.length cR0_24_Heights, .slice AR0_24_Cells a0.Cells.length cR0_24_Cells, .slice AR0_24_Merges a0.Merges.length cR0_24_Merges]) rfl rfl agg39 size39 rfl (boxcells (hS.bx 0 rfl) 0 rfl)) ⟨gh0, rfl, hS⟩)), ?_⟩
    refine ⟨fun g_ w55 fr56 hS => (Sv_gt rfl rfl rfl hk34 (Sv_val rfl (R_loadN (cs := [.int .i64 a0.Right, .slice Aa0_Widths a0.Widths.length ca0_Widths, .slice Aa0_Heights a0.Heights.length ca0_Heights, .slice Aa0_Cells a0.Cells.length ca0_Cells, .slice Aa0_Merges a0.Merges.length ca0_Merges]) rfl rfl agg39 size39 rfl (boxcells (hS.bx 11 rfl) 0 rfl)) ⟨gh0, rfl, hS⟩)), ?_⟩
    refine ⟨fun g_ w57 fr58 hS => ?_, ?_⟩
    ·have _w57 := trivial
     have hS : Sp (FF []) w z w57 [bR b30 39 [.int .i64 a0.Right, .slice AR0_24_Widths a0.Widths.length cR0_24_Widths, .slice AR0_24_Heights a0.Heights.length cR0_24_Heights, .slice AR0_24_Cells a0.Cells.length cR0_24_Cells, .slice AR0_24_Merges a0.Merges.length cR0_24_Merges], oR (kint .i64) 3 zE AR0_24_Widths cR0_24_Widths a0.Widths, oR (kint .i64) 3 zE AR0_24_Heights cR0_24_Heights a0.Heights, oR kdTCell 46 zE AR0_24_Cells cR0_24_Cells a0.Cells, oR kdTRect 33 zE AR0_24_Merges cR0_24_Merges a0.Merges, bR b21 39 [.int .i64 a0.Right, .slice AR0_15_Widths a0.Widths.length cR0_15_Widths, .slice AR0_15_Heights a0.Heights.length cR0_15_Heights, .slice AR0_15_Cells a0.Cells.length cR0_15_Cells, .slice AR0_15_Merges a0.Merges.length cR0_15_Merges], oR (kint .i64) 3 zE AR0_15_Widths cR0_15_Widths a0.Widths, oR (kint .i64) 3 zE AR0_15_Heights cR0_15_Heights a0.Heights, oR kdTCell 46 zE AR0_15_Cells cR0_15_Cells a0.Cells, oR kdTRect 33 zE AR0_15_Merges cR0_15_Merges a0.Merges, bR b4 39 [.int .i64 a1.Right, .slice Aa1_Widths a1.Widths.length ca1_Widths, .slice Aa1_Heights a1.Heights.length ca1_Heights, .slice Aa1_Cells a1.Cells.length ca1_Cells, .slice Aa1_Merges a1.Merges.length ca1_Merges], bR b2 39 [.int .i64 a0.Right, .slice Aa0_Widths a0.Widths.length ca0_Widths, .slice Aa0_Heights a0.Heights.length ca0_Heights, .slice Aa0_Cells a0.Cells.length ca0_Cells, .slice Aa0_Merges a0.Merges.length ca0_Merges], allR fr58] := hS
     refine  (Sv_gt rfl rfl rfl hk34 (Sv_call rfl rfl rfl ent41 ?_))
     refine (shsame_calls a0 AR0_24_Widths cR0_24_Widths AR0_24_Heights cR0_24_Heights AR0_24_Cells cR0_24_Cells AR0_24_Merges cR0_24_Merges a0 Aa0_Widths ca0_Widths Aa0_Heights ca0_Heights Aa0_Cells ca0_Cells Aa0_Merges ca0_Merges _ _ hS.out0 (hS.ow [] 1 rfl rfl (zle_E _)) (hS.cap 1 rfl) (hS.ow [] 2 rfl rfl (zle_E _)) (hS.cap 2 rfl) (hS.ow [] 3 rfl rfl (zle_E _)) (hS.cap 3 rfl) (hS.ow [] 4 rfl rfl (zle_E _)) (hS.cap 4 rfl) (hra0_Widths.mono (hS.zl [])) hca0_Widths (hra0_Heights.mono (hS.zl [])) hca0_Heights (hra0_Cells.mono (hS.zl [])) hca0_Cells (hra0_Merges.mono (hS.zl [])) hca0_Merges ).mono ?_
     rintro e_ w59 ⟨rfl, hS_⟩
     refine ⟨_, rfl, ?_⟩
     have hS := hS.call0 hS_
     exact ⟨⟨fun _ => none, fun _ => 0, fun _ => zE, fun _ => 0⟩, rfl, hS.fin [0, 1, 2, 3, 4, 5, 6, 7, 8, 9, 10, 11, 12] (by decide) rfl⟩
    refine ⟨fun g_ w61 fr62 hS => (Sv_gt rfl rfl rfl hk34 (Sv_val rfl (R_un rfl rfl rfl) ⟨gh0, rfl, hS⟩)), ?_⟩
    refine ⟨fun g_ w63 fr64 hS => Sv_val rfl (R_pick_f rfl rfl hk34 rfl) ⟨gh0, rfl, hS⟩, ?_⟩
    refine ⟨fun g_ w65 fr66 hS => Sv_val rfl (R_move rfl rfl) ⟨gh0, rfl, hS⟩, ?_⟩
    refine ⟨fun g_ w67 fr68 hS => (Sv_gt rfl rfl rfl hk34 (Sv_val rfl (R_loadN (cs := [.int .i64 a0.Right, .slice Aa0_Widths a0.Widths.length ca0_Widths, .slice Aa0_Heights a0.Heights.length ca0_Heights, .slice Aa0_Cells a0.Cells.length ca0_Cells, .slice Aa0_Merges a0.Merges.length ca0_Merges]) rfl rfl agg39 size39 rfl (boxcells (hS.bx 11 rfl) 0 rfl)) ⟨gh0, rfl, hS⟩)), ?_⟩
    refine ⟨fun g_ w69 fr70 hS => (Sv_gt rfl rfl rfl hk34 (Sv_val rfl (R_loadN (cs := [.int .i64 a1.Right, .slice Aa1_Widths a1.Widths.length ca1_Widths, .slice Aa1_Heights a1.Heights.length ca1_Heights, .slice Aa1_Cells a1.Cells.length ca1_Cells, .slice Aa1_Merges a1.Merges.length ca1_Merges]) rfl rfl agg39 size39 rfl (boxcells (hS.bx 10 rfl) 0 rfl)) ⟨gh0, rfl, hS⟩)), ?_⟩
    refine ⟨fun g_ w71 fr72 hS => ?_, ?_⟩
    ·have _w71 := trivial
     have hS : Sp (FF []) w z w71 [bR b30 39 [.int .i64 a0.Right, .slice AR0_24_Widths a0.Widths.length cR0_24_Widths, .slice AR0_24_Heights a0.Heights.length cR0_24_Heights, .slice AR0_24_Cells a0.Cells.length cR0_24_Cells, .slice AR0_24_Merges a0.Merges.length cR0_24_Merges], oR (kint .i64) 3 zE AR0_24_Widths cR0_24_Widths a0.Widths, oR (kint .i64) 3 zE AR0_24_Heights cR0_24_Heights a0.Heights, oR kdTCell 46 zE AR0_24_Cells cR0_24_Cells a0.Cells, oR kdTRect 33 zE AR0_24_Merges cR0_24_Merges a0.Merges, bR b21 39 [.int .i64 a0.Right, .slice AR0_15_Widths a0.Widths.length cR0_15_Widths, .slice AR0_15_Heights a0.Heights.length cR0_15_Heights, .slice AR0_15_Cells a0.Cells.length cR0_15_Cells, .slice AR0_15_Merges a0.Merges.length cR0_15_Merges], oR (kint .i64) 3 zE AR0_15_Widths cR0_15_Widths a0.Widths, oR (kint .i64) 3 zE AR0_15_Heights cR0_15_Heights a0.Heights, oR kdTCell 46 zE AR0_15_Cells cR0_15_Cells a0.Cells, oR kdTRect 33 zE AR0_15_Merges cR0_15_Merges a0.Merges, bR b4 39 [.int .i64 a1.Right, .slice Aa1_Widths a1.Widths.length ca1_Widths, .slice Aa1_Heights a1.Heights.length ca1_Heights, .slice Aa1_Cells a1.Cells.length ca1_Cells, .slice Aa1_Merges a1.Merges.length ca1_Merges], bR b2 39 [.int .i64 a0.Right, .slice Aa0_Widths a0.Widths.length ca0_Widths, .slice Aa0_Heights a0.Heights.length ca0_Heights, .slice Aa0_Cells a0.Cells.length ca0_Cells, .slice Aa0_Merges a0.Merges.length ca0_Merges], allR fr72] := hS
     refine  (Sv_gt rfl rfl rfl hk34 (Sv_call rfl rfl rfl ent41 ?_))
     refine (shsame_calls a0 Aa0_Widths ca0_Widths Aa0_Heights ca0_Heights Aa0_Cells ca0_Cells Aa0_Merges ca0_Merges a1 Aa1_Widths ca1_Widths Aa1_Heights ca1_Heights Aa1_Cells ca1_Cells Aa1_Merges ca1_Merges _ _ hS.out0 (hra0_Widths.mono (hS.zl [])) hca0_Widths (hra0_Heights.mono (hS.zl [])) hca0_Heights (hra0_Cells.mono (hS.zl [])) hca0_Cells (hra0_Merges.mono (hS.zl [])) hca0_Merges (hra1_Widths.mono (hS.zl [])) hca1_Widths (hra1_Heights.mono (hS.zl [])) hca1_Heights (hra1_Cells.mono (hS.zl [])) hca1_Cells (hra1_Merges.mono (hS.zl [])) hca1_Merges ).mono ?_
     rintro e_ w73 ⟨rfl, hS_⟩
     refine ⟨_, rfl, ?_⟩
     have hS := hS.call0 hS_
     exact ⟨⟨fun _ => none, fun _ => 0, fun _ => zE, fun _ => 0⟩, rfl, hS.fin [0, 1, 2, 3, 4, 5, 6, 7, 8, 9, 10, 11, 12] (by decide) rfl⟩
    refine ⟨fun g_ w75 fr76 hS => (Sv_gt rfl rfl rfl hk34 (Sv_val rfl (R_loadN (cs := [.int .i64 a0.Right, .slice Aa0_Widths a0.Widths.length ca0_Widths, .slice Aa0_Heights a0.Heights.length ca0_Heights, .slice Aa0_Cells a0.Cells.length ca0_Cells, .slice Aa0_Merges a0.Merges.length ca0_Merges]) rfl rfl agg39 size39 rfl (boxcells (hS.bx 11 rfl) 0 rfl)) ⟨gh0, rfl, hS⟩)), ?_⟩
    refine ⟨fun g_ w77 fr78 hS => (Sv_gt rfl rfl rfl hk34 (Sv_val rfl (R_loadN (cs := [.int .i64 a1.Right, .slice Aa1_Widths a1.Widths.length ca1_Widths, .slice Aa1_Heights a1.Heights.length ca1_Heights, .slice Aa1_Cells a1.Cells.length ca1_Cells, .slice Aa1_Merges a1.Merges.length ca1_Merges]) rfl rfl agg39 size39 rfl (boxcells (hS.bx 10 rfl) 0 rfl)) ⟨gh0, rfl, hS⟩)), ?_⟩
    refine ⟨fun g_ w79 fr80 hS => ?_, ?_⟩
    ·have _w79 := trivial
     have hS : Sp (FF []) w z w79 [bR b30 39 [.int .i64 a0.Right, .slice AR0_24_Widths a0.Widths.length cR0_24_Widths, .slice AR0_24_Heights a0.Heights.length cR0_24_Heights, .slice AR0_24_Cells a0.Cells.length cR0_24_Cells, .slice AR0_24_Merges a0.Merges.length cR0_24_Merges], oR (kint .i64) 3 zE AR0_24_Widths cR0_24_Widths a0.Widths, oR (kint .i64) 3 zE AR0_24_Heights cR0_24_Heights a0.Heights, oR kdTCell 46 zE AR0_24_Cells cR0_24_Cells a0.Cells, oR kdTRect 33 zE AR0_24_Merges cR0_24_Merges a0.Merges, bR b21 39 [.int .i64 a0.Right, .slice AR0_15_Widths a0.Widths.length cR0_15_Widths, .slice AR0_15_Heights a0.Heights.length cR0_15_Heights, .slice AR0_15_Cells a0.Cells.length cR0_15_Cells, .slice AR0_15_Merges a0.Merges.length cR0_15_Merges], oR (kint .i64) 3 zE AR0_15_Widths cR0_15_Widths a0.Widths, oR (kint .i64) 3 zE AR0_15_Heights cR0_15_Heights a0.Heights, oR kdTCell 46 zE AR0_15_Cells cR0_15_Cells a0.Cells, oR kdTRect 33 zE AR0_15_Merges cR0_15_Merges a0.Merges, bR b4 39 [.int .i64 a1.Right, .slice Aa1_Widths a1.Widths.length ca1_Widths, .slice Aa1_Heights a1.Heights.length ca1_Heights, .slice Aa1_Cells a1.Cells.length ca1_Cells, .slice Aa1_Merges a1.Merges.length ca1_Merges], bR b2 39 [.int .i64 a0.Right, .slice Aa0_Widths a0.Widths.length ca0_Widths, .slice Aa0_Heights a0.Heights.length ca0_Heights, .slice Aa0_Cells a0.Cells.length ca0_Cells, .slice Aa0_Merges a0.Merges.length ca0_Merges], allR fr80] := hS
     refine  (Sv_gt rfl rfl rfl hk34 (Sv_call rfl rfl rfl ent40 ?_))
     refine (rshsame_calls a0 Aa0_Widths ca0_Widths Aa0_Heights ca0_Heights Aa0_Cells ca0_Cells Aa0_Merges ca0_Merges a1 Aa1_Widths ca1_Widths Aa1_Heights ca1_Heights Aa1_Cells ca1_Cells Aa1_Merges ca1_Merges _ _ hS.out0 (hra0_Widths.mono (hS.zl [])) hca0_Widths (hra0_Heights.mono (hS.zl [])) hca0_Heights (hra0_Cells.mono (hS.zl [])) hca0_Cells (hra0_Merges.mono (hS.zl [])) hca0_Merges (hra1_Widths.mono (hS.zl [])) hca1_Widths (hra1_Heights.mono (hS.zl [])) hca1_Heights (hra1_Cells.mono (hS.zl [])) hca1_Cells (hra1_Merges.mono (hS.zl [])) hca1_Merges ).mono ?_
     rintro e_ w81 ⟨rfl, hS_⟩
     refine ⟨_, rfl, ?_⟩
     have hS := hS.call0 hS_
     exact ⟨⟨fun _ => none, fun _ => 0, fun _ => zE, fun _ => 0⟩, rfl, hS.fin [0, 1, 2, 3, 4, 5, 6, 7, 8, 9, 10, 11, 12] (by decide) rfl⟩
    refine ⟨fun g_ w83 fr84 hS => (Sv_gt rfl rfl rfl hk34 (Sv_val rfl (R_blneq rfl rfl rfl Try.underlying4) ⟨gh0, rfl, hS⟩)), ?_⟩
    refine ⟨fun g_ w85 fr86 hS => Sv_val rfl (R_pick_f rfl rfl hk34 rfl) ⟨gh0, rfl, hS⟩, ?_⟩
    exact trivial
   ·intro g_ w87 hS
    have hS : Sp (FF []) w z w87 [bR b30 39 [.int .i64 a0.Right, .slice AR0_24_Widths a0.Widths.length cR0_24_Widths, .slice AR0_24_Heights a0.Heights.length cR0_24_Heights, .slice AR0_24_Cells a0.Cells.length cR0_24_Cells, .slice AR0_24_Merges a0.Merges.length cR0_24_Merges], oR (kint .i64) 3 zE AR0_24_Widths cR0_24_Widths a0.Widths, oR (kint .i64) 3 zE AR0_24_Heights cR0_24_Heights a0.Heights, oR kdTCell 46 zE AR0_24_Cells cR0_24_Cells a0.Cells, oR kdTRect 33 zE AR0_24_Merges cR0_24_Merges a0.Merges, bR b21 39 [.int .i64 a0.Right, .slice AR0_15_Widths a0.Widths.length cR0_15_Widths, .slice AR0_15_Heights a0.Heights.length cR0_15_Heights, .slice AR0_15_Cells a0.Cells.length cR0_15_Cells, .slice AR0_15_Merges a0.Merges.length cR0_15_Merges], oR (kint .i64) 3 zE AR0_15_Widths cR0_15_Widths a0.Widths, oR (kint .i64) 3 zE AR0_15_Heights cR0_15_Heights a0.Heights, oR kdTCell 46 zE AR0_15_Cells cR0_15_Cells a0.Cells, oR kdTRect 33 zE AR0_15_Merges cR0_15_Merges a0.Merges, bR b4 39 [.int .i64 a1.Right, .slice Aa1_Widths a1.Widths.length ca1_Widths, .slice Aa1_Heights a1.Heights.length ca1_Heights, .slice Aa1_Cells a1.Cells.length ca1_Cells, .slice Aa1_Merges a1.Merges.length ca1_Merges], bR b2 39 [.int .i64 a0.Right, .slice Aa0_Widths a0.Widths.length ca0_Widths, .slice Aa0_Heights a0.Heights.length ca0_Heights, .slice Aa0_Cells a0.Cells.length ca0_Cells, .slice Aa0_Merges a0.Merges.length ca0_Merges]] := hS
    refine An_fr [(2, .pointer (some ⟨b2, 0, none⟩)), (3, .pointer (some ⟨b4, 0, none⟩)), (5, .pointer (some ⟨b21, 0, none⟩)), (6, .pointer (some ⟨b30, 0, none⟩)), (36, .bool ((decide (a0 = a1)) != (decide (a0 = a1))))] rfl ?_
    refine An_done (by decide +kernel) ?_
    refine E_then ?_
    have hk89 : (((decide (a0 = a1)) != (decide (a0 = a1)))) = false := by simp
    refine C_else rfl hk89 ?_
    refine C_skip ?_
    refine E_then ?_
    refine C_seq ?_
    refine C_region ?_
    refine W_cons rfl (by decide) (Sv_val rfl (R_fld rfl rfl fld39_1) ?_)
    refine W_cons rfl (by decide) (Sv_val rfl (R_load1 rfl rfl agg35 ((hS.bx 0 rfl).cell rfl)) ?_)
    refine W_cons0 rfl (S_clear_own hS 1 rfl rfl rfl Try.underlying35 zero3 rfl (one_cons rfl one_nil) rfl (fun w90 hS => ?_))
    refine W_nil ?_
    refine E_then ?_
    refine C_seq ?_
    refine C_region ?_
    refine W_cons rfl (by decide) (Sv_val rfl (R_fld rfl rfl fld39_2) ?_)
    refine W_cons rfl (by decide) (Sv_val rfl (R_load1 rfl rfl agg35 ((hS.bx 0 rfl).cell rfl)) ?_)
    refine W_cons0 rfl (S_clear_own hS 2 rfl rfl rfl Try.underlying35 zero3 rfl (one_cons rfl one_nil) rfl (fun w92 hS => ?_))
    refine W_nil ?_
    refine E_then (C_fr [(2, .pointer (some ⟨b2, 0, none⟩)), (5, .pointer (some ⟨b21, 0, none⟩)), (6, .pointer (some ⟨b30, 0, none⟩))] rfl ?_)
    refine C_seq ?_
    refine C_region ?_
    refine W_cons rfl (by decide) (Sv_val rfl (R_fld rfl rfl fld39_3) ?_)
    refine W_cons rfl (by decide) (Sv_val rfl (R_load1 rfl rfl agg36 ((hS.bx 0 rfl).cell rfl)) ?_)
    refine W_cons0 rfl (S_clear_own hS 3 rfl rfl rfl Try.underlying36 zero46 rfl (one_cons rfl (one_cons rfl (one_cons rfl (one_cons rfl (one_cons rfl (one_cons rfl one_nil)))))) rfl (fun w94 hS => ?_))
    refine W_nil ?_
    refine E_then ?_
    refine C_seq ?_
    refine C_region ?_
    refine W_cons rfl (by decide) (Sv_val rfl (R_fld rfl rfl fld39_4) ?_)
    refine W_cons rfl (by decide) (Sv_val rfl (R_load1 rfl rfl agg37 ((hS.bx 0 rfl).cell rfl)) ?_)
    refine W_cons0 rfl (S_clear_own hS 4 rfl rfl rfl Try.underlying37 zero33 rfl (one_cons rfl (one_cons rfl (one_cons rfl (one_cons rfl one_nil)))) rfl (fun w96 hS => ?_))
    refine W_nil ?_
    refine E_then (C_fr [(2, .pointer (some ⟨b2, 0, none⟩)), (5, .pointer (some ⟨b21, 0, none⟩))] rfl ?_)
    refine C_seq ?_
    refine C_region ?_
    refine W_cons rfl (by decide) (Sv_val rfl (R_loadN (cs := [.int .i64 a0.Right, .slice AR0_15_Widths a0.Widths.length cR0_15_Widths, .slice AR0_15_Heights a0.Heights.length cR0_15_Heights, .slice AR0_15_Cells a0.Cells.length cR0_15_Cells, .slice AR0_15_Merges a0.Merges.length cR0_15_Merges]) rfl rfl agg39 size39 rfl (boxcells (hS.bx 5 rfl) 0 rfl)) ?_)
    refine W_cons rfl (by decide) (Sv_val rfl (R_loadN (cs := [.int .i64 a0.Right, .slice Aa0_Widths a0.Widths.length ca0_Widths, .slice Aa0_Heights a0.Heights.length ca0_Heights, .slice Aa0_Cells a0.Cells.length ca0_Cells, .slice Aa0_Merges a0.Merges.length ca0_Merges]) rfl rfl agg39 size39 rfl (boxcells (hS.bx 11 rfl) 0 rfl)) ?_)
    refine W_cons rfl (by decide) (Sv_call rfl rfl rfl ent40 ?_)
    refine (rshsame_calls a0 AR0_15_Widths cR0_15_Widths AR0_15_Heights cR0_15_Heights AR0_15_Cells cR0_15_Cells AR0_15_Merges cR0_15_Merges a0 Aa0_Widths ca0_Widths Aa0_Heights ca0_Heights Aa0_Cells ca0_Cells Aa0_Merges ca0_Merges _ _ hS.out0 (hS.ow [] 6 rfl rfl (zle_E _)) (hS.cap 6 rfl) (hS.ow [] 7 rfl rfl (zle_E _)) (hS.cap 7 rfl) (hS.ow [] 8 rfl rfl (zle_E _)) (hS.cap 8 rfl) (hS.ow [] 9 rfl rfl (zle_E _)) (hS.cap 9 rfl) (hra0_Widths.mono (hS.zl [])) hca0_Widths (hra0_Heights.mono (hS.zl [])) hca0_Heights (hra0_Cells.mono (hS.zl [])) hca0_Cells (hra0_Merges.mono (hS.zl [])) hca0_Merges ).mono ?_
    rintro e_ w98 ⟨rfl, hS_⟩
    refine ⟨_, rfl, ?_⟩
    have hS := hS.call0 hS_
    refine W_cons rfl (by decide) (Sv_val rfl (R_move rfl rfl) ?_)
    have hk100 : (decide (a0 = a0)) = true := by simp
    refine W_cons rfl (by decide) (Sv_gt rfl rfl rfl hk100 (Sv_call rfl rfl rfl ent29 ?_))
    refine (lawk_calls  _ _ hS.out0  ).mono ?_
    rintro e_ w101 ⟨rfl, hS_⟩
    refine ⟨_, rfl, ?_⟩
    have hS := hS.call0 hS_
    refine W_cons rfl (by decide) (Sv_val rfl (R_pick_t rfl rfl hk100 rfl) ?_)
    refine W_cons rfl (by decide) (Sv_val rfl (R_assign rfl rfl) ?_)
    refine W_nil ?_
    refine E_then (C_fr [(4, .bool true)] rfl ?_)
    refine C_ret ?_
    refine E_ret1 rfl rfl ?_
    exact ⟨Lret1 (Lbool (show true = true by rfl)), hS.fin [] (by decide) rfl⟩

end Go.Proofs.YtgjnhmidbapjmaaG
