/- The walk of the law EdgeArms: it returns true. -/
import Derived.Test.YtalpekmbknjeeaaF1
set_option linter.all false
namespace Go.Proofs.YtalpekmbknjeeaaG
open Go Go.RowKit
set_option maxHeartbeats 400000 in
set_option maxRecDepth 20000 in
theorem edgeArms_calls (a0 : TSheet) (Aa0_Widths : Option Addr) (ca0_Widths : Nat) (Aa0_Heights : Option Addr) (ca0_Heights : Nat) (Aa0_Cells : Option Addr) (ca0_Cells : Nat) (Aa0_Merges : Option Addr) (ca0_Merges : Nat) (a1 : Int) (a2 : Int) (z : Z) (w : World) (hI : In z w []) (hra0_Widths : Rd (kint .i64) z Aa0_Widths a0.Widths) (hca0_Widths : Cap Aa0_Widths a0.Widths.length ca0_Widths) (hra0_Heights : Rd (kint .i64) z Aa0_Heights a0.Heights) (hca0_Heights : Cap Aa0_Heights a0.Heights.length ca0_Heights) (hra0_Cells : Rd kdTCell z Aa0_Cells a0.Cells) (hca0_Cells : Cap Aa0_Cells a0.Cells.length ca0_Cells) (hra0_Merges : Rd kdTRect z Aa0_Merges a0.Merges) (hca0_Merges : Cap Aa0_Merges a0.Merges.length ca0_Merges) (p0 : SheetG a0) (p1 : SzS a0) (p2 : I64 a1) (p3 : I64 a2) :
    Calls Try.prog 3 #[.agg #[.int .i64 a0.Right, .slice Aa0_Widths a0.Widths.length ca0_Widths, .slice Aa0_Heights a0.Heights.length ca0_Heights, .slice Aa0_Cells a0.Cells.length ca0_Cells, .slice Aa0_Merges a0.Merges.length ca0_Merges], .int .i64 a1, .int .i64 a2] w fun e w' => e = .returned (.bool true) ∧ Sp (FF []) w z w' [] := by
 have hla0_Widths := hca0_Widths.le
 have hma0_Widths := hca0_Widths.mx
 have hla0_Heights := hca0_Heights.le
 have hma0_Heights := hca0_Heights.mx
 have hla0_Cells := hca0_Cells.le
 have hma0_Cells := hca0_Cells.mx
 have hla0_Merges := hca0_Merges.le
 have hma0_Merges := hca0_Merges.mx
 have hS := hI.sp
 have hsi := p0.I2 p1
 refine Calls_of (vs := [.agg #[.int .i64 a0.Right, .slice Aa0_Widths a0.Widths.length ca0_Widths, .slice Aa0_Heights a0.Heights.length ca0_Heights, .slice Aa0_Cells a0.Cells.length ca0_Cells, .slice Aa0_Merges a0.Merges.length ca0_Merges], .int .i64 a1, .int .i64 a2]) (N := 58) Try.func3 rfl rfl (Nat.le_of_ble_eq_true rfl) ?_
 refine C_seq ?_
 refine C_region ?_
 refine W_cons rfl (by decide) (S_box hS rfl (R_box (cs := [.int .i64 a0.Right, .slice Aa0_Widths a0.Widths.length ca0_Widths, .slice Aa0_Heights a0.Heights.length ca0_Heights, .slice Aa0_Cells a0.Cells.length ca0_Cells, .slice Aa0_Merges a0.Merges.length ca0_Merges]) rfl rfl rfl) (fun b2 w1 hS => ?_))
 refine wv rfl rfl rfl (R_assign rfl rfl) ?_
 refine W_nil ?_
 refine E_then ?_
 refine C_seq ?_
 refine C_region ?_
 refine wv rfl rfl rfl (R_loadN (cs := [.int .i64 a0.Right, .slice Aa0_Widths a0.Widths.length ca0_Widths, .slice Aa0_Heights a0.Heights.length ca0_Heights, .slice Aa0_Cells a0.Cells.length ca0_Cells, .slice Aa0_Merges a0.Merges.length ca0_Merges]) rfl rfl agg26 size26 rfl (boxcells (hS.bx 0 rfl) 0 rfl)) ?_
 refine W_cons rfl (by decide) (Sv_call rfl rfl rfl ent8 ?_)
 refine (rshown_calls a0 Aa0_Widths ca0_Widths Aa0_Heights ca0_Heights Aa0_Cells ca0_Cells Aa0_Merges ca0_Merges _ _ hS.out0 (hra0_Widths.mono (hS.zl [])) hca0_Widths (hra0_Heights.mono (hS.zl [])) hca0_Heights (hra0_Cells.mono (hS.zl [])) hca0_Cells (hra0_Merges.mono (hS.zl [])) hca0_Merges (by first | assumption | exact wrap_I64 _ | (unfold SzS at p1; omega))).mono ?_
 rintro e_ w3 ⟨AR0_4_Widths, cR0_4_Widths, AR0_4_Heights, cR0_4_Heights, AR0_4_Cells, cR0_4_Cells, AR0_4_Merges, cR0_4_Merges, rfl, hS_⟩
 refine ⟨_, rfl, ?_⟩
 have hS := hS.call0 hS_
 have hp5 := hS.cap 0 rfl
 have hlhp5 := hp5.le
 have hmhp5 := hp5.mx
 have hp6 := hS.cap 1 rfl
 have hlhp6 := hp6.le
 have hmhp6 := hp6.mx
 have hp7 := hS.cap 2 rfl
 have hlhp7 := hp7.le
 have hmhp7 := hp7.mx
 have hp8 := hS.cap 3 rfl
 have hlhp8 := hp8.le
 have hmhp8 := hp8.mx
 refine W_cons rfl (by decide) (S_box hS rfl (R_alloc rfl alloc26) (fun b10 w9 hS => ?_))
 refine W_cons0 rfl (S_store hS 0 rfl rfl rfl rfl rfl size26 (one_cons rfl (one_cons rfl (one_cons rfl (one_cons rfl (one_cons rfl one_nil))))) (Nat.le_of_ble_eq_true rfl) (fun w11 hS => ?_))
 have hS : Sp (FF []) w z w11 [bR b10 26 [.int .i64 a0.Right, .slice AR0_4_Widths a0.Widths.length cR0_4_Widths, .slice AR0_4_Heights a0.Heights.length cR0_4_Heights, .slice AR0_4_Cells a0.Cells.length cR0_4_Cells, .slice AR0_4_Merges a0.Merges.length cR0_4_Merges], oR (kint .i64) 3 zE AR0_4_Widths cR0_4_Widths a0.Widths, oR (kint .i64) 3 zE AR0_4_Heights cR0_4_Heights a0.Heights, oR kdTCell 60 zE AR0_4_Cells cR0_4_Cells a0.Cells, oR kdTRect 39 zE AR0_4_Merges cR0_4_Merges a0.Merges, bR b2 26 [.int .i64 a0.Right, .slice Aa0_Widths a0.Widths.length ca0_Widths, .slice Aa0_Heights a0.Heights.length ca0_Heights, .slice Aa0_Cells a0.Cells.length ca0_Cells, .slice Aa0_Merges a0.Merges.length ca0_Merges]] := hS
 refine W_nil ?_
 refine E_then ?_
 refine C_seq ?_
 refine C_seq ?_
 refine C_region ?_
 refine wv rfl rfl rfl (R_assign rfl rfl) ?_
 refine W_nil ?_
 refine E_then ?_
 refine C_block ?_
 refine C_fr [(1, .int .i64 a1), (2, .int .i64 a2), (3, .pointer (some ⟨b2, 0, none⟩)), (7, .pointer (some ⟨b10, 0, none⟩)), (8, .int .i64 0)] rfl ?_
 refine C_loop (fun m_ f_ w_ => ∃ (i : Nat), f_ = [(1, .int .i64 a1), (2, .int .i64 a2), (3, .pointer (some ⟨b2, 0, none⟩)), (7, .pointer (some ⟨b10, 0, none⟩)), (8, .int .i64 (i : Int))] ∧ i ≤ 5 ∧ m_ = 5 - i ∧ Sp (FF []) w z w_ [bR b2 26 [.int .i64 a0.Right, .slice Aa0_Widths a0.Widths.length ca0_Widths, .slice Aa0_Heights a0.Heights.length ca0_Heights, .slice Aa0_Cells a0.Cells.length ca0_Cells, .slice Aa0_Merges a0.Merges.length ca0_Merges], bR b10 26 [.int .i64 a0.Right, .slice AR0_4_Widths a0.Widths.length cR0_4_Widths, .slice AR0_4_Heights a0.Heights.length cR0_4_Heights, .slice AR0_4_Cells a0.Cells.length cR0_4_Cells, .slice AR0_4_Merges a0.Merges.length cR0_4_Merges], oR (kint .i64) 3 zE AR0_4_Widths cR0_4_Widths a0.Widths, oR (kint .i64) 3 zE AR0_4_Heights cR0_4_Heights a0.Heights, oR kdTCell 60 zE AR0_4_Cells cR0_4_Cells a0.Cells, oR kdTRect 39 zE AR0_4_Merges cR0_4_Merges a0.Merges]) (5 - (0 : Nat)) ⟨(0 : Nat), rfl, (by omega), rfl, hS.fin [5, 0, 1, 2, 3, 4] (by decide) rfl⟩ ?_
 rintro m_ f_ w12 ⟨i, rfl, hI0_0, rfl, hS⟩
 refine C_seq ?_
 refine C_seq ?_
 refine C_region ?_
 refine wv rfl rfl rfl (R_move rfl rfl) <| wv rfl rfl rfl (R_bin rfl rfl rfl rfl rfl) ?_
 refine W_nil ?_
 refine E_then ?_
 refine C_ite rfl (fun hC0 => ?_) (fun hC0 => ?_)
 ·have _hC0 := trivial
  have hC0p : (i : Int) < 5 := by simpa using hC0
  refine C_skip ?_
  refine E_then ?_
  refine C_seq ?_
  refine C_block ?_
  refine C_seq ?_
  refine C_region ?_
  refine wv rfl rfl rfl (R_move rfl rfl) <| wv rfl rfl rfl (R_move rfl rfl) <| wv rfl rfl rfl (R_rem64 rfl rfl rfl (by omega) (by omega) (by omega)) <| wv rfl rfl rfl (R_bin rfl rfl rfl rfl rfl) <| wv rfl rfl rfl (R_bin rfl rfl rfl rfl rfl) <| wv rfl rfl rfl (R_move rfl rfl) <| wv rfl rfl rfl (R_move rfl rfl) <| wv rfl rfl rfl (R_quo64 rfl rfl rfl (by omega) (by omega) (by omega)) <| wv rfl rfl rfl (R_bin rfl rfl rfl rfl rfl) <| wv rfl rfl rfl (R_assign rfl rfl) <| wv rfl rfl rfl (R_assign rfl rfl) ?_
  refine W_nil ?_
  refine E_then (C_fr [(1, .int .i64 a1), (2, .int .i64 a2), (3, .pointer (some ⟨b2, 0, none⟩)), (7, .pointer (some ⟨b10, 0, none⟩)), (8, .int .i64 (i : Int)), (9, .int .i64 (IntKind.i64.wrap ((IntKind.i64.wrap (a1 + ((i : Int) % 3))) - 1))), (10, .int .i64 (IntKind.i64.wrap (a2 + ((i : Int) / 3))))] rfl ?_)
  refine C_seq ?_
  refine C_region ?_
  refine wv rfl rfl rfl (R_loadN (cs := [.int .i64 a0.Right, .slice AR0_4_Widths a0.Widths.length cR0_4_Widths, .slice AR0_4_Heights a0.Heights.length cR0_4_Heights, .slice AR0_4_Cells a0.Cells.length cR0_4_Cells, .slice AR0_4_Merges a0.Merges.length cR0_4_Merges]) rfl rfl agg26 size26 rfl (boxcells (hS.bx 1 rfl) 0 rfl)) <| wv rfl rfl rfl (R_move rfl rfl) <| wv rfl rfl rfl (R_move rfl rfl) ?_
  refine W_cons rfl (by decide) (Sv_call rfl rfl rfl ent9 ?_)
  refine (arms_calls a0 AR0_4_Widths cR0_4_Widths AR0_4_Heights cR0_4_Heights AR0_4_Cells cR0_4_Cells AR0_4_Merges cR0_4_Merges (IntKind.i64.wrap ((IntKind.i64.wrap (a1 + ((i : Int) % 3))) - 1)) (IntKind.i64.wrap (a2 + ((i : Int) / 3))) _ _ hS.out0 (hS.ow [] 2 rfl rfl (zle_E _)) (hS.cap 2 rfl) (hS.ow [] 3 rfl rfl (zle_E _)) (hS.cap 3 rfl) (hS.ow [] 4 rfl rfl (zle_E _)) (hS.cap 4 rfl) (hS.ow [] 5 rfl rfl (zle_E _)) (hS.cap 5 rfl) (by first | assumption | exact wrap_I64 _ | (unfold SzS at p1; omega)) (by first | assumption | exact wrap_I64 _ | (unfold SzS at p1; omega))).mono ?_
  rintro e_ w13 ⟨rfl, hS_⟩
  refine ⟨_, rfl, ?_⟩
  have hS := hS.call0 hS_
  refine wv rfl rfl rfl (R_move rfl rfl) <| wv rfl rfl rfl (R_extract rfl rfl rfl) <| wv rfl rfl rfl (R_extract rfl rfl rfl) <| wv rfl rfl rfl (R_assign rfl rfl) <| wv rfl rfl rfl (R_assign rfl rfl) ?_
  refine W_nil ?_
  refine E_then (C_fr [(1, .int .i64 a1), (2, .int .i64 a2), (3, .pointer (some ⟨b2, 0, none⟩)), (7, .pointer (some ⟨b10, 0, none⟩)), (8, .int .i64 (i : Int)), (9, .int .i64 (IntKind.i64.wrap ((IntKind.i64.wrap (a1 + ((i : Int) % 3))) - 1))), (10, .int .i64 (IntKind.i64.wrap (a2 + ((i : Int) / 3)))), (11, .int .i64 (armsS a0 (IntKind.i64.wrap ((IntKind.i64.wrap (a1 + ((i : Int) % 3))) - 1)) (IntKind.i64.wrap (a2 + ((i : Int) / 3)))).1), (12, .int .i64 (armsS a0 (IntKind.i64.wrap ((IntKind.i64.wrap (a1 + ((i : Int) % 3))) - 1)) (IntKind.i64.wrap (a2 + ((i : Int) / 3)))).2)] rfl ?_)
  refine C_seq ?_
  refine C_region ?_
  refine wv rfl rfl rfl (R_loadN (cs := [.int .i64 a0.Right, .slice Aa0_Widths a0.Widths.length ca0_Widths, .slice Aa0_Heights a0.Heights.length ca0_Heights, .slice Aa0_Cells a0.Cells.length ca0_Cells, .slice Aa0_Merges a0.Merges.length ca0_Merges]) rfl rfl agg26 size26 rfl (boxcells (hS.bx 0 rfl) 0 rfl)) <| wv rfl rfl rfl (R_move rfl rfl) <| wv rfl rfl rfl (R_move rfl rfl) ?_
  refine W_cons rfl (by decide) (Sv_call rfl rfl rfl ent10 ?_)
  refine (rarms_calls a0 Aa0_Widths ca0_Widths Aa0_Heights ca0_Heights Aa0_Cells ca0_Cells Aa0_Merges ca0_Merges (IntKind.i64.wrap ((IntKind.i64.wrap (a1 + ((i : Int) % 3))) - 1)) (IntKind.i64.wrap (a2 + ((i : Int) / 3))) _ _ hS.out0 (hra0_Widths.mono (hS.zl [])) hca0_Widths (hra0_Heights.mono (hS.zl [])) hca0_Heights (hra0_Cells.mono (hS.zl [])) hca0_Cells (hra0_Merges.mono (hS.zl [])) hca0_Merges (by first | assumption | exact wrap_I64 _ | (unfold SzS at p1; omega))).mono ?_
  rintro e_ w15 ⟨rfl, hS_⟩
  refine ⟨_, rfl, ?_⟩
  have hS := hS.call0 hS_
  refine wv rfl rfl rfl (R_move rfl rfl) <| wv rfl rfl rfl (R_extract rfl rfl rfl) <| wv rfl rfl rfl (R_extract rfl rfl rfl) <| wv rfl rfl rfl (R_assign rfl rfl) <| wv rfl rfl rfl (R_assign rfl rfl) ?_
  refine W_nil ?_
  refine E_then (C_fr [(1, .int .i64 a1), (2, .int .i64 a2), (3, .pointer (some ⟨b2, 0, none⟩)), (7, .pointer (some ⟨b10, 0, none⟩)), (8, .int .i64 (i : Int)), (11, .int .i64 (armsS a0 (IntKind.i64.wrap ((IntKind.i64.wrap (a1 + ((i : Int) % 3))) - 1)) (IntKind.i64.wrap (a2 + ((i : Int) / 3)))).1), (12, .int .i64 (armsS a0 (IntKind.i64.wrap ((IntKind.i64.wrap (a1 + ((i : Int) % 3))) - 1)) (IntKind.i64.wrap (a2 + ((i : Int) / 3)))).2), (13, .int .i64 (rarmsS a0 (IntKind.i64.wrap ((IntKind.i64.wrap (a1 + ((i : Int) % 3))) - 1)) (IntKind.i64.wrap (a2 + ((i : Int) / 3)))).1), (14, .int .i64 (rarmsS a0 (IntKind.i64.wrap ((IntKind.i64.wrap (a1 + ((i : Int) % 3))) - 1)) (IntKind.i64.wrap (a2 + ((i : Int) / 3)))).2)] rfl ?_)
  refine C_seq ?_
  refine C_region ?_
  refine wv rfl rfl rfl (R_move rfl rfl) <| wv rfl rfl rfl (R_move rfl rfl) <| wv rfl rfl rfl (R_bin rfl rfl rfl rfl rfl) <| wv rfl rfl rfl (R_move rfl rfl) ?_
  have hk17 : (((armsS a0 (IntKind.i64.wrap ((IntKind.i64.wrap (a1 + ((i : Int) % 3))) - 1)) (IntKind.i64.wrap (a2 + ((i : Int) / 3)))).1 != (rarmsS a0 (IntKind.i64.wrap ((IntKind.i64.wrap (a1 + ((i : Int) % 3))) - 1)) (IntKind.i64.wrap (a2 + ((i : Int) / 3)))).1)) = false := by rw [arms_law hsi]; simp
  have hk17p : (armsS a0 (IntKind.i64.wrap ((IntKind.i64.wrap (a1 + ((i : Int) % 3))) - 1)) (IntKind.i64.wrap (a2 + ((i : Int) / 3)))).1 = (rarmsS a0 (IntKind.i64.wrap ((IntKind.i64.wrap (a1 + ((i : Int) % 3))) - 1)) (IntKind.i64.wrap (a2 + ((i : Int) / 3)))).1 := by simpa using hk17
  refine W_cons rfl (by decide) (Sv_gt rfl rfl rfl hk17 (Sv_val rfl (R_move rfl rfl) ?_))
  refine W_cons rfl (by decide) (Sv_gt rfl rfl rfl hk17 (Sv_val rfl (R_move rfl rfl) ?_))
  refine W_cons rfl (by decide) (Sv_gt rfl rfl rfl hk17 (Sv_val rfl (R_bin rfl rfl rfl rfl rfl) ?_))
  refine wv rfl rfl rfl (R_pick_f rfl rfl hk17 rfl) ?_
  refine W_nil ?_
  refine E_then (C_fr [(1, .int .i64 a1), (2, .int .i64 a2), (3, .pointer (some ⟨b2, 0, none⟩)), (7, .pointer (some ⟨b10, 0, none⟩)), (8, .int .i64 (i : Int)), (51, .bool ((armsS a0 (IntKind.i64.wrap ((IntKind.i64.wrap (a1 + ((i : Int) % 3))) - 1)) (IntKind.i64.wrap (a2 + ((i : Int) / 3)))).2 != (rarmsS a0 (IntKind.i64.wrap ((IntKind.i64.wrap (a1 + ((i : Int) % 3))) - 1)) (IntKind.i64.wrap (a2 + ((i : Int) / 3)))).2))] rfl ?_)
  have hk18 : (((armsS a0 (IntKind.i64.wrap ((IntKind.i64.wrap (a1 + ((i : Int) % 3))) - 1)) (IntKind.i64.wrap (a2 + ((i : Int) / 3)))).2 != (rarmsS a0 (IntKind.i64.wrap ((IntKind.i64.wrap (a1 + ((i : Int) % 3))) - 1)) (IntKind.i64.wrap (a2 + ((i : Int) / 3)))).2)) = false := by rw [arms_law hsi]; simp
  have hk18p : (armsS a0 (IntKind.i64.wrap ((IntKind.i64.wrap (a1 + ((i : Int) % 3))) - 1)) (IntKind.i64.wrap (a2 + ((i : Int) / 3)))).2 = (rarmsS a0 (IntKind.i64.wrap ((IntKind.i64.wrap (a1 + ((i : Int) % 3))) - 1)) (IntKind.i64.wrap (a2 + ((i : Int) / 3)))).2 := by simpa using hk18
  refine C_else rfl hk18 ?_
  refine C_skip ?_
  refine E_block_normal ?_
  refine E_then ?_
  refine C_region ?_
  refine wv rfl rfl rfl (R_move rfl rfl) <| wv rfl rfl rfl (R_bin rfl rfl rfl rfl rfl) <| wv rfl rfl rfl (R_assign rfl rfl) ?_
  refine W_nil ?_
  have hs19 : IntKind.i64.wrap ((i : Int) + 1) = ((i + 1 : Nat) : Int) := by rw [wrap_id (by omega) (by omega)]; rfl
  refine E_round [1, 2, 3, 7, 8] ?_ ⟨(i + 1 : Nat), (by rw [← hs19] <;> rfl), (by omega), rfl, hS.fin [0, 1, 2, 3, 4, 5] (by decide) rfl⟩
  omega
 ·have _hC0 := trivial
  have hC0p : ¬ ((i : Int) < 5) := by simpa using hC0
  refine C_exit ?_
  refine E_then_exit ?_
  refine E_then_exit ?_
  refine E_block_hit ?_
  refine E_then (C_fr [(3, .pointer (some ⟨b2, 0, none⟩)), (7, .pointer (some ⟨b10, 0, none⟩))] rfl ?_)
  refine C_seq ?_
  refine C_region ?_
  refine wv rfl rfl rfl (R_loadN (cs := [.int .i64 a0.Right, .slice AR0_4_Widths a0.Widths.length cR0_4_Widths, .slice AR0_4_Heights a0.Heights.length cR0_4_Heights, .slice AR0_4_Cells a0.Cells.length cR0_4_Cells, .slice AR0_4_Merges a0.Merges.length cR0_4_Merges]) rfl rfl agg26 size26 rfl (boxcells (hS.bx 1 rfl) 0 rfl)) <| wv rfl rfl rfl (R_loadN (cs := [.int .i64 a0.Right, .slice Aa0_Widths a0.Widths.length ca0_Widths, .slice Aa0_Heights a0.Heights.length ca0_Heights, .slice Aa0_Cells a0.Cells.length ca0_Cells, .slice Aa0_Merges a0.Merges.length ca0_Merges]) rfl rfl agg26 size26 rfl (boxcells (hS.bx 0 rfl) 0 rfl)) ?_
  refine W_cons rfl (by decide) (Sv_call rfl rfl rfl ent11 ?_)
  refine (rshsame_calls a0 AR0_4_Widths cR0_4_Widths AR0_4_Heights cR0_4_Heights AR0_4_Cells cR0_4_Cells AR0_4_Merges cR0_4_Merges a0 Aa0_Widths ca0_Widths Aa0_Heights ca0_Heights Aa0_Cells ca0_Cells Aa0_Merges ca0_Merges _ _ hS.out0 (hS.ow [] 2 rfl rfl (zle_E _)) (hS.cap 2 rfl) (hS.ow [] 3 rfl rfl (zle_E _)) (hS.cap 3 rfl) (hS.ow [] 4 rfl rfl (zle_E _)) (hS.cap 4 rfl) (hS.ow [] 5 rfl rfl (zle_E _)) (hS.cap 5 rfl) (hra0_Widths.mono (hS.zl [])) hca0_Widths (hra0_Heights.mono (hS.zl [])) hca0_Heights (hra0_Cells.mono (hS.zl [])) hca0_Cells (hra0_Merges.mono (hS.zl [])) hca0_Merges ).mono ?_
  rintro e_ w20 ⟨rfl, hS_⟩
  refine ⟨_, rfl, ?_⟩
  have hS := hS.call0 hS_
  refine wv rfl rfl rfl (R_move rfl rfl) ?_
  have hk22 : (decide (a0 = a0)) = true := by simp
  refine W_cons rfl (by decide) (Sv_gt rfl rfl rfl hk22 (Sv_call rfl rfl rfl ent12 ?_))
  refine (eawake_calls  _ _ hS.out0  ).mono ?_
  rintro e_ w23 ⟨rfl, hS_⟩
  refine ⟨_, rfl, ?_⟩
  have hS := hS.call0 hS_
  refine wv rfl rfl rfl (R_pick_t rfl rfl hk22 rfl) <| wv rfl rfl rfl (R_assign rfl rfl) ?_
  refine W_nil ?_
  refine E_then (C_fr [(6, .bool true)] rfl ?_)
  refine C_ret ?_
  refine E_ret1 rfl rfl ?_
  exact ⟨Lret1 (Lbool (show true = true by rfl)), hS.fin [] (by decide) rfl⟩

end Go.Proofs.YtalpekmbknjeeaaG
