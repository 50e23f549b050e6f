/- The walk of the law EdgeBoth: it returns true. -/
import Derived.Test.YtalpekmbknjeeaaF1
set_option linter.all false
namespace Go.Proofs.YtalpekmbknjeeaaG
open Go Go.RowKit
set_option maxHeartbeats 400000 in
set_option maxRecDepth 20000 in
theorem edgeBoth_calls (a0 : TSheet) (Aa0_Widths : Option Addr) (ca0_Widths : Nat) (Aa0_Heights : Option Addr) (ca0_Heights : Nat) (Aa0_Cells : Option Addr) (ca0_Cells : Nat) (Aa0_Merges : Option Addr) (ca0_Merges : Nat) (a1 : Int) (a2 : Int) (z : Z) (w : World) (hI : In z w []) (hra0_Widths : Rd (kint .i64) z Aa0_Widths a0.Widths) (hca0_Widths : Cap Aa0_Widths a0.Widths.length ca0_Widths) (hra0_Heights : Rd (kint .i64) z Aa0_Heights a0.Heights) (hca0_Heights : Cap Aa0_Heights a0.Heights.length ca0_Heights) (hra0_Cells : Rd kdTCell z Aa0_Cells a0.Cells) (hca0_Cells : Cap Aa0_Cells a0.Cells.length ca0_Cells) (hra0_Merges : Rd kdTRect z Aa0_Merges a0.Merges) (hca0_Merges : Cap Aa0_Merges a0.Merges.length ca0_Merges) (p0 : SheetG a0) (p1 : SzS a0) (p2 : I64 a1) (p3 : I64 a2) :
    Calls Try.prog 5 #[.agg #[.int .i64 a0.Right, .slice Aa0_Widths a0.Widths.length ca0_Widths, .slice Aa0_Heights a0.Heights.length ca0_Heights, .slice Aa0_Cells a0.Cells.length ca0_Cells, .slice Aa0_Merges a0.Merges.length ca0_Merges], .int .i64 a1, .int .i64 a2] w fun e w' => e = .returned (.bool true) ∧ Sp (FF []) w z w' [] := by
 have hla0_Widths := hca0_Widths.le
 have hma0_Widths := hca0_Widths.mx
 have hla0_Heights := hca0_Heights.le
 have hma0_Heights := hca0_Heights.mx
 have hla0_Cells := hca0_Cells.le
 have hma0_Cells := hca0_Cells.mx
 have hla0_Merges := hca0_Merges.le
 have hma0_Merges := hca0_Merges.mx
 have hS := hI.sp
 have hsi := p0.I2 p1
 refine Calls_of (vs := [.agg #[.int .i64 a0.Right, .slice Aa0_Widths a0.Widths.length ca0_Widths, .slice Aa0_Heights a0.Heights.length ca0_Heights, .slice Aa0_Cells a0.Cells.length ca0_Cells, .slice Aa0_Merges a0.Merges.length ca0_Merges], .int .i64 a1, .int .i64 a2]) (N := 84) Try.func5 rfl rfl (Nat.le_of_ble_eq_true rfl) ?_
 refine C_seq ?_
 refine C_region ?_
 refine W_cons rfl (by decide) (S_box hS rfl (R_box (cs := [.int .i64 a0.Right, .slice Aa0_Widths a0.Widths.length ca0_Widths, .slice Aa0_Heights a0.Heights.length ca0_Heights, .slice Aa0_Cells a0.Cells.length ca0_Cells, .slice Aa0_Merges a0.Merges.length ca0_Merges]) rfl rfl rfl) (fun b2 w1 hS => ?_))
 refine wv rfl rfl rfl (R_assign rfl rfl) ?_
 refine W_nil ?_
 refine E_then ?_
 refine C_seq ?_
 refine C_region ?_
 refine wv rfl rfl rfl (R_loadN (cs := [.int .i64 a0.Right, .slice Aa0_Widths a0.Widths.length ca0_Widths, .slice Aa0_Heights a0.Heights.length ca0_Heights, .slice Aa0_Cells a0.Cells.length ca0_Cells, .slice Aa0_Merges a0.Merges.length ca0_Merges]) rfl rfl agg26 size26 rfl (boxcells (hS.bx 0 rfl) 0 rfl)) <| wv rfl rfl rfl (R_move rfl rfl) <| wv rfl rfl rfl (R_move rfl rfl) ?_
 refine W_cons rfl (by decide) (Sv_call rfl rfl rfl ent9 ?_)
 refine (arms_calls a0 Aa0_Widths ca0_Widths Aa0_Heights ca0_Heights Aa0_Cells ca0_Cells Aa0_Merges ca0_Merges a1 a2 _ _ hS.out0 (hra0_Widths.mono (hS.zl [])) hca0_Widths (hra0_Heights.mono (hS.zl [])) hca0_Heights (hra0_Cells.mono (hS.zl [])) hca0_Cells (hra0_Merges.mono (hS.zl [])) hca0_Merges (by first | assumption | (unfold I64; omega)) (by first | assumption | (unfold I64; omega))).mono ?_
 rintro e_ w3 ⟨rfl, hS_⟩
 refine ⟨_, rfl, ?_⟩
 have hS := hS.call0 hS_
 refine wv rfl rfl rfl (R_move rfl rfl) <| wv rfl rfl rfl (R_extract rfl rfl rfl) <| wv rfl rfl rfl (R_extract rfl rfl rfl) <| wv rfl rfl rfl (R_assign rfl rfl) <| wv rfl rfl rfl (R_assign rfl rfl) ?_
 refine W_nil ?_
 refine E_then (C_fr [(1, .int .i64 a1), (2, .int .i64 a2), (3, .pointer (some ⟨b2, 0, none⟩)), (7, .int .i64 (armsS a0 a1 a2).1), (8, .int .i64 (armsS a0 a1 a2).2)] rfl ?_)
 refine C_seq ?_
 refine C_seq ?_
 refine C_region ?_
 refine wv rfl rfl rfl (R_move rfl rfl) <| wv rfl rfl rfl (R_bin rfl rfl rfl rfl rfl) ?_
 refine W_nil ?_
 refine E_then ?_
 refine C_ite rfl (fun hC0 => ?_) (fun hC0 => ?_)
 ·have _hC0 := trivial
  have hC0p : ¬ (armsS a0 a1 a2).2 = 0 := by simpa using hC0
  refine C_seq ?_
  refine C_region ?_
  refine wv rfl rfl rfl (R_move rfl rfl) <| wv rfl rfl rfl (R_bin rfl rfl rfl rfl rfl) <| wv rfl rfl rfl (R_move rfl rfl) ?_
  have hk5 : (((armsS a0 a1 a2).1 == 0)) = true := by rw [arms_none (by assumption)]; rfl
  have hk5p : (armsS a0 a1 a2).1 = 0 := by simpa using hk5
  refine W_cons rfl (by decide) (Sv_gt rfl rfl rfl hk5 (Sv_call rfl rfl rfl ent12 ?_))
  refine (eawake_calls  _ _ hS.out0  ).mono ?_
  rintro e_ w6 ⟨rfl, hS_⟩
  refine ⟨_, rfl, ?_⟩
  have hS := hS.call0 hS_
  refine wv rfl rfl rfl (R_pick_t rfl rfl hk5 rfl) <| wv rfl rfl rfl (R_assign rfl rfl) ?_
  refine W_nil ?_
  refine E_then (C_fr [(6, .bool true)] rfl ?_)
  refine C_ret ?_
  refine E_then_ret ?_
  refine E_ret1 rfl rfl ?_
  exact ⟨Lret1 (Lbool (show true = true by rfl)), hS.fin [] (by decide) rfl⟩
 ·have _hC0 := trivial
  have hC0p : (armsS a0 a1 a2).2 = 0 := by simpa using hC0
  refine C_skip ?_
  refine E_then ?_
  refine C_seq ?_
  obtain ⟨hck, hof⟩ := arms_in (s := a0) (u := a1) (v := a2) (by omega)
  have hgd := good_of hsi hck
  have hhs := hgd.hs
  have hws := hgd.ws
  have hof' := hof
  rw [off_iff] at hof'
  have hsb0 := starts_bd a0.Widths a0.Widths.length (Nat.le_refl _)
  have hsb1 := starts_bd a0.Heights a0.Heights.length (Nat.le_refl _)
  have hsa := hgd.some_arms hof
  refine C_region ?_
  refine W_cons rfl (by decide) (S_row (d := (kint .i64)) (q := zE) hS ([1, 0, (-1), 0] : List Int) rfl (R_buildSlice (ps := [(0, (.const (.int .i64 1))), (1, (.const (.int .i64 0))), (2, (.const (.int .i64 (-1)))), (3, (.const (.int .i64 0)))]) (vs := [.int .i64 1, .int .i64 0, .int .i64 (-1), .int .i64 0]) (w' := w3.alloc (.cells [.int .i64 1, .int .i64 0, .int .i64 (-1), .int .i64 0].toArray 3)) (r := .slice (some ⟨w3.heap.size, 0, none⟩) 4 4) rfl rfl rfl (by kernel_rfl)) (by simp [Reps, flat, kint]) rfl (by decide) (fun g9 w8 hS => ?_))
  refine wv rfl rfl rfl (R_assign rfl rfl) ?_
  refine W_nil ?_
  refine E_then ?_
  refine C_seq ?_
  refine C_seq ?_
  refine C_region ?_
  refine wv rfl rfl rfl (R_assign rfl rfl) ?_
  refine W_nil ?_
  refine E_then ?_
  refine C_block ?_
  refine C_fr [(1, .int .i64 a1), (2, .int .i64 a2), (3, .pointer (some ⟨b2, 0, none⟩)), (7, .int .i64 (armsS a0 a1 a2).1), (9, .slice (some ⟨g9, 0, none⟩) ([1, 0, (-1), 0] : List Int).length 4), (10, .int .i64 0)] rfl ?_
  refine C_loop (fun m_ f_ w_ => ∃ (i : Nat), f_ = [(1, .int .i64 a1), (2, .int .i64 a2), (3, .pointer (some ⟨b2, 0, none⟩)), (7, .int .i64 (armsS a0 a1 a2).1), (9, .slice (some ⟨g9, 0, none⟩) ([1, 0, (-1), 0] : List Int).length 4), (10, .int .i64 (i : Int))] ∧ i ≤ 4 ∧ m_ = 4 - i ∧ Sp (FF []) w z w_ [bR b2 26 [.int .i64 a0.Right, .slice Aa0_Widths a0.Widths.length ca0_Widths, .slice Aa0_Heights a0.Heights.length ca0_Heights, .slice Aa0_Cells a0.Cells.length ca0_Cells, .slice Aa0_Merges a0.Merges.length ca0_Merges], oR (kint .i64) 3 zE (some ⟨g9, 0, none⟩) 4 ([1, 0, (-1), 0] : List Int)]) (4 - (0 : Nat)) ⟨(0 : Nat), rfl, (by omega), rfl, hS.fin [1, 0] (by decide) rfl⟩ ?_
  rintro m_ f_ w10 ⟨i, rfl, hI0_0, rfl, hS⟩
  refine C_seq ?_
  refine C_seq ?_
  refine C_region ?_
  refine wv rfl rfl rfl (R_move rfl rfl) <| wv rfl rfl rfl (R_bin rfl rfl rfl rfl rfl) ?_
  refine W_nil ?_
  refine E_then ?_
  refine C_ite rfl (fun hC1 => ?_) (fun hC1 => ?_)
  ·have _hC1 := trivial
   have hC1p : (i : Int) < 4 := by simpa using hC1
   refine C_skip ?_
   refine E_then ?_
   refine C_seq ?_
   refine C_block ?_
   refine C_seq ?_
   have hl4 : ([1, 0, (-1), 0] : List Int).length = 4 := rfl
   have hdx1 : -1 ≤ ([1, 0, (-1), 0] : List Int).getD i 0 ∧ ([1, 0, (-1), 0] : List Int).getD i 0 ≤ 1 := dx_bd i
   have hdx2 : -1 ≤ ([1, 0, (-1), 0] : List Int).getD (((i : Int) + 3) % 4).toNat 0 ∧ ([1, 0, (-1), 0] : List Int).getD (((i : Int) + 3) % 4).toNat 0 ≤ 1 := dx_bd _
   refine C_fr [(1, .int .i64 a1), (2, .int .i64 a2), (3, .pointer (some ⟨b2, 0, none⟩)), (7, .int .i64 (armsS a0 a1 a2).1), (9, .slice (some ⟨g9, 0, none⟩) ([1, 0, (-1), 0] : List Int).length 4), (10, .int .i64 (i : Int))] rfl ?_
   obtain ⟨q11, hAq11, hxq11⟩ := (hS.rw 1 rfl).ix (0 : Int) (i := (i : Int)) (by omega) (by omega)
   obtain ⟨q12, hAq12, hxq12⟩ := (hS.rw 1 rfl).ix (0 : Int) (i := (((i : Int) + 3) % 4)) (by omega) (by omega)
   refine C_drawn2 21 [[], [], [], [], [2, 3], [4], [1, 5], [], [], [], [9], [10], [8, 11], [12], [7, 13], [0, 6, 14], [15], [16], [16], [17, 15, 0, 1, 2, 3, 4, 5, 6, 7, 8, 9, 10, 11, 12, 13, 14, 15, 16, 17], [18, 19, 0, 1, 2, 3, 4, 5, 6, 7, 8, 9, 10, 11, 12, 13, 14, 15, 16, 17, 18, 19]] [some 34, some 35, some 36, some 37, some 38, some 39, some 40, some 41, some 42, some 43, some 44, some 45, some 46, some 47, some 48, some 49, some 33, some 50, some 51, some 11, some 12] [1, 2, 3, 7, 9, 10] (List.replicate 21 21) (List.replicate 21 []) (List.replicate 21 []) [fun γ_ => .agg #[.int .i64 a0.Right, .slice Aa0_Widths a0.Widths.length ca0_Widths, .slice Aa0_Heights a0.Heights.length ca0_Heights, .slice Aa0_Cells a0.Cells.length ca0_Cells, .slice Aa0_Merges a0.Merges.length ca0_Merges], fun γ_ => .int .i64 a1, fun γ_ => .slice (some ⟨g9, 0, none⟩) ([1, 0, (-1), 0] : List Int).length 4, fun γ_ => .int .i64 (i : Int), fun γ_ => .pointer (some (q11.add (i * 1))), fun γ_ => .int .i64 (([1, 0, (-1), 0] : List Int).getD i (0 : Int)), fun γ_ => .int .i64 (a1 + (([1, 0, (-1), 0] : List Int).getD i (0 : Int))), fun γ_ => .int .i64 a2, fun γ_ => .slice (some ⟨g9, 0, none⟩) ([1, 0, (-1), 0] : List Int).length 4, fun γ_ => .int .i64 (i : Int), fun γ_ => .int .i64 ((i : Int) + 3), fun γ_ => .int .i64 (((i : Int) + 3) % 4), fun γ_ => .pointer (some (q12.add ((((i : Int) + 3) % 4).toNat * 1))), fun γ_ => .int .i64 (([1, 0, (-1), 0] : List Int).getD (((i : Int) + 3) % 4).toNat (0 : Int)), fun γ_ => .int .i64 (a2 + (([1, 0, (-1), 0] : List Int).getD (((i : Int) + 3) % 4).toNat (0 : Int))), fun γ_ => .tuple #[.int .i64 (armsS a0 (a1 + (([1, 0, (-1), 0] : List Int).getD i (0 : Int))) (a2 + (([1, 0, (-1), 0] : List Int).getD (((i : Int) + 3) % 4).toNat (0 : Int)))).1, .int .i64 (armsS a0 (a1 + (([1, 0, (-1), 0] : List Int).getD i (0 : Int))) (a2 + (([1, 0, (-1), 0] : List Int).getD (((i : Int) + 3) % 4).toNat (0 : Int)))).2], fun γ_ => .tuple #[.int .i64 (armsS a0 (a1 + (([1, 0, (-1), 0] : List Int).getD i (0 : Int))) (a2 + (([1, 0, (-1), 0] : List Int).getD (((i : Int) + 3) % 4).toNat (0 : Int)))).1, .int .i64 (armsS a0 (a1 + (([1, 0, (-1), 0] : List Int).getD i (0 : Int))) (a2 + (([1, 0, (-1), 0] : List Int).getD (((i : Int) + 3) % 4).toNat (0 : Int)))).2], fun γ_ => .int .i64 (armsS a0 (a1 + (([1, 0, (-1), 0] : List Int).getD i (0 : Int))) (a2 + (([1, 0, (-1), 0] : List Int).getD (((i : Int) + 3) % 4).toNat (0 : Int)))).1, fun γ_ => .int .i64 (armsS a0 (a1 + (([1, 0, (-1), 0] : List Int).getD i (0 : Int))) (a2 + (([1, 0, (-1), 0] : List Int).getD (((i : Int) + 3) % 4).toNat (0 : Int)))).2, fun γ_ => .int .i64 (armsS a0 (a1 + (([1, 0, (-1), 0] : List Int).getD i (0 : Int))) (a2 + (([1, 0, (-1), 0] : List Int).getD (((i : Int) + 3) % 4).toNat (0 : Int)))).1, fun γ_ => .int .i64 (armsS a0 (a1 + (([1, 0, (-1), 0] : List Int).getD i (0 : Int))) (a2 + (([1, 0, (-1), 0] : List Int).getD (((i : Int) + 3) % 4).toNat (0 : Int)))).2] (List.replicate 21 (fun _ => [])) rfl (by kernel_rfl) (by decide +kernel) hS ?_ ?_
   ·refine ⟨fun _ _ _ hS => Sv_val rfl (R_loadN (cs := [.int .i64 a0.Right, .slice Aa0_Widths a0.Widths.length ca0_Widths, .slice Aa0_Heights a0.Heights.length ca0_Heights, .slice Aa0_Cells a0.Cells.length ca0_Cells, .slice Aa0_Merges a0.Merges.length ca0_Merges]) rfl rfl agg26 size26 rfl (boxcells (hS.bx 0 rfl) 0 rfl)) ⟨gh0, rfl, hS⟩, fun _ _ _ hS => Sv_val rfl (R_move rfl rfl) ⟨gh0, rfl, hS⟩, fun _ _ _ hS => Sv_val rfl (R_move rfl rfl) ⟨gh0, rfl, hS⟩, fun _ _ _ hS => Sv_val rfl (R_move rfl rfl) ⟨gh0, rfl, hS⟩, fun _ _ _ hS => Sv_val rfl (R_idx rfl rfl hAq11 rfl Try.underlying22 size3 (by omega) (by omega)) ⟨gh0, rfl, hS⟩, fun _ _ _ hS => Sv_val rfl (R_load1 rfl rfl agg3 ((hS.rw 1 rfl).cellAt hAq11 hxq11 (fun _ h => h) 0 _ rfl)) ⟨gh0, rfl, hS⟩, fun _ _ _ hS => Sv_val rfl (R_add64 rfl rfl rfl (by omega) (by omega)) ⟨gh0, rfl, hS⟩, fun _ _ _ hS => Sv_val rfl (R_move rfl rfl) ⟨gh0, rfl, hS⟩, fun _ _ _ hS => Sv_val rfl (R_move rfl rfl) ⟨gh0, rfl, hS⟩, fun _ _ _ hS => Sv_val rfl (R_move rfl rfl) ⟨gh0, rfl, hS⟩, fun _ _ _ hS => Sv_val rfl (R_add64 rfl rfl rfl (by omega) (by omega)) ⟨gh0, rfl, hS⟩, fun _ _ _ hS => Sv_val rfl (R_rem64 rfl rfl rfl (by omega) (by omega) (by omega)) ⟨gh0, rfl, hS⟩, fun _ _ _ hS => Sv_val rfl (R_idx rfl rfl hAq12 rfl Try.underlying22 size3 (by omega) (by omega)) ⟨gh0, rfl, hS⟩, fun _ _ _ hS => Sv_val rfl (R_load1 rfl rfl agg3 ((hS.rw 1 rfl).cellAt hAq12 hxq12 (fun _ h => h) 0 _ rfl)) ⟨gh0, rfl, hS⟩, fun _ _ _ hS => Sv_val rfl (R_add64 rfl rfl rfl (by omega) (by omega)) ⟨gh0, rfl, hS⟩, fun g_ w45 fr46 hS => ?_, ?_⟩
    ·have _w45 := trivial
     have hS : Sp (FF []) w z w45 [bR b2 26 [.int .i64 a0.Right, .slice Aa0_Widths a0.Widths.length ca0_Widths, .slice Aa0_Heights a0.Heights.length ca0_Heights, .slice Aa0_Cells a0.Cells.length ca0_Cells, .slice Aa0_Merges a0.Merges.length ca0_Merges], oR (kint .i64) 3 zE (some ⟨g9, 0, none⟩) 4 ([1, 0, (-1), 0] : List Int), allR fr46] := hS
     refine Sv_call rfl rfl rfl ent9 ?_
     refine (arms_calls a0 Aa0_Widths ca0_Widths Aa0_Heights ca0_Heights Aa0_Cells ca0_Cells Aa0_Merges ca0_Merges (a1 + (([1, 0, (-1), 0] : List Int).getD i (0 : Int))) (a2 + (([1, 0, (-1), 0] : List Int).getD (((i : Int) + 3) % 4).toNat (0 : Int))) _ _ hS.out0 (hra0_Widths.mono (hS.zl [])) hca0_Widths (hra0_Heights.mono (hS.zl [])) hca0_Heights (hra0_Cells.mono (hS.zl [])) hca0_Cells (hra0_Merges.mono (hS.zl [])) hca0_Merges (by first | assumption | (unfold I64; omega)) (by first | assumption | (unfold I64; omega))).mono ?_
     rintro e_ w47 ⟨rfl, hS_⟩
     refine ⟨_, rfl, ?_⟩
     have hS := hS.call0 hS_
     exact ⟨⟨fun _ => none, fun _ => 0, fun _ => zE, fun _ => 0⟩, rfl, hS.fin [0, 1, 2] (by decide) rfl⟩
    refine ⟨fun _ _ _ hS => Sv_val rfl (R_move rfl rfl) ⟨gh0, rfl, hS⟩, fun _ _ _ hS => Sv_val rfl (R_extract rfl rfl rfl) ⟨gh0, rfl, hS⟩, fun _ _ _ hS => Sv_val rfl (R_extract rfl rfl rfl) ⟨gh0, rfl, hS⟩, fun _ _ _ hS => Sv_val rfl (R_assign rfl rfl) ⟨gh0, rfl, hS⟩, fun _ _ _ hS => Sv_val rfl (R_assign rfl rfl) ⟨gh0, rfl, hS⟩, ?_⟩
    exact trivial
   ·intro g_ w59 hS
    have hS : Sp (FF []) w z w59 [bR b2 26 [.int .i64 a0.Right, .slice Aa0_Widths a0.Widths.length ca0_Widths, .slice Aa0_Heights a0.Heights.length ca0_Heights, .slice Aa0_Cells a0.Cells.length ca0_Cells, .slice Aa0_Merges a0.Merges.length ca0_Merges], oR (kint .i64) 3 zE (some ⟨g9, 0, none⟩) 4 ([1, 0, (-1), 0] : List Int)] := hS
    refine An_fr [(1, .int .i64 a1), (2, .int .i64 a2), (3, .pointer (some ⟨b2, 0, none⟩)), (7, .int .i64 (armsS a0 a1 a2).1), (9, .slice (some ⟨g9, 0, none⟩) ([1, 0, (-1), 0] : List Int).length 4), (10, .int .i64 (i : Int)), (11, .int .i64 (armsS a0 (a1 + (([1, 0, (-1), 0] : List Int).getD i (0 : Int))) (a2 + (([1, 0, (-1), 0] : List Int).getD (((i : Int) + 3) % 4).toNat (0 : Int)))).1), (12, .int .i64 (armsS a0 (a1 + (([1, 0, (-1), 0] : List Int).getD i (0 : Int))) (a2 + (([1, 0, (-1), 0] : List Int).getD (((i : Int) + 3) % 4).toNat (0 : Int)))).2)] rfl ?_
    refine An_done (by decide +kernel) ?_
    refine E_then ?_
    refine C_seq ?_
    refine C_region ?_
    refine wv rfl rfl rfl (R_move rfl rfl) <| wv rfl rfl rfl (R_bin rfl rfl rfl rfl rfl) <| wv rfl rfl rfl (R_move rfl rfl) <| wg rfl rfl (Gd.on rfl rfl rfl) (fun hB => R_move rfl rfl) <| wg rfl rfl (Gd.on rfl rfl rfl) (fun hB => R_move rfl rfl) <| wg rfl rfl (Gd.on rfl rfl rfl) (fun hB => by have hB0_ : (armsS a0 (a1 + (([1, 0, (-1), 0] : List Int).getD i (0 : Int))) (a2 + (([1, 0, (-1), 0] : List Int).getD (((i : Int) + 3) % 4).toNat (0 : Int)))).2 = 0 := (by simpa using (hB)); exact Runs.at_ (i := 56) (gl rfl hB) (R_add64 rfl rfl rfl (by omega) (by omega))) <| wg rfl rfl (Gd.on rfl rfl rfl) (fun hB => by have hB0_ : (armsS a0 (a1 + (([1, 0, (-1), 0] : List Int).getD i (0 : Int))) (a2 + (([1, 0, (-1), 0] : List Int).getD (((i : Int) + 3) % 4).toNat (0 : Int)))).2 = 0 := (by simpa using (hB)); exact Runs.at_ (i := 57) (gl rfl hB) (R_rem64 rfl rfl rfl (by omega) (by omega) (by omega))) <| wg rfl rfl (Gd.on rfl rfl rfl) (fun hB => by have hB0_ : (armsS a0 (a1 + (([1, 0, (-1), 0] : List Int).getD i (0 : Int))) (a2 + (([1, 0, (-1), 0] : List Int).getD (((i : Int) + 3) % 4).toNat (0 : Int)))).2 = 0 := (by simpa using (hB)); exact Runs.at_ (i := 58) (gl rfl hB) (Runs.at_ (i := 55) (gl rfl hB) ((show Runs _ _ _ _ (.int .i64 ((armsS a0 (a1 + (([1, 0, (-1), 0] : List Int).getD i (0 : Int))) (a2 + (([1, 0, (-1), 0] : List Int).getD (((i : Int) + 3) % 4).toNat (0 : Int)))).1 / 2 ^ (((i : Int) + 2) % 4).toNat)) _ from R_shr (n := ((i : Int) + 2) % 4) rfl rfl rfl (by omega) (by (show _ ≤ 64; omega)))))) <| wg rfl rfl (Gd.on rfl rfl rfl) (fun hB => Runs.at_ (i := 59) (gl rfl hB) (R_and64 1 2 rfl rfl rfl (by decide) (by decide) (by decide))) <| wg rfl rfl (Gd.on rfl rfl rfl) (fun hB => Runs.at_ (i := 60) (gl rfl hB) (R_bin rfl rfl rfl rfl rfl)) <| wv rfl rfl rfl (R_pick_and rfl rfl rfl rfl) <| wv rfl rfl rfl (R_assign rfl rfl) ?_
    refine W_nil ?_
    refine E_then (C_fr [(1, .int .i64 a1), (2, .int .i64 a2), (3, .pointer (some ⟨b2, 0, none⟩)), (7, .int .i64 (armsS a0 a1 a2).1), (9, .slice (some ⟨g9, 0, none⟩) ([1, 0, (-1), 0] : List Int).length 4), (10, .int .i64 (i : Int)), (13, .bool (((armsS a0 (a1 + (([1, 0, (-1), 0] : List Int).getD i (0 : Int))) (a2 + (([1, 0, (-1), 0] : List Int).getD (((i : Int) + 3) % 4).toNat (0 : Int)))).2 == 0) && ((((armsS a0 (a1 + (([1, 0, (-1), 0] : List Int).getD i (0 : Int))) (a2 + (([1, 0, (-1), 0] : List Int).getD (((i : Int) + 3) % 4).toNat (0 : Int)))).1 / 2 ^ (((i : Int) + 2) % 4).toNat) % 2) == 1)))] rfl ?_)
    refine C_seq ?_
    refine C_region ?_
    refine wv rfl rfl rfl (R_move rfl rfl) <| wv rfl rfl rfl (R_move rfl rfl) <| wv rfl rfl rfl (R_move rfl rfl) <| wv rfl rfl rfl ((show Runs _ _ _ _ (.int .i64 ((armsS a0 a1 a2).1 / 2 ^ i)) _ from R_shr (n := (i : Int)) rfl rfl rfl (by omega) (by (show _ ≤ 64; omega)))) <| wv rfl rfl rfl (R_and64 1 2 rfl rfl rfl (by decide) (by decide) (by decide)) <| wv rfl rfl rfl (R_bin rfl rfl rfl rfl rfl) <| wv rfl rfl rfl (R_blneq rfl rfl rfl Try.underlying4) ?_
    refine W_nil ?_
    refine E_then (C_fr [(1, .int .i64 a1), (2, .int .i64 a2), (3, .pointer (some ⟨b2, 0, none⟩)), (7, .int .i64 (armsS a0 a1 a2).1), (9, .slice (some ⟨g9, 0, none⟩) ([1, 0, (-1), 0] : List Int).length 4), (10, .int .i64 (i : Int)), (69, .bool ((((armsS a0 (a1 + (([1, 0, (-1), 0] : List Int).getD i (0 : Int))) (a2 + (([1, 0, (-1), 0] : List Int).getD (((i : Int) + 3) % 4).toNat (0 : Int)))).2 == 0) && ((((armsS a0 (a1 + (([1, 0, (-1), 0] : List Int).getD i (0 : Int))) (a2 + (([1, 0, (-1), 0] : List Int).getD (((i : Int) + 3) % 4).toNat (0 : Int)))).1 / 2 ^ (((i : Int) + 2) % 4).toNat) % 2) == 1)) != ((((armsS a0 a1 a2).1 / 2 ^ i) % 2) == 1)))] rfl ?_)
    have hk61 : (((((armsS a0 (a1 + (([1, 0, (-1), 0] : List Int).getD i (0 : Int))) (a2 + (([1, 0, (-1), 0] : List Int).getD (((i : Int) + 3) % 4).toNat (0 : Int)))).2 == 0) && ((((armsS a0 (a1 + (([1, 0, (-1), 0] : List Int).getD i (0 : Int))) (a2 + (([1, 0, (-1), 0] : List Int).getD (((i : Int) + 3) % 4).toNat (0 : Int)))).1 / 2 ^ (((i : Int) + 2) % 4).toNat) % 2) == 1)) != ((((armsS a0 a1 a2).1 / 2 ^ i) % 2) == 1))) = false := by exact bne_no (hgd.both' hof (by omega))
    refine C_else rfl hk61 ?_
    refine C_skip ?_
    refine E_block_normal ?_
    refine E_then ?_
    refine C_region ?_
    refine wv rfl rfl rfl (R_move rfl rfl) <| wv rfl rfl rfl (R_add64 rfl rfl rfl (by omega) (by omega)) <| wv rfl rfl rfl (R_assign rfl rfl) ?_
    refine W_nil ?_
    refine E_round [1, 2, 3, 7, 9, 10] ?_ ⟨(i + 1 : Nat), rfl, (by omega), rfl, hS.fin [0, 1] (by decide) rfl⟩
    omega
  ·have _hC1 := trivial
   have hC1p : ¬ ((i : Int) < 4) := by simpa using hC1
   refine C_exit ?_
   refine E_then_exit ?_
   refine E_then_exit ?_
   refine E_block_hit ?_
   refine E_then (C_fr [(7, .int .i64 (armsS a0 a1 a2).1)] rfl ?_)
   refine C_seq ?_
   refine C_region ?_
   refine wv rfl rfl rfl (R_move rfl rfl) ?_
   refine W_cons rfl (by decide) (Sv_call rfl rfl rfl ent19 ?_)
   refine (ebits_calls (armsS a0 a1 a2).1 _ _ hS.out0  ).mono ?_
   rintro e_ w62 ⟨rfl, hS_⟩
   refine ⟨_, rfl, ?_⟩
   have hS := hS.call0 hS_
   refine wv rfl rfl rfl (R_bin rfl rfl rfl rfl rfl) <| wv rfl rfl rfl (R_move rfl rfl) ?_
   have hk64 : (((bitsS (armsS a0 a1 a2).1) != 1)) = true := by simpa [bitsS] using hsa.2.1
   have hk64p : ¬ (bitsS (armsS a0 a1 a2).1) = 1 := by simpa using hk64
   refine W_cons rfl (by decide) (Sv_gt rfl rfl rfl hk64 (Sv_val rfl (R_move rfl rfl) ?_))
   refine W_cons rfl (by decide) (Sv_gt rfl rfl rfl hk64 (Sv_val rfl (R_bin rfl rfl rfl rfl rfl) ?_))
   refine wv rfl rfl rfl (R_pick_t rfl rfl hk64 rfl) <| wv rfl rfl rfl (R_move rfl rfl) ?_
   have hk65 : (decide ((armsS a0 a1 a2).1 ≥ 0)) = true := by exact decide_eq_true (by omega)
   have hk65p : (armsS a0 a1 a2).1 ≥ 0 := by simpa using hk65
   refine W_cons rfl (by decide) (Sv_gt rfl rfl rfl hk65 (Sv_val rfl (R_move rfl rfl) ?_))
   refine W_cons rfl (by decide) (Sv_gt rfl rfl rfl hk65 (Sv_val rfl (R_bin rfl rfl rfl rfl rfl) ?_))
   refine wv rfl rfl rfl (R_pick_t rfl rfl hk65 rfl) <| wv rfl rfl rfl (R_move rfl rfl) ?_
   have hk66 : (decide ((armsS a0 a1 a2).1 < 16)) = true := by exact decide_eq_true (by omega)
   have hk66p : (armsS a0 a1 a2).1 < 16 := by simpa using hk66
   refine W_cons rfl (by decide) (Sv_gt rfl rfl rfl hk66 (Sv_call rfl rfl rfl ent12 ?_))
   refine (eawake_calls  _ _ hS.out0  ).mono ?_
   rintro e_ w67 ⟨rfl, hS_⟩
   refine ⟨_, rfl, ?_⟩
   have hS := hS.call0 hS_
   refine wv rfl rfl rfl (R_pick_t rfl rfl hk66 rfl) <| wv rfl rfl rfl (R_assign rfl rfl) ?_
   refine W_nil ?_
   refine E_then (C_fr [(6, .bool true)] rfl ?_)
   refine C_ret ?_
   refine E_ret1 rfl rfl ?_
   exact ⟨Lret1 (Lbool (show true = true by rfl)), hS.fin [] (by decide) rfl⟩

end Go.Proofs.YtalpekmbknjeeaaG
