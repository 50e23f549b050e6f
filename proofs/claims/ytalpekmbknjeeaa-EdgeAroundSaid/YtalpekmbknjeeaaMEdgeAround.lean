/- The walk of the law EdgeAround: it returns true. -/
import Derived.Test.YtalpekmbknjeeaaF1
set_option linter.all false
namespace Go.Proofs.YtalpekmbknjeeaaG
open Go Go.RowKit
set_option maxHeartbeats 4000000 in
set_option maxRecDepth 20000 in
theorem edgeAround_calls (a0 : TSheet) (Aa0_Widths : Option Addr) (ca0_Widths : Nat) (Aa0_Heights : Option Addr) (ca0_Heights : Nat) (Aa0_Cells : Option Addr) (ca0_Cells : Nat) (Aa0_Merges : Option Addr) (ca0_Merges : Nat) (a1 : Int) (a2 : Int) (z : Z) (w : World) (hI : In z w []) (hra0_Widths : Rd (kint .i64) z Aa0_Widths a0.Widths) (hca0_Widths : Cap Aa0_Widths a0.Widths.length ca0_Widths) (hra0_Heights : Rd (kint .i64) z Aa0_Heights a0.Heights) (hca0_Heights : Cap Aa0_Heights a0.Heights.length ca0_Heights) (hra0_Cells : Rd kdTCell z Aa0_Cells a0.Cells) (hca0_Cells : Cap Aa0_Cells a0.Cells.length ca0_Cells) (hra0_Merges : Rd kdTRect z Aa0_Merges a0.Merges) (hca0_Merges : Cap Aa0_Merges a0.Merges.length ca0_Merges) (p0 : SheetG a0) (p1 : SzS a0) (p2 : I64 a1) (p3 : I64 a2) :
    Calls Try.prog 7 #[.agg #[.int .i64 a0.Right, .slice Aa0_Widths a0.Widths.length ca0_Widths, .slice Aa0_Heights a0.Heights.length ca0_Heights, .slice Aa0_Cells a0.Cells.length ca0_Cells, .slice Aa0_Merges a0.Merges.length ca0_Merges], .int .i64 a1, .int .i64 a2] w fun e w' => e = .returned (.bool true) ∧ Sp (FF []) w z w' [] := by
 have hla0_Widths := hca0_Widths.le
 have hma0_Widths := hca0_Widths.mx
 have hla0_Heights := hca0_Heights.le
 have hma0_Heights := hca0_Heights.mx
 have hla0_Cells := hca0_Cells.le
 have hma0_Cells := hca0_Cells.mx
 have hla0_Merges := hca0_Merges.le
 have hma0_Merges := hca0_Merges.mx
 have hS := hI.sp
 have hsi := p0.I2 p1
 refine Calls_of (vs := [.agg #[.int .i64 a0.Right, .slice Aa0_Widths a0.Widths.length ca0_Widths, .slice Aa0_Heights a0.Heights.length ca0_Heights, .slice Aa0_Cells a0.Cells.length ca0_Cells, .slice Aa0_Merges a0.Merges.length ca0_Merges], .int .i64 a1, .int .i64 a2]) (N := 146) Try.func7 rfl rfl (Nat.le_of_ble_eq_true rfl) ?_
 refine C_seq ?_
 refine C_region ?_
 refine W_cons rfl (by decide) (S_box hS rfl (R_box (cs := [.int .i64 a0.Right, .slice Aa0_Widths a0.Widths.length ca0_Widths, .slice Aa0_Heights a0.Heights.length ca0_Heights, .slice Aa0_Cells a0.Cells.length ca0_Cells, .slice Aa0_Merges a0.Merges.length ca0_Merges]) rfl rfl rfl) (fun b2 w1 hS => ?_))
 refine wv rfl rfl rfl (R_assign rfl rfl) ?_
 refine W_nil ?_
 refine E_then ?_
 refine C_seq ?_
 refine C_region ?_
 refine wv rfl rfl rfl (R_loadN (cs := [.int .i64 a0.Right, .slice Aa0_Widths a0.Widths.length ca0_Widths, .slice Aa0_Heights a0.Heights.length ca0_Heights, .slice Aa0_Cells a0.Cells.length ca0_Cells, .slice Aa0_Merges a0.Merges.length ca0_Merges]) rfl rfl agg26 size26 rfl (boxcells (hS.bx 0 rfl) 0 rfl)) <| wv rfl rfl rfl (R_move rfl rfl) <| wv rfl rfl rfl (R_move rfl rfl) ?_
 refine W_cons rfl (by decide) (Sv_call rfl rfl rfl ent20 ?_)
 refine (region_calls a0 Aa0_Widths ca0_Widths Aa0_Heights ca0_Heights Aa0_Cells ca0_Cells Aa0_Merges ca0_Merges a1 a2 _ _ hS.out0 (hra0_Widths.mono (hS.zl [])) hca0_Widths (hra0_Heights.mono (hS.zl [])) hca0_Heights (hra0_Cells.mono (hS.zl [])) hca0_Cells (hra0_Merges.mono (hS.zl [])) hca0_Merges ).mono ?_
 rintro e_ w3 ⟨rfl, hS_⟩
 refine ⟨_, rfl, ?_⟩
 have hS := hS.call0 hS_
 refine wv rfl rfl rfl (R_move rfl rfl) <| wv rfl rfl rfl (R_extract rfl rfl rfl) <| wv rfl rfl rfl (R_extract rfl rfl rfl) ?_
 refine W_cons rfl (by decide) (S_box hS rfl (R_alloc rfl alloc39) (fun b6 w5 hS => ?_))
 refine W_cons0 rfl (S_store hS 0 rfl rfl rfl rfl rfl size39 (one_cons rfl (one_cons rfl (one_cons rfl (one_cons rfl one_nil)))) (Nat.le_of_ble_eq_true rfl) (fun w7 hS => ?_))
 have hS : Sp (FF []) w z w7 [bR b6 39 [.int .i64 (regionS a0 a1 a2).1.Row, .int .i64 (regionS a0 a1 a2).1.Col, .int .i64 (regionS a0 a1 a2).1.Rows, .int .i64 (regionS a0 a1 a2).1.Cols], bR b2 26 [.int .i64 a0.Right, .slice Aa0_Widths a0.Widths.length ca0_Widths, .slice Aa0_Heights a0.Heights.length ca0_Heights, .slice Aa0_Cells a0.Cells.length ca0_Cells, .slice Aa0_Merges a0.Merges.length ca0_Merges]] := hS
 refine wv rfl rfl rfl (R_assign rfl rfl) ?_
 refine W_nil ?_
 refine E_then (C_fr [(3, .pointer (some ⟨b2, 0, none⟩)), (7, .pointer (some ⟨b6, 0, none⟩)), (8, .int .i64 (regionS a0 a1 a2).2)] rfl ?_)
 refine C_seq ?_
 refine C_seq ?_
 refine C_region ?_
 refine wv rfl rfl rfl (R_move rfl rfl) <| wv rfl rfl rfl (R_bin rfl rfl rfl rfl rfl) ?_
 refine W_nil ?_
 refine E_then ?_
 refine C_ite rfl (fun hC0 => ?_) (fun hC0 => ?_)
 ·have _hC0 := trivial
  have hC0p : ¬ (regionS a0 a1 a2).2 = 0 := by simpa using hC0
  refine C_seq ?_
  refine C_region ?_
  refine W_cons rfl (by decide) (Sv_call rfl rfl rfl ent12 ?_)
  refine (eawake_calls  _ _ hS.out0  ).mono ?_
  rintro e_ w8 ⟨rfl, hS_⟩
  refine ⟨_, rfl, ?_⟩
  have hS := hS.call0 hS_
  refine wv rfl rfl rfl (R_assign rfl rfl) ?_
  refine W_nil ?_
  refine E_then (C_fr [(6, .bool true)] rfl ?_)
  refine C_ret ?_
  refine E_then_ret ?_
  refine E_ret1 rfl rfl ?_
  exact ⟨Lret1 (Lbool (show true = true by rfl)), hS.fin [] (by decide) rfl⟩
 ·have _hC0 := trivial
  have hC0p : (regionS a0 a1 a2).2 = 0 := by simpa using hC0
  refine C_skip ?_
  refine E_then ?_
  refine C_seq ?_
  obtain ⟨hgd, hRm, hRf⟩ := reg_ok hsi (i := a1) (j := a2) (by omega)
  have hin := fits_inside hRf
  have hhs := hgd.hs
  have hws := hgd.ws
  have hcr := corner_in hin
  have hsz := size_in hin
  obtain ⟨hz1, hz2⟩ := hgd.sizes_le hRf
  unfold Fits at hRf
  have hA : (acornerS a0.Widths a0.Heights (regionS a0 a1 a2).1).1.re.n = (startsS a0.Widths).getD (regionS a0 a1 a2).1.Col.toNat 0 := by rw [hcr]; rfl
  have hB : (acornerS a0.Widths a0.Heights (regionS a0 a1 a2).1).1.im.n = (startsS a0.Heights).getD (regionS a0 a1 a2).1.Row.toNat 0 := by rw [hcr]; rfl
  have hW : (asizeS a0.Widths a0.Heights (regionS a0 a1 a2).1).1.re.n = (startsS a0.Widths).getD ((regionS a0 a1 a2).1.Col + (regionS a0 a1 a2).1.Cols).toNat 0 - (startsS a0.Widths).getD (regionS a0 a1 a2).1.Col.toNat 0 - 1 := by rw [hsz, hcr]; rfl
  have hH : (asizeS a0.Widths a0.Heights (regionS a0 a1 a2).1).1.im.n = (startsS a0.Heights).getD ((regionS a0 a1 a2).1.Row + (regionS a0 a1 a2).1.Rows).toNat 0 - (startsS a0.Heights).getD (regionS a0 a1 a2).1.Row.toNat 0 - 1 := by rw [hsz, hcr]; rfl
  have hsb0 := starts_bd a0.Widths (regionS a0 a1 a2).1.Col.toNat (by omega)
  have hsb1 := starts_bd a0.Heights (regionS a0 a1 a2).1.Row.toNat (by omega)
  refine C_region ?_
  refine wv rfl rfl rfl (R_fld rfl rfl fld26_1) <| wv rfl rfl rfl (R_load1 rfl rfl agg22 ((hS.bx 1 rfl).cell rfl)) <| wv rfl rfl rfl (R_fld rfl rfl fld26_2) <| wv rfl rfl rfl (R_load1 rfl rfl agg22 ((hS.bx 1 rfl).cell rfl)) <| wv rfl rfl rfl (R_loadN (cs := [.int .i64 (regionS a0 a1 a2).1.Row, .int .i64 (regionS a0 a1 a2).1.Col, .int .i64 (regionS a0 a1 a2).1.Rows, .int .i64 (regionS a0 a1 a2).1.Cols]) rfl rfl agg39 size39 rfl (boxcells (hS.bx 0 rfl) 0 rfl)) ?_
  refine W_cons rfl (by decide) (Sv_call rfl rfl rfl ent21 ?_)
  refine (acorner_calls a0.Widths Aa0_Widths ca0_Widths a0.Heights Aa0_Heights ca0_Heights (regionS a0 a1 a2).1 _ _ hS.out0 (hra0_Widths.mono (hS.zl [])) hca0_Widths (hra0_Heights.mono (hS.zl [])) hca0_Heights (by first | assumption | omega | (unfold I64; omega)) (by first | assumption | omega | (unfold I64; omega))).mono ?_
  rintro e_ w10 ⟨rfl, hS_⟩
  refine ⟨_, rfl, ?_⟩
  have hS := hS.call0 hS_
  refine wv rfl rfl rfl (R_move rfl rfl) <| wv rfl rfl rfl (R_extract rfl rfl rfl) <| wv rfl rfl rfl (R_extract rfl rfl rfl) <| wv rfl rfl rfl (R_assign rfl rfl) <| wv rfl rfl rfl (R_assign rfl rfl) ?_
  refine W_nil ?_
  refine E_then (C_fr [(3, .pointer (some ⟨b2, 0, none⟩)), (7, .pointer (some ⟨b6, 0, none⟩)), (9, .complex .f64 (acornerS a0.Widths a0.Heights (regionS a0 a1 a2).1).1.re.bits (acornerS a0.Widths a0.Heights (regionS a0 a1 a2).1).1.im.bits), (10, .int .i64 (acornerS a0.Widths a0.Heights (regionS a0 a1 a2).1).2)] rfl ?_)
  refine C_seq ?_
  refine C_region ?_
  refine wv rfl rfl rfl (R_fld rfl rfl fld26_1) <| wv rfl rfl rfl (R_load1 rfl rfl agg22 ((hS.bx 1 rfl).cell rfl)) <| wv rfl rfl rfl (R_fld rfl rfl fld26_2) <| wv rfl rfl rfl (R_load1 rfl rfl agg22 ((hS.bx 1 rfl).cell rfl)) <| wv rfl rfl rfl (R_loadN (cs := [.int .i64 (regionS a0 a1 a2).1.Row, .int .i64 (regionS a0 a1 a2).1.Col, .int .i64 (regionS a0 a1 a2).1.Rows, .int .i64 (regionS a0 a1 a2).1.Cols]) rfl rfl agg39 size39 rfl (boxcells (hS.bx 0 rfl) 0 rfl)) ?_
  refine W_cons rfl (by decide) (Sv_call rfl rfl rfl ent22 ?_)
  refine (asize_calls a0.Widths Aa0_Widths ca0_Widths a0.Heights Aa0_Heights ca0_Heights (regionS a0 a1 a2).1 _ _ hS.out0 (hra0_Widths.mono (hS.zl [])) hca0_Widths (hra0_Heights.mono (hS.zl [])) hca0_Heights (by first | assumption | omega | (unfold I64; omega)) (by first | assumption | omega | (unfold I64; omega))).mono ?_
  rintro e_ w12 ⟨rfl, hS_⟩
  refine ⟨_, rfl, ?_⟩
  have hS := hS.call0 hS_
  refine wv rfl rfl rfl (R_move rfl rfl) <| wv rfl rfl rfl (R_extract rfl rfl rfl) <| wv rfl rfl rfl (R_extract rfl rfl rfl) <| wv rfl rfl rfl (R_assign rfl rfl) <| wv rfl rfl rfl (R_assign rfl rfl) ?_
  refine W_nil ?_
  refine E_then (C_fr [(3, .pointer (some ⟨b2, 0, none⟩)), (9, .complex .f64 (acornerS a0.Widths a0.Heights (regionS a0 a1 a2).1).1.re.bits (acornerS a0.Widths a0.Heights (regionS a0 a1 a2).1).1.im.bits), (10, .int .i64 (acornerS a0.Widths a0.Heights (regionS a0 a1 a2).1).2), (11, .complex .f64 (asizeS a0.Widths a0.Heights (regionS a0 a1 a2).1).1.re.bits (asizeS a0.Widths a0.Heights (regionS a0 a1 a2).1).1.im.bits), (12, .int .i64 (asizeS a0.Widths a0.Heights (regionS a0 a1 a2).1).2)] rfl ?_)
  refine C_seq ?_
  refine C_seq ?_
  refine C_region ?_
  refine wv rfl rfl rfl (R_move rfl rfl) <| wv rfl rfl rfl (R_bin rfl rfl rfl rfl rfl) <| wv rfl rfl rfl (R_move rfl rfl) ?_
  have hk14 : (((acornerS a0.Widths a0.Heights (regionS a0 a1 a2).1).2 != 0)) = false := by first | (rw [hcr]; rfl) | (rw [hsz]; rfl)
  have hk14p : (acornerS a0.Widths a0.Heights (regionS a0 a1 a2).1).2 = 0 := by simpa using hk14
  refine W_cons rfl (by decide) (Sv_gt rfl rfl rfl hk14 (Sv_val rfl (R_move rfl rfl) ?_))
  refine W_cons rfl (by decide) (Sv_gt rfl rfl rfl hk14 (Sv_val rfl (R_bin rfl rfl rfl rfl rfl) ?_))
  refine wv rfl rfl rfl (R_pick_f rfl rfl hk14 rfl) ?_
  refine W_nil ?_
  refine E_then (C_fr [(3, .pointer (some ⟨b2, 0, none⟩)), (9, .complex .f64 (acornerS a0.Widths a0.Heights (regionS a0 a1 a2).1).1.re.bits (acornerS a0.Widths a0.Heights (regionS a0 a1 a2).1).1.im.bits), (11, .complex .f64 (asizeS a0.Widths a0.Heights (regionS a0 a1 a2).1).1.re.bits (asizeS a0.Widths a0.Heights (regionS a0 a1 a2).1).1.im.bits), (55, .bool ((asizeS a0.Widths a0.Heights (regionS a0 a1 a2).1).2 != 0))] rfl ?_)
  have hk15 : (((asizeS a0.Widths a0.Heights (regionS a0 a1 a2).1).2 != 0)) = false := by first | (rw [hcr]; rfl) | (rw [hsz]; rfl)
  have hk15p : (asizeS a0.Widths a0.Heights (regionS a0 a1 a2).1).2 = 0 := by simpa using hk15
  refine C_else rfl hk15 ?_
  refine C_skip ?_
  refine E_then ?_
  refine C_seq ?_
  refine C_region ?_
  refine wv rfl rfl rfl (R_move rfl rfl) <| wv rfl rfl rfl (R_real rfl rfl) <| wv rfl rfl rfl (R_convfi rfl rfl Try.underlying45 Try.underlying3 (by (simp only [Fl.ok]; omega))) <| wv rfl rfl rfl (R_move rfl rfl) <| wv rfl rfl rfl (R_imag rfl rfl) <| wv rfl rfl rfl (R_convfi rfl rfl Try.underlying45 Try.underlying3 (by (simp only [Fl.ok]; omega))) <| wv rfl rfl rfl (R_assign rfl rfl) <| wv rfl rfl rfl (R_assign rfl rfl) ?_
  refine W_nil ?_
  refine E_then (C_fr [(3, .pointer (some ⟨b2, 0, none⟩)), (11, .complex .f64 (asizeS a0.Widths a0.Heights (regionS a0 a1 a2).1).1.re.bits (asizeS a0.Widths a0.Heights (regionS a0 a1 a2).1).1.im.bits), (13, .int .i64 (acornerS a0.Widths a0.Heights (regionS a0 a1 a2).1).1.re.n), (14, .int .i64 (acornerS a0.Widths a0.Heights (regionS a0 a1 a2).1).1.im.n)] rfl ?_)
  refine C_seq ?_
  refine C_region ?_
  refine wv rfl rfl rfl (R_move rfl rfl) <| wv rfl rfl rfl (R_real rfl rfl) <| wv rfl rfl rfl (R_convfi rfl rfl Try.underlying45 Try.underlying3 (by (simp only [Fl.ok]; omega))) <| wv rfl rfl rfl (R_move rfl rfl) <| wv rfl rfl rfl (R_imag rfl rfl) <| wv rfl rfl rfl (R_convfi rfl rfl Try.underlying45 Try.underlying3 (by (simp only [Fl.ok]; omega))) <| wv rfl rfl rfl (R_assign rfl rfl) <| wv rfl rfl rfl (R_assign rfl rfl) ?_
  refine W_nil ?_
  refine E_then (C_fr [(3, .pointer (some ⟨b2, 0, none⟩)), (13, .int .i64 (acornerS a0.Widths a0.Heights (regionS a0 a1 a2).1).1.re.n), (14, .int .i64 (acornerS a0.Widths a0.Heights (regionS a0 a1 a2).1).1.im.n), (15, .int .i64 (asizeS a0.Widths a0.Heights (regionS a0 a1 a2).1).1.re.n), (16, .int .i64 (asizeS a0.Widths a0.Heights (regionS a0 a1 a2).1).1.im.n)] rfl ?_)
  refine C_seq ?_
  refine C_seq ?_
  refine C_region ?_
  refine wv rfl rfl rfl (R_move rfl rfl) <| wv rfl rfl rfl (R_bin rfl rfl rfl rfl rfl) <| wv rfl rfl rfl (R_move rfl rfl) ?_
  have hk16 : (decide ((asizeS a0.Widths a0.Heights (regionS a0 a1 a2).1).1.re.n < 1)) = false := by exact decide_eq_false (by omega)
  have hk16p : ¬ ((asizeS a0.Widths a0.Heights (regionS a0 a1 a2).1).1.re.n < 1) := by simpa using hk16
  refine W_cons rfl (by decide) (Sv_gt rfl rfl rfl hk16 (Sv_val rfl (R_move rfl rfl) ?_))
  refine W_cons rfl (by decide) (Sv_gt rfl rfl rfl hk16 (Sv_val rfl (R_bin rfl rfl rfl rfl rfl) ?_))
  refine wv rfl rfl rfl (R_pick_f rfl rfl hk16 rfl) <| wv rfl rfl rfl (R_move rfl rfl) ?_
  have hk17 : (decide ((asizeS a0.Widths a0.Heights (regionS a0 a1 a2).1).1.im.n < 1)) = false := by exact decide_eq_false (by omega)
  have hk17p : ¬ ((asizeS a0.Widths a0.Heights (regionS a0 a1 a2).1).1.im.n < 1) := by simpa using hk17
  refine W_cons rfl (by decide) (Sv_gt rfl rfl rfl hk17 (Sv_val rfl (R_move rfl rfl) ?_))
  refine W_cons rfl (by decide) (Sv_gt rfl rfl rfl hk17 (Sv_val rfl (R_bin rfl rfl rfl rfl rfl) ?_))
  refine wv rfl rfl rfl (R_pick_f rfl rfl hk17 rfl) <| wv rfl rfl rfl (R_move rfl rfl) ?_
  have hk18 : (decide ((asizeS a0.Widths a0.Heights (regionS a0 a1 a2).1).1.re.n > 1000)) = false := by exact decide_eq_false (by omega)
  have hk18p : ¬ ((asizeS a0.Widths a0.Heights (regionS a0 a1 a2).1).1.re.n > 1000) := by simpa using hk18
  refine W_cons rfl (by decide) (Sv_gt rfl rfl rfl hk18 (Sv_val rfl (R_move rfl rfl) ?_))
  refine W_cons rfl (by decide) (Sv_gt rfl rfl rfl hk18 (Sv_val rfl (R_bin rfl rfl rfl rfl rfl) ?_))
  refine wv rfl rfl rfl (R_pick_f rfl rfl hk18 rfl) ?_
  refine W_nil ?_
  refine E_then (C_fr [(3, .pointer (some ⟨b2, 0, none⟩)), (13, .int .i64 (acornerS a0.Widths a0.Heights (regionS a0 a1 a2).1).1.re.n), (14, .int .i64 (acornerS a0.Widths a0.Heights (regionS a0 a1 a2).1).1.im.n), (15, .int .i64 (asizeS a0.Widths a0.Heights (regionS a0 a1 a2).1).1.re.n), (16, .int .i64 (asizeS a0.Widths a0.Heights (regionS a0 a1 a2).1).1.im.n), (81, .bool (decide ((asizeS a0.Widths a0.Heights (regionS a0 a1 a2).1).1.im.n > 400)))] rfl ?_)
  have hk19 : (decide ((asizeS a0.Widths a0.Heights (regionS a0 a1 a2).1).1.im.n > 400)) = false := by exact decide_eq_false (by omega)
  have hk19p : ¬ ((asizeS a0.Widths a0.Heights (regionS a0 a1 a2).1).1.im.n > 400) := by simpa using hk19
  refine C_else rfl hk19 ?_
  refine C_skip ?_
  refine E_then ?_
  refine C_seq ?_
  refine C_seq ?_
  refine C_region ?_
  refine wv rfl rfl rfl (R_assign rfl rfl) ?_
  refine W_nil ?_
  refine E_then ?_
  refine C_block ?_
  have hs21 : (-1) = ((0 : Nat) : Int) - 1 := by rfl
  refine C_fr [(3, .pointer (some ⟨b2, 0, none⟩)), (13, .int .i64 (acornerS a0.Widths a0.Heights (regionS a0 a1 a2).1).1.re.n), (14, .int .i64 (acornerS a0.Widths a0.Heights (regionS a0 a1 a2).1).1.im.n), (15, .int .i64 (asizeS a0.Widths a0.Heights (regionS a0 a1 a2).1).1.re.n), (16, .int .i64 (asizeS a0.Widths a0.Heights (regionS a0 a1 a2).1).1.im.n), (17, .int .i64 (-1))] rfl ?_
  refine C_loop (fun m_ f_ w_ => ∃ (i : Nat), f_ = [(3, .pointer (some ⟨b2, 0, none⟩)), (13, .int .i64 (acornerS a0.Widths a0.Heights (regionS a0 a1 a2).1).1.re.n), (14, .int .i64 (acornerS a0.Widths a0.Heights (regionS a0 a1 a2).1).1.im.n), (15, .int .i64 (asizeS a0.Widths a0.Heights (regionS a0 a1 a2).1).1.re.n), (16, .int .i64 (asizeS a0.Widths a0.Heights (regionS a0 a1 a2).1).1.im.n), (17, .int .i64 ((i : Int) - 1))] ∧ (i : Int) ≤ (asizeS a0.Widths a0.Heights (regionS a0 a1 a2).1).1.re.n + 2 ∧ m_ = ((asizeS a0.Widths a0.Heights (regionS a0 a1 a2).1).1.re.n + 2).toNat + 1 - i ∧ Sp (FF []) w z w_ [bR b2 26 [.int .i64 a0.Right, .slice Aa0_Widths a0.Widths.length ca0_Widths, .slice Aa0_Heights a0.Heights.length ca0_Heights, .slice Aa0_Cells a0.Cells.length ca0_Cells, .slice Aa0_Merges a0.Merges.length ca0_Merges]]) (((asizeS a0.Widths a0.Heights (regionS a0 a1 a2).1).1.re.n + 2).toNat + 1 - (0 : Nat)) ⟨(0 : Nat), (by rw [← hs21] <;> rfl), (by omega), rfl, hS.fin [1] (by decide) rfl⟩ ?_
  rintro m_ f_ w20 ⟨i, rfl, hI0_0, rfl, hS⟩
  refine C_seq ?_
  refine C_seq ?_
  refine C_region ?_
  refine wv rfl rfl rfl (R_move rfl rfl) <| wv rfl rfl rfl (R_move rfl rfl) <| wv rfl rfl rfl (R_bin rfl rfl rfl rfl rfl) ?_
  refine W_nil ?_
  refine E_then ?_
  refine C_ite rfl (fun hC3 => ?_) (fun hC3 => ?_)
  ·have _hC3 := trivial
   have hC3p : ((i : Int) - 1) ≤ (asizeS a0.Widths a0.Heights (regionS a0 a1 a2).1).1.re.n := by simpa using hC3
   refine C_skip ?_
   refine E_then ?_
   refine C_seq ?_
   refine C_block ?_
   refine C_seq ?_
   refine C_region ?_
   refine wv rfl rfl rfl (R_assign rfl rfl) ?_
   refine W_nil ?_
   refine E_then ?_
   refine C_block ?_
   have hs23 : (-1) = ((0 : Nat) : Int) - 1 := by rfl
   refine C_fr [(3, .pointer (some ⟨b2, 0, none⟩)), (13, .int .i64 (acornerS a0.Widths a0.Heights (regionS a0 a1 a2).1).1.re.n), (14, .int .i64 (acornerS a0.Widths a0.Heights (regionS a0 a1 a2).1).1.im.n), (15, .int .i64 (asizeS a0.Widths a0.Heights (regionS a0 a1 a2).1).1.re.n), (16, .int .i64 (asizeS a0.Widths a0.Heights (regionS a0 a1 a2).1).1.im.n), (17, .int .i64 ((i : Int) - 1)), (18, .int .i64 (-1))] rfl ?_
   refine C_loop (fun m_ f_ w_ => ∃ (j : Nat), f_ = [(3, .pointer (some ⟨b2, 0, none⟩)), (13, .int .i64 (acornerS a0.Widths a0.Heights (regionS a0 a1 a2).1).1.re.n), (14, .int .i64 (acornerS a0.Widths a0.Heights (regionS a0 a1 a2).1).1.im.n), (15, .int .i64 (asizeS a0.Widths a0.Heights (regionS a0 a1 a2).1).1.re.n), (16, .int .i64 (asizeS a0.Widths a0.Heights (regionS a0 a1 a2).1).1.im.n), (17, .int .i64 ((i : Int) - 1)), (18, .int .i64 ((j : Int) - 1))] ∧ (j : Int) ≤ (asizeS a0.Widths a0.Heights (regionS a0 a1 a2).1).1.im.n + 2 ∧ m_ = ((asizeS a0.Widths a0.Heights (regionS a0 a1 a2).1).1.im.n + 2).toNat + 1 - j ∧ Sp (FF []) w z w_ [bR b2 26 [.int .i64 a0.Right, .slice Aa0_Widths a0.Widths.length ca0_Widths, .slice Aa0_Heights a0.Heights.length ca0_Heights, .slice Aa0_Cells a0.Cells.length ca0_Cells, .slice Aa0_Merges a0.Merges.length ca0_Merges]]) (((asizeS a0.Widths a0.Heights (regionS a0 a1 a2).1).1.im.n + 2).toNat + 1 - (0 : Nat)) ⟨(0 : Nat), (by rw [← hs23] <;> rfl), (by omega), rfl, hS.fin [0] (by decide) rfl⟩ ?_
   rintro m_ f_ w22 ⟨j, rfl, hI1_0, rfl, hS⟩
   refine C_seq ?_
   refine C_seq ?_
   refine C_region ?_
   refine wv rfl rfl rfl (R_move rfl rfl) <| wv rfl rfl rfl (R_move rfl rfl) <| wv rfl rfl rfl (R_bin rfl rfl rfl rfl rfl) ?_
   refine W_nil ?_
   refine E_then ?_
   refine C_ite rfl (fun hC4 => ?_) (fun hC4 => ?_)
   ·have _hC4 := trivial
    have hC4p : ((j : Int) - 1) ≤ (asizeS a0.Widths a0.Heights (regionS a0 a1 a2).1).1.im.n := by simpa using hC4
    refine C_skip ?_
    refine E_then ?_
    refine C_seq ?_
    refine C_block ?_
    refine C_seq ?_
    refine C_seq ?_
    refine C_region ?_
    refine wv rfl rfl rfl (R_move rfl rfl) <| wv rfl rfl rfl (R_bin rfl rfl rfl rfl rfl) <| wv rfl rfl rfl (R_move rfl rfl) <| wg rfl rfl (Gd.on rfl rfl rfl) (fun hB => R_move rfl rfl) <| wg rfl rfl (Gd.on rfl rfl rfl) (fun hB => R_move rfl rfl) <| wg rfl rfl (Gd.on rfl rfl rfl) (fun hB => by have hB0_ : ((i : Int) - 1) > 0 := (by simpa using (hB)); exact Runs.at_ (i := 96) (gl rfl hB) (R_sub64 rfl rfl rfl (by omega) (by omega))) <| wg rfl rfl (Gd.on rfl rfl rfl) (fun hB => Runs.at_ (i := 97) (gl rfl hB) (Runs.at_ (i := 95) (gl rfl hB) (R_bin rfl rfl rfl rfl rfl))) <| wv rfl rfl rfl (R_pick_and rfl rfl rfl rfl) <| wv rfl rfl rfl (R_move rfl rfl) <| wg rfl rfl (Gd.on rfl rfl rfl) (fun hB => R_move rfl rfl) <| wg rfl rfl (Gd.on rfl rfl rfl) (fun hB => Runs.at_ (i := 101) (gl rfl hB) (R_bin rfl rfl rfl rfl rfl)) <| wv rfl rfl rfl (R_pick_and rfl rfl rfl rfl) <| wv rfl rfl rfl (R_move rfl rfl) <| wg rfl rfl (Gd.on rfl rfl rfl) (fun hB => R_move rfl rfl) <| wg rfl rfl (Gd.on rfl rfl rfl) (fun hB => R_move rfl rfl) <| wg rfl rfl (Gd.on rfl rfl rfl) (fun hB => by have hB0_ : ((((i : Int) - 1) > 0 ∧ ((i : Int) - 1) < ((asizeS a0.Widths a0.Heights (regionS a0 a1 a2).1).1.re.n - 1)) ∧ ((j : Int) - 1) > 0) := (by simpa using (hB)); exact Runs.at_ (i := 106) (gl rfl hB) (R_sub64 rfl rfl rfl (by omega) (by omega))) <| wg rfl rfl (Gd.on rfl rfl rfl) (fun hB => Runs.at_ (i := 107) (gl rfl hB) (Runs.at_ (i := 105) (gl rfl hB) (R_bin rfl rfl rfl rfl rfl))) <| wv rfl rfl rfl (R_pick_and rfl rfl rfl rfl) ?_
    refine W_nil ?_
    refine E_then (C_fr [(3, .pointer (some ⟨b2, 0, none⟩)), (13, .int .i64 (acornerS a0.Widths a0.Heights (regionS a0 a1 a2).1).1.re.n), (14, .int .i64 (acornerS a0.Widths a0.Heights (regionS a0 a1 a2).1).1.im.n), (15, .int .i64 (asizeS a0.Widths a0.Heights (regionS a0 a1 a2).1).1.re.n), (16, .int .i64 (asizeS a0.Widths a0.Heights (regionS a0 a1 a2).1).1.im.n), (17, .int .i64 ((i : Int) - 1)), (18, .int .i64 ((j : Int) - 1)), (109, .bool ((((decide (((i : Int) - 1) > 0)) && (decide (((i : Int) - 1) < ((asizeS a0.Widths a0.Heights (regionS a0 a1 a2).1).1.re.n - 1)))) && (decide (((j : Int) - 1) > 0))) && (decide (((j : Int) - 1) < ((asizeS a0.Widths a0.Heights (regionS a0 a1 a2).1).1.im.n - 1)))))] rfl ?_)
    refine C_ite rfl (fun hC5 => ?_) (fun hC5 => ?_)
    ·have _hC5 := trivial
     have hC5p : (((((i : Int) - 1) > 0 ∧ ((i : Int) - 1) < ((asizeS a0.Widths a0.Heights (regionS a0 a1 a2).1).1.re.n - 1)) ∧ ((j : Int) - 1) > 0) ∧ ((j : Int) - 1) < ((asizeS a0.Widths a0.Heights (regionS a0 a1 a2).1).1.im.n - 1)) := by simpa using hC5
     refine C_exit ?_
     refine E_then_exit ?_
     refine E_block_hit ?_
     refine E_then ?_
     refine C_region ?_
     refine wv rfl rfl rfl (R_move rfl rfl) <| wv rfl rfl rfl (R_add64 rfl rfl rfl (by omega) (by omega)) <| wv rfl rfl rfl (R_assign rfl rfl) ?_
     refine W_nil ?_
     have hs24 : ((j : Int) - 1) + 1 = ((j + 1 : Nat) : Int) - 1 := by omega
     refine E_round [3, 13, 14, 15, 16, 17, 18] ?_ ⟨(j + 1 : Nat), (by rw [← hs24] <;> rfl), (by omega), rfl, hS.fin [0] (by decide) rfl⟩
     omega
    ·have _hC5 := trivial
     have hC5p : ¬ ((((((i : Int) - 1) > 0 ∧ ((i : Int) - 1) < ((asizeS a0.Widths a0.Heights (regionS a0 a1 a2).1).1.re.n - 1)) ∧ ((j : Int) - 1) > 0) ∧ ((j : Int) - 1) < ((asizeS a0.Widths a0.Heights (regionS a0 a1 a2).1).1.im.n - 1))) := by simpa using hC5
     refine C_skip ?_
     refine E_then ?_
     refine C_seq ?_
     have haa := hgd.around_arms hRm (x := (i : Int) - 1) (y := (j : Int) - 1) (by omega) (by omega) (by omega) (by omega)
     rw [← hW, ← hH, ← hA, ← hB] at haa
     have hsa := hgd.some_arms haa.1
     have hav := hgd.arms_val haa.1
     refine C_region ?_
     refine wv rfl rfl rfl (R_loadN (cs := [.int .i64 a0.Right, .slice Aa0_Widths a0.Widths.length ca0_Widths, .slice Aa0_Heights a0.Heights.length ca0_Heights, .slice Aa0_Cells a0.Cells.length ca0_Cells, .slice Aa0_Merges a0.Merges.length ca0_Merges]) rfl rfl agg26 size26 rfl (boxcells (hS.bx 0 rfl) 0 rfl)) <| wv rfl rfl rfl (R_move rfl rfl) <| wv rfl rfl rfl (R_move rfl rfl) <| wv rfl rfl rfl (R_add64 rfl rfl rfl (by omega) (by omega)) <| wv rfl rfl rfl (R_move rfl rfl) <| wv rfl rfl rfl (R_move rfl rfl) <| wv rfl rfl rfl (R_add64 rfl rfl rfl (by omega) (by omega)) ?_
     refine W_cons rfl (by decide) (Sv_call rfl rfl rfl ent9 ?_)
     refine (arms_calls a0 Aa0_Widths ca0_Widths Aa0_Heights ca0_Heights Aa0_Cells ca0_Cells Aa0_Merges ca0_Merges ((acornerS a0.Widths a0.Heights (regionS a0 a1 a2).1).1.re.n + ((i : Int) - 1)) ((acornerS a0.Widths a0.Heights (regionS a0 a1 a2).1).1.im.n + ((j : Int) - 1)) _ _ hS.out0 (hra0_Widths.mono (hS.zl [])) hca0_Widths (hra0_Heights.mono (hS.zl [])) hca0_Heights (hra0_Cells.mono (hS.zl [])) hca0_Cells (hra0_Merges.mono (hS.zl [])) hca0_Merges (by first | assumption | omega | (unfold I64; omega)) (by first | assumption | omega | (unfold I64; omega))).mono ?_
     rintro e_ w25 ⟨rfl, hS_⟩
     refine ⟨_, rfl, ?_⟩
     have hS := hS.call0 hS_
     refine wv rfl rfl rfl (R_move rfl rfl) <| wv rfl rfl rfl (R_extract rfl rfl rfl) <| wv rfl rfl rfl (R_extract rfl rfl rfl) <| wv rfl rfl rfl (R_assign rfl rfl) <| wv rfl rfl rfl (R_assign rfl rfl) ?_
     refine W_nil ?_
     refine E_then (C_fr [(3, .pointer (some ⟨b2, 0, none⟩)), (13, .int .i64 (acornerS a0.Widths a0.Heights (regionS a0 a1 a2).1).1.re.n), (14, .int .i64 (acornerS a0.Widths a0.Heights (regionS a0 a1 a2).1).1.im.n), (15, .int .i64 (asizeS a0.Widths a0.Heights (regionS a0 a1 a2).1).1.re.n), (16, .int .i64 (asizeS a0.Widths a0.Heights (regionS a0 a1 a2).1).1.im.n), (17, .int .i64 ((i : Int) - 1)), (18, .int .i64 ((j : Int) - 1)), (19, .int .i64 (armsS a0 ((acornerS a0.Widths a0.Heights (regionS a0 a1 a2).1).1.re.n + ((i : Int) - 1)) ((acornerS a0.Widths a0.Heights (regionS a0 a1 a2).1).1.im.n + ((j : Int) - 1))).1), (20, .int .i64 (armsS a0 ((acornerS a0.Widths a0.Heights (regionS a0 a1 a2).1).1.re.n + ((i : Int) - 1)) ((acornerS a0.Widths a0.Heights (regionS a0 a1 a2).1).1.im.n + ((j : Int) - 1))).2)] rfl ?_)
     refine C_seq ?_
     refine C_region ?_
     refine wv rfl rfl rfl (R_move rfl rfl) <| wv rfl rfl rfl (R_bin rfl rfl rfl rfl rfl) <| wv rfl rfl rfl (R_move rfl rfl) <| wg rfl rfl (Gd.on rfl rfl rfl) (fun hB => R_move rfl rfl) <| wg rfl rfl (Gd.on rfl rfl rfl) (fun hB => R_move rfl rfl) <| wg rfl rfl (Gd.on rfl rfl rfl) (fun hB => Runs.at_ (i := 125) (gl rfl hB) (Runs.at_ (i := 124) (gl rfl hB) (R_bin rfl rfl rfl rfl rfl))) <| wv rfl rfl rfl (R_pick_and rfl rfl rfl rfl) <| wv rfl rfl rfl (R_move rfl rfl) <| wg rfl rfl (Gd.on rfl rfl rfl) (fun hB => R_move rfl rfl) <| wg rfl rfl (Gd.on rfl rfl rfl) (fun hB => Runs.at_ (i := 129) (gl rfl hB) (R_bin rfl rfl rfl rfl rfl)) <| wv rfl rfl rfl (R_pick_and rfl rfl rfl rfl) <| wv rfl rfl rfl (R_move rfl rfl) <| wg rfl rfl (Gd.on rfl rfl rfl) (fun hB => R_move rfl rfl) <| wg rfl rfl (Gd.on rfl rfl rfl) (fun hB => R_move rfl rfl) <| wg rfl rfl (Gd.on rfl rfl rfl) (fun hB => Runs.at_ (i := 134) (gl rfl hB) (Runs.at_ (i := 133) (gl rfl hB) (R_bin rfl rfl rfl rfl rfl))) <| wv rfl rfl rfl (R_pick_and rfl rfl rfl rfl) <| wv rfl rfl rfl (R_assign rfl rfl) ?_
     refine W_nil ?_
     refine E_then (C_fr [(3, .pointer (some ⟨b2, 0, none⟩)), (13, .int .i64 (acornerS a0.Widths a0.Heights (regionS a0 a1 a2).1).1.re.n), (14, .int .i64 (acornerS a0.Widths a0.Heights (regionS a0 a1 a2).1).1.im.n), (15, .int .i64 (asizeS a0.Widths a0.Heights (regionS a0 a1 a2).1).1.re.n), (16, .int .i64 (asizeS a0.Widths a0.Heights (regionS a0 a1 a2).1).1.im.n), (17, .int .i64 ((i : Int) - 1)), (18, .int .i64 ((j : Int) - 1)), (19, .int .i64 (armsS a0 ((acornerS a0.Widths a0.Heights (regionS a0 a1 a2).1).1.re.n + ((i : Int) - 1)) ((acornerS a0.Widths a0.Heights (regionS a0 a1 a2).1).1.im.n + ((j : Int) - 1))).1), (20, .int .i64 (armsS a0 ((acornerS a0.Widths a0.Heights (regionS a0 a1 a2).1).1.re.n + ((i : Int) - 1)) ((acornerS a0.Widths a0.Heights (regionS a0 a1 a2).1).1.im.n + ((j : Int) - 1))).2), (21, .bool ((((decide (((i : Int) - 1) ≥ 0)) && (decide (((i : Int) - 1) < (asizeS a0.Widths a0.Heights (regionS a0 a1 a2).1).1.re.n))) && (decide (((j : Int) - 1) ≥ 0))) && (decide (((j : Int) - 1) < (asizeS a0.Widths a0.Heights (regionS a0 a1 a2).1).1.im.n))))] rfl ?_)
     refine C_seq ?_
     refine C_region ?_
     refine wv rfl rfl rfl (R_move rfl rfl) <| wv rfl rfl rfl (R_bin rfl rfl rfl rfl rfl) <| wv rfl rfl rfl (R_move rfl rfl) ?_
     have hk27 : (((armsS a0 ((acornerS a0.Widths a0.Heights (regionS a0 a1 a2).1).1.re.n + ((i : Int) - 1)) ((acornerS a0.Widths a0.Heights (regionS a0 a1 a2).1).1.im.n + ((j : Int) - 1))).2 != 0)) = false := by rw [hav]; rfl
     have hk27p : (armsS a0 ((acornerS a0.Widths a0.Heights (regionS a0 a1 a2).1).1.re.n + ((i : Int) - 1)) ((acornerS a0.Widths a0.Heights (regionS a0 a1 a2).1).1.im.n + ((j : Int) - 1))).2 = 0 := by simpa using hk27
     refine W_cons rfl (by decide) (Sv_gt rfl rfl rfl hk27 (Sv_val rfl (R_move rfl rfl) ?_))
     refine W_cons rfl (by decide) (Sv_gt rfl rfl rfl hk27 (Sv_val rfl (R_bin rfl rfl rfl rfl rfl) ?_))
     refine W_cons rfl (by decide) (Sv_gt rfl rfl rfl hk27 (Sv_val rfl (R_move rfl rfl) ?_))
     refine W_cons rfl (by decide) (Sv_gt rfl rfl rfl hk27 (Sv_val rfl (R_blneq rfl rfl rfl Try.underlying4) ?_))
     refine wv rfl rfl rfl (R_pick_f rfl rfl hk27 rfl) ?_
     refine W_nil ?_
     refine E_then (C_fr [(3, .pointer (some ⟨b2, 0, none⟩)), (13, .int .i64 (acornerS a0.Widths a0.Heights (regionS a0 a1 a2).1).1.re.n), (14, .int .i64 (acornerS a0.Widths a0.Heights (regionS a0 a1 a2).1).1.im.n), (15, .int .i64 (asizeS a0.Widths a0.Heights (regionS a0 a1 a2).1).1.re.n), (16, .int .i64 (asizeS a0.Widths a0.Heights (regionS a0 a1 a2).1).1.im.n), (17, .int .i64 ((i : Int) - 1)), (18, .int .i64 ((j : Int) - 1)), (144, .bool (((armsS a0 ((acornerS a0.Widths a0.Heights (regionS a0 a1 a2).1).1.re.n + ((i : Int) - 1)) ((acornerS a0.Widths a0.Heights (regionS a0 a1 a2).1).1.im.n + ((j : Int) - 1))).1 == 0) != ((((decide (((i : Int) - 1) ≥ 0)) && (decide (((i : Int) - 1) < (asizeS a0.Widths a0.Heights (regionS a0 a1 a2).1).1.re.n))) && (decide (((j : Int) - 1) ≥ 0))) && (decide (((j : Int) - 1) < (asizeS a0.Widths a0.Heights (regionS a0 a1 a2).1).1.im.n)))))] rfl ?_)
     have hk28 : ((((armsS a0 ((acornerS a0.Widths a0.Heights (regionS a0 a1 a2).1).1.re.n + ((i : Int) - 1)) ((acornerS a0.Widths a0.Heights (regionS a0 a1 a2).1).1.im.n + ((j : Int) - 1))).1 == 0) != ((((decide (((i : Int) - 1) ≥ 0)) && (decide (((i : Int) - 1) < (asizeS a0.Widths a0.Heights (regionS a0 a1 a2).1).1.re.n))) && (decide (((j : Int) - 1) ≥ 0))) && (decide (((j : Int) - 1) < (asizeS a0.Widths a0.Heights (regionS a0 a1 a2).1).1.im.n))))) = false := by rw [hsa.2.2, haa.2]; simp
     refine C_else rfl hk28 ?_
     refine C_skip ?_
     refine E_block_normal ?_
     refine E_then ?_
     refine C_region ?_
     refine wv rfl rfl rfl (R_move rfl rfl) <| wv rfl rfl rfl (R_add64 rfl rfl rfl (by omega) (by omega)) <| wv rfl rfl rfl (R_assign rfl rfl) ?_
     refine W_nil ?_
     have hs29 : ((j : Int) - 1) + 1 = ((j + 1 : Nat) : Int) - 1 := by omega
     refine E_round [3, 13, 14, 15, 16, 17, 18] ?_ ⟨(j + 1 : Nat), (by rw [← hs29] <;> rfl), (by omega), rfl, hS.fin [0] (by decide) rfl⟩
     omega
   ·have _hC4 := trivial
    have hC4p : ¬ (((j : Int) - 1) ≤ (asizeS a0.Widths a0.Heights (regionS a0 a1 a2).1).1.im.n) := by simpa using hC4
    refine C_exit ?_
    refine E_then_exit ?_
    refine E_then_exit ?_
    refine E_block_hit ?_
    refine E_block_normal ?_
    refine E_then ?_
    refine C_region ?_
    refine wv rfl rfl rfl (R_move rfl rfl) <| wv rfl rfl rfl (R_add64 rfl rfl rfl (by omega) (by omega)) <| wv rfl rfl rfl (R_assign rfl rfl) ?_
    refine W_nil ?_
    have hs30 : ((i : Int) - 1) + 1 = ((i + 1 : Nat) : Int) - 1 := by omega
    refine E_round [3, 13, 14, 15, 16, 17] ?_ ⟨(i + 1 : Nat), (by rw [← hs30] <;> rfl), (by omega), rfl, hS.fin [0] (by decide) rfl⟩
    omega
  ·have _hC3 := trivial
   have hC3p : ¬ (((i : Int) - 1) ≤ (asizeS a0.Widths a0.Heights (regionS a0 a1 a2).1).1.re.n) := by simpa using hC3
   refine C_exit ?_
   refine E_then_exit ?_
   refine E_then_exit ?_
   refine E_block_hit ?_
   refine E_then (C_fr [] rfl ?_)
   refine C_seq ?_
   refine C_region ?_
   refine W_cons rfl (by decide) (Sv_call rfl rfl rfl ent12 ?_)
   refine (eawake_calls  _ _ hS.out0  ).mono ?_
   rintro e_ w31 ⟨rfl, hS_⟩
   refine ⟨_, rfl, ?_⟩
   have hS := hS.call0 hS_
   refine wv rfl rfl rfl (R_assign rfl rfl) ?_
   refine W_nil ?_
   refine E_then ?_
   refine C_ret ?_
   refine E_ret1 rfl rfl ?_
   exact ⟨Lret1 (Lbool (show true = true by rfl)), hS.fin [] (by decide) rfl⟩

end Go.Proofs.YtalpekmbknjeeaaG
