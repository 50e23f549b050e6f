/- Walks and laws of this program: part 5. -/
import Derived.Test.YtaljccgfnmfhnaaGreatDoorZE4
set_option linter.all false
set_option maxHeartbeats 8000000
set_option maxRecDepth 100000
namespace Go.Proofs.YtaljccgfnmfhnaaGreatDoorG
open Go Go.RowKit
theorem check2_calls (a0 : TRect) (ba1 : Nat) (a1 : TSheet) (Aa1_Widths : Option Addr) (ca1_Widths : Nat) (Aa1_Heights : Option Addr) (ca1_Heights : Nat) (Aa1_Cells : Option Addr) (ca1_Cells : Nat) (Aa1_Merges : Option Addr) (ca1_Merges : Nat) (z : Z) (w : World) (hI : In z w [bR ba1 30 [.int .i64 a1.Right, .slice Aa1_Widths a1.Widths.length ca1_Widths, .slice Aa1_Heights a1.Heights.length ca1_Heights, .slice Aa1_Cells a1.Cells.length ca1_Cells, .slice Aa1_Merges a1.Merges.length ca1_Merges]]) (hra1_Widths : Rd (kint .i64) z Aa1_Widths a1.Widths) (hca1_Widths : Cap Aa1_Widths a1.Widths.length ca1_Widths) (hra1_Heights : Rd (kint .i64) z Aa1_Heights a1.Heights) (hca1_Heights : Cap Aa1_Heights a1.Heights.length ca1_Heights) (hra1_Cells : Rd kdTCell z Aa1_Cells a1.Cells) (hca1_Cells : Cap Aa1_Cells a1.Cells.length ca1_Cells) (hra1_Merges : Rd kdTRect z Aa1_Merges a1.Merges) (hca1_Merges : Cap Aa1_Merges a1.Merges.length ca1_Merges)  :
    Calls Tryz.prog 46 #[.agg #[.int .i64 a0.Row, .int .i64 a0.Col, .int .i64 a0.Rows, .int .i64 a0.Cols], .pointer (some ⟨ba1, 0, none⟩)] w fun e w' => e = .returned (.bool (!hasS a1 a0)) ∧ Sp (FF [bR ba1 30 [.int .i64 a1.Right, .slice Aa1_Widths a1.Widths.length ca1_Widths, .slice Aa1_Heights a1.Heights.length ca1_Heights, .slice Aa1_Cells a1.Cells.length ca1_Cells, .slice Aa1_Merges a1.Merges.length ca1_Merges]]) w z w' [bR ba1 30 [.int .i64 a1.Right, .slice Aa1_Widths a1.Widths.length ca1_Widths, .slice Aa1_Heights a1.Heights.length ca1_Heights, .slice Aa1_Cells a1.Cells.length ca1_Cells, .slice Aa1_Merges a1.Merges.length ca1_Merges]] := by
 have hla1_Widths := hca1_Widths.le
 have hma1_Widths := hca1_Widths.mx
 have hla1_Heights := hca1_Heights.le
 have hma1_Heights := hca1_Heights.mx
 have hla1_Cells := hca1_Cells.le
 have hma1_Cells := hca1_Cells.mx
 have hla1_Merges := hca1_Merges.le
 have hma1_Merges := hca1_Merges.mx
 have hS := hI.sp
 refine Calls_of (vs := [.agg #[.int .i64 a0.Row, .int .i64 a0.Col, .int .i64 a0.Rows, .int .i64 a0.Cols], .pointer (some ⟨ba1, 0, none⟩)]) (N := 8) Tryz.func46 rfl rfl (Nat.le_of_ble_eq_true rfl) ?_
 refine C_seq <| C_region <| W_cons rfl (by decide) (S_box hS rfl (R_box (cs := [.int .i64 a0.Row, .int .i64 a0.Col, .int .i64 a0.Rows, .int .i64 a0.Cols]) rfl rfl rfl) (fun b2 w1 hS => ?_))
 refine wv rfl rfl rfl (R_assign rfl rfl) ?_
 refine W_nil <| E_then <| C_seq <| C_region <| wv rfl rfl rfl (R_loadN (cs := [.int .i64 a1.Right, .slice Aa1_Widths a1.Widths.length ca1_Widths, .slice Aa1_Heights a1.Heights.length ca1_Heights, .slice Aa1_Cells a1.Cells.length ca1_Cells, .slice Aa1_Merges a1.Merges.length ca1_Merges]) rfl rfl agg30 size30 rfl (boxcells (hS.bx 1 rfl) 0 rfl)) <| wv rfl rfl rfl (R_loadN (cs := [.int .i64 a0.Row, .int .i64 a0.Col, .int .i64 a0.Rows, .int .i64 a0.Cols]) rfl rfl agg76 size76 rfl (boxcells (hS.bx 0 rfl) 0 rfl)) ?_
 refine W_cons rfl (by decide) (Sv_call rfl rfl rfl ent43 ?_)
 refine (hass_calls a1 Aa1_Widths ca1_Widths Aa1_Heights ca1_Heights Aa1_Cells ca1_Cells Aa1_Merges ca1_Merges a0 _ _ hS.out0 (hra1_Widths.mono (hS.zl [])) hca1_Widths (hra1_Heights.mono (hS.zl [])) hca1_Heights (hra1_Cells.mono (hS.zl [])) hca1_Cells (hra1_Merges.mono (hS.zl [])) hca1_Merges ).mono ?_
 rintro e_ w3 ⟨rfl, hS_⟩
 refine ⟨_, rfl, ?_⟩
 have hS := hS.call0 hS_
 refine wv rfl rfl rfl (R_un rfl rfl rfl) <| wv rfl rfl rfl (R_assign rfl rfl) ?_
 refine W_nil <| E_then (C_fr [(3, .bool (!(hasS a1 a0)))] rfl ?_)
 refine C_ret <| E_ret1 rfl rfl ?_
 exact ⟨Lret1 (Lbool (show (!(hasS a1 a0)) = (!hasS a1 a0) by rfl)), hS.fin [1] (by decide) rfl⟩
theorem check2_fv (ba1 : Nat) (a1 : TSheet) (Aa1_Widths : Option Addr) (ca1_Widths : Nat) (Aa1_Heights : Option Addr) (ca1_Heights : Nat) (Aa1_Cells : Option Addr) (ca1_Cells : Nat) (Aa1_Merges : Option Addr) (ca1_Merges : Nat) (zc : Z) (hra1_Widths : Rd (kint .i64) zc Aa1_Widths a1.Widths) (hca1_Widths : Cap Aa1_Widths a1.Widths.length ca1_Widths) (hra1_Heights : Rd (kint .i64) zc Aa1_Heights a1.Heights) (hca1_Heights : Cap Aa1_Heights a1.Heights.length ca1_Heights) (hra1_Cells : Rd kdTCell zc Aa1_Cells a1.Cells) (hca1_Cells : Cap Aa1_Cells a1.Cells.length ca1_Cells) (hra1_Merges : Rd kdTRect zc Aa1_Merges a1.Merges) (hca1_Merges : Cap Aa1_Merges a1.Merges.length ca1_Merges) : FV Tryz.prog zc 46 [.pointer (some ⟨ba1, 0, none⟩)] (fun z_ (x_ : TRect) vs_ => vs_ = [.agg #[.int .i64 x_.Row, .int .i64 x_.Col, .int .i64 x_.Rows, .int .i64 x_.Cols]]) (fun (_ _ : Unit) => allR [bR ba1 30 [.int .i64 a1.Right, .slice Aa1_Widths a1.Widths.length ca1_Widths, .slice Aa1_Heights a1.Heights.length ca1_Heights, .slice Aa1_Cells a1.Cells.length ca1_Cells, .slice Aa1_Merges a1.Merges.length ca1_Merges]]) (fun _ x_ => True) (fun _ _ => ()) (fun _ x_ => .bool ((fun (x_ : TRect) => !hasS a1 x_) x_)) := ⟨ent46, by
  rintro _ _ x vs w z hz hI hok rfl
  refine (check2_calls x ba1 a1 Aa1_Widths ca1_Widths Aa1_Heights ca1_Heights Aa1_Cells ca1_Cells Aa1_Merges ca1_Merges z w hI.unb  (hra1_Widths.mono hz) hca1_Widths (hra1_Heights.mono hz) hca1_Heights (hra1_Cells.mono hz) hca1_Cells (hra1_Merges.mono hz) hca1_Merges ).mono ?_
  rintro e w' ⟨rfl, hS⟩
  exact ⟨rfl, (), hS.bun1⟩⟩
theorem check3_calls (a0 : TRect) (ba1 : Nat) (a1 : TRect) (z : Z) (w : World) (hI : In z w [bR ba1 76 [.int .i64 a1.Row, .int .i64 a1.Col, .int .i64 a1.Rows, .int .i64 a1.Cols]])   :
    Calls Tryz.prog 47 #[.agg #[.int .i64 a0.Row, .int .i64 a0.Col, .int .i64 a0.Rows, .int .i64 a0.Cols], .pointer (some ⟨ba1, 0, none⟩)] w fun e w' => e = .returned (.bool (meetS a0 a1)) ∧ Sp (FF [bR ba1 76 [.int .i64 a1.Row, .int .i64 a1.Col, .int .i64 a1.Rows, .int .i64 a1.Cols]]) w z w' [bR ba1 76 [.int .i64 a1.Row, .int .i64 a1.Col, .int .i64 a1.Rows, .int .i64 a1.Cols]] := by
 have hS := hI.sp
 refine Calls_of (vs := [.agg #[.int .i64 a0.Row, .int .i64 a0.Col, .int .i64 a0.Rows, .int .i64 a0.Cols], .pointer (some ⟨ba1, 0, none⟩)]) (N := 7) Tryz.func47 rfl rfl (Nat.le_of_ble_eq_true rfl) ?_
 refine C_seq <| C_region <| W_cons rfl (by decide) (S_box hS rfl (R_box (cs := [.int .i64 a0.Row, .int .i64 a0.Col, .int .i64 a0.Rows, .int .i64 a0.Cols]) rfl rfl rfl) (fun b2 w1 hS => ?_))
 refine wv rfl rfl rfl (R_assign rfl rfl) ?_
 refine W_nil <| E_then <| C_seq <| C_region <| wv rfl rfl rfl (R_loadN (cs := [.int .i64 a0.Row, .int .i64 a0.Col, .int .i64 a0.Rows, .int .i64 a0.Cols]) rfl rfl agg76 size76 rfl (boxcells (hS.bx 0 rfl) 0 rfl)) <| wv rfl rfl rfl (R_loadN (cs := [.int .i64 a1.Row, .int .i64 a1.Col, .int .i64 a1.Rows, .int .i64 a1.Cols]) rfl rfl agg76 size76 rfl (boxcells (hS.bx 1 rfl) 0 rfl)) ?_
 refine W_cons rfl (by decide) (Sv_call rfl rfl rfl ent48 ?_)
 refine (meet_calls a0 a1 _ _ hS.out0  ).mono ?_
 rintro e_ w3 ⟨rfl, hS_⟩
 refine ⟨_, rfl, ?_⟩
 have hS := hS.call0 hS_
 refine wv rfl rfl rfl (R_assign rfl rfl) ?_
 refine W_nil <| E_then (C_fr [(3, .bool (meetS a0 a1))] rfl ?_)
 refine C_ret <| E_ret1 rfl rfl ?_
 exact ⟨Lret1 (Lbool (show (meetS a0 a1) = (meetS a0 a1) by rfl)), hS.fin [1] (by decide) rfl⟩
theorem check3_fv (ba1 : Nat) (a1 : TRect) (zc : Z) : FV Tryz.prog zc 47 [.pointer (some ⟨ba1, 0, none⟩)] (fun z_ (x_ : TRect) vs_ => vs_ = [.agg #[.int .i64 x_.Row, .int .i64 x_.Col, .int .i64 x_.Rows, .int .i64 x_.Cols]]) (fun (_ _ : Unit) => allR [bR ba1 76 [.int .i64 a1.Row, .int .i64 a1.Col, .int .i64 a1.Rows, .int .i64 a1.Cols]]) (fun _ x_ => True) (fun _ _ => ()) (fun _ x_ => .bool ((fun (x_ : TRect) => meetS x_ a1) x_)) := ⟨ent47, by
  rintro _ _ x vs w z hz hI hok rfl
  refine (check3_calls x ba1 a1 z w hI.unb   ).mono ?_
  rintro e w' ⟨rfl, hS⟩
  exact ⟨rfl, (), hS.bun1⟩⟩
theorem check_calls (a0 : TSheet) (Aa0_Widths : Option Addr) (ca0_Widths : Nat) (Aa0_Heights : Option Addr) (ca0_Heights : Nat) (Aa0_Cells : Option Addr) (ca0_Cells : Nat) (Aa0_Merges : Option Addr) (ca0_Merges : Nat) (z : Z) (w : World) (hI : In z w []) (hra0_Widths : Rd (kint .i64) z Aa0_Widths a0.Widths) (hca0_Widths : Cap Aa0_Widths a0.Widths.length ca0_Widths) (hra0_Heights : Rd (kint .i64) z Aa0_Heights a0.Heights) (hca0_Heights : Cap Aa0_Heights a0.Heights.length ca0_Heights) (hra0_Cells : Rd kdTCell z Aa0_Cells a0.Cells) (hca0_Cells : Cap Aa0_Cells a0.Cells.length ca0_Cells) (hra0_Merges : Rd kdTRect z Aa0_Merges a0.Merges) (hca0_Merges : Cap Aa0_Merges a0.Merges.length ca0_Merges)  :
    Calls Tryz.prog 23 #[.agg #[.int .i64 a0.Right, .slice Aa0_Widths a0.Widths.length ca0_Widths, .slice Aa0_Heights a0.Heights.length ca0_Heights, .slice Aa0_Cells a0.Cells.length ca0_Cells, .slice Aa0_Merges a0.Merges.length ca0_Merges]] w fun e w' => e = .returned (.int .i64 (checkSh a0)) ∧ Sp (FF []) w z w' [] := by
 have hla0_Widths := hca0_Widths.le
 have hma0_Widths := hca0_Widths.mx
 have hla0_Heights := hca0_Heights.le
 have hma0_Heights := hca0_Heights.mx
 have hla0_Cells := hca0_Cells.le
 have hma0_Cells := hca0_Cells.mx
 have hla0_Merges := hca0_Merges.le
 have hma0_Merges := hca0_Merges.mx
 have hS := hI.sp
 refine Calls_of (vs := [.agg #[.int .i64 a0.Right, .slice Aa0_Widths a0.Widths.length ca0_Widths, .slice Aa0_Heights a0.Heights.length ca0_Heights, .slice Aa0_Cells a0.Cells.length ca0_Cells, .slice Aa0_Merges a0.Merges.length ca0_Merges]]) (N := 60) Tryz.func23 rfl rfl (Nat.le_of_ble_eq_true rfl) ?_
 refine C_seq <| C_region <| W_cons rfl (by decide) (S_box hS rfl (R_box (cs := [.int .i64 a0.Right, .slice Aa0_Widths a0.Widths.length ca0_Widths, .slice Aa0_Heights a0.Heights.length ca0_Heights, .slice Aa0_Cells a0.Cells.length ca0_Cells, .slice Aa0_Merges a0.Merges.length ca0_Merges]) rfl rfl rfl) (fun b2 w1 hS => ?_))
 refine wv rfl rfl rfl (R_assign rfl rfl) ?_
 refine W_nil <| E_then <| C_seq <| C_block <| C_seq <| C_region <| wv rfl rfl rfl (R_loadN (cs := [.int .i64 a0.Right, .slice Aa0_Widths a0.Widths.length ca0_Widths, .slice Aa0_Heights a0.Heights.length ca0_Heights, .slice Aa0_Cells a0.Cells.length ca0_Cells, .slice Aa0_Merges a0.Merges.length ca0_Merges]) rfl rfl agg30 size30 rfl (boxcells (hS.bx 0 rfl) 0 rfl)) ?_
 refine W_cons rfl (by decide) (Sv_call rfl rfl rfl ent39 ?_)
 refine (limits_calls a0 Aa0_Widths ca0_Widths Aa0_Heights ca0_Heights Aa0_Cells ca0_Cells Aa0_Merges ca0_Merges _ _ hS.out0 (hra0_Widths.mono (hS.zl [])) hca0_Widths (hra0_Heights.mono (hS.zl [])) hca0_Heights (hra0_Cells.mono (hS.zl [])) hca0_Cells (hra0_Merges.mono (hS.zl [])) hca0_Merges ).mono ?_
 rintro e_ w3 ⟨rfl, hS_⟩
 refine ⟨_, rfl, ?_⟩
 have hS := hS.call0 hS_
 refine wv rfl rfl rfl (R_un rfl rfl rfl) <| wv rfl rfl rfl (R_assign rfl rfl) ?_
 refine W_nil <| E_then (C_fr [(1, .pointer (some ⟨b2, 0, none⟩)), (8, .bool (!(limitsS a0)))] rfl ?_)
 refine C_ite rfl (fun hC0 => ?_) (fun hC0 => ?_)
 ·have hC0p : ¬ (limitsS a0 = true) := by simpa using hC0
  refine C_seq <| C_region <| wv rfl rfl rfl (R_assign rfl rfl) ?_
  refine W_nil <| E_then <| C_ret <| E_block_ret <| E_then_ret <| E_ret1 rfl rfl ?_
  exact ⟨Lret1 (Lint (show 3 = checkSh a0 by exact ck3 (by assumption))), hS.fin [] (by decide) rfl⟩
 ·have hC0p : (limitsS a0 = true) := by simpa using hC0
  refine C_seq <| C_region <| wv rfl rfl rfl (R_loadN (cs := [.int .i64 a0.Right, .slice Aa0_Widths a0.Widths.length ca0_Widths, .slice Aa0_Heights a0.Heights.length ca0_Heights, .slice Aa0_Cells a0.Cells.length ca0_Cells, .slice Aa0_Merges a0.Merges.length ca0_Merges]) rfl rfl agg30 size30 rfl (boxcells (hS.bx 0 rfl) 0 rfl)) ?_
  refine W_cons rfl (by decide) (Sv_call rfl rfl rfl ent40 ?_)
  refine (order_calls a0 Aa0_Widths ca0_Widths Aa0_Heights ca0_Heights Aa0_Cells ca0_Cells Aa0_Merges ca0_Merges _ _ hS.out0 (hra0_Widths.mono (hS.zl [])) hca0_Widths (hra0_Heights.mono (hS.zl [])) hca0_Heights (hra0_Cells.mono (hS.zl [])) hca0_Cells (hra0_Merges.mono (hS.zl [])) hca0_Merges ).mono ?_
  rintro e_ w5 ⟨rfl, hS_⟩
  refine ⟨_, rfl, ?_⟩
  have hS := hS.call0 hS_
  refine wv rfl rfl rfl (R_un rfl rfl rfl) <| wv rfl rfl rfl (R_assign rfl rfl) ?_
  refine W_nil <| E_then <| C_ite rfl (fun hC1 => ?_) (fun hC1 => ?_)
  ·have hC1p : ¬ (orderS a0 = true) := by simpa using hC1
   refine C_seq <| C_region <| wv rfl rfl rfl (R_assign rfl rfl) ?_
   refine W_nil <| E_then (C_fr [(2, .int .i64 1)] rfl ?_)
   refine C_ret <| E_block_ret <| E_then_ret <| E_ret1 rfl rfl ?_
   exact ⟨Lret1 (Lint (show 1 = checkSh a0 by exact ck1 (by assumption) (by assumption))), hS.fin [] (by decide) rfl⟩
  ·have hC1p : (orderS a0 = true) := by simpa using hC1
   refine C_skip <| E_block_normal <| E_then (C_fr [(1, .pointer (some ⟨b2, 0, none⟩))] rfl ?_)
   refine C_seq <| C_region <| wv rfl rfl rfl (R_fld rfl rfl fld30_3) <| wv rfl rfl rfl (R_load1 rfl rfl agg27 ((hS.bx 0 rfl).cell rfl)) <| wv rfl rfl rfl (R_makeFunc rfl rfl) ?_
   have hS := hS.bun [0] (by decide)
   refine W_cons rfl (by decide) (Sv_call rfl rfl rfl ent41 ?_)
   refine (cfc_has_calls a0.Cells Aa0_Cells ca0_Cells 42 [.pointer (some ⟨b2, 0, none⟩)] (allR [bR b2 30 [.int .i64 a0.Right, .slice Aa0_Widths a0.Widths.length ca0_Widths, .slice Aa0_Heights a0.Heights.length ca0_Heights, .slice Aa0_Cells a0.Cells.length ca0_Cells, .slice Aa0_Merges a0.Merges.length ca0_Merges]]) z (fun (x_ : TCell) => !hasS a0 (oneS x_.Row x_.Col)) _ _ (hS.out [0] (by decide)) (hra0_Cells.mono (hS.zl [0])) hca0_Cells (check1_fv b2 a0 Aa0_Widths ca0_Widths Aa0_Heights ca0_Heights Aa0_Cells ca0_Cells Aa0_Merges ca0_Merges _ hra0_Widths hca0_Widths hra0_Heights hca0_Heights hra0_Cells hca0_Cells hra0_Merges hca0_Merges) (hS.zl [0]) ).mono ?_
   rintro e_ w7 ⟨rfl, hS_⟩
   refine ⟨_, rfl, ?_⟩
   have hS := hS.call [0] (by decide) hS_
   have hS := hS.unb
   refine wv rfl rfl rfl (R_assign rfl rfl) ?_
   refine W_nil <| E_then <| C_seq <| C_seq <| C_region <| wv rfl rfl rfl (R_move rfl rfl) <| wv rfl rfl rfl (R_move rfl rfl) ?_
   refine W_split (t := 21) rfl (fun hg10 => ?_) (fun hg10 => ?_)
   ·refine W_cons rfl (by decide) (Sv_off rfl rfl rfl (by rw [hg10] <;> rfl) ?_)
    refine W_cons rfl (by decide) (Sv_off rfl rfl rfl (by rw [hg10] <;> rfl) ?_)
    refine W_cons rfl (by decide) (Sv_off rfl rfl rfl (by rw [hg10] <;> rfl) ?_)
    refine W_cons rfl (by decide) (Sv_off rfl rfl rfl (by rw [hg10] <;> rfl) ?_)
    refine wv rfl rfl rfl (R_pick_t rfl rfl hg10 rfl) ?_
    refine W_nil <| E_then (C_fr [(1, .pointer (some ⟨b2, 0, none⟩)), (26, .bool true)] rfl ?_)
    refine C_if rfl rfl ?_
    refine C_seq <| C_region <| wv rfl rfl rfl (R_assign rfl rfl) ?_
    refine W_nil <| E_then <| C_ret <| E_then_ret <| E_ret1 rfl rfl ?_
    exact ⟨Lret1 (Lint (show 4 = checkSh a0 by exact ck4 (by assumption) (by assumption) (out_a (by assumption)))), hS.fin [] (by decide) rfl⟩
   ·refine W_cons rfl (by decide) (Sv_gt rfl rfl rfl hg10 (Sv_val rfl (R_fld rfl rfl fld30_4) ?_))
    refine W_cons rfl (by decide) (Sv_gt rfl rfl rfl hg10 (Sv_val rfl (R_load1 rfl rfl agg28 ((hS.bx 0 rfl).cell rfl)) ?_))
    refine W_cons rfl (by decide) (Sv_gt rfl rfl rfl hg10 (Sv_val rfl (R_makeFunc rfl rfl) ?_))
    have hS := hS.bun [0] (by decide)
    refine W_cons rfl (by decide) (Sv_gt rfl rfl rfl hg10 (Sv_call rfl rfl rfl ent45 ?_))
    refine (cfq_has_calls a0.Merges Aa0_Merges ca0_Merges 46 [.pointer (some ⟨b2, 0, none⟩)] (allR [bR b2 30 [.int .i64 a0.Right, .slice Aa0_Widths a0.Widths.length ca0_Widths, .slice Aa0_Heights a0.Heights.length ca0_Heights, .slice Aa0_Cells a0.Cells.length ca0_Cells, .slice Aa0_Merges a0.Merges.length ca0_Merges]]) z (fun (x_ : TRect) => !hasS a0 x_) _ _ (hS.out [0] (by decide)) (hra0_Merges.mono (hS.zl [0])) hca0_Merges (check2_fv b2 a0 Aa0_Widths ca0_Widths Aa0_Heights ca0_Heights Aa0_Cells ca0_Cells Aa0_Merges ca0_Merges _ hra0_Widths hca0_Widths hra0_Heights hca0_Heights hra0_Cells hca0_Cells hra0_Merges hca0_Merges) (hS.zl [0]) ).mono ?_
    rintro e_ w11 ⟨rfl, hS_⟩
    refine ⟨_, rfl, ?_⟩
    have hS := hS.call [0] (by decide) hS_
    have hS := hS.unb
    refine wv rfl rfl rfl (R_pick_f rfl rfl hg10 rfl) ?_
    refine W_nil <| E_then (C_fr [(1, .pointer (some ⟨b2, 0, none⟩)), (26, .bool (hasF (fun (x_ : TRect) => !hasS a0 x_) a0.Merges))] rfl ?_)
    refine C_ite rfl (fun hC2 => ?_) (fun hC2 => ?_)
    ·refine C_seq <| C_region <| wv rfl rfl rfl (R_assign rfl rfl) ?_
     refine W_nil <| E_then <| C_ret <| E_then_ret <| E_ret1 rfl rfl ?_
     exact ⟨Lret1 (Lint (show 4 = checkSh a0 by exact ck4 (by assumption) (by assumption) (out_b (by assumption)))), hS.fin [] (by decide) rfl⟩
    ·refine C_skip <| E_then <| C_seq <| C_seq <| C_region <| wv rfl rfl rfl (R_fld rfl rfl fld30_4) <| wv rfl rfl rfl (R_load1 rfl rfl agg28 ((hS.bx 0 rfl).cell rfl)) <| wv rfl rfl rfl (R_len rfl rfl Tryz.underlying28) <| wv rfl rfl rfl (R_move rfl rfl) ?_
     refine W_nil <| E_then <| C_block <| C_fr [(1, .pointer (some ⟨b2, 0, none⟩)), (28, .slice Aa0_Merges a0.Merges.length ca0_Merges), (29, .int .i64 (a0.Merges.length : Int)), (30, .int .i64 0)] rfl ?_
     refine C_loop (fun m_ f_ w_ => ∃ (i : Nat), f_ = [(1, .pointer (some ⟨b2, 0, none⟩)), (28, .slice Aa0_Merges a0.Merges.length ca0_Merges), (29, .int .i64 (a0.Merges.length : Int)), (30, .int .i64 (i : Int))] ∧ i ≤ a0.Merges.length ∧ (List.range i).any (meetsS a0) = false ∧ m_ = a0.Merges.length - i ∧ Sp (FF []) w z w_ [bR b2 30 [.int .i64 a0.Right, .slice Aa0_Widths a0.Widths.length ca0_Widths, .slice Aa0_Heights a0.Heights.length ca0_Heights, .slice Aa0_Cells a0.Cells.length ca0_Cells, .slice Aa0_Merges a0.Merges.length ca0_Merges]]) (a0.Merges.length - (0 : Nat)) ⟨(0 : Nat), rfl, (by omega), (by rfl), rfl, hS.fin [0] (by decide) rfl⟩ ?_
     rintro m_ f_ w14 ⟨i, rfl, hI0_0, hI0_1, rfl, hS⟩
     refine C_seq <| C_region <| wv rfl rfl rfl (R_bin rfl rfl rfl rfl rfl) ?_
     refine W_nil <| E_then <| C_seq <| C_ite rfl (fun hC3 => ?_) (fun hC3 => ?_)
     ·have hC3p : (i : Int) < (a0.Merges.length : Int) := by simpa using hC3
      refine C_skip <| E_then <| C_seq <| C_block <| C_seq <| C_region <| wv rfl rfl rfl (R_move rfl rfl) ?_
      obtain ⟨q15, csq15, hAq15, rfl, hkq15⟩ := hra0_Merges.at_ (default : TRect) (i := (i : Int)) (by omega) (by omega)
      have hkq15 : ∀ (j_ : Nat) (u_ : Value), ([.int .i64 (a0.Merges.getD i (default : TRect)).Row, .int .i64 (a0.Merges.getD i (default : TRect)).Col, .int .i64 (a0.Merges.getD i (default : TRect)).Rows, .int .i64 (a0.Merges.getD i (default : TRect)).Cols] : List Value)[j_]? = some u_ → cz z (q15.add (i * 4 + j_)) = some u_ := hkq15
      refine wv rfl rfl rfl (R_idx rfl rfl hAq15 rfl Tryz.underlying28 size76 (by omega) (by omega)) <| wv rfl rfl rfl (R_loadN (cs := [.int .i64 (a0.Merges.getD i (default : TRect)).Row, .int .i64 (a0.Merges.getD i (default : TRect)).Col, .int .i64 (a0.Merges.getD i (default : TRect)).Rows, .int .i64 (a0.Merges.getD i (default : TRect)).Cols]) rfl rfl agg76 size76 rfl (fun j u h => cell_add (hS.sub.cell (hkq15 j u h)))) ?_
      refine W_cons rfl (by decide) (S_box hS rfl (R_alloc rfl alloc76) (fun b17 w16 hS => ?_))
      refine wv rfl rfl rfl (R_assign rfl rfl) ?_
      refine W_cons0 rfl (S_store hS 0 rfl rfl rfl rfl rfl size76 (one_cons rfl (one_cons rfl (one_cons rfl (one_cons rfl one_nil)))) (Nat.le_of_ble_eq_true rfl) (fun w18 hS => ?_))
      have hS : Sp (FF []) w z w18 [bR b17 76 [.int .i64 (a0.Merges.getD i (default : TRect)).Row, .int .i64 (a0.Merges.getD i (default : TRect)).Col, .int .i64 (a0.Merges.getD i (default : TRect)).Rows, .int .i64 (a0.Merges.getD i (default : TRect)).Cols], bR b2 30 [.int .i64 a0.Right, .slice Aa0_Widths a0.Widths.length ca0_Widths, .slice Aa0_Heights a0.Heights.length ca0_Heights, .slice Aa0_Cells a0.Cells.length ca0_Cells, .slice Aa0_Merges a0.Merges.length ca0_Merges]] := hS
      refine W_nil <| E_then <| C_seq <| C_region <| wv rfl rfl rfl (R_fld rfl rfl fld30_4) <| wv rfl rfl rfl (R_load1 rfl rfl agg28 ((hS.bx 1 rfl).cell rfl)) <| wv rfl rfl rfl (R_move rfl rfl) ?_
      have hrq19 := hra0_Merges.take i
      have hcq19 := hca0_Merges.take i
      refine wv rfl rfl rfl (R_cuth rfl rfl rfl (by kernel_rfl) (size76 _) hca0_Merges (by omega) (by omega)) <| wv rfl rfl rfl (R_makeFunc rfl rfl) ?_
      have hS := hS.bun [0] (by decide)
      refine W_cons rfl (by decide) (Sv_call rfl rfl rfl ent45 ?_)
      refine (cfq_has_calls (a0.Merges.take i) Aa0_Merges ca0_Merges 47 [.pointer (some ⟨b17, 0, none⟩)] (allR [bR b17 76 [.int .i64 (a0.Merges.getD i (default : TRect)).Row, .int .i64 (a0.Merges.getD i (default : TRect)).Col, .int .i64 (a0.Merges.getD i (default : TRect)).Rows, .int .i64 (a0.Merges.getD i (default : TRect)).Cols]]) zE (fun (x_ : TRect) => meetS x_ (a0.Merges.getD i (default : TRect))) _ _ (hS.out [0] (by decide)) (hrq19.mono (hS.zl [0])) hcq19 (check3_fv b17 (a0.Merges.getD i (default : TRect)) _ ) (zle_E _) ).mono ?_
      rintro e_ w20 ⟨rfl, hS_⟩
      refine ⟨_, rfl, ?_⟩
      have hS := hS.call [0] (by decide) hS_
      have hS := hS.unb
      refine W_nil <| E_then (C_fr [(1, .pointer (some ⟨b2, 0, none⟩)), (28, .slice Aa0_Merges a0.Merges.length ca0_Merges), (29, .int .i64 (a0.Merges.length : Int)), (30, .int .i64 (i : Int)), (40, .bool (hasF (fun (x_ : TRect) => meetS x_ (a0.Merges.getD i (default : TRect))) (a0.Merges.take i)))] rfl ?_)
      refine C_ite rfl (fun hC4 => ?_) (fun hC4 => ?_)
      ·refine C_seq <| C_region <| wv rfl rfl rfl (R_assign rfl rfl) ?_
       refine W_nil <| E_then (C_fr [(2, .int .i64 5)] rfl ?_)
       refine C_ret <| E_block_ret <| E_then_ret <| E_then_ret <| E_block_ret <| E_then_ret <| E_ret1 rfl rfl ?_
       exact ⟨Lret1 (Lint (show 5 = checkSh a0 by exact ck5 (by assumption) (by assumption) (out_n (by assumption) (by assumption)) (i := i) (by omega) (by assumption))), hS.fin [] (by decide) rfl⟩
      ·refine C_skip <| E_block_normal <| E_then <| C_region <| wv rfl rfl rfl (R_add64 rfl rfl rfl (by omega) (by omega)) <| wv rfl rfl rfl (R_move rfl rfl) ?_
       refine W_nil <| E_round [1, 28, 29, 30] ?_ ⟨(i + 1 : Nat), rfl, (by omega), (by exact range_any_next hI0_1 (by simp_all [meetsS])), rfl, hS.fin [1] (by decide) rfl⟩
       omega
     ·have hC3p : ¬ ((i : Int) < (a0.Merges.length : Int)) := by simpa using hC3
      refine C_exit <| E_then_exit <| E_then_exit <| E_block_hit ?_
      refine E_then <| C_seq <| C_seq <| C_region <| wv rfl rfl rfl (R_fld rfl rfl fld30_3) <| wv rfl rfl rfl (R_load1 rfl rfl agg27 ((hS.bx 0 rfl).cell rfl)) <| wv rfl rfl rfl (R_len rfl rfl Tryz.underlying27) <| wv rfl rfl rfl (R_move rfl rfl) ?_
      refine W_nil <| E_then (C_fr [(1, .pointer (some ⟨b2, 0, none⟩)), (43, .slice Aa0_Cells a0.Cells.length ca0_Cells), (44, .int .i64 (a0.Cells.length : Int)), (45, .int .i64 0)] rfl ?_)
      refine C_block <| C_fr [(1, .pointer (some ⟨b2, 0, none⟩)), (43, .slice Aa0_Cells a0.Cells.length ca0_Cells), (44, .int .i64 (a0.Cells.length : Int)), (45, .int .i64 0)] rfl ?_
      refine C_loop (fun m_ f_ w_ => ∃ (j : Nat), f_ = [(1, .pointer (some ⟨b2, 0, none⟩)), (43, .slice Aa0_Cells a0.Cells.length ca0_Cells), (44, .int .i64 (a0.Cells.length : Int)), (45, .int .i64 (j : Int))] ∧ j ≤ a0.Cells.length ∧ (List.range j).any (underS a0) = false ∧ m_ = a0.Cells.length - j ∧ Sp (FF []) w z w_ [bR b2 30 [.int .i64 a0.Right, .slice Aa0_Widths a0.Widths.length ca0_Widths, .slice Aa0_Heights a0.Heights.length ca0_Heights, .slice Aa0_Cells a0.Cells.length ca0_Cells, .slice Aa0_Merges a0.Merges.length ca0_Merges]]) (a0.Cells.length - (0 : Nat)) ⟨(0 : Nat), rfl, (by omega), (by rfl), rfl, hS.fin [0] (by decide) rfl⟩ ?_
      rintro m_ f_ w23 ⟨j, rfl, hI1_0, hI1_1, rfl, hS⟩
      refine C_seq <| C_region <| wv rfl rfl rfl (R_bin rfl rfl rfl rfl rfl) ?_
      refine W_nil <| E_then <| C_seq <| C_ite rfl (fun hC5 => ?_) (fun hC5 => ?_)
      ·have hC5p : (j : Int) < (a0.Cells.length : Int) := by simpa using hC5
       refine C_skip <| E_then <| C_seq <| C_block <| C_seq <| C_region ?_
       obtain ⟨q24, csq24, hAq24, rfl, hkq24⟩ := hra0_Cells.at_ (default : TCell) (i := (j : Int)) (by omega) (by omega)
       have hkq24 : ∀ (j_ : Nat) (u_ : Value), ([.int .i64 (a0.Cells.getD j (default : TCell)).Row, .int .i64 (a0.Cells.getD j (default : TCell)).Col, vstr (a0.Cells.getD j (default : TCell)).Text, .int .i64 (a0.Cells.getD j (default : TCell)).Style.Align, .int .i64 (a0.Cells.getD j (default : TCell)).Style.Wrap, .int .i64 (a0.Cells.getD j (default : TCell)).Style.Dir] : List Value)[j_]? = some u_ → cz z (q24.add (j * 6 + j_)) = some u_ := hkq24
       refine wv rfl rfl rfl (R_idx rfl rfl hAq24 rfl Tryz.underlying27 size58 (by omega) (by omega)) <| wv rfl rfl rfl (R_loadN (cs := [.int .i64 (a0.Cells.getD j (default : TCell)).Row, .int .i64 (a0.Cells.getD j (default : TCell)).Col, vstr (a0.Cells.getD j (default : TCell)).Text, .int .i64 (a0.Cells.getD j (default : TCell)).Style.Align, .int .i64 (a0.Cells.getD j (default : TCell)).Style.Wrap, .int .i64 (a0.Cells.getD j (default : TCell)).Style.Dir]) rfl rfl agg58 size58 rfl (fun j u h => cell_add (hS.sub.cell (hkq24 j u h)))) ?_
       refine W_cons rfl (by decide) (S_box hS rfl (R_alloc rfl alloc58) (fun b26 w25 hS => ?_))
       refine W_cons0 rfl (S_store hS 0 rfl rfl rfl rfl rfl size58 (one_cons rfl (one_cons rfl (one_cons rfl (one_cons rfl (one_cons rfl (one_cons rfl one_nil)))))) (Nat.le_of_ble_eq_true rfl) (fun w27 hS => ?_))
       have hS : Sp (FF []) w z w27 [bR b26 58 [.int .i64 (a0.Cells.getD j (default : TCell)).Row, .int .i64 (a0.Cells.getD j (default : TCell)).Col, vstr (a0.Cells.getD j (default : TCell)).Text, .int .i64 (a0.Cells.getD j (default : TCell)).Style.Align, .int .i64 (a0.Cells.getD j (default : TCell)).Style.Wrap, .int .i64 (a0.Cells.getD j (default : TCell)).Style.Dir], bR b2 30 [.int .i64 a0.Right, .slice Aa0_Widths a0.Widths.length ca0_Widths, .slice Aa0_Heights a0.Heights.length ca0_Heights, .slice Aa0_Cells a0.Cells.length ca0_Cells, .slice Aa0_Merges a0.Merges.length ca0_Merges]] := hS
       refine W_nil <| E_then <| C_seq <| C_fr [(1, .pointer (some ⟨b2, 0, none⟩)), (7, .pointer (some ⟨b26, 0, none⟩)), (43, .slice Aa0_Cells a0.Cells.length ca0_Cells), (44, .int .i64 (a0.Cells.length : Int)), (45, .int .i64 (j : Int))] rfl ?_
       refine C_drawn2 10 [[], [0], [], [], [3], [], [5], [2, 4, 6, 1], [7, 7], [1, 8]] [some 49, some 50, some 51, some 52, some 53, some 54, some 55, some 56, some 57, some 58] [1, 7, 43, 44, 45] (List.replicate 10 10) (List.replicate 10 []) (List.replicate 10 []) [fun γ_ => .agg #[.int .i64 (a0.Cells.getD j (default : TCell)).Row, .int .i64 (a0.Cells.getD j (default : TCell)).Col, vstr (a0.Cells.getD j (default : TCell)).Text, .int .i64 (a0.Cells.getD j (default : TCell)).Style.Align, .int .i64 (a0.Cells.getD j (default : TCell)).Style.Wrap, .int .i64 (a0.Cells.getD j (default : TCell)).Style.Dir], fun γ_ => .agg #[.int .i64 (spotS (a0.Cells.getD j (default : TCell))).e0, .int .i64 (spotS (a0.Cells.getD j (default : TCell))).e1], fun γ_ => .agg #[.int .i64 a0.Right, .slice Aa0_Widths a0.Widths.length ca0_Widths, .slice Aa0_Heights a0.Heights.length ca0_Heights, .slice Aa0_Cells a0.Cells.length ca0_Cells, .slice Aa0_Merges a0.Merges.length ca0_Merges], fun γ_ => .pointer (some ⟨b26, 0, none⟩), fun γ_ => .int .i64 (a0.Cells.getD j (default : TCell)).Row, fun γ_ => .pointer (some ⟨b26, 1, none⟩), fun γ_ => .int .i64 (a0.Cells.getD j (default : TCell)).Col, fun γ_ => .agg #[.int .i64 (aroundS a0 (a0.Cells.getD j (default : TCell)).Row (a0.Cells.getD j (default : TCell)).Col).Row, .int .i64 (aroundS a0 (a0.Cells.getD j (default : TCell)).Row (a0.Cells.getD j (default : TCell)).Col).Col, .int .i64 (aroundS a0 (a0.Cells.getD j (default : TCell)).Row (a0.Cells.getD j (default : TCell)).Col).Rows, .int .i64 (aroundS a0 (a0.Cells.getD j (default : TCell)).Row (a0.Cells.getD j (default : TCell)).Col).Cols], fun γ_ => .agg #[.int .i64 (cornerS (aroundS a0 (a0.Cells.getD j (default : TCell)).Row (a0.Cells.getD j (default : TCell)).Col)).e0, .int .i64 (cornerS (aroundS a0 (a0.Cells.getD j (default : TCell)).Row (a0.Cells.getD j (default : TCell)).Col)).e1], fun γ_ => .bool (!decide ((spotS (a0.Cells.getD j (default : TCell))) = (cornerS (aroundS a0 (a0.Cells.getD j (default : TCell)).Row (a0.Cells.getD j (default : TCell)).Col))))] (List.replicate 10 (fun _ => [])) rfl (by kernel_rfl) (by decide +kernel) hS ?_ ?_
       ·refine ⟨fun _ _ _ hS => Sv_val rfl (R_loadN (cs := [.int .i64 (a0.Cells.getD j (default : TCell)).Row, .int .i64 (a0.Cells.getD j (default : TCell)).Col, vstr (a0.Cells.getD j (default : TCell)).Text, .int .i64 (a0.Cells.getD j (default : TCell)).Style.Align, .int .i64 (a0.Cells.getD j (default : TCell)).Style.Wrap, .int .i64 (a0.Cells.getD j (default : TCell)).Style.Dir]) rfl rfl agg58 size58 rfl (boxcells (hS.bx 0 rfl) 0 rfl)) ⟨gh0, rfl, hS⟩, fun g_ w36 fr37 hS => ?_, ?_⟩
        ·have _w36 := trivial
         have hS : Sp (FF []) w z w36 [bR b26 58 [.int .i64 (a0.Cells.getD j (default : TCell)).Row, .int .i64 (a0.Cells.getD j (default : TCell)).Col, vstr (a0.Cells.getD j (default : TCell)).Text, .int .i64 (a0.Cells.getD j (default : TCell)).Style.Align, .int .i64 (a0.Cells.getD j (default : TCell)).Style.Wrap, .int .i64 (a0.Cells.getD j (default : TCell)).Style.Dir], bR b2 30 [.int .i64 a0.Right, .slice Aa0_Widths a0.Widths.length ca0_Widths, .slice Aa0_Heights a0.Heights.length ca0_Heights, .slice Aa0_Cells a0.Cells.length ca0_Cells, .slice Aa0_Merges a0.Merges.length ca0_Merges], allR fr37] := hS
         refine Sv_call rfl rfl rfl ent49 ?_
         refine (spot_calls (a0.Cells.getD j (default : TCell)) _ _ hS.out0  ).mono ?_
         rintro e_ w38 ⟨rfl, hS_⟩
         refine ⟨_, rfl, ?_⟩
         have hS := hS.call0 hS_
         exact ⟨⟨fun _ => none, fun _ => 0, fun _ => zE, fun _ => 0⟩, rfl, hS.fin [0, 1, 2] (by decide) rfl⟩
        refine ⟨fun _ _ _ hS => Sv_val rfl (R_loadN (cs := [.int .i64 a0.Right, .slice Aa0_Widths a0.Widths.length ca0_Widths, .slice Aa0_Heights a0.Heights.length ca0_Heights, .slice Aa0_Cells a0.Cells.length ca0_Cells, .slice Aa0_Merges a0.Merges.length ca0_Merges]) rfl rfl agg30 size30 rfl (boxcells (hS.bx 1 rfl) 0 rfl)) ⟨gh0, rfl, hS⟩, fun _ _ _ hS => Sv_val rfl (R_fld rfl rfl fld58_0) ⟨gh0, rfl, hS⟩, fun _ _ _ hS => Sv_val rfl (R_load1 rfl rfl agg3 ((hS.bx 0 rfl).cell rfl)) ⟨gh0, rfl, hS⟩, fun _ _ _ hS => Sv_val rfl (R_fld rfl rfl fld58_1) ⟨gh0, rfl, hS⟩, fun _ _ _ hS => Sv_val rfl (R_load1 rfl rfl agg3 ((hS.bx 0 rfl).cell rfl)) ⟨gh0, rfl, hS⟩, fun g_ w50 fr51 hS => ?_, ?_⟩
        ·have _w50 := trivial
         have hS : Sp (FF []) w z w50 [bR b26 58 [.int .i64 (a0.Cells.getD j (default : TCell)).Row, .int .i64 (a0.Cells.getD j (default : TCell)).Col, vstr (a0.Cells.getD j (default : TCell)).Text, .int .i64 (a0.Cells.getD j (default : TCell)).Style.Align, .int .i64 (a0.Cells.getD j (default : TCell)).Style.Wrap, .int .i64 (a0.Cells.getD j (default : TCell)).Style.Dir], bR b2 30 [.int .i64 a0.Right, .slice Aa0_Widths a0.Widths.length ca0_Widths, .slice Aa0_Heights a0.Heights.length ca0_Heights, .slice Aa0_Cells a0.Cells.length ca0_Cells, .slice Aa0_Merges a0.Merges.length ca0_Merges], allR fr51] := hS
         refine Sv_call rfl rfl rfl ent51 ?_
         refine (around_calls a0 Aa0_Widths ca0_Widths Aa0_Heights ca0_Heights Aa0_Cells ca0_Cells Aa0_Merges ca0_Merges (a0.Cells.getD j (default : TCell)).Row (a0.Cells.getD j (default : TCell)).Col _ _ hS.out0 (hra0_Widths.mono (hS.zl [])) hca0_Widths (hra0_Heights.mono (hS.zl [])) hca0_Heights (hra0_Cells.mono (hS.zl [])) hca0_Cells (hra0_Merges.mono (hS.zl [])) hca0_Merges ).mono ?_
         rintro e_ w52 ⟨rfl, hS_⟩
         refine ⟨_, rfl, ?_⟩
         have hS := hS.call0 hS_
         exact ⟨⟨fun _ => none, fun _ => 0, fun _ => zE, fun _ => 0⟩, rfl, hS.fin [0, 1, 2] (by decide) rfl⟩
        refine ⟨fun g_ w54 fr55 hS => ?_, ?_⟩
        ·have _w54 := trivial
         have hS : Sp (FF []) w z w54 [bR b26 58 [.int .i64 (a0.Cells.getD j (default : TCell)).Row, .int .i64 (a0.Cells.getD j (default : TCell)).Col, vstr (a0.Cells.getD j (default : TCell)).Text, .int .i64 (a0.Cells.getD j (default : TCell)).Style.Align, .int .i64 (a0.Cells.getD j (default : TCell)).Style.Wrap, .int .i64 (a0.Cells.getD j (default : TCell)).Style.Dir], bR b2 30 [.int .i64 a0.Right, .slice Aa0_Widths a0.Widths.length ca0_Widths, .slice Aa0_Heights a0.Heights.length ca0_Heights, .slice Aa0_Cells a0.Cells.length ca0_Cells, .slice Aa0_Merges a0.Merges.length ca0_Merges], allR fr55] := hS
         refine Sv_call rfl rfl rfl ent50 ?_
         refine (corner_calls (aroundS a0 (a0.Cells.getD j (default : TCell)).Row (a0.Cells.getD j (default : TCell)).Col) _ _ hS.out0  ).mono ?_
         rintro e_ w56 ⟨rfl, hS_⟩
         refine ⟨_, rfl, ?_⟩
         have hS := hS.call0 hS_
         exact ⟨⟨fun _ => none, fun _ => 0, fun _ => zE, fun _ => 0⟩, rfl, hS.fin [0, 1, 2] (by decide) rfl⟩
        refine ⟨fun _ _ _ hS => Sv_val rfl (R_neqv rfl rfl rfl eqg82 ((eqv82 (spotS (a0.Cells.getD j (default : TCell))) (cornerS (aroundS a0 (a0.Cells.getD j (default : TCell)).Row (a0.Cells.getD j (default : TCell)).Col))).up 2)) ⟨gh0, rfl, hS⟩, ?_⟩
        exact trivial
       ·intro g_ w60 hS
        have hS : Sp (FF []) w z w60 [bR b26 58 [.int .i64 (a0.Cells.getD j (default : TCell)).Row, .int .i64 (a0.Cells.getD j (default : TCell)).Col, vstr (a0.Cells.getD j (default : TCell)).Text, .int .i64 (a0.Cells.getD j (default : TCell)).Style.Align, .int .i64 (a0.Cells.getD j (default : TCell)).Style.Wrap, .int .i64 (a0.Cells.getD j (default : TCell)).Style.Dir], bR b2 30 [.int .i64 a0.Right, .slice Aa0_Widths a0.Widths.length ca0_Widths, .slice Aa0_Heights a0.Heights.length ca0_Heights, .slice Aa0_Cells a0.Cells.length ca0_Cells, .slice Aa0_Merges a0.Merges.length ca0_Merges]] := hS
        refine An_fr [(1, .pointer (some ⟨b2, 0, none⟩)), (7, .pointer (some ⟨b26, 0, none⟩)), (43, .slice Aa0_Cells a0.Cells.length ca0_Cells), (44, .int .i64 (a0.Cells.length : Int)), (45, .int .i64 (j : Int)), (58, .bool (!decide ((spotS (a0.Cells.getD j (default : TCell))) = (cornerS (aroundS a0 (a0.Cells.getD j (default : TCell)).Row (a0.Cells.getD j (default : TCell)).Col)))))] rfl ?_
        refine An_done (by decide +kernel) <| E_then <| C_ite rfl (fun hC6 => ?_) (fun hC6 => ?_)
        ·have hC6p : ¬ (spotS (a0.Cells.getD j (default : TCell))) = (cornerS (aroundS a0 (a0.Cells.getD j (default : TCell)).Row (a0.Cells.getD j (default : TCell)).Col)) := by simpa using hC6
         refine C_seq <| C_region <| wv rfl rfl rfl (R_assign rfl rfl) ?_
         refine W_nil <| E_then (C_fr [(2, .int .i64 6)] rfl ?_)
         refine C_ret <| E_block_ret <| E_then_ret <| E_then_ret <| E_block_ret <| E_then_ret <| E_ret1 rfl rfl ?_
         exact ⟨Lret1 (Lint (show 6 = checkSh a0 by exact ck6 (by assumption) (by assumption) (out_n (by assumption) (by assumption)) (i := i) (by omega) (by omega) (by assumption) (j := j) (by omega) (by assumption))), hS.fin [] (by decide) rfl⟩
        ·have hC6p : (spotS (a0.Cells.getD j (default : TCell))) = (cornerS (aroundS a0 (a0.Cells.getD j (default : TCell)).Row (a0.Cells.getD j (default : TCell)).Col)) := by simpa using hC6
         refine C_skip <| E_block_normal <| E_then <| C_region <| wv rfl rfl rfl (R_add64 rfl rfl rfl (by omega) (by omega)) <| wv rfl rfl rfl (R_move rfl rfl) ?_
         refine W_nil <| E_round [1, 43, 44, 45] ?_ ⟨(j + 1 : Nat), rfl, (by omega), (by exact range_any_next hI1_1 (by simp_all [underS])), rfl, hS.fin [1] (by decide) rfl⟩
         omega
      ·have hC5p : ¬ ((j : Int) < (a0.Cells.length : Int)) := by simpa using hC5
       refine C_exit <| E_then_exit <| E_then_exit <| E_block_hit ?_
       refine E_then (C_fr [] rfl ?_)
       refine C_seq <| C_region <| wv rfl rfl rfl (R_assign rfl rfl) ?_
       refine W_nil <| E_then <| C_ret <| E_ret1 rfl rfl ?_
       exact ⟨Lret1 (Lint (show 0 = checkSh a0 by exact ck0 (by assumption) (by assumption) (out_n (by assumption) (by assumption)) (i := i) (by omega) (by omega) (by assumption) (j := j) (by omega) (by omega) (by assumption))), hS.fin [] (by decide) rfl⟩
theorem in_calls (a0 : Int) (a1 : Int) (a2 : Int) (z : Z) (w : World) (hI : In z w [])   :
    Calls Tryz.prog 115 #[.int .i64 a0, .int .i64 a1, .int .i64 a2] w fun e w' => e = .returned (.bool (inS a0 a1 a2)) ∧ Sp (FF []) w z w' [] := by
 have hS := hI.sp
 refine Calls_of (vs := [.int .i64 a0, .int .i64 a1, .int .i64 a2]) (N := 26) Tryz.func115 rfl rfl (Nat.le_of_ble_eq_true rfl) ?_
 refine C_seq <| C_region <| wv rfl rfl rfl (R_assign rfl rfl) ?_
 refine W_nil <| E_then <| C_seq <| C_seq <| C_region <| wv rfl rfl rfl (R_move rfl rfl) <| wv rfl rfl rfl (R_bin rfl rfl rfl rfl rfl) <| wv rfl rfl rfl (R_move rfl rfl) <| wg rfl rfl (Gd.no rfl rfl rfl) (fun hB => R_move rfl rfl) <| wg rfl rfl (Gd.no rfl rfl rfl) (fun hB => R_move rfl rfl) <| wg rfl rfl (Gd.no rfl rfl rfl) (fun hB => Runs.at_ (i := 11) (gl rfl hB) (Runs.at_ (i := 10) (gl rfl hB) (R_bin rfl rfl rfl rfl rfl))) <| wv rfl rfl rfl (R_pick_or rfl rfl rfl rfl) ?_
 refine W_nil <| E_then (C_fr [(0, .int .i64 a0), (1, .int .i64 a1), (2, .int .i64 a2), (13, .bool ((decide (a2 < 1)) || (decide (a0 < a1))))] rfl ?_)
 refine C_ite rfl (fun hC0 => ?_) (fun hC0 => ?_)
 ·have hC0p : (a2 < 1 ∨ a0 < a1) := by simpa using hC0
  refine C_seq <| C_region <| wv rfl rfl rfl (R_assign rfl rfl) ?_
  refine W_nil <| E_then <| C_ret <| E_then_ret <| E_ret1 rfl rfl ?_
  exact ⟨Lret1 (Lbool (show false = (inS a0 a1 a2) by exact inS_f (by omega))), hS.fin [] (by decide) rfl⟩
 ·have hC0p : ¬ ((a2 < 1 ∨ a0 < a1)) := by simpa using hC0
  refine C_skip <| E_then <| C_seq <| C_seq <| C_region <| wv rfl rfl rfl (R_move rfl rfl) <| wv rfl rfl rfl (R_bin rfl rfl rfl rfl rfl) ?_
  refine W_nil <| E_then <| C_ite rfl (fun hC1 => ?_) (fun hC1 => ?_)
  ·have hC1p : a1 < 0 := by simpa using hC1
   refine C_seq <| C_region <| wv rfl rfl rfl (R_move rfl rfl) <| wv rfl rfl rfl (R_move rfl rfl) <| wv rfl rfl rfl (R_move rfl rfl) <| wv rfl rfl rfl (R_bin rfl rfl rfl rfl rfl) <| wv rfl rfl rfl (R_bin rfl rfl rfl rfl rfl) <| wv rfl rfl rfl (R_assign rfl rfl) ?_
   refine W_nil <| E_then (C_fr [(6, .bool (decide (a0 < (IntKind.i64.wrap (a1 + a2)))))] rfl ?_)
   refine C_ret <| E_then_ret <| E_ret1 rfl rfl ?_
   exact ⟨Lret1 (Lbool (show (decide (a0 < (IntKind.i64.wrap (a1 + a2)))) = (inS a0 a1 a2) by exact inS_neg (by omega) (by omega))), hS.fin [] (by decide) rfl⟩
  ·have hC1p : ¬ (a1 < 0) := by simpa using hC1
   refine C_skip <| E_then <| C_seq <| C_region <| wv rfl rfl rfl (R_move rfl rfl) <| wv rfl rfl rfl (R_move rfl rfl) <| wv rfl rfl rfl (R_bin rfl rfl rfl rfl rfl) <| wv rfl rfl rfl (R_move rfl rfl) <| wv rfl rfl rfl (R_bin rfl rfl rfl rfl rfl) <| wv rfl rfl rfl (R_assign rfl rfl) ?_
   refine W_nil <| E_then (C_fr [(6, .bool (decide ((IntKind.i64.wrap (a0 - a1)) < a2)))] rfl ?_)
   refine C_ret <| E_ret1 rfl rfl ?_
   exact ⟨Lret1 (Lbool (show (decide ((IntKind.i64.wrap (a0 - a1)) < a2)) = (inS a0 a1 a2) by exact inS_pos (by omega) (by omega))), hS.fin [] (by decide) rfl⟩
theorem covers_calls (a0 : TRect) (a1 : Int) (a2 : Int) (z : Z) (w : World) (hI : In z w [])   :
    Calls Tryz.prog 100 #[.agg #[.int .i64 a0.Row, .int .i64 a0.Col, .int .i64 a0.Rows, .int .i64 a0.Cols], .int .i64 a1, .int .i64 a2] w fun e w' => e = .returned (.bool (coversS a0 a1 a2)) ∧ Sp (FF []) w z w' [] := by
 have hS := hI.sp
 refine Calls_of (vs := [.agg #[.int .i64 a0.Row, .int .i64 a0.Col, .int .i64 a0.Rows, .int .i64 a0.Cols], .int .i64 a1, .int .i64 a2]) (N := 21) Tryz.func100 rfl rfl (Nat.le_of_ble_eq_true rfl) ?_
 refine C_seq <| C_region <| W_cons rfl (by decide) (S_box hS rfl (R_box (cs := [.int .i64 a0.Row, .int .i64 a0.Col, .int .i64 a0.Rows, .int .i64 a0.Cols]) rfl rfl rfl) (fun b2 w1 hS => ?_))
 refine wv rfl rfl rfl (R_assign rfl rfl) ?_
 refine W_nil <| E_then <| C_seq <| C_region <| wv rfl rfl rfl (R_move rfl rfl) <| wv rfl rfl rfl (R_fld rfl rfl fld76_0) <| wv rfl rfl rfl (R_load1 rfl rfl agg3 ((hS.bx 0 rfl).cell rfl)) <| wv rfl rfl rfl (R_fld rfl rfl fld76_2) <| wv rfl rfl rfl (R_load1 rfl rfl agg3 ((hS.bx 0 rfl).cell rfl)) ?_
 refine W_cons rfl (by decide) (Sv_call rfl rfl rfl ent115 ?_)
 refine (in_calls a1 a0.Row a0.Rows _ _ hS.out0  ).mono ?_
 rintro e_ w3 ⟨rfl, hS_⟩
 refine ⟨_, rfl, ?_⟩
 have hS := hS.call0 hS_
 refine wv rfl rfl rfl (R_move rfl rfl) <| wg rfl rfl (Gd.on rfl rfl rfl) (fun hB => R_move rfl rfl) <| wg rfl rfl (Gd.on rfl rfl rfl) (fun hB => R_fld rfl rfl fld76_1) <| wg rfl rfl (Gd.on rfl rfl rfl) (fun hB => Runs.at_ (i := 15) (gl rfl hB) (R_load1 rfl rfl agg3 ((hS.bx 0 rfl).cell rfl))) <| wg rfl rfl (Gd.on rfl rfl rfl) (fun hB => R_fld rfl rfl fld76_3) <| wg rfl rfl (Gd.on rfl rfl rfl) (fun hB => Runs.at_ (i := 17) (gl rfl hB) (R_load1 rfl rfl agg3 ((hS.bx 0 rfl).cell rfl))) ?_
 refine W_cons rfl (by decide) (Sv_gcall (Gd.on rfl rfl rfl) hS (fun hB => Sv.at_ (i := 18) (gl rfl hB) (Sv.at_ (i := 16) (gl rfl hB) (Sv.at_ (i := 14) (gl rfl hB) (Sv_call rfl rfl rfl ent115 ((in_calls a2 a0.Col a0.Cols _ _ hS.out0  ).mono (fun _ _ h_ => ⟨_, h_.1, rfl, hS.call0 h_.2⟩)))))) (fun w5 hS => ?_))
 refine wv rfl rfl rfl (R_pick_and rfl rfl rfl rfl) <| wv rfl rfl rfl (R_assign rfl rfl) ?_
 refine W_nil <| E_then (C_fr [(6, .bool ((inS a1 a0.Row a0.Rows) && (inS a2 a0.Col a0.Cols)))] rfl ?_)
 refine C_ret <| E_ret1 rfl rfl ?_
 exact ⟨Lret1 (Lbool (show ((inS a1 a0.Row a0.Rows) && (inS a2 a0.Col a0.Cols)) = (coversS a0 a1 a2) by (unfold coversS; simp_all; done))), hS.fin [] (by decide) rfl⟩
theorem rmeet_calls (a0 : TRect) (a1 : TRect) (z : Z) (w : World) (hI : In z w [])   :
    Calls Tryz.prog 68 #[.agg #[.int .i64 a0.Row, .int .i64 a0.Col, .int .i64 a0.Rows, .int .i64 a0.Cols], .agg #[.int .i64 a1.Row, .int .i64 a1.Col, .int .i64 a1.Rows, .int .i64 a1.Cols]] w fun e w' => e = .returned (.bool (rmeetS a0 a1)) ∧ Sp (FF []) w z w' [] := by
 have hS := hI.sp
 refine Calls_of (vs := [.agg #[.int .i64 a0.Row, .int .i64 a0.Col, .int .i64 a0.Rows, .int .i64 a0.Cols], .agg #[.int .i64 a1.Row, .int .i64 a1.Col, .int .i64 a1.Rows, .int .i64 a1.Cols]]) (N := 27) Tryz.func68 rfl rfl (Nat.le_of_ble_eq_true rfl) ?_
 refine C_seq <| C_region <| W_cons rfl (by decide) (S_box hS rfl (R_box (cs := [.int .i64 a0.Row, .int .i64 a0.Col, .int .i64 a0.Rows, .int .i64 a0.Cols]) rfl rfl rfl) (fun b2 w1 hS => ?_))
 refine W_cons rfl (by decide) (S_box hS rfl (R_box (cs := [.int .i64 a1.Row, .int .i64 a1.Col, .int .i64 a1.Rows, .int .i64 a1.Cols]) rfl rfl rfl) (fun b4 w3 hS => ?_))
 refine wv rfl rfl rfl (R_assign rfl rfl) ?_
 refine W_nil <| E_then <| C_seq <| C_fr [(2, .pointer (some ⟨b2, 0, none⟩)), (3, .pointer (some ⟨b4, 0, none⟩))] rfl ?_
 refine C_drawn 12 [[], [0], [], [2], [1, 3], [], [5], [], [7], [6, 8], [4, 0, 1, 2, 3, 4], [9, 10, 0, 1, 2, 3, 4, 5, 6, 7, 8, 9, 10]] [7, 8, 9, 10, 11, 12, 13, 14, 15, 16, 5, 6] [2, 3] rfl (by kernel_rfl) (by decide +kernel) [fun v_ _ => v_ = .pointer (some ⟨b2, 0, none⟩), fun v_ _ => v_ = .int .i64 a0.Row, fun v_ _ => v_ = .pointer (some ⟨b4, 0, none⟩), fun v_ _ => v_ = .int .i64 a1.Row, fun v_ _ => v_ = .int .i64 (max a0.Row a1.Row), fun v_ _ => v_ = .pointer (some ⟨b2, 1, none⟩), fun v_ _ => v_ = .int .i64 a0.Col, fun v_ _ => v_ = .pointer (some ⟨b4, 1, none⟩), fun v_ _ => v_ = .int .i64 a1.Col, fun v_ _ => v_ = .int .i64 (max a0.Col a1.Col), fun v_ _ => v_ = .int .i64 (max a0.Row a1.Row), fun v_ _ => v_ = .int .i64 (max a0.Col a1.Col)] ⟨fun _ _ _ h _ => h, ⟨fun _ _ _ h _ => h, ⟨fun _ _ _ h _ => h, ⟨fun _ _ _ h _ => h, ⟨fun _ _ _ h _ => h, ⟨fun _ _ _ h _ => h, ⟨fun _ _ _ h _ => h, ⟨fun _ _ _ h _ => h, ⟨fun _ _ _ h _ => h, ⟨fun _ _ _ h _ => h, ⟨fun _ _ _ h _ => h, ⟨fun _ _ _ h _ => h, trivial⟩⟩⟩⟩⟩⟩⟩⟩⟩⟩⟩⟩ ⟨fun w5 hc6 => by have hS := hS.chg0 hc6; exact Sv_val rfl (R_fld rfl rfl fld76_0) ⟨Chg.refl _ _, rfl⟩, ⟨fun w5 hc6 => by have hS := hS.chg0 hc6; rintro _ rfl; exact Sv_val rfl (R_load1 rfl rfl agg3 ((hS.bx 1 rfl).cell rfl)) ⟨Chg.refl _ _, rfl⟩, ⟨fun w5 hc6 => by have hS := hS.chg0 hc6; exact Sv_val rfl (R_fld rfl rfl fld76_0) ⟨Chg.refl _ _, rfl⟩, ⟨fun w5 hc6 => by have hS := hS.chg0 hc6; rintro _ rfl; exact Sv_val rfl (R_load1 rfl rfl agg3 ((hS.bx 0 rfl).cell rfl)) ⟨Chg.refl _ _, rfl⟩, ⟨fun w5 hc6 => by have hS := hS.chg0 hc6; rintro _ rfl _ rfl; exact Sv_val rfl (R_max rfl rfl) ⟨Chg.refl _ _, rfl⟩, ⟨fun w5 hc6 => by have hS := hS.chg0 hc6; exact Sv_val rfl (R_fld rfl rfl fld76_1) ⟨Chg.refl _ _, rfl⟩, ⟨fun w5 hc6 => by have hS := hS.chg0 hc6; rintro _ rfl; exact Sv_val rfl (R_load1 rfl rfl agg3 ((hS.bx 1 rfl).cell rfl)) ⟨Chg.refl _ _, rfl⟩, ⟨fun w5 hc6 => by have hS := hS.chg0 hc6; exact Sv_val rfl (R_fld rfl rfl fld76_1) ⟨Chg.refl _ _, rfl⟩, ⟨fun w5 hc6 => by have hS := hS.chg0 hc6; rintro _ rfl; exact Sv_val rfl (R_load1 rfl rfl agg3 ((hS.bx 0 rfl).cell rfl)) ⟨Chg.refl _ _, rfl⟩, ⟨fun w5 hc6 => by have hS := hS.chg0 hc6; rintro _ rfl _ rfl; exact Sv_val rfl (R_max rfl rfl) ⟨Chg.refl _ _, rfl⟩, ⟨fun w5 hc6 => by have hS := hS.chg0 hc6; rintro _ rfl _ rfl _ rfl _ rfl _ rfl _ rfl; exact Sv_val rfl (R_assign rfl rfl) ⟨Chg.refl _ _, rfl⟩, ⟨fun w5 hc6 => by have hS := hS.chg0 hc6; rintro _ rfl _ rfl _ rfl _ rfl _ rfl _ rfl _ rfl _ rfl _ rfl _ rfl _ rfl _ rfl _ rfl; exact Sv_val rfl (R_assign rfl rfl) ⟨Chg.refl _ _, rfl⟩, trivial⟩⟩⟩⟩⟩⟩⟩⟩⟩⟩⟩⟩ ?_
 intro w5 hc6
 have hS := hS.chg0 hc6
 rintro _ rfl _ rfl _ rfl _ rfl _ rfl _ rfl _ rfl _ rfl _ rfl _ rfl _ rfl _ rfl
 refine An_fr [(2, .pointer (some ⟨b2, 0, none⟩)), (3, .pointer (some ⟨b4, 0, none⟩)), (5, .int .i64 (max a0.Row a1.Row)), (6, .int .i64 (max a0.Col a1.Col))] rfl ?_
 refine An_done (by decide +kernel) <| E_then <| C_seq <| C_region <| wv rfl rfl rfl (R_loadN (cs := [.int .i64 a0.Row, .int .i64 a0.Col, .int .i64 a0.Rows, .int .i64 a0.Cols]) rfl rfl agg76 size76 rfl (boxcells (hS.bx 1 rfl) 0 rfl)) <| wv rfl rfl rfl (R_move rfl rfl) <| wv rfl rfl rfl (R_move rfl rfl) ?_
 refine W_cons rfl (by decide) (Sv_call rfl rfl rfl ent100 ?_)
 refine (covers_calls a0 (max a0.Row a1.Row) (max a0.Col a1.Col) _ _ hS.out0  ).mono ?_
 rintro e_ w7 ⟨rfl, hS_⟩
 refine ⟨_, rfl, ?_⟩
 have hS := hS.call0 hS_
 refine wv rfl rfl rfl (R_move rfl rfl) <| wg rfl rfl (Gd.on rfl rfl rfl) (fun hB => R_loadN (cs := [.int .i64 a1.Row, .int .i64 a1.Col, .int .i64 a1.Rows, .int .i64 a1.Cols]) rfl rfl agg76 size76 rfl (boxcells (hS.bx 0 rfl) 0 rfl)) <| wg rfl rfl (Gd.on rfl rfl rfl) (fun hB => R_move rfl rfl) <| wg rfl rfl (Gd.on rfl rfl rfl) (fun hB => R_move rfl rfl) ?_
 refine W_cons rfl (by decide) (Sv_gcall (Gd.on rfl rfl rfl) hS (fun hB => Sv.at_ (i := 24) (gl rfl hB) (Sv.at_ (i := 23) (gl rfl hB) (Sv.at_ (i := 22) (gl rfl hB) (Sv_call rfl rfl rfl ent100 ((covers_calls a1 (max a0.Row a1.Row) (max a0.Col a1.Col) _ _ hS.out0  ).mono (fun _ _ h_ => ⟨_, h_.1, rfl, hS.call0 h_.2⟩)))))) (fun w9 hS => ?_))
 refine wv rfl rfl rfl (R_pick_and rfl rfl rfl rfl) <| wv rfl rfl rfl (R_assign rfl rfl) ?_
 refine W_nil <| E_then (C_fr [(4, .bool ((coversS a0 (max a0.Row a1.Row) (max a0.Col a1.Col)) && (coversS a1 (max a0.Row a1.Row) (max a0.Col a1.Col))))] rfl ?_)
 refine C_ret <| E_ret1 rfl rfl ?_
 exact ⟨Lret1 (Lbool (show ((coversS a0 (max a0.Row a1.Row) (max a0.Col a1.Col)) && (coversS a1 (max a0.Row a1.Row) (max a0.Col a1.Col))) = (rmeetS a0 a1) by (unfold rmeetS; simp_all; done))), hS.fin [] (by decide) rfl⟩
theorem there_calls (a0 : TSheet) (Aa0_Widths : Option Addr) (ca0_Widths : Nat) (Aa0_Heights : Option Addr) (ca0_Heights : Nat) (Aa0_Cells : Option Addr) (ca0_Cells : Nat) (Aa0_Merges : Option Addr) (ca0_Merges : Nat) (a1 : TRect) (z : Z) (w : World) (hI : In z w []) (hra0_Widths : Rd (kint .i64) z Aa0_Widths a0.Widths) (hca0_Widths : Cap Aa0_Widths a0.Widths.length ca0_Widths) (hra0_Heights : Rd (kint .i64) z Aa0_Heights a0.Heights) (hca0_Heights : Cap Aa0_Heights a0.Heights.length ca0_Heights) (hra0_Cells : Rd kdTCell z Aa0_Cells a0.Cells) (hca0_Cells : Cap Aa0_Cells a0.Cells.length ca0_Cells) (hra0_Merges : Rd kdTRect z Aa0_Merges a0.Merges) (hca0_Merges : Cap Aa0_Merges a0.Merges.length ca0_Merges)  :
    Calls Tryz.prog 67 #[.agg #[.int .i64 a0.Right, .slice Aa0_Widths a0.Widths.length ca0_Widths, .slice Aa0_Heights a0.Heights.length ca0_Heights, .slice Aa0_Cells a0.Cells.length ca0_Cells, .slice Aa0_Merges a0.Merges.length ca0_Merges], .agg #[.int .i64 a1.Row, .int .i64 a1.Col, .int .i64 a1.Rows, .int .i64 a1.Cols]] w fun e w' => e = .returned (.bool (thereS a0 a1)) ∧ Sp (FF []) w z w' [] := by
 have hla0_Widths := hca0_Widths.le
 have hma0_Widths := hca0_Widths.mx
 have hla0_Heights := hca0_Heights.le
 have hma0_Heights := hca0_Heights.mx
 have hla0_Cells := hca0_Cells.le
 have hma0_Cells := hca0_Cells.mx
 have hla0_Merges := hca0_Merges.le
 have hma0_Merges := hca0_Merges.mx
 have hS := hI.sp
 refine Calls_of (vs := [.agg #[.int .i64 a0.Right, .slice Aa0_Widths a0.Widths.length ca0_Widths, .slice Aa0_Heights a0.Heights.length ca0_Heights, .slice Aa0_Cells a0.Cells.length ca0_Cells, .slice Aa0_Merges a0.Merges.length ca0_Merges], .agg #[.int .i64 a1.Row, .int .i64 a1.Col, .int .i64 a1.Rows, .int .i64 a1.Cols]]) (N := 51) Tryz.func67 rfl rfl (Nat.le_of_ble_eq_true rfl) ?_
 refine C_seq <| C_region <| W_cons rfl (by decide) (S_box hS rfl (R_box (cs := [.int .i64 a0.Right, .slice Aa0_Widths a0.Widths.length ca0_Widths, .slice Aa0_Heights a0.Heights.length ca0_Heights, .slice Aa0_Cells a0.Cells.length ca0_Cells, .slice Aa0_Merges a0.Merges.length ca0_Merges]) rfl rfl rfl) (fun b2 w1 hS => ?_))
 refine W_cons rfl (by decide) (S_box hS rfl (R_box (cs := [.int .i64 a1.Row, .int .i64 a1.Col, .int .i64 a1.Rows, .int .i64 a1.Cols]) rfl rfl rfl) (fun b4 w3 hS => ?_))
 refine wv rfl rfl rfl (R_assign rfl rfl) ?_
 refine W_nil <| E_then <| C_seq <| C_region <| wv rfl rfl rfl (R_fld rfl rfl fld76_0) <| wv rfl rfl rfl (R_load1 rfl rfl agg3 ((hS.bx 0 rfl).cell rfl)) <| wv rfl rfl rfl (R_bin rfl rfl rfl rfl rfl) <| wv rfl rfl rfl (R_move rfl rfl) <| wg rfl rfl (Gd.on rfl rfl rfl) (fun hB => R_fld rfl rfl fld76_1) <| wg rfl rfl (Gd.on rfl rfl rfl) (fun hB => Runs.at_ (i := 9) (gl rfl hB) (R_load1 rfl rfl agg3 ((hS.bx 0 rfl).cell rfl))) <| wg rfl rfl (Gd.on rfl rfl rfl) (fun hB => Runs.at_ (i := 10) (gl rfl hB) (R_bin rfl rfl rfl rfl rfl)) <| wv rfl rfl rfl (R_pick_and rfl rfl rfl rfl) <| wv rfl rfl rfl (R_move rfl rfl) <| wg rfl rfl (Gd.on rfl rfl rfl) (fun hB => R_fld rfl rfl fld76_2) <| wg rfl rfl (Gd.on rfl rfl rfl) (fun hB => Runs.at_ (i := 14) (gl rfl hB) (R_load1 rfl rfl agg3 ((hS.bx 0 rfl).cell rfl))) <| wg rfl rfl (Gd.on rfl rfl rfl) (fun hB => R_fld rfl rfl fld30_2) <| wg rfl rfl (Gd.on rfl rfl rfl) (fun hB => Runs.at_ (i := 16) (gl rfl hB) (R_load1 rfl rfl agg26 ((hS.bx 1 rfl).cell rfl))) <| wg rfl rfl (Gd.on rfl rfl rfl) (fun hB => Runs.at_ (i := 17) (gl rfl hB) (R_len rfl rfl Tryz.underlying26)) <| wg rfl rfl (Gd.on rfl rfl rfl) (fun hB => Runs.at_ (i := 18) (gl rfl hB) (Runs.at_ (i := 15) (gl rfl hB) (R_bin rfl rfl rfl rfl rfl))) <| wv rfl rfl rfl (R_pick_and rfl rfl rfl rfl) <| wv rfl rfl rfl (R_move rfl rfl) <| wg rfl rfl (Gd.on rfl rfl rfl) (fun hB => R_fld rfl rfl fld76_3) <| wg rfl rfl (Gd.on rfl rfl rfl) (fun hB => Runs.at_ (i := 22) (gl rfl hB) (R_load1 rfl rfl agg3 ((hS.bx 0 rfl).cell rfl))) <| wg rfl rfl (Gd.on rfl rfl rfl) (fun hB => R_fld rfl rfl fld30_1) <| wg rfl rfl (Gd.on rfl rfl rfl) (fun hB => Runs.at_ (i := 24) (gl rfl hB) (R_load1 rfl rfl agg26 ((hS.bx 1 rfl).cell rfl))) <| wg rfl rfl (Gd.on rfl rfl rfl) (fun hB => Runs.at_ (i := 25) (gl rfl hB) (R_len rfl rfl Tryz.underlying26)) <| wg rfl rfl (Gd.on rfl rfl rfl) (fun hB => Runs.at_ (i := 26) (gl rfl hB) (Runs.at_ (i := 23) (gl rfl hB) (R_bin rfl rfl rfl rfl rfl))) <| wv rfl rfl rfl (R_pick_and rfl rfl rfl rfl) <| wv rfl rfl rfl (R_move rfl rfl) <| wg rfl rfl (Gd.on rfl rfl rfl) (fun hB => R_fld rfl rfl fld76_0) <| wg rfl rfl (Gd.on rfl rfl rfl) (fun hB => Runs.at_ (i := 30) (gl rfl hB) (R_load1 rfl rfl agg3 ((hS.bx 0 rfl).cell rfl))) <| wg rfl rfl (Gd.on rfl rfl rfl) (fun hB => R_fld rfl rfl fld30_2) <| wg rfl rfl (Gd.on rfl rfl rfl) (fun hB => Runs.at_ (i := 32) (gl rfl hB) (R_load1 rfl rfl agg26 ((hS.bx 1 rfl).cell rfl))) <| wg rfl rfl (Gd.on rfl rfl rfl) (fun hB => Runs.at_ (i := 33) (gl rfl hB) (R_len rfl rfl Tryz.underlying26)) <| wg rfl rfl (Gd.on rfl rfl rfl) (fun hB => R_fld rfl rfl fld76_2) <| wg rfl rfl (Gd.on rfl rfl rfl) (fun hB => Runs.at_ (i := 35) (gl rfl hB) (R_load1 rfl rfl agg3 ((hS.bx 0 rfl).cell rfl))) <| wg rfl rfl (Gd.on rfl rfl rfl) (fun hB => Runs.at_ (i := 36) (gl rfl hB) (Runs.at_ (i := 34) (gl rfl hB) (R_bin rfl rfl rfl rfl rfl))) <| wg rfl rfl (Gd.on rfl rfl rfl) (fun hB => Runs.at_ (i := 37) (gl rfl hB) (Runs.at_ (i := 31) (gl rfl hB) (R_bin rfl rfl rfl rfl rfl))) <| wv rfl rfl rfl (R_pick_and rfl rfl rfl rfl) ?_
 refine wv rfl rfl rfl (R_move rfl rfl) <| wg rfl rfl (Gd.on rfl rfl rfl) (fun hB => R_fld rfl rfl fld76_1) <| wg rfl rfl (Gd.on rfl rfl rfl) (fun hB => Runs.at_ (i := 41) (gl rfl hB) (R_load1 rfl rfl agg3 ((hS.bx 0 rfl).cell rfl))) <| wg rfl rfl (Gd.on rfl rfl rfl) (fun hB => R_fld rfl rfl fld30_1) <| wg rfl rfl (Gd.on rfl rfl rfl) (fun hB => Runs.at_ (i := 43) (gl rfl hB) (R_load1 rfl rfl agg26 ((hS.bx 1 rfl).cell rfl))) <| wg rfl rfl (Gd.on rfl rfl rfl) (fun hB => Runs.at_ (i := 44) (gl rfl hB) (R_len rfl rfl Tryz.underlying26)) <| wg rfl rfl (Gd.on rfl rfl rfl) (fun hB => R_fld rfl rfl fld76_3) <| wg rfl rfl (Gd.on rfl rfl rfl) (fun hB => Runs.at_ (i := 46) (gl rfl hB) (R_load1 rfl rfl agg3 ((hS.bx 0 rfl).cell rfl))) <| wg rfl rfl (Gd.on rfl rfl rfl) (fun hB => Runs.at_ (i := 47) (gl rfl hB) (Runs.at_ (i := 45) (gl rfl hB) (R_bin rfl rfl rfl rfl rfl))) <| wg rfl rfl (Gd.on rfl rfl rfl) (fun hB => Runs.at_ (i := 48) (gl rfl hB) (Runs.at_ (i := 42) (gl rfl hB) (R_bin rfl rfl rfl rfl rfl))) <| wv rfl rfl rfl (R_pick_and rfl rfl rfl rfl) <| wv rfl rfl rfl (R_assign rfl rfl) ?_
 refine W_nil <| E_then (C_fr [(4, .bool ((((((decide (a1.Row ≥ 0)) && (decide (a1.Col ≥ 0))) && (decide (a1.Rows ≤ (a0.Heights.length : Int)))) && (decide (a1.Cols ≤ (a0.Widths.length : Int)))) && (decide (a1.Row ≤ (IntKind.i64.wrap ((a0.Heights.length : Int) - a1.Rows))))) && (decide (a1.Col ≤ (IntKind.i64.wrap ((a0.Widths.length : Int) - a1.Cols))))))] rfl ?_)
 refine C_ret <| E_ret1 rfl rfl ?_
 exact ⟨Lret1 (Lbool (show ((((((decide (a1.Row ≥ 0)) && (decide (a1.Col ≥ 0))) && (decide (a1.Rows ≤ (a0.Heights.length : Int)))) && (decide (a1.Cols ≤ (a0.Widths.length : Int)))) && (decide (a1.Row ≤ (IntKind.i64.wrap ((a0.Heights.length : Int) - a1.Rows))))) && (decide (a1.Col ≤ (IntKind.i64.wrap ((a0.Widths.length : Int) - a1.Cols))))) = (thereS a0 a1) by (unfold thereS hasS; simp_all; done))), hS.fin [] (by decide) rfl⟩
theorem rstyled_calls (a0 : TStyle) (z : Z) (w : World) (hI : In z w [])   :
    Calls Tryz.prog 99 #[.agg #[.int .i64 a0.Align, .int .i64 a0.Wrap, .int .i64 a0.Dir]] w fun e w' => e = .returned (.bool (rstyledS a0)) ∧ Sp (FF []) w z w' [] := by
 have hS := hI.sp
 refine Calls_of (vs := [.agg #[.int .i64 a0.Align, .int .i64 a0.Wrap, .int .i64 a0.Dir]]) (N := 31) Tryz.func99 rfl rfl (Nat.le_of_ble_eq_true rfl) ?_
 refine C_seq <| C_region <| W_cons rfl (by decide) (S_box hS rfl (R_box (cs := [.int .i64 a0.Align, .int .i64 a0.Wrap, .int .i64 a0.Dir]) rfl rfl rfl) (fun b2 w1 hS => ?_))
 refine wv rfl rfl rfl (R_assign rfl rfl) ?_
 refine W_nil <| E_then <| C_seq <| C_region <| wv rfl rfl rfl (R_fld rfl rfl fld56_0) <| wv rfl rfl rfl (R_load1 rfl rfl agg3 ((hS.bx 0 rfl).cell rfl)) <| wv rfl rfl rfl (R_bin rfl rfl rfl rfl rfl) <| wv rfl rfl rfl (R_move rfl rfl) <| wg rfl rfl (Gd.on rfl rfl rfl) (fun hB => R_fld rfl rfl fld56_0) <| wg rfl rfl (Gd.on rfl rfl rfl) (fun hB => Runs.at_ (i := 7) (gl rfl hB) (R_load1 rfl rfl agg3 ((hS.bx 0 rfl).cell rfl))) <| wg rfl rfl (Gd.on rfl rfl rfl) (fun hB => Runs.at_ (i := 8) (gl rfl hB) (R_bin rfl rfl rfl rfl rfl)) <| wv rfl rfl rfl (R_pick_and rfl rfl rfl rfl) <| wv rfl rfl rfl (R_move rfl rfl) <| wg rfl rfl (Gd.on rfl rfl rfl) (fun hB => R_fld rfl rfl fld56_1) <| wg rfl rfl (Gd.on rfl rfl rfl) (fun hB => Runs.at_ (i := 12) (gl rfl hB) (R_load1 rfl rfl agg3 ((hS.bx 0 rfl).cell rfl))) <| wg rfl rfl (Gd.on rfl rfl rfl) (fun hB => Runs.at_ (i := 13) (gl rfl hB) (R_bin rfl rfl rfl rfl rfl)) <| wg rfl rfl (Gd.on rfl rfl rfl) (fun hB => Runs.at_ (i := 14) (gl rfl hB) (R_move rfl rfl)) <| wg rfl rfl (Gd.gno rfl rfl rfl) (fun hB => R_fld rfl rfl fld56_1) <| wg rfl rfl (Gd.gno rfl rfl rfl) (fun hB => Runs.at_ (i := 16) (gl rfl hB) (R_load1 rfl rfl agg3 ((hS.bx 0 rfl).cell rfl))) <| wg rfl rfl (Gd.gno rfl rfl rfl) (fun hB => Runs.at_ (i := 17) (gl rfl hB) (R_bin rfl rfl rfl rfl rfl)) <| wg rfl rfl (Gd.on rfl rfl rfl) (fun hB => Runs.at_ (i := 18) (gl2 rfl hB) (Runs.at_ (i := 15) (gl rfl hB) (R_pick_or rfl rfl rfl rfl))) <| wv rfl rfl rfl (R_pick_and rfl rfl rfl rfl) <| wv rfl rfl rfl (R_move rfl rfl) <| wg rfl rfl (Gd.on rfl rfl rfl) (fun hB => R_fld rfl rfl fld56_2) <| wg rfl rfl (Gd.on rfl rfl rfl) (fun hB => Runs.at_ (i := 22) (gl rfl hB) (R_load1 rfl rfl agg3 ((hS.bx 0 rfl).cell rfl))) <| wg rfl rfl (Gd.on rfl rfl rfl) (fun hB => Runs.at_ (i := 23) (gl rfl hB) (R_bin rfl rfl rfl rfl rfl)) <| wv rfl rfl rfl (R_pick_and rfl rfl rfl rfl) <| wv rfl rfl rfl (R_move rfl rfl) <| wg rfl rfl (Gd.on rfl rfl rfl) (fun hB => R_fld rfl rfl fld56_2) <| wg rfl rfl (Gd.on rfl rfl rfl) (fun hB => Runs.at_ (i := 27) (gl rfl hB) (R_load1 rfl rfl agg3 ((hS.bx 0 rfl).cell rfl))) <| wg rfl rfl (Gd.on rfl rfl rfl) (fun hB => Runs.at_ (i := 28) (gl rfl hB) (R_bin rfl rfl rfl rfl rfl)) <| wv rfl rfl rfl (R_pick_and rfl rfl rfl rfl) <| wv rfl rfl rfl (R_assign rfl rfl) ?_
 refine W_nil <| E_then (C_fr [(2, .bool (((((decide (0 ≤ a0.Align)) && (decide (a0.Align < 5))) && ((a0.Wrap == 0) || (a0.Wrap == 1))) && (decide (0 ≤ a0.Dir))) && (decide (a0.Dir < 4))))] rfl ?_)
 refine C_ret <| E_ret1 rfl rfl ?_
 exact ⟨Lret1 (Lbool (show (((((decide (0 ≤ a0.Align)) && (decide (a0.Align < 5))) && ((a0.Wrap == 0) || (a0.Wrap == 1))) && (decide (0 ≤ a0.Dir))) && (decide (a0.Dir < 4))) = (rstyledS a0) by (unfold rstyledS; rw [Bool.eq_iff_iff]; simp_all; done))), hS.fin [] (by decide) rfl⟩
theorem rahead_calls (a0 : Int) (a1 : Int) (a2 : Int) (a3 : Int) (z : Z) (w : World) (hI : In z w [])   :
    Calls Tryz.prog 98 #[.int .i64 a0, .int .i64 a1, .int .i64 a2, .int .i64 a3] w fun e w' => e = .returned (.bool (raheadS a0 a1 a2 a3)) ∧ Sp (FF []) w z w' [] := by
 have hS := hI.sp
 refine Calls_of (vs := [.int .i64 a0, .int .i64 a1, .int .i64 a2, .int .i64 a3]) (N := 22) Tryz.func98 rfl rfl (Nat.le_of_ble_eq_true rfl) ?_
 refine C_seq <| C_region <| wv rfl rfl rfl (R_assign rfl rfl) ?_
 refine W_nil <| E_then <| C_seq <| C_region <| wv rfl rfl rfl (R_move rfl rfl) <| wv rfl rfl rfl (R_move rfl rfl) <| wv rfl rfl rfl (R_bin rfl rfl rfl rfl rfl) <| wv rfl rfl rfl (R_move rfl rfl) <| wg rfl rfl (Gd.no rfl rfl rfl) (fun hB => R_move rfl rfl) <| wg rfl rfl (Gd.no rfl rfl rfl) (fun hB => R_move rfl rfl) <| wg rfl rfl (Gd.no rfl rfl rfl) (fun hB => Runs.at_ (i := 14) (gl rfl hB) (Runs.at_ (i := 13) (gl rfl hB) (R_bin rfl rfl rfl rfl rfl))) <| wg rfl rfl (Gd.no rfl rfl rfl) (fun hB => Runs.at_ (i := 15) (gl rfl hB) (R_move rfl rfl)) <| wg rfl rfl (Gd.gon rfl rfl rfl) (fun hB => R_move rfl rfl) <| wg rfl rfl (Gd.gon rfl rfl rfl) (fun hB => R_move rfl rfl) <| wg rfl rfl (Gd.gon rfl rfl rfl) (fun hB => Runs.at_ (i := 18) (gl rfl hB) (Runs.at_ (i := 17) (gl rfl hB) (R_bin rfl rfl rfl rfl rfl))) <| wg rfl rfl (Gd.no rfl rfl rfl) (fun hB => Runs.at_ (i := 19) (gl2 rfl hB) (Runs.at_ (i := 16) (gl rfl hB) (R_pick_and rfl rfl rfl rfl))) <| wv rfl rfl rfl (R_pick_or rfl rfl rfl rfl) <| wv rfl rfl rfl (R_assign rfl rfl) ?_
 refine W_nil <| E_then (C_fr [(8, .bool ((decide (a0 < a2)) || ((a0 == a2) && (decide (a1 < a3)))))] rfl ?_)
 refine C_ret <| E_ret1 rfl rfl ?_
 exact ⟨Lret1 (Lbool (show ((decide (a0 < a2)) || ((a0 == a2) && (decide (a1 < a3)))) = (raheadS a0 a1 a2 a3) by (unfold raheadS; rw [Bool.eq_iff_iff]; simp_all; done))), hS.fin [] (by decide) rfl⟩
theorem rlimits_calls (a0 : TSheet) (Aa0_Widths : Option Addr) (ca0_Widths : Nat) (Aa0_Heights : Option Addr) (ca0_Heights : Nat) (Aa0_Cells : Option Addr) (ca0_Cells : Nat) (Aa0_Merges : Option Addr) (ca0_Merges : Nat) (z : Z) (w : World) (hI : In z w []) (hra0_Widths : Rd (kint .i64) z Aa0_Widths a0.Widths) (hca0_Widths : Cap Aa0_Widths a0.Widths.length ca0_Widths) (hra0_Heights : Rd (kint .i64) z Aa0_Heights a0.Heights) (hca0_Heights : Cap Aa0_Heights a0.Heights.length ca0_Heights) (hra0_Cells : Rd kdTCell z Aa0_Cells a0.Cells) (hca0_Cells : Cap Aa0_Cells a0.Cells.length ca0_Cells) (hra0_Merges : Rd kdTRect z Aa0_Merges a0.Merges) (hca0_Merges : Cap Aa0_Merges a0.Merges.length ca0_Merges)  :
    Calls Tryz.prog 65 #[.agg #[.int .i64 a0.Right, .slice Aa0_Widths a0.Widths.length ca0_Widths, .slice Aa0_Heights a0.Heights.length ca0_Heights, .slice Aa0_Cells a0.Cells.length ca0_Cells, .slice Aa0_Merges a0.Merges.length ca0_Merges]] w fun e w' => e = .returned (.bool (rlimitsS a0)) ∧ Sp (FF []) w z w' [] := by
 have hla0_Widths := hca0_Widths.le
 have hma0_Widths := hca0_Widths.mx
 have hla0_Heights := hca0_Heights.le
 have hma0_Heights := hca0_Heights.mx
 have hla0_Cells := hca0_Cells.le
 have hma0_Cells := hca0_Cells.mx
 have hla0_Merges := hca0_Merges.le
 have hma0_Merges := hca0_Merges.mx
 have hS := hI.sp
 refine Calls_of (vs := [.agg #[.int .i64 a0.Right, .slice Aa0_Widths a0.Widths.length ca0_Widths, .slice Aa0_Heights a0.Heights.length ca0_Heights, .slice Aa0_Cells a0.Cells.length ca0_Cells, .slice Aa0_Merges a0.Merges.length ca0_Merges]]) (N := 63) Tryz.func65 rfl rfl (Nat.le_of_ble_eq_true rfl) ?_
 refine C_seq <| C_region <| W_cons rfl (by decide) (S_box hS rfl (R_box (cs := [.int .i64 a0.Right, .slice Aa0_Widths a0.Widths.length ca0_Widths, .slice Aa0_Heights a0.Heights.length ca0_Heights, .slice Aa0_Cells a0.Cells.length ca0_Cells, .slice Aa0_Merges a0.Merges.length ca0_Merges]) rfl rfl rfl) (fun b2 w1 hS => ?_))
 refine wv rfl rfl rfl (R_assign rfl rfl) ?_
 refine W_nil <| E_then <| C_seq <| C_seq <| C_region <| wv rfl rfl rfl (R_fld rfl rfl fld30_2) <| wv rfl rfl rfl (R_load1 rfl rfl agg26 ((hS.bx 0 rfl).cell rfl)) <| wv rfl rfl rfl (R_len rfl rfl Tryz.underlying26) <| wv rfl rfl rfl (R_bin rfl rfl rfl rfl rfl) <| wv rfl rfl rfl (R_move rfl rfl) <| wg rfl rfl (Gd.no rfl rfl rfl) (fun hB => R_fld rfl rfl fld30_1) <| wg rfl rfl (Gd.no rfl rfl rfl) (fun hB => Runs.at_ (i := 11) (gl rfl hB) (R_load1 rfl rfl agg26 ((hS.bx 0 rfl).cell rfl))) <| wg rfl rfl (Gd.no rfl rfl rfl) (fun hB => Runs.at_ (i := 12) (gl rfl hB) (R_len rfl rfl Tryz.underlying26)) <| wg rfl rfl (Gd.no rfl rfl rfl) (fun hB => Runs.at_ (i := 13) (gl rfl hB) (R_bin rfl rfl rfl rfl rfl)) <| wv rfl rfl rfl (R_pick_or rfl rfl rfl rfl) <| wv rfl rfl rfl (R_move rfl rfl) <| wg rfl rfl (Gd.no rfl rfl rfl) (fun hB => R_fld rfl rfl fld30_4) <| wg rfl rfl (Gd.no rfl rfl rfl) (fun hB => Runs.at_ (i := 17) (gl rfl hB) (R_load1 rfl rfl agg28 ((hS.bx 0 rfl).cell rfl))) <| wg rfl rfl (Gd.no rfl rfl rfl) (fun hB => Runs.at_ (i := 18) (gl rfl hB) (R_len rfl rfl Tryz.underlying28)) <| wg rfl rfl (Gd.no rfl rfl rfl) (fun hB => Runs.at_ (i := 19) (gl rfl hB) (R_bin rfl rfl rfl rfl rfl)) <| wv rfl rfl rfl (R_pick_or rfl rfl rfl rfl) ?_
 refine W_nil <| E_then (C_fr [(1, .pointer (some ⟨b2, 0, none⟩)), (21, .bool (((decide ((a0.Heights.length : Int) > 24)) || (decide ((a0.Widths.length : Int) > 16))) || (decide ((a0.Merges.length : Int) > 12))))] rfl ?_)
 refine C_ite rfl (fun hC0 => ?_) (fun hC0 => ?_)
 ·have hC0p : (((a0.Heights.length : Int) > 24 ∨ (a0.Widths.length : Int) > 16) ∨ (a0.Merges.length : Int) > 12) := by simpa using hC0
  refine C_seq <| C_region <| wv rfl rfl rfl (R_assign rfl rfl) ?_
  refine W_nil <| E_then <| C_ret <| E_then_ret <| E_ret1 rfl rfl ?_
  exact ⟨Lret1 (Lbool (show false = (rlimitsS a0) by exact rlim_len (by omega))), hS.fin [] (by decide) rfl⟩
 ·have hC0p : ¬ ((((a0.Heights.length : Int) > 24 ∨ (a0.Widths.length : Int) > 16) ∨ (a0.Merges.length : Int) > 12)) := by simpa using hC0
  refine C_skip <| E_then <| C_seq <| C_seq <| C_region <| wv rfl rfl rfl (R_assign rfl rfl) ?_
  refine W_nil <| E_then <| C_block <| C_fr [(1, .pointer (some ⟨b2, 0, none⟩)), (3, .int .i64 0)] rfl ?_
  refine C_loop (fun m_ f_ w_ => ∃ (i : Nat), f_ = [(1, .pointer (some ⟨b2, 0, none⟩)), (3, .int .i64 (i : Int))] ∧ i ≤ a0.Heights.length ∧ (a0.Heights.take i).any (fun n => decide (n > 12)) = false ∧ m_ = a0.Heights.length - i ∧ Sp (FF []) w z w_ [bR b2 30 [.int .i64 a0.Right, .slice Aa0_Widths a0.Widths.length ca0_Widths, .slice Aa0_Heights a0.Heights.length ca0_Heights, .slice Aa0_Cells a0.Cells.length ca0_Cells, .slice Aa0_Merges a0.Merges.length ca0_Merges]]) (a0.Heights.length - (0 : Nat)) ⟨(0 : Nat), rfl, (by omega), (by rfl), rfl, hS.fin [0] (by decide) rfl⟩ ?_
  rintro m_ f_ w3 ⟨i, rfl, hI0_0, hI0_1, rfl, hS⟩
  refine C_seq <| C_seq <| C_region <| wv rfl rfl rfl (R_move rfl rfl) <| wv rfl rfl rfl (R_fld rfl rfl fld30_2) <| wv rfl rfl rfl (R_load1 rfl rfl agg26 ((hS.bx 0 rfl).cell rfl)) <| wv rfl rfl rfl (R_len rfl rfl Tryz.underlying26) <| wv rfl rfl rfl (R_bin rfl rfl rfl rfl rfl) ?_
  refine W_nil <| E_then <| C_ite rfl (fun hC1 => ?_) (fun hC1 => ?_)
  ·have hC1p : (i : Int) < (a0.Heights.length : Int) := by simpa using hC1
   refine C_skip <| E_then (C_fr [(1, .pointer (some ⟨b2, 0, none⟩)), (3, .int .i64 (i : Int))] rfl ?_)
   refine C_seq <| C_block <| C_seq <| C_region <| wv rfl rfl rfl (R_fld rfl rfl fld30_2) <| wv rfl rfl rfl (R_load1 rfl rfl agg26 ((hS.bx 0 rfl).cell rfl)) <| wv rfl rfl rfl (R_move rfl rfl) ?_
   obtain ⟨q4, csq4, hAq4, rfl, hkq4⟩ := hra0_Heights.at_ (0 : Int) (i := (i : Int)) (by omega) (by omega)
   have hkq4 : ∀ (j_ : Nat) (u_ : Value), ([.int .i64 (a0.Heights.getD i (0 : Int))] : List Value)[j_]? = some u_ → cz z (q4.add (i * 1 + j_)) = some u_ := hkq4
   refine wv rfl rfl rfl (R_idx rfl rfl hAq4 rfl Tryz.underlying26 size3 (by omega) (by omega)) <| wv rfl rfl rfl (R_load1 rfl rfl agg3 (hS.sub.cell (hkq4 0 _ rfl))) <| wv rfl rfl rfl (R_bin rfl rfl rfl rfl rfl) ?_
   refine W_nil <| E_then (C_fr [(1, .pointer (some ⟨b2, 0, none⟩)), (3, .int .i64 (i : Int)), (34, .bool (decide ((a0.Heights.getD i (0 : Int)) > 12)))] rfl ?_)
   refine C_ite rfl (fun hC2 => ?_) (fun hC2 => ?_)
   ·have hC2p : (a0.Heights.getD i (0 : Int)) > 12 := by simpa using hC2
    refine C_seq <| C_region <| wv rfl rfl rfl (R_assign rfl rfl) ?_
    refine W_nil <| E_then <| C_ret <| E_block_ret <| E_then_ret <| E_then_ret <| E_block_ret <| E_then_ret <| E_ret1 rfl rfl ?_
    exact ⟨Lret1 (Lbool (show false = (rlimitsS a0) by exact rlim_h (i := i) (by omega) (by assumption))), hS.fin [] (by decide) rfl⟩
   ·have hC2p : ¬ ((a0.Heights.getD i (0 : Int)) > 12) := by simpa using hC2
    refine C_skip <| E_block_normal <| E_then <| C_region <| wv rfl rfl rfl (R_move rfl rfl) <| wv rfl rfl rfl (R_add64 rfl rfl rfl (by omega) (by omega)) <| wv rfl rfl rfl (R_assign rfl rfl) ?_
    refine W_nil <| E_round [1, 3] ?_ ⟨(i + 1 : Nat), rfl, (by omega), (by exact any_step (p := (fun n => decide (n > 12))) 0 (by omega) hI0_1 (by simp_all)), rfl, hS.fin [0] (by decide) rfl⟩
    omega
  ·have hC1p : ¬ ((i : Int) < (a0.Heights.length : Int)) := by simpa using hC1
   refine C_exit <| E_then_exit <| E_then_exit <| E_block_hit ?_
   refine E_then (C_fr [(1, .pointer (some ⟨b2, 0, none⟩))] rfl ?_)
   refine C_seq <| C_seq <| C_region <| wv rfl rfl rfl (R_assign rfl rfl) ?_
   refine W_nil <| E_then <| C_block <| C_fr [(1, .pointer (some ⟨b2, 0, none⟩)), (4, .int .i64 0)] rfl ?_
   refine C_loop (fun m_ f_ w_ => ∃ (j : Nat), f_ = [(1, .pointer (some ⟨b2, 0, none⟩)), (4, .int .i64 (j : Int))] ∧ j ≤ a0.Widths.length ∧ (a0.Widths.take j).any (fun n => decide (n > 60)) = false ∧ m_ = a0.Widths.length - j ∧ Sp (FF []) w z w_ [bR b2 30 [.int .i64 a0.Right, .slice Aa0_Widths a0.Widths.length ca0_Widths, .slice Aa0_Heights a0.Heights.length ca0_Heights, .slice Aa0_Cells a0.Cells.length ca0_Cells, .slice Aa0_Merges a0.Merges.length ca0_Merges]]) (a0.Widths.length - (0 : Nat)) ⟨(0 : Nat), rfl, (by omega), (by rfl), rfl, hS.fin [0] (by decide) rfl⟩ ?_
   rintro m_ f_ w5 ⟨j, rfl, hI1_0, hI1_1, rfl, hS⟩
   refine C_seq <| C_seq <| C_region <| wv rfl rfl rfl (R_move rfl rfl) <| wv rfl rfl rfl (R_fld rfl rfl fld30_1) <| wv rfl rfl rfl (R_load1 rfl rfl agg26 ((hS.bx 0 rfl).cell rfl)) <| wv rfl rfl rfl (R_len rfl rfl Tryz.underlying26) <| wv rfl rfl rfl (R_bin rfl rfl rfl rfl rfl) ?_
   refine W_nil <| E_then <| C_ite rfl (fun hC3 => ?_) (fun hC3 => ?_)
   ·have hC3p : (j : Int) < (a0.Widths.length : Int) := by simpa using hC3
    refine C_skip <| E_then (C_fr [(1, .pointer (some ⟨b2, 0, none⟩)), (4, .int .i64 (j : Int))] rfl ?_)
    refine C_seq <| C_block <| C_seq <| C_region <| wv rfl rfl rfl (R_fld rfl rfl fld30_1) <| wv rfl rfl rfl (R_load1 rfl rfl agg26 ((hS.bx 0 rfl).cell rfl)) <| wv rfl rfl rfl (R_move rfl rfl) ?_
    obtain ⟨q6, csq6, hAq6, rfl, hkq6⟩ := hra0_Widths.at_ (0 : Int) (i := (j : Int)) (by omega) (by omega)
    have hkq6 : ∀ (j_ : Nat) (u_ : Value), ([.int .i64 (a0.Widths.getD j (0 : Int))] : List Value)[j_]? = some u_ → cz z (q6.add (j * 1 + j_)) = some u_ := hkq6
    refine wv rfl rfl rfl (R_idx rfl rfl hAq6 rfl Tryz.underlying26 size3 (by omega) (by omega)) <| wv rfl rfl rfl (R_load1 rfl rfl agg3 (hS.sub.cell (hkq6 0 _ rfl))) <| wv rfl rfl rfl (R_bin rfl rfl rfl rfl rfl) ?_
    refine W_nil <| E_then (C_fr [(1, .pointer (some ⟨b2, 0, none⟩)), (4, .int .i64 (j : Int)), (47, .bool (decide ((a0.Widths.getD j (0 : Int)) > 60)))] rfl ?_)
    refine C_ite rfl (fun hC4 => ?_) (fun hC4 => ?_)
    ·have hC4p : (a0.Widths.getD j (0 : Int)) > 60 := by simpa using hC4
     refine C_seq <| C_region <| wv rfl rfl rfl (R_assign rfl rfl) ?_
     refine W_nil <| E_then <| C_ret <| E_block_ret <| E_then_ret <| E_then_ret <| E_block_ret <| E_then_ret <| E_ret1 rfl rfl ?_
     exact ⟨Lret1 (Lbool (show false = (rlimitsS a0) by exact rlim_w (i := j) (by omega) (by assumption))), hS.fin [] (by decide) rfl⟩
    ·have hC4p : ¬ ((a0.Widths.getD j (0 : Int)) > 60) := by simpa using hC4
     refine C_skip <| E_block_normal <| E_then <| C_region <| wv rfl rfl rfl (R_move rfl rfl) <| wv rfl rfl rfl (R_add64 rfl rfl rfl (by omega) (by omega)) <| wv rfl rfl rfl (R_assign rfl rfl) ?_
     refine W_nil <| E_round [1, 4] ?_ ⟨(j + 1 : Nat), rfl, (by omega), (by exact any_step (p := (fun n => decide (n > 60))) 0 (by omega) hI1_1 (by simp_all)), rfl, hS.fin [0] (by decide) rfl⟩
     omega
   ·have hC3p : ¬ ((j : Int) < (a0.Widths.length : Int)) := by simpa using hC3
    refine C_exit <| E_then_exit <| E_then_exit <| E_block_hit ?_
    refine E_then (C_fr [(1, .pointer (some ⟨b2, 0, none⟩))] rfl ?_)
    refine C_seq <| C_seq <| C_region <| wv rfl rfl rfl (R_assign rfl rfl) ?_
    refine W_nil <| E_then <| C_block <| C_fr [(1, .pointer (some ⟨b2, 0, none⟩)), (5, .int .i64 0)] rfl ?_
    refine C_loop (fun m_ f_ w_ => ∃ (k : Nat), f_ = [(1, .pointer (some ⟨b2, 0, none⟩)), (5, .int .i64 (k : Int))] ∧ k ≤ a0.Cells.length ∧ (a0.Cells.take k).any (fun c : TCell => decide ((c.Text.length : Int) > 1024)) = false ∧ m_ = a0.Cells.length - k ∧ Sp (FF []) w z w_ [bR b2 30 [.int .i64 a0.Right, .slice Aa0_Widths a0.Widths.length ca0_Widths, .slice Aa0_Heights a0.Heights.length ca0_Heights, .slice Aa0_Cells a0.Cells.length ca0_Cells, .slice Aa0_Merges a0.Merges.length ca0_Merges]]) (a0.Cells.length - (0 : Nat)) ⟨(0 : Nat), rfl, (by omega), (by rfl), rfl, hS.fin [0] (by decide) rfl⟩ ?_
    rintro m_ f_ w7 ⟨k, rfl, hI2_0, hI2_1, rfl, hS⟩
    refine C_seq <| C_seq <| C_region <| wv rfl rfl rfl (R_move rfl rfl) <| wv rfl rfl rfl (R_fld rfl rfl fld30_3) <| wv rfl rfl rfl (R_load1 rfl rfl agg27 ((hS.bx 0 rfl).cell rfl)) <| wv rfl rfl rfl (R_len rfl rfl Tryz.underlying27) <| wv rfl rfl rfl (R_bin rfl rfl rfl rfl rfl) ?_
    refine W_nil <| E_then <| C_ite rfl (fun hC5 => ?_) (fun hC5 => ?_)
    ·have hC5p : (k : Int) < (a0.Cells.length : Int) := by simpa using hC5
     refine C_skip <| E_then (C_fr [(1, .pointer (some ⟨b2, 0, none⟩)), (5, .int .i64 (k : Int))] rfl ?_)
     refine C_seq <| C_block <| C_seq <| C_region <| wv rfl rfl rfl (R_fld rfl rfl fld30_3) <| wv rfl rfl rfl (R_load1 rfl rfl agg27 ((hS.bx 0 rfl).cell rfl)) <| wv rfl rfl rfl (R_move rfl rfl) ?_
     obtain ⟨q8, csq8, hAq8, rfl, hkq8⟩ := hra0_Cells.at_ (default : TCell) (i := (k : Int)) (by omega) (by omega)
     have hkq8 : ∀ (j_ : Nat) (u_ : Value), ([.int .i64 (a0.Cells.getD k (default : TCell)).Row, .int .i64 (a0.Cells.getD k (default : TCell)).Col, vstr (a0.Cells.getD k (default : TCell)).Text, .int .i64 (a0.Cells.getD k (default : TCell)).Style.Align, .int .i64 (a0.Cells.getD k (default : TCell)).Style.Wrap, .int .i64 (a0.Cells.getD k (default : TCell)).Style.Dir] : List Value)[j_]? = some u_ → cz z (q8.add (k * 6 + j_)) = some u_ := hkq8
     refine wv rfl rfl rfl (R_idx rfl rfl hAq8 rfl Tryz.underlying27 size58 (by omega) (by omega)) <| wv rfl rfl rfl (R_fld rfl rfl fld58_2) <| wv rfl rfl rfl (R_load1 rfl rfl agg9 (cell_add (hS.sub.cell (hkq8 2 _ rfl)))) <| wv rfl rfl rfl (R_strlen rfl rfl Tryz.underlying9) <| wv rfl rfl rfl (R_bin rfl rfl rfl rfl rfl) ?_
     refine W_nil <| E_then (C_fr [(1, .pointer (some ⟨b2, 0, none⟩)), (5, .int .i64 (k : Int)), (62, .bool (decide (((a0.Cells.getD k (default : TCell)).Text.length : Int) > 1024)))] rfl ?_)
     refine C_ite rfl (fun hC6 => ?_) (fun hC6 => ?_)
     ·have hC6p : ((a0.Cells.getD k (default : TCell)).Text.length : Int) > 1024 := by simpa using hC6
      refine C_seq <| C_region <| wv rfl rfl rfl (R_assign rfl rfl) ?_
      refine W_nil <| E_then <| C_ret <| E_block_ret <| E_then_ret <| E_then_ret <| E_block_ret <| E_then_ret <| E_ret1 rfl rfl ?_
      exact ⟨Lret1 (Lbool (show false = (rlimitsS a0) by exact rlim_c (i := k) (by omega) (by assumption))), hS.fin [] (by decide) rfl⟩
     ·have hC6p : ¬ (((a0.Cells.getD k (default : TCell)).Text.length : Int) > 1024) := by simpa using hC6
      refine C_skip <| E_block_normal <| E_then <| C_region <| wv rfl rfl rfl (R_move rfl rfl) <| wv rfl rfl rfl (R_add64 rfl rfl rfl (by omega) (by omega)) <| wv rfl rfl rfl (R_assign rfl rfl) ?_
      refine W_nil <| E_round [1, 5] ?_ ⟨(k + 1 : Nat), rfl, (by omega), (by exact any_step (p := (fun c : TCell => decide ((c.Text.length : Int) > 1024))) default (by omega) hI2_1 (by simp_all)), rfl, hS.fin [0] (by decide) rfl⟩
      omega
    ·have hC5p : ¬ ((k : Int) < (a0.Cells.length : Int)) := by simpa using hC5
     refine C_exit <| E_then_exit <| E_then_exit <| E_block_hit ?_
     refine E_then (C_fr [] rfl ?_)
     refine C_seq <| C_region <| wv rfl rfl rfl (R_assign rfl rfl) ?_
     refine W_nil <| E_then <| C_ret <| E_ret1 rfl rfl ?_
     exact ⟨Lret1 (Lbool (show true = (rlimitsS a0) by exact rlim_ok (i := i) (j := j) (k := k) (by omega) (by omega) hI0_1 (by omega) hI1_1 (by omega) hI2_1)), hS.fin [] (by decide) rfl⟩
theorem raround_calls (a0 : TSheet) (Aa0_Widths : Option Addr) (ca0_Widths : Nat) (Aa0_Heights : Option Addr) (ca0_Heights : Nat) (Aa0_Cells : Option Addr) (ca0_Cells : Nat) (Aa0_Merges : Option Addr) (ca0_Merges : Nat) (a1 : Int) (a2 : Int) (z : Z) (w : World) (hI : In z w []) (hra0_Widths : Rd (kint .i64) z Aa0_Widths a0.Widths) (hca0_Widths : Cap Aa0_Widths a0.Widths.length ca0_Widths) (hra0_Heights : Rd (kint .i64) z Aa0_Heights a0.Heights) (hca0_Heights : Cap Aa0_Heights a0.Heights.length ca0_Heights) (hra0_Cells : Rd kdTCell z Aa0_Cells a0.Cells) (hca0_Cells : Cap Aa0_Cells a0.Cells.length ca0_Cells) (hra0_Merges : Rd kdTRect z Aa0_Merges a0.Merges) (hca0_Merges : Cap Aa0_Merges a0.Merges.length ca0_Merges)  :
    Calls Tryz.prog 69 #[.agg #[.int .i64 a0.Right, .slice Aa0_Widths a0.Widths.length ca0_Widths, .slice Aa0_Heights a0.Heights.length ca0_Heights, .slice Aa0_Cells a0.Cells.length ca0_Cells, .slice Aa0_Merges a0.Merges.length ca0_Merges], .int .i64 a1, .int .i64 a2] w fun e w' => e = .returned (.agg #[.int .i64 (raroundS a0 a1 a2).Row, .int .i64 (raroundS a0 a1 a2).Col, .int .i64 (raroundS a0 a1 a2).Rows, .int .i64 (raroundS a0 a1 a2).Cols]) ∧ Sp (FF []) w z w' [] := by
 have hla0_Widths := hca0_Widths.le
 have hma0_Widths := hca0_Widths.mx
 have hla0_Heights := hca0_Heights.le
 have hma0_Heights := hca0_Heights.mx
 have hla0_Cells := hca0_Cells.le
 have hma0_Cells := hca0_Cells.mx
 have hla0_Merges := hca0_Merges.le
 have hma0_Merges := hca0_Merges.mx
 have hS := hI.sp
 refine Calls_of (vs := [.agg #[.int .i64 a0.Right, .slice Aa0_Widths a0.Widths.length ca0_Widths, .slice Aa0_Heights a0.Heights.length ca0_Heights, .slice Aa0_Cells a0.Cells.length ca0_Cells, .slice Aa0_Merges a0.Merges.length ca0_Merges], .int .i64 a1, .int .i64 a2]) (N := 31) Tryz.func69 rfl rfl (Nat.le_of_ble_eq_true rfl) ?_
 refine C_seq <| C_region <| W_cons rfl (by decide) (S_box hS rfl (R_box (cs := [.int .i64 a0.Right, .slice Aa0_Widths a0.Widths.length ca0_Widths, .slice Aa0_Heights a0.Heights.length ca0_Heights, .slice Aa0_Cells a0.Cells.length ca0_Cells, .slice Aa0_Merges a0.Merges.length ca0_Merges]) rfl rfl rfl) (fun b2 w1 hS => ?_))
 refine W_cons rfl (by decide) (S_box hS rfl (R_alloc rfl alloc76) (fun b4 w3 hS => ?_))
 refine W_nil <| E_then <| C_seq <| C_seq <| C_region <| wv rfl rfl rfl (R_assign rfl rfl) ?_
 refine W_nil <| E_then <| C_block <| C_fr [(1, .int .i64 a1), (2, .int .i64 a2), (3, .pointer (some ⟨b2, 0, none⟩)), (6, .pointer (some ⟨b4, 0, none⟩)), (7, .int .i64 0)] rfl ?_
 refine C_loop (fun m_ f_ w_ => ∃ (i : Nat), f_ = [(1, .int .i64 a1), (2, .int .i64 a2), (3, .pointer (some ⟨b2, 0, none⟩)), (6, .pointer (some ⟨b4, 0, none⟩)), (7, .int .i64 (i : Int))] ∧ i ≤ a0.Merges.length ∧ a0.Merges.find? (fun r => coversS r a1 a2) = (a0.Merges.drop i).find? (fun r => coversS r a1 a2) ∧ m_ = a0.Merges.length - i ∧ Sp (FF []) w z w_ [bR b2 30 [.int .i64 a0.Right, .slice Aa0_Widths a0.Widths.length ca0_Widths, .slice Aa0_Heights a0.Heights.length ca0_Heights, .slice Aa0_Cells a0.Cells.length ca0_Cells, .slice Aa0_Merges a0.Merges.length ca0_Merges], bR b4 76 [.int .i64 0, .int .i64 0, .int .i64 0, .int .i64 0]]) (a0.Merges.length - (0 : Nat)) ⟨(0 : Nat), rfl, (by omega), (by rfl), rfl, hS.fin [1, 0] (by decide) rfl⟩ ?_
 rintro m_ f_ w5 ⟨i, rfl, hI0_0, hI0_1, rfl, hS⟩
 refine C_seq <| C_seq <| C_region <| wv rfl rfl rfl (R_move rfl rfl) <| wv rfl rfl rfl (R_fld rfl rfl fld30_4) <| wv rfl rfl rfl (R_load1 rfl rfl agg28 ((hS.bx 0 rfl).cell rfl)) <| wv rfl rfl rfl (R_len rfl rfl Tryz.underlying28) <| wv rfl rfl rfl (R_bin rfl rfl rfl rfl rfl) ?_
 refine W_nil <| E_then <| C_ite rfl (fun hC0 => ?_) (fun hC0 => ?_)
 ·have hC0p : (i : Int) < (a0.Merges.length : Int) := by simpa using hC0
  refine C_skip <| E_then (C_fr [(1, .int .i64 a1), (2, .int .i64 a2), (3, .pointer (some ⟨b2, 0, none⟩)), (6, .pointer (some ⟨b4, 0, none⟩)), (7, .int .i64 (i : Int))] rfl ?_)
  refine C_seq <| C_block <| C_seq <| C_region <| wv rfl rfl rfl (R_fld rfl rfl fld30_4) <| wv rfl rfl rfl (R_load1 rfl rfl agg28 ((hS.bx 0 rfl).cell rfl)) <| wv rfl rfl rfl (R_move rfl rfl) ?_
  obtain ⟨q6, csq6, hAq6, rfl, hkq6⟩ := hra0_Merges.at_ (default : TRect) (i := (i : Int)) (by omega) (by omega)
  have hkq6 : ∀ (j_ : Nat) (u_ : Value), ([.int .i64 (a0.Merges.getD i (default : TRect)).Row, .int .i64 (a0.Merges.getD i (default : TRect)).Col, .int .i64 (a0.Merges.getD i (default : TRect)).Rows, .int .i64 (a0.Merges.getD i (default : TRect)).Cols] : List Value)[j_]? = some u_ → cz z (q6.add (i * 4 + j_)) = some u_ := hkq6
  refine wv rfl rfl rfl (R_idx rfl rfl hAq6 rfl Tryz.underlying28 size76 (by omega) (by omega)) <| wv rfl rfl rfl (R_loadN (cs := [.int .i64 (a0.Merges.getD i (default : TRect)).Row, .int .i64 (a0.Merges.getD i (default : TRect)).Col, .int .i64 (a0.Merges.getD i (default : TRect)).Rows, .int .i64 (a0.Merges.getD i (default : TRect)).Cols]) rfl rfl agg76 size76 rfl (fun j u h => cell_add (hS.sub.cell (hkq6 j u h)))) <| wv rfl rfl rfl (R_move rfl rfl) <| wv rfl rfl rfl (R_move rfl rfl) ?_
  refine W_cons rfl (by decide) (Sv_call rfl rfl rfl ent100 ?_)
  refine (covers_calls (a0.Merges.getD i (default : TRect)) a1 a2 _ _ hS.out0  ).mono ?_
  rintro e_ w7 ⟨rfl, hS_⟩
  refine ⟨_, rfl, ?_⟩
  have hS := hS.call0 hS_
  refine W_nil <| E_then (C_fr [(1, .int .i64 a1), (2, .int .i64 a2), (3, .pointer (some ⟨b2, 0, none⟩)), (6, .pointer (some ⟨b4, 0, none⟩)), (7, .int .i64 (i : Int)), (22, .bool (coversS (a0.Merges.getD i (default : TRect)) a1 a2))] rfl ?_)
  refine C_ite rfl (fun hC1 => ?_) (fun hC1 => ?_)
  ·refine C_seq <| C_region <| wv rfl rfl rfl (R_fld rfl rfl fld30_4) <| wv rfl rfl rfl (R_load1 rfl rfl agg28 ((hS.bx 0 rfl).cell rfl)) <| wv rfl rfl rfl (R_move rfl rfl) ?_
   obtain ⟨q9, csq9, hAq9, rfl, hkq9⟩ := hra0_Merges.at_ (default : TRect) (i := (i : Int)) (by omega) (by omega)
   have hkq9 : ∀ (j_ : Nat) (u_ : Value), ([.int .i64 (a0.Merges.getD i (default : TRect)).Row, .int .i64 (a0.Merges.getD i (default : TRect)).Col, .int .i64 (a0.Merges.getD i (default : TRect)).Rows, .int .i64 (a0.Merges.getD i (default : TRect)).Cols] : List Value)[j_]? = some u_ → cz z (q9.add (i * 4 + j_)) = some u_ := hkq9
   refine wv rfl rfl rfl (R_idx rfl rfl hAq9 rfl Tryz.underlying28 size76 (by omega) (by omega)) <| wv rfl rfl rfl (R_loadN (cs := [.int .i64 (a0.Merges.getD i (default : TRect)).Row, .int .i64 (a0.Merges.getD i (default : TRect)).Col, .int .i64 (a0.Merges.getD i (default : TRect)).Rows, .int .i64 (a0.Merges.getD i (default : TRect)).Cols]) rfl rfl agg76 size76 rfl (fun j u h => cell_add (hS.sub.cell (hkq9 j u h)))) ?_
   refine W_cons0 rfl (S_store hS 1 rfl rfl rfl rfl rfl size76 (one_cons rfl (one_cons rfl (one_cons rfl (one_cons rfl one_nil)))) (Nat.le_of_ble_eq_true rfl) (fun w10 hS => ?_))
   have hS : Sp (FF []) w z w10 [bR b2 30 [.int .i64 a0.Right, .slice Aa0_Widths a0.Widths.length ca0_Widths, .slice Aa0_Heights a0.Heights.length ca0_Heights, .slice Aa0_Cells a0.Cells.length ca0_Cells, .slice Aa0_Merges a0.Merges.length ca0_Merges], bR b4 76 [.int .i64 (a0.Merges.getD i (default : TRect)).Row, .int .i64 (a0.Merges.getD i (default : TRect)).Col, .int .i64 (a0.Merges.getD i (default : TRect)).Rows, .int .i64 (a0.Merges.getD i (default : TRect)).Cols]] := hS
   refine W_nil <| E_then (C_fr [(6, .pointer (some ⟨b4, 0, none⟩))] rfl ?_)
   refine C_ret <| E_block_ret <| E_then_ret <| E_then_ret <| E_block_ret <| E_then_ret <| E_rv1 rfl (RV_cellN (cs := [.int .i64 (a0.Merges.getD i (default : TRect)).Row, .int .i64 (a0.Merges.getD i (default : TRect)).Col, .int .i64 (a0.Merges.getD i (default : TRect)).Rows, .int .i64 (a0.Merges.getD i (default : TRect)).Cols]) rfl agg76 size76 rfl (boxcells (hS.bx 1 rfl) 0 rfl)) ?_
   exact ⟨Lret1 (show (.agg #[.int .i64 (a0.Merges.getD i (default : TRect)).Row, .int .i64 (a0.Merges.getD i (default : TRect)).Col, .int .i64 (a0.Merges.getD i (default : TRect)).Rows, .int .i64 (a0.Merges.getD i (default : TRect)).Cols] : Value) = .agg #[.int .i64 (raroundS a0 a1 a2).Row, .int .i64 (raroundS a0 a1 a2).Col, .int .i64 (raroundS a0 a1 a2).Rows, .int .i64 (raroundS a0 a1 a2).Cols] by (rw [raround_hit (i := i) (by omega) hI0_1 (by assumption)] <;> rfl)), hS.fin [] (by decide) rfl⟩
  ·refine C_skip <| E_block_normal <| E_then <| C_region <| wv rfl rfl rfl (R_move rfl rfl) <| wv rfl rfl rfl (R_add64 rfl rfl rfl (by omega) (by omega)) <| wv rfl rfl rfl (R_assign rfl rfl) ?_
   refine W_nil <| E_round [1, 2, 3, 6, 7] ?_ ⟨(i + 1 : Nat), rfl, (by omega), (by exact find_step (p := (fun r => coversS r a1 a2)) default (by omega) hI0_1 (by simp_all)), rfl, hS.fin [0, 1] (by decide) rfl⟩
   omega
 ·have hC0p : ¬ ((i : Int) < (a0.Merges.length : Int)) := by simpa using hC0
  refine C_exit <| E_then_exit <| E_then_exit <| E_block_hit ?_
  refine E_then (C_fr [(1, .int .i64 a1), (2, .int .i64 a2), (6, .pointer (some ⟨b4, 0, none⟩))] rfl ?_)
  refine C_seq <| C_region <| wv rfl rfl rfl (R_move rfl rfl) <| wv rfl rfl rfl (R_move rfl rfl) <| wv rfl rfl rfl (R_build (w' := w5) (ps := [(0, (.tmp 28)), (1, (.tmp 29)), (2, (.const (.int .i64 1))), (3, (.const (.int .i64 1)))]) (vs := [.int .i64 a1, .int .i64 a2, .int .i64 1, .int .i64 1]) (r := .agg #[.int .i64 a1, .int .i64 a2, .int .i64 1, .int .i64 1]) rfl rfl rfl (by kernel_rfl)) ?_
  refine W_cons0 rfl (S_store hS 1 rfl rfl rfl rfl rfl size76 (one_cons rfl (one_cons rfl (one_cons rfl (one_cons rfl one_nil)))) (Nat.le_of_ble_eq_true rfl) (fun w11 hS => ?_))
  have hS : Sp (FF []) w z w11 [bR b2 30 [.int .i64 a0.Right, .slice Aa0_Widths a0.Widths.length ca0_Widths, .slice Aa0_Heights a0.Heights.length ca0_Heights, .slice Aa0_Cells a0.Cells.length ca0_Cells, .slice Aa0_Merges a0.Merges.length ca0_Merges], bR b4 76 [.int .i64 a1, .int .i64 a2, .int .i64 1, .int .i64 1]] := hS
  refine W_nil <| E_then (C_fr [(6, .pointer (some ⟨b4, 0, none⟩))] rfl ?_)
  refine C_ret <| E_rv1 rfl (RV_cellN (cs := [.int .i64 a1, .int .i64 a2, .int .i64 1, .int .i64 1]) rfl agg76 size76 rfl (boxcells (hS.bx 1 rfl) 0 rfl)) ?_
  exact ⟨Lret1 (show (.agg #[.int .i64 a1, .int .i64 a2, .int .i64 1, .int .i64 1] : Value) = .agg #[.int .i64 (raroundS a0 a1 a2).Row, .int .i64 (raroundS a0 a1 a2).Col, .int .i64 (raroundS a0 a1 a2).Rows, .int .i64 (raroundS a0 a1 a2).Cols] by (rw [raround_end (i := i) (by omega) hI0_1]; done)), hS.fin [] (by decide) rfl⟩
theorem numbers_calls (a0 : List Int) (Aa0 : Option Addr) (ca0 : Nat) (a1 : List Int) (Aa1 : Option Addr) (ca1 : Nat) (z : Z) (w : World) (hI : In z w []) (hra0 : Rd (kint .i64) z Aa0 a0) (hca0 : Cap Aa0 a0.length ca0) (hra1 : Rd (kint .i64) z Aa1 a1) (hca1 : Cap Aa1 a1.length ca1)  :
    Calls Tryz.prog 32 #[.slice Aa0 a0.length ca0, .slice Aa1 a1.length ca1] w fun e w' => e = .returned (.bool (decide (a0 = a1))) ∧ Sp (FF []) w z w' [] := by
 have hla0 := hca0.le
 have hma0 := hca0.mx
 have hla1 := hca1.le
 have hma1 := hca1.mx
 have hS := hI.sp
 refine Calls_of (vs := [.slice Aa0 a0.length ca0, .slice Aa1 a1.length ca1]) (N := 26) Tryz.func32 rfl rfl (Nat.le_of_ble_eq_true rfl) ?_
 refine C_seq <| C_region <| wv rfl rfl rfl (R_assign rfl rfl) ?_
 refine W_nil <| E_then <| C_seq <| C_seq <| C_region <| wv rfl rfl rfl (R_move rfl rfl) <| wv rfl rfl rfl (R_len rfl rfl Tryz.underlying26) <| wv rfl rfl rfl (R_move rfl rfl) <| wv rfl rfl rfl (R_len rfl rfl Tryz.underlying26) <| wv rfl rfl rfl (R_bin rfl rfl rfl rfl rfl) ?_
 refine W_nil <| E_then (C_fr [(0, .slice Aa0 a0.length ca0), (1, .slice Aa1 a1.length ca1), (10, .bool ((a0.length : Int) != (a1.length : Int)))] rfl ?_)
 refine C_ite rfl (fun hC0 => ?_) (fun hC0 => ?_)
 ·have hC0p : ¬ (a0.length : Int) = (a1.length : Int) := by simpa using hC0
  refine C_seq <| C_region <| wv rfl rfl rfl (R_assign rfl rfl) ?_
  refine W_nil <| E_then <| C_ret <| E_then_ret <| E_ret1 rfl rfl ?_
  exact ⟨Lret1 (Lbool (show false = (decide (a0 = a1)) by (exact (decide_eq_false (fun h_ => by subst h_; (exact absurd rfl (by assumption)))).symm))), hS.fin [] (by decide) rfl⟩
 ·have hC0p : (a0.length : Int) = (a1.length : Int) := by simpa using hC0
  refine C_skip <| E_then <| C_seq <| C_seq <| C_region <| wv rfl rfl rfl (R_assign rfl rfl) ?_
  refine W_nil <| E_then <| C_block <| C_fr [(0, .slice Aa0 a0.length ca0), (1, .slice Aa1 a1.length ca1), (5, .int .i64 0)] rfl ?_
  refine C_loop (fun m_ f_ w_ => ∃ (i : Nat), f_ = [(0, .slice Aa0 a0.length ca0), (1, .slice Aa1 a1.length ca1), (5, .int .i64 (i : Int))] ∧ i ≤ a0.length ∧ a0.take i = a1.take i ∧ m_ = a0.length - i ∧ Sp (FF []) w z w_ []) (a0.length - (0 : Nat)) ⟨(0 : Nat), rfl, (by omega), (by rfl), rfl, hS.fin [] (by decide) rfl⟩ ?_
  rintro m_ f_ w1 ⟨i, rfl, hI0_0, hI0_1, rfl, hS⟩
  refine C_seq <| C_seq <| C_region <| wv rfl rfl rfl (R_move rfl rfl) <| wv rfl rfl rfl (R_move rfl rfl) <| wv rfl rfl rfl (R_len rfl rfl Tryz.underlying26) <| wv rfl rfl rfl (R_bin rfl rfl rfl rfl rfl) ?_
  refine W_nil <| E_then <| C_ite rfl (fun hC1 => ?_) (fun hC1 => ?_)
  ·have hC1p : (i : Int) < (a0.length : Int) := by simpa using hC1
   refine C_skip <| E_then <| C_seq <| C_block <| C_seq <| C_fr [(0, .slice Aa0 a0.length ca0), (1, .slice Aa1 a1.length ca1), (5, .int .i64 (i : Int))] rfl ?_
   obtain ⟨q4, csq4, hAq4, rfl, hkq4⟩ := hra0.at_ (0 : Int) (i := (i : Int)) (by omega) (by omega)
   have hkq4 : ∀ (j_ : Nat) (u_ : Value), ([.int .i64 (a0.getD i (0 : Int))] : List Value)[j_]? = some u_ → cz z (q4.add (i * 1 + j_)) = some u_ := hkq4
   obtain ⟨q5, csq5, hAq5, rfl, hkq5⟩ := hra1.at_ (0 : Int) (i := (i : Int)) (by omega) (by omega)
   have hkq5 : ∀ (j_ : Nat) (u_ : Value), ([.int .i64 (a1.getD i (0 : Int))] : List Value)[j_]? = some u_ → cz z (q5.add (i * 1 + j_)) = some u_ := hkq5
   refine C_drawn 9 [[], [], [0, 1], [2], [], [], [4, 5], [6], [3, 7]] [17, 18, 19, 20, 21, 22, 23, 24, 25] [0, 1, 5] rfl (by kernel_rfl) (by decide +kernel) [fun v_ _ => v_ = .slice Aa0 a0.length ca0, fun v_ _ => v_ = .int .i64 (i : Int), fun v_ _ => v_ = .pointer (some (q4.add (i * 1))), fun v_ _ => v_ = .int .i64 (a0.getD i (0 : Int)), fun v_ _ => v_ = .slice Aa1 a1.length ca1, fun v_ _ => v_ = .int .i64 (i : Int), fun v_ _ => v_ = .pointer (some (q5.add (i * 1))), fun v_ _ => v_ = .int .i64 (a1.getD i (0 : Int)), fun v_ _ => v_ = .bool ((a0.getD i (0 : Int)) != (a1.getD i (0 : Int)))] ⟨fun _ _ _ h _ => h, ⟨fun _ _ _ h _ => h, ⟨fun _ _ _ h _ => h, ⟨fun _ _ _ h _ => h, ⟨fun _ _ _ h _ => h, ⟨fun _ _ _ h _ => h, ⟨fun _ _ _ h _ => h, ⟨fun _ _ _ h _ => h, ⟨fun _ _ _ h _ => h, trivial⟩⟩⟩⟩⟩⟩⟩⟩⟩ ⟨fun w2 hc3 => by have hS := hS.chg0 hc3; exact Sv_val rfl (R_move rfl rfl) ⟨Chg.refl _ _, rfl⟩, ⟨fun w2 hc3 => by have hS := hS.chg0 hc3; exact Sv_val rfl (R_move rfl rfl) ⟨Chg.refl _ _, rfl⟩, ⟨fun w2 hc3 => by have hS := hS.chg0 hc3; rintro _ rfl _ rfl; exact Sv_val rfl (R_idx rfl rfl hAq4 rfl Tryz.underlying26 size3 (by omega) (by omega)) ⟨Chg.refl _ _, rfl⟩, ⟨fun w2 hc3 => by have hS := hS.chg0 hc3; rintro _ rfl; exact Sv_val rfl (R_load1 rfl rfl agg3 (hS.sub.cell (hkq4 0 _ rfl))) ⟨Chg.refl _ _, rfl⟩, ⟨fun w2 hc3 => by have hS := hS.chg0 hc3; exact Sv_val rfl (R_move rfl rfl) ⟨Chg.refl _ _, rfl⟩, ⟨fun w2 hc3 => by have hS := hS.chg0 hc3; exact Sv_val rfl (R_move rfl rfl) ⟨Chg.refl _ _, rfl⟩, ⟨fun w2 hc3 => by have hS := hS.chg0 hc3; rintro _ rfl _ rfl; exact Sv_val rfl (R_idx rfl rfl hAq5 rfl Tryz.underlying26 size3 (by omega) (by omega)) ⟨Chg.refl _ _, rfl⟩, ⟨fun w2 hc3 => by have hS := hS.chg0 hc3; rintro _ rfl; exact Sv_val rfl (R_load1 rfl rfl agg3 (hS.sub.cell (hkq5 0 _ rfl))) ⟨Chg.refl _ _, rfl⟩, ⟨fun w2 hc3 => by have hS := hS.chg0 hc3; rintro _ rfl _ rfl; exact Sv_val rfl (R_bin rfl rfl rfl rfl rfl) ⟨Chg.refl _ _, rfl⟩, trivial⟩⟩⟩⟩⟩⟩⟩⟩⟩ ?_
   intro w2 hc3
   have hS := hS.chg0 hc3
   rintro _ rfl _ rfl _ rfl _ rfl _ rfl _ rfl _ rfl _ rfl _ rfl
   refine An_fr [(0, .slice Aa0 a0.length ca0), (1, .slice Aa1 a1.length ca1), (5, .int .i64 (i : Int)), (25, .bool ((a0.getD i (0 : Int)) != (a1.getD i (0 : Int))))] rfl ?_
   refine An_done (by decide +kernel) <| E_then <| C_ite rfl (fun hC2 => ?_) (fun hC2 => ?_)
   ·have hC2p : ¬ (a0.getD i (0 : Int)) = (a1.getD i (0 : Int)) := by simpa using hC2
    refine C_seq <| C_region <| wv rfl rfl rfl (R_assign rfl rfl) ?_
    refine W_nil <| E_then <| C_ret <| E_block_ret <| E_then_ret <| E_then_ret <| E_block_ret <| E_then_ret <| E_ret1 rfl rfl ?_
    exact ⟨Lret1 (Lbool (show false = (decide (a0 = a1)) by (exact (decide_eq_false (fun h_ => by subst h_; (exact absurd rfl (by assumption)))).symm))), hS.fin [] (by decide) rfl⟩
   ·have hC2p : (a0.getD i (0 : Int)) = (a1.getD i (0 : Int)) := by simpa using hC2
    refine C_skip <| E_block_normal <| E_then <| C_region <| wv rfl rfl rfl (R_move rfl rfl) <| wv rfl rfl rfl (R_add64 rfl rfl rfl (by omega) (by omega)) <| wv rfl rfl rfl (R_assign rfl rfl) ?_
    refine W_nil <| E_round [0, 1, 5] ?_ ⟨(i + 1 : Nat), rfl, (by omega), (by exact take_more (by omega) (by omega) hI0_1 (by assumption)), rfl, hS.fin [] (by decide) rfl⟩
    omega
  ·have hC1p : ¬ ((i : Int) < (a0.length : Int)) := by simpa using hC1
   refine C_exit <| E_then_exit <| E_then_exit <| E_block_hit ?_
   refine E_then (C_fr [] rfl ?_)
   refine C_seq <| C_region <| wv rfl rfl rfl (R_assign rfl rfl) ?_
   refine W_nil <| E_then <| C_ret <| E_ret1 rfl rfl ?_
   exact ⟨Lret1 (Lbool (show true = (decide (a0 = a1)) by exact (decide_eq_true (take_all (by omega) (by omega) hI0_1)).symm)), hS.fin [] (by decide) rfl⟩
theorem rects_calls (a0 : List TRect) (Aa0 : Option Addr) (ca0 : Nat) (a1 : List TRect) (Aa1 : Option Addr) (ca1 : Nat) (z : Z) (w : World) (hI : In z w []) (hra0 : Rd kdTRect z Aa0 a0) (hca0 : Cap Aa0 a0.length ca0) (hra1 : Rd kdTRect z Aa1 a1) (hca1 : Cap Aa1 a1.length ca1)  :
    Calls Tryz.prog 33 #[.slice Aa0 a0.length ca0, .slice Aa1 a1.length ca1] w fun e w' => e = .returned (.bool (decide (a0 = a1))) ∧ Sp (FF []) w z w' [] := by
 have hla0 := hca0.le
 have hma0 := hca0.mx
 have hla1 := hca1.le
 have hma1 := hca1.mx
 have hS := hI.sp
 refine Calls_of (vs := [.slice Aa0 a0.length ca0, .slice Aa1 a1.length ca1]) (N := 26) Tryz.func33 rfl rfl (Nat.le_of_ble_eq_true rfl) ?_
 refine C_seq <| C_region <| wv rfl rfl rfl (R_assign rfl rfl) ?_
 refine W_nil <| E_then <| C_seq <| C_seq <| C_region <| wv rfl rfl rfl (R_move rfl rfl) <| wv rfl rfl rfl (R_len rfl rfl Tryz.underlying28) <| wv rfl rfl rfl (R_move rfl rfl) <| wv rfl rfl rfl (R_len rfl rfl Tryz.underlying28) <| wv rfl rfl rfl (R_bin rfl rfl rfl rfl rfl) ?_
 refine W_nil <| E_then (C_fr [(0, .slice Aa0 a0.length ca0), (1, .slice Aa1 a1.length ca1), (10, .bool ((a0.length : Int) != (a1.length : Int)))] rfl ?_)
 refine C_ite rfl (fun hC0 => ?_) (fun hC0 => ?_)
 ·have hC0p : ¬ (a0.length : Int) = (a1.length : Int) := by simpa using hC0
  refine C_seq <| C_region <| wv rfl rfl rfl (R_assign rfl rfl) ?_
  refine W_nil <| E_then <| C_ret <| E_then_ret <| E_ret1 rfl rfl ?_
  exact ⟨Lret1 (Lbool (show false = (decide (a0 = a1)) by (exact (decide_eq_false (fun h_ => by subst h_; (exact absurd rfl (by assumption)))).symm))), hS.fin [] (by decide) rfl⟩
 ·have hC0p : (a0.length : Int) = (a1.length : Int) := by simpa using hC0
  refine C_skip <| E_then <| C_seq <| C_seq <| C_region <| wv rfl rfl rfl (R_assign rfl rfl) ?_
  refine W_nil <| E_then <| C_block <| C_fr [(0, .slice Aa0 a0.length ca0), (1, .slice Aa1 a1.length ca1), (5, .int .i64 0)] rfl ?_
  refine C_loop (fun m_ f_ w_ => ∃ (i : Nat), f_ = [(0, .slice Aa0 a0.length ca0), (1, .slice Aa1 a1.length ca1), (5, .int .i64 (i : Int))] ∧ i ≤ a0.length ∧ a0.take i = a1.take i ∧ m_ = a0.length - i ∧ Sp (FF []) w z w_ []) (a0.length - (0 : Nat)) ⟨(0 : Nat), rfl, (by omega), (by rfl), rfl, hS.fin [] (by decide) rfl⟩ ?_
  rintro m_ f_ w1 ⟨i, rfl, hI0_0, hI0_1, rfl, hS⟩
  refine C_seq <| C_seq <| C_region <| wv rfl rfl rfl (R_move rfl rfl) <| wv rfl rfl rfl (R_move rfl rfl) <| wv rfl rfl rfl (R_len rfl rfl Tryz.underlying28) <| wv rfl rfl rfl (R_bin rfl rfl rfl rfl rfl) ?_
  refine W_nil <| E_then <| C_ite rfl (fun hC1 => ?_) (fun hC1 => ?_)
  ·have hC1p : (i : Int) < (a0.length : Int) := by simpa using hC1
   refine C_skip <| E_then <| C_seq <| C_block <| C_seq <| C_fr [(0, .slice Aa0 a0.length ca0), (1, .slice Aa1 a1.length ca1), (5, .int .i64 (i : Int))] rfl ?_
   obtain ⟨q4, csq4, hAq4, rfl, hkq4⟩ := hra0.at_ (default : TRect) (i := (i : Int)) (by omega) (by omega)
   have hkq4 : ∀ (j_ : Nat) (u_ : Value), ([.int .i64 (a0.getD i (default : TRect)).Row, .int .i64 (a0.getD i (default : TRect)).Col, .int .i64 (a0.getD i (default : TRect)).Rows, .int .i64 (a0.getD i (default : TRect)).Cols] : List Value)[j_]? = some u_ → cz z (q4.add (i * 4 + j_)) = some u_ := hkq4
   obtain ⟨q5, csq5, hAq5, rfl, hkq5⟩ := hra1.at_ (default : TRect) (i := (i : Int)) (by omega) (by omega)
   have hkq5 : ∀ (j_ : Nat) (u_ : Value), ([.int .i64 (a1.getD i (default : TRect)).Row, .int .i64 (a1.getD i (default : TRect)).Col, .int .i64 (a1.getD i (default : TRect)).Rows, .int .i64 (a1.getD i (default : TRect)).Cols] : List Value)[j_]? = some u_ → cz z (q5.add (i * 4 + j_)) = some u_ := hkq5
   refine C_drawn 9 [[], [], [0, 1], [2], [], [], [4, 5], [6], [3, 7]] [17, 18, 19, 20, 21, 22, 23, 24, 25] [0, 1, 5] rfl (by kernel_rfl) (by decide +kernel) [fun v_ _ => v_ = .slice Aa0 a0.length ca0, fun v_ _ => v_ = .int .i64 (i : Int), fun v_ _ => v_ = .pointer (some (q4.add (i * 4))), fun v_ _ => v_ = .agg #[.int .i64 (a0.getD i (default : TRect)).Row, .int .i64 (a0.getD i (default : TRect)).Col, .int .i64 (a0.getD i (default : TRect)).Rows, .int .i64 (a0.getD i (default : TRect)).Cols], fun v_ _ => v_ = .slice Aa1 a1.length ca1, fun v_ _ => v_ = .int .i64 (i : Int), fun v_ _ => v_ = .pointer (some (q5.add (i * 4))), fun v_ _ => v_ = .agg #[.int .i64 (a1.getD i (default : TRect)).Row, .int .i64 (a1.getD i (default : TRect)).Col, .int .i64 (a1.getD i (default : TRect)).Rows, .int .i64 (a1.getD i (default : TRect)).Cols], fun v_ _ => v_ = .bool (!decide (a0.getD i (default : TRect) = a1.getD i (default : TRect)))] ⟨fun _ _ _ h _ => h, ⟨fun _ _ _ h _ => h, ⟨fun _ _ _ h _ => h, ⟨fun _ _ _ h _ => h, ⟨fun _ _ _ h _ => h, ⟨fun _ _ _ h _ => h, ⟨fun _ _ _ h _ => h, ⟨fun _ _ _ h _ => h, ⟨fun _ _ _ h _ => h, trivial⟩⟩⟩⟩⟩⟩⟩⟩⟩ ⟨fun w2 hc3 => by have hS := hS.chg0 hc3; exact Sv_val rfl (R_move rfl rfl) ⟨Chg.refl _ _, rfl⟩, ⟨fun w2 hc3 => by have hS := hS.chg0 hc3; exact Sv_val rfl (R_move rfl rfl) ⟨Chg.refl _ _, rfl⟩, ⟨fun w2 hc3 => by have hS := hS.chg0 hc3; rintro _ rfl _ rfl; exact Sv_val rfl (R_idx rfl rfl hAq4 rfl Tryz.underlying28 size76 (by omega) (by omega)) ⟨Chg.refl _ _, rfl⟩, ⟨fun w2 hc3 => by have hS := hS.chg0 hc3; rintro _ rfl; exact Sv_val rfl (R_loadN (cs := [.int .i64 (a0.getD i (default : TRect)).Row, .int .i64 (a0.getD i (default : TRect)).Col, .int .i64 (a0.getD i (default : TRect)).Rows, .int .i64 (a0.getD i (default : TRect)).Cols]) rfl rfl agg76 size76 rfl (fun j u h => cell_add (hS.sub.cell (hkq4 j u h)))) ⟨Chg.refl _ _, rfl⟩, ⟨fun w2 hc3 => by have hS := hS.chg0 hc3; exact Sv_val rfl (R_move rfl rfl) ⟨Chg.refl _ _, rfl⟩, ⟨fun w2 hc3 => by have hS := hS.chg0 hc3; exact Sv_val rfl (R_move rfl rfl) ⟨Chg.refl _ _, rfl⟩, ⟨fun w2 hc3 => by have hS := hS.chg0 hc3; rintro _ rfl _ rfl; exact Sv_val rfl (R_idx rfl rfl hAq5 rfl Tryz.underlying28 size76 (by omega) (by omega)) ⟨Chg.refl _ _, rfl⟩, ⟨fun w2 hc3 => by have hS := hS.chg0 hc3; rintro _ rfl; exact Sv_val rfl (R_loadN (cs := [.int .i64 (a1.getD i (default : TRect)).Row, .int .i64 (a1.getD i (default : TRect)).Col, .int .i64 (a1.getD i (default : TRect)).Rows, .int .i64 (a1.getD i (default : TRect)).Cols]) rfl rfl agg76 size76 rfl (fun j u h => cell_add (hS.sub.cell (hkq5 j u h)))) ⟨Chg.refl _ _, rfl⟩, ⟨fun w2 hc3 => by have hS := hS.chg0 hc3; rintro _ rfl _ rfl; exact Sv_val rfl (R_neqv rfl rfl rfl eqg76 ((eqv76 (a0.getD i (default : TRect)) (a1.getD i (default : TRect))).up 2)) ⟨Chg.refl _ _, rfl⟩, trivial⟩⟩⟩⟩⟩⟩⟩⟩⟩ ?_
   intro w2 hc3
   have hS := hS.chg0 hc3
   rintro _ rfl _ rfl _ rfl _ rfl _ rfl _ rfl _ rfl _ rfl _ rfl
   refine An_fr [(0, .slice Aa0 a0.length ca0), (1, .slice Aa1 a1.length ca1), (5, .int .i64 (i : Int)), (25, .bool (!decide (a0.getD i (default : TRect) = a1.getD i (default : TRect))))] rfl ?_
   refine An_done (by decide +kernel) <| E_then <| C_ite rfl (fun hC2 => ?_) (fun hC2 => ?_)
   ·have hC2p : ¬ a0.getD i (default : TRect) = a1.getD i (default : TRect) := by simpa using hC2
    refine C_seq <| C_region <| wv rfl rfl rfl (R_assign rfl rfl) ?_
    refine W_nil <| E_then <| C_ret <| E_block_ret <| E_then_ret <| E_then_ret <| E_block_ret <| E_then_ret <| E_ret1 rfl rfl ?_
    exact ⟨Lret1 (Lbool (show false = (decide (a0 = a1)) by (exact (decide_eq_false (fun h_ => by subst h_; (exact absurd rfl (by assumption)))).symm))), hS.fin [] (by decide) rfl⟩
   ·have hC2p : a0.getD i (default : TRect) = a1.getD i (default : TRect) := by simpa using hC2
    refine C_skip <| E_block_normal <| E_then <| C_region <| wv rfl rfl rfl (R_move rfl rfl) <| wv rfl rfl rfl (R_add64 rfl rfl rfl (by omega) (by omega)) <| wv rfl rfl rfl (R_assign rfl rfl) ?_
    refine W_nil <| E_round [0, 1, 5] ?_ ⟨(i + 1 : Nat), rfl, (by omega), (by exact take_more (by omega) (by omega) hI0_1 (by assumption)), rfl, hS.fin [] (by decide) rfl⟩
    omega
  ·have hC1p : ¬ ((i : Int) < (a0.length : Int)) := by simpa using hC1
   refine C_exit <| E_then_exit <| E_then_exit <| E_block_hit ?_
   refine E_then (C_fr [] rfl ?_)
   refine C_seq <| C_region <| wv rfl rfl rfl (R_assign rfl rfl) ?_
   refine W_nil <| E_then <| C_ret <| E_ret1 rfl rfl ?_
   exact ⟨Lret1 (Lbool (show true = (decide (a0 = a1)) by exact (decide_eq_true (take_all (by omega) (by omega) hI0_1)).symm)), hS.fin [] (by decide) rfl⟩
theorem rshsame_calls (a0 : TSheet) (Aa0_Widths : Option Addr) (ca0_Widths : Nat) (Aa0_Heights : Option Addr) (ca0_Heights : Nat) (Aa0_Cells : Option Addr) (ca0_Cells : Nat) (Aa0_Merges : Option Addr) (ca0_Merges : Nat) (a1 : TSheet) (Aa1_Widths : Option Addr) (ca1_Widths : Nat) (Aa1_Heights : Option Addr) (ca1_Heights : Nat) (Aa1_Cells : Option Addr) (ca1_Cells : Nat) (Aa1_Merges : Option Addr) (ca1_Merges : Nat) (z : Z) (w : World) (hI : In z w []) (hra0_Widths : Rd (kint .i64) z Aa0_Widths a0.Widths) (hca0_Widths : Cap Aa0_Widths a0.Widths.length ca0_Widths) (hra0_Heights : Rd (kint .i64) z Aa0_Heights a0.Heights) (hca0_Heights : Cap Aa0_Heights a0.Heights.length ca0_Heights) (hra0_Cells : Rd kdTCell z Aa0_Cells a0.Cells) (hca0_Cells : Cap Aa0_Cells a0.Cells.length ca0_Cells) (hra0_Merges : Rd kdTRect z Aa0_Merges a0.Merges) (hca0_Merges : Cap Aa0_Merges a0.Merges.length ca0_Merges) (hra1_Widths : Rd (kint .i64) z Aa1_Widths a1.Widths) (hca1_Widths : Cap Aa1_Widths a1.Widths.length ca1_Widths) (hra1_Heights : Rd (kint .i64) z Aa1_Heights a1.Heights) (hca1_Heights : Cap Aa1_Heights a1.Heights.length ca1_Heights) (hra1_Cells : Rd kdTCell z Aa1_Cells a1.Cells) (hca1_Cells : Cap Aa1_Cells a1.Cells.length ca1_Cells) (hra1_Merges : Rd kdTRect z Aa1_Merges a1.Merges) (hca1_Merges : Cap Aa1_Merges a1.Merges.length ca1_Merges)  :
    Calls Tryz.prog 13 #[.agg #[.int .i64 a0.Right, .slice Aa0_Widths a0.Widths.length ca0_Widths, .slice Aa0_Heights a0.Heights.length ca0_Heights, .slice Aa0_Cells a0.Cells.length ca0_Cells, .slice Aa0_Merges a0.Merges.length ca0_Merges], .agg #[.int .i64 a1.Right, .slice Aa1_Widths a1.Widths.length ca1_Widths, .slice Aa1_Heights a1.Heights.length ca1_Heights, .slice Aa1_Cells a1.Cells.length ca1_Cells, .slice Aa1_Merges a1.Merges.length ca1_Merges]] w fun e w' => e = .returned (.bool (decide (a0 = a1))) ∧ Sp (FF []) w z w' [] := by
 have hla0_Widths := hca0_Widths.le
 have hma0_Widths := hca0_Widths.mx
 have hla0_Heights := hca0_Heights.le
 have hma0_Heights := hca0_Heights.mx
 have hla0_Cells := hca0_Cells.le
 have hma0_Cells := hca0_Cells.mx
 have hla0_Merges := hca0_Merges.le
 have hma0_Merges := hca0_Merges.mx
 have hla1_Widths := hca1_Widths.le
 have hma1_Widths := hca1_Widths.mx
 have hla1_Heights := hca1_Heights.le
 have hma1_Heights := hca1_Heights.mx
 have hla1_Cells := hca1_Cells.le
 have hma1_Cells := hca1_Cells.mx
 have hla1_Merges := hca1_Merges.le
 have hma1_Merges := hca1_Merges.mx
 have hS := hI.sp
 refine Calls_of (vs := [.agg #[.int .i64 a0.Right, .slice Aa0_Widths a0.Widths.length ca0_Widths, .slice Aa0_Heights a0.Heights.length ca0_Heights, .slice Aa0_Cells a0.Cells.length ca0_Cells, .slice Aa0_Merges a0.Merges.length ca0_Merges], .agg #[.int .i64 a1.Right, .slice Aa1_Widths a1.Widths.length ca1_Widths, .slice Aa1_Heights a1.Heights.length ca1_Heights, .slice Aa1_Cells a1.Cells.length ca1_Cells, .slice Aa1_Merges a1.Merges.length ca1_Merges]]) (N := 62) Tryz.func13 rfl rfl (Nat.le_of_ble_eq_true rfl) ?_
 refine C_seq <| C_region <| W_cons rfl (by decide) (S_box hS rfl (R_box (cs := [.int .i64 a0.Right, .slice Aa0_Widths a0.Widths.length ca0_Widths, .slice Aa0_Heights a0.Heights.length ca0_Heights, .slice Aa0_Cells a0.Cells.length ca0_Cells, .slice Aa0_Merges a0.Merges.length ca0_Merges]) rfl rfl rfl) (fun b2 w1 hS => ?_))
 refine W_cons rfl (by decide) (S_box hS rfl (R_box (cs := [.int .i64 a1.Right, .slice Aa1_Widths a1.Widths.length ca1_Widths, .slice Aa1_Heights a1.Heights.length ca1_Heights, .slice Aa1_Cells a1.Cells.length ca1_Cells, .slice Aa1_Merges a1.Merges.length ca1_Merges]) rfl rfl rfl) (fun b4 w3 hS => ?_))
 refine wv rfl rfl rfl (R_assign rfl rfl) ?_
 refine W_nil <| E_then <| C_seq <| C_seq <| C_region <| wv rfl rfl rfl (R_fld rfl rfl fld30_0) <| wv rfl rfl rfl (R_load1 rfl rfl agg3 ((hS.bx 1 rfl).cell rfl)) <| wv rfl rfl rfl (R_fld rfl rfl fld30_0) <| wv rfl rfl rfl (R_load1 rfl rfl agg3 ((hS.bx 0 rfl).cell rfl)) <| wv rfl rfl rfl (R_bin rfl rfl rfl rfl rfl) <| wv rfl rfl rfl (R_move rfl rfl) <| wg rfl rfl (Gd.no rfl rfl rfl) (fun hB => R_fld rfl rfl fld30_1) <| wg rfl rfl (Gd.no rfl rfl rfl) (fun hB => Runs.at_ (i := 12) (gl rfl hB) (R_load1 rfl rfl agg26 ((hS.bx 1 rfl).cell rfl))) <| wg rfl rfl (Gd.no rfl rfl rfl) (fun hB => R_fld rfl rfl fld30_1) <| wg rfl rfl (Gd.no rfl rfl rfl) (fun hB => Runs.at_ (i := 14) (gl rfl hB) (R_load1 rfl rfl agg26 ((hS.bx 0 rfl).cell rfl))) ?_
 refine W_cons rfl (by decide) (Sv_gcall (Gd.no rfl rfl rfl) hS (fun hB => Sv.at_ (i := 15) (gl rfl hB) (Sv.at_ (i := 13) (gl rfl hB) (Sv_call rfl rfl rfl ent32 ((numbers_calls a0.Widths Aa0_Widths ca0_Widths a1.Widths Aa1_Widths ca1_Widths _ _ hS.out0 (hra0_Widths.mono (hS.zl [])) hca0_Widths (hra1_Widths.mono (hS.zl [])) hca1_Widths ).mono (fun _ _ h_ => ⟨_, h_.1, rfl, hS.call0 h_.2⟩))))) (fun w5 hS => ?_))
 refine wg rfl rfl (Gd.no rfl rfl rfl) (fun hB => Runs.at_ (i := 16) (gl rfl hB) (R_un rfl rfl rfl)) <| wv rfl rfl rfl (R_pick_or rfl rfl rfl rfl) <| wv rfl rfl rfl (R_move rfl rfl) <| wg rfl rfl (Gd.no rfl rfl rfl) (fun hB => R_fld rfl rfl fld30_2) <| wg rfl rfl (Gd.no rfl rfl rfl) (fun hB => Runs.at_ (i := 20) (gl rfl hB) (R_load1 rfl rfl agg26 ((hS.bx 1 rfl).cell rfl))) <| wg rfl rfl (Gd.no rfl rfl rfl) (fun hB => R_fld rfl rfl fld30_2) <| wg rfl rfl (Gd.no rfl rfl rfl) (fun hB => Runs.at_ (i := 22) (gl rfl hB) (R_load1 rfl rfl agg26 ((hS.bx 0 rfl).cell rfl))) ?_
 refine W_cons rfl (by decide) (Sv_gcall (Gd.no rfl rfl rfl) hS (fun hB => Sv.at_ (i := 23) (gl rfl hB) (Sv.at_ (i := 21) (gl rfl hB) (Sv_call rfl rfl rfl ent32 ((numbers_calls a0.Heights Aa0_Heights ca0_Heights a1.Heights Aa1_Heights ca1_Heights _ _ hS.out0 (hra0_Heights.mono (hS.zl [])) hca0_Heights (hra1_Heights.mono (hS.zl [])) hca1_Heights ).mono (fun _ _ h_ => ⟨_, h_.1, rfl, hS.call0 h_.2⟩))))) (fun w6 hS => ?_))
 refine wg rfl rfl (Gd.no rfl rfl rfl) (fun hB => Runs.at_ (i := 24) (gl rfl hB) (R_un rfl rfl rfl)) <| wv rfl rfl rfl (R_pick_or rfl rfl rfl rfl) <| wv rfl rfl rfl (R_move rfl rfl) <| wg rfl rfl (Gd.no rfl rfl rfl) (fun hB => R_fld rfl rfl fld30_3) <| wg rfl rfl (Gd.no rfl rfl rfl) (fun hB => Runs.at_ (i := 28) (gl rfl hB) (R_load1 rfl rfl agg27 ((hS.bx 1 rfl).cell rfl))) <| wg rfl rfl (Gd.no rfl rfl rfl) (fun hB => Runs.at_ (i := 29) (gl rfl hB) (R_len rfl rfl Tryz.underlying27)) <| wg rfl rfl (Gd.no rfl rfl rfl) (fun hB => R_fld rfl rfl fld30_3) <| wg rfl rfl (Gd.no rfl rfl rfl) (fun hB => Runs.at_ (i := 31) (gl rfl hB) (R_load1 rfl rfl agg27 ((hS.bx 0 rfl).cell rfl))) <| wg rfl rfl (Gd.no rfl rfl rfl) (fun hB => Runs.at_ (i := 32) (gl rfl hB) (R_len rfl rfl Tryz.underlying27)) <| wg rfl rfl (Gd.no rfl rfl rfl) (fun hB => Runs.at_ (i := 33) (gl rfl hB) (Runs.at_ (i := 30) (gl rfl hB) (R_bin rfl rfl rfl rfl rfl))) <| wv rfl rfl rfl (R_pick_or rfl rfl rfl rfl) <| wv rfl rfl rfl (R_move rfl rfl) <| wg rfl rfl (Gd.no rfl rfl rfl) (fun hB => R_fld rfl rfl fld30_4) <| wg rfl rfl (Gd.no rfl rfl rfl) (fun hB => Runs.at_ (i := 37) (gl rfl hB) (R_load1 rfl rfl agg28 ((hS.bx 1 rfl).cell rfl))) <| wg rfl rfl (Gd.no rfl rfl rfl) (fun hB => R_fld rfl rfl fld30_4) <| wg rfl rfl (Gd.no rfl rfl rfl) (fun hB => Runs.at_ (i := 39) (gl rfl hB) (R_load1 rfl rfl agg28 ((hS.bx 0 rfl).cell rfl))) ?_
 refine W_cons rfl (by decide) (Sv_gcall (Gd.no rfl rfl rfl) hS (fun hB => Sv.at_ (i := 40) (gl rfl hB) (Sv.at_ (i := 38) (gl rfl hB) (Sv_call rfl rfl rfl ent33 ((rects_calls a0.Merges Aa0_Merges ca0_Merges a1.Merges Aa1_Merges ca1_Merges _ _ hS.out0 (hra0_Merges.mono (hS.zl [])) hca0_Merges (hra1_Merges.mono (hS.zl [])) hca1_Merges ).mono (fun _ _ h_ => ⟨_, h_.1, rfl, hS.call0 h_.2⟩))))) (fun w7 hS => ?_))
 refine wg rfl rfl (Gd.no rfl rfl rfl) (fun hB => Runs.at_ (i := 41) (gl rfl hB) (R_un rfl rfl rfl)) <| wv rfl rfl rfl (R_pick_or rfl rfl rfl rfl) ?_
 refine W_nil <| E_then (C_fr [(2, .pointer (some ⟨b2, 0, none⟩)), (3, .pointer (some ⟨b4, 0, none⟩)), (43, .bool (((((a0.Right != a1.Right) || (!(decide (a0.Widths = a1.Widths)))) || (!(decide (a0.Heights = a1.Heights)))) || ((a0.Cells.length : Int) != (a1.Cells.length : Int))) || (!(decide (a0.Merges = a1.Merges)))))] rfl ?_)
 refine C_ite rfl (fun hC0 => ?_) (fun hC0 => ?_)
 ·have hC0p : ((((¬ a0.Right = a1.Right ∨ ¬ (decide (a0.Widths = a1.Widths) = true)) ∨ ¬ (decide (a0.Heights = a1.Heights) = true)) ∨ ¬ (a0.Cells.length : Int) = (a1.Cells.length : Int)) ∨ ¬ (decide (a0.Merges = a1.Merges) = true)) := by simpa using hC0
  refine C_seq <| C_region <| wv rfl rfl rfl (R_assign rfl rfl) ?_
  refine W_nil <| E_then <| C_ret <| E_then_ret <| E_ret1 rfl rfl ?_
  exact ⟨Lret1 (Lbool (show false = (decide (a0 = a1)) by (exact (decide_eq_false (fun h_ => by subst h_; simp_all)).symm))), hS.fin [] (by decide) rfl⟩
 ·have hC0p : ¬ (((((¬ a0.Right = a1.Right ∨ ¬ (decide (a0.Widths = a1.Widths) = true)) ∨ ¬ (decide (a0.Heights = a1.Heights) = true)) ∨ ¬ (a0.Cells.length : Int) = (a1.Cells.length : Int)) ∨ ¬ (decide (a0.Merges = a1.Merges) = true))) := by simpa using hC0
  refine C_skip <| E_then <| C_seq <| C_seq <| C_region <| wv rfl rfl rfl (R_assign rfl rfl) ?_
  refine W_nil <| E_then <| C_block <| C_fr [(2, .pointer (some ⟨b2, 0, none⟩)), (3, .pointer (some ⟨b4, 0, none⟩)), (5, .int .i64 0)] rfl ?_
  refine C_loop (fun m_ f_ w_ => ∃ (i : Nat), f_ = [(2, .pointer (some ⟨b2, 0, none⟩)), (3, .pointer (some ⟨b4, 0, none⟩)), (5, .int .i64 (i : Int))] ∧ i ≤ a0.Cells.length ∧ a0.Cells.take i = a1.Cells.take i ∧ m_ = a0.Cells.length - i ∧ Sp (FF []) w z w_ [bR b2 30 [.int .i64 a0.Right, .slice Aa0_Widths a0.Widths.length ca0_Widths, .slice Aa0_Heights a0.Heights.length ca0_Heights, .slice Aa0_Cells a0.Cells.length ca0_Cells, .slice Aa0_Merges a0.Merges.length ca0_Merges], bR b4 30 [.int .i64 a1.Right, .slice Aa1_Widths a1.Widths.length ca1_Widths, .slice Aa1_Heights a1.Heights.length ca1_Heights, .slice Aa1_Cells a1.Cells.length ca1_Cells, .slice Aa1_Merges a1.Merges.length ca1_Merges]]) (a0.Cells.length - (0 : Nat)) ⟨(0 : Nat), rfl, (by omega), (by rfl), rfl, hS.fin [1, 0] (by decide) rfl⟩ ?_
  rintro m_ f_ w8 ⟨i, rfl, hI0_0, hI0_1, rfl, hS⟩
  refine C_seq <| C_seq <| C_region <| wv rfl rfl rfl (R_move rfl rfl) <| wv rfl rfl rfl (R_fld rfl rfl fld30_3) <| wv rfl rfl rfl (R_load1 rfl rfl agg27 ((hS.bx 0 rfl).cell rfl)) <| wv rfl rfl rfl (R_len rfl rfl Tryz.underlying27) <| wv rfl rfl rfl (R_bin rfl rfl rfl rfl rfl) ?_
  refine W_nil <| E_then <| C_ite rfl (fun hC1 => ?_) (fun hC1 => ?_)
  ·have hC1p : (i : Int) < (a0.Cells.length : Int) := by simpa using hC1
   refine C_skip <| E_then (C_fr [(2, .pointer (some ⟨b2, 0, none⟩)), (3, .pointer (some ⟨b4, 0, none⟩)), (5, .int .i64 (i : Int))] rfl ?_)
   refine C_seq <| C_block <| C_seq <| C_fr [(2, .pointer (some ⟨b2, 0, none⟩)), (3, .pointer (some ⟨b4, 0, none⟩)), (5, .int .i64 (i : Int))] rfl ?_
   obtain ⟨q11, csq11, hAq11, rfl, hkq11⟩ := hra0_Cells.at_ (default : TCell) (i := (i : Int)) (by omega) (by omega)
   have hkq11 : ∀ (j_ : Nat) (u_ : Value), ([.int .i64 (a0.Cells.getD i (default : TCell)).Row, .int .i64 (a0.Cells.getD i (default : TCell)).Col, vstr (a0.Cells.getD i (default : TCell)).Text, .int .i64 (a0.Cells.getD i (default : TCell)).Style.Align, .int .i64 (a0.Cells.getD i (default : TCell)).Style.Wrap, .int .i64 (a0.Cells.getD i (default : TCell)).Style.Dir] : List Value)[j_]? = some u_ → cz z (q11.add (i * 6 + j_)) = some u_ := hkq11
   obtain ⟨q12, csq12, hAq12, rfl, hkq12⟩ := hra1_Cells.at_ (default : TCell) (i := (i : Int)) (by omega) (by omega)
   have hkq12 : ∀ (j_ : Nat) (u_ : Value), ([.int .i64 (a1.Cells.getD i (default : TCell)).Row, .int .i64 (a1.Cells.getD i (default : TCell)).Col, vstr (a1.Cells.getD i (default : TCell)).Text, .int .i64 (a1.Cells.getD i (default : TCell)).Style.Align, .int .i64 (a1.Cells.getD i (default : TCell)).Style.Wrap, .int .i64 (a1.Cells.getD i (default : TCell)).Style.Dir] : List Value)[j_]? = some u_ → cz z (q12.add (i * 6 + j_)) = some u_ := hkq12
   refine C_drawn 11 [[], [0], [], [1, 2], [3], [], [5], [], [6, 7], [8], [4, 9]] [51, 52, 53, 54, 55, 56, 57, 58, 59, 60, 61] [2, 3, 5] rfl (by kernel_rfl) (by decide +kernel) [fun v_ _ => v_ = .pointer (some ⟨b2, 3, none⟩), fun v_ _ => v_ = .slice Aa0_Cells a0.Cells.length ca0_Cells, fun v_ _ => v_ = .int .i64 (i : Int), fun v_ _ => v_ = .pointer (some (q11.add (i * 6))), fun v_ _ => v_ = .agg #[.int .i64 (a0.Cells.getD i (default : TCell)).Row, .int .i64 (a0.Cells.getD i (default : TCell)).Col, vstr (a0.Cells.getD i (default : TCell)).Text, .int .i64 (a0.Cells.getD i (default : TCell)).Style.Align, .int .i64 (a0.Cells.getD i (default : TCell)).Style.Wrap, .int .i64 (a0.Cells.getD i (default : TCell)).Style.Dir], fun v_ _ => v_ = .pointer (some ⟨b4, 3, none⟩), fun v_ _ => v_ = .slice Aa1_Cells a1.Cells.length ca1_Cells, fun v_ _ => v_ = .int .i64 (i : Int), fun v_ _ => v_ = .pointer (some (q12.add (i * 6))), fun v_ _ => v_ = .agg #[.int .i64 (a1.Cells.getD i (default : TCell)).Row, .int .i64 (a1.Cells.getD i (default : TCell)).Col, vstr (a1.Cells.getD i (default : TCell)).Text, .int .i64 (a1.Cells.getD i (default : TCell)).Style.Align, .int .i64 (a1.Cells.getD i (default : TCell)).Style.Wrap, .int .i64 (a1.Cells.getD i (default : TCell)).Style.Dir], fun v_ _ => v_ = .bool (!decide (a0.Cells.getD i (default : TCell) = a1.Cells.getD i (default : TCell)))] ⟨fun _ _ _ h _ => h, ⟨fun _ _ _ h _ => h, ⟨fun _ _ _ h _ => h, ⟨fun _ _ _ h _ => h, ⟨fun _ _ _ h _ => h, ⟨fun _ _ _ h _ => h, ⟨fun _ _ _ h _ => h, ⟨fun _ _ _ h _ => h, ⟨fun _ _ _ h _ => h, ⟨fun _ _ _ h _ => h, ⟨fun _ _ _ h _ => h, trivial⟩⟩⟩⟩⟩⟩⟩⟩⟩⟩⟩ ⟨fun w9 hc10 => by have hS := hS.chg0 hc10; exact Sv_val rfl (R_fld rfl rfl fld30_3) ⟨Chg.refl _ _, rfl⟩, ⟨fun w9 hc10 => by have hS := hS.chg0 hc10; rintro _ rfl; exact Sv_val rfl (R_load1 rfl rfl agg27 ((hS.bx 0 rfl).cell rfl)) ⟨Chg.refl _ _, rfl⟩, ⟨fun w9 hc10 => by have hS := hS.chg0 hc10; exact Sv_val rfl (R_move rfl rfl) ⟨Chg.refl _ _, rfl⟩, ⟨fun w9 hc10 => by have hS := hS.chg0 hc10; rintro _ rfl _ rfl; exact Sv_val rfl (R_idx rfl rfl hAq11 rfl Tryz.underlying27 size58 (by omega) (by omega)) ⟨Chg.refl _ _, rfl⟩, ⟨fun w9 hc10 => by have hS := hS.chg0 hc10; rintro _ rfl; exact Sv_val rfl (R_loadN (cs := [.int .i64 (a0.Cells.getD i (default : TCell)).Row, .int .i64 (a0.Cells.getD i (default : TCell)).Col, vstr (a0.Cells.getD i (default : TCell)).Text, .int .i64 (a0.Cells.getD i (default : TCell)).Style.Align, .int .i64 (a0.Cells.getD i (default : TCell)).Style.Wrap, .int .i64 (a0.Cells.getD i (default : TCell)).Style.Dir]) rfl rfl agg58 size58 rfl (fun j u h => cell_add (hS.sub.cell (hkq11 j u h)))) ⟨Chg.refl _ _, rfl⟩, ⟨fun w9 hc10 => by have hS := hS.chg0 hc10; exact Sv_val rfl (R_fld rfl rfl fld30_3) ⟨Chg.refl _ _, rfl⟩, ⟨fun w9 hc10 => by have hS := hS.chg0 hc10; rintro _ rfl; exact Sv_val rfl (R_load1 rfl rfl agg27 ((hS.bx 1 rfl).cell rfl)) ⟨Chg.refl _ _, rfl⟩, ⟨fun w9 hc10 => by have hS := hS.chg0 hc10; exact Sv_val rfl (R_move rfl rfl) ⟨Chg.refl _ _, rfl⟩, ⟨fun w9 hc10 => by have hS := hS.chg0 hc10; rintro _ rfl _ rfl; exact Sv_val rfl (R_idx rfl rfl hAq12 rfl Tryz.underlying27 size58 (by omega) (by omega)) ⟨Chg.refl _ _, rfl⟩, ⟨fun w9 hc10 => by have hS := hS.chg0 hc10; rintro _ rfl; exact Sv_val rfl (R_loadN (cs := [.int .i64 (a1.Cells.getD i (default : TCell)).Row, .int .i64 (a1.Cells.getD i (default : TCell)).Col, vstr (a1.Cells.getD i (default : TCell)).Text, .int .i64 (a1.Cells.getD i (default : TCell)).Style.Align, .int .i64 (a1.Cells.getD i (default : TCell)).Style.Wrap, .int .i64 (a1.Cells.getD i (default : TCell)).Style.Dir]) rfl rfl agg58 size58 rfl (fun j u h => cell_add (hS.sub.cell (hkq12 j u h)))) ⟨Chg.refl _ _, rfl⟩, ⟨fun w9 hc10 => by have hS := hS.chg0 hc10; rintro _ rfl _ rfl; exact Sv_val rfl (R_neqv rfl rfl rfl eqg58 ((eqv58 (a0.Cells.getD i (default : TCell)) (a1.Cells.getD i (default : TCell))).up 1)) ⟨Chg.refl _ _, rfl⟩, trivial⟩⟩⟩⟩⟩⟩⟩⟩⟩⟩⟩ ?_
   intro w9 hc10
   have hS := hS.chg0 hc10
   rintro _ rfl _ rfl _ rfl _ rfl _ rfl _ rfl _ rfl _ rfl _ rfl _ rfl _ rfl
   refine An_fr [(2, .pointer (some ⟨b2, 0, none⟩)), (3, .pointer (some ⟨b4, 0, none⟩)), (5, .int .i64 (i : Int)), (61, .bool (!decide (a0.Cells.getD i (default : TCell) = a1.Cells.getD i (default : TCell))))] rfl ?_
   refine An_done (by decide +kernel) <| E_then <| C_ite rfl (fun hC2 => ?_) (fun hC2 => ?_)
   ·have hC2p : ¬ a0.Cells.getD i (default : TCell) = a1.Cells.getD i (default : TCell) := by simpa using hC2
    refine C_seq <| C_region <| wv rfl rfl rfl (R_assign rfl rfl) ?_
    refine W_nil <| E_then <| C_ret <| E_block_ret <| E_then_ret <| E_then_ret <| E_block_ret <| E_then_ret <| E_ret1 rfl rfl ?_
    exact ⟨Lret1 (Lbool (show false = (decide (a0 = a1)) by (exact (decide_eq_false (fun h_ => by subst h_; (exact absurd rfl (by assumption)))).symm))), hS.fin [] (by decide) rfl⟩
   ·have hC2p : a0.Cells.getD i (default : TCell) = a1.Cells.getD i (default : TCell) := by simpa using hC2
    refine C_skip <| E_block_normal <| E_then <| C_region <| wv rfl rfl rfl (R_move rfl rfl) <| wv rfl rfl rfl (R_add64 rfl rfl rfl (by omega) (by omega)) <| wv rfl rfl rfl (R_assign rfl rfl) ?_
    refine W_nil <| E_round [2, 3, 5] ?_ ⟨(i + 1 : Nat), rfl, (by omega), (by exact take_more (by omega) (by omega) hI0_1 (by assumption)), rfl, hS.fin [0, 1] (by decide) rfl⟩
    omega
  ·have hC1p : ¬ ((i : Int) < (a0.Cells.length : Int)) := by simpa using hC1
   refine C_exit <| E_then_exit <| E_then_exit <| E_block_hit ?_
   refine E_then (C_fr [] rfl ?_)
   refine C_seq <| C_region <| wv rfl rfl rfl (R_assign rfl rfl) ?_
   refine W_nil <| E_then <| C_ret <| E_ret1 rfl rfl ?_
   exact ⟨Lret1 (Lbool (show true = (decide (a0 = a1)) by exact sh_yes (by omega) (by simp_all) (by simp_all) (take_all (by omega) (by omega) hI0_1) (by simp_all))), hS.fin [] (by decide) rfl⟩
theorem rshown_calls (a0 : TSheet) (Aa0_Widths : Option Addr) (ca0_Widths : Nat) (Aa0_Heights : Option Addr) (ca0_Heights : Nat) (Aa0_Cells : Option Addr) (ca0_Cells : Nat) (Aa0_Merges : Option Addr) (ca0_Merges : Nat) (z : Z) (w : World) (hI : In z w []) (hra0_Widths : Rd (kint .i64) z Aa0_Widths a0.Widths) (hca0_Widths : Cap Aa0_Widths a0.Widths.length ca0_Widths) (hra0_Heights : Rd (kint .i64) z Aa0_Heights a0.Heights) (hca0_Heights : Cap Aa0_Heights a0.Heights.length ca0_Heights) (hra0_Cells : Rd kdTCell z Aa0_Cells a0.Cells) (hca0_Cells : Cap Aa0_Cells a0.Cells.length ca0_Cells) (hra0_Merges : Rd kdTRect z Aa0_Merges a0.Merges) (hca0_Merges : Cap Aa0_Merges a0.Merges.length ca0_Merges) (p0 : a0.Widths.length * 8 ≤ 140737488355328 ∧ a0.Heights.length * 8 ≤ 140737488355328 ∧ a0.Cells.length * 56 ≤ 140737488355328 ∧ a0.Merges.length * 32 ≤ 140737488355328) :
    Calls Tryz.prog 16 #[.agg #[.int .i64 a0.Right, .slice Aa0_Widths a0.Widths.length ca0_Widths, .slice Aa0_Heights a0.Heights.length ca0_Heights, .slice Aa0_Cells a0.Cells.length ca0_Cells, .slice Aa0_Merges a0.Merges.length ca0_Merges]] w fun e w' => ∃ (AR0_Widths : Option Addr) (cR0_Widths : Nat) (AR0_Heights : Option Addr) (cR0_Heights : Nat) (AR0_Cells : Option Addr) (cR0_Cells : Nat) (AR0_Merges : Option Addr) (cR0_Merges : Nat), e = .returned (.agg #[.int .i64 a0.Right, .slice AR0_Widths a0.Widths.length cR0_Widths, .slice AR0_Heights a0.Heights.length cR0_Heights, .slice AR0_Cells a0.Cells.length cR0_Cells, .slice AR0_Merges a0.Merges.length cR0_Merges]) ∧ Sp (FF []) w z w' [oR (kint .i64) 3 zE AR0_Widths cR0_Widths a0.Widths, oR (kint .i64) 3 zE AR0_Heights cR0_Heights a0.Heights, oR kdTCell 58 zE AR0_Cells cR0_Cells a0.Cells, oR kdTRect 76 zE AR0_Merges cR0_Merges a0.Merges] := by
 have hla0_Widths := hca0_Widths.le
 have hma0_Widths := hca0_Widths.mx
 have hla0_Heights := hca0_Heights.le
 have hma0_Heights := hca0_Heights.mx
 have hla0_Cells := hca0_Cells.le
 have hma0_Cells := hca0_Cells.mx
 have hla0_Merges := hca0_Merges.le
 have hma0_Merges := hca0_Merges.mx
 have hS := hI.sp
 refine Calls_of (vs := [.agg #[.int .i64 a0.Right, .slice Aa0_Widths a0.Widths.length ca0_Widths, .slice Aa0_Heights a0.Heights.length ca0_Heights, .slice Aa0_Cells a0.Cells.length ca0_Cells, .slice Aa0_Merges a0.Merges.length ca0_Merges]]) (N := 22) Tryz.func16 rfl rfl (Nat.le_of_ble_eq_true rfl) ?_
 refine C_seq <| C_region <| W_cons rfl (by decide) (S_box hS rfl (R_box (cs := [.int .i64 a0.Right, .slice Aa0_Widths a0.Widths.length ca0_Widths, .slice Aa0_Heights a0.Heights.length ca0_Heights, .slice Aa0_Cells a0.Cells.length ca0_Cells, .slice Aa0_Merges a0.Merges.length ca0_Merges]) rfl rfl rfl) (fun b2 w1 hS => ?_))
 refine W_cons rfl (by decide) (S_box hS rfl (R_alloc rfl alloc30) (fun b4 w3 hS => ?_))
 refine W_nil <| E_then <| C_seq <| C_fr [(1, .pointer (some ⟨b2, 0, none⟩)), (2, .pointer (some ⟨b4, 0, none⟩))] rfl ?_
 refine C_drawn2 20 [[], [0], [], [], [3], [2, 4], [], [], [7], [6, 8, 5], [], [], [11], [10, 12, 9], [], [], [15], [14, 16, 13]] [some 3, some 4, some 5, some 6, some 7, some 8, some 9, some 10, some 11, some 12, some 13, some 14, some 15, some 16, some 17, some 18, some 19, some 20] [1, 2] [18, 18, 5, 18, 18, 18, 9, 18, 18, 18, 13, 18, 18, 18, 17, 18, 18, 18] [[], [], [], [], [], [2], [], [], [], [6], [], [], [], [10], [], [], [], [14]] (List.replicate 18 []) [fun γ_ => .pointer (some ⟨b2, 0, none⟩), fun γ_ => .int .i64 a0.Right, fun γ_ => .slice (γ_.a 0) ([] : List Int).length 0, fun γ_ => .pointer (some ⟨b2, 1, none⟩), fun γ_ => .slice Aa0_Widths a0.Widths.length ca0_Widths, fun γ_ => .slice (γ_.a 0) (([] : List Int) ++ a0.Widths).length (γ_.c 0), fun γ_ => .slice (γ_.a 0) ([] : List Int).length 0, fun γ_ => .pointer (some ⟨b2, 2, none⟩), fun γ_ => .slice Aa0_Heights a0.Heights.length ca0_Heights, fun γ_ => .slice (γ_.a 0) (([] : List Int) ++ a0.Heights).length (γ_.c 0), fun γ_ => .slice (γ_.a 0) ([] : List TCell).length 0, fun γ_ => .pointer (some ⟨b2, 3, none⟩), fun γ_ => .slice Aa0_Cells a0.Cells.length ca0_Cells, fun γ_ => .slice (γ_.a 0) (([] : List TCell) ++ a0.Cells).length (γ_.c 0), fun γ_ => .slice (γ_.a 0) ([] : List TRect).length 0, fun γ_ => .pointer (some ⟨b2, 4, none⟩), fun γ_ => .slice Aa0_Merges a0.Merges.length ca0_Merges, fun γ_ => .slice (γ_.a 0) (([] : List TRect) ++ a0.Merges).length (γ_.c 0)] [fun γ_ => [], fun γ_ => [], fun γ_ => [oR (kint .i64) 3 zE (γ_.a 0) 0 ([] : List Int)], fun γ_ => [], fun γ_ => [], fun γ_ => [oR (kint .i64) 3 zE (γ_.a 0) (γ_.c 0) (([] : List Int) ++ a0.Widths)], fun γ_ => [oR (kint .i64) 3 zE (γ_.a 0) 0 ([] : List Int)], fun γ_ => [], fun γ_ => [], fun γ_ => [oR (kint .i64) 3 zE (γ_.a 0) (γ_.c 0) (([] : List Int) ++ a0.Heights)], fun γ_ => [oR kdTCell 58 zE (γ_.a 0) 0 ([] : List TCell)], fun γ_ => [], fun γ_ => [], fun γ_ => [oR kdTCell 58 zE (γ_.a 0) (γ_.c 0) (([] : List TCell) ++ a0.Cells)], fun γ_ => [oR kdTRect 76 zE (γ_.a 0) 0 ([] : List TRect)], fun γ_ => [], fun γ_ => [], fun γ_ => [oR kdTRect 76 zE (γ_.a 0) (γ_.c 0) (([] : List TRect) ++ a0.Merges)]] rfl (by kernel_rfl) (by decide +kernel) hS ?_ ?_
 ·refine ⟨fun _ _ _ hS => Sv_val rfl (R_fld rfl rfl fld30_0) ⟨gh0, rfl, hS⟩, fun _ _ _ hS => Sv_val rfl (R_load1 rfl rfl agg3 ((hS.bx 1 rfl).cell rfl)) ⟨gh0, rfl, hS⟩, fun g_ w29 fr30 hS => ?_, ?_⟩
  ·have _w29 := trivial
   have hS : Sp (FF []) w z w29 [bR b4 30 [.int .i64 0, .slice none 0 0, .slice none 0 0, .slice none 0 0, .slice none 0 0], bR b2 30 [.int .i64 a0.Right, .slice Aa0_Widths a0.Widths.length ca0_Widths, .slice Aa0_Heights a0.Heights.length ca0_Heights, .slice Aa0_Cells a0.Cells.length ca0_Cells, .slice Aa0_Merges a0.Merges.length ca0_Merges], allR fr30] := hS
   refine S_row (d := (kint .i64)) (q := zE) hS ([] : List Int) rfl (R_buildSlice (ps := []) (vs := []) (w' := w29.alloc (.cells [].toArray 3)) (r := .slice (some ⟨w29.heap.size, 0, none⟩) 0 0) rfl rfl rfl (by kernel_rfl)) (by simp [Reps, flat, kint]) rfl (by decide) (fun g32 w31 hS => ?_)
   exact ⟨⟨fun _ => (some ⟨g32, 0, none⟩), fun _ => 0, fun _ => zE, fun _ => 0⟩, rfl, hS.fin [0, 1, 2, 3] (by decide) rfl⟩
  refine ⟨fun _ _ _ hS => Sv_val rfl (R_fld rfl rfl fld30_1) ⟨gh0, rfl, hS⟩, fun _ _ _ hS => Sv_val rfl (R_load1 rfl rfl agg26 ((hS.bx 1 rfl).cell rfl)) ⟨gh0, rfl, hS⟩, fun g_ w37 fr38 hS => ?_, ?_⟩
  ·have _w37 := trivial
   have hS : Sp (FF []) w z w37 [oR (kint .i64) 3 zE ((g_ 2).a 0) 0 ([] : List Int), bR b4 30 [.int .i64 0, .slice none 0 0, .slice none 0 0, .slice none 0 0, .slice none 0 0], bR b2 30 [.int .i64 a0.Right, .slice Aa0_Widths a0.Widths.length ca0_Widths, .slice Aa0_Heights a0.Heights.length ca0_Heights, .slice Aa0_Cells a0.Cells.length ca0_Cells, .slice Aa0_Merges a0.Merges.length ca0_Merges], allR fr38] := hS
   refine S_append hS 0 rfl rfl rfl elem26 rfl rfl (Sp.srd hS.sub hra0_Widths hca0_Widths (fun _ _ h => h)) (by (try simp only [List.length_cons, List.length_nil, List.length_append, maxLen]); omega) (by (try simp only [List.length_cons, List.length_nil, List.length_append, maxLen]); omega) (fun Ar40 cr40 w39 hS => ?_)
   have hp41 := hS.cap 0 rfl
   have hlhp41 := hp41.le
   have hmhp41 := hp41.mx
   exact ⟨⟨fun _ => Ar40, fun _ => cr40, fun _ => zE, fun _ => 0⟩, rfl, hS.fin [0, 1, 2, 3] (by decide) rfl⟩
  refine ⟨fun g_ w42 fr43 hS => ?_, ?_⟩
  ·have _w42 := trivial
   have hS : Sp (FF []) w z w42 [bR b4 30 [.int .i64 0, .slice none 0 0, .slice none 0 0, .slice none 0 0, .slice none 0 0], bR b2 30 [.int .i64 a0.Right, .slice Aa0_Widths a0.Widths.length ca0_Widths, .slice Aa0_Heights a0.Heights.length ca0_Heights, .slice Aa0_Cells a0.Cells.length ca0_Cells, .slice Aa0_Merges a0.Merges.length ca0_Merges], allR fr43] := hS
   refine S_row (d := (kint .i64)) (q := zE) hS ([] : List Int) rfl (R_buildSlice (ps := []) (vs := []) (w' := w42.alloc (.cells [].toArray 3)) (r := .slice (some ⟨w42.heap.size, 0, none⟩) 0 0) rfl rfl rfl (by kernel_rfl)) (by simp [Reps, flat, kint]) rfl (by decide) (fun g45 w44 hS => ?_)
   exact ⟨⟨fun _ => (some ⟨g45, 0, none⟩), fun _ => 0, fun _ => zE, fun _ => 0⟩, rfl, hS.fin [0, 1, 2, 3] (by decide) rfl⟩
  refine ⟨fun _ _ _ hS => Sv_val rfl (R_fld rfl rfl fld30_2) ⟨gh0, rfl, hS⟩, fun _ _ _ hS => Sv_val rfl (R_load1 rfl rfl agg26 ((hS.bx 1 rfl).cell rfl)) ⟨gh0, rfl, hS⟩, fun g_ w50 fr51 hS => ?_, ?_⟩
  ·have _w50 := trivial
   have hS : Sp (FF []) w z w50 [oR (kint .i64) 3 zE ((g_ 6).a 0) 0 ([] : List Int), bR b4 30 [.int .i64 0, .slice none 0 0, .slice none 0 0, .slice none 0 0, .slice none 0 0], bR b2 30 [.int .i64 a0.Right, .slice Aa0_Widths a0.Widths.length ca0_Widths, .slice Aa0_Heights a0.Heights.length ca0_Heights, .slice Aa0_Cells a0.Cells.length ca0_Cells, .slice Aa0_Merges a0.Merges.length ca0_Merges], allR fr51] := hS
   refine S_append hS 0 rfl rfl rfl elem26 rfl rfl (Sp.srd hS.sub hra0_Heights hca0_Heights (fun _ _ h => h)) (by (try simp only [List.length_cons, List.length_nil, List.length_append, maxLen]); omega) (by (try simp only [List.length_cons, List.length_nil, List.length_append, maxLen]); omega) (fun Ar53 cr53 w52 hS => ?_)
   have hp54 := hS.cap 0 rfl
   have hlhp54 := hp54.le
   have hmhp54 := hp54.mx
   exact ⟨⟨fun _ => Ar53, fun _ => cr53, fun _ => zE, fun _ => 0⟩, rfl, hS.fin [0, 1, 2, 3] (by decide) rfl⟩
  refine ⟨fun g_ w55 fr56 hS => ?_, ?_⟩
  ·have _w55 := trivial
   have hS : Sp (FF []) w z w55 [bR b4 30 [.int .i64 0, .slice none 0 0, .slice none 0 0, .slice none 0 0, .slice none 0 0], bR b2 30 [.int .i64 a0.Right, .slice Aa0_Widths a0.Widths.length ca0_Widths, .slice Aa0_Heights a0.Heights.length ca0_Heights, .slice Aa0_Cells a0.Cells.length ca0_Cells, .slice Aa0_Merges a0.Merges.length ca0_Merges], allR fr56] := hS
   refine S_row (d := kdTCell) (q := zE) hS ([] : List TCell) rfl (R_buildSlice (ps := []) (vs := []) (w' := w55.alloc (.cells [].toArray 58)) (r := .slice (some ⟨w55.heap.size, 0, none⟩) 0 0) rfl rfl rfl (by kernel_rfl)) (by simp [Reps, flat, kdTCell]) rfl (by decide) (fun g58 w57 hS => ?_)
   exact ⟨⟨fun _ => (some ⟨g58, 0, none⟩), fun _ => 0, fun _ => zE, fun _ => 0⟩, rfl, hS.fin [0, 1, 2, 3] (by decide) rfl⟩
  refine ⟨fun _ _ _ hS => Sv_val rfl (R_fld rfl rfl fld30_3) ⟨gh0, rfl, hS⟩, fun _ _ _ hS => Sv_val rfl (R_load1 rfl rfl agg27 ((hS.bx 1 rfl).cell rfl)) ⟨gh0, rfl, hS⟩, fun g_ w63 fr64 hS => ?_, ?_⟩
  ·have _w63 := trivial
   have hS : Sp (FF []) w z w63 [oR kdTCell 58 zE ((g_ 10).a 0) 0 ([] : List TCell), bR b4 30 [.int .i64 0, .slice none 0 0, .slice none 0 0, .slice none 0 0, .slice none 0 0], bR b2 30 [.int .i64 a0.Right, .slice Aa0_Widths a0.Widths.length ca0_Widths, .slice Aa0_Heights a0.Heights.length ca0_Heights, .slice Aa0_Cells a0.Cells.length ca0_Cells, .slice Aa0_Merges a0.Merges.length ca0_Merges], allR fr64] := hS
   refine S_append hS 0 rfl rfl rfl elem27 rfl rfl (Sp.srd hS.sub hra0_Cells hca0_Cells (fun _ _ h => h)) (by (try simp only [List.length_cons, List.length_nil, List.length_append, maxLen]); omega) (by (try simp only [List.length_cons, List.length_nil, List.length_append, maxLen]); omega) (fun Ar66 cr66 w65 hS => ?_)
   have hp67 := hS.cap 0 rfl
   have hlhp67 := hp67.le
   have hmhp67 := hp67.mx
   exact ⟨⟨fun _ => Ar66, fun _ => cr66, fun _ => zE, fun _ => 0⟩, rfl, hS.fin [0, 1, 2, 3] (by decide) rfl⟩
  refine ⟨fun g_ w68 fr69 hS => ?_, ?_⟩
  ·have _w68 := trivial
   have hS : Sp (FF []) w z w68 [bR b4 30 [.int .i64 0, .slice none 0 0, .slice none 0 0, .slice none 0 0, .slice none 0 0], bR b2 30 [.int .i64 a0.Right, .slice Aa0_Widths a0.Widths.length ca0_Widths, .slice Aa0_Heights a0.Heights.length ca0_Heights, .slice Aa0_Cells a0.Cells.length ca0_Cells, .slice Aa0_Merges a0.Merges.length ca0_Merges], allR fr69] := hS
   refine S_row (d := kdTRect) (q := zE) hS ([] : List TRect) rfl (R_buildSlice (ps := []) (vs := []) (w' := w68.alloc (.cells [].toArray 76)) (r := .slice (some ⟨w68.heap.size, 0, none⟩) 0 0) rfl rfl rfl (by kernel_rfl)) (by simp [Reps, flat, kdTRect]) rfl (by decide) (fun g71 w70 hS => ?_)
   exact ⟨⟨fun _ => (some ⟨g71, 0, none⟩), fun _ => 0, fun _ => zE, fun _ => 0⟩, rfl, hS.fin [0, 1, 2, 3] (by decide) rfl⟩
  refine ⟨fun _ _ _ hS => Sv_val rfl (R_fld rfl rfl fld30_4) ⟨gh0, rfl, hS⟩, fun _ _ _ hS => Sv_val rfl (R_load1 rfl rfl agg28 ((hS.bx 1 rfl).cell rfl)) ⟨gh0, rfl, hS⟩, fun g_ w76 fr77 hS => ?_, ?_⟩
  ·have _w76 := trivial
   have hS : Sp (FF []) w z w76 [oR kdTRect 76 zE ((g_ 14).a 0) 0 ([] : List TRect), bR b4 30 [.int .i64 0, .slice none 0 0, .slice none 0 0, .slice none 0 0, .slice none 0 0], bR b2 30 [.int .i64 a0.Right, .slice Aa0_Widths a0.Widths.length ca0_Widths, .slice Aa0_Heights a0.Heights.length ca0_Heights, .slice Aa0_Cells a0.Cells.length ca0_Cells, .slice Aa0_Merges a0.Merges.length ca0_Merges], allR fr77] := hS
   refine S_append hS 0 rfl rfl rfl elem28 rfl rfl (Sp.srd hS.sub hra0_Merges hca0_Merges (fun _ _ h => h)) (by (try simp only [List.length_cons, List.length_nil, List.length_append, maxLen]); omega) (by (try simp only [List.length_cons, List.length_nil, List.length_append, maxLen]); omega) (fun Ar79 cr79 w78 hS => ?_)
   have hp80 := hS.cap 0 rfl
   have hlhp80 := hp80.le
   have hmhp80 := hp80.mx
   exact ⟨⟨fun _ => Ar79, fun _ => cr79, fun _ => zE, fun _ => 0⟩, rfl, hS.fin [0, 1, 2, 3] (by decide) rfl⟩
  exact trivial
 ·intro g_ w81 hS
  have hS : Sp (FF []) w z w81 [oR (kint .i64) 3 zE ((g_ 5).a 0) ((g_ 5).c 0) (([] : List Int) ++ a0.Widths), oR (kint .i64) 3 zE ((g_ 9).a 0) ((g_ 9).c 0) (([] : List Int) ++ a0.Heights), oR kdTCell 58 zE ((g_ 13).a 0) ((g_ 13).c 0) (([] : List TCell) ++ a0.Cells), oR kdTRect 76 zE ((g_ 17).a 0) ((g_ 17).c 0) (([] : List TRect) ++ a0.Merges), bR b4 30 [.int .i64 0, .slice none 0 0, .slice none 0 0, .slice none 0 0, .slice none 0 0], bR b2 30 [.int .i64 a0.Right, .slice Aa0_Widths a0.Widths.length ca0_Widths, .slice Aa0_Heights a0.Heights.length ca0_Heights, .slice Aa0_Cells a0.Cells.length ca0_Cells, .slice Aa0_Merges a0.Merges.length ca0_Merges]] := hS
  refine An_fr [(1, .pointer (some ⟨b2, 0, none⟩)), (2, .pointer (some ⟨b4, 0, none⟩)), (4, .int .i64 a0.Right), (8, .slice ((g_ 5).a 0) (([] : List Int) ++ a0.Widths).length ((g_ 5).c 0)), (12, .slice ((g_ 9).a 0) (([] : List Int) ++ a0.Heights).length ((g_ 9).c 0)), (16, .slice ((g_ 13).a 0) (([] : List TCell) ++ a0.Cells).length ((g_ 13).c 0)), (20, .slice ((g_ 17).a 0) (([] : List TRect) ++ a0.Merges).length ((g_ 17).c 0))] rfl ?_
  generalize ((g_ 5).a 0) = A83 at hS ⊢
  generalize ((g_ 5).c 0) = c84 at hS ⊢
  generalize ((g_ 9).a 0) = A85 at hS ⊢
  generalize ((g_ 9).c 0) = c86 at hS ⊢
  generalize ((g_ 13).a 0) = A87 at hS ⊢
  generalize ((g_ 13).c 0) = c88 at hS ⊢
  generalize ((g_ 17).a 0) = A89 at hS ⊢
  generalize ((g_ 17).c 0) = c90 at hS ⊢
  have hp91 := hS.cap 0 rfl
  have hlhp91 := hp91.le
  have hmhp91 := hp91.mx
  have hp92 := hS.cap 1 rfl
  have hlhp92 := hp92.le
  have hmhp92 := hp92.mx
  have hp93 := hS.cap 2 rfl
  have hlhp93 := hp93.le
  have hmhp93 := hp93.mx
  have hp94 := hS.cap 3 rfl
  have hlhp94 := hp94.le
  have hmhp94 := hp94.mx
  refine An_one (i := 18) (by decide +kernel) rfl rfl (by decide) (Sv_val rfl (R_build (w' := w81) (ps := [(0, (.tmp 4)), (1, (.tmp 8)), (2, (.tmp 12)), (3, (.tmp 16)), (4, (.tmp 20))]) (vs := [.int .i64 a0.Right, .slice A83 (([] : List Int) ++ a0.Widths).length c84, .slice A85 (([] : List Int) ++ a0.Heights).length c86, .slice A87 (([] : List TCell) ++ a0.Cells).length c88, .slice A89 (([] : List TRect) ++ a0.Merges).length c90]) (r := .agg #[.int .i64 a0.Right, .slice A83 (([] : List Int) ++ a0.Widths).length c84, .slice A85 (([] : List Int) ++ a0.Heights).length c86, .slice A87 (([] : List TCell) ++ a0.Cells).length c88, .slice A89 (([] : List TRect) ++ a0.Merges).length c90]) rfl rfl rfl (by kernel_rfl)) ?_)
  refine An_one0 (i := 19) (by decide +kernel) rfl rfl (S_store hS 4 rfl rfl rfl rfl rfl size30 (one_cons rfl (one_cons rfl (one_cons rfl (one_cons rfl (one_cons rfl one_nil))))) (Nat.le_of_ble_eq_true rfl) (fun w95 hS => ?_))
  have hS : Sp (FF []) w z w95 [oR (kint .i64) 3 zE A83 c84 (([] : List Int) ++ a0.Widths), oR (kint .i64) 3 zE A85 c86 (([] : List Int) ++ a0.Heights), oR kdTCell 58 zE A87 c88 (([] : List TCell) ++ a0.Cells), oR kdTRect 76 zE A89 c90 (([] : List TRect) ++ a0.Merges), bR b4 30 [.int .i64 a0.Right, .slice A83 (([] : List Int) ++ a0.Widths).length c84, .slice A85 (([] : List Int) ++ a0.Heights).length c86, .slice A87 (([] : List TCell) ++ a0.Cells).length c88, .slice A89 (([] : List TRect) ++ a0.Merges).length c90], bR b2 30 [.int .i64 a0.Right, .slice Aa0_Widths a0.Widths.length ca0_Widths, .slice Aa0_Heights a0.Heights.length ca0_Heights, .slice Aa0_Cells a0.Cells.length ca0_Cells, .slice Aa0_Merges a0.Merges.length ca0_Merges]] := hS
  refine An_done (by decide +kernel) <| E_then (C_fr [(2, .pointer (some ⟨b4, 0, none⟩))] rfl ?_)
  refine C_ret ?_
  have hq96 : ([] : List Int) ++ a0.Widths = a0.Widths := by rfl
  have hS := hS.re 0 rfl hq96
  have hq97 : ([] : List Int) ++ a0.Heights = a0.Heights := by rfl
  have hS := hS.re 1 rfl hq97
  have hq98 : ([] : List TCell) ++ a0.Cells = a0.Cells := by rfl
  have hS := hS.re 2 rfl hq98
  have hq99 : ([] : List TRect) ++ a0.Merges = a0.Merges := by rfl
  have hS := hS.re 3 rfl hq99
  refine E_rv1 rfl (RV_cellN (cs := [.int .i64 a0.Right, .slice A83 (([] : List Int) ++ a0.Widths).length c84, .slice A85 (([] : List Int) ++ a0.Heights).length c86, .slice A87 (([] : List TCell) ++ a0.Cells).length c88, .slice A89 (([] : List TRect) ++ a0.Merges).length c90]) rfl agg30 size30 rfl (boxcells (hS.bx 4 rfl) 0 rfl)) ?_
  exact ⟨A83, c84, A85, c86, A87, c88, A89, c90, Lret1 (show (.agg #[.int .i64 a0.Right, .slice A83 (([] : List Int) ++ a0.Widths).length c84, .slice A85 (([] : List Int) ++ a0.Heights).length c86, .slice A87 (([] : List TCell) ++ a0.Cells).length c88, .slice A89 (([] : List TRect) ++ a0.Merges).length c90] : Value) = .agg #[.int .i64 a0.Right, .slice _ a0.Widths.length _, .slice _ a0.Heights.length _, .slice _ a0.Cells.length _, .slice _ a0.Merges.length _] by rfl), hS.fin [0, 1, 2, 3] (by decide) rfl⟩
end Go.Proofs.YtaljccgfnmfhnaaGreatDoorG
