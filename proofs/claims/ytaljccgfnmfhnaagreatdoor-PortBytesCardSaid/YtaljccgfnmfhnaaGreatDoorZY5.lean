/- Walks and laws of this program: part 5. -/
import Derived.ChangeArms
import Derived.ChangeOld
import Derived.Handed
import Derived.HandedShaped
import Derived.LaidHandle
import Derived.Lay
import Derived.OpenShut
import Derived.ProofKit
import Derived.Shelf.Vars
import Derived.ShutString
import Derived.SizedLaws
import Derived.Test.YtaljccgfnmfhnaaGreatDoorZY4
import Derived.WalkKit
set_option linter.all false
set_option maxHeartbeats 8000000
set_option maxRecDepth 100000
namespace Go.Proofs.YtaljccgfnmfhnaaGreatDoorG
open Go Go.RowKit
theorem export_calls (a0 : TSheet) (Aa0_Widths : Option Addr) (ca0_Widths : Nat) (Aa0_Heights : Option Addr) (ca0_Heights : Nat) (Aa0_Cells : Option Addr) (ca0_Cells : Nat) (Aa0_Merges : Option Addr) (ca0_Merges : Nat) (z : Z) (w : World) (hI : In z w []) (hra0_Widths : Rd (kint .i64) z Aa0_Widths a0.Widths) (hca0_Widths : Cap Aa0_Widths a0.Widths.length ca0_Widths) (hra0_Heights : Rd (kint .i64) z Aa0_Heights a0.Heights) (hca0_Heights : Cap Aa0_Heights a0.Heights.length ca0_Heights) (hra0_Cells : Rd kdTCell z Aa0_Cells a0.Cells) (hca0_Cells : Cap Aa0_Cells a0.Cells.length ca0_Cells) (hra0_Merges : Rd kdTRect z Aa0_Merges a0.Merges) (hca0_Merges : Cap Aa0_Merges a0.Merges.length ca0_Merges) (p0 : SheetI a0) :
    Calls Tryz.prog 17 #[.agg #[.int .i64 a0.Right, .slice Aa0_Widths a0.Widths.length ca0_Widths, .slice Aa0_Heights a0.Heights.length ca0_Heights, .slice Aa0_Cells a0.Cells.length ca0_Cells, .slice Aa0_Merges a0.Merges.length ca0_Merges]] w fun e w' => ∃ (AR0 : Option Addr) (cR0 : Nat) (qR0 : Z), e = .returned (.tuple #[.slice AR0 (exportS a0).1.length cR0, .int .i64 (exportS a0).2]) ∧ Sp (FF []) w z w' [zR qR0, oR (kslice kstr) 43 qR0 AR0 cR0 (exportS a0).1] := by
 have hla0_Widths := hca0_Widths.le
 have hma0_Widths := hca0_Widths.mx
 have hla0_Heights := hca0_Heights.le
 have hma0_Heights := hca0_Heights.mx
 have hla0_Cells := hca0_Cells.le
 have hma0_Cells := hca0_Cells.mx
 have hla0_Merges := hca0_Merges.le
 have hma0_Merges := hca0_Merges.mx
 have hS := hI.sp
 refine Calls_of (vs := [.agg #[.int .i64 a0.Right, .slice Aa0_Widths a0.Widths.length ca0_Widths, .slice Aa0_Heights a0.Heights.length ca0_Heights, .slice Aa0_Cells a0.Cells.length ca0_Cells, .slice Aa0_Merges a0.Merges.length ca0_Merges]]) (N := 42) Tryz.func17 rfl rfl (Nat.le_of_ble_eq_true rfl) ?_
 refine C_seq <| C_region <| W_cons rfl (by decide) (S_box hS rfl (R_box (cs := [.int .i64 a0.Right, .slice Aa0_Widths a0.Widths.length ca0_Widths, .slice Aa0_Heights a0.Heights.length ca0_Heights, .slice Aa0_Cells a0.Cells.length ca0_Cells, .slice Aa0_Merges a0.Merges.length ca0_Merges]) rfl rfl rfl) (fun b2 w1 hS => ?_))
 refine wv rfl rfl rfl (R_assign rfl rfl) <| wv rfl rfl rfl (R_assign rfl rfl) ?_
 refine W_nil <| E_then <| C_seq <| C_seq <| C_region <| wv rfl rfl rfl (R_loadN (cs := [.int .i64 a0.Right, .slice Aa0_Widths a0.Widths.length ca0_Widths, .slice Aa0_Heights a0.Heights.length ca0_Heights, .slice Aa0_Cells a0.Cells.length ca0_Cells, .slice Aa0_Merges a0.Merges.length ca0_Merges]) rfl rfl agg30 size30 rfl (boxcells (hS.bx 0 rfl) 0 rfl)) ?_
 refine W_cons rfl (by decide) (Sv_call rfl rfl rfl ent23 ?_)
 refine (check_calls a0 Aa0_Widths ca0_Widths Aa0_Heights ca0_Heights Aa0_Cells ca0_Cells Aa0_Merges ca0_Merges _ _ hS.out0 (hra0_Widths.mono (hS.zl [])) hca0_Widths (hra0_Heights.mono (hS.zl [])) hca0_Heights (hra0_Cells.mono (hS.zl [])) hca0_Cells (hra0_Merges.mono (hS.zl [])) hca0_Merges ).mono ?_
 rintro e_ w3 ⟨rfl, hS_⟩
 refine ⟨_, rfl, ?_⟩
 have hS := hS.call0 hS_
 refine wv rfl rfl rfl (R_bin rfl rfl rfl rfl rfl) ?_
 refine W_nil <| E_then (C_fr [(1, .pointer (some ⟨b2, 0, none⟩)), (9, .bool ((checkSh a0) != 0))] rfl ?_)
 refine C_ite rfl (fun hC0 => ?_) (fun hC0 => ?_)
 ·have hC0p : ¬ (checkSh a0) = 0 := by simpa using hC0
  refine C_seq <| C_region <| wv rfl rfl rfl (R_assign rfl rfl) <| wv rfl rfl rfl (R_assign rfl rfl) ?_
  refine W_nil <| E_then <| C_ret <| E_then_ret ?_
  obtain ⟨z5, hS⟩ := hS.famx
  have hS := hS.nilrow (kslice kstr) 43 z5
  have hq7 : ([] : List (List St)) = (exportS a0).1 := by (rw [exp_bad (by assumption)]; done)
  have hS := hS.re 0 rfl hq7
  refine E_ret2 rfl rfl rfl ?_
  exact ⟨none, 0, z5, Lret2 (Lslice hq7) (Lint (show 1 = (exportS a0).2 by (rw [exp_bad (by assumption)]; done))), hS.fin [1, 0] (by decide) rfl⟩
 ·have hC0p : (checkSh a0) = 0 := by simpa using hC0
  have hgd := good_of p0 (by omega)
  have hgh := hgd.hs
  have hgw := hgd.ws
  refine C_skip <| E_then <| C_seq <| C_region <| wv rfl rfl rfl (R_assign rfl rfl) ?_
  refine W_nil <| E_then <| C_seq <| C_seq <| C_region <| wv rfl rfl rfl (R_fld rfl rfl fld30_2) <| wv rfl rfl rfl (R_load1 rfl rfl agg26 ((hS.bx 0 rfl).cell rfl)) <| wv rfl rfl rfl (R_len rfl rfl Tryz.underlying26) <| wv rfl rfl rfl (R_move rfl rfl) ?_
  refine W_nil <| E_then <| C_block ?_
  have hS := hS.nilrow kMRowSt 43 zE
  have hS := hS.inNil kstr 9 (fun x_ : List St => x_)
  refine C_fr [(1, .pointer (some ⟨b2, 0, none⟩)), (4, .slice none 0 0), (12, .int .i64 (a0.Heights.length : Int)), (13, .int .i64 0)] rfl ?_
  refine C_loop (fun m_ f_ w_ => ∃ (i : Nat) (Ar8 : Option Addr) (cr8 : Nat) (Mr8 : List (List St × Option Addr × Nat)), f_ = [(1, .pointer (some ⟨b2, 0, none⟩)), (4, .slice Ar8 Mr8.length cr8), (12, .int .i64 (a0.Heights.length : Int)), (13, .int .i64 (i : Int))] ∧ i ≤ a0.Heights.length ∧ Mr8.map Prod.fst = List.replicate i (List.replicate a0.Widths.length ([] : St)) ∧ m_ = a0.Heights.length - i ∧ Sp (FF []) w z w_ [bR b2 30 [.int .i64 a0.Right, .slice Aa0_Widths a0.Widths.length ca0_Widths, .slice Aa0_Heights a0.Heights.length ca0_Heights, .slice Aa0_Cells a0.Cells.length ca0_Cells, .slice Aa0_Merges a0.Merges.length ca0_Merges], oR kMRowSt 43 zE Ar8 cr8 Mr8, inR kstr 9 (fun x_ : List St => x_) Mr8]) (a0.Heights.length - (0 : Nat)) ⟨(0 : Nat), none, 0, ([] : List (List St × Option Addr × Nat)), rfl, (by omega), (by rfl), rfl, hS.fin [2, 1, 0] (by decide) rfl⟩ ?_
  rintro m_ f_ w9 ⟨i, Ar8, cr8, Mr8, rfl, hI0_0, hMr8, rfl, hS⟩
  have hLr8 : Mr8.length = (List.replicate i (List.replicate a0.Widths.length ([] : St))).length := by rw [← hMr8, List.length_map]
  have hp11 := hS.cap 1 rfl
  have hlhp11 := hp11.le
  have hmhp11 := hp11.mx
  refine C_seq <| C_region <| wv rfl rfl rfl (R_bin rfl rfl rfl rfl rfl) ?_
  refine W_nil <| E_then <| C_seq <| C_ite rfl (fun hC1 => ?_) (fun hC1 => ?_)
  ·have hC1p : (i : Int) < (a0.Heights.length : Int) := by simpa using hC1
   refine C_skip <| E_then <| C_seq <| C_block <| C_region <| wv rfl rfl rfl (R_move rfl rfl) <| wv rfl rfl rfl (R_fld rfl rfl fld30_1) <| wv rfl rfl rfl (R_load1 rfl rfl agg26 ((hS.bx 0 rfl).cell rfl)) <| wv rfl rfl rfl (R_len rfl rfl Tryz.underlying26) ?_
   refine W_cons rfl (by decide) (S_make (d := kstr) (q := zE) ([] : St) hS rfl rfl rfl rfl Tryz.underlying43 mk9 rfl (Nat.lt_of_sub_ne_zero (by decide)) (by omega) (by omega) (by omega) (fun g13 w12 hS => ?_))
   refine W_cons rfl (by decide) (S_row (d := kMRowSt) (q := zE) hS ([((List.replicate a0.Widths.length ([] : St)), (some ⟨g13, 0, none⟩), a0.Widths.length)] : List (List St × Option Addr × Nat)) rfl (R_buildSlice (ps := [(0, (.tmp 19))]) (vs := [.slice (some ⟨g13, 0, none⟩) (List.replicate a0.Widths.length ([] : St)).length a0.Widths.length]) (w' := w12.alloc (.cells [.slice (some ⟨g13, 0, none⟩) (List.replicate a0.Widths.length ([] : St)).length a0.Widths.length].toArray 43)) (r := .slice (some ⟨w12.heap.size, 0, none⟩) 1 1) rfl rfl rfl (by kernel_rfl)) (by simp [Reps, flat, kMRowSt]) rfl (by decide) (fun g15 w14 hS => ?_))
   refine W_cons rfl (by decide) (S_append hS 3 rfl rfl rfl elem22 rfl rfl (hS.sow 0 rfl (fun _ _ h => h)) (by (simp only [List.length_append, List.length_replicate, List.length_cons, List.length_nil, maxLen] at *; omega)) (by (simp only [List.length_append, List.length_replicate, List.length_cons, List.length_nil, maxLen] at *; omega)) (fun Ar17 cr17 w16 hS => ?_))
   have hp18 := hS.cap 3 rfl
   have hlhp18 := hp18.le
   have hmhp18 := hp18.mx
   have hS := hS.inAdd 4 1 (List.replicate a0.Widths.length ([] : St)) rfl rfl (by decide) rfl
   have hS : Sp (FF []) w z w16 [inR kstr 9 (fun x_ : List St => x_) (Mr8 ++ ([((List.replicate a0.Widths.length ([] : St)), (some ⟨g13, 0, none⟩), a0.Widths.length)] : List (List St × Option Addr × Nat))), oR kMRowSt 43 zE (some ⟨g15, 0, none⟩) 1 ([((List.replicate a0.Widths.length ([] : St)), (some ⟨g13, 0, none⟩), a0.Widths.length)] : List (List St × Option Addr × Nat)), bR b2 30 [.int .i64 a0.Right, .slice Aa0_Widths a0.Widths.length ca0_Widths, .slice Aa0_Heights a0.Heights.length ca0_Heights, .slice Aa0_Cells a0.Cells.length ca0_Cells, .slice Aa0_Merges a0.Merges.length ca0_Merges], oR kMRowSt 43 zE Ar17 cr17 (Mr8 ++ ([((List.replicate a0.Widths.length ([] : St)), (some ⟨g13, 0, none⟩), a0.Widths.length)] : List (List St × Option Addr × Nat)))] := hS
   refine wv rfl rfl rfl (R_assign rfl rfl) ?_
   refine W_nil <| E_block_normal <| E_then (C_fr [(1, .pointer (some ⟨b2, 0, none⟩)), (4, .slice Ar17 (Mr8 ++ ([((List.replicate a0.Widths.length ([] : St)), (some ⟨g13, 0, none⟩), a0.Widths.length)] : List (List St × Option Addr × Nat))).length cr17), (12, .int .i64 (a0.Heights.length : Int)), (13, .int .i64 (i : Int))] rfl ?_)
   refine C_region <| wv rfl rfl rfl (R_add64 rfl rfl rfl (by omega) (by omega)) <| wv rfl rfl rfl (R_move rfl rfl) ?_
   refine W_nil <| E_round [1, 4, 12, 13] ?_ ⟨(i + 1 : Nat), Ar17, cr17, (Mr8 ++ ([((List.replicate a0.Widths.length ([] : St)), (some ⟨g13, 0, none⟩), a0.Widths.length)] : List (List St × Option Addr × Nat))), rfl, (by omega), (by rw [List.replicate_succ', List.map_append]; congr 1), rfl, hS.fin [2, 3, 0] (by decide) rfl⟩
   omega
  ·have hC1p : ¬ ((i : Int) < (a0.Heights.length : Int)) := by simpa using hC1
   refine C_exit <| E_then_exit <| E_then_exit <| E_block_hit ?_
   refine E_then <| C_seq <| C_seq <| C_region <| wv rfl rfl rfl (R_fld rfl rfl fld30_3) <| wv rfl rfl rfl (R_load1 rfl rfl agg27 ((hS.bx 0 rfl).cell rfl)) <| wv rfl rfl rfl (R_len rfl rfl Tryz.underlying27) <| wv rfl rfl rfl (R_move rfl rfl) ?_
   refine W_nil <| E_then (C_fr [(4, .slice Ar8 Mr8.length cr8), (24, .slice Aa0_Cells a0.Cells.length ca0_Cells), (25, .int .i64 (a0.Cells.length : Int)), (26, .int .i64 0)] rfl ?_)
   refine C_block <| C_fr [(4, .slice Ar8 Mr8.length cr8), (24, .slice Aa0_Cells a0.Cells.length ca0_Cells), (25, .int .i64 (a0.Cells.length : Int)), (26, .int .i64 0)] rfl ?_
   refine C_loop (fun m_ f_ w_ => ∃ (k : Nat) (Ar19 : Option Addr) (cr19 : Nat) (Mr19 : List (List St × Option Addr × Nat)), f_ = [(4, .slice Ar19 Mr19.length cr19), (24, .slice Aa0_Cells a0.Cells.length ca0_Cells), (25, .int .i64 (a0.Cells.length : Int)), (26, .int .i64 (k : Int))] ∧ k ≤ a0.Cells.length ∧ Mr19.map Prod.fst = (a0.Cells.take k).foldl putC (blankS a0) ∧ m_ = a0.Cells.length - k ∧ Sp (FF []) w z w_ [oR kMRowSt 43 zE Ar19 cr19 Mr19, inR kstr 9 (fun x_ : List St => x_) Mr19]) (a0.Cells.length - (0 : Nat)) ⟨(0 : Nat), Ar8, cr8, Mr8, rfl, (by omega), (by (have hi_ : i = a0.Heights.length := (by omega); subst hi_; assumption)), rfl, hS.fin [1, 2] (by decide) rfl⟩ ?_
   rintro m_ f_ w20 ⟨k, Ar19, cr19, Mr19, rfl, hI1_0, hMr19, rfl, hS⟩
   have hLr19 : Mr19.length = ((a0.Cells.take k).foldl putC (blankS a0)).length := by rw [← hMr19, List.length_map]
   have hp21 := hS.cap 0 rfl
   have hlhp21 := hp21.le
   have hmhp21 := hp21.mx
   refine C_seq <| C_region <| wv rfl rfl rfl (R_bin rfl rfl rfl rfl rfl) ?_
   refine W_nil <| E_then <| C_seq <| C_ite rfl (fun hC2 => ?_) (fun hC2 => ?_)
   ·have hC2p : (k : Int) < (a0.Cells.length : Int) := by simpa using hC2
    refine C_skip <| E_then <| C_seq <| C_block <| C_seq <| C_region ?_
    obtain ⟨q22, csq22, hAq22, rfl, hkq22⟩ := hra0_Cells.at_ (default : TCell) (i := (k : Int)) (by omega) (by omega)
    have hkq22 : ∀ (j_ : Nat) (u_ : Value), ([.int .i64 (a0.Cells.getD k (default : TCell)).Row, .int .i64 (a0.Cells.getD k (default : TCell)).Col, vstr (a0.Cells.getD k (default : TCell)).Text, .int .i64 (a0.Cells.getD k (default : TCell)).Style.Align, .int .i64 (a0.Cells.getD k (default : TCell)).Style.Wrap, .int .i64 (a0.Cells.getD k (default : TCell)).Style.Dir] : List Value)[j_]? = some u_ → cz z (q22.add (k * 6 + j_)) = some u_ := hkq22
    refine wv rfl rfl rfl (R_idx rfl rfl hAq22 rfl Tryz.underlying27 size58 (by omega) (by omega)) <| wv rfl rfl rfl (R_loadN (cs := [.int .i64 (a0.Cells.getD k (default : TCell)).Row, .int .i64 (a0.Cells.getD k (default : TCell)).Col, vstr (a0.Cells.getD k (default : TCell)).Text, .int .i64 (a0.Cells.getD k (default : TCell)).Style.Align, .int .i64 (a0.Cells.getD k (default : TCell)).Style.Wrap, .int .i64 (a0.Cells.getD k (default : TCell)).Style.Dir]) rfl rfl agg58 size58 rfl (fun j u h => cell_add (hS.sub.cell (hkq22 j u h)))) ?_
    refine W_cons rfl (by decide) (S_box hS rfl (R_alloc rfl alloc58) (fun b24 w23 hS => ?_))
    refine W_cons0 rfl (S_store hS 0 rfl rfl rfl rfl rfl size58 (one_cons rfl (one_cons rfl (one_cons rfl (one_cons rfl (one_cons rfl (one_cons rfl one_nil)))))) (Nat.le_of_ble_eq_true rfl) (fun w25 hS => ?_))
    have hS : Sp (FF []) w z w25 [bR b24 58 [.int .i64 (a0.Cells.getD k (default : TCell)).Row, .int .i64 (a0.Cells.getD k (default : TCell)).Col, vstr (a0.Cells.getD k (default : TCell)).Text, .int .i64 (a0.Cells.getD k (default : TCell)).Style.Align, .int .i64 (a0.Cells.getD k (default : TCell)).Style.Wrap, .int .i64 (a0.Cells.getD k (default : TCell)).Style.Dir], oR kMRowSt 43 zE Ar19 cr19 Mr19, inR kstr 9 (fun x_ : List St => x_) Mr19] := hS
    refine W_nil <| E_then ?_
    have hfo := hgd.cell (mem_getD default (show k < a0.Cells.length by omega))
    have hfr := exp_row (s := a0) (k := k) (i := (a0.Cells.getD k (default : TCell)).Row.toNat) (by omega)
    have hfl := exp_len a0 k
    have hS := hS.focus 2 rfl (a0.Cells.getD k (default : TCell)).Row.toNat (by omega) (([], none, 0) : List St × Option Addr × Nat)
    have hp27 := hS.cap 0 rfl
    have hlhp27 := hp27.le
    have hmhp27 := hp27.mx
    have hfe : ((Mr19.getD (a0.Cells.getD k (default : TCell)).Row.toNat (([], none, 0) : List St × Option Addr × Nat))).1.length = (((a0.Cells.take k).foldl putC (blankS a0)).getD (a0.Cells.getD k (default : TCell)).Row.toNat []).length := congrArg List.length (mfst hMr19 (a0.Cells.getD k (default : TCell)).Row.toNat (([], none, 0) : List St × Option Addr × Nat))
    refine C_fr [(4, .slice Ar19 Mr19.length cr19), (6, .pointer (some ⟨b24, 0, none⟩)), (24, .slice Aa0_Cells a0.Cells.length ca0_Cells), (25, .int .i64 (a0.Cells.length : Int)), (26, .int .i64 (k : Int))] rfl ?_
    obtain ⟨q28, hAq28, hxq28⟩ := (hS.rw 3 rfl).ix (([], none, 0) : List St × Option Addr × Nat) (i := (a0.Cells.getD k (default : TCell)).Row) (by omega) (by omega)
    obtain ⟨q29, hAq29, hxq29⟩ := (hS.rw 0 rfl).ix ([] : St) (i := (a0.Cells.getD k (default : TCell)).Col) (by omega) (by omega)
    refine C_drawn2 11 [[], [], [1], [0, 2], [3], [], [5], [], [7], [4, 6, 0, 1, 2, 3, 4, 5, 6, 7, 8]] [some 30, some 31, some 32, some 33, some 34, some 35, some 36, some 37, some 38, some 39] [4, 6, 24, 25, 26] (List.replicate 10 10) (List.replicate 10 []) (List.replicate 10 []) [fun γ_ => .slice Ar19 Mr19.length cr19, fun γ_ => .pointer (some ⟨b24, 0, none⟩), fun γ_ => .int .i64 (a0.Cells.getD k (default : TCell)).Row, fun γ_ => .pointer (some (q28.add ((a0.Cells.getD k (default : TCell)).Row.toNat * 1))), fun γ_ => .slice (Mr19.getD (a0.Cells.getD k (default : TCell)).Row.toNat (([], none, 0) : List St × Option Addr × Nat)).2.1 (Mr19.getD (a0.Cells.getD k (default : TCell)).Row.toNat (([], none, 0) : List St × Option Addr × Nat)).1.length (Mr19.getD (a0.Cells.getD k (default : TCell)).Row.toNat (([], none, 0) : List St × Option Addr × Nat)).2.2, fun γ_ => .pointer (some ⟨b24, 1, none⟩), fun γ_ => .int .i64 (a0.Cells.getD k (default : TCell)).Col, fun γ_ => .pointer (some ⟨b24, 2, none⟩), fun γ_ => vstr (a0.Cells.getD k (default : TCell)).Text, fun γ_ => .pointer (some (q29.add ((a0.Cells.getD k (default : TCell)).Col.toNat * 1)))] (List.replicate 10 (fun _ => [])) rfl (by kernel_rfl) (by decide +kernel) hS ?_ ?_
    ·refine ⟨fun _ _ _ hS => Sv_val rfl (R_move rfl rfl) ⟨gh0, rfl, hS⟩, fun _ _ _ hS => Sv_val rfl (R_fld rfl rfl fld58_0) ⟨gh0, rfl, hS⟩, fun _ _ _ hS => Sv_val rfl (R_load1 rfl rfl agg3 ((hS.bx 2 rfl).cell rfl)) ⟨gh0, rfl, hS⟩, fun _ _ _ hS => Sv_val rfl (R_idx rfl rfl hAq28 rfl Tryz.underlying22 size43 (by omega) (by omega)) ⟨gh0, rfl, hS⟩, fun _ _ _ hS => Sv_val rfl (R_load1 rfl rfl agg43 ((hS.rw 3 rfl).cellAt hAq28 hxq28 (fun _ h => h) 0 _ rfl)) ⟨gh0, rfl, hS⟩, fun _ _ _ hS => Sv_val rfl (R_fld rfl rfl fld58_1) ⟨gh0, rfl, hS⟩, fun _ _ _ hS => Sv_val rfl (R_load1 rfl rfl agg3 ((hS.bx 2 rfl).cell rfl)) ⟨gh0, rfl, hS⟩, fun _ _ _ hS => Sv_val rfl (R_fld rfl rfl fld58_2) ⟨gh0, rfl, hS⟩, fun _ _ _ hS => Sv_val rfl (R_load1 rfl rfl agg9 ((hS.bx 2 rfl).cell rfl)) ⟨gh0, rfl, hS⟩, fun _ _ _ hS => Sv_val rfl (R_idx rfl rfl hAq29 rfl Tryz.underlying43 size9 (by omega) (by omega)) ⟨gh0, rfl, hS⟩, ?_⟩
     exact trivial
    ·intro g_ w50 hS
     have hS : Sp (FF []) w z w50 [oR kstr 9 zE (Mr19.getD (a0.Cells.getD k (default : TCell)).Row.toNat (([], none, 0) : List St × Option Addr × Nat)).2.1 (Mr19.getD (a0.Cells.getD k (default : TCell)).Row.toNat (([], none, 0) : List St × Option Addr × Nat)).2.2 (Mr19.getD (a0.Cells.getD k (default : TCell)).Row.toNat (([], none, 0) : List St × Option Addr × Nat)).1, inX kstr 9 (fun x_ : List St => x_) Mr19 (a0.Cells.getD k (default : TCell)).Row.toNat, bR b24 58 [.int .i64 (a0.Cells.getD k (default : TCell)).Row, .int .i64 (a0.Cells.getD k (default : TCell)).Col, vstr (a0.Cells.getD k (default : TCell)).Text, .int .i64 (a0.Cells.getD k (default : TCell)).Style.Align, .int .i64 (a0.Cells.getD k (default : TCell)).Style.Wrap, .int .i64 (a0.Cells.getD k (default : TCell)).Style.Dir], oR kMRowSt 43 zE Ar19 cr19 Mr19] := hS
     refine An_fr [(4, .slice Ar19 Mr19.length cr19), (6, .pointer (some ⟨b24, 0, none⟩)), (24, .slice Aa0_Cells a0.Cells.length ca0_Cells), (25, .int .i64 (a0.Cells.length : Int)), (26, .int .i64 (k : Int)), (38, vstr (a0.Cells.getD k (default : TCell)).Text), (39, .pointer (some (q29.add ((a0.Cells.getD k (default : TCell)).Col.toNat * 1))))] rfl ?_
     refine An_one0 (i := 10) (by decide +kernel) rfl rfl (S_setf (xs := (Mr19.getD (a0.Cells.getD k (default : TCell)).Row.toNat (([], none, 0) : List St × Option Addr × Nat)).1) (j := (a0.Cells.getD k (default : TCell)).Col.toNat) (off := 0) (y' := ((a0.Cells.getD k (default : TCell)).Text : St)) ([] : St) hS 0 rfl rfl rfl hAq29 (by omega) rfl rfl rfl size9 (one1 rfl) (Nat.le_of_ble_eq_true rfl) (fun _ h_ => by rw [h_]; rfl) (fun w52 hS => ?_))
     refine An_done (by decide +kernel) <| E_block_normal <| E_then ?_
     have hS := hS.reM 3 rfl (a0.Cells.getD k (default : TCell)).Row.toNat (((Mr19.getD (a0.Cells.getD k (default : TCell)).Row.toNat (([], none, 0) : List St × Option Addr × Nat)).1.set (a0.Cells.getD k (default : TCell)).Col.toNat (a0.Cells.getD k (default : TCell)).Text, (Mr19.getD (a0.Cells.getD k (default : TCell)).Row.toNat (([], none, 0) : List St × Option Addr × Nat)).2.1, (Mr19.getD (a0.Cells.getD k (default : TCell)).Row.toNat (([], none, 0) : List St × Option Addr × Nat)).2.2) : (List St × Option Addr × Nat)) (([], none, 0) : List St × Option Addr × Nat) (by omega) (fun _ h_ => by rw [h_]; simp [kMRowSt, flat])
     have hS := hS.unfocus 1 0 ((Mr19.getD (a0.Cells.getD k (default : TCell)).Row.toNat (([], none, 0) : List St × Option Addr × Nat)).1.set (a0.Cells.getD k (default : TCell)).Col.toNat (a0.Cells.getD k (default : TCell)).Text : List St) rfl rfl (by decide) (by omega) rfl
     have hS : Sp (FF []) w z w52 [inR kstr 9 (fun x_ : List St => x_) (Mr19.set (a0.Cells.getD k (default : TCell)).Row.toNat (((Mr19.getD (a0.Cells.getD k (default : TCell)).Row.toNat (([], none, 0) : List St × Option Addr × Nat)).1.set (a0.Cells.getD k (default : TCell)).Col.toNat (a0.Cells.getD k (default : TCell)).Text, (Mr19.getD (a0.Cells.getD k (default : TCell)).Row.toNat (([], none, 0) : List St × Option Addr × Nat)).2.1, (Mr19.getD (a0.Cells.getD k (default : TCell)).Row.toNat (([], none, 0) : List St × Option Addr × Nat)).2.2) : (List St × Option Addr × Nat))), bR b24 58 [.int .i64 (a0.Cells.getD k (default : TCell)).Row, .int .i64 (a0.Cells.getD k (default : TCell)).Col, vstr (a0.Cells.getD k (default : TCell)).Text, .int .i64 (a0.Cells.getD k (default : TCell)).Style.Align, .int .i64 (a0.Cells.getD k (default : TCell)).Style.Wrap, .int .i64 (a0.Cells.getD k (default : TCell)).Style.Dir], oR kMRowSt 43 zE Ar19 cr19 (Mr19.set (a0.Cells.getD k (default : TCell)).Row.toNat (((Mr19.getD (a0.Cells.getD k (default : TCell)).Row.toNat (([], none, 0) : List St × Option Addr × Nat)).1.set (a0.Cells.getD k (default : TCell)).Col.toNat (a0.Cells.getD k (default : TCell)).Text, (Mr19.getD (a0.Cells.getD k (default : TCell)).Row.toNat (([], none, 0) : List St × Option Addr × Nat)).2.1, (Mr19.getD (a0.Cells.getD k (default : TCell)).Row.toNat (([], none, 0) : List St × Option Addr × Nat)).2.2) : (List St × Option Addr × Nat)))] := hS
     have hll53 : (Mr19.set (a0.Cells.getD k (default : TCell)).Row.toNat (((Mr19.getD (a0.Cells.getD k (default : TCell)).Row.toNat (([], none, 0) : List St × Option Addr × Nat)).1.set (a0.Cells.getD k (default : TCell)).Col.toNat (a0.Cells.getD k (default : TCell)).Text, (Mr19.getD (a0.Cells.getD k (default : TCell)).Row.toNat (([], none, 0) : List St × Option Addr × Nat)).2.1, (Mr19.getD (a0.Cells.getD k (default : TCell)).Row.toNat (([], none, 0) : List St × Option Addr × Nat)).2.2) : (List St × Option Addr × Nat))).length = Mr19.length := List.length_set ..
     refine C_region <| wv rfl rfl rfl (R_add64 rfl rfl rfl (by omega) (by omega)) <| wv rfl rfl rfl (R_move rfl rfl) ?_
     refine W_nil <| E_round [4, 24, 25, 26] ?_ ⟨(k + 1 : Nat), Ar19, cr19, (Mr19.set (a0.Cells.getD k (default : TCell)).Row.toNat (((Mr19.getD (a0.Cells.getD k (default : TCell)).Row.toNat (([], none, 0) : List St × Option Addr × Nat)).1.set (a0.Cells.getD k (default : TCell)).Col.toNat (a0.Cells.getD k (default : TCell)).Text, (Mr19.getD (a0.Cells.getD k (default : TCell)).Row.toNat (([], none, 0) : List St × Option Addr × Nat)).2.1, (Mr19.getD (a0.Cells.getD k (default : TCell)).Row.toNat (([], none, 0) : List St × Option Addr × Nat)).2.2) : (List St × Option Addr × Nat))), (by rw [hll53] <;> rfl), (by omega), (by rw [put_next (by omega)]; exact mput (d := (([], none, 0) : List St × Option Addr × Nat)) (fun r_ : List St => r_.set (a0.Cells.getD k (default : TCell)).Col.toNat (a0.Cells.getD k (default : TCell)).Text) (by assumption) rfl), rfl, hS.fin [2, 0] (by decide) rfl⟩
     omega
   ·have hC2p : ¬ ((k : Int) < (a0.Cells.length : Int)) := by simpa using hC2
    refine C_exit <| E_then_exit <| E_then_exit <| E_block_hit ?_
    refine E_then <| C_seq <| C_region <| wv rfl rfl rfl (R_move rfl rfl) <| wv rfl rfl rfl (R_assign rfl rfl) <| wv rfl rfl rfl (R_assign rfl rfl) ?_
    refine W_nil <| E_then (C_fr [(2, .slice Ar19 Mr19.length cr19), (3, .int .i64 0)] rfl ?_)
    refine C_ret ?_
    obtain ⟨z54, hS⟩ := hS.sealr (dk := (kslice kstr)) 0 1 rfl rfl (by decide) rfl (fun _ _ _ h_ hc_ hr_ => ⟨_, _, h_, hc_, hr_⟩)
    have hq56 : Mr19.map Prod.fst = (exportS a0).1 := by (rw [exp_ok (by omega)]; refine Eq.trans (by assumption) ?_; rw [List.take_of_length_le (by omega)]; rfl)
    have hS := hS.re 1 rfl hq56
    refine E_ret2 rfl rfl rfl ?_
    exact ⟨Ar19, cr19, z54, Lret2 ((congrArg (fun n_ => Value.slice Ar19 n_ cr19) (List.length_map (f := Prod.fst)).symm).trans (Lslice hq56)) (Lint (show 0 = (exportS a0).2 by (rw [exp_ok (by omega)]; done))), hS.fin [0, 1] (by decide) rfl⟩
theorem write_calls (a0 : TSheet) (Aa0_Widths : Option Addr) (ca0_Widths : Nat) (Aa0_Heights : Option Addr) (ca0_Heights : Nat) (Aa0_Cells : Option Addr) (ca0_Cells : Nat) (Aa0_Merges : Option Addr) (ca0_Merges : Nat) (z : Z) (w : World) (hI : In z w []) (hra0_Widths : Rd (kint .i64) z Aa0_Widths a0.Widths) (hca0_Widths : Cap Aa0_Widths a0.Widths.length ca0_Widths) (hra0_Heights : Rd (kint .i64) z Aa0_Heights a0.Heights) (hca0_Heights : Cap Aa0_Heights a0.Heights.length ca0_Heights) (hra0_Cells : Rd kdTCell z Aa0_Cells a0.Cells) (hca0_Cells : Cap Aa0_Cells a0.Cells.length ca0_Cells) (hra0_Merges : Rd kdTRect z Aa0_Merges a0.Merges) (hca0_Merges : Cap Aa0_Merges a0.Merges.length ca0_Merges) (p0 : SheetI a0) (p1 : HM z) :
    Calls Tryz.prog 19 #[.agg #[.int .i64 a0.Right, .slice Aa0_Widths a0.Widths.length ca0_Widths, .slice Aa0_Heights a0.Heights.length ca0_Heights, .slice Aa0_Cells a0.Cells.length ca0_Cells, .slice Aa0_Merges a0.Merges.length ca0_Merges]] w fun e w' => e = .returned (.tuple #[vstr (writeS a0).1, .int .i64 (writeS a0).2]) ∧ Sp (FF []) w z w' [] := by
 have hla0_Widths := hca0_Widths.le
 have hma0_Widths := hca0_Widths.mx
 have hla0_Heights := hca0_Heights.le
 have hma0_Heights := hca0_Heights.mx
 have hla0_Cells := hca0_Cells.le
 have hma0_Cells := hca0_Cells.mx
 have hla0_Merges := hca0_Merges.le
 have hma0_Merges := hca0_Merges.mx
 have hS := hI.sp
 have hwb := @write_bad a0
 have hwo := @write_ok a0
 refine Calls_of (vs := [.agg #[.int .i64 a0.Right, .slice Aa0_Widths a0.Widths.length ca0_Widths, .slice Aa0_Heights a0.Heights.length ca0_Heights, .slice Aa0_Cells a0.Cells.length ca0_Cells, .slice Aa0_Merges a0.Merges.length ca0_Merges]]) (N := 18) Tryz.func19 rfl rfl (Nat.le_of_ble_eq_true rfl) ?_
 refine C_seq <| C_region <| W_cons rfl (by decide) (S_box hS rfl (R_box (cs := [.int .i64 a0.Right, .slice Aa0_Widths a0.Widths.length ca0_Widths, .slice Aa0_Heights a0.Heights.length ca0_Heights, .slice Aa0_Cells a0.Cells.length ca0_Cells, .slice Aa0_Merges a0.Merges.length ca0_Merges]) rfl rfl rfl) (fun b2 w1 hS => ?_))
 refine wv rfl rfl rfl (R_assign rfl rfl) <| wv rfl rfl rfl (R_assign rfl rfl) ?_
 refine W_nil <| E_then <| C_seq <| C_region <| wv rfl rfl rfl (R_loadN (cs := [.int .i64 a0.Right, .slice Aa0_Widths a0.Widths.length ca0_Widths, .slice Aa0_Heights a0.Heights.length ca0_Heights, .slice Aa0_Cells a0.Cells.length ca0_Cells, .slice Aa0_Merges a0.Merges.length ca0_Merges]) rfl rfl agg30 size30 rfl (boxcells (hS.bx 0 rfl) 0 rfl)) ?_
 refine W_cons rfl (by decide) (Sv_call rfl rfl rfl ent17 ?_)
 refine (export_calls a0 Aa0_Widths ca0_Widths Aa0_Heights ca0_Heights Aa0_Cells ca0_Cells Aa0_Merges ca0_Merges _ _ hS.out0 (hra0_Widths.mono (hS.zl [])) hca0_Widths (hra0_Heights.mono (hS.zl [])) hca0_Heights (hra0_Cells.mono (hS.zl [])) hca0_Cells (hra0_Merges.mono (hS.zl [])) hca0_Merges (by exact p0)).mono ?_
 rintro e_ w3 ⟨AR0_4, cR0_4, qR0_4, rfl, hS_⟩
 refine ⟨_, rfl, ?_⟩
 have hS := hS.call0 hS_
 have hp5 := hS.cap 1 rfl
 have hlhp5 := hp5.le
 have hmhp5 := hp5.mx
 refine wv rfl rfl rfl (R_move rfl rfl) <| wv rfl rfl rfl (R_extract rfl rfl rfl) <| wv rfl rfl rfl (R_extract rfl rfl rfl) <| wv rfl rfl rfl (R_assign rfl rfl) <| wv rfl rfl rfl (R_assign rfl rfl) ?_
 refine W_nil <| E_then (C_fr [(4, .slice AR0_4 (exportS a0).1.length cR0_4), (5, .int .i64 (exportS a0).2)] rfl ?_)
 refine C_seq <| C_seq <| C_region <| wv rfl rfl rfl (R_move rfl rfl) <| wv rfl rfl rfl (R_bin rfl rfl rfl rfl rfl) ?_
 refine W_nil <| E_then <| C_ite rfl (fun hC0 => ?_) (fun hC0 => ?_)
 ·have hC0p : ¬ (exportS a0).2 = 0 := by simpa using hC0
  refine C_seq <| C_region <| wv rfl rfl rfl (R_move rfl rfl) <| wv rfl rfl rfl (R_assign rfl rfl) <| wv rfl rfl rfl (R_assign rfl rfl) ?_
  refine W_nil <| E_then (C_fr [(2, vstr []), (3, .int .i64 (exportS a0).2)] rfl ?_)
  refine C_ret <| E_then_ret <| E_ret2 rfl rfl rfl ?_
  exact ⟨Lret2 (Lstr (show [] = (writeS a0).1 by (rw [hwb (by assumption)]; done))) (Lint (show (exportS a0).2 = (writeS a0).2 by (rw [hwb (by assumption)]; done))), hS.fin [] (by decide) rfl⟩
 ·have hC0p : (exportS a0).2 = 0 := by simpa using hC0
  refine C_skip <| E_then <| C_seq <| C_region <| wv rfl rfl rfl (R_move rfl rfl) ?_
  refine W_cons rfl (by decide) (Sv_call rfl rfl rfl ent35 ?_)
  refine (qprint_calls (exportS a0).1 AR0_4 cR0_4 _ _ hS.out0 (hS.ow [] 1 rfl rfl (hS.zq [] 0 rfl rfl)) (hS.cap 1 rfl) (by exact fit_exp p0) (by exact HM.mono (by assumption) (hS.zl []))).mono ?_
  rintro e_ w6 ⟨rfl, hS_⟩
  refine ⟨_, rfl, ?_⟩
  have hS := hS.call0 hS_
  refine wv rfl rfl rfl (R_extract rfl rfl rfl) <| wv rfl rfl rfl (R_extract rfl rfl rfl) <| wv rfl rfl rfl (R_assign rfl rfl) <| wv rfl rfl rfl (R_assign rfl rfl) ?_
  refine W_nil <| E_then (C_fr [(2, vstr (printQ (exportS a0).1).1), (3, .int .i64 (printQ (exportS a0).1).2)] rfl ?_)
  refine C_ret <| E_ret2 rfl rfl rfl ?_
  exact ⟨Lret2 (Lstr (show (printQ (exportS a0).1).1 = (writeS a0).1 by (rw [hwo (by omega)]; done))) (Lint (show (printQ (exportS a0).1).2 = (writeS a0).2 by (rw [hwo (by omega)]; done))), hS.fin [] (by decide) rfl⟩
end Go.Proofs.YtaljccgfnmfhnaaGreatDoorG
set_option linter.all false
namespace Go.Proofs.YtaljccgfnmfhnaaGreatDoorG
open Go Go.RowKit
theorem print_ok {t : List (List St)} (h : (printQ t).2 = 0) : fineT t = true ∧ (tabQ t).length ≤ 65536 ∧ printQ t = (tabQ t, 0) := by
  unfold printQ at *
  split at h
  · simp at h
  · split at h
    · simp at h
    · rename_i h1 h2
      refine ⟨by simpa using h1, by omega, ?_⟩
      rw [if_neg h1, if_neg h2]
theorem print_back {t : List (List St)} (h : (printQ t).2 = 0) : parseS (printQ t).1 = (t, 0, 0) := by
  obtain ⟨h1, h2, h3⟩ := print_ok h
  rw [h3]
  exact parse_tab h1 h2
end Go.Proofs.YtaljccgfnmfhnaaGreatDoorG
set_option linter.all false
namespace Go.Proofs.YtaljccgfnmfhnaaGreatDoorG
open Go Go.RowKit
def Rect (l : Rows) (W : Nat) : Prop := 0 < l.length ∧ l.length ≤ 24 ∧ 0 < W ∧ W ≤ 16 ∧ ∀ r ∈ l, r.length = W ∧ ∀ t ∈ r, t.length ≤ 1024
theorem chk_rect {l : Rows} (h : checkS l = 0) : ∃ W, Rect l W := by
  obtain ⟨h0, h1, _, _⟩ := chk_fit h
  unfold checkS at h
  by_cases h2 : widthS l = 0
  · rw [if_pos h2] at h; cases h
  rw [if_neg h2] at h
  by_cases h3 : hasF (fun r => (r.length : Int) != widthS l) l = true
  · rw [if_pos h3] at h; cases h
  rw [if_neg h3] at h
  by_cases h4 : hasF (fun t => decide ((t.length : Int) > 1024)) l.flatten = true
  · rw [if_pos h4] at h; cases h
  rw [if_neg h4] at h
  by_cases h5 : (l.length : Int) > 24
  · rw [if_pos h5] at h; cases h
  rw [if_neg h5] at h
  by_cases h6 : widthS l > 16
  · rw [if_pos h6] at h; cases h
  have hn := widthS_nonneg l
  refine ⟨(widthS l).toNat, h0, h1, by omega, by omega, fun r hr => ⟨?_, fun t ht => ?_⟩⟩
  · have := hasF_false (by simpa using h3) r hr
    simp only [bne_eq_false_iff_eq] at this
    omega
  · have := hasF_false (by simpa using h4) t (List.mem_flatten.2 ⟨r, hr, ht⟩)
    simp only [decide_eq_false_iff_not] at this
    omega
theorem rect_chk {l : Rows} {W : Nat} (h : Rect l W) : checkS l = 0 := by
  obtain ⟨h0, h1, h2, h3, h4⟩ := h
  rw [chk_eq (n := (W : Int)) h0 (by omega) (fun r hr => by rw [(h4 r hr).1]), if_neg, if_neg (by omega), if_neg (by omega)]
  rw [has_not fun t ht => ?_]
  · decide
  · obtain ⟨r, hr, ht⟩ := List.mem_flatten.1 ht
    have := (h4 r hr).2 t ht
    simp only [decide_eq_false_iff_not]
    omega
theorem rect_row {l : Rows} {W i : Nat} (h : Rect l W) (hi : i < l.length) : (l.getD i []).length = W := (h.2.2.2.2 _ (getD_mem [] hi)).1
theorem mem_cellsR {i : Nat} {c : TCell} : ∀ {r : List St} {j : Nat}, c ∈ cellsR i r j → ∃ b, b < r.length ∧ c = mkC i (j + b) (r.getD b []) ∧ ¬ r.getD b [] = []
  | [], j, h => by simp [cellsR] at h
  | t :: r, j, h => by
    rw [cellsR] at h
    have key : c ∈ cellsR i r (j + 1) → ∃ b, b < (t :: r).length ∧ c = mkC i (j + b) ((t :: r).getD b []) ∧ ¬ (t :: r).getD b [] = [] := fun h => by
      obtain ⟨b, h1, h2, h3⟩ := mem_cellsR h
      exact ⟨b + 1, by simp; omega, by rw [h2]; simp [Nat.add_assoc, Nat.add_comm 1 b], by simpa using h3⟩
    split at h
    · exact key h
    · rename_i ht
      rcases List.mem_cons.1 h with rfl | h
      · exact ⟨0, by simp, rfl, by simpa using ht⟩
      · exact key h
theorem mem_cellsA {c : TCell} : ∀ {l : Rows} {i : Nat}, c ∈ cellsA l i → ∃ a b, a < l.length ∧ b < (l.getD a []).length ∧ c = mkC (i + a) b ((l.getD a []).getD b []) ∧ ¬ (l.getD a []).getD b [] = []
  | [], i, h => by simp [cellsA] at h
  | r :: l, i, h => by
    rw [cellsA] at h
    rcases List.mem_append.1 h with h | h
    · obtain ⟨b, h1, h2, h3⟩ := mem_cellsR h
      exact ⟨0, b, by simp, h1, by rw [h2]; simp, h3⟩
    · obtain ⟨a, b, h1, h2, h3, h4⟩ := mem_cellsA h
      exact ⟨a + 1, b, by simp; omega, by simpa using h2, by rw [h3]; simp [Nat.add_assoc, Nat.add_comm 1 a], by simpa using h4⟩
def LTc (c d : TCell) : Prop := c.Row < d.Row ∨ c.Row = d.Row ∧ c.Col < d.Col
theorem pair_cellsR (i : Nat) : ∀ (r : List St) (j : Nat), (cellsR i r j).Pairwise LTc
  | [], _ => List.Pairwise.nil
  | t :: r, j => by
    rw [cellsR]
    split
    · exact pair_cellsR i r (j + 1)
    · refine List.pairwise_cons.2 ⟨fun d hd => ?_, pair_cellsR i r (j + 1)⟩
      obtain ⟨b, _, rfl, _⟩ := mem_cellsR hd
      refine .inr ⟨rfl, ?_⟩
      simp only [mkC]
      omega
theorem pair_cellsA : ∀ (l : Rows) (i : Nat), (cellsA l i).Pairwise LTc
  | [], _ => List.Pairwise.nil
  | r :: l, i => by
    rw [cellsA]
    refine List.pairwise_append.2 ⟨pair_cellsR i r 0, pair_cellsA l (i + 1), fun c hc d hd => ?_⟩
    obtain ⟨b, _, rfl, _⟩ := mem_cellsR hc
    obtain ⟨a', b', _, _, rfl, _⟩ := mem_cellsA hd
    refine .inl ?_
    simp only [mkC]
    omega
theorem I64.small {x : Int} (h0 : 0 ≤ x) (h1 : x ≤ 100000) : I64 x := ⟨by omega, by omega⟩
theorem make_I {l : Rows} {W : Nat} (hl : Rect l W) (w h : Int) : SheetI (makeS l w h) := by
  obtain ⟨h0, h1, h2, h3, h4⟩ := hl
  refine ⟨fun r hr => (by cases hr), fun c hc => ?_, ?_, ?_⟩
  · obtain ⟨a, b, ha, hb, rfl, _⟩ := mem_cellsA hc
    have := (h4 _ (getD_mem [] ha)).1
    exact ⟨I64.small (by simp only [mkC]; omega) (by simp only [mkC]; omega), I64.small (by simp only [mkC]; omega) (by simp only [mkC]; omega)⟩
  · simp only [makeS, List.length_replicate]; omega
  · have := (h4 _ (getD_mem [] h0)).1
    simp only [makeS, List.length_replicate]; omega
theorem make_ok {l : Rows} {W : Nat} (hl : Rect l W) {w h : Int} (hw : 1 ≤ w ∧ w ≤ 60) (hh : 1 ≤ h ∧ h ≤ 12) : rcheckSh (makeS l w h) = 0 := by
  have hr0 := rect_row hl hl.1
  obtain ⟨h0, h1, h2, h3, h4⟩ := hl
  have hcell : ∀ c ∈ cellsS l, 0 ≤ c.Row ∧ c.Row < l.length ∧ 0 ≤ c.Col ∧ c.Col < W ∧ ¬ c.Text = [] ∧ c.Text.length ≤ 1024 ∧ c.Style = ⟨0, 0, 0⟩ := fun c hc => by
    obtain ⟨a, b, ha, hb, rfl, ht⟩ := mem_cellsA hc
    have h5 := h4 _ (getD_mem [] ha)
    have h6 := h5.2 _ (getD_mem [] hb)
    have h7 := h5.1
    refine ⟨?_, ?_, ?_, ?_, ht, h6, rfl⟩ <;> simp only [mkC] <;> omega
  have e1 : rlimitsS (makeS l w h) = true := by
    unfold rlimitsS
    simp only [makeS, List.length_replicate, List.length_nil]
    rw [if_neg (by omega)]
    simp only [Bool.and_eq_true, Bool.not_eq_true', List.any_eq_false, List.mem_replicate, decide_eq_true_eq]
    refine ⟨⟨?_, ?_⟩, ?_⟩
    · rintro x ⟨_, rfl⟩; omega
    · rintro x ⟨_, rfl⟩; omega
    · intro c hc; have := hcell c hc; omega
  have e2 : rorderS (makeS l w h) = true := by
    have e0 : ¬ ((¬ (makeS l w h).Right = 0 ∧ ¬ (makeS l w h).Right = 1) ∨ ((makeS l w h).Widths.length : Int) = 0 ∨ ((makeS l w h).Heights.length : Int) = 0) := by
      rw [show (makeS l w h).Widths.length = W from (List.length_replicate ..).trans hr0, show (makeS l w h).Heights.length = l.length from List.length_replicate ..]
      rintro (⟨h5, _⟩ | h5 | h5)
      · exact h5 rfl
      · omega
      · omega
    rw [rorderS, if_neg e0]
    simp only [makeS, Bool.and_eq_true, Bool.not_eq_true', List.any_eq_false, List.mem_replicate, decide_eq_true_eq, List.mem_range]
    refine ⟨⟨⟨?_, ?_⟩, ?_⟩, ?_⟩
    · rintro x ⟨_, rfl⟩; omega
    · rintro x ⟨_, rfl⟩; omega
    · intro i hi
      have h5 := hcell _ (getD_mem default hi)
      unfold rcellS
      obtain ⟨_, _, _, _, h6, _, h7⟩ := h5
      simp only [h7, h6, Bool.or_eq_true, Bool.and_eq_true, decide_eq_true_eq, Bool.not_eq_true']
      rintro ((⟨h8, h9⟩ | h9) | h9)
      · have hp := pair_cellsA l 0
        have hi2 : i < (cellsA l 0).length := hi
        have hi3 : i - 1 < (cellsA l 0).length := by omega
        have h10 := List.pairwise_iff_getElem.1 hp (i - 1) i hi3 hi2 (by omega)
        have g1 : (cellsS l).getD (i - 1) default = (cellsA l 0)[i - 1] := by simp [cellsS, List.getD, hi3]
        have g2 : (cellsS l).getD i default = (cellsA l 0)[i] := by simp [cellsS, List.getD, hi2]
        rw [g1, g2] at h9
        unfold raheadS at h9
        simp only [Bool.or_eq_false_iff, Bool.and_eq_false_iff, decide_eq_false_iff_not] at h9
        unfold LTc at h10
        omega
      · revert h9; decide
      · exact absurd h9.1.1.1 (by simp)
    · intro i hi; exact absurd hi (Nat.not_lt_zero _)
  have e3 : (makeS l w h).Cells.any (rfarS (makeS l w h)) = false := by
    rw [List.any_eq_false]
    intro c hc
    have h5 := hcell c hc
    unfold rfarS
    simp only [makeS, List.length_replicate, Bool.or_eq_true, decide_eq_true_eq, hr0]
    omega
  have e4 : (makeS l w h).Cells.any (runderS (makeS l w h)) = false := by
    rw [List.any_eq_false]
    intro c hc
    simp [runderS, raroundS, makeS]
  unfold rcheckSh
  rw [if_neg (by rw [e1]; decide), if_neg (by rw [e2]; decide), if_neg (by rw [e3]; decide), if_neg (by simp [makeS]), if_neg (by simp [makeS]), if_neg (by rw [e4]; decide)]
theorem make_chk {l : Rows} {W : Nat} (hl : Rect l W) {w h : Int} (hw : 1 ≤ w ∧ w ≤ 60) (hh : 1 ≤ h ∧ h ≤ 12) : checkSh (makeS l w h) = 0 := (check_law (make_I hl w h)).trans (make_ok hl hw hh)
theorem fold_R (R C i : Nat) : ∀ (r : List St) (j : Nat) (t : St), (cellsR i r j).foldl (fun t x => if x.Row = (R : Int) ∧ x.Col = (C : Int) then x.Text else t) t = if i = R ∧ j ≤ C ∧ C - j < r.length ∧ ¬ r.getD (C - j) [] = [] then r.getD (C - j) [] else t
  | [], j, t => by simp [cellsR]
  | x :: r, j, t => by
    have hn : ∀ t', (if i = R ∧ j + 1 ≤ C ∧ C - (j + 1) < r.length ∧ ¬ r.getD (C - (j + 1)) [] = [] then r.getD (C - (j + 1)) [] else t') = if j + 1 ≤ C then (if i = R ∧ j ≤ C ∧ C - j < (x :: r).length ∧ ¬ (x :: r).getD (C - j) [] = [] then (x :: r).getD (C - j) [] else t') else t' := fun t' => by
      by_cases h : j + 1 ≤ C
      · obtain ⟨d, rfl⟩ : ∃ d, C = j + 1 + d := ⟨C - (j + 1), by omega⟩
        rw [if_pos h, show j + 1 + d - (j + 1) = d from by omega, show j + 1 + d - j = d + 1 from by omega]
        have e : (x :: r).getD (d + 1) [] = r.getD d [] := by simp
        rw [e]
        by_cases h2 : i = R ∧ d < r.length ∧ ¬ r.getD d [] = []
        · rw [if_pos ⟨h2.1, h, h2.2⟩, if_pos ⟨h2.1, by omega, by simp; omega, h2.2.2⟩]
        · rw [if_neg (fun h3 => h2 ⟨h3.1, h3.2.2⟩), if_neg (fun h3 => h2 ⟨h3.1, by have := h3.2.2.1; simp at this; omega, h3.2.2.2⟩)]
      · rw [if_neg h, if_neg (fun h2 => h h2.2.1)]
    rw [cellsR]
    by_cases hx : x = []
    · rw [if_pos hx, fold_R R C i r (j + 1) t, hn]
      by_cases h : j + 1 ≤ C
      · rw [if_pos h]
      · rw [if_neg h]
        refine (if_neg ?_).symm
        rintro ⟨_, h2, _, h4⟩
        have : C - j = 0 := by omega
        rw [this] at h4
        exact h4 (by simpa using hx)
    · have hm : (if (mkC i j x).Row = (R : Int) ∧ (mkC i j x).Col = (C : Int) then (mkC i j x).Text else t) = (if (i : Int) = (R : Int) ∧ (j : Int) = (C : Int) then x else t) := rfl
      rw [if_neg hx, List.foldl_cons, fold_R R C i r (j + 1), hn]
      rw [hm]
      by_cases h : j + 1 ≤ C
      · rw [if_pos h, if_neg (fun h2 : (i : Int) = R ∧ (j : Int) = C => by omega)]
      · rw [if_neg h]
        by_cases h2 : i = R ∧ j = C
        · obtain ⟨rfl, rfl⟩ := h2
          rw [if_pos (c := (i : Int) = (i : Int) ∧ (j : Int) = (j : Int)) ⟨rfl, rfl⟩]
          simp [hx]
        · rw [if_neg (fun h3 : (i : Int) = R ∧ (j : Int) = C => h2 (by omega)), if_neg (fun h3 => h2 (by omega))]
theorem fold_A (R C : Nat) : ∀ (l : Rows) (i : Nat) (t : St), (cellsA l i).foldl (fun t x => if x.Row = (R : Int) ∧ x.Col = (C : Int) then x.Text else t) t = if i ≤ R ∧ R - i < l.length ∧ C < (l.getD (R - i) []).length ∧ ¬ (l.getD (R - i) []).getD C [] = [] then (l.getD (R - i) []).getD C [] else t
  | [], i, t => by simp [cellsA]
  | r :: l, i, t => by
    rw [cellsA, List.foldl_append, fold_A R C l (i + 1), fold_R R C i r 0 t, Nat.sub_zero]
    by_cases h : i + 1 ≤ R
    · obtain ⟨d, rfl⟩ : ∃ d, R = i + 1 + d := ⟨R - (i + 1), by omega⟩
      rw [show i + 1 + d - (i + 1) = d from by omega, show i + 1 + d - i = d + 1 from by omega]
      have e : (r :: l).getD (d + 1) [] = l.getD d [] := by simp
      rw [e, if_neg (c := i = i + 1 + d ∧ _) (fun h2 => by omega)]
      by_cases h2 : d < l.length ∧ C < (l.getD d []).length ∧ ¬ (l.getD d []).getD C [] = []
      · rw [if_pos ⟨h, h2⟩, if_pos ⟨by omega, by simp; omega, h2.2⟩]
      · rw [if_neg (fun h3 => h2 h3.2), if_neg (fun h3 => h2 ⟨by have := h3.2.1; simp at this; omega, h3.2.2⟩)]
    · rw [if_neg (c := i + 1 ≤ R ∧ _) (fun h2 => h h2.1)]
      by_cases h2 : i = R
      · subst h2
        rw [Nat.sub_self]
        have e : (r :: l).getD 0 [] = r := rfl
        rw [e]
        by_cases h3 : C < r.length ∧ ¬ r.getD C [] = []
        · rw [if_pos ⟨rfl, Nat.zero_le _, h3⟩, if_pos ⟨Nat.le_refl _, by simp, h3⟩]
        · rw [if_neg (fun h4 => h3 h4.2.2), if_neg (fun h4 => h3 h4.2.2)]
      · rw [if_neg (fun h3 => h2 h3.1), if_neg (fun h3 => by omega)]
theorem make_exp {l : Rows} {W : Nat} (hl : Rect l W) {w h : Int} (hw : 1 ≤ w ∧ w ≤ 60) (hh : 1 ≤ h ∧ h ≤ 12) : exportS (makeS l w h) = (l, 0) := by
  have hc := make_chk hl hw hh
  have hI := make_I hl w h
  rw [exp_ok hc, exp_eq (good_of hI hc)]
  have e1 : (makeS l w h).Heights.length = l.length := List.length_replicate ..
  have e2 : (makeS l w h).Widths.length = W := (List.length_replicate ..).trans (rect_row hl hl.1)
  refine Prod.ext ?_ rfl
  refine ext_rows (H := l.length) (W := W) ((rexp_len _).trans e1) rfl (fun i hi => (rexp_row (by omega)).trans e2) (fun i hi => rect_row hl hi) (fun i j hi hj => ?_)
  show fldR (rexpS (makeS l w h)) i j = fldR l i j
  rw [rexp_fld (by omega) (by omega)]
  show (cellsA l 0).foldl _ [] = _
  rw [fold_A, Nat.sub_zero]
  by_cases h3 : (l.getD i []).getD j [] = []
  · rw [if_neg (fun h4 => h4.2.2.2 h3)]; exact h3.symm
  · rw [if_pos ⟨Nat.zero_le _, hi, by rw [rect_row hl hi]; exact hj, h3⟩]; rfl
theorem exp_rect {s : TSheet} (hI : SheetI s) (h : checkSh s = 0) : Rect (expS s) s.Widths.length := by
  have hg := good_of hI h
  obtain ⟨h1, h2⟩ := exp_shape hI
  rw [exp_ok h] at h1 h2
  have ho := (chk_ok h).2.1
  have hl : (expS s).length = s.Heights.length := by rw [exp_eq hg, rexp_len]
  have hz : 0 < s.Widths.length ∧ 0 < s.Heights.length := by
    unfold orderS at ho
    split at ho
    · cases ho
    · rename_i h3
      simp only [Bool.or_eq_true, not_or, Bool.not_eq_true', Bool.not_eq_false, sizesS, Bool.and_eq_true, decide_eq_true_eq] at h3
      omega
  refine ⟨by omega, h1, hz.1, hg.ws, fun r hr => ⟨?_, (h2 r hr).2⟩⟩
  rw [exp_eq hg] at hr
  simp only [rexpS, List.mem_map, List.mem_range] at hr
  obtain ⟨i, _, rfl⟩ := hr
  rw [List.length_map, List.length_range]
theorem rect_fill {l : Rows} {W : Nat} (h : Rect l W) : fillS l = l := fill_same (by rw [rect_chk h]; decide)
theorem fault_ok {l : Rows} {w h : Int} (h0 : faultS l w h = 0) : (1 ≤ w ∧ w ≤ 60) ∧ (1 ≤ h ∧ h ≤ 12) ∧ checkS l = 0 := by
  unfold faultS at h0
  split at h0
  · cases h0
  · split at h0
    · cases h0
    · omega
theorem rect_fault {l : Rows} {W : Nat} (hl : Rect l W) {w h : Int} (hw : 1 ≤ w ∧ w ≤ 60) (hh : 1 ≤ h ∧ h ≤ 12) : faultS l w h = 0 := faultS_0 (by omega) (by rw [rect_chk hl]; omega)
theorem fillW_make {l : Rows} {w h : Int} (h0 : faultS l w h = 0) : fillW zSh l w h = makeS l w h := by rw [fillW, if_pos h0]; rfl
theorem fillW_zero {l : Rows} {w h : Int} (h0 : ¬ faultS l w h = 0) : fillW zSh l w h = zSh := if_neg h0
structure Imp (l : Rows) (w h : Int) : Prop where
  eq : fillW zSh (fillS l) w h = makeS (fillS l) w h
  I : SheetI (fillW zSh (fillS l) w h)
  chk : checkSh (fillW zSh (fillS l) w h) = 0
  exp : exportS (fillW zSh (fillS l) w h) = (fillS l, 0)
theorem imp_of {l : Rows} {w h : Int} (h0 : faultS (fillS l) w h = 0) : Imp l w h := by
  obtain ⟨h1, h2, h3⟩ := fault_ok h0
  obtain ⟨W, hl⟩ := chk_rect h3
  have e := fillW_make h0
  exact ⟨e, by rw [e]; exact make_I hl w h, by rw [e]; exact make_chk hl h1 h2, by rw [e]; exact make_exp hl h1 h2⟩
theorem zSh_I : SheetI zSh := ⟨fun _ h => (by cases h), fun _ h => (by cases h), by decide, by decide⟩
theorem imp_I (l : Rows) (w h : Int) : SheetI (fillW zSh (fillS l) w h) := by
  by_cases h0 : faultS (fillS l) w h = 0
  · exact (imp_of h0).I
  · rw [fillW_zero h0]; exact zSh_I
theorem read_I (t : St) (w h : Int) : SheetI (readW zSh t w h) := by
  unfold readW
  split
  · exact imp_I _ w h
  · exact zSh_I
theorem told_read {t : St} {w h : Int} : ((parseS t).2.2 = 0 → (toldS (readE t w h)).1 = faultS (fillS (parseS t).1) w h ∧ (toldS (readE t w h)).2 = 0) ∧ (¬ (parseS t).2.2 = 0 → (toldS (readE t w h)).1 = (parseS t).2.2 ∧ (toldS (readE t w h)).2 = (parseS t).2.1) := by
  constructor
  · intro h0
    rw [readE_0 h0]
    exact ⟨told_wrong _ _, told_at _⟩
  · intro h0
    rw [readE, if_neg h0]
    exact ⟨rfl, rfl⟩
theorem read_bad {t : St} {w h : Int} (h0 : ¬ (toldS (readE t w h)).1 = 0) : readW zSh t w h = zSh := by
  by_cases h1 : (parseS t).2.2 = 0
  · rw [((told_read (w := w) (h := h)).1 h1).1] at h0
    rw [readW_0 h1, fillW_zero h0]
  · exact readW_1 h1
theorem exp_zero {s : TSheet} (h : (exportS s).2 = 0) : checkSh s = 0 := by
  by_cases h0 : checkSh s = 0
  · exact h0
  · rw [exp_bad h0] at h; cases h
structure Byte1 (s : TSheet) : Prop where
  ok : (exportS s).2 = 0
  parse : parseS (writeS s).1 = ((exportS s).1, 0, 0)
  told : (toldS (readE (writeS s).1 7 2)).1 = 0 ∧ (toldS (readE (writeS s).1 7 2)).2 = 0
  again : writeS (readW zSh (writeS s).1 7 2) = ((writeS s).1, 0)
theorem byte1_of {s : TSheet} (hI : SheetI s) (h : (writeS s).2 = 0) : Byte1 s := by
  have hok : (exportS s).2 = 0 := by
    by_cases h0 : (exportS s).2 = 0
    · exact h0
    · rw [write_bad h0] at h; exact absurd h h0
  have h0 := exp_zero hok
  have hw := write_ok hok
  rw [hw] at h
  have hp := print_back h
  have hr := exp_rect hI h0
  rw [← show (exportS s).1 = expS s from by rw [exp_ok h0]] at hr
  have e := rect_fill hr
  have hf : faultS (fillS (exportS s).1) 7 2 = 0 := by rw [e]; exact rect_fault hr (by omega) (by omega)
  have hz : (parseS (writeS s).1).2.2 = 0 := by rw [hw, hp]
  obtain ⟨g1, g2⟩ := (told_read (t := (writeS s).1) (w := 7) (h := 2)).1 hz
  have e1 : (parseS (writeS s).1).1 = (exportS s).1 := by rw [hw, hp]
  refine ⟨hok, by rw [hw, hp], ⟨by rw [g1, e1]; exact hf, g2⟩, ?_⟩
  have hx := (imp_of hf).exp
  rw [readW_0 hz, e1, write_ok (by rw [hx]), hx, e, hw]
  exact Prod.ext rfl h
structure Byte2 (t : St) : Prop where
  parse : (parseS t).2.2 = 0
  write : ¬ checkS (parseS t).1 = 1 → writeS (readW zSh t 7 2) = printQ (parseS t).1
  tidy : tidyQ t = ((printQ (parseS t).1).1, 0, (printQ (parseS t).1).2)
theorem byte2_of {t : St} (h : (toldS (readE t 7 2)).1 = 0) : Byte2 t := by
  have hz : (parseS t).2.2 = 0 := by
    by_cases h1 : (parseS t).2.2 = 0
    · exact h1
    · rw [((told_read (w := 7) (h := 2)).2 h1).1] at h; exact absurd h h1
  rw [((told_read (w := 7) (h := 2)).1 hz).1] at h
  refine ⟨hz, fun hc => ?_, by rw [tidyQ, if_neg (by simp [hz])]⟩
  have hx := (imp_of h).exp
  rw [readW_0 hz, write_ok (by rw [hx]), hx, fill_same hc]
end Go.Proofs.YtaljccgfnmfhnaaGreatDoorG
set_option linter.all false
set_option maxHeartbeats 8000000
set_option maxRecDepth 100000
namespace Go.Proofs.YtaljccgfnmfhnaaGreatDoorG
open Go Go.RowKit
theorem ent11 (args : Array Value) (w : World) : (callFunc 11 args).run Tryz.prog w = .ok (.enter 11 args) w := enters Tryz.func11 (by kernel_rfl) rfl args w
theorem ent21 (args : Array Value) (w : World) : (callFunc 21 args).run Tryz.prog w = .ok (.enter 21 args) w := enters Tryz.func21 (by kernel_rfl) rfl args w
theorem ent19 (args : Array Value) (w : World) : (callFunc 19 args).run Tryz.prog w = .ok (.enter 19 args) w := enters Tryz.func19 (by kernel_rfl) rfl args w
theorem ent14 (args : Array Value) (w : World) : (callFunc 14 args).run Tryz.prog w = .ok (.enter 14 args) w := enters Tryz.func14 (by kernel_rfl) rfl args w
theorem ent9 (args : Array Value) (w : World) : (callFunc 9 args).run Tryz.prog w = .ok (.enter 9 args) w := enters Tryz.func9 (by kernel_rfl) rfl args w
theorem ent13 (args : Array Value) (w : World) : (callFunc 13 args).run Tryz.prog w = .ok (.enter 13 args) w := enters Tryz.func13 (by kernel_rfl) rfl args w
theorem ent15 (args : Array Value) (w : World) : (callFunc 15 args).run Tryz.prog w = .ok (.enter 15 args) w := enters Tryz.func15 (by kernel_rfl) rfl args w
theorem ent27 (args : Array Value) (w : World) : (callFunc 27 args).run Tryz.prog w = .ok (.enter 27 args) w := enters Tryz.func27 (by kernel_rfl) rfl args w
end Go.Proofs.YtaljccgfnmfhnaaGreatDoorG
set_option linter.all false
set_option maxHeartbeats 8000000
set_option maxRecDepth 100000
namespace Go.Proofs.YtaljccgfnmfhnaaGreatDoorG
open Go Go.RowKit
theorem pawake_calls  (z : Z) (w : World) (hI : In z w [])  (p0 : HM z) (p1 : ET z) :
    Calls Tryz.prog 9 #[] w fun e w' => e = .returned (.bool true) ∧ Sp (FF []) w z w' [] := by
 have hS := hI.sp
 refine Calls_of (vs := []) (N := 83) Tryz.func9 rfl rfl (Nat.le_of_ble_eq_true rfl) ?_
 refine C_seq <| C_region <| wv rfl rfl rfl (R_assign rfl rfl) ?_
 refine W_nil <| E_then <| C_seq <| C_region <| W_cons rfl (by decide) (S_row (d := kstr) (q := zE) hS ([[97], [98]] : List St) rfl (R_buildSlice (ps := [(0, (.const (.string { data := #[97] }))), (1, (.const (.string { data := #[98] })))]) (vs := [vstr [97], vstr [98]]) (w' := w.alloc (.cells [vstr [97], vstr [98]].toArray 9)) (r := .slice (some ⟨w.heap.size, 0, none⟩) 2 2) rfl rfl rfl (by kernel_rfl)) (by simp [Reps, flat, kstr]) rfl (by decide) (fun g2 w1 hS => ?_))
 refine W_cons rfl (by decide) (S_row (d := kstr) (q := zE) hS ([[99]] : List St) rfl (R_buildSlice (ps := [(0, (.const (.string { data := #[99] })))]) (vs := [vstr [99]]) (w' := w1.alloc (.cells [vstr [99]].toArray 9)) (r := .slice (some ⟨w1.heap.size, 0, none⟩) 1 1) rfl rfl rfl (by kernel_rfl)) (by simp [Reps, flat, kstr]) rfl (by decide) (fun g4 w3 hS => ?_))
 obtain ⟨z7, hS⟩ := hS.famx
 have hcz8 := hS.cap 2 rfl
 obtain ⟨z8, hlez8, hrz8, hS⟩ := hS.fz 2 0 rfl rfl (by decide) (zle_E _)
 have hcz9 := hS.cap 1 rfl
 obtain ⟨z9, hlez9, hrz9, hS⟩ := hS.fz 1 0 rfl rfl (by decide) (zle_E _)
 have hrz8 := hrz8.mono hlez9
 refine W_cons rfl (by decide) (S_row (d := (kslice kstr)) (q := z9) hS ([([[97], [98]] : List St), ([[99]] : List St)] : List (List St)) rfl (R_buildSlice (ps := [(0, (.tmp 11)), (1, (.tmp 12))]) (vs := [.slice (some ⟨g2, 0, none⟩) ([[97], [98]] : List St).length 2, .slice (some ⟨g4, 0, none⟩) ([[99]] : List St).length 1]) (w' := w3.alloc (.cells [.slice (some ⟨g2, 0, none⟩) ([[97], [98]] : List St).length 2, .slice (some ⟨g4, 0, none⟩) ([[99]] : List St).length 1].toArray 43)) (r := .slice (some ⟨w3.heap.size, 0, none⟩) 2 2) rfl rfl rfl (by kernel_rfl)) ⟨_, _, rfl, ⟨_, _, rfl, hcz8, hrz8⟩, ⟨_, _, rfl, ⟨_, _, rfl, hcz9, hrz9⟩, rfl⟩⟩ rfl (by decide) (fun g6 w5 hS => ?_))
 refine W_cons rfl (by decide) (Sv_call rfl rfl rfl ent11 ?_)
 refine (import_calls ([([[97], [98]] : List St), ([[99]] : List St)] : List (List St)) (some ⟨g6, 0, none⟩) 2 5 1 _ _ hS.out0 (hS.ow [] 0 rfl rfl (hS.zq [] 1 rfl rfl)) (hS.cap 0 rfl) (by exact ⟨by decide +kernel, by decide +kernel⟩) (by exact ET.mono (by assumption) (hS.zl []))).mono ?_
 rintro e_ w10 ⟨AR0_11_Widths, cR0_11_Widths, AR0_11_Heights, cR0_11_Heights, AR0_11_Cells, cR0_11_Cells, AR0_11_Merges, cR0_11_Merges, rfl, hS_⟩
 refine ⟨_, rfl, ?_⟩
 have hS := hS.call0 hS_
 have hp12 := hS.cap 0 rfl
 have hlhp12 := hp12.le
 have hmhp12 := hp12.mx
 have hp13 := hS.cap 1 rfl
 have hlhp13 := hp13.le
 have hmhp13 := hp13.mx
 have hp14 := hS.cap 2 rfl
 have hlhp14 := hp14.le
 have hmhp14 := hp14.mx
 have hp15 := hS.cap 3 rfl
 have hlhp15 := hp15.le
 have hmhp15 := hp15.mx
 refine wv rfl rfl rfl (R_move rfl rfl) <| wv rfl rfl rfl (R_extract rfl rfl rfl) <| wv rfl rfl rfl (R_extract rfl rfl rfl) ?_
 refine W_cons rfl (by decide) (S_box hS rfl (R_alloc rfl alloc30) (fun b17 w16 hS => ?_))
 refine W_cons0 rfl (S_store hS 0 rfl rfl rfl rfl rfl size30 (one_cons rfl (one_cons rfl (one_cons rfl (one_cons rfl (one_cons rfl one_nil))))) (Nat.le_of_ble_eq_true rfl) (fun w18 hS => ?_))
 have hS : Sp (FF []) w z w18 [bR b17 30 [.int .i64 (fillW zSh (fillS ([([[97], [98]] : List St), ([[99]] : List St)] : List (List St))) 5 1).Right, .slice AR0_11_Widths (fillW zSh (fillS ([([[97], [98]] : List St), ([[99]] : List St)] : List (List St))) 5 1).Widths.length cR0_11_Widths, .slice AR0_11_Heights (fillW zSh (fillS ([([[97], [98]] : List St), ([[99]] : List St)] : List (List St))) 5 1).Heights.length cR0_11_Heights, .slice AR0_11_Cells (fillW zSh (fillS ([([[97], [98]] : List St), ([[99]] : List St)] : List (List St))) 5 1).Cells.length cR0_11_Cells, .slice AR0_11_Merges (fillW zSh (fillS ([([[97], [98]] : List St), ([[99]] : List St)] : List (List St))) 5 1).Merges.length cR0_11_Merges], oR (kint .i64) 3 zE AR0_11_Widths cR0_11_Widths (fillW zSh (fillS ([([[97], [98]] : List St), ([[99]] : List St)] : List (List St))) 5 1).Widths, oR (kint .i64) 3 zE AR0_11_Heights cR0_11_Heights (fillW zSh (fillS ([([[97], [98]] : List St), ([[99]] : List St)] : List (List St))) 5 1).Heights, oR kdTCell 58 zE AR0_11_Cells cR0_11_Cells (fillW zSh (fillS ([([[97], [98]] : List St), ([[99]] : List St)] : List (List St))) 5 1).Cells, oR kdTRect 76 zE AR0_11_Merges cR0_11_Merges (fillW zSh (fillS ([([[97], [98]] : List St), ([[99]] : List St)] : List (List St))) 5 1).Merges, oR (kslice kstr) 43 z9 (some ⟨g6, 0, none⟩) 2 ([([[97], [98]] : List St), ([[99]] : List St)] : List (List St)), zR z9] := hS
 refine wv rfl rfl rfl (R_assign rfl rfl) ?_
 refine W_nil <| E_then (C_fr [(1, .pointer (some ⟨b17, 0, none⟩)), (2, .int .i64 (faultS (fillS ([([[97], [98]] : List St), ([[99]] : List St)] : List (List St))) 5 1))] rfl ?_)
 refine C_seq <| C_region <| wv rfl rfl rfl (R_loadN (cs := [.int .i64 (fillW zSh (fillS ([([[97], [98]] : List St), ([[99]] : List St)] : List (List St))) 5 1).Right, .slice AR0_11_Widths (fillW zSh (fillS ([([[97], [98]] : List St), ([[99]] : List St)] : List (List St))) 5 1).Widths.length cR0_11_Widths, .slice AR0_11_Heights (fillW zSh (fillS ([([[97], [98]] : List St), ([[99]] : List St)] : List (List St))) 5 1).Heights.length cR0_11_Heights, .slice AR0_11_Cells (fillW zSh (fillS ([([[97], [98]] : List St), ([[99]] : List St)] : List (List St))) 5 1).Cells.length cR0_11_Cells, .slice AR0_11_Merges (fillW zSh (fillS ([([[97], [98]] : List St), ([[99]] : List St)] : List (List St))) 5 1).Merges.length cR0_11_Merges]) rfl rfl agg30 size30 rfl (boxcells (hS.bx 0 rfl) 0 rfl)) ?_
 refine W_cons rfl (by decide) (Sv_call rfl rfl rfl ent17 ?_)
 refine (export_calls (fillW zSh (fillS ([([[97], [98]] : List St), ([[99]] : List St)] : List (List St))) 5 1) AR0_11_Widths cR0_11_Widths AR0_11_Heights cR0_11_Heights AR0_11_Cells cR0_11_Cells AR0_11_Merges cR0_11_Merges _ _ hS.out0 (hS.ow [] 1 rfl rfl (zle_E _)) (hS.cap 1 rfl) (hS.ow [] 2 rfl rfl (zle_E _)) (hS.cap 2 rfl) (hS.ow [] 3 rfl rfl (zle_E _)) (hS.cap 3 rfl) (hS.ow [] 4 rfl rfl (zle_E _)) (hS.cap 4 rfl) (by exact imp_I _ _ _)).mono ?_
 rintro e_ w19 ⟨AR0_20, cR0_20, qR0_20, rfl, hS_⟩
 refine ⟨_, rfl, ?_⟩
 have hS := hS.call0 hS_
 have hp21 := hS.cap 1 rfl
 have hlhp21 := hp21.le
 have hmhp21 := hp21.mx
 refine wv rfl rfl rfl (R_move rfl rfl) <| wv rfl rfl rfl (R_extract rfl rfl rfl) <| wv rfl rfl rfl (R_extract rfl rfl rfl) <| wv rfl rfl rfl (R_assign rfl rfl) <| wv rfl rfl rfl (R_assign rfl rfl) ?_
 refine W_nil <| E_then (C_fr [(1, .pointer (some ⟨b17, 0, none⟩)), (2, .int .i64 (faultS (fillS ([([[97], [98]] : List St), ([[99]] : List St)] : List (List St))) 5 1)), (3, .slice AR0_20 (exportS (fillW zSh (fillS ([([[97], [98]] : List St), ([[99]] : List St)] : List (List St))) 5 1)).1.length cR0_20), (4, .int .i64 (exportS (fillW zSh (fillS ([([[97], [98]] : List St), ([[99]] : List St)] : List (List St))) 5 1)).2)] rfl ?_)
 refine C_seq <| C_region <| W_cons rfl (by decide) (Sv_call rfl rfl rfl ent21 ?_)
 refine (read_calls [97, 13, 10, 34, 98] 5 1 _ _ hS.out0  (by (intro _; exact recB_parse (.inl (by decide)))) (by exact ET.mono (by assumption) (hS.zl []))).mono ?_
 rintro e_ w22 ⟨AR0_23_Widths, cR0_23_Widths, AR0_23_Heights, cR0_23_Heights, AR0_23_Cells, cR0_23_Cells, AR0_23_Merges, cR0_23_Merges, rfl, hS_⟩
 refine ⟨_, rfl, ?_⟩
 have hS := hS.call0 hS_
 have hp24 := hS.cap 0 rfl
 have hlhp24 := hp24.le
 have hmhp24 := hp24.mx
 have hp25 := hS.cap 1 rfl
 have hlhp25 := hp25.le
 have hmhp25 := hp25.mx
 have hp26 := hS.cap 2 rfl
 have hlhp26 := hp26.le
 have hmhp26 := hp26.mx
 have hp27 := hS.cap 3 rfl
 have hlhp27 := hp27.le
 have hmhp27 := hp27.mx
 refine wv rfl rfl rfl (R_move rfl rfl) <| wv rfl rfl rfl (R_extract rfl rfl rfl) <| wv rfl rfl rfl (R_extract rfl rfl rfl) <| wv rfl rfl rfl (R_extract rfl rfl rfl) ?_
 refine W_cons rfl (by decide) (S_box hS rfl (R_alloc rfl alloc30) (fun b29 w28 hS => ?_))
 refine W_cons0 rfl (S_store hS 0 rfl rfl rfl rfl rfl size30 (one_cons rfl (one_cons rfl (one_cons rfl (one_cons rfl (one_cons rfl one_nil))))) (Nat.le_of_ble_eq_true rfl) (fun w30 hS => ?_))
 have hS : Sp (FF []) w z w30 [bR b29 30 [.int .i64 (readW zSh [97, 13, 10, 34, 98] 5 1).Right, .slice AR0_23_Widths (readW zSh [97, 13, 10, 34, 98] 5 1).Widths.length cR0_23_Widths, .slice AR0_23_Heights (readW zSh [97, 13, 10, 34, 98] 5 1).Heights.length cR0_23_Heights, .slice AR0_23_Cells (readW zSh [97, 13, 10, 34, 98] 5 1).Cells.length cR0_23_Cells, .slice AR0_23_Merges (readW zSh [97, 13, 10, 34, 98] 5 1).Merges.length cR0_23_Merges], oR (kint .i64) 3 zE AR0_23_Widths cR0_23_Widths (readW zSh [97, 13, 10, 34, 98] 5 1).Widths, oR (kint .i64) 3 zE AR0_23_Heights cR0_23_Heights (readW zSh [97, 13, 10, 34, 98] 5 1).Heights, oR kdTCell 58 zE AR0_23_Cells cR0_23_Cells (readW zSh [97, 13, 10, 34, 98] 5 1).Cells, oR kdTRect 76 zE AR0_23_Merges cR0_23_Merges (readW zSh [97, 13, 10, 34, 98] 5 1).Merges, zR qR0_20, oR (kslice kstr) 43 qR0_20 AR0_20 cR0_20 (exportS (fillW zSh (fillS ([([[97], [98]] : List St), ([[99]] : List St)] : List (List St))) 5 1)).1, bR b17 30 [.int .i64 (fillW zSh (fillS ([([[97], [98]] : List St), ([[99]] : List St)] : List (List St))) 5 1).Right, .slice AR0_11_Widths (fillW zSh (fillS ([([[97], [98]] : List St), ([[99]] : List St)] : List (List St))) 5 1).Widths.length cR0_11_Widths, .slice AR0_11_Heights (fillW zSh (fillS ([([[97], [98]] : List St), ([[99]] : List St)] : List (List St))) 5 1).Heights.length cR0_11_Heights, .slice AR0_11_Cells (fillW zSh (fillS ([([[97], [98]] : List St), ([[99]] : List St)] : List (List St))) 5 1).Cells.length cR0_11_Cells, .slice AR0_11_Merges (fillW zSh (fillS ([([[97], [98]] : List St), ([[99]] : List St)] : List (List St))) 5 1).Merges.length cR0_11_Merges], oR (kint .i64) 3 zE AR0_11_Widths cR0_11_Widths (fillW zSh (fillS ([([[97], [98]] : List St), ([[99]] : List St)] : List (List St))) 5 1).Widths, oR (kint .i64) 3 zE AR0_11_Heights cR0_11_Heights (fillW zSh (fillS ([([[97], [98]] : List St), ([[99]] : List St)] : List (List St))) 5 1).Heights, oR kdTCell 58 zE AR0_11_Cells cR0_11_Cells (fillW zSh (fillS ([([[97], [98]] : List St), ([[99]] : List St)] : List (List St))) 5 1).Cells, oR kdTRect 76 zE AR0_11_Merges cR0_11_Merges (fillW zSh (fillS ([([[97], [98]] : List St), ([[99]] : List St)] : List (List St))) 5 1).Merges, oR (kslice kstr) 43 z9 (some ⟨g6, 0, none⟩) 2 ([([[97], [98]] : List St), ([[99]] : List St)] : List (List St)), zR z9] := hS
 refine wv rfl rfl rfl (R_assign rfl rfl) <| wv rfl rfl rfl (R_assign rfl rfl) ?_
 refine W_nil <| E_then (C_fr [(1, .pointer (some ⟨b17, 0, none⟩)), (2, .int .i64 (faultS (fillS ([([[97], [98]] : List St), ([[99]] : List St)] : List (List St))) 5 1)), (3, .slice AR0_20 (exportS (fillW zSh (fillS ([([[97], [98]] : List St), ([[99]] : List St)] : List (List St))) 5 1)).1.length cR0_20), (4, .int .i64 (exportS (fillW zSh (fillS ([([[97], [98]] : List St), ([[99]] : List St)] : List (List St))) 5 1)).2), (6, .int .i64 (toldS (readE [97, 13, 10, 34, 98] 5 1)).2), (7, .int .i64 (toldS (readE [97, 13, 10, 34, 98] 5 1)).1)] rfl ?_)
 refine C_seq <| C_region <| W_cons rfl (by decide) (S_row (d := (kint .i64)) (q := zE) hS ([5, 5] : List Int) rfl (R_buildSlice (ps := [(0, (.const (.int .i64 5))), (1, (.const (.int .i64 5)))]) (vs := [.int .i64 5, .int .i64 5]) (w' := w30.alloc (.cells [.int .i64 5, .int .i64 5].toArray 3)) (r := .slice (some ⟨w30.heap.size, 0, none⟩) 2 2) rfl rfl rfl (by kernel_rfl)) (by simp [Reps, flat, kint]) rfl (by decide) (fun g32 w31 hS => ?_))
 refine W_cons rfl (by decide) (S_row (d := (kint .i64)) (q := zE) hS ([1] : List Int) rfl (R_buildSlice (ps := [(0, (.const (.int .i64 1)))]) (vs := [.int .i64 1]) (w' := w31.alloc (.cells [.int .i64 1].toArray 3)) (r := .slice (some ⟨w31.heap.size, 0, none⟩) 1 1) rfl rfl rfl (by kernel_rfl)) (by simp [Reps, flat, kint]) rfl (by decide) (fun g34 w33 hS => ?_))
 refine wv rfl rfl rfl (R_build (w' := w33) (ps := [(1, (.const (.int .i64 1))), (2, (.const (.string { data := #[120, 44, 121] })))]) (vs := [.int .i64 1, vstr [120, 44, 121]]) (r := .agg #[.int .i64 0, .int .i64 1, vstr [120, 44, 121], .int .i64 0, .int .i64 0, .int .i64 0]) rfl rfl rfl (by kernel_rfl)) ?_
 refine W_cons rfl (by decide) (S_row (d := kdTCell) (q := zE) hS ([(⟨0, 1, [120, 44, 121], (⟨0, 0, 0⟩ : TStyle)⟩ : TCell)] : List TCell) rfl (R_buildSlice (ps := [(0, (.tmp 30))]) (vs := [.agg #[.int .i64 0, .int .i64 1, vstr [120, 44, 121], .int .i64 0, .int .i64 0, .int .i64 0]]) (w' := w33.alloc (.cells [.int .i64 0, .int .i64 1, vstr [120, 44, 121], .int .i64 0, .int .i64 0, .int .i64 0].toArray 58)) (r := .slice (some ⟨w33.heap.size, 0, none⟩) 1 1) rfl rfl rfl (by kernel_rfl)) (by simp [Reps, flat, kdTCell]) rfl (by decide) (fun g36 w35 hS => ?_))
 refine wv rfl rfl rfl (R_build (w' := w35) (ps := [(1, (.tmp 28)), (2, (.tmp 29)), (3, (.tmp 31))]) (vs := [.slice (some ⟨g32, 0, none⟩) ([5, 5] : List Int).length 2, .slice (some ⟨g34, 0, none⟩) ([1] : List Int).length 1, .slice (some ⟨g36, 0, none⟩) ([(⟨0, 1, [120, 44, 121], (⟨0, 0, 0⟩ : TStyle)⟩ : TCell)] : List TCell).length 1]) (r := .agg #[.int .i64 0, .slice (some ⟨g32, 0, none⟩) ([5, 5] : List Int).length 2, .slice (some ⟨g34, 0, none⟩) ([1] : List Int).length 1, .slice (some ⟨g36, 0, none⟩) ([(⟨0, 1, [120, 44, 121], (⟨0, 0, 0⟩ : TStyle)⟩ : TCell)] : List TCell).length 1, .slice none 0 0]) rfl rfl rfl (by kernel_rfl)) ?_
 refine W_cons rfl (by decide) (Sv_call rfl rfl rfl ent19 ?_)
 refine (write_calls (⟨0, ([5, 5] : List Int), ([1] : List Int), ([(⟨0, 1, [120, 44, 121], (⟨0, 0, 0⟩ : TStyle)⟩ : TCell)] : List TCell), []⟩ : TSheet) (some ⟨g32, 0, none⟩) 2 (some ⟨g34, 0, none⟩) 1 (some ⟨g36, 0, none⟩) 1 none 0 _ _ hS.out0 (hS.ow [] 2 rfl rfl (zle_E _)) (hS.cap 2 rfl) (hS.ow [] 1 rfl rfl (zle_E _)) (hS.cap 1 rfl) (hS.ow [] 0 rfl rfl (zle_E _)) (hS.cap 0 rfl) (Rd.nil _ _ _) Cap.nil_ (by (refine ⟨by simp, by simp [I64], by decide, by decide⟩)) (by exact HM.mono (by assumption) (hS.zl []))).mono ?_
 rintro e_ w37 ⟨rfl, hS_⟩
 refine ⟨_, rfl, ?_⟩
 have hS := hS.call0 hS_
 refine wv rfl rfl rfl (R_move rfl rfl) <| wv rfl rfl rfl (R_extract rfl rfl rfl) <| wv rfl rfl rfl (R_extract rfl rfl rfl) <| wv rfl rfl rfl (R_assign rfl rfl) <| wv rfl rfl rfl (R_assign rfl rfl) ?_
 refine W_nil <| E_then (C_fr [(1, .pointer (some ⟨b17, 0, none⟩)), (2, .int .i64 (faultS (fillS ([([[97], [98]] : List St), ([[99]] : List St)] : List (List St))) 5 1)), (3, .slice AR0_20 (exportS (fillW zSh (fillS ([([[97], [98]] : List St), ([[99]] : List St)] : List (List St))) 5 1)).1.length cR0_20), (4, .int .i64 (exportS (fillW zSh (fillS ([([[97], [98]] : List St), ([[99]] : List St)] : List (List St))) 5 1)).2), (6, .int .i64 (toldS (readE [97, 13, 10, 34, 98] 5 1)).2), (7, .int .i64 (toldS (readE [97, 13, 10, 34, 98] 5 1)).1), (8, vstr (writeS (⟨0, ([5, 5] : List Int), ([1] : List Int), ([(⟨0, 1, [120, 44, 121], (⟨0, 0, 0⟩ : TStyle)⟩ : TCell)] : List TCell), []⟩ : TSheet)).1), (9, .int .i64 (writeS (⟨0, ([5, 5] : List Int), ([1] : List Int), ([(⟨0, 1, [120, 44, 121], (⟨0, 0, 0⟩ : TStyle)⟩ : TCell)] : List TCell), []⟩ : TSheet)).2)] rfl ?_)
 refine C_seq <| C_region <| wv rfl rfl rfl (R_move rfl rfl) <| wv rfl rfl rfl (R_bin rfl rfl rfl rfl rfl) <| wv rfl rfl rfl (R_move rfl rfl) ?_
 have hk39 : (((faultS (fillS ([([[97], [98]] : List St), ([[99]] : List St)] : List (List St))) 5 1) == 0)) = true := by decide +kernel
 have hk39p : (faultS (fillS ([([[97], [98]] : List St), ([[99]] : List St)] : List (List St))) 5 1) = 0 := by simpa using hk39
 refine W_cons rfl (by decide) (Sv_gt rfl rfl rfl hk39 (Sv_val rfl (R_fld rfl rfl fld30_1) ?_))
 refine W_cons rfl (by decide) (Sv_gt rfl rfl rfl hk39 (Sv_val rfl (R_load1 rfl rfl agg26 ((hS.bx 10 rfl).cell rfl)) ?_))
 refine W_cons rfl (by decide) (Sv_gt rfl rfl rfl hk39 (Sv_val rfl (R_len rfl rfl Tryz.underlying26) ?_))
 refine W_cons rfl (by decide) (Sv_gt rfl rfl rfl hk39 (Sv_val rfl (R_bin rfl rfl rfl rfl rfl) ?_))
 refine wv rfl rfl rfl (R_pick_t rfl rfl hk39 rfl) <| wv rfl rfl rfl (R_move rfl rfl) ?_
 have hk40 : ((((fillW zSh (fillS ([([[97], [98]] : List St), ([[99]] : List St)] : List (List St))) 5 1).Widths.length : Int) == 2)) = true := by decide +kernel
 have hk40p : ((fillW zSh (fillS ([([[97], [98]] : List St), ([[99]] : List St)] : List (List St))) 5 1).Widths.length : Int) = 2 := by simpa using hk40
 refine W_cons rfl (by decide) (Sv_gt rfl rfl rfl hk40 (Sv_val rfl (R_fld rfl rfl fld30_2) ?_))
 refine W_cons rfl (by decide) (Sv_gt rfl rfl rfl hk40 (Sv_val rfl (R_load1 rfl rfl agg26 ((hS.bx 10 rfl).cell rfl)) ?_))
 refine W_cons rfl (by decide) (Sv_gt rfl rfl rfl hk40 (Sv_val rfl (R_len rfl rfl Tryz.underlying26) ?_))
 refine W_cons rfl (by decide) (Sv_gt rfl rfl rfl hk40 (Sv_val rfl (R_bin rfl rfl rfl rfl rfl) ?_))
 refine wv rfl rfl rfl (R_pick_t rfl rfl hk40 rfl) <| wv rfl rfl rfl (R_move rfl rfl) ?_
 have hk41 : ((((fillW zSh (fillS ([([[97], [98]] : List St), ([[99]] : List St)] : List (List St))) 5 1).Heights.length : Int) == 2)) = true := by decide +kernel
 have hk41p : ((fillW zSh (fillS ([([[97], [98]] : List St), ([[99]] : List St)] : List (List St))) 5 1).Heights.length : Int) = 2 := by simpa using hk41
 refine W_cons rfl (by decide) (Sv_gt rfl rfl rfl hk41 (Sv_val rfl (R_fld rfl rfl fld30_3) ?_))
 refine W_cons rfl (by decide) (Sv_gt rfl rfl rfl hk41 (Sv_val rfl (R_load1 rfl rfl agg27 ((hS.bx 10 rfl).cell rfl)) ?_))
 refine W_cons rfl (by decide) (Sv_gt rfl rfl rfl hk41 (Sv_val rfl (R_len rfl rfl Tryz.underlying27) ?_))
 refine W_cons rfl (by decide) (Sv_gt rfl rfl rfl hk41 (Sv_val rfl (R_bin rfl rfl rfl rfl rfl) ?_))
 refine wv rfl rfl rfl (R_pick_t rfl rfl hk41 rfl) <| wv rfl rfl rfl (R_move rfl rfl) ?_
 have hk42 : ((((fillW zSh (fillS ([([[97], [98]] : List St), ([[99]] : List St)] : List (List St))) 5 1).Cells.length : Int) == 3)) = true := by decide +kernel
 have hk42p : ((fillW zSh (fillS ([([[97], [98]] : List St), ([[99]] : List St)] : List (List St))) 5 1).Cells.length : Int) = 3 := by simpa using hk42
 refine W_cons rfl (by decide) (Sv_gt rfl rfl rfl hk42 (Sv_val rfl (R_move rfl rfl) ?_))
 refine W_cons rfl (by decide) (Sv_gt rfl rfl rfl hk42 (Sv_val rfl (R_bin rfl rfl rfl rfl rfl) ?_))
 refine wv rfl rfl rfl (R_pick_t rfl rfl hk42 rfl) <| wv rfl rfl rfl (R_move rfl rfl) ?_
 have hk43 : (((exportS (fillW zSh (fillS ([([[97], [98]] : List St), ([[99]] : List St)] : List (List St))) 5 1)).2 == 0)) = true := by decide +kernel
 have hk43p : (exportS (fillW zSh (fillS ([([[97], [98]] : List St), ([[99]] : List St)] : List (List St))) 5 1)).2 = 0 := by simpa using hk43
 refine W_cons rfl (by decide) (Sv_gt rfl rfl rfl hk43 (Sv_val rfl (R_move rfl rfl) ?_))
 refine W_cons rfl (by decide) (Sv_gt rfl rfl rfl hk43 (S_row (d := kstr) (q := zE) hS ([[97], [98]] : List St) rfl (R_buildSlice (ps := [(0, (.const (.string { data := #[97] }))), (1, (.const (.string { data := #[98] })))]) (vs := [vstr [97], vstr [98]]) (w' := w37.alloc (.cells [vstr [97], vstr [98]].toArray 9)) (r := .slice (some ⟨w37.heap.size, 0, none⟩) 2 2) rfl rfl rfl (by kernel_rfl)) (by simp [Reps, flat, kstr]) rfl (by decide) (fun g45 w44 hS => ?_)))
 refine W_cons rfl (by decide) (Sv_gt rfl rfl rfl hk43 (S_row (d := kstr) (q := zE) hS ([[99], []] : List St) rfl (R_buildSlice (ps := [(0, (.const (.string { data := #[99] }))), (1, (.const (.string { data := #[] })))]) (vs := [vstr [99], vstr []]) (w' := w44.alloc (.cells [vstr [99], vstr []].toArray 9)) (r := .slice (some ⟨w44.heap.size, 0, none⟩) 2 2) rfl rfl rfl (by kernel_rfl)) (by simp [Reps, flat, kstr]) rfl (by decide) (fun g47 w46 hS => ?_)))
 obtain ⟨z50, hS⟩ := hS.famx
 have hcz51 := hS.cap 2 rfl
 obtain ⟨z51, hlez51, hrz51, hS⟩ := hS.fz 2 0 rfl rfl (by decide) (zle_E _)
 have hcz52 := hS.cap 1 rfl
 obtain ⟨z52, hlez52, hrz52, hS⟩ := hS.fz 1 0 rfl rfl (by decide) (zle_E _)
 have hrz51 := hrz51.mono hlez52
 refine W_cons rfl (by decide) (Sv_gt rfl rfl rfl hk43 (S_row (d := (kslice kstr)) (q := z52) hS ([([[97], [98]] : List St), ([[99], []] : List St)] : List (List St)) rfl (R_buildSlice (ps := [(0, (.tmp 62)), (1, (.tmp 63))]) (vs := [.slice (some ⟨g45, 0, none⟩) ([[97], [98]] : List St).length 2, .slice (some ⟨g47, 0, none⟩) ([[99], []] : List St).length 2]) (w' := w46.alloc (.cells [.slice (some ⟨g45, 0, none⟩) ([[97], [98]] : List St).length 2, .slice (some ⟨g47, 0, none⟩) ([[99], []] : List St).length 2].toArray 43)) (r := .slice (some ⟨w46.heap.size, 0, none⟩) 2 2) rfl rfl rfl (by kernel_rfl)) ⟨_, _, rfl, ⟨_, _, rfl, hcz51, hrz51⟩, ⟨_, _, rfl, ⟨_, _, rfl, hcz52, hrz52⟩, rfl⟩⟩ rfl (by decide) (fun g49 w48 hS => ?_)))
 refine W_cons rfl (by decide) (Sv_gt rfl rfl rfl hk43 (Sv_call rfl rfl rfl ent14 ?_))
 refine (same_calls (exportS (fillW zSh (fillS ([([[97], [98]] : List St), ([[99]] : List St)] : List (List St))) 5 1)).1 AR0_20 cR0_20 ([([[97], [98]] : List St), ([[99], []] : List St)] : List (List St)) (some ⟨g49, 0, none⟩) 2 _ _ hS.out0 (hS.ow [] 11 rfl rfl (hS.zq [] 10 rfl rfl)) (hS.cap 11 rfl) (hS.ow [] 0 rfl rfl (hS.zq [] 1 rfl rfl)) (hS.cap 0 rfl) ).mono ?_
 rintro e_ w53 ⟨rfl, hS_⟩
 refine ⟨_, rfl, ?_⟩
 have hS := hS.call0 hS_
 refine wv rfl rfl rfl (R_pick_t rfl rfl hk43 rfl) <| wv rfl rfl rfl (R_move rfl rfl) ?_
 have hk55 : (decide ((exportS (fillW zSh (fillS ([([[97], [98]] : List St), ([[99]] : List St)] : List (List St))) 5 1)).1 = ([([[97], [98]] : List St), ([[99], []] : List St)] : List (List St)))) = true := by decide +kernel
 refine W_cons rfl (by decide) (Sv_gt rfl rfl rfl hk55 (Sv_val rfl (R_move rfl rfl) ?_))
 refine W_cons rfl (by decide) (Sv_gt rfl rfl rfl hk55 (Sv_val rfl (R_bin rfl rfl rfl rfl rfl) ?_))
 refine wv rfl rfl rfl (R_pick_t rfl rfl hk55 rfl) <| wv rfl rfl rfl (R_move rfl rfl) ?_
 have hk56 : (((toldS (readE [97, 13, 10, 34, 98] 5 1)).2 == 5)) = true := by decide +kernel
 have hk56p : (toldS (readE [97, 13, 10, 34, 98] 5 1)).2 = 5 := by simpa using hk56
 refine W_cons rfl (by decide) (Sv_gt rfl rfl rfl hk56 (Sv_val rfl (R_move rfl rfl) ?_))
 refine W_cons rfl (by decide) (Sv_gt rfl rfl rfl hk56 (Sv_val rfl (R_bin rfl rfl rfl rfl rfl) ?_))
 refine wv rfl rfl rfl (R_pick_t rfl rfl hk56 rfl) <| wv rfl rfl rfl (R_move rfl rfl) ?_
 have hk57 : (((toldS (readE [97, 13, 10, 34, 98] 5 1)).1 == 2)) = true := by decide +kernel
 have hk57p : (toldS (readE [97, 13, 10, 34, 98] 5 1)).1 = 2 := by simpa using hk57
 refine W_cons rfl (by decide) (Sv_gt rfl rfl rfl hk57 (Sv_val rfl (R_move rfl rfl) ?_))
 refine W_cons rfl (by decide) (Sv_gt rfl rfl rfl hk57 (Sv_val rfl (R_streql rfl rfl rfl) ?_))
 refine wv rfl rfl rfl (R_pick_t rfl rfl hk57 rfl) <| wv rfl rfl rfl (R_move rfl rfl) ?_
 have hk58 : (decide ((writeS (⟨0, ([5, 5] : List Int), ([1] : List Int), ([(⟨0, 1, [120, 44, 121], (⟨0, 0, 0⟩ : TStyle)⟩ : TCell)] : List TCell), []⟩ : TSheet)).1 = [44, 34, 120, 44, 121, 34, 13, 10])) = true := by decide +kernel
 have hk58p : (writeS (⟨0, ([5, 5] : List Int), ([1] : List Int), ([(⟨0, 1, [120, 44, 121], (⟨0, 0, 0⟩ : TStyle)⟩ : TCell)] : List TCell), []⟩ : TSheet)).1 = [44, 34, 120, 44, 121, 34, 13, 10] := by simpa using hk58
 refine W_cons rfl (by decide) (Sv_gt rfl rfl rfl hk58 (Sv_val rfl (R_move rfl rfl) ?_))
 refine W_cons rfl (by decide) (Sv_gt rfl rfl rfl hk58 (Sv_val rfl (R_bin rfl rfl rfl rfl rfl) ?_))
 refine wv rfl rfl rfl (R_pick_t rfl rfl hk58 rfl) <| wv rfl rfl rfl (R_assign rfl rfl) ?_
 refine W_nil <| E_then (C_fr [(0, .bool ((writeS (⟨0, ([5, 5] : List Int), ([1] : List Int), ([(⟨0, 1, [120, 44, 121], (⟨0, 0, 0⟩ : TStyle)⟩ : TCell)] : List TCell), []⟩ : TSheet)).2 == 0))] rfl ?_)
 refine C_ret <| E_ret1 rfl rfl ?_
 exact ⟨Lret1 (Lbool (show ((writeS (⟨0, ([5, 5] : List Int), ([1] : List Int), ([(⟨0, 1, [120, 44, 121], (⟨0, 0, 0⟩ : TStyle)⟩ : TCell)] : List TCell), []⟩ : TSheet)).2 == 0) = true by rfl)), hS.fin [] (by decide) rfl⟩
end Go.Proofs.YtaljccgfnmfhnaaGreatDoorG
set_option linter.all false
set_option maxHeartbeats 8000000
set_option maxRecDepth 100000
namespace Go.Proofs.YtaljccgfnmfhnaaGreatDoorG
open Go Go.RowKit
theorem portBytes_calls (a0 : TSheet) (Aa0_Widths : Option Addr) (ca0_Widths : Nat) (Aa0_Heights : Option Addr) (ca0_Heights : Nat) (Aa0_Cells : Option Addr) (ca0_Cells : Nat) (Aa0_Merges : Option Addr) (ca0_Merges : Nat) (a1 : St) (z : Z) (w : World) (hI : In z w []) (hra0_Widths : Rd (kint .i64) z Aa0_Widths a0.Widths) (hca0_Widths : Cap Aa0_Widths a0.Widths.length ca0_Widths) (hra0_Heights : Rd (kint .i64) z Aa0_Heights a0.Heights) (hca0_Heights : Cap Aa0_Heights a0.Heights.length ca0_Heights) (hra0_Cells : Rd kdTCell z Aa0_Cells a0.Cells) (hca0_Cells : Cap Aa0_Cells a0.Cells.length ca0_Cells) (hra0_Merges : Rd kdTRect z Aa0_Merges a0.Merges) (hca0_Merges : Cap Aa0_Merges a0.Merges.length ca0_Merges) (p0 : SheetG a0) (p1 : HM z) (p2 : ET z) :
    Calls Tryz.prog 7 #[.agg #[.int .i64 a0.Right, .slice Aa0_Widths a0.Widths.length ca0_Widths, .slice Aa0_Heights a0.Heights.length ca0_Heights, .slice Aa0_Cells a0.Cells.length ca0_Cells, .slice Aa0_Merges a0.Merges.length ca0_Merges], vstr a1] w fun e w' => e = .returned (.bool true) ∧ Sp (FF []) w z w' [] := by
 have hla0_Widths := hca0_Widths.le
 have hma0_Widths := hca0_Widths.mx
 have hla0_Heights := hca0_Heights.le
 have hma0_Heights := hca0_Heights.mx
 have hla0_Cells := hca0_Cells.le
 have hma0_Cells := hca0_Cells.mx
 have hla0_Merges := hca0_Merges.le
 have hma0_Merges := hca0_Merges.mx
 have hS := hI.sp
 refine Calls_of (vs := [.agg #[.int .i64 a0.Right, .slice Aa0_Widths a0.Widths.length ca0_Widths, .slice Aa0_Heights a0.Heights.length ca0_Heights, .slice Aa0_Cells a0.Cells.length ca0_Cells, .slice Aa0_Merges a0.Merges.length ca0_Merges], vstr a1]) (N := 150) Tryz.func7 rfl rfl (Nat.le_of_ble_eq_true rfl) ?_
 refine C_seq <| C_region <| W_cons rfl (by decide) (S_box hS rfl (R_box (cs := [.int .i64 a0.Right, .slice Aa0_Widths a0.Widths.length ca0_Widths, .slice Aa0_Heights a0.Heights.length ca0_Heights, .slice Aa0_Cells a0.Cells.length ca0_Cells, .slice Aa0_Merges a0.Merges.length ca0_Merges]) rfl rfl rfl) (fun b2 w1 hS => ?_))
 refine wv rfl rfl rfl (R_assign rfl rfl) ?_
 refine W_nil <| E_then <| C_seq <| C_seq <| C_region <| wv rfl rfl rfl (R_loadN (cs := [.int .i64 a0.Right, .slice Aa0_Widths a0.Widths.length ca0_Widths, .slice Aa0_Heights a0.Heights.length ca0_Heights, .slice Aa0_Cells a0.Cells.length ca0_Cells, .slice Aa0_Merges a0.Merges.length ca0_Merges]) rfl rfl agg30 size30 rfl (boxcells (hS.bx 0 rfl) 0 rfl)) ?_
 refine W_cons rfl (by decide) (Sv_call rfl rfl rfl ent15 ?_)
 refine (great_calls a0 Aa0_Widths ca0_Widths Aa0_Heights ca0_Heights Aa0_Cells ca0_Cells Aa0_Merges ca0_Merges _ _ hS.out0 (hra0_Widths.mono (hS.zl [])) hca0_Widths (hra0_Heights.mono (hS.zl [])) hca0_Heights (hra0_Cells.mono (hS.zl [])) hca0_Cells (hra0_Merges.mono (hS.zl [])) hca0_Merges ).mono ?_
 rintro e_ w3 ⟨rfl, hS_⟩
 refine ⟨_, rfl, ?_⟩
 have hS := hS.call0 hS_
 refine wv rfl rfl rfl (R_move rfl rfl) ?_
 refine W_split (t := 30) rfl (fun hg5 => ?_) (fun hg5 => ?_)
 ·refine W_cons rfl (by decide) (Sv_off rfl rfl rfl (by rw [hg5] <;> rfl) ?_)
  refine W_cons rfl (by decide) (Sv_off rfl rfl rfl (by rw [hg5] <;> rfl) ?_)
  refine W_cons rfl (by decide) (Sv_off rfl rfl rfl (by rw [hg5] <;> rfl) ?_)
  refine wv rfl rfl rfl (R_pick_t rfl rfl hg5 rfl) ?_
  refine W_nil <| E_then (C_fr [(1, vstr a1), (2, .pointer (some ⟨b2, 0, none⟩)), (34, .bool true)] rfl ?_)
  refine C_if rfl rfl ?_
  refine C_seq <| C_region <| W_cons rfl (by decide) (Sv_call rfl rfl rfl ent9 ?_)
  refine (pawake_calls  _ _ hS.out0  (by exact HM.mono (by assumption) (hS.zl [])) (by exact ET.mono (by assumption) (hS.zl []))).mono ?_
  rintro e_ w6 ⟨rfl, hS_⟩
  refine ⟨_, rfl, ?_⟩
  have hS := hS.call0 hS_
  refine wv rfl rfl rfl (R_assign rfl rfl) ?_
  refine W_nil <| E_then <| C_ret <| E_then_ret <| E_ret1 rfl rfl ?_
  exact ⟨Lret1 (Lbool (show true = true by rfl)), hS.fin [] (by decide) rfl⟩
 ·refine W_cons rfl (by decide) (Sv_gt rfl rfl rfl hg5 (Sv_val rfl (R_move rfl rfl) ?_))
  refine W_cons rfl (by decide) (Sv_gt rfl rfl rfl hg5 (Sv_val rfl (R_strlen rfl rfl Tryz.underlying9) ?_))
  refine W_cons rfl (by decide) (Sv_gt rfl rfl rfl hg5 (Sv_val rfl (R_bin rfl rfl rfl rfl rfl) ?_))
  refine wv rfl rfl rfl (R_pick_f rfl rfl hg5 rfl) ?_
  refine W_nil <| E_then (C_fr [(1, vstr a1), (2, .pointer (some ⟨b2, 0, none⟩)), (34, .bool (decide ((a1.length : Int) > 4000)))] rfl ?_)
  refine C_ite rfl (fun hC0 => ?_) (fun hC0 => ?_)
  ·have hC0p : (a1.length : Int) > 4000 := by simpa using hC0
   refine C_seq <| C_region <| W_cons rfl (by decide) (Sv_call rfl rfl rfl ent9 ?_)
   refine (pawake_calls  _ _ hS.out0  (by exact HM.mono (by assumption) (hS.zl [])) (by exact ET.mono (by assumption) (hS.zl []))).mono ?_
   rintro e_ w8 ⟨rfl, hS_⟩
   refine ⟨_, rfl, ?_⟩
   have hS := hS.call0 hS_
   refine wv rfl rfl rfl (R_assign rfl rfl) ?_
   refine W_nil <| E_then <| C_ret <| E_then_ret <| E_ret1 rfl rfl ?_
   exact ⟨Lret1 (Lbool (show true = true by rfl)), hS.fin [] (by decide) rfl⟩
  ·have hC0p : ¬ ((a1.length : Int) > 4000) := by simpa using hC0
   have hgf : greatS a0 = false := by (simp_all; done)
   have hgl : a1.length ≤ 4000 := by omega
   have hgb := great_bd hgf
   have hsi : SheetI a0 := p0.I hgf
   refine C_skip <| E_then <| C_seq <| C_seq <| C_region <| wv rfl rfl rfl (R_loadN (cs := [.int .i64 a0.Right, .slice Aa0_Widths a0.Widths.length ca0_Widths, .slice Aa0_Heights a0.Heights.length ca0_Heights, .slice Aa0_Cells a0.Cells.length ca0_Cells, .slice Aa0_Merges a0.Merges.length ca0_Merges]) rfl rfl agg30 size30 rfl (boxcells (hS.bx 0 rfl) 0 rfl)) ?_
   refine W_cons rfl (by decide) (Sv_call rfl rfl rfl ent19 ?_)
   refine (write_calls a0 Aa0_Widths ca0_Widths Aa0_Heights ca0_Heights Aa0_Cells ca0_Cells Aa0_Merges ca0_Merges _ _ hS.out0 (hra0_Widths.mono (hS.zl [])) hca0_Widths (hra0_Heights.mono (hS.zl [])) hca0_Heights (hra0_Cells.mono (hS.zl [])) hca0_Cells (hra0_Merges.mono (hS.zl [])) hca0_Merges (by assumption) (by exact HM.mono (by assumption) (hS.zl []))).mono ?_
   rintro e_ w10 ⟨rfl, hS_⟩
   refine ⟨_, rfl, ?_⟩
   have hS := hS.call0 hS_
   refine wv rfl rfl rfl (R_move rfl rfl) <| wv rfl rfl rfl (R_extract rfl rfl rfl) <| wv rfl rfl rfl (R_extract rfl rfl rfl) <| wv rfl rfl rfl (R_assign rfl rfl) <| wv rfl rfl rfl (R_assign rfl rfl) ?_
   refine W_nil <| E_then (C_fr [(1, vstr a1), (2, .pointer (some ⟨b2, 0, none⟩)), (5, vstr (writeS a0).1), (6, .int .i64 (writeS a0).2)] rfl ?_)
   refine C_seq <| C_region <| wv rfl rfl rfl (R_move rfl rfl) <| wv rfl rfl rfl (R_bin rfl rfl rfl rfl rfl) ?_
   refine W_nil <| E_then <| C_ite rfl (fun hC1 => ?_) (fun hC1 => ?_)
   ·have hC1p : (writeS a0).2 = 0 := by simpa using hC1
    have hb1 := byte1_of hsi (by simpa using hC1)
    refine C_seq <| C_region <| wv rfl rfl rfl (R_loadN (cs := [.int .i64 a0.Right, .slice Aa0_Widths a0.Widths.length ca0_Widths, .slice Aa0_Heights a0.Heights.length ca0_Heights, .slice Aa0_Cells a0.Cells.length ca0_Cells, .slice Aa0_Merges a0.Merges.length ca0_Merges]) rfl rfl agg30 size30 rfl (boxcells (hS.bx 0 rfl) 0 rfl)) ?_
    refine W_cons rfl (by decide) (Sv_call rfl rfl rfl ent17 ?_)
    refine (export_calls a0 Aa0_Widths ca0_Widths Aa0_Heights ca0_Heights Aa0_Cells ca0_Cells Aa0_Merges ca0_Merges _ _ hS.out0 (hra0_Widths.mono (hS.zl [])) hca0_Widths (hra0_Heights.mono (hS.zl [])) hca0_Heights (hra0_Cells.mono (hS.zl [])) hca0_Cells (hra0_Merges.mono (hS.zl [])) hca0_Merges (by assumption)).mono ?_
    rintro e_ w12 ⟨AR0_13, cR0_13, qR0_13, rfl, hS_⟩
    refine ⟨_, rfl, ?_⟩
    have hS := hS.call0 hS_
    have hp14 := hS.cap 1 rfl
    have hlhp14 := hp14.le
    have hmhp14 := hp14.mx
    refine wv rfl rfl rfl (R_move rfl rfl) <| wv rfl rfl rfl (R_extract rfl rfl rfl) <| wv rfl rfl rfl (R_extract rfl rfl rfl) <| wv rfl rfl rfl (R_assign rfl rfl) <| wv rfl rfl rfl (R_assign rfl rfl) ?_
    refine W_nil <| E_then (C_fr [(1, vstr a1), (5, vstr (writeS a0).1), (7, .slice AR0_13 (exportS a0).1.length cR0_13), (8, .int .i64 (exportS a0).2)] rfl ?_)
    refine C_seq <| C_region <| wv rfl rfl rfl (R_move rfl rfl) ?_
    refine W_cons rfl (by decide) (Sv_call rfl rfl rfl ent25 ?_)
    refine (parse_calls (writeS a0).1 _ _ hS.out0  ).mono ?_
    rintro e_ w15 ⟨AR0_16, cR0_16, qR0_16, rfl, hS_⟩
    refine ⟨_, rfl, ?_⟩
    have hS := hS.call0 hS_
    have hp17 := hS.cap 1 rfl
    have hlhp17 := hp17.le
    have hmhp17 := hp17.mx
    refine wv rfl rfl rfl (R_move rfl rfl) <| wv rfl rfl rfl (R_extract rfl rfl rfl) <| wv rfl rfl rfl (R_extract rfl rfl rfl) <| wv rfl rfl rfl (R_extract rfl rfl rfl) <| wv rfl rfl rfl (R_assign rfl rfl) <| wv rfl rfl rfl (R_assign rfl rfl) <| wv rfl rfl rfl (R_assign rfl rfl) ?_
    refine W_nil <| E_then (C_fr [(1, vstr a1), (5, vstr (writeS a0).1), (7, .slice AR0_13 (exportS a0).1.length cR0_13), (8, .int .i64 (exportS a0).2), (9, .slice AR0_16 (parseS (writeS a0).1).1.length cR0_16), (10, .int .i64 (parseS (writeS a0).1).2.1), (11, .int .i64 (parseS (writeS a0).1).2.2)] rfl ?_)
    refine C_seq <| C_region <| wv rfl rfl rfl (R_move rfl rfl) ?_
    refine W_cons rfl (by decide) (Sv_call rfl rfl rfl ent21 ?_)
    refine (read_calls (writeS a0).1 7 2 _ _ hS.out0  (by (intro _; rw [hb1.parse]; exact recB_exp hsi)) (by exact ET.mono (by assumption) (hS.zl []))).mono ?_
    rintro e_ w18 ⟨AR0_19_Widths, cR0_19_Widths, AR0_19_Heights, cR0_19_Heights, AR0_19_Cells, cR0_19_Cells, AR0_19_Merges, cR0_19_Merges, rfl, hS_⟩
    refine ⟨_, rfl, ?_⟩
    have hS := hS.call0 hS_
    have hp20 := hS.cap 0 rfl
    have hlhp20 := hp20.le
    have hmhp20 := hp20.mx
    have hp21 := hS.cap 1 rfl
    have hlhp21 := hp21.le
    have hmhp21 := hp21.mx
    have hp22 := hS.cap 2 rfl
    have hlhp22 := hp22.le
    have hmhp22 := hp22.mx
    have hp23 := hS.cap 3 rfl
    have hlhp23 := hp23.le
    have hmhp23 := hp23.mx
    refine wv rfl rfl rfl (R_move rfl rfl) <| wv rfl rfl rfl (R_extract rfl rfl rfl) <| wv rfl rfl rfl (R_extract rfl rfl rfl) <| wv rfl rfl rfl (R_extract rfl rfl rfl) ?_
    refine W_cons rfl (by decide) (S_box hS rfl (R_alloc rfl alloc30) (fun b25 w24 hS => ?_))
    refine W_cons0 rfl (S_store hS 0 rfl rfl rfl rfl rfl size30 (one_cons rfl (one_cons rfl (one_cons rfl (one_cons rfl (one_cons rfl one_nil))))) (Nat.le_of_ble_eq_true rfl) (fun w26 hS => ?_))
    have hS : Sp (FF []) w z w26 [bR b25 30 [.int .i64 (readW zSh (writeS a0).1 7 2).Right, .slice AR0_19_Widths (readW zSh (writeS a0).1 7 2).Widths.length cR0_19_Widths, .slice AR0_19_Heights (readW zSh (writeS a0).1 7 2).Heights.length cR0_19_Heights, .slice AR0_19_Cells (readW zSh (writeS a0).1 7 2).Cells.length cR0_19_Cells, .slice AR0_19_Merges (readW zSh (writeS a0).1 7 2).Merges.length cR0_19_Merges], oR (kint .i64) 3 zE AR0_19_Widths cR0_19_Widths (readW zSh (writeS a0).1 7 2).Widths, oR (kint .i64) 3 zE AR0_19_Heights cR0_19_Heights (readW zSh (writeS a0).1 7 2).Heights, oR kdTCell 58 zE AR0_19_Cells cR0_19_Cells (readW zSh (writeS a0).1 7 2).Cells, oR kdTRect 76 zE AR0_19_Merges cR0_19_Merges (readW zSh (writeS a0).1 7 2).Merges, zR qR0_16, oR (kslice kstr) 43 qR0_16 AR0_16 cR0_16 (parseS (writeS a0).1).1, zR qR0_13, oR (kslice kstr) 43 qR0_13 AR0_13 cR0_13 (exportS a0).1, bR b2 30 [.int .i64 a0.Right, .slice Aa0_Widths a0.Widths.length ca0_Widths, .slice Aa0_Heights a0.Heights.length ca0_Heights, .slice Aa0_Cells a0.Cells.length ca0_Cells, .slice Aa0_Merges a0.Merges.length ca0_Merges]] := hS
    refine wv rfl rfl rfl (R_assign rfl rfl) <| wv rfl rfl rfl (R_assign rfl rfl) ?_
    refine W_nil <| E_then (C_fr [(1, vstr a1), (5, vstr (writeS a0).1), (7, .slice AR0_13 (exportS a0).1.length cR0_13), (8, .int .i64 (exportS a0).2), (9, .slice AR0_16 (parseS (writeS a0).1).1.length cR0_16), (10, .int .i64 (parseS (writeS a0).1).2.1), (11, .int .i64 (parseS (writeS a0).1).2.2), (12, .pointer (some ⟨b25, 0, none⟩)), (13, .int .i64 (toldS (readE (writeS a0).1 7 2)).2), (14, .int .i64 (toldS (readE (writeS a0).1 7 2)).1)] rfl ?_)
    refine C_seq <| C_region <| wv rfl rfl rfl (R_loadN (cs := [.int .i64 (readW zSh (writeS a0).1 7 2).Right, .slice AR0_19_Widths (readW zSh (writeS a0).1 7 2).Widths.length cR0_19_Widths, .slice AR0_19_Heights (readW zSh (writeS a0).1 7 2).Heights.length cR0_19_Heights, .slice AR0_19_Cells (readW zSh (writeS a0).1 7 2).Cells.length cR0_19_Cells, .slice AR0_19_Merges (readW zSh (writeS a0).1 7 2).Merges.length cR0_19_Merges]) rfl rfl agg30 size30 rfl (boxcells (hS.bx 0 rfl) 0 rfl)) ?_
    refine W_cons rfl (by decide) (Sv_call rfl rfl rfl ent19 ?_)
    refine (write_calls (readW zSh (writeS a0).1 7 2) AR0_19_Widths cR0_19_Widths AR0_19_Heights cR0_19_Heights AR0_19_Cells cR0_19_Cells AR0_19_Merges cR0_19_Merges _ _ hS.out0 (hS.ow [] 1 rfl rfl (zle_E _)) (hS.cap 1 rfl) (hS.ow [] 2 rfl rfl (zle_E _)) (hS.cap 2 rfl) (hS.ow [] 3 rfl rfl (zle_E _)) (hS.cap 3 rfl) (hS.ow [] 4 rfl rfl (zle_E _)) (hS.cap 4 rfl) (by exact read_I _ _ _) (by exact HM.mono (by assumption) (hS.zl []))).mono ?_
    rintro e_ w27 ⟨rfl, hS_⟩
    refine ⟨_, rfl, ?_⟩
    have hS := hS.call0 hS_
    refine wv rfl rfl rfl (R_move rfl rfl) <| wv rfl rfl rfl (R_extract rfl rfl rfl) <| wv rfl rfl rfl (R_extract rfl rfl rfl) <| wv rfl rfl rfl (R_assign rfl rfl) <| wv rfl rfl rfl (R_assign rfl rfl) ?_
    refine W_nil <| E_then (C_fr [(1, vstr a1), (5, vstr (writeS a0).1), (7, .slice AR0_13 (exportS a0).1.length cR0_13), (8, .int .i64 (exportS a0).2), (9, .slice AR0_16 (parseS (writeS a0).1).1.length cR0_16), (10, .int .i64 (parseS (writeS a0).1).2.1), (11, .int .i64 (parseS (writeS a0).1).2.2), (13, .int .i64 (toldS (readE (writeS a0).1 7 2)).2), (14, .int .i64 (toldS (readE (writeS a0).1 7 2)).1), (15, vstr (writeS (readW zSh (writeS a0).1 7 2)).1), (16, .int .i64 (writeS (readW zSh (writeS a0).1 7 2)).2)] rfl ?_)
    refine C_seq <| C_region <| wv rfl rfl rfl (R_move rfl rfl) <| wv rfl rfl rfl (R_bin rfl rfl rfl rfl rfl) <| wv rfl rfl rfl (R_move rfl rfl) ?_
    have hk29 : (((exportS a0).2 != 0)) = false := by rw [hb1.ok]; rfl
    have hk29p : (exportS a0).2 = 0 := by simpa using hk29
    refine W_cons rfl (by decide) (Sv_gt rfl rfl rfl hk29 (Sv_val rfl (R_move rfl rfl) ?_))
    refine W_cons rfl (by decide) (Sv_gt rfl rfl rfl hk29 (Sv_val rfl (R_bin rfl rfl rfl rfl rfl) ?_))
    refine wv rfl rfl rfl (R_pick_f rfl rfl hk29 rfl) <| wv rfl rfl rfl (R_move rfl rfl) ?_
    have hk30 : (((parseS (writeS a0).1).2.2 != 0)) = false := by rw [hb1.parse]; rfl
    have hk30p : (parseS (writeS a0).1).2.2 = 0 := by simpa using hk30
    refine W_cons rfl (by decide) (Sv_gt rfl rfl rfl hk30 (Sv_val rfl (R_move rfl rfl) ?_))
    refine W_cons rfl (by decide) (Sv_gt rfl rfl rfl hk30 (Sv_val rfl (R_bin rfl rfl rfl rfl rfl) ?_))
    refine wv rfl rfl rfl (R_pick_f rfl rfl hk30 rfl) <| wv rfl rfl rfl (R_move rfl rfl) ?_
    have hk31 : (((toldS (readE (writeS a0).1 7 2)).1 != 0)) = false := by rw [hb1.told.1]; rfl
    have hk31p : (toldS (readE (writeS a0).1 7 2)).1 = 0 := by simpa using hk31
    refine W_cons rfl (by decide) (Sv_gt rfl rfl rfl hk31 (Sv_val rfl (R_move rfl rfl) ?_))
    refine W_cons rfl (by decide) (Sv_gt rfl rfl rfl hk31 (Sv_val rfl (R_bin rfl rfl rfl rfl rfl) ?_))
    refine wv rfl rfl rfl (R_pick_f rfl rfl hk31 rfl) <| wv rfl rfl rfl (R_move rfl rfl) ?_
    have hk32 : (((writeS (readW zSh (writeS a0).1 7 2)).2 != 0)) = false := by rw [hb1.again]; rfl
    have hk32p : (writeS (readW zSh (writeS a0).1 7 2)).2 = 0 := by simpa using hk32
    refine W_cons rfl (by decide) (Sv_gt rfl rfl rfl hk32 (Sv_val rfl (R_move rfl rfl) ?_))
    refine W_cons rfl (by decide) (Sv_gt rfl rfl rfl hk32 (Sv_val rfl (R_bin rfl rfl rfl rfl rfl) ?_))
    refine wv rfl rfl rfl (R_pick_f rfl rfl hk32 rfl) <| wv rfl rfl rfl (R_move rfl rfl) ?_
    have hk33 : (((parseS (writeS a0).1).2.1 != 0)) = false := by rw [hb1.parse]; rfl
    have hk33p : (parseS (writeS a0).1).2.1 = 0 := by simpa using hk33
    refine W_cons rfl (by decide) (Sv_gt rfl rfl rfl hk33 (Sv_val rfl (R_move rfl rfl) ?_))
    refine W_cons rfl (by decide) (Sv_gt rfl rfl rfl hk33 (Sv_val rfl (R_bin rfl rfl rfl rfl rfl) ?_))
    refine wv rfl rfl rfl (R_pick_f rfl rfl hk33 rfl) <| wv rfl rfl rfl (R_move rfl rfl) ?_
    have hk34 : (((toldS (readE (writeS a0).1 7 2)).2 != 0)) = false := by rw [hb1.told.2]; rfl
    have hk34p : (toldS (readE (writeS a0).1 7 2)).2 = 0 := by simpa using hk34
    refine W_cons rfl (by decide) (Sv_gt rfl rfl rfl hk34 (Sv_val rfl (R_move rfl rfl) ?_))
    refine W_cons rfl (by decide) (Sv_gt rfl rfl rfl hk34 (Sv_val rfl (R_move rfl rfl) ?_))
    refine W_cons rfl (by decide) (Sv_gt rfl rfl rfl hk34 (Sv_val rfl (R_strneq rfl rfl rfl) ?_))
    refine wv rfl rfl rfl (R_pick_f rfl rfl hk34 rfl) <| wv rfl rfl rfl (R_move rfl rfl) ?_
    have hk35 : (!decide ((writeS (readW zSh (writeS a0).1 7 2)).1 = (writeS a0).1)) = false := by rw [hb1.again]; simp
    have hk35p : (writeS (readW zSh (writeS a0).1 7 2)).1 = (writeS a0).1 := by simpa using hk35
    refine W_cons rfl (by decide) (Sv_gt rfl rfl rfl hk35 (Sv_val rfl (R_move rfl rfl) ?_))
    refine W_cons rfl (by decide) (Sv_gt rfl rfl rfl hk35 (Sv_val rfl (R_move rfl rfl) ?_))
    refine W_cons rfl (by decide) (Sv_gt rfl rfl rfl hk35 (Sv_call rfl rfl rfl ent14 ?_))
    refine (same_calls (exportS a0).1 AR0_13 cR0_13 (parseS (writeS a0).1).1 AR0_16 cR0_16 _ _ hS.out0 (hS.ow [] 8 rfl rfl (hS.zq [] 7 rfl rfl)) (hS.cap 8 rfl) (hS.ow [] 6 rfl rfl (hS.zq [] 5 rfl rfl)) (hS.cap 6 rfl) ).mono ?_
    rintro e_ w36 ⟨rfl, hS_⟩
    refine ⟨_, rfl, ?_⟩
    have hS := hS.call0 hS_
    refine W_cons rfl (by decide) (Sv_gt rfl rfl rfl hk35 (Sv_val rfl (R_un rfl rfl rfl) ?_))
    refine wv rfl rfl rfl (R_pick_f rfl rfl hk35 rfl) ?_
    refine W_nil <| E_then (C_fr [(1, vstr a1), (97, .bool (!(decide ((exportS a0).1 = (parseS (writeS a0).1).1))))] rfl ?_)
    have hk38 : (!(decide ((exportS a0).1 = (parseS (writeS a0).1).1))) = false := by rw [hb1.parse]; simp
    have hk38p : (decide ((exportS a0).1 = (parseS (writeS a0).1).1) = true) := by simpa using hk38
    refine C_else rfl hk38 ?_
    refine C_skip <| E_then <| C_seq <| C_region <| wv rfl rfl rfl (R_move rfl rfl) ?_
    refine W_cons rfl (by decide) (Sv_call rfl rfl rfl ent21 ?_)
    refine (read_calls a1 7 2 _ _ hS.out0  (by (intro _; exact recB_parse (.inl hgl))) (by exact ET.mono (by assumption) (hS.zl []))).mono ?_
    rintro e_ w39 ⟨AR0_40_Widths, cR0_40_Widths, AR0_40_Heights, cR0_40_Heights, AR0_40_Cells, cR0_40_Cells, AR0_40_Merges, cR0_40_Merges, rfl, hS_⟩
    refine ⟨_, rfl, ?_⟩
    have hS := hS.call0 hS_
    have hp41 := hS.cap 0 rfl
    have hlhp41 := hp41.le
    have hmhp41 := hp41.mx
    have hp42 := hS.cap 1 rfl
    have hlhp42 := hp42.le
    have hmhp42 := hp42.mx
    have hp43 := hS.cap 2 rfl
    have hlhp43 := hp43.le
    have hmhp43 := hp43.mx
    have hp44 := hS.cap 3 rfl
    have hlhp44 := hp44.le
    have hmhp44 := hp44.mx
    refine wv rfl rfl rfl (R_move rfl rfl) <| wv rfl rfl rfl (R_extract rfl rfl rfl) <| wv rfl rfl rfl (R_extract rfl rfl rfl) <| wv rfl rfl rfl (R_extract rfl rfl rfl) ?_
    refine W_cons rfl (by decide) (S_box hS rfl (R_alloc rfl alloc30) (fun b46 w45 hS => ?_))
    refine W_cons0 rfl (S_store hS 0 rfl rfl rfl rfl rfl size30 (one_cons rfl (one_cons rfl (one_cons rfl (one_cons rfl (one_cons rfl one_nil))))) (Nat.le_of_ble_eq_true rfl) (fun w47 hS => ?_))
    have hS : Sp (FF []) w z w47 [bR b46 30 [.int .i64 (readW zSh a1 7 2).Right, .slice AR0_40_Widths (readW zSh a1 7 2).Widths.length cR0_40_Widths, .slice AR0_40_Heights (readW zSh a1 7 2).Heights.length cR0_40_Heights, .slice AR0_40_Cells (readW zSh a1 7 2).Cells.length cR0_40_Cells, .slice AR0_40_Merges (readW zSh a1 7 2).Merges.length cR0_40_Merges], oR (kint .i64) 3 zE AR0_40_Widths cR0_40_Widths (readW zSh a1 7 2).Widths, oR (kint .i64) 3 zE AR0_40_Heights cR0_40_Heights (readW zSh a1 7 2).Heights, oR kdTCell 58 zE AR0_40_Cells cR0_40_Cells (readW zSh a1 7 2).Cells, oR kdTRect 76 zE AR0_40_Merges cR0_40_Merges (readW zSh a1 7 2).Merges, bR b25 30 [.int .i64 (readW zSh (writeS a0).1 7 2).Right, .slice AR0_19_Widths (readW zSh (writeS a0).1 7 2).Widths.length cR0_19_Widths, .slice AR0_19_Heights (readW zSh (writeS a0).1 7 2).Heights.length cR0_19_Heights, .slice AR0_19_Cells (readW zSh (writeS a0).1 7 2).Cells.length cR0_19_Cells, .slice AR0_19_Merges (readW zSh (writeS a0).1 7 2).Merges.length cR0_19_Merges], oR (kint .i64) 3 zE AR0_19_Widths cR0_19_Widths (readW zSh (writeS a0).1 7 2).Widths, oR (kint .i64) 3 zE AR0_19_Heights cR0_19_Heights (readW zSh (writeS a0).1 7 2).Heights, oR kdTCell 58 zE AR0_19_Cells cR0_19_Cells (readW zSh (writeS a0).1 7 2).Cells, oR kdTRect 76 zE AR0_19_Merges cR0_19_Merges (readW zSh (writeS a0).1 7 2).Merges, zR qR0_16, oR (kslice kstr) 43 qR0_16 AR0_16 cR0_16 (parseS (writeS a0).1).1, zR qR0_13, oR (kslice kstr) 43 qR0_13 AR0_13 cR0_13 (exportS a0).1, bR b2 30 [.int .i64 a0.Right, .slice Aa0_Widths a0.Widths.length ca0_Widths, .slice Aa0_Heights a0.Heights.length ca0_Heights, .slice Aa0_Cells a0.Cells.length ca0_Cells, .slice Aa0_Merges a0.Merges.length ca0_Merges]] := hS
    refine wv rfl rfl rfl (R_assign rfl rfl) <| wv rfl rfl rfl (R_assign rfl rfl) ?_
    refine W_nil <| E_then (C_fr [(1, vstr a1), (17, .pointer (some ⟨b46, 0, none⟩)), (19, .int .i64 (toldS (readE a1 7 2)).1)] rfl ?_)
    refine C_seq <| C_seq <| C_region <| wv rfl rfl rfl (R_move rfl rfl) <| wv rfl rfl rfl (R_bin rfl rfl rfl rfl rfl) ?_
    refine W_nil <| E_then <| C_ite rfl (fun hC3 => ?_) (fun hC3 => ?_)
    ·have hC3p : ¬ (toldS (readE a1 7 2)).1 = 0 := by simpa using hC3
     have hrb := read_bad (t := a1) (w := 7) (h := 2) (by simpa using hC3)
     refine C_seq <| C_region <| wv rfl rfl rfl (R_loadN (cs := [.int .i64 (readW zSh a1 7 2).Right, .slice AR0_40_Widths (readW zSh a1 7 2).Widths.length cR0_40_Widths, .slice AR0_40_Heights (readW zSh a1 7 2).Heights.length cR0_40_Heights, .slice AR0_40_Cells (readW zSh a1 7 2).Cells.length cR0_40_Cells, .slice AR0_40_Merges (readW zSh a1 7 2).Merges.length cR0_40_Merges]) rfl rfl agg30 size30 rfl (boxcells (hS.bx 0 rfl) 0 rfl)) <| wv rfl rfl rfl (R_build (w' := w47) (ps := []) (vs := []) (r := .agg #[.int .i64 0, .slice none 0 0, .slice none 0 0, .slice none 0 0, .slice none 0 0]) rfl rfl rfl (by kernel_rfl)) ?_
     refine W_cons rfl (by decide) (Sv_call rfl rfl rfl ent13 ?_)
     refine (rshsame_calls (readW zSh a1 7 2) AR0_40_Widths cR0_40_Widths AR0_40_Heights cR0_40_Heights AR0_40_Cells cR0_40_Cells AR0_40_Merges cR0_40_Merges (⟨0, [], [], [], []⟩ : TSheet) none 0 none 0 none 0 none 0 _ _ hS.out0 (hS.ow [] 1 rfl rfl (zle_E _)) (hS.cap 1 rfl) (hS.ow [] 2 rfl rfl (zle_E _)) (hS.cap 2 rfl) (hS.ow [] 3 rfl rfl (zle_E _)) (hS.cap 3 rfl) (hS.ow [] 4 rfl rfl (zle_E _)) (hS.cap 4 rfl) (Rd.nil _ _ _) Cap.nil_ (Rd.nil _ _ _) Cap.nil_ (Rd.nil _ _ _) Cap.nil_ (Rd.nil _ _ _) Cap.nil_ ).mono ?_
     rintro e_ w48 ⟨rfl, hS_⟩
     refine ⟨_, rfl, ?_⟩
     have hS := hS.call0 hS_
     refine wv rfl rfl rfl (R_move rfl rfl) ?_
     have hk50 : (decide ((readW zSh a1 7 2) = (⟨0, [], [], [], []⟩ : TSheet))) = true := by exact decide_eq_true hrb
     refine W_cons rfl (by decide) (Sv_gt rfl rfl rfl hk50 (Sv_call rfl rfl rfl ent9 ?_))
     refine (pawake_calls  _ _ hS.out0  (by exact HM.mono (by assumption) (hS.zl [])) (by exact ET.mono (by assumption) (hS.zl []))).mono ?_
     rintro e_ w51 ⟨rfl, hS_⟩
     refine ⟨_, rfl, ?_⟩
     have hS := hS.call0 hS_
     refine wv rfl rfl rfl (R_pick_t rfl rfl hk50 rfl) <| wv rfl rfl rfl (R_assign rfl rfl) ?_
     refine W_nil <| E_then (C_fr [(4, .bool true)] rfl ?_)
     refine C_ret <| E_then_ret <| E_ret1 rfl rfl ?_
     exact ⟨Lret1 (Lbool (show true = true by rfl)), hS.fin [] (by decide) rfl⟩
    ·have hC3p : (toldS (readE a1 7 2)).1 = 0 := by simpa using hC3
     have hb2 := byte2_of (t := a1) (by simpa using hC3)
     refine C_skip <| E_then <| C_seq <| C_region <| wv rfl rfl rfl (R_move rfl rfl) ?_
     refine W_cons rfl (by decide) (Sv_call rfl rfl rfl ent25 ?_)
     refine (parse_calls a1 _ _ hS.out0  ).mono ?_
     rintro e_ w53 ⟨AR0_54, cR0_54, qR0_54, rfl, hS_⟩
     refine ⟨_, rfl, ?_⟩
     have hS := hS.call0 hS_
     have hp55 := hS.cap 1 rfl
     have hlhp55 := hp55.le
     have hmhp55 := hp55.mx
     refine wv rfl rfl rfl (R_move rfl rfl) <| wv rfl rfl rfl (R_extract rfl rfl rfl) <| wv rfl rfl rfl (R_extract rfl rfl rfl) <| wv rfl rfl rfl (R_extract rfl rfl rfl) <| wv rfl rfl rfl (R_assign rfl rfl) <| wv rfl rfl rfl (R_assign rfl rfl) <| wv rfl rfl rfl (R_assign rfl rfl) ?_
     refine W_nil <| E_then (C_fr [(1, vstr a1), (17, .pointer (some ⟨b46, 0, none⟩)), (20, .slice AR0_54 (parseS a1).1.length cR0_54), (22, .int .i64 (parseS a1).2.2)] rfl ?_)
     refine C_seq <| C_seq <| C_region <| wv rfl rfl rfl (R_move rfl rfl) <| wv rfl rfl rfl (R_bin rfl rfl rfl rfl rfl) ?_
     refine W_nil <| E_then ?_
     have hk56 : (((parseS a1).2.2 != 0)) = false := by rw [hb2.parse]; rfl
     have hk56p : (parseS a1).2.2 = 0 := by simpa using hk56
     refine C_else rfl hk56 ?_
     refine C_skip <| E_then <| C_seq <| C_seq <| C_region <| wv rfl rfl rfl (R_move rfl rfl) ?_
     refine W_cons rfl (by decide) (Sv_call rfl rfl rfl ent26 ?_)
     refine (tcheck_calls (parseS a1).1 AR0_54 cR0_54 _ _ hS.out0 (hS.ow [] 1 rfl rfl (hS.zq [] 0 rfl rfl)) (hS.cap 1 rfl) (by exact (recB_parse (t := a1) (.inl (by omega))).1) (by exact (recB_parse (t := a1) (.inl (by omega))).2)).mono ?_
     rintro e_ w57 ⟨rfl, hS_⟩
     refine ⟨_, rfl, ?_⟩
     have hS := hS.call0 hS_
     refine wv rfl rfl rfl (R_bin rfl rfl rfl rfl rfl) ?_
     refine W_nil <| E_then (C_fr [(1, vstr a1), (17, .pointer (some ⟨b46, 0, none⟩)), (122, .bool ((checkS (parseS a1).1) == 1))] rfl ?_)
     refine C_ite rfl (fun hC5 => ?_) (fun hC5 => ?_)
     ·have hC5p : (checkS (parseS a1).1) = 1 := by simpa using hC5
      refine C_seq <| C_region <| W_cons rfl (by decide) (Sv_call rfl rfl rfl ent9 ?_)
      refine (pawake_calls  _ _ hS.out0  (by exact HM.mono (by assumption) (hS.zl [])) (by exact ET.mono (by assumption) (hS.zl []))).mono ?_
      rintro e_ w59 ⟨rfl, hS_⟩
      refine ⟨_, rfl, ?_⟩
      have hS := hS.call0 hS_
      refine wv rfl rfl rfl (R_assign rfl rfl) ?_
      refine W_nil <| E_then <| C_ret <| E_then_ret <| E_ret1 rfl rfl ?_
      exact ⟨Lret1 (Lbool (show true = true by rfl)), hS.fin [] (by decide) rfl⟩
     ·have hC5p : ¬ ((checkS (parseS a1).1) = 1) := by simpa using hC5
      have hb3 := hb2.write (by simpa using hC5)
      refine C_skip <| E_then <| C_seq <| C_region <| wv rfl rfl rfl (R_loadN (cs := [.int .i64 (readW zSh a1 7 2).Right, .slice AR0_40_Widths (readW zSh a1 7 2).Widths.length cR0_40_Widths, .slice AR0_40_Heights (readW zSh a1 7 2).Heights.length cR0_40_Heights, .slice AR0_40_Cells (readW zSh a1 7 2).Cells.length cR0_40_Cells, .slice AR0_40_Merges (readW zSh a1 7 2).Merges.length cR0_40_Merges]) rfl rfl agg30 size30 rfl (boxcells (hS.bx 2 rfl) 0 rfl)) ?_
      refine W_cons rfl (by decide) (Sv_call rfl rfl rfl ent19 ?_)
      refine (write_calls (readW zSh a1 7 2) AR0_40_Widths cR0_40_Widths AR0_40_Heights cR0_40_Heights AR0_40_Cells cR0_40_Cells AR0_40_Merges cR0_40_Merges _ _ hS.out0 (hS.ow [] 3 rfl rfl (zle_E _)) (hS.cap 3 rfl) (hS.ow [] 4 rfl rfl (zle_E _)) (hS.cap 4 rfl) (hS.ow [] 5 rfl rfl (zle_E _)) (hS.cap 5 rfl) (hS.ow [] 6 rfl rfl (zle_E _)) (hS.cap 6 rfl) (by exact read_I _ _ _) (by exact HM.mono (by assumption) (hS.zl []))).mono ?_
      rintro e_ w61 ⟨rfl, hS_⟩
      refine ⟨_, rfl, ?_⟩
      have hS := hS.call0 hS_
      refine wv rfl rfl rfl (R_move rfl rfl) <| wv rfl rfl rfl (R_extract rfl rfl rfl) <| wv rfl rfl rfl (R_extract rfl rfl rfl) <| wv rfl rfl rfl (R_assign rfl rfl) <| wv rfl rfl rfl (R_assign rfl rfl) ?_
      refine W_nil <| E_then (C_fr [(1, vstr a1), (23, vstr (writeS (readW zSh a1 7 2)).1), (24, .int .i64 (writeS (readW zSh a1 7 2)).2)] rfl ?_)
      refine C_seq <| C_region <| wv rfl rfl rfl (R_move rfl rfl) ?_
      refine W_cons rfl (by decide) (Sv_call rfl rfl rfl ent27 ?_)
      refine (qtidy_calls a1 _ _ hS.out0  (by exact HM.mono (by assumption) (hS.zl []))).mono ?_
      rintro e_ w63 ⟨rfl, hS_⟩
      refine ⟨_, rfl, ?_⟩
      have hS := hS.call0 hS_
      refine wv rfl rfl rfl (R_move rfl rfl) <| wv rfl rfl rfl (R_extract rfl rfl rfl) <| wv rfl rfl rfl (R_extract rfl rfl rfl) <| wv rfl rfl rfl (R_extract rfl rfl rfl) <| wv rfl rfl rfl (R_assign rfl rfl) <| wv rfl rfl rfl (R_assign rfl rfl) <| wv rfl rfl rfl (R_assign rfl rfl) ?_
      refine W_nil <| E_then (C_fr [(23, vstr (writeS (readW zSh a1 7 2)).1), (24, .int .i64 (writeS (readW zSh a1 7 2)).2), (25, vstr (tidyQ a1).1), (26, .int .i64 (tidyQ a1).2.1), (27, .int .i64 (tidyQ a1).2.2)] rfl ?_)
      refine C_seq <| C_region <| wv rfl rfl rfl (R_move rfl rfl) <| wv rfl rfl rfl (R_move rfl rfl) <| wv rfl rfl rfl (R_bin rfl rfl rfl rfl rfl) <| wv rfl rfl rfl (R_move rfl rfl) ?_
      have hk65 : (((writeS (readW zSh a1 7 2)).2 == (tidyQ a1).2.2)) = true := by rw [hb3, hb2.tidy]; simp
      have hk65p : (writeS (readW zSh a1 7 2)).2 = (tidyQ a1).2.2 := by simpa using hk65
      refine W_cons rfl (by decide) (Sv_gt rfl rfl rfl hk65 (Sv_val rfl (R_move rfl rfl) ?_))
      refine W_cons rfl (by decide) (Sv_gt rfl rfl rfl hk65 (Sv_val rfl (R_move rfl rfl) ?_))
      refine W_cons rfl (by decide) (Sv_gt rfl rfl rfl hk65 (Sv_val rfl (R_streql rfl rfl rfl) ?_))
      refine wv rfl rfl rfl (R_pick_t rfl rfl hk65 rfl) <| wv rfl rfl rfl (R_move rfl rfl) ?_
      have hk66 : (decide ((writeS (readW zSh a1 7 2)).1 = (tidyQ a1).1)) = true := by rw [hb3, hb2.tidy]; simp
      have hk66p : (writeS (readW zSh a1 7 2)).1 = (tidyQ a1).1 := by simpa using hk66
      refine W_cons rfl (by decide) (Sv_gt rfl rfl rfl hk66 (Sv_val rfl (R_move rfl rfl) ?_))
      refine W_cons rfl (by decide) (Sv_gt rfl rfl rfl hk66 (Sv_val rfl (R_bin rfl rfl rfl rfl rfl) ?_))
      refine wv rfl rfl rfl (R_pick_t rfl rfl hk66 rfl) <| wv rfl rfl rfl (R_move rfl rfl) ?_
      have hk67 : (((tidyQ a1).2.1 == 0)) = true := by rw [hb2.tidy]; rfl
      have hk67p : (tidyQ a1).2.1 = 0 := by simpa using hk67
      refine W_cons rfl (by decide) (Sv_gt rfl rfl rfl hk67 (Sv_call rfl rfl rfl ent9 ?_))
      refine (pawake_calls  _ _ hS.out0  (by exact HM.mono (by assumption) (hS.zl [])) (by exact ET.mono (by assumption) (hS.zl []))).mono ?_
      rintro e_ w68 ⟨rfl, hS_⟩
      refine ⟨_, rfl, ?_⟩
      have hS := hS.call0 hS_
      refine wv rfl rfl rfl (R_pick_t rfl rfl hk67 rfl) <| wv rfl rfl rfl (R_assign rfl rfl) ?_
      refine W_nil <| E_then (C_fr [(4, .bool true)] rfl ?_)
      refine C_ret <| E_ret1 rfl rfl ?_
      exact ⟨Lret1 (Lbool (show true = true by rfl)), hS.fin [] (by decide) rfl⟩
   ·have hC1p : ¬ ((writeS a0).2 = 0) := by simpa using hC1
    refine C_skip <| E_then (C_fr [(1, vstr a1)] rfl ?_)
    refine C_seq <| C_region <| wv rfl rfl rfl (R_move rfl rfl) ?_
    refine W_cons rfl (by decide) (Sv_call rfl rfl rfl ent21 ?_)
    refine (read_calls a1 7 2 _ _ hS.out0  (by (intro _; exact recB_parse (.inl hgl))) (by exact ET.mono (by assumption) (hS.zl []))).mono ?_
    rintro e_ w70 ⟨AR0_71_Widths, cR0_71_Widths, AR0_71_Heights, cR0_71_Heights, AR0_71_Cells, cR0_71_Cells, AR0_71_Merges, cR0_71_Merges, rfl, hS_⟩
    refine ⟨_, rfl, ?_⟩
    have hS := hS.call0 hS_
    have hp72 := hS.cap 0 rfl
    have hlhp72 := hp72.le
    have hmhp72 := hp72.mx
    have hp73 := hS.cap 1 rfl
    have hlhp73 := hp73.le
    have hmhp73 := hp73.mx
    have hp74 := hS.cap 2 rfl
    have hlhp74 := hp74.le
    have hmhp74 := hp74.mx
    have hp75 := hS.cap 3 rfl
    have hlhp75 := hp75.le
    have hmhp75 := hp75.mx
    refine wv rfl rfl rfl (R_move rfl rfl) <| wv rfl rfl rfl (R_extract rfl rfl rfl) <| wv rfl rfl rfl (R_extract rfl rfl rfl) <| wv rfl rfl rfl (R_extract rfl rfl rfl) ?_
    refine W_cons rfl (by decide) (S_box hS rfl (R_alloc rfl alloc30) (fun b77 w76 hS => ?_))
    refine W_cons0 rfl (S_store hS 0 rfl rfl rfl rfl rfl size30 (one_cons rfl (one_cons rfl (one_cons rfl (one_cons rfl (one_cons rfl one_nil))))) (Nat.le_of_ble_eq_true rfl) (fun w78 hS => ?_))
    have hS : Sp (FF []) w z w78 [bR b77 30 [.int .i64 (readW zSh a1 7 2).Right, .slice AR0_71_Widths (readW zSh a1 7 2).Widths.length cR0_71_Widths, .slice AR0_71_Heights (readW zSh a1 7 2).Heights.length cR0_71_Heights, .slice AR0_71_Cells (readW zSh a1 7 2).Cells.length cR0_71_Cells, .slice AR0_71_Merges (readW zSh a1 7 2).Merges.length cR0_71_Merges], oR (kint .i64) 3 zE AR0_71_Widths cR0_71_Widths (readW zSh a1 7 2).Widths, oR (kint .i64) 3 zE AR0_71_Heights cR0_71_Heights (readW zSh a1 7 2).Heights, oR kdTCell 58 zE AR0_71_Cells cR0_71_Cells (readW zSh a1 7 2).Cells, oR kdTRect 76 zE AR0_71_Merges cR0_71_Merges (readW zSh a1 7 2).Merges, bR b2 30 [.int .i64 a0.Right, .slice Aa0_Widths a0.Widths.length ca0_Widths, .slice Aa0_Heights a0.Heights.length ca0_Heights, .slice Aa0_Cells a0.Cells.length ca0_Cells, .slice Aa0_Merges a0.Merges.length ca0_Merges]] := hS
    refine wv rfl rfl rfl (R_assign rfl rfl) <| wv rfl rfl rfl (R_assign rfl rfl) ?_
    refine W_nil <| E_then (C_fr [(1, vstr a1), (17, .pointer (some ⟨b77, 0, none⟩)), (19, .int .i64 (toldS (readE a1 7 2)).1)] rfl ?_)
    refine C_seq <| C_seq <| C_region <| wv rfl rfl rfl (R_move rfl rfl) <| wv rfl rfl rfl (R_bin rfl rfl rfl rfl rfl) ?_
    refine W_nil <| E_then <| C_ite rfl (fun hC3 => ?_) (fun hC3 => ?_)
    ·have hC3p : ¬ (toldS (readE a1 7 2)).1 = 0 := by simpa using hC3
     have hrb := read_bad (t := a1) (w := 7) (h := 2) (by simpa using hC3)
     refine C_seq <| C_region <| wv rfl rfl rfl (R_loadN (cs := [.int .i64 (readW zSh a1 7 2).Right, .slice AR0_71_Widths (readW zSh a1 7 2).Widths.length cR0_71_Widths, .slice AR0_71_Heights (readW zSh a1 7 2).Heights.length cR0_71_Heights, .slice AR0_71_Cells (readW zSh a1 7 2).Cells.length cR0_71_Cells, .slice AR0_71_Merges (readW zSh a1 7 2).Merges.length cR0_71_Merges]) rfl rfl agg30 size30 rfl (boxcells (hS.bx 0 rfl) 0 rfl)) <| wv rfl rfl rfl (R_build (w' := w78) (ps := []) (vs := []) (r := .agg #[.int .i64 0, .slice none 0 0, .slice none 0 0, .slice none 0 0, .slice none 0 0]) rfl rfl rfl (by kernel_rfl)) ?_
     refine W_cons rfl (by decide) (Sv_call rfl rfl rfl ent13 ?_)
     refine (rshsame_calls (readW zSh a1 7 2) AR0_71_Widths cR0_71_Widths AR0_71_Heights cR0_71_Heights AR0_71_Cells cR0_71_Cells AR0_71_Merges cR0_71_Merges (⟨0, [], [], [], []⟩ : TSheet) none 0 none 0 none 0 none 0 _ _ hS.out0 (hS.ow [] 1 rfl rfl (zle_E _)) (hS.cap 1 rfl) (hS.ow [] 2 rfl rfl (zle_E _)) (hS.cap 2 rfl) (hS.ow [] 3 rfl rfl (zle_E _)) (hS.cap 3 rfl) (hS.ow [] 4 rfl rfl (zle_E _)) (hS.cap 4 rfl) (Rd.nil _ _ _) Cap.nil_ (Rd.nil _ _ _) Cap.nil_ (Rd.nil _ _ _) Cap.nil_ (Rd.nil _ _ _) Cap.nil_ ).mono ?_
     rintro e_ w79 ⟨rfl, hS_⟩
     refine ⟨_, rfl, ?_⟩
     have hS := hS.call0 hS_
     refine wv rfl rfl rfl (R_move rfl rfl) ?_
     have hk81 : (decide ((readW zSh a1 7 2) = (⟨0, [], [], [], []⟩ : TSheet))) = true := by exact decide_eq_true hrb
     refine W_cons rfl (by decide) (Sv_gt rfl rfl rfl hk81 (Sv_call rfl rfl rfl ent9 ?_))
     refine (pawake_calls  _ _ hS.out0  (by exact HM.mono (by assumption) (hS.zl [])) (by exact ET.mono (by assumption) (hS.zl []))).mono ?_
     rintro e_ w82 ⟨rfl, hS_⟩
     refine ⟨_, rfl, ?_⟩
     have hS := hS.call0 hS_
     refine wv rfl rfl rfl (R_pick_t rfl rfl hk81 rfl) <| wv rfl rfl rfl (R_assign rfl rfl) ?_
     refine W_nil <| E_then (C_fr [(4, .bool true)] rfl ?_)
     refine C_ret <| E_then_ret <| E_ret1 rfl rfl ?_
     exact ⟨Lret1 (Lbool (show true = true by rfl)), hS.fin [] (by decide) rfl⟩
    ·have hC3p : (toldS (readE a1 7 2)).1 = 0 := by simpa using hC3
     have hb2 := byte2_of (t := a1) (by simpa using hC3)
     refine C_skip <| E_then <| C_seq <| C_region <| wv rfl rfl rfl (R_move rfl rfl) ?_
     refine W_cons rfl (by decide) (Sv_call rfl rfl rfl ent25 ?_)
     refine (parse_calls a1 _ _ hS.out0  ).mono ?_
     rintro e_ w84 ⟨AR0_85, cR0_85, qR0_85, rfl, hS_⟩
     refine ⟨_, rfl, ?_⟩
     have hS := hS.call0 hS_
     have hp86 := hS.cap 1 rfl
     have hlhp86 := hp86.le
     have hmhp86 := hp86.mx
     refine wv rfl rfl rfl (R_move rfl rfl) <| wv rfl rfl rfl (R_extract rfl rfl rfl) <| wv rfl rfl rfl (R_extract rfl rfl rfl) <| wv rfl rfl rfl (R_extract rfl rfl rfl) <| wv rfl rfl rfl (R_assign rfl rfl) <| wv rfl rfl rfl (R_assign rfl rfl) <| wv rfl rfl rfl (R_assign rfl rfl) ?_
     refine W_nil <| E_then (C_fr [(1, vstr a1), (17, .pointer (some ⟨b77, 0, none⟩)), (20, .slice AR0_85 (parseS a1).1.length cR0_85), (22, .int .i64 (parseS a1).2.2)] rfl ?_)
     refine C_seq <| C_seq <| C_region <| wv rfl rfl rfl (R_move rfl rfl) <| wv rfl rfl rfl (R_bin rfl rfl rfl rfl rfl) ?_
     refine W_nil <| E_then ?_
     have hk87 : (((parseS a1).2.2 != 0)) = false := by rw [hb2.parse]; rfl
     have hk87p : (parseS a1).2.2 = 0 := by simpa using hk87
     refine C_else rfl hk87 ?_
     refine C_skip <| E_then <| C_seq <| C_seq <| C_region <| wv rfl rfl rfl (R_move rfl rfl) ?_
     refine W_cons rfl (by decide) (Sv_call rfl rfl rfl ent26 ?_)
     refine (tcheck_calls (parseS a1).1 AR0_85 cR0_85 _ _ hS.out0 (hS.ow [] 1 rfl rfl (hS.zq [] 0 rfl rfl)) (hS.cap 1 rfl) (by exact (recB_parse (t := a1) (.inl (by omega))).1) (by exact (recB_parse (t := a1) (.inl (by omega))).2)).mono ?_
     rintro e_ w88 ⟨rfl, hS_⟩
     refine ⟨_, rfl, ?_⟩
     have hS := hS.call0 hS_
     refine wv rfl rfl rfl (R_bin rfl rfl rfl rfl rfl) ?_
     refine W_nil <| E_then (C_fr [(1, vstr a1), (17, .pointer (some ⟨b77, 0, none⟩)), (122, .bool ((checkS (parseS a1).1) == 1))] rfl ?_)
     refine C_ite rfl (fun hC5 => ?_) (fun hC5 => ?_)
     ·have hC5p : (checkS (parseS a1).1) = 1 := by simpa using hC5
      refine C_seq <| C_region <| W_cons rfl (by decide) (Sv_call rfl rfl rfl ent9 ?_)
      refine (pawake_calls  _ _ hS.out0  (by exact HM.mono (by assumption) (hS.zl [])) (by exact ET.mono (by assumption) (hS.zl []))).mono ?_
      rintro e_ w90 ⟨rfl, hS_⟩
      refine ⟨_, rfl, ?_⟩
      have hS := hS.call0 hS_
      refine wv rfl rfl rfl (R_assign rfl rfl) ?_
      refine W_nil <| E_then <| C_ret <| E_then_ret <| E_ret1 rfl rfl ?_
      exact ⟨Lret1 (Lbool (show true = true by rfl)), hS.fin [] (by decide) rfl⟩
     ·have hC5p : ¬ ((checkS (parseS a1).1) = 1) := by simpa using hC5
      have hb3 := hb2.write (by simpa using hC5)
      refine C_skip <| E_then <| C_seq <| C_region <| wv rfl rfl rfl (R_loadN (cs := [.int .i64 (readW zSh a1 7 2).Right, .slice AR0_71_Widths (readW zSh a1 7 2).Widths.length cR0_71_Widths, .slice AR0_71_Heights (readW zSh a1 7 2).Heights.length cR0_71_Heights, .slice AR0_71_Cells (readW zSh a1 7 2).Cells.length cR0_71_Cells, .slice AR0_71_Merges (readW zSh a1 7 2).Merges.length cR0_71_Merges]) rfl rfl agg30 size30 rfl (boxcells (hS.bx 2 rfl) 0 rfl)) ?_
      refine W_cons rfl (by decide) (Sv_call rfl rfl rfl ent19 ?_)
      refine (write_calls (readW zSh a1 7 2) AR0_71_Widths cR0_71_Widths AR0_71_Heights cR0_71_Heights AR0_71_Cells cR0_71_Cells AR0_71_Merges cR0_71_Merges _ _ hS.out0 (hS.ow [] 3 rfl rfl (zle_E _)) (hS.cap 3 rfl) (hS.ow [] 4 rfl rfl (zle_E _)) (hS.cap 4 rfl) (hS.ow [] 5 rfl rfl (zle_E _)) (hS.cap 5 rfl) (hS.ow [] 6 rfl rfl (zle_E _)) (hS.cap 6 rfl) (by exact read_I _ _ _) (by exact HM.mono (by assumption) (hS.zl []))).mono ?_
      rintro e_ w92 ⟨rfl, hS_⟩
      refine ⟨_, rfl, ?_⟩
      have hS := hS.call0 hS_
      refine wv rfl rfl rfl (R_move rfl rfl) <| wv rfl rfl rfl (R_extract rfl rfl rfl) <| wv rfl rfl rfl (R_extract rfl rfl rfl) <| wv rfl rfl rfl (R_assign rfl rfl) <| wv rfl rfl rfl (R_assign rfl rfl) ?_
      refine W_nil <| E_then (C_fr [(1, vstr a1), (23, vstr (writeS (readW zSh a1 7 2)).1), (24, .int .i64 (writeS (readW zSh a1 7 2)).2)] rfl ?_)
      refine C_seq <| C_region <| wv rfl rfl rfl (R_move rfl rfl) ?_
      refine W_cons rfl (by decide) (Sv_call rfl rfl rfl ent27 ?_)
      refine (qtidy_calls a1 _ _ hS.out0  (by exact HM.mono (by assumption) (hS.zl []))).mono ?_
      rintro e_ w94 ⟨rfl, hS_⟩
      refine ⟨_, rfl, ?_⟩
      have hS := hS.call0 hS_
      refine wv rfl rfl rfl (R_move rfl rfl) <| wv rfl rfl rfl (R_extract rfl rfl rfl) <| wv rfl rfl rfl (R_extract rfl rfl rfl) <| wv rfl rfl rfl (R_extract rfl rfl rfl) <| wv rfl rfl rfl (R_assign rfl rfl) <| wv rfl rfl rfl (R_assign rfl rfl) <| wv rfl rfl rfl (R_assign rfl rfl) ?_
      refine W_nil <| E_then (C_fr [(23, vstr (writeS (readW zSh a1 7 2)).1), (24, .int .i64 (writeS (readW zSh a1 7 2)).2), (25, vstr (tidyQ a1).1), (26, .int .i64 (tidyQ a1).2.1), (27, .int .i64 (tidyQ a1).2.2)] rfl ?_)
      refine C_seq <| C_region <| wv rfl rfl rfl (R_move rfl rfl) <| wv rfl rfl rfl (R_move rfl rfl) <| wv rfl rfl rfl (R_bin rfl rfl rfl rfl rfl) <| wv rfl rfl rfl (R_move rfl rfl) ?_
      have hk96 : (((writeS (readW zSh a1 7 2)).2 == (tidyQ a1).2.2)) = true := by rw [hb3, hb2.tidy]; simp
      have hk96p : (writeS (readW zSh a1 7 2)).2 = (tidyQ a1).2.2 := by simpa using hk96
      refine W_cons rfl (by decide) (Sv_gt rfl rfl rfl hk96 (Sv_val rfl (R_move rfl rfl) ?_))
      refine W_cons rfl (by decide) (Sv_gt rfl rfl rfl hk96 (Sv_val rfl (R_move rfl rfl) ?_))
      refine W_cons rfl (by decide) (Sv_gt rfl rfl rfl hk96 (Sv_val rfl (R_streql rfl rfl rfl) ?_))
      refine wv rfl rfl rfl (R_pick_t rfl rfl hk96 rfl) <| wv rfl rfl rfl (R_move rfl rfl) ?_
      have hk97 : (decide ((writeS (readW zSh a1 7 2)).1 = (tidyQ a1).1)) = true := by rw [hb3, hb2.tidy]; simp
      have hk97p : (writeS (readW zSh a1 7 2)).1 = (tidyQ a1).1 := by simpa using hk97
      refine W_cons rfl (by decide) (Sv_gt rfl rfl rfl hk97 (Sv_val rfl (R_move rfl rfl) ?_))
      refine W_cons rfl (by decide) (Sv_gt rfl rfl rfl hk97 (Sv_val rfl (R_bin rfl rfl rfl rfl rfl) ?_))
      refine wv rfl rfl rfl (R_pick_t rfl rfl hk97 rfl) <| wv rfl rfl rfl (R_move rfl rfl) ?_
      have hk98 : (((tidyQ a1).2.1 == 0)) = true := by rw [hb2.tidy]; rfl
      have hk98p : (tidyQ a1).2.1 = 0 := by simpa using hk98
      refine W_cons rfl (by decide) (Sv_gt rfl rfl rfl hk98 (Sv_call rfl rfl rfl ent9 ?_))
      refine (pawake_calls  _ _ hS.out0  (by exact HM.mono (by assumption) (hS.zl [])) (by exact ET.mono (by assumption) (hS.zl []))).mono ?_
      rintro e_ w99 ⟨rfl, hS_⟩
      refine ⟨_, rfl, ?_⟩
      have hS := hS.call0 hS_
      refine wv rfl rfl rfl (R_pick_t rfl rfl hk98 rfl) <| wv rfl rfl rfl (R_assign rfl rfl) ?_
      refine W_nil <| E_then (C_fr [(4, .bool true)] rfl ?_)
      refine C_ret <| E_ret1 rfl rfl ?_
      exact ⟨Lret1 (Lbool (show true = true by rfl)), hS.fin [] (by decide) rfl⟩
end Go.Proofs.YtaljccgfnmfhnaaGreatDoorG
set_option linter.all false
namespace Go.Proofs.YtaljccgfnmfhnaaGreatDoorG
open Go Go.RowKit
theorem cz_cell {w : World} {a : Addr} {v : Value} (h : w.cell? a = some v) : cz (cellsAt w) a = some v := by
  unfold World.cell? at h
  unfold cz cellsAt
  split at h
  · rename_i c e fr hh
    rw [hh]
    split at h
    · cases h
    · rename_i hs
      rw [if_neg hs]
      exact h
  · cases h
def Has (P : Program) (t : TypeId) {α : Type} (d : Kd α) (G : α → Prop) : Prop :=
  ∀ {H : Type} (enc : TypeId × Value → H) (W : World) (spare : Nat → Bool) (held : Bool) (fuel : Nat) (cs : List Value) (x : DataW H × List MemPlace),
    DataW.trod enc P W 0 spare held fuel t cs = some x → ∃ a, d.K (cellsAt W) a cs ∧ G a
def wfi (k : IntKind) (n : Int) : Prop := (Lit.int k n).wf = true
theorem wf64 {n : Int} (h : wfi .i64 n) : -9223372036854775808 ≤ n ∧ n ≤ 9223372036854775807 := by
  unfold wfi Lit.wf at h
  have h4 : IntKind.i64.min = -9223372036854775808 := by decide
  have h5 : IntKind.i64.max = 9223372036854775807 := by decide
  simp [h4, h5] at h
  exact h
theorem Has.int {P : Program} {t : TypeId} {k : IntKind} (ht : P.underlying t = some (.int k)) : Has P t (kint k) (wfi k) := fun enc W spare held fuel cs x h => by
  obtain ⟨n, h1, _, h2⟩ := DataW.trod_int ht h
  exact ⟨n, h1, h2⟩
theorem Has.bool {P : Program} {t : TypeId} (ht : P.underlying t = some .bool) : Has P t kbool (fun _ => True) := fun enc W spare held fuel cs x h => by
  obtain ⟨n, h1, _⟩ := DataW.trod_bool ht h
  exact ⟨n, h1, trivial⟩
theorem Has.str {P : Program} {t : TypeId} (ht : P.underlying t = some .string) : Has P t kstr (fun s => s.length ≤ maxLen) := fun enc W spare held fuel cs x h => by
  obtain ⟨⟨⟨l⟩⟩, h1, _, h2⟩ := DataW.trod_string ht h
  exact ⟨l, h1, h2⟩
theorem pick_list {α : Type} {Q : Nat → α → Prop} : ∀ n, (∀ i, i < n → ∃ a, Q i a) → ∃ xs : List α, xs.length = n ∧ ∀ i x, xs[i]? = some x → Q i x
  | 0, _ => ⟨[], rfl, fun i x h => by simp at h⟩
  | n + 1, h => by
    obtain ⟨xs, h1, h2⟩ := pick_list n (fun i hi => h i (by omega))
    obtain ⟨a, ha⟩ := h n (by omega)
    refine ⟨xs ++ [a], by simp [h1], fun i x hx => ?_⟩
    rcases Nat.lt_or_ge i n with hi | hi
    · rw [List.getElem?_append_left (by omega)] at hx
      exact h2 i x hx
    · rw [List.getElem?_append_right (by omega), h1] at hx
      have h3 : i - n = 0 := by
        have := (List.getElem?_eq_some_iff.1 hx).1
        simp at this
        omega
      rw [h3] at hx
      simp at hx
      subst hx
      have : i = n := by omega
      subst this
      exact ha
theorem Has.slice {P : Program} {t e : TypeId} {α : Type} {d : Kd α} {G : α → Prop} (ht : P.underlying t = some (.slice e)) (hc : P.cellsOf e = d.sz) (he : Has P e d G) : Has P t (kslice d) (fun xs => ∀ x ∈ xs, G x) := fun enc W spare held fuel cs x h => by
  rcases DataW.trod_slice ht h with ⟨rfl, _⟩ | ⟨a, len, cap, elems, rest, n, rfl, rfl, _, _, h2, h3, h4, h5, _⟩
  · exact ⟨[], ⟨none, 0, rfl, ⟨Nat.le_refl _, fun _ => rfl, by decide⟩, Rd.nil _ _ _⟩, by simp⟩
  · obtain ⟨xs, hl, hx⟩ := pick_list (Q := fun i x => G x ∧ ∃ cs, d.K (cellsAt W) x cs ∧ ∀ j u, cs[j]? = some u → cz (cellsAt W) (a.add (i * d.sz + j)) = some u) len (fun i hi => by
      have h6 := h5 i hi
      rw [List.getElem?_eq_getElem (by omega)] at h6
      obtain ⟨cs, h7, h8⟩ := Option.bind_eq_some_iff.1 h6
      obtain ⟨x, h9, h10⟩ := he enc W spare held n cs _ h8
      obtain ⟨_, h11, h12⟩ := World.cells?_some h7
      refine ⟨x, h10, cs, h9, fun j u hu => ?_⟩
      have hj : j < P.cellsOf e := by have := (List.getElem?_eq_some_iff.1 hu).1; omega
      have h13 := h12 j hj
      rw [hu, add_add, hc] at h13
      exact cz_cell h13)
    refine ⟨xs, ⟨some a, cap, by rw [hl], ⟨by omega, (fun h => by cases h), by simp only [maxLen] at h3; omega⟩, fun i x hi => ?_⟩, fun x hm => ?_⟩
    · obtain ⟨_, cs, h6, h7⟩ := hx i x hi
      exact ⟨a, cs, rfl, h6, h7⟩
    · obtain ⟨i, hi⟩ := List.getElem?_of_mem hm
      exact (hx i x hi).1
theorem agg_of {P : Program} {t : TypeId} {w : World} {r : Reach} {b : Nat} {v : Value} {fs : Array Field} (ht : P.underlying t = some (.struct fs)) (h : Value.okWide P w r b t v) : ∃ cs : List Value, v = .agg cs.toArray ∧ v.cells.toList = cs := by
  unfold Value.okWide at h
  rw [ht] at h
  obtain ⟨cs, rfl, _⟩ := h
  exact ⟨cs.toList, by simp, by simp [Value.cells]⟩
end Go.Proofs.YtaljccgfnmfhnaaGreatDoorG
set_option linter.all false
namespace Go.Proofs.YtaljccgfnmfhnaaGreatDoorG
open Go Go.RowKit
def Within (P : Program) (t : TypeId) {H : Type} (x : DataW H) : Prop := ∀ n ∈ x.weights P t, n ≤ reachBytes
def HasZ (P : Program) (t : TypeId) {α : Type} (d : Kd α) (G : α → Prop) : Prop :=
  ∀ {H : Type} (enc : TypeId × Value → H) (W : World) (spare : Nat → Bool) (held : Bool) (fuel : Nat) (cs : List Value) (x : DataW H × List MemPlace),
    DataW.trod enc P W 0 spare held fuel t cs = some x → Within P t x.1 → ∃ a, d.K (cellsAt W) a cs ∧ G a
theorem Has.z {P : Program} {t : TypeId} {α : Type} {d : Kd α} {G : α → Prop} (h : Has P t d G) : HasZ P t d G := fun enc W spare held fuel cs x hx _ => h enc W spare held fuel cs x hx
theorem HasZ.int {P : Program} {t : TypeId} {k : IntKind} (ht : P.underlying t = some (.int k)) : HasZ P t (kint k) (wfi k) := fun enc W spare held fuel cs x hx _ => Has.int ht enc W spare held fuel cs x hx
theorem HasZ.bool {P : Program} {t : TypeId} (ht : P.underlying t = some .bool) : HasZ P t kbool (fun _ => True) := fun enc W spare held fuel cs x hx _ => Has.bool ht enc W spare held fuel cs x hx
theorem HasZ.str {P : Program} {t : TypeId} (ht : P.underlying t = some .string) : HasZ P t kstr (fun s => s.length ≤ 140737488351232) := fun enc W spare held fuel cs x h hw => by
  obtain ⟨⟨⟨l⟩⟩, h1, rfl, h2⟩ := DataW.trod_string ht h
  refine ⟨l, h1, ?_⟩
  have := hw l.length (by simp [DataW.weights])
  exact this
theorem weightsAll_in {H : Type} {P : Program} {e : TypeId} : ∀ {l : List (DataW H)} {d : DataW H}, d ∈ l → ∀ n ∈ d.weights P e, n ∈ DataW.weightsAll P e l
  | d' :: r, d, hd, n, hn => by
    simp only [DataW.weightsAll, List.mem_append]
    rcases List.mem_cons.1 hd with rfl | h
    · exact Or.inl hn
    · exact Or.inr (weightsAll_in h n hn)
theorem HasZ.slice {P : Program} {t e : TypeId} {α : Type} {d : Kd α} {G : α → Prop} {B : Nat} (ht : P.underlying t = some (.slice e)) (hc : P.cellsOf e = d.sz) (hb : P.bytesOf e = B) (he : HasZ P e d G) : HasZ P t (kslice d) (fun xs => xs.length * B ≤ 140737488351232 ∧ ∀ x ∈ xs, G x) := fun enc W spare held fuel cs x h hw => by
  rcases DataW.trod_slice ht h with ⟨rfl, _⟩ | ⟨a, len, cap, elems, rest, n, rfl, rfl, rfl, _, h2, h3, h4, h5, _⟩
  · exact ⟨[], ⟨none, 0, rfl, ⟨Nat.le_refl _, fun _ => rfl, by decide⟩, Rd.nil _ _ _⟩, by simp, by simp⟩
  · have hw1 : (elems.length + rest.length) * P.bytesOf e ≤ reachBytes := hw _ (by simp [DataW.weights, ht])
    have hw2 : ∀ y ∈ elems, Within P e y.1 := fun y hy m hm => hw m (by
      simp only [DataW.weights, ht, List.mem_cons, List.mem_append]
      exact Or.inr (Or.inl (weightsAll_in (List.mem_map_of_mem hy) m hm)))
    obtain ⟨xs, hl, hx⟩ := pick_list (Q := fun i x => G x ∧ ∃ cs, d.K (cellsAt W) x cs ∧ ∀ j u, cs[j]? = some u → cz (cellsAt W) (a.add (i * d.sz + j)) = some u) len (fun i hi => by
      have h6 := h5 i hi
      rw [List.getElem?_eq_getElem (by omega)] at h6
      obtain ⟨cs, h7, h8⟩ := Option.bind_eq_some_iff.1 h6
      obtain ⟨x, h9, h10⟩ := he enc W spare held n cs _ h8 (hw2 _ (List.getElem_mem _))
      obtain ⟨_, h11, h12⟩ := World.cells?_some h7
      refine ⟨x, h10, cs, h9, fun j u hu => ?_⟩
      have hj : j < P.cellsOf e := by have := (List.getElem?_eq_some_iff.1 hu).1; omega
      have h13 := h12 j hj
      rw [hu, add_add, hc] at h13
      exact cz_cell h13)
    refine ⟨xs, ⟨some a, cap, by rw [hl], ⟨by omega, (fun h => by cases h), by simp only [maxLen] at h3; omega⟩, fun i x hi => ?_⟩, ?_, fun x hm => ?_⟩
    · obtain ⟨_, cs, h6, h7⟩ := hx i x hi
      exact ⟨a, cs, rfl, h6, h7⟩
    · subst hb
      rw [hl, ← h4]
      exact Nat.le_trans (Nat.mul_le_mul_right _ (Nat.le_add_right _ _)) hw1
    · obtain ⟨i, hi⟩ := List.getElem?_of_mem hm
      exact (hx i x hi).1
theorem weights_part {H : Type} {P : Program} {t : TypeId} {fs : Array Field} {xs : List (DataW H × List MemPlace)} {i : Nat} {f : Field} {y : DataW H × List MemPlace} (ht : P.underlying t = some (.struct fs)) (hf : fs[i]? = some f) (hy : xs[i]? = some y)
    (hw : Within P t (.agg (xs.map (·.1)) : DataW H)) : Within P f.type y.1 := fun n hn => hw n (by
  simp only [DataW.weights, ht]
  refine DataW.weights_mem_each (j := i) (t := f.type) (d := y.1) ?_ ?_ n hn
  · have : fs.toList[i]? = some f := by simpa using hf
    rw [List.getElem?_map, this]
    rfl
  · rw [List.getElem?_map, hy]
    rfl)
theorem within_arg {H : Type} {P : Program} {ts : List TypeId} {ds : List (DataW H)} (h : (DataW.weightsEach P ts ds).all (· ≤ reachBytes) = true) {j : Nat} {t : TypeId} {d : DataW H} (ht : ts[j]? = some t) (hd : ds[j]? = some d) : Within P t d := fun n hn =>
  of_decide_eq_true (List.all_eq_true.1 h n (DataW.weights_mem_each ht hd n hn))
end Go.Proofs.YtaljccgfnmfhnaaGreatDoorG
set_option linter.all false
namespace Go.Proofs.YtaljccgfnmfhnaaGreatDoorG
open Go Go.RowKit Go.Proofs
variable {H : Type} {enc : TypeId × Value → H}
theorem handed_and_shaped {a : Assume} {C : Checked} {os : Os} {f : FuncId} {fn : Func} {s : ChangeSpec} {conds : List PathCond} {apart fresh handsOn again : Bool} {X : World → Array Value → Prop}
    (hX : ∀ (w w' : World) (args : Array Value), w.heap = w'.heap → X w args → X w' args)
    (own : ownKnob C.prog.godebug = none) (started : os.Started) (noInit : C.prog.inits.idxOf? f = none) (hfn : C.prog.funcs[f]? = some fn)
    (witness : ∃ (w : World) (tape : Tape) (i : Input), w.os = os ∧ (w.forCall tape i).Shaped C.prog ∧ i.vars = [] ∧ Input.okWide C.prog (w.forCall tape i) .any w.heap.size f i ∧
      ((s.pre enc C.prog fn conds apart (w.forCall tape i).memory i.args ∧ X (w.forCall tape i).memory i.args) ∧ sizedMet enc C.prog fn (OpenSpec.ofChange s) apart (w.forCall tape i).memory i.args) ∧ a.holds C.prog (lone (Frame.enter C.prog f i.args .normal) [] (w.forCall tape i)))
    (contract : ∀ (W : World) (base : Nat) (args : Array Value) (ds gs : List (DataW H)) (before : List MemPlace),
      (∀ (j : Nat) t v, fn.params[j]? = some t → args[j]? = some v → Value.okWide C.prog W .any base t v) →
      DataW.Whole enc C.prog fn.params.toList s.vars apart W args.toList ds gs before →
      conds.all (PathCond.test C.prog ⟨fn.params.toList, ds, s.plain.varTypes C.prog, gs⟩) = true →
      (DataW.weightsEach C.prog (fn.params.toList ++ s.plain.varTypes C.prog) (ds ++ gs)).all (· ≤ reachBytes) = true → X W args →
      W.ShapedOpen C.prog →
      a.holds C.prog (lone (Frame.enter C.prog f args .normal) [] W) →
      Calls C.prog f args W fun e W' => ∃ v, e = .returned v ∧ s.post enc C.prog fn apart fresh handsOn again W args v W') :
    ReturnsInHanded a C os f .any (fun w args => (s.pre enc C.prog fn conds apart w args ∧ X w args) ∧ sizedMet enc C.prog fn (OpenSpec.ofChange s) apart w args) (s.post enc C.prog fn apart fresh handsOn again) := by
  refine returnsInHanded_of_calls own started noInit witness ?_
  intro w tape i _ hsh _ hok hpre hholds
  obtain ⟨_, _, _, fn', hfn', _, _, _, _, hval⟩ := hok
  have e : fn' = fn := Option.some.inj (hfn'.symm.trans hfn)
  subst e
  obtain ⟨⟨⟨ds, gs, before, hw, hc⟩, hx⟩, hz⟩ := hpre
  have hw' := DataW.Whole.of_heap (w' := w.forCall tape i) (by rfl) hw
  refine (contract (w.forCall tape i) w.heap.size i.args ds gs before hval hw' hc (hz.weights hw) (hX _ _ _ (by rfl) hx) hsh hholds).mono fun e W' ⟨v, he, hp⟩ => ?_
  subst he
  exact ChangeSpec.post_blind hp
theorem hm_of {W : World} (h : W.ShapedOpen Tryz.prog) : HM (cellsAt W) := by
  obtain ⟨cs, h1, h2, h3⟩ := h.1 (rho.g 1) #[.int .i64 0] 3 (of_decide_eq_true (by kernel_rfl)) (by kernel_rfl)
  obtain ⟨m, hm⟩ := cell_of_shapedOpen_int (P := Tryz.prog) (g := rho.g 1) (t := 3) (zero := #[.int .i64 0]) h (of_decide_eq_true (by kernel_rfl)) (by kernel_rfl) rfl (by kernel_rfl) (by kernel_rfl) Tryz.underlying3
  refine ⟨m, ?_⟩
  have hs : cs.size = 1 := h2
  simp only [World.cell?, h1] at hm
  simp only [cellsAt, h1]
  have h0 : cs[0]? = some (.int .i64 m) := by simpa using hm
  congr 1
  apply Array.ext
  · simpa using hs
  · intro i hi hj
    have : i = 0 := by omega
    subst this
    simp [Array.getElem?_eq_getElem hi] at h0
    simpa using h0
end Go.Proofs.YtaljccgfnmfhnaaGreatDoorG
set_option linter.all false
namespace Go.Proofs.YtaljccgfnmfhnaaGreatDoorG
open Go Go.RowKit Go.Proofs
theorem rt_at : (Tryz.prog.cutTypes.find? (·.1 == "internal/reflectlite.rtype")).map (·.2) = some 162 := by kernel_rfl
theorem err_rows : ((List.range Tryz.prog.types.size).filter fun t => Tryz.prog.rowNamed t [101, 114, 114, 111, 114]) = [64] := by kernel_rfl
theorem err_at : Tryz.prog.globalNamed "errors.errorType" = some 0 := by kernel_rfl
theorem err_handle : typeHandle Tryz.prog 64 = .pointer (some ⟨4, 64, none⟩) := by kernel_rfl
theorem et_of {W : World} {l : List (String × DataW Unit)} (h : laidMetH Tryz.prog l W)
    (hl : (l.filter fun x => x.2.handleName?.isSome) = [("errors.errorType", .iface "internal/reflectlite.rtype" (.agg [.ptr (.lit (.string [101, 114, 114, 111, 114]))]))]) : ET (cellsAt W) := by
  unfold laidMetH at h
  rw [hl] at h
  obtain ⟨_, h2⟩ := h
  have h3 := h2 _ (List.mem_singleton.2 rfl)
  obtain ⟨name, u, ty, e1, e2, e3, e4, e5⟩ := h3
  have en : name = [101, 114, 114, 111, 114] := (Option.some.inj e1).symm
  subst en
  obtain rfl := Option.some.inj (rt_at.symm.trans e2)
  have hm : ty ∈ (List.range Tryz.prog.types.size).filter fun t => Tryz.prog.rowNamed t [101, 114, 114, 111, 114] := List.mem_filter.2 ⟨List.mem_range.2 e3, e4⟩
  rw [err_rows] at hm
  obtain rfl := List.mem_singleton.1 hm
  rw [err_handle] at e5
  unfold World.var? at e5
  rw [err_at] at e5
  unfold ET cellsAt
  cases hh : W.heap[0]? with
  | none => simp [hh] at e5
  | some o => cases o <;> simp_all
noncomputable def hwO (os : Os) : World :=
  let w0 := World.holding Tryz.prog os ⟨#[], #[], []⟩
  { w0 with heap := w0.heap.modify 0 fun
      | .cells _ t frozen => .cells #[.iface 162 (.agg #[.pointer (some ⟨4, 64, none⟩)])] t frozen
      | o => o }
noncomputable def lwO (os : Os) (laid : List (String × DataW Unit)) : World := (hwO os).layVars Tryz.prog laid
theorem lwO_os (os : Os) (laid : List (String × DataW Unit)) : (lwO os laid).os = os := (World.layVars_os _ _ _).trans rfl
theorem lwO_met {os : Os} {laid : List (String × DataW Unit)} (args : Array Value) (hf : (hwO os).layFits Tryz.prog laid [] = true)
    (hi : (hwO os).layIfaces Tryz.prog laid (lwO os laid) = true) : laidMet Tryz.prog laid ((lwO os laid).forCall (fun _ _ => 0) ⟨#[], args, []⟩).memory := by
  have e1 : (laid.filter fun x => (laid.map (·.1)).contains x.1) = laid := List.filter_eq_self.2 fun x hx => List.contains_iff_mem.2 (List.mem_map.2 ⟨x, hx, rfl⟩)
  have e2 : (laid.filter fun x => !(laid.map (·.1)).contains x.1) = [] := List.filter_eq_nil_iff.2 fun x hx => by rw [List.contains_iff_mem.2 (List.mem_map.2 ⟨x, hx, rfl⟩)]; simp
  have h : laidMet Tryz.prog laid (lwO os laid) := laidMet_layVars (w0 := hwO os) (laid.map (·.1)) [] (by rw [e1]; rfl) (by rw [e1]; exact hf) (by rw [e1]; exact hi) (by rw [e2]; exact LaidIn.none)
  exact h.of_heap (by simp [World.memory, World.forCall, Input.heap])
end Go.Proofs.YtaljccgfnmfhnaaGreatDoorG
