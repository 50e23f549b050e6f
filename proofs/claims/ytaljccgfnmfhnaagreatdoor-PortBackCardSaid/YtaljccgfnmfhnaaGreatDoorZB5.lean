/- Walks and laws of this program: part 5. -/
import Derived.ChangeArms
import Derived.ChangeOld
import Derived.Handed
import Derived.HandedShaped
import Derived.LaidHandle
import Derived.Lay
import Derived.OpenShut
import Derived.ProofKit
import Derived.Shelf.Vars
import Derived.ShutString
import Derived.SizedLaws
import Derived.Test.YtaljccgfnmfhnaaGreatDoorZB4
import Derived.WalkKit
set_option linter.all false
set_option maxHeartbeats 8000000
set_option maxRecDepth 100000
namespace Go.Proofs.YtaljccgfnmfhnaaGreatDoorG
open Go Go.RowKit
theorem pawake_calls  (z : Z) (w : World) (hI : In z w [])  (p0 : HM z) (p1 : ET z) :
    Calls Tryz.prog 9 #[] w fun e w' => e = .returned (.bool true) ∧ Sp (FF []) w z w' [] := by
 have hS := hI.sp
 refine Calls_of (vs := []) (N := 83) Tryz.func9 rfl rfl (Nat.le_of_ble_eq_true rfl) ?_
 refine C_seq <| C_region <| wv rfl rfl rfl (R_assign rfl rfl) ?_
 refine W_nil <| E_then <| C_seq <| C_region <| W_cons rfl (by decide) (S_row (d := kstr) (q := zE) hS ([[97], [98]] : List St) rfl (R_buildSlice (ps := [(0, (.const (.string { data := #[97] }))), (1, (.const (.string { data := #[98] })))]) (vs := [vstr [97], vstr [98]]) (w' := w.alloc (.cells [vstr [97], vstr [98]].toArray 9)) (r := .slice (some ⟨w.heap.size, 0, none⟩) 2 2) rfl rfl rfl (by kernel_rfl)) (by simp [Reps, flat, kstr]) rfl (by decide) (fun g2 w1 hS => ?_))
 refine W_cons rfl (by decide) (S_row (d := kstr) (q := zE) hS ([[99]] : List St) rfl (R_buildSlice (ps := [(0, (.const (.string { data := #[99] })))]) (vs := [vstr [99]]) (w' := w1.alloc (.cells [vstr [99]].toArray 9)) (r := .slice (some ⟨w1.heap.size, 0, none⟩) 1 1) rfl rfl rfl (by kernel_rfl)) (by simp [Reps, flat, kstr]) rfl (by decide) (fun g4 w3 hS => ?_))
 obtain ⟨z7, hS⟩ := hS.famx
 have hcz8 := hS.cap 2 rfl
 obtain ⟨z8, hlez8, hrz8, hS⟩ := hS.fz 2 0 rfl rfl (by decide) (zle_E _)
 have hcz9 := hS.cap 1 rfl
 obtain ⟨z9, hlez9, hrz9, hS⟩ := hS.fz 1 0 rfl rfl (by decide) (zle_E _)
 have hrz8 := hrz8.mono hlez9
 refine W_cons rfl (by decide) (S_row (d := (kslice kstr)) (q := z9) hS ([([[97], [98]] : List St), ([[99]] : List St)] : List (List St)) rfl (R_buildSlice (ps := [(0, (.tmp 11)), (1, (.tmp 12))]) (vs := [.slice (some ⟨g2, 0, none⟩) ([[97], [98]] : List St).length 2, .slice (some ⟨g4, 0, none⟩) ([[99]] : List St).length 1]) (w' := w3.alloc (.cells [.slice (some ⟨g2, 0, none⟩) ([[97], [98]] : List St).length 2, .slice (some ⟨g4, 0, none⟩) ([[99]] : List St).length 1].toArray 43)) (r := .slice (some ⟨w3.heap.size, 0, none⟩) 2 2) rfl rfl rfl (by kernel_rfl)) ⟨_, _, rfl, ⟨_, _, rfl, hcz8, hrz8⟩, ⟨_, _, rfl, ⟨_, _, rfl, hcz9, hrz9⟩, rfl⟩⟩ rfl (by decide) (fun g6 w5 hS => ?_))
 refine W_cons rfl (by decide) (Sv_call rfl rfl rfl ent11 ?_)
 refine (import_calls ([([[97], [98]] : List St), ([[99]] : List St)] : List (List St)) (some ⟨g6, 0, none⟩) 2 5 1 _ _ hS.out0 (hS.ow [] 0 rfl rfl (hS.zq [] 1 rfl rfl)) (hS.cap 0 rfl) (by exact ⟨by decide +kernel, by decide +kernel⟩) (by exact ET.mono (by assumption) (hS.zl []))).mono ?_
 rintro e_ w10 ⟨AR0_11_Widths, cR0_11_Widths, AR0_11_Heights, cR0_11_Heights, AR0_11_Cells, cR0_11_Cells, AR0_11_Merges, cR0_11_Merges, rfl, hS_⟩
 refine ⟨_, rfl, ?_⟩
 have hS := hS.call0 hS_
 have hp12 := hS.cap 0 rfl
 have hlhp12 := hp12.le
 have hmhp12 := hp12.mx
 have hp13 := hS.cap 1 rfl
 have hlhp13 := hp13.le
 have hmhp13 := hp13.mx
 have hp14 := hS.cap 2 rfl
 have hlhp14 := hp14.le
 have hmhp14 := hp14.mx
 have hp15 := hS.cap 3 rfl
 have hlhp15 := hp15.le
 have hmhp15 := hp15.mx
 refine wv rfl rfl rfl (R_move rfl rfl) <| wv rfl rfl rfl (R_extract rfl rfl rfl) <| wv rfl rfl rfl (R_extract rfl rfl rfl) ?_
 refine W_cons rfl (by decide) (S_box hS rfl (R_alloc rfl alloc30) (fun b17 w16 hS => ?_))
 refine W_cons0 rfl (S_store hS 0 rfl rfl rfl rfl rfl size30 (one_cons rfl (one_cons rfl (one_cons rfl (one_cons rfl (one_cons rfl one_nil))))) (Nat.le_of_ble_eq_true rfl) (fun w18 hS => ?_))
 have hS : Sp (FF []) w z w18 [bR b17 30 [.int .i64 (fillW zSh (fillS ([([[97], [98]] : List St), ([[99]] : List St)] : List (List St))) 5 1).Right, .slice AR0_11_Widths (fillW zSh (fillS ([([[97], [98]] : List St), ([[99]] : List St)] : List (List St))) 5 1).Widths.length cR0_11_Widths, .slice AR0_11_Heights (fillW zSh (fillS ([([[97], [98]] : List St), ([[99]] : List St)] : List (List St))) 5 1).Heights.length cR0_11_Heights, .slice AR0_11_Cells (fillW zSh (fillS ([([[97], [98]] : List St), ([[99]] : List St)] : List (List St))) 5 1).Cells.length cR0_11_Cells, .slice AR0_11_Merges (fillW zSh (fillS ([([[97], [98]] : List St), ([[99]] : List St)] : List (List St))) 5 1).Merges.length cR0_11_Merges], oR (kint .i64) 3 zE AR0_11_Widths cR0_11_Widths (fillW zSh (fillS ([([[97], [98]] : List St), ([[99]] : List St)] : List (List St))) 5 1).Widths, oR (kint .i64) 3 zE AR0_11_Heights cR0_11_Heights (fillW zSh (fillS ([([[97], [98]] : List St), ([[99]] : List St)] : List (List St))) 5 1).Heights, oR kdTCell 58 zE AR0_11_Cells cR0_11_Cells (fillW zSh (fillS ([([[97], [98]] : List St), ([[99]] : List St)] : List (List St))) 5 1).Cells, oR kdTRect 76 zE AR0_11_Merges cR0_11_Merges (fillW zSh (fillS ([([[97], [98]] : List St), ([[99]] : List St)] : List (List St))) 5 1).Merges, oR (kslice kstr) 43 z9 (some ⟨g6, 0, none⟩) 2 ([([[97], [98]] : List St), ([[99]] : List St)] : List (List St)), zR z9] := hS
 refine wv rfl rfl rfl (R_assign rfl rfl) ?_
 refine W_nil <| E_then (C_fr [(1, .pointer (some ⟨b17, 0, none⟩)), (2, .int .i64 (faultS (fillS ([([[97], [98]] : List St), ([[99]] : List St)] : List (List St))) 5 1))] rfl ?_)
 refine C_seq <| C_region <| wv rfl rfl rfl (R_loadN (cs := [.int .i64 (fillW zSh (fillS ([([[97], [98]] : List St), ([[99]] : List St)] : List (List St))) 5 1).Right, .slice AR0_11_Widths (fillW zSh (fillS ([([[97], [98]] : List St), ([[99]] : List St)] : List (List St))) 5 1).Widths.length cR0_11_Widths, .slice AR0_11_Heights (fillW zSh (fillS ([([[97], [98]] : List St), ([[99]] : List St)] : List (List St))) 5 1).Heights.length cR0_11_Heights, .slice AR0_11_Cells (fillW zSh (fillS ([([[97], [98]] : List St), ([[99]] : List St)] : List (List St))) 5 1).Cells.length cR0_11_Cells, .slice AR0_11_Merges (fillW zSh (fillS ([([[97], [98]] : List St), ([[99]] : List St)] : List (List St))) 5 1).Merges.length cR0_11_Merges]) rfl rfl agg30 size30 rfl (boxcells (hS.bx 0 rfl) 0 rfl)) ?_
 refine W_cons rfl (by decide) (Sv_call rfl rfl rfl ent17 ?_)
 refine (export_calls (fillW zSh (fillS ([([[97], [98]] : List St), ([[99]] : List St)] : List (List St))) 5 1) AR0_11_Widths cR0_11_Widths AR0_11_Heights cR0_11_Heights AR0_11_Cells cR0_11_Cells AR0_11_Merges cR0_11_Merges _ _ hS.out0 (hS.ow [] 1 rfl rfl (zle_E _)) (hS.cap 1 rfl) (hS.ow [] 2 rfl rfl (zle_E _)) (hS.cap 2 rfl) (hS.ow [] 3 rfl rfl (zle_E _)) (hS.cap 3 rfl) (hS.ow [] 4 rfl rfl (zle_E _)) (hS.cap 4 rfl) (by exact imp_I _ _ _)).mono ?_
 rintro e_ w19 ⟨AR0_20, cR0_20, qR0_20, rfl, hS_⟩
 refine ⟨_, rfl, ?_⟩
 have hS := hS.call0 hS_
 have hp21 := hS.cap 1 rfl
 have hlhp21 := hp21.le
 have hmhp21 := hp21.mx
 refine wv rfl rfl rfl (R_move rfl rfl) <| wv rfl rfl rfl (R_extract rfl rfl rfl) <| wv rfl rfl rfl (R_extract rfl rfl rfl) <| wv rfl rfl rfl (R_assign rfl rfl) <| wv rfl rfl rfl (R_assign rfl rfl) ?_
 refine W_nil <| E_then (C_fr [(1, .pointer (some ⟨b17, 0, none⟩)), (2, .int .i64 (faultS (fillS ([([[97], [98]] : List St), ([[99]] : List St)] : List (List St))) 5 1)), (3, .slice AR0_20 (exportS (fillW zSh (fillS ([([[97], [98]] : List St), ([[99]] : List St)] : List (List St))) 5 1)).1.length cR0_20), (4, .int .i64 (exportS (fillW zSh (fillS ([([[97], [98]] : List St), ([[99]] : List St)] : List (List St))) 5 1)).2)] rfl ?_)
 refine C_seq <| C_region <| W_cons rfl (by decide) (Sv_call rfl rfl rfl ent21 ?_)
 refine (read_calls [97, 13, 10, 34, 98] 5 1 _ _ hS.out0  (by (intro _; exact recB_parse (.inl (by decide)))) (by exact ET.mono (by assumption) (hS.zl []))).mono ?_
 rintro e_ w22 ⟨AR0_23_Widths, cR0_23_Widths, AR0_23_Heights, cR0_23_Heights, AR0_23_Cells, cR0_23_Cells, AR0_23_Merges, cR0_23_Merges, rfl, hS_⟩
 refine ⟨_, rfl, ?_⟩
 have hS := hS.call0 hS_
 have hp24 := hS.cap 0 rfl
 have hlhp24 := hp24.le
 have hmhp24 := hp24.mx
 have hp25 := hS.cap 1 rfl
 have hlhp25 := hp25.le
 have hmhp25 := hp25.mx
 have hp26 := hS.cap 2 rfl
 have hlhp26 := hp26.le
 have hmhp26 := hp26.mx
 have hp27 := hS.cap 3 rfl
 have hlhp27 := hp27.le
 have hmhp27 := hp27.mx
 refine wv rfl rfl rfl (R_move rfl rfl) <| wv rfl rfl rfl (R_extract rfl rfl rfl) <| wv rfl rfl rfl (R_extract rfl rfl rfl) <| wv rfl rfl rfl (R_extract rfl rfl rfl) ?_
 refine W_cons rfl (by decide) (S_box hS rfl (R_alloc rfl alloc30) (fun b29 w28 hS => ?_))
 refine W_cons0 rfl (S_store hS 0 rfl rfl rfl rfl rfl size30 (one_cons rfl (one_cons rfl (one_cons rfl (one_cons rfl (one_cons rfl one_nil))))) (Nat.le_of_ble_eq_true rfl) (fun w30 hS => ?_))
 have hS : Sp (FF []) w z w30 [bR b29 30 [.int .i64 (readW zSh [97, 13, 10, 34, 98] 5 1).Right, .slice AR0_23_Widths (readW zSh [97, 13, 10, 34, 98] 5 1).Widths.length cR0_23_Widths, .slice AR0_23_Heights (readW zSh [97, 13, 10, 34, 98] 5 1).Heights.length cR0_23_Heights, .slice AR0_23_Cells (readW zSh [97, 13, 10, 34, 98] 5 1).Cells.length cR0_23_Cells, .slice AR0_23_Merges (readW zSh [97, 13, 10, 34, 98] 5 1).Merges.length cR0_23_Merges], oR (kint .i64) 3 zE AR0_23_Widths cR0_23_Widths (readW zSh [97, 13, 10, 34, 98] 5 1).Widths, oR (kint .i64) 3 zE AR0_23_Heights cR0_23_Heights (readW zSh [97, 13, 10, 34, 98] 5 1).Heights, oR kdTCell 58 zE AR0_23_Cells cR0_23_Cells (readW zSh [97, 13, 10, 34, 98] 5 1).Cells, oR kdTRect 76 zE AR0_23_Merges cR0_23_Merges (readW zSh [97, 13, 10, 34, 98] 5 1).Merges, zR qR0_20, oR (kslice kstr) 43 qR0_20 AR0_20 cR0_20 (exportS (fillW zSh (fillS ([([[97], [98]] : List St), ([[99]] : List St)] : List (List St))) 5 1)).1, bR b17 30 [.int .i64 (fillW zSh (fillS ([([[97], [98]] : List St), ([[99]] : List St)] : List (List St))) 5 1).Right, .slice AR0_11_Widths (fillW zSh (fillS ([([[97], [98]] : List St), ([[99]] : List St)] : List (List St))) 5 1).Widths.length cR0_11_Widths, .slice AR0_11_Heights (fillW zSh (fillS ([([[97], [98]] : List St), ([[99]] : List St)] : List (List St))) 5 1).Heights.length cR0_11_Heights, .slice AR0_11_Cells (fillW zSh (fillS ([([[97], [98]] : List St), ([[99]] : List St)] : List (List St))) 5 1).Cells.length cR0_11_Cells, .slice AR0_11_Merges (fillW zSh (fillS ([([[97], [98]] : List St), ([[99]] : List St)] : List (List St))) 5 1).Merges.length cR0_11_Merges], oR (kint .i64) 3 zE AR0_11_Widths cR0_11_Widths (fillW zSh (fillS ([([[97], [98]] : List St), ([[99]] : List St)] : List (List St))) 5 1).Widths, oR (kint .i64) 3 zE AR0_11_Heights cR0_11_Heights (fillW zSh (fillS ([([[97], [98]] : List St), ([[99]] : List St)] : List (List St))) 5 1).Heights, oR kdTCell 58 zE AR0_11_Cells cR0_11_Cells (fillW zSh (fillS ([([[97], [98]] : List St), ([[99]] : List St)] : List (List St))) 5 1).Cells, oR kdTRect 76 zE AR0_11_Merges cR0_11_Merges (fillW zSh (fillS ([([[97], [98]] : List St), ([[99]] : List St)] : List (List St))) 5 1).Merges, oR (kslice kstr) 43 z9 (some ⟨g6, 0, none⟩) 2 ([([[97], [98]] : List St), ([[99]] : List St)] : List (List St)), zR z9] := hS
 refine wv rfl rfl rfl (R_assign rfl rfl) <| wv rfl rfl rfl (R_assign rfl rfl) ?_
 refine W_nil <| E_then (C_fr [(1, .pointer (some ⟨b17, 0, none⟩)), (2, .int .i64 (faultS (fillS ([([[97], [98]] : List St), ([[99]] : List St)] : List (List St))) 5 1)), (3, .slice AR0_20 (exportS (fillW zSh (fillS ([([[97], [98]] : List St), ([[99]] : List St)] : List (List St))) 5 1)).1.length cR0_20), (4, .int .i64 (exportS (fillW zSh (fillS ([([[97], [98]] : List St), ([[99]] : List St)] : List (List St))) 5 1)).2), (6, .int .i64 (toldS (readE [97, 13, 10, 34, 98] 5 1)).2), (7, .int .i64 (toldS (readE [97, 13, 10, 34, 98] 5 1)).1)] rfl ?_)
 refine C_seq <| C_region <| W_cons rfl (by decide) (S_row (d := (kint .i64)) (q := zE) hS ([5, 5] : List Int) rfl (R_buildSlice (ps := [(0, (.const (.int .i64 5))), (1, (.const (.int .i64 5)))]) (vs := [.int .i64 5, .int .i64 5]) (w' := w30.alloc (.cells [.int .i64 5, .int .i64 5].toArray 3)) (r := .slice (some ⟨w30.heap.size, 0, none⟩) 2 2) rfl rfl rfl (by kernel_rfl)) (by simp [Reps, flat, kint]) rfl (by decide) (fun g32 w31 hS => ?_))
 refine W_cons rfl (by decide) (S_row (d := (kint .i64)) (q := zE) hS ([1] : List Int) rfl (R_buildSlice (ps := [(0, (.const (.int .i64 1)))]) (vs := [.int .i64 1]) (w' := w31.alloc (.cells [.int .i64 1].toArray 3)) (r := .slice (some ⟨w31.heap.size, 0, none⟩) 1 1) rfl rfl rfl (by kernel_rfl)) (by simp [Reps, flat, kint]) rfl (by decide) (fun g34 w33 hS => ?_))
 refine wv rfl rfl rfl (R_build (w' := w33) (ps := [(1, (.const (.int .i64 1))), (2, (.const (.string { data := #[120, 44, 121] })))]) (vs := [.int .i64 1, vstr [120, 44, 121]]) (r := .agg #[.int .i64 0, .int .i64 1, vstr [120, 44, 121], .int .i64 0, .int .i64 0, .int .i64 0]) rfl rfl rfl (by kernel_rfl)) ?_
 refine W_cons rfl (by decide) (S_row (d := kdTCell) (q := zE) hS ([(⟨0, 1, [120, 44, 121], (⟨0, 0, 0⟩ : TStyle)⟩ : TCell)] : List TCell) rfl (R_buildSlice (ps := [(0, (.tmp 30))]) (vs := [.agg #[.int .i64 0, .int .i64 1, vstr [120, 44, 121], .int .i64 0, .int .i64 0, .int .i64 0]]) (w' := w33.alloc (.cells [.int .i64 0, .int .i64 1, vstr [120, 44, 121], .int .i64 0, .int .i64 0, .int .i64 0].toArray 58)) (r := .slice (some ⟨w33.heap.size, 0, none⟩) 1 1) rfl rfl rfl (by kernel_rfl)) (by simp [Reps, flat, kdTCell]) rfl (by decide) (fun g36 w35 hS => ?_))
 refine wv rfl rfl rfl (R_build (w' := w35) (ps := [(1, (.tmp 28)), (2, (.tmp 29)), (3, (.tmp 31))]) (vs := [.slice (some ⟨g32, 0, none⟩) ([5, 5] : List Int).length 2, .slice (some ⟨g34, 0, none⟩) ([1] : List Int).length 1, .slice (some ⟨g36, 0, none⟩) ([(⟨0, 1, [120, 44, 121], (⟨0, 0, 0⟩ : TStyle)⟩ : TCell)] : List TCell).length 1]) (r := .agg #[.int .i64 0, .slice (some ⟨g32, 0, none⟩) ([5, 5] : List Int).length 2, .slice (some ⟨g34, 0, none⟩) ([1] : List Int).length 1, .slice (some ⟨g36, 0, none⟩) ([(⟨0, 1, [120, 44, 121], (⟨0, 0, 0⟩ : TStyle)⟩ : TCell)] : List TCell).length 1, .slice none 0 0]) rfl rfl rfl (by kernel_rfl)) ?_
 refine W_cons rfl (by decide) (Sv_call rfl rfl rfl ent19 ?_)
 refine (write_calls (⟨0, ([5, 5] : List Int), ([1] : List Int), ([(⟨0, 1, [120, 44, 121], (⟨0, 0, 0⟩ : TStyle)⟩ : TCell)] : List TCell), []⟩ : TSheet) (some ⟨g32, 0, none⟩) 2 (some ⟨g34, 0, none⟩) 1 (some ⟨g36, 0, none⟩) 1 none 0 _ _ hS.out0 (hS.ow [] 2 rfl rfl (zle_E _)) (hS.cap 2 rfl) (hS.ow [] 1 rfl rfl (zle_E _)) (hS.cap 1 rfl) (hS.ow [] 0 rfl rfl (zle_E _)) (hS.cap 0 rfl) (Rd.nil _ _ _) Cap.nil_ (by (refine ⟨by simp, by simp [I64], by decide, by decide⟩)) (by exact HM.mono (by assumption) (hS.zl []))).mono ?_
 rintro e_ w37 ⟨rfl, hS_⟩
 refine ⟨_, rfl, ?_⟩
 have hS := hS.call0 hS_
 refine wv rfl rfl rfl (R_move rfl rfl) <| wv rfl rfl rfl (R_extract rfl rfl rfl) <| wv rfl rfl rfl (R_extract rfl rfl rfl) <| wv rfl rfl rfl (R_assign rfl rfl) <| wv rfl rfl rfl (R_assign rfl rfl) ?_
 refine W_nil <| E_then (C_fr [(1, .pointer (some ⟨b17, 0, none⟩)), (2, .int .i64 (faultS (fillS ([([[97], [98]] : List St), ([[99]] : List St)] : List (List St))) 5 1)), (3, .slice AR0_20 (exportS (fillW zSh (fillS ([([[97], [98]] : List St), ([[99]] : List St)] : List (List St))) 5 1)).1.length cR0_20), (4, .int .i64 (exportS (fillW zSh (fillS ([([[97], [98]] : List St), ([[99]] : List St)] : List (List St))) 5 1)).2), (6, .int .i64 (toldS (readE [97, 13, 10, 34, 98] 5 1)).2), (7, .int .i64 (toldS (readE [97, 13, 10, 34, 98] 5 1)).1), (8, vstr (writeS (⟨0, ([5, 5] : List Int), ([1] : List Int), ([(⟨0, 1, [120, 44, 121], (⟨0, 0, 0⟩ : TStyle)⟩ : TCell)] : List TCell), []⟩ : TSheet)).1), (9, .int .i64 (writeS (⟨0, ([5, 5] : List Int), ([1] : List Int), ([(⟨0, 1, [120, 44, 121], (⟨0, 0, 0⟩ : TStyle)⟩ : TCell)] : List TCell), []⟩ : TSheet)).2)] rfl ?_)
 refine C_seq <| C_region <| wv rfl rfl rfl (R_move rfl rfl) <| wv rfl rfl rfl (R_bin rfl rfl rfl rfl rfl) <| wv rfl rfl rfl (R_move rfl rfl) ?_
 have hk39 : (((faultS (fillS ([([[97], [98]] : List St), ([[99]] : List St)] : List (List St))) 5 1) == 0)) = true := by decide +kernel
 have hk39p : (faultS (fillS ([([[97], [98]] : List St), ([[99]] : List St)] : List (List St))) 5 1) = 0 := by simpa using hk39
 refine W_cons rfl (by decide) (Sv_gt rfl rfl rfl hk39 (Sv_val rfl (R_fld rfl rfl fld30_1) ?_))
 refine W_cons rfl (by decide) (Sv_gt rfl rfl rfl hk39 (Sv_val rfl (R_load1 rfl rfl agg26 ((hS.bx 10 rfl).cell rfl)) ?_))
 refine W_cons rfl (by decide) (Sv_gt rfl rfl rfl hk39 (Sv_val rfl (R_len rfl rfl Tryz.underlying26) ?_))
 refine W_cons rfl (by decide) (Sv_gt rfl rfl rfl hk39 (Sv_val rfl (R_bin rfl rfl rfl rfl rfl) ?_))
 refine wv rfl rfl rfl (R_pick_t rfl rfl hk39 rfl) <| wv rfl rfl rfl (R_move rfl rfl) ?_
 have hk40 : ((((fillW zSh (fillS ([([[97], [98]] : List St), ([[99]] : List St)] : List (List St))) 5 1).Widths.length : Int) == 2)) = true := by decide +kernel
 have hk40p : ((fillW zSh (fillS ([([[97], [98]] : List St), ([[99]] : List St)] : List (List St))) 5 1).Widths.length : Int) = 2 := by simpa using hk40
 refine W_cons rfl (by decide) (Sv_gt rfl rfl rfl hk40 (Sv_val rfl (R_fld rfl rfl fld30_2) ?_))
 refine W_cons rfl (by decide) (Sv_gt rfl rfl rfl hk40 (Sv_val rfl (R_load1 rfl rfl agg26 ((hS.bx 10 rfl).cell rfl)) ?_))
 refine W_cons rfl (by decide) (Sv_gt rfl rfl rfl hk40 (Sv_val rfl (R_len rfl rfl Tryz.underlying26) ?_))
 refine W_cons rfl (by decide) (Sv_gt rfl rfl rfl hk40 (Sv_val rfl (R_bin rfl rfl rfl rfl rfl) ?_))
 refine wv rfl rfl rfl (R_pick_t rfl rfl hk40 rfl) <| wv rfl rfl rfl (R_move rfl rfl) ?_
 have hk41 : ((((fillW zSh (fillS ([([[97], [98]] : List St), ([[99]] : List St)] : List (List St))) 5 1).Heights.length : Int) == 2)) = true := by decide +kernel
 have hk41p : ((fillW zSh (fillS ([([[97], [98]] : List St), ([[99]] : List St)] : List (List St))) 5 1).Heights.length : Int) = 2 := by simpa using hk41
 refine W_cons rfl (by decide) (Sv_gt rfl rfl rfl hk41 (Sv_val rfl (R_fld rfl rfl fld30_3) ?_))
 refine W_cons rfl (by decide) (Sv_gt rfl rfl rfl hk41 (Sv_val rfl (R_load1 rfl rfl agg27 ((hS.bx 10 rfl).cell rfl)) ?_))
 refine W_cons rfl (by decide) (Sv_gt rfl rfl rfl hk41 (Sv_val rfl (R_len rfl rfl Tryz.underlying27) ?_))
 refine W_cons rfl (by decide) (Sv_gt rfl rfl rfl hk41 (Sv_val rfl (R_bin rfl rfl rfl rfl rfl) ?_))
 refine wv rfl rfl rfl (R_pick_t rfl rfl hk41 rfl) <| wv rfl rfl rfl (R_move rfl rfl) ?_
 have hk42 : ((((fillW zSh (fillS ([([[97], [98]] : List St), ([[99]] : List St)] : List (List St))) 5 1).Cells.length : Int) == 3)) = true := by decide +kernel
 have hk42p : ((fillW zSh (fillS ([([[97], [98]] : List St), ([[99]] : List St)] : List (List St))) 5 1).Cells.length : Int) = 3 := by simpa using hk42
 refine W_cons rfl (by decide) (Sv_gt rfl rfl rfl hk42 (Sv_val rfl (R_move rfl rfl) ?_))
 refine W_cons rfl (by decide) (Sv_gt rfl rfl rfl hk42 (Sv_val rfl (R_bin rfl rfl rfl rfl rfl) ?_))
 refine wv rfl rfl rfl (R_pick_t rfl rfl hk42 rfl) <| wv rfl rfl rfl (R_move rfl rfl) ?_
 have hk43 : (((exportS (fillW zSh (fillS ([([[97], [98]] : List St), ([[99]] : List St)] : List (List St))) 5 1)).2 == 0)) = true := by decide +kernel
 have hk43p : (exportS (fillW zSh (fillS ([([[97], [98]] : List St), ([[99]] : List St)] : List (List St))) 5 1)).2 = 0 := by simpa using hk43
 refine W_cons rfl (by decide) (Sv_gt rfl rfl rfl hk43 (Sv_val rfl (R_move rfl rfl) ?_))
 refine W_cons rfl (by decide) (Sv_gt rfl rfl rfl hk43 (S_row (d := kstr) (q := zE) hS ([[97], [98]] : List St) rfl (R_buildSlice (ps := [(0, (.const (.string { data := #[97] }))), (1, (.const (.string { data := #[98] })))]) (vs := [vstr [97], vstr [98]]) (w' := w37.alloc (.cells [vstr [97], vstr [98]].toArray 9)) (r := .slice (some ⟨w37.heap.size, 0, none⟩) 2 2) rfl rfl rfl (by kernel_rfl)) (by simp [Reps, flat, kstr]) rfl (by decide) (fun g45 w44 hS => ?_)))
 refine W_cons rfl (by decide) (Sv_gt rfl rfl rfl hk43 (S_row (d := kstr) (q := zE) hS ([[99], []] : List St) rfl (R_buildSlice (ps := [(0, (.const (.string { data := #[99] }))), (1, (.const (.string { data := #[] })))]) (vs := [vstr [99], vstr []]) (w' := w44.alloc (.cells [vstr [99], vstr []].toArray 9)) (r := .slice (some ⟨w44.heap.size, 0, none⟩) 2 2) rfl rfl rfl (by kernel_rfl)) (by simp [Reps, flat, kstr]) rfl (by decide) (fun g47 w46 hS => ?_)))
 obtain ⟨z50, hS⟩ := hS.famx
 have hcz51 := hS.cap 2 rfl
 obtain ⟨z51, hlez51, hrz51, hS⟩ := hS.fz 2 0 rfl rfl (by decide) (zle_E _)
 have hcz52 := hS.cap 1 rfl
 obtain ⟨z52, hlez52, hrz52, hS⟩ := hS.fz 1 0 rfl rfl (by decide) (zle_E _)
 have hrz51 := hrz51.mono hlez52
 refine W_cons rfl (by decide) (Sv_gt rfl rfl rfl hk43 (S_row (d := (kslice kstr)) (q := z52) hS ([([[97], [98]] : List St), ([[99], []] : List St)] : List (List St)) rfl (R_buildSlice (ps := [(0, (.tmp 62)), (1, (.tmp 63))]) (vs := [.slice (some ⟨g45, 0, none⟩) ([[97], [98]] : List St).length 2, .slice (some ⟨g47, 0, none⟩) ([[99], []] : List St).length 2]) (w' := w46.alloc (.cells [.slice (some ⟨g45, 0, none⟩) ([[97], [98]] : List St).length 2, .slice (some ⟨g47, 0, none⟩) ([[99], []] : List St).length 2].toArray 43)) (r := .slice (some ⟨w46.heap.size, 0, none⟩) 2 2) rfl rfl rfl (by kernel_rfl)) ⟨_, _, rfl, ⟨_, _, rfl, hcz51, hrz51⟩, ⟨_, _, rfl, ⟨_, _, rfl, hcz52, hrz52⟩, rfl⟩⟩ rfl (by decide) (fun g49 w48 hS => ?_)))
 refine W_cons rfl (by decide) (Sv_gt rfl rfl rfl hk43 (Sv_call rfl rfl rfl ent14 ?_))
 refine (same_calls (exportS (fillW zSh (fillS ([([[97], [98]] : List St), ([[99]] : List St)] : List (List St))) 5 1)).1 AR0_20 cR0_20 ([([[97], [98]] : List St), ([[99], []] : List St)] : List (List St)) (some ⟨g49, 0, none⟩) 2 _ _ hS.out0 (hS.ow [] 11 rfl rfl (hS.zq [] 10 rfl rfl)) (hS.cap 11 rfl) (hS.ow [] 0 rfl rfl (hS.zq [] 1 rfl rfl)) (hS.cap 0 rfl) ).mono ?_
 rintro e_ w53 ⟨rfl, hS_⟩
 refine ⟨_, rfl, ?_⟩
 have hS := hS.call0 hS_
 refine wv rfl rfl rfl (R_pick_t rfl rfl hk43 rfl) <| wv rfl rfl rfl (R_move rfl rfl) ?_
 have hk55 : (decide ((exportS (fillW zSh (fillS ([([[97], [98]] : List St), ([[99]] : List St)] : List (List St))) 5 1)).1 = ([([[97], [98]] : List St), ([[99], []] : List St)] : List (List St)))) = true := by decide +kernel
 refine W_cons rfl (by decide) (Sv_gt rfl rfl rfl hk55 (Sv_val rfl (R_move rfl rfl) ?_))
 refine W_cons rfl (by decide) (Sv_gt rfl rfl rfl hk55 (Sv_val rfl (R_bin rfl rfl rfl rfl rfl) ?_))
 refine wv rfl rfl rfl (R_pick_t rfl rfl hk55 rfl) <| wv rfl rfl rfl (R_move rfl rfl) ?_
 have hk56 : (((toldS (readE [97, 13, 10, 34, 98] 5 1)).2 == 5)) = true := by decide +kernel
 have hk56p : (toldS (readE [97, 13, 10, 34, 98] 5 1)).2 = 5 := by simpa using hk56
 refine W_cons rfl (by decide) (Sv_gt rfl rfl rfl hk56 (Sv_val rfl (R_move rfl rfl) ?_))
 refine W_cons rfl (by decide) (Sv_gt rfl rfl rfl hk56 (Sv_val rfl (R_bin rfl rfl rfl rfl rfl) ?_))
 refine wv rfl rfl rfl (R_pick_t rfl rfl hk56 rfl) <| wv rfl rfl rfl (R_move rfl rfl) ?_
 have hk57 : (((toldS (readE [97, 13, 10, 34, 98] 5 1)).1 == 2)) = true := by decide +kernel
 have hk57p : (toldS (readE [97, 13, 10, 34, 98] 5 1)).1 = 2 := by simpa using hk57
 refine W_cons rfl (by decide) (Sv_gt rfl rfl rfl hk57 (Sv_val rfl (R_move rfl rfl) ?_))
 refine W_cons rfl (by decide) (Sv_gt rfl rfl rfl hk57 (Sv_val rfl (R_streql rfl rfl rfl) ?_))
 refine wv rfl rfl rfl (R_pick_t rfl rfl hk57 rfl) <| wv rfl rfl rfl (R_move rfl rfl) ?_
 have hk58 : (decide ((writeS (⟨0, ([5, 5] : List Int), ([1] : List Int), ([(⟨0, 1, [120, 44, 121], (⟨0, 0, 0⟩ : TStyle)⟩ : TCell)] : List TCell), []⟩ : TSheet)).1 = [44, 34, 120, 44, 121, 34, 13, 10])) = true := by decide +kernel
 have hk58p : (writeS (⟨0, ([5, 5] : List Int), ([1] : List Int), ([(⟨0, 1, [120, 44, 121], (⟨0, 0, 0⟩ : TStyle)⟩ : TCell)] : List TCell), []⟩ : TSheet)).1 = [44, 34, 120, 44, 121, 34, 13, 10] := by simpa using hk58
 refine W_cons rfl (by decide) (Sv_gt rfl rfl rfl hk58 (Sv_val rfl (R_move rfl rfl) ?_))
 refine W_cons rfl (by decide) (Sv_gt rfl rfl rfl hk58 (Sv_val rfl (R_bin rfl rfl rfl rfl rfl) ?_))
 refine wv rfl rfl rfl (R_pick_t rfl rfl hk58 rfl) <| wv rfl rfl rfl (R_assign rfl rfl) ?_
 refine W_nil <| E_then (C_fr [(0, .bool ((writeS (⟨0, ([5, 5] : List Int), ([1] : List Int), ([(⟨0, 1, [120, 44, 121], (⟨0, 0, 0⟩ : TStyle)⟩ : TCell)] : List TCell), []⟩ : TSheet)).2 == 0))] rfl ?_)
 refine C_ret <| E_ret1 rfl rfl ?_
 exact ⟨Lret1 (Lbool (show ((writeS (⟨0, ([5, 5] : List Int), ([1] : List Int), ([(⟨0, 1, [120, 44, 121], (⟨0, 0, 0⟩ : TStyle)⟩ : TCell)] : List TCell), []⟩ : TSheet)).2 == 0) = true by rfl)), hS.fin [] (by decide) rfl⟩
end Go.Proofs.YtaljccgfnmfhnaaGreatDoorG
set_option linter.all false
set_option maxHeartbeats 8000000
set_option maxRecDepth 100000
namespace Go.Proofs.YtaljccgfnmfhnaaGreatDoorG
open Go Go.RowKit
theorem portBack_calls (a0 : TSheet) (Aa0_Widths : Option Addr) (ca0_Widths : Nat) (Aa0_Heights : Option Addr) (ca0_Heights : Nat) (Aa0_Cells : Option Addr) (ca0_Cells : Nat) (Aa0_Merges : Option Addr) (ca0_Merges : Nat) (a1 : List (List St)) (Aa1 : Option Addr) (ca1 : Nat) (z : Z) (w : World) (hI : In z w []) (hra0_Widths : Rd (kint .i64) z Aa0_Widths a0.Widths) (hca0_Widths : Cap Aa0_Widths a0.Widths.length ca0_Widths) (hra0_Heights : Rd (kint .i64) z Aa0_Heights a0.Heights) (hca0_Heights : Cap Aa0_Heights a0.Heights.length ca0_Heights) (hra0_Cells : Rd kdTCell z Aa0_Cells a0.Cells) (hca0_Cells : Cap Aa0_Cells a0.Cells.length ca0_Cells) (hra0_Merges : Rd kdTRect z Aa0_Merges a0.Merges) (hca0_Merges : Cap Aa0_Merges a0.Merges.length ca0_Merges) (hra1 : Rd (kslice kstr) z Aa1 a1) (hca1 : Cap Aa1 a1.length ca1) (p0 : SheetG a0) (p1 : HM z) (p2 : ET z) :
    Calls Tryz.prog 6 #[.agg #[.int .i64 a0.Right, .slice Aa0_Widths a0.Widths.length ca0_Widths, .slice Aa0_Heights a0.Heights.length ca0_Heights, .slice Aa0_Cells a0.Cells.length ca0_Cells, .slice Aa0_Merges a0.Merges.length ca0_Merges], .slice Aa1 a1.length ca1] w fun e w' => e = .returned (.bool true) ∧ Sp (FF []) w z w' [] := by
 have hla0_Widths := hca0_Widths.le
 have hma0_Widths := hca0_Widths.mx
 have hla0_Heights := hca0_Heights.le
 have hma0_Heights := hca0_Heights.mx
 have hla0_Cells := hca0_Cells.le
 have hma0_Cells := hca0_Cells.mx
 have hla0_Merges := hca0_Merges.le
 have hma0_Merges := hca0_Merges.mx
 have hla1 := hca1.le
 have hma1 := hca1.mx
 have hS := hI.sp
 refine Calls_of (vs := [.agg #[.int .i64 a0.Right, .slice Aa0_Widths a0.Widths.length ca0_Widths, .slice Aa0_Heights a0.Heights.length ca0_Heights, .slice Aa0_Cells a0.Cells.length ca0_Cells, .slice Aa0_Merges a0.Merges.length ca0_Merges], .slice Aa1 a1.length ca1]) (N := 90) Tryz.func6 rfl rfl (Nat.le_of_ble_eq_true rfl) ?_
 refine C_seq <| C_region <| W_cons rfl (by decide) (S_box hS rfl (R_box (cs := [.int .i64 a0.Right, .slice Aa0_Widths a0.Widths.length ca0_Widths, .slice Aa0_Heights a0.Heights.length ca0_Heights, .slice Aa0_Cells a0.Cells.length ca0_Cells, .slice Aa0_Merges a0.Merges.length ca0_Merges]) rfl rfl rfl) (fun b2 w1 hS => ?_))
 refine wv rfl rfl rfl (R_assign rfl rfl) ?_
 refine W_nil <| E_then <| C_seq <| C_seq <| C_region <| wv rfl rfl rfl (R_loadN (cs := [.int .i64 a0.Right, .slice Aa0_Widths a0.Widths.length ca0_Widths, .slice Aa0_Heights a0.Heights.length ca0_Heights, .slice Aa0_Cells a0.Cells.length ca0_Cells, .slice Aa0_Merges a0.Merges.length ca0_Merges]) rfl rfl agg30 size30 rfl (boxcells (hS.bx 0 rfl) 0 rfl)) ?_
 refine W_cons rfl (by decide) (Sv_call rfl rfl rfl ent15 ?_)
 refine (great_calls a0 Aa0_Widths ca0_Widths Aa0_Heights ca0_Heights Aa0_Cells ca0_Cells Aa0_Merges ca0_Merges _ _ hS.out0 (hra0_Widths.mono (hS.zl [])) hca0_Widths (hra0_Heights.mono (hS.zl [])) hca0_Heights (hra0_Cells.mono (hS.zl [])) hca0_Cells (hra0_Merges.mono (hS.zl [])) hca0_Merges ).mono ?_
 rintro e_ w3 ⟨rfl, hS_⟩
 refine ⟨_, rfl, ?_⟩
 have hS := hS.call0 hS_
 refine wv rfl rfl rfl (R_move rfl rfl) ?_
 refine W_split (t := 17) rfl (fun hg5 => ?_) (fun hg5 => ?_)
 ·refine W_cons rfl (by decide) (Sv_off rfl rfl rfl (by rw [hg5] <;> rfl) ?_)
  refine W_cons rfl (by decide) (Sv_off rfl rfl rfl (by rw [hg5] <;> rfl) ?_)
  refine wv rfl rfl rfl (R_pick_t rfl rfl hg5 rfl) ?_
  refine W_nil <| E_then (C_fr [(1, .slice Aa1 a1.length ca1), (2, .pointer (some ⟨b2, 0, none⟩)), (20, .bool true)] rfl ?_)
  refine C_if rfl rfl ?_
  refine C_seq <| C_region <| W_cons rfl (by decide) (Sv_call rfl rfl rfl ent9 ?_)
  refine (pawake_calls  _ _ hS.out0  (by exact HM.mono (by assumption) (hS.zl [])) (by exact ET.mono (by assumption) (hS.zl []))).mono ?_
  rintro e_ w6 ⟨rfl, hS_⟩
  refine ⟨_, rfl, ?_⟩
  have hS := hS.call0 hS_
  refine wv rfl rfl rfl (R_assign rfl rfl) ?_
  refine W_nil <| E_then <| C_ret <| E_then_ret <| E_ret1 rfl rfl ?_
  exact ⟨Lret1 (Lbool (show true = true by rfl)), hS.fin [] (by decide) rfl⟩
 ·refine W_cons rfl (by decide) (Sv_gt rfl rfl rfl hg5 (Sv_val rfl (R_move rfl rfl) ?_))
  refine W_cons rfl (by decide) (Sv_gt rfl rfl rfl hg5 (Sv_call rfl rfl rfl ent8 ?_))
  refine (wide_calls a1 Aa1 ca1 _ _ hS.out0 (hra1.mono (hS.zl [])) hca1 ).mono ?_
  rintro e_ w8 ⟨rfl, hS_⟩
  refine ⟨_, rfl, ?_⟩
  have hS := hS.call0 hS_
  refine wv rfl rfl rfl (R_pick_f rfl rfl hg5 rfl) ?_
  refine W_nil <| E_then (C_fr [(1, .slice Aa1 a1.length ca1), (2, .pointer (some ⟨b2, 0, none⟩)), (20, .bool (wideS a1))] rfl ?_)
  refine C_ite rfl (fun hC0 => ?_) (fun hC0 => ?_)
  ·refine C_seq <| C_region <| W_cons rfl (by decide) (Sv_call rfl rfl rfl ent9 ?_)
   refine (pawake_calls  _ _ hS.out0  (by exact HM.mono (by assumption) (hS.zl [])) (by exact ET.mono (by assumption) (hS.zl []))).mono ?_
   rintro e_ w10 ⟨rfl, hS_⟩
   refine ⟨_, rfl, ?_⟩
   have hS := hS.call0 hS_
   refine wv rfl rfl rfl (R_assign rfl rfl) ?_
   refine W_nil <| E_then <| C_ret <| E_then_ret <| E_ret1 rfl rfl ?_
   exact ⟨Lret1 (Lbool (show true = true by rfl)), hS.fin [] (by decide) rfl⟩
  ·have hgf : greatS a0 = false := by (simp_all; done)
   have hgw : wideS a1 = false := by (simp_all; done)
   obtain ⟨hw1, hw2, hw3⟩ := wide_not hgw
   have hwn := widthS_nonneg a1
   have hrb : RecB a1 := ⟨by omega, by omega⟩
   have hgb := great_bd hgf
   have hsi : SheetI a0 := p0.I hgf
   refine C_skip <| E_then <| C_seq <| C_region <| wv rfl rfl rfl (R_move rfl rfl) ?_
   refine W_cons rfl (by decide) (Sv_call rfl rfl rfl ent11 ?_)
   refine (import_calls a1 Aa1 ca1 5 1 _ _ hS.out0 (hra1.mono (hS.zl [])) hca1 (by assumption) (by exact ET.mono (by assumption) (hS.zl []))).mono ?_
   rintro e_ w12 ⟨AR0_13_Widths, cR0_13_Widths, AR0_13_Heights, cR0_13_Heights, AR0_13_Cells, cR0_13_Cells, AR0_13_Merges, cR0_13_Merges, rfl, hS_⟩
   refine ⟨_, rfl, ?_⟩
   have hS := hS.call0 hS_
   have hp14 := hS.cap 0 rfl
   have hlhp14 := hp14.le
   have hmhp14 := hp14.mx
   have hp15 := hS.cap 1 rfl
   have hlhp15 := hp15.le
   have hmhp15 := hp15.mx
   have hp16 := hS.cap 2 rfl
   have hlhp16 := hp16.le
   have hmhp16 := hp16.mx
   have hp17 := hS.cap 3 rfl
   have hlhp17 := hp17.le
   have hmhp17 := hp17.mx
   refine wv rfl rfl rfl (R_move rfl rfl) <| wv rfl rfl rfl (R_extract rfl rfl rfl) <| wv rfl rfl rfl (R_extract rfl rfl rfl) ?_
   refine W_cons rfl (by decide) (S_box hS rfl (R_alloc rfl alloc30) (fun b19 w18 hS => ?_))
   refine W_cons0 rfl (S_store hS 0 rfl rfl rfl rfl rfl size30 (one_cons rfl (one_cons rfl (one_cons rfl (one_cons rfl (one_cons rfl one_nil))))) (Nat.le_of_ble_eq_true rfl) (fun w20 hS => ?_))
   have hS : Sp (FF []) w z w20 [bR b19 30 [.int .i64 (fillW zSh (fillS a1) 5 1).Right, .slice AR0_13_Widths (fillW zSh (fillS a1) 5 1).Widths.length cR0_13_Widths, .slice AR0_13_Heights (fillW zSh (fillS a1) 5 1).Heights.length cR0_13_Heights, .slice AR0_13_Cells (fillW zSh (fillS a1) 5 1).Cells.length cR0_13_Cells, .slice AR0_13_Merges (fillW zSh (fillS a1) 5 1).Merges.length cR0_13_Merges], oR (kint .i64) 3 zE AR0_13_Widths cR0_13_Widths (fillW zSh (fillS a1) 5 1).Widths, oR (kint .i64) 3 zE AR0_13_Heights cR0_13_Heights (fillW zSh (fillS a1) 5 1).Heights, oR kdTCell 58 zE AR0_13_Cells cR0_13_Cells (fillW zSh (fillS a1) 5 1).Cells, oR kdTRect 76 zE AR0_13_Merges cR0_13_Merges (fillW zSh (fillS a1) 5 1).Merges, bR b2 30 [.int .i64 a0.Right, .slice Aa0_Widths a0.Widths.length ca0_Widths, .slice Aa0_Heights a0.Heights.length ca0_Heights, .slice Aa0_Cells a0.Cells.length ca0_Cells, .slice Aa0_Merges a0.Merges.length ca0_Merges]] := hS
   refine wv rfl rfl rfl (R_assign rfl rfl) ?_
   refine W_nil <| E_then (C_fr [(1, .slice Aa1 a1.length ca1), (2, .pointer (some ⟨b2, 0, none⟩)), (5, .pointer (some ⟨b19, 0, none⟩)), (6, .int .i64 (faultS (fillS a1) 5 1))] rfl ?_)
   refine C_seq <| C_seq <| C_region <| wv rfl rfl rfl (R_move rfl rfl) <| wv rfl rfl rfl (R_bin rfl rfl rfl rfl rfl) ?_
   refine W_nil <| E_then <| C_ite rfl (fun hC1 => ?_) (fun hC1 => ?_)
   ·have hC1p : (faultS (fillS a1) 5 1) = 0 := by simpa using hC1
    have himp := imp_of (l := a1) (w := 5) (h := 1) (by simpa using hC1)
    refine C_seq <| C_region <| wv rfl rfl rfl (R_loadN (cs := [.int .i64 (fillW zSh (fillS a1) 5 1).Right, .slice AR0_13_Widths (fillW zSh (fillS a1) 5 1).Widths.length cR0_13_Widths, .slice AR0_13_Heights (fillW zSh (fillS a1) 5 1).Heights.length cR0_13_Heights, .slice AR0_13_Cells (fillW zSh (fillS a1) 5 1).Cells.length cR0_13_Cells, .slice AR0_13_Merges (fillW zSh (fillS a1) 5 1).Merges.length cR0_13_Merges]) rfl rfl agg30 size30 rfl (boxcells (hS.bx 0 rfl) 0 rfl)) ?_
    refine W_cons rfl (by decide) (Sv_call rfl rfl rfl ent17 ?_)
    refine (export_calls (fillW zSh (fillS a1) 5 1) AR0_13_Widths cR0_13_Widths AR0_13_Heights cR0_13_Heights AR0_13_Cells cR0_13_Cells AR0_13_Merges cR0_13_Merges _ _ hS.out0 (hS.ow [] 1 rfl rfl (zle_E _)) (hS.cap 1 rfl) (hS.ow [] 2 rfl rfl (zle_E _)) (hS.cap 2 rfl) (hS.ow [] 3 rfl rfl (zle_E _)) (hS.cap 3 rfl) (hS.ow [] 4 rfl rfl (zle_E _)) (hS.cap 4 rfl) (by exact imp_I _ _ _)).mono ?_
    rintro e_ w21 ⟨AR0_22, cR0_22, qR0_22, rfl, hS_⟩
    refine ⟨_, rfl, ?_⟩
    have hS := hS.call0 hS_
    have hp23 := hS.cap 1 rfl
    have hlhp23 := hp23.le
    have hmhp23 := hp23.mx
    refine wv rfl rfl rfl (R_move rfl rfl) <| wv rfl rfl rfl (R_extract rfl rfl rfl) <| wv rfl rfl rfl (R_extract rfl rfl rfl) <| wv rfl rfl rfl (R_assign rfl rfl) <| wv rfl rfl rfl (R_assign rfl rfl) ?_
    refine W_nil <| E_then (C_fr [(1, .slice Aa1 a1.length ca1), (2, .pointer (some ⟨b2, 0, none⟩)), (5, .pointer (some ⟨b19, 0, none⟩)), (7, .slice AR0_22 (exportS (fillW zSh (fillS a1) 5 1)).1.length cR0_22), (8, .int .i64 (exportS (fillW zSh (fillS a1) 5 1)).2)] rfl ?_)
    refine C_seq <| C_region <| wv rfl rfl rfl (R_move rfl rfl) <| wv rfl rfl rfl (R_bin rfl rfl rfl rfl rfl) <| wv rfl rfl rfl (R_move rfl rfl) ?_
    have hk24 : (((exportS (fillW zSh (fillS a1) 5 1)).2 != 0)) = false := by rw [himp.exp]; rfl
    have hk24p : (exportS (fillW zSh (fillS a1) 5 1)).2 = 0 := by simpa using hk24
    refine W_cons rfl (by decide) (Sv_gt rfl rfl rfl hk24 (Sv_val rfl (R_loadN (cs := [.int .i64 (fillW zSh (fillS a1) 5 1).Right, .slice AR0_13_Widths (fillW zSh (fillS a1) 5 1).Widths.length cR0_13_Widths, .slice AR0_13_Heights (fillW zSh (fillS a1) 5 1).Heights.length cR0_13_Heights, .slice AR0_13_Cells (fillW zSh (fillS a1) 5 1).Cells.length cR0_13_Cells, .slice AR0_13_Merges (fillW zSh (fillS a1) 5 1).Merges.length cR0_13_Merges]) rfl rfl agg30 size30 rfl (boxcells (hS.bx 2 rfl) 0 rfl)) ?_))
    refine W_cons rfl (by decide) (Sv_gt rfl rfl rfl hk24 (Sv_call rfl rfl rfl ent23 ?_))
    refine (check_calls (fillW zSh (fillS a1) 5 1) AR0_13_Widths cR0_13_Widths AR0_13_Heights cR0_13_Heights AR0_13_Cells cR0_13_Cells AR0_13_Merges cR0_13_Merges _ _ hS.out0 (hS.ow [] 3 rfl rfl (zle_E _)) (hS.cap 3 rfl) (hS.ow [] 4 rfl rfl (zle_E _)) (hS.cap 4 rfl) (hS.ow [] 5 rfl rfl (zle_E _)) (hS.cap 5 rfl) (hS.ow [] 6 rfl rfl (zle_E _)) (hS.cap 6 rfl) ).mono ?_
    rintro e_ w25 ⟨rfl, hS_⟩
    refine ⟨_, rfl, ?_⟩
    have hS := hS.call0 hS_
    refine W_cons rfl (by decide) (Sv_gt rfl rfl rfl hk24 (Sv_val rfl (R_bin rfl rfl rfl rfl rfl) ?_))
    refine wv rfl rfl rfl (R_pick_f rfl rfl hk24 rfl) <| wv rfl rfl rfl (R_move rfl rfl) ?_
    have hk27 : (((checkSh (fillW zSh (fillS a1) 5 1)) != 0)) = false := by rw [himp.chk]; rfl
    have hk27p : (checkSh (fillW zSh (fillS a1) 5 1)) = 0 := by simpa using hk27
    refine W_cons rfl (by decide) (Sv_gt rfl rfl rfl hk27 (Sv_val rfl (R_move rfl rfl) ?_))
    refine W_cons rfl (by decide) (Sv_gt rfl rfl rfl hk27 (Sv_val rfl (R_move rfl rfl) ?_))
    refine W_cons rfl (by decide) (Sv_gt rfl rfl rfl hk27 (Sv_call rfl rfl rfl ent24 ?_))
    refine (fill_calls a1 Aa1 ca1 _ _ hS.out0 (hra1.mono (hS.zl [])) hca1 (by omega) (by omega)).mono ?_
    rintro e_ w28 ⟨AR0_29, cR0_29, qR0_29, rfl, hS_⟩
    refine ⟨_, rfl, ?_⟩
    have hS := hS.call0 hS_
    have hp30 := hS.cap 1 rfl
    have hlhp30 := hp30.le
    have hmhp30 := hp30.mx
    refine W_cons rfl (by decide) (Sv_gt rfl rfl rfl hk27 (Sv_call rfl rfl rfl ent14 ?_))
    refine (same_calls (exportS (fillW zSh (fillS a1) 5 1)).1 AR0_22 cR0_22 (fillS a1) AR0_29 cR0_29 _ _ hS.out0 (hS.ow [] 3 rfl rfl (hS.zq [] 2 rfl rfl)) (hS.cap 3 rfl) (hS.ow [] 1 rfl rfl (hS.zq [] 0 rfl rfl)) (hS.cap 1 rfl) ).mono ?_
    rintro e_ w31 ⟨rfl, hS_⟩
    refine ⟨_, rfl, ?_⟩
    have hS := hS.call0 hS_
    refine W_cons rfl (by decide) (Sv_gt rfl rfl rfl hk27 (Sv_val rfl (R_un rfl rfl rfl) ?_))
    refine wv rfl rfl rfl (R_pick_f rfl rfl hk27 rfl) ?_
    refine W_nil <| E_then (C_fr [(2, .pointer (some ⟨b2, 0, none⟩)), (47, .bool (!(decide ((exportS (fillW zSh (fillS a1) 5 1)).1 = (fillS a1)))))] rfl ?_)
    have hk33 : (!(decide ((exportS (fillW zSh (fillS a1) 5 1)).1 = (fillS a1)))) = false := by rw [himp.exp]; simp
    have hk33p : (decide ((exportS (fillW zSh (fillS a1) 5 1)).1 = (fillS a1)) = true) := by simpa using hk33
    refine C_else rfl hk33 ?_
    refine C_skip <| E_then <| C_seq <| C_region <| wv rfl rfl rfl (R_loadN (cs := [.int .i64 a0.Right, .slice Aa0_Widths a0.Widths.length ca0_Widths, .slice Aa0_Heights a0.Heights.length ca0_Heights, .slice Aa0_Cells a0.Cells.length ca0_Cells, .slice Aa0_Merges a0.Merges.length ca0_Merges]) rfl rfl agg30 size30 rfl (boxcells (hS.bx 9 rfl) 0 rfl)) ?_
    refine W_cons rfl (by decide) (Sv_call rfl rfl rfl ent17 ?_)
    refine (export_calls a0 Aa0_Widths ca0_Widths Aa0_Heights ca0_Heights Aa0_Cells ca0_Cells Aa0_Merges ca0_Merges _ _ hS.out0 (hra0_Widths.mono (hS.zl [])) hca0_Widths (hra0_Heights.mono (hS.zl [])) hca0_Heights (hra0_Cells.mono (hS.zl [])) hca0_Cells (hra0_Merges.mono (hS.zl [])) hca0_Merges (by assumption)).mono ?_
    rintro e_ w34 ⟨AR0_35, cR0_35, qR0_35, rfl, hS_⟩
    refine ⟨_, rfl, ?_⟩
    have hS := hS.call0 hS_
    have hp36 := hS.cap 1 rfl
    have hlhp36 := hp36.le
    have hmhp36 := hp36.mx
    refine wv rfl rfl rfl (R_move rfl rfl) <| wv rfl rfl rfl (R_extract rfl rfl rfl) <| wv rfl rfl rfl (R_extract rfl rfl rfl) <| wv rfl rfl rfl (R_assign rfl rfl) <| wv rfl rfl rfl (R_assign rfl rfl) ?_
    refine W_nil <| E_then (C_fr [(2, .pointer (some ⟨b2, 0, none⟩)), (9, .slice AR0_35 (exportS a0).1.length cR0_35), (10, .int .i64 (exportS a0).2)] rfl ?_)
    refine C_seq <| C_seq <| C_region <| wv rfl rfl rfl (R_move rfl rfl) <| wv rfl rfl rfl (R_bin rfl rfl rfl rfl rfl) ?_
    refine W_nil <| E_then <| C_ite rfl (fun hC3 => ?_) (fun hC3 => ?_)
    ·have hC3p : ¬ (exportS a0).2 = 0 := by simpa using hC3
     have hxn := exp_not (s := a0) (by simpa using hC3)
     refine C_seq <| C_region <| wv rfl rfl rfl (R_loadN (cs := [.int .i64 a0.Right, .slice Aa0_Widths a0.Widths.length ca0_Widths, .slice Aa0_Heights a0.Heights.length ca0_Heights, .slice Aa0_Cells a0.Cells.length ca0_Cells, .slice Aa0_Merges a0.Merges.length ca0_Merges]) rfl rfl agg30 size30 rfl (boxcells (hS.bx 11 rfl) 0 rfl)) ?_
     refine W_cons rfl (by decide) (Sv_call rfl rfl rfl ent23 ?_)
     refine (check_calls a0 Aa0_Widths ca0_Widths Aa0_Heights ca0_Heights Aa0_Cells ca0_Cells Aa0_Merges ca0_Merges _ _ hS.out0 (hra0_Widths.mono (hS.zl [])) hca0_Widths (hra0_Heights.mono (hS.zl [])) hca0_Heights (hra0_Cells.mono (hS.zl [])) hca0_Cells (hra0_Merges.mono (hS.zl [])) hca0_Merges ).mono ?_
     rintro e_ w37 ⟨rfl, hS_⟩
     refine ⟨_, rfl, ?_⟩
     have hS := hS.call0 hS_
     refine wv rfl rfl rfl (R_bin rfl rfl rfl rfl rfl) <| wv rfl rfl rfl (R_move rfl rfl) ?_
     have hk39 : (((checkSh a0) != 0)) = true := by simp [hxn.1]
     have hk39p : ¬ (checkSh a0) = 0 := by simpa using hk39
     refine W_cons rfl (by decide) (Sv_gt rfl rfl rfl hk39 (Sv_val rfl (R_move rfl rfl) ?_))
     refine W_cons rfl (by decide) (Sv_gt rfl rfl rfl hk39 (Sv_val rfl (R_len rfl rfl Tryz.underlying22) ?_))
     refine W_cons rfl (by decide) (Sv_gt rfl rfl rfl hk39 (Sv_val rfl (R_bin rfl rfl rfl rfl rfl) ?_))
     refine wv rfl rfl rfl (R_pick_t rfl rfl hk39 rfl) <| wv rfl rfl rfl (R_move rfl rfl) ?_
     have hk40 : ((((exportS a0).1.length : Int) == 0)) = true := by rw [hxn.2]; rfl
     have hk40p : ((exportS a0).1.length : Int) = 0 := by simpa using hk40
     refine W_cons rfl (by decide) (Sv_gt rfl rfl rfl hk40 (Sv_call rfl rfl rfl ent9 ?_))
     refine (pawake_calls  _ _ hS.out0  (by exact HM.mono (by assumption) (hS.zl [])) (by exact ET.mono (by assumption) (hS.zl []))).mono ?_
     rintro e_ w41 ⟨rfl, hS_⟩
     refine ⟨_, rfl, ?_⟩
     have hS := hS.call0 hS_
     refine wv rfl rfl rfl (R_pick_t rfl rfl hk40 rfl) <| wv rfl rfl rfl (R_assign rfl rfl) ?_
     refine W_nil <| E_then (C_fr [(4, .bool true)] rfl ?_)
     refine C_ret <| E_then_ret <| E_ret1 rfl rfl ?_
     exact ⟨Lret1 (Lbool (show true = true by rfl)), hS.fin [] (by decide) rfl⟩
    ·have hC3p : (exportS a0).2 = 0 := by simpa using hC3
     have hxb := back_of hsi (by simpa using hC3)
     refine C_skip <| E_then <| C_seq <| C_region <| wv rfl rfl rfl (R_move rfl rfl) ?_
     refine W_cons rfl (by decide) (Sv_call rfl rfl rfl ent11 ?_)
     refine (import_calls (exportS a0).1 AR0_35 cR0_35 60 12 _ _ hS.out0 (hS.ow [] 1 rfl rfl (hS.zq [] 0 rfl rfl)) (hS.cap 1 rfl) (by exact recB_exp (by assumption)) (by exact ET.mono (by assumption) (hS.zl []))).mono ?_
     rintro e_ w43 ⟨AR0_44_Widths, cR0_44_Widths, AR0_44_Heights, cR0_44_Heights, AR0_44_Cells, cR0_44_Cells, AR0_44_Merges, cR0_44_Merges, rfl, hS_⟩
     refine ⟨_, rfl, ?_⟩
     have hS := hS.call0 hS_
     have hp45 := hS.cap 0 rfl
     have hlhp45 := hp45.le
     have hmhp45 := hp45.mx
     have hp46 := hS.cap 1 rfl
     have hlhp46 := hp46.le
     have hmhp46 := hp46.mx
     have hp47 := hS.cap 2 rfl
     have hlhp47 := hp47.le
     have hmhp47 := hp47.mx
     have hp48 := hS.cap 3 rfl
     have hlhp48 := hp48.le
     have hmhp48 := hp48.mx
     refine wv rfl rfl rfl (R_move rfl rfl) <| wv rfl rfl rfl (R_extract rfl rfl rfl) <| wv rfl rfl rfl (R_extract rfl rfl rfl) ?_
     refine W_cons rfl (by decide) (S_box hS rfl (R_alloc rfl alloc30) (fun b50 w49 hS => ?_))
     refine W_cons0 rfl (S_store hS 0 rfl rfl rfl rfl rfl size30 (one_cons rfl (one_cons rfl (one_cons rfl (one_cons rfl (one_cons rfl one_nil))))) (Nat.le_of_ble_eq_true rfl) (fun w51 hS => ?_))
     have hS : Sp (FF []) w z w51 [bR b50 30 [.int .i64 (fillW zSh (fillS (exportS a0).1) 60 12).Right, .slice AR0_44_Widths (fillW zSh (fillS (exportS a0).1) 60 12).Widths.length cR0_44_Widths, .slice AR0_44_Heights (fillW zSh (fillS (exportS a0).1) 60 12).Heights.length cR0_44_Heights, .slice AR0_44_Cells (fillW zSh (fillS (exportS a0).1) 60 12).Cells.length cR0_44_Cells, .slice AR0_44_Merges (fillW zSh (fillS (exportS a0).1) 60 12).Merges.length cR0_44_Merges], oR (kint .i64) 3 zE AR0_44_Widths cR0_44_Widths (fillW zSh (fillS (exportS a0).1) 60 12).Widths, oR (kint .i64) 3 zE AR0_44_Heights cR0_44_Heights (fillW zSh (fillS (exportS a0).1) 60 12).Heights, oR kdTCell 58 zE AR0_44_Cells cR0_44_Cells (fillW zSh (fillS (exportS a0).1) 60 12).Cells, oR kdTRect 76 zE AR0_44_Merges cR0_44_Merges (fillW zSh (fillS (exportS a0).1) 60 12).Merges, zR qR0_35, oR (kslice kstr) 43 qR0_35 AR0_35 cR0_35 (exportS a0).1, zR qR0_29, oR (kslice kstr) 43 qR0_29 AR0_29 cR0_29 (fillS a1), zR qR0_22, oR (kslice kstr) 43 qR0_22 AR0_22 cR0_22 (exportS (fillW zSh (fillS a1) 5 1)).1, bR b19 30 [.int .i64 (fillW zSh (fillS a1) 5 1).Right, .slice AR0_13_Widths (fillW zSh (fillS a1) 5 1).Widths.length cR0_13_Widths, .slice AR0_13_Heights (fillW zSh (fillS a1) 5 1).Heights.length cR0_13_Heights, .slice AR0_13_Cells (fillW zSh (fillS a1) 5 1).Cells.length cR0_13_Cells, .slice AR0_13_Merges (fillW zSh (fillS a1) 5 1).Merges.length cR0_13_Merges], oR (kint .i64) 3 zE AR0_13_Widths cR0_13_Widths (fillW zSh (fillS a1) 5 1).Widths, oR (kint .i64) 3 zE AR0_13_Heights cR0_13_Heights (fillW zSh (fillS a1) 5 1).Heights, oR kdTCell 58 zE AR0_13_Cells cR0_13_Cells (fillW zSh (fillS a1) 5 1).Cells, oR kdTRect 76 zE AR0_13_Merges cR0_13_Merges (fillW zSh (fillS a1) 5 1).Merges, bR b2 30 [.int .i64 a0.Right, .slice Aa0_Widths a0.Widths.length ca0_Widths, .slice Aa0_Heights a0.Heights.length ca0_Heights, .slice Aa0_Cells a0.Cells.length ca0_Cells, .slice Aa0_Merges a0.Merges.length ca0_Merges]] := hS
     refine wv rfl rfl rfl (R_assign rfl rfl) ?_
     refine W_nil <| E_then (C_fr [(9, .slice AR0_35 (exportS a0).1.length cR0_35), (11, .pointer (some ⟨b50, 0, none⟩)), (12, .int .i64 (faultS (fillS (exportS a0).1) 60 12))] rfl ?_)
     refine C_seq <| C_region <| wv rfl rfl rfl (R_loadN (cs := [.int .i64 (fillW zSh (fillS (exportS a0).1) 60 12).Right, .slice AR0_44_Widths (fillW zSh (fillS (exportS a0).1) 60 12).Widths.length cR0_44_Widths, .slice AR0_44_Heights (fillW zSh (fillS (exportS a0).1) 60 12).Heights.length cR0_44_Heights, .slice AR0_44_Cells (fillW zSh (fillS (exportS a0).1) 60 12).Cells.length cR0_44_Cells, .slice AR0_44_Merges (fillW zSh (fillS (exportS a0).1) 60 12).Merges.length cR0_44_Merges]) rfl rfl agg30 size30 rfl (boxcells (hS.bx 0 rfl) 0 rfl)) ?_
     refine W_cons rfl (by decide) (Sv_call rfl rfl rfl ent17 ?_)
     refine (export_calls (fillW zSh (fillS (exportS a0).1) 60 12) AR0_44_Widths cR0_44_Widths AR0_44_Heights cR0_44_Heights AR0_44_Cells cR0_44_Cells AR0_44_Merges cR0_44_Merges _ _ hS.out0 (hS.ow [] 1 rfl rfl (zle_E _)) (hS.cap 1 rfl) (hS.ow [] 2 rfl rfl (zle_E _)) (hS.cap 2 rfl) (hS.ow [] 3 rfl rfl (zle_E _)) (hS.cap 3 rfl) (hS.ow [] 4 rfl rfl (zle_E _)) (hS.cap 4 rfl) (by exact imp_I _ _ _)).mono ?_
     rintro e_ w52 ⟨AR0_53, cR0_53, qR0_53, rfl, hS_⟩
     refine ⟨_, rfl, ?_⟩
     have hS := hS.call0 hS_
     have hp54 := hS.cap 1 rfl
     have hlhp54 := hp54.le
     have hmhp54 := hp54.mx
     refine wv rfl rfl rfl (R_move rfl rfl) <| wv rfl rfl rfl (R_extract rfl rfl rfl) <| wv rfl rfl rfl (R_extract rfl rfl rfl) <| wv rfl rfl rfl (R_assign rfl rfl) <| wv rfl rfl rfl (R_assign rfl rfl) ?_
     refine W_nil <| E_then (C_fr [(9, .slice AR0_35 (exportS a0).1.length cR0_35), (12, .int .i64 (faultS (fillS (exportS a0).1) 60 12)), (13, .slice AR0_53 (exportS (fillW zSh (fillS (exportS a0).1) 60 12)).1.length cR0_53), (14, .int .i64 (exportS (fillW zSh (fillS (exportS a0).1) 60 12)).2)] rfl ?_)
     refine C_seq <| C_region <| wv rfl rfl rfl (R_move rfl rfl) <| wv rfl rfl rfl (R_bin rfl rfl rfl rfl rfl) <| wv rfl rfl rfl (R_move rfl rfl) ?_
     have hk55 : (((faultS (fillS (exportS a0).1) 60 12) == 0)) = true := by rw [hxb.fault]; rfl
     have hk55p : (faultS (fillS (exportS a0).1) 60 12) = 0 := by simpa using hk55
     refine W_cons rfl (by decide) (Sv_gt rfl rfl rfl hk55 (Sv_val rfl (R_move rfl rfl) ?_))
     refine W_cons rfl (by decide) (Sv_gt rfl rfl rfl hk55 (Sv_val rfl (R_bin rfl rfl rfl rfl rfl) ?_))
     refine wv rfl rfl rfl (R_pick_t rfl rfl hk55 rfl) <| wv rfl rfl rfl (R_move rfl rfl) ?_
     have hk56 : (((exportS (fillW zSh (fillS (exportS a0).1) 60 12)).2 == 0)) = true := by rw [hxb.exp]; rfl
     have hk56p : (exportS (fillW zSh (fillS (exportS a0).1) 60 12)).2 = 0 := by simpa using hk56
     refine W_cons rfl (by decide) (Sv_gt rfl rfl rfl hk56 (Sv_val rfl (R_move rfl rfl) ?_))
     refine W_cons rfl (by decide) (Sv_gt rfl rfl rfl hk56 (Sv_val rfl (R_move rfl rfl) ?_))
     refine W_cons rfl (by decide) (Sv_gt rfl rfl rfl hk56 (Sv_call rfl rfl rfl ent14 ?_))
     refine (same_calls (exportS (fillW zSh (fillS (exportS a0).1) 60 12)).1 AR0_53 cR0_53 (exportS a0).1 AR0_35 cR0_35 _ _ hS.out0 (hS.ow [] 1 rfl rfl (hS.zq [] 0 rfl rfl)) (hS.cap 1 rfl) (hS.ow [] 8 rfl rfl (hS.zq [] 7 rfl rfl)) (hS.cap 8 rfl) ).mono ?_
     rintro e_ w57 ⟨rfl, hS_⟩
     refine ⟨_, rfl, ?_⟩
     have hS := hS.call0 hS_
     refine wv rfl rfl rfl (R_pick_t rfl rfl hk56 rfl) <| wv rfl rfl rfl (R_move rfl rfl) ?_
     have hk59 : (decide ((exportS (fillW zSh (fillS (exportS a0).1) 60 12)).1 = (exportS a0).1)) = true := by rw [hxb.exp]; simp
     refine W_cons rfl (by decide) (Sv_gt rfl rfl rfl hk59 (Sv_call rfl rfl rfl ent9 ?_))
     refine (pawake_calls  _ _ hS.out0  (by exact HM.mono (by assumption) (hS.zl [])) (by exact ET.mono (by assumption) (hS.zl []))).mono ?_
     rintro e_ w60 ⟨rfl, hS_⟩
     refine ⟨_, rfl, ?_⟩
     have hS := hS.call0 hS_
     refine wv rfl rfl rfl (R_pick_t rfl rfl hk59 rfl) <| wv rfl rfl rfl (R_assign rfl rfl) ?_
     refine W_nil <| E_then (C_fr [(4, .bool true)] rfl ?_)
     refine C_ret <| E_ret1 rfl rfl ?_
     exact ⟨Lret1 (Lbool (show true = true by rfl)), hS.fin [] (by decide) rfl⟩
   ·have hC1p : ¬ ((faultS (fillS a1) 5 1) = 0) := by simpa using hC1
    refine C_skip <| E_then (C_fr [(2, .pointer (some ⟨b2, 0, none⟩))] rfl ?_)
    refine C_seq <| C_region <| wv rfl rfl rfl (R_loadN (cs := [.int .i64 a0.Right, .slice Aa0_Widths a0.Widths.length ca0_Widths, .slice Aa0_Heights a0.Heights.length ca0_Heights, .slice Aa0_Cells a0.Cells.length ca0_Cells, .slice Aa0_Merges a0.Merges.length ca0_Merges]) rfl rfl agg30 size30 rfl (boxcells (hS.bx 5 rfl) 0 rfl)) ?_
    refine W_cons rfl (by decide) (Sv_call rfl rfl rfl ent17 ?_)
    refine (export_calls a0 Aa0_Widths ca0_Widths Aa0_Heights ca0_Heights Aa0_Cells ca0_Cells Aa0_Merges ca0_Merges _ _ hS.out0 (hra0_Widths.mono (hS.zl [])) hca0_Widths (hra0_Heights.mono (hS.zl [])) hca0_Heights (hra0_Cells.mono (hS.zl [])) hca0_Cells (hra0_Merges.mono (hS.zl [])) hca0_Merges (by assumption)).mono ?_
    rintro e_ w62 ⟨AR0_63, cR0_63, qR0_63, rfl, hS_⟩
    refine ⟨_, rfl, ?_⟩
    have hS := hS.call0 hS_
    have hp64 := hS.cap 1 rfl
    have hlhp64 := hp64.le
    have hmhp64 := hp64.mx
    refine wv rfl rfl rfl (R_move rfl rfl) <| wv rfl rfl rfl (R_extract rfl rfl rfl) <| wv rfl rfl rfl (R_extract rfl rfl rfl) <| wv rfl rfl rfl (R_assign rfl rfl) <| wv rfl rfl rfl (R_assign rfl rfl) ?_
    refine W_nil <| E_then (C_fr [(2, .pointer (some ⟨b2, 0, none⟩)), (9, .slice AR0_63 (exportS a0).1.length cR0_63), (10, .int .i64 (exportS a0).2)] rfl ?_)
    refine C_seq <| C_seq <| C_region <| wv rfl rfl rfl (R_move rfl rfl) <| wv rfl rfl rfl (R_bin rfl rfl rfl rfl rfl) ?_
    refine W_nil <| E_then <| C_ite rfl (fun hC3 => ?_) (fun hC3 => ?_)
    ·have hC3p : ¬ (exportS a0).2 = 0 := by simpa using hC3
     have hxn := exp_not (s := a0) (by simpa using hC3)
     refine C_seq <| C_region <| wv rfl rfl rfl (R_loadN (cs := [.int .i64 a0.Right, .slice Aa0_Widths a0.Widths.length ca0_Widths, .slice Aa0_Heights a0.Heights.length ca0_Heights, .slice Aa0_Cells a0.Cells.length ca0_Cells, .slice Aa0_Merges a0.Merges.length ca0_Merges]) rfl rfl agg30 size30 rfl (boxcells (hS.bx 7 rfl) 0 rfl)) ?_
     refine W_cons rfl (by decide) (Sv_call rfl rfl rfl ent23 ?_)
     refine (check_calls a0 Aa0_Widths ca0_Widths Aa0_Heights ca0_Heights Aa0_Cells ca0_Cells Aa0_Merges ca0_Merges _ _ hS.out0 (hra0_Widths.mono (hS.zl [])) hca0_Widths (hra0_Heights.mono (hS.zl [])) hca0_Heights (hra0_Cells.mono (hS.zl [])) hca0_Cells (hra0_Merges.mono (hS.zl [])) hca0_Merges ).mono ?_
     rintro e_ w65 ⟨rfl, hS_⟩
     refine ⟨_, rfl, ?_⟩
     have hS := hS.call0 hS_
     refine wv rfl rfl rfl (R_bin rfl rfl rfl rfl rfl) <| wv rfl rfl rfl (R_move rfl rfl) ?_
     have hk67 : (((checkSh a0) != 0)) = true := by simp [hxn.1]
     have hk67p : ¬ (checkSh a0) = 0 := by simpa using hk67
     refine W_cons rfl (by decide) (Sv_gt rfl rfl rfl hk67 (Sv_val rfl (R_move rfl rfl) ?_))
     refine W_cons rfl (by decide) (Sv_gt rfl rfl rfl hk67 (Sv_val rfl (R_len rfl rfl Tryz.underlying22) ?_))
     refine W_cons rfl (by decide) (Sv_gt rfl rfl rfl hk67 (Sv_val rfl (R_bin rfl rfl rfl rfl rfl) ?_))
     refine wv rfl rfl rfl (R_pick_t rfl rfl hk67 rfl) <| wv rfl rfl rfl (R_move rfl rfl) ?_
     have hk68 : ((((exportS a0).1.length : Int) == 0)) = true := by rw [hxn.2]; rfl
     have hk68p : ((exportS a0).1.length : Int) = 0 := by simpa using hk68
     refine W_cons rfl (by decide) (Sv_gt rfl rfl rfl hk68 (Sv_call rfl rfl rfl ent9 ?_))
     refine (pawake_calls  _ _ hS.out0  (by exact HM.mono (by assumption) (hS.zl [])) (by exact ET.mono (by assumption) (hS.zl []))).mono ?_
     rintro e_ w69 ⟨rfl, hS_⟩
     refine ⟨_, rfl, ?_⟩
     have hS := hS.call0 hS_
     refine wv rfl rfl rfl (R_pick_t rfl rfl hk68 rfl) <| wv rfl rfl rfl (R_assign rfl rfl) ?_
     refine W_nil <| E_then (C_fr [(4, .bool true)] rfl ?_)
     refine C_ret <| E_then_ret <| E_ret1 rfl rfl ?_
     exact ⟨Lret1 (Lbool (show true = true by rfl)), hS.fin [] (by decide) rfl⟩
    ·have hC3p : (exportS a0).2 = 0 := by simpa using hC3
     have hxb := back_of hsi (by simpa using hC3)
     refine C_skip <| E_then <| C_seq <| C_region <| wv rfl rfl rfl (R_move rfl rfl) ?_
     refine W_cons rfl (by decide) (Sv_call rfl rfl rfl ent11 ?_)
     refine (import_calls (exportS a0).1 AR0_63 cR0_63 60 12 _ _ hS.out0 (hS.ow [] 1 rfl rfl (hS.zq [] 0 rfl rfl)) (hS.cap 1 rfl) (by exact recB_exp (by assumption)) (by exact ET.mono (by assumption) (hS.zl []))).mono ?_
     rintro e_ w71 ⟨AR0_72_Widths, cR0_72_Widths, AR0_72_Heights, cR0_72_Heights, AR0_72_Cells, cR0_72_Cells, AR0_72_Merges, cR0_72_Merges, rfl, hS_⟩
     refine ⟨_, rfl, ?_⟩
     have hS := hS.call0 hS_
     have hp73 := hS.cap 0 rfl
     have hlhp73 := hp73.le
     have hmhp73 := hp73.mx
     have hp74 := hS.cap 1 rfl
     have hlhp74 := hp74.le
     have hmhp74 := hp74.mx
     have hp75 := hS.cap 2 rfl
     have hlhp75 := hp75.le
     have hmhp75 := hp75.mx
     have hp76 := hS.cap 3 rfl
     have hlhp76 := hp76.le
     have hmhp76 := hp76.mx
     refine wv rfl rfl rfl (R_move rfl rfl) <| wv rfl rfl rfl (R_extract rfl rfl rfl) <| wv rfl rfl rfl (R_extract rfl rfl rfl) ?_
     refine W_cons rfl (by decide) (S_box hS rfl (R_alloc rfl alloc30) (fun b78 w77 hS => ?_))
     refine W_cons0 rfl (S_store hS 0 rfl rfl rfl rfl rfl size30 (one_cons rfl (one_cons rfl (one_cons rfl (one_cons rfl (one_cons rfl one_nil))))) (Nat.le_of_ble_eq_true rfl) (fun w79 hS => ?_))
     have hS : Sp (FF []) w z w79 [bR b78 30 [.int .i64 (fillW zSh (fillS (exportS a0).1) 60 12).Right, .slice AR0_72_Widths (fillW zSh (fillS (exportS a0).1) 60 12).Widths.length cR0_72_Widths, .slice AR0_72_Heights (fillW zSh (fillS (exportS a0).1) 60 12).Heights.length cR0_72_Heights, .slice AR0_72_Cells (fillW zSh (fillS (exportS a0).1) 60 12).Cells.length cR0_72_Cells, .slice AR0_72_Merges (fillW zSh (fillS (exportS a0).1) 60 12).Merges.length cR0_72_Merges], oR (kint .i64) 3 zE AR0_72_Widths cR0_72_Widths (fillW zSh (fillS (exportS a0).1) 60 12).Widths, oR (kint .i64) 3 zE AR0_72_Heights cR0_72_Heights (fillW zSh (fillS (exportS a0).1) 60 12).Heights, oR kdTCell 58 zE AR0_72_Cells cR0_72_Cells (fillW zSh (fillS (exportS a0).1) 60 12).Cells, oR kdTRect 76 zE AR0_72_Merges cR0_72_Merges (fillW zSh (fillS (exportS a0).1) 60 12).Merges, zR qR0_63, oR (kslice kstr) 43 qR0_63 AR0_63 cR0_63 (exportS a0).1, bR b19 30 [.int .i64 (fillW zSh (fillS a1) 5 1).Right, .slice AR0_13_Widths (fillW zSh (fillS a1) 5 1).Widths.length cR0_13_Widths, .slice AR0_13_Heights (fillW zSh (fillS a1) 5 1).Heights.length cR0_13_Heights, .slice AR0_13_Cells (fillW zSh (fillS a1) 5 1).Cells.length cR0_13_Cells, .slice AR0_13_Merges (fillW zSh (fillS a1) 5 1).Merges.length cR0_13_Merges], oR (kint .i64) 3 zE AR0_13_Widths cR0_13_Widths (fillW zSh (fillS a1) 5 1).Widths, oR (kint .i64) 3 zE AR0_13_Heights cR0_13_Heights (fillW zSh (fillS a1) 5 1).Heights, oR kdTCell 58 zE AR0_13_Cells cR0_13_Cells (fillW zSh (fillS a1) 5 1).Cells, oR kdTRect 76 zE AR0_13_Merges cR0_13_Merges (fillW zSh (fillS a1) 5 1).Merges, bR b2 30 [.int .i64 a0.Right, .slice Aa0_Widths a0.Widths.length ca0_Widths, .slice Aa0_Heights a0.Heights.length ca0_Heights, .slice Aa0_Cells a0.Cells.length ca0_Cells, .slice Aa0_Merges a0.Merges.length ca0_Merges]] := hS
     refine wv rfl rfl rfl (R_assign rfl rfl) ?_
     refine W_nil <| E_then (C_fr [(9, .slice AR0_63 (exportS a0).1.length cR0_63), (11, .pointer (some ⟨b78, 0, none⟩)), (12, .int .i64 (faultS (fillS (exportS a0).1) 60 12))] rfl ?_)
     refine C_seq <| C_region <| wv rfl rfl rfl (R_loadN (cs := [.int .i64 (fillW zSh (fillS (exportS a0).1) 60 12).Right, .slice AR0_72_Widths (fillW zSh (fillS (exportS a0).1) 60 12).Widths.length cR0_72_Widths, .slice AR0_72_Heights (fillW zSh (fillS (exportS a0).1) 60 12).Heights.length cR0_72_Heights, .slice AR0_72_Cells (fillW zSh (fillS (exportS a0).1) 60 12).Cells.length cR0_72_Cells, .slice AR0_72_Merges (fillW zSh (fillS (exportS a0).1) 60 12).Merges.length cR0_72_Merges]) rfl rfl agg30 size30 rfl (boxcells (hS.bx 0 rfl) 0 rfl)) ?_
     refine W_cons rfl (by decide) (Sv_call rfl rfl rfl ent17 ?_)
     refine (export_calls (fillW zSh (fillS (exportS a0).1) 60 12) AR0_72_Widths cR0_72_Widths AR0_72_Heights cR0_72_Heights AR0_72_Cells cR0_72_Cells AR0_72_Merges cR0_72_Merges _ _ hS.out0 (hS.ow [] 1 rfl rfl (zle_E _)) (hS.cap 1 rfl) (hS.ow [] 2 rfl rfl (zle_E _)) (hS.cap 2 rfl) (hS.ow [] 3 rfl rfl (zle_E _)) (hS.cap 3 rfl) (hS.ow [] 4 rfl rfl (zle_E _)) (hS.cap 4 rfl) (by exact imp_I _ _ _)).mono ?_
     rintro e_ w80 ⟨AR0_81, cR0_81, qR0_81, rfl, hS_⟩
     refine ⟨_, rfl, ?_⟩
     have hS := hS.call0 hS_
     have hp82 := hS.cap 1 rfl
     have hlhp82 := hp82.le
     have hmhp82 := hp82.mx
     refine wv rfl rfl rfl (R_move rfl rfl) <| wv rfl rfl rfl (R_extract rfl rfl rfl) <| wv rfl rfl rfl (R_extract rfl rfl rfl) <| wv rfl rfl rfl (R_assign rfl rfl) <| wv rfl rfl rfl (R_assign rfl rfl) ?_
     refine W_nil <| E_then (C_fr [(9, .slice AR0_63 (exportS a0).1.length cR0_63), (12, .int .i64 (faultS (fillS (exportS a0).1) 60 12)), (13, .slice AR0_81 (exportS (fillW zSh (fillS (exportS a0).1) 60 12)).1.length cR0_81), (14, .int .i64 (exportS (fillW zSh (fillS (exportS a0).1) 60 12)).2)] rfl ?_)
     refine C_seq <| C_region <| wv rfl rfl rfl (R_move rfl rfl) <| wv rfl rfl rfl (R_bin rfl rfl rfl rfl rfl) <| wv rfl rfl rfl (R_move rfl rfl) ?_
     have hk83 : (((faultS (fillS (exportS a0).1) 60 12) == 0)) = true := by rw [hxb.fault]; rfl
     have hk83p : (faultS (fillS (exportS a0).1) 60 12) = 0 := by simpa using hk83
     refine W_cons rfl (by decide) (Sv_gt rfl rfl rfl hk83 (Sv_val rfl (R_move rfl rfl) ?_))
     refine W_cons rfl (by decide) (Sv_gt rfl rfl rfl hk83 (Sv_val rfl (R_bin rfl rfl rfl rfl rfl) ?_))
     refine wv rfl rfl rfl (R_pick_t rfl rfl hk83 rfl) <| wv rfl rfl rfl (R_move rfl rfl) ?_
     have hk84 : (((exportS (fillW zSh (fillS (exportS a0).1) 60 12)).2 == 0)) = true := by rw [hxb.exp]; rfl
     have hk84p : (exportS (fillW zSh (fillS (exportS a0).1) 60 12)).2 = 0 := by simpa using hk84
     refine W_cons rfl (by decide) (Sv_gt rfl rfl rfl hk84 (Sv_val rfl (R_move rfl rfl) ?_))
     refine W_cons rfl (by decide) (Sv_gt rfl rfl rfl hk84 (Sv_val rfl (R_move rfl rfl) ?_))
     refine W_cons rfl (by decide) (Sv_gt rfl rfl rfl hk84 (Sv_call rfl rfl rfl ent14 ?_))
     refine (same_calls (exportS (fillW zSh (fillS (exportS a0).1) 60 12)).1 AR0_81 cR0_81 (exportS a0).1 AR0_63 cR0_63 _ _ hS.out0 (hS.ow [] 1 rfl rfl (hS.zq [] 0 rfl rfl)) (hS.cap 1 rfl) (hS.ow [] 8 rfl rfl (hS.zq [] 7 rfl rfl)) (hS.cap 8 rfl) ).mono ?_
     rintro e_ w85 ⟨rfl, hS_⟩
     refine ⟨_, rfl, ?_⟩
     have hS := hS.call0 hS_
     refine wv rfl rfl rfl (R_pick_t rfl rfl hk84 rfl) <| wv rfl rfl rfl (R_move rfl rfl) ?_
     have hk87 : (decide ((exportS (fillW zSh (fillS (exportS a0).1) 60 12)).1 = (exportS a0).1)) = true := by rw [hxb.exp]; simp
     refine W_cons rfl (by decide) (Sv_gt rfl rfl rfl hk87 (Sv_call rfl rfl rfl ent9 ?_))
     refine (pawake_calls  _ _ hS.out0  (by exact HM.mono (by assumption) (hS.zl [])) (by exact ET.mono (by assumption) (hS.zl []))).mono ?_
     rintro e_ w88 ⟨rfl, hS_⟩
     refine ⟨_, rfl, ?_⟩
     have hS := hS.call0 hS_
     refine wv rfl rfl rfl (R_pick_t rfl rfl hk87 rfl) <| wv rfl rfl rfl (R_assign rfl rfl) ?_
     refine W_nil <| E_then (C_fr [(4, .bool true)] rfl ?_)
     refine C_ret <| E_ret1 rfl rfl ?_
     exact ⟨Lret1 (Lbool (show true = true by rfl)), hS.fin [] (by decide) rfl⟩
end Go.Proofs.YtaljccgfnmfhnaaGreatDoorG
set_option linter.all false
namespace Go.Proofs.YtaljccgfnmfhnaaGreatDoorG
open Go Go.RowKit
theorem cz_cell {w : World} {a : Addr} {v : Value} (h : w.cell? a = some v) : cz (cellsAt w) a = some v := by
  unfold World.cell? at h
  unfold cz cellsAt
  split at h
  · rename_i c e fr hh
    rw [hh]
    split at h
    · cases h
    · rename_i hs
      rw [if_neg hs]
      exact h
  · cases h
def Has (P : Program) (t : TypeId) {α : Type} (d : Kd α) (G : α → Prop) : Prop :=
  ∀ {H : Type} (enc : TypeId × Value → H) (W : World) (spare : Nat → Bool) (held : Bool) (fuel : Nat) (cs : List Value) (x : DataW H × List MemPlace),
    DataW.trod enc P W 0 spare held fuel t cs = some x → ∃ a, d.K (cellsAt W) a cs ∧ G a
def wfi (k : IntKind) (n : Int) : Prop := (Lit.int k n).wf = true
theorem wf64 {n : Int} (h : wfi .i64 n) : -9223372036854775808 ≤ n ∧ n ≤ 9223372036854775807 := by
  unfold wfi Lit.wf at h
  have h4 : IntKind.i64.min = -9223372036854775808 := by decide
  have h5 : IntKind.i64.max = 9223372036854775807 := by decide
  simp [h4, h5] at h
  exact h
theorem Has.int {P : Program} {t : TypeId} {k : IntKind} (ht : P.underlying t = some (.int k)) : Has P t (kint k) (wfi k) := fun enc W spare held fuel cs x h => by
  obtain ⟨n, h1, _, h2⟩ := DataW.trod_int ht h
  exact ⟨n, h1, h2⟩
theorem Has.bool {P : Program} {t : TypeId} (ht : P.underlying t = some .bool) : Has P t kbool (fun _ => True) := fun enc W spare held fuel cs x h => by
  obtain ⟨n, h1, _⟩ := DataW.trod_bool ht h
  exact ⟨n, h1, trivial⟩
theorem Has.str {P : Program} {t : TypeId} (ht : P.underlying t = some .string) : Has P t kstr (fun s => s.length ≤ maxLen) := fun enc W spare held fuel cs x h => by
  obtain ⟨⟨⟨l⟩⟩, h1, _, h2⟩ := DataW.trod_string ht h
  exact ⟨l, h1, h2⟩
theorem pick_list {α : Type} {Q : Nat → α → Prop} : ∀ n, (∀ i, i < n → ∃ a, Q i a) → ∃ xs : List α, xs.length = n ∧ ∀ i x, xs[i]? = some x → Q i x
  | 0, _ => ⟨[], rfl, fun i x h => by simp at h⟩
  | n + 1, h => by
    obtain ⟨xs, h1, h2⟩ := pick_list n (fun i hi => h i (by omega))
    obtain ⟨a, ha⟩ := h n (by omega)
    refine ⟨xs ++ [a], by simp [h1], fun i x hx => ?_⟩
    rcases Nat.lt_or_ge i n with hi | hi
    · rw [List.getElem?_append_left (by omega)] at hx
      exact h2 i x hx
    · rw [List.getElem?_append_right (by omega), h1] at hx
      have h3 : i - n = 0 := by
        have := (List.getElem?_eq_some_iff.1 hx).1
        simp at this
        omega
      rw [h3] at hx
      simp at hx
      subst hx
      have : i = n := by omega
      subst this
      exact ha
theorem Has.slice {P : Program} {t e : TypeId} {α : Type} {d : Kd α} {G : α → Prop} (ht : P.underlying t = some (.slice e)) (hc : P.cellsOf e = d.sz) (he : Has P e d G) : Has P t (kslice d) (fun xs => ∀ x ∈ xs, G x) := fun enc W spare held fuel cs x h => by
  rcases DataW.trod_slice ht h with ⟨rfl, _⟩ | ⟨a, len, cap, elems, rest, n, rfl, rfl, _, _, h2, h3, h4, h5, _⟩
  · exact ⟨[], ⟨none, 0, rfl, ⟨Nat.le_refl _, fun _ => rfl, by decide⟩, Rd.nil _ _ _⟩, by simp⟩
  · obtain ⟨xs, hl, hx⟩ := pick_list (Q := fun i x => G x ∧ ∃ cs, d.K (cellsAt W) x cs ∧ ∀ j u, cs[j]? = some u → cz (cellsAt W) (a.add (i * d.sz + j)) = some u) len (fun i hi => by
      have h6 := h5 i hi
      rw [List.getElem?_eq_getElem (by omega)] at h6
      obtain ⟨cs, h7, h8⟩ := Option.bind_eq_some_iff.1 h6
      obtain ⟨x, h9, h10⟩ := he enc W spare held n cs _ h8
      obtain ⟨_, h11, h12⟩ := World.cells?_some h7
      refine ⟨x, h10, cs, h9, fun j u hu => ?_⟩
      have hj : j < P.cellsOf e := by have := (List.getElem?_eq_some_iff.1 hu).1; omega
      have h13 := h12 j hj
      rw [hu, add_add, hc] at h13
      exact cz_cell h13)
    refine ⟨xs, ⟨some a, cap, by rw [hl], ⟨by omega, (fun h => by cases h), by simp only [maxLen] at h3; omega⟩, fun i x hi => ?_⟩, fun x hm => ?_⟩
    · obtain ⟨_, cs, h6, h7⟩ := hx i x hi
      exact ⟨a, cs, rfl, h6, h7⟩
    · obtain ⟨i, hi⟩ := List.getElem?_of_mem hm
      exact (hx i x hi).1
theorem agg_of {P : Program} {t : TypeId} {w : World} {r : Reach} {b : Nat} {v : Value} {fs : Array Field} (ht : P.underlying t = some (.struct fs)) (h : Value.okWide P w r b t v) : ∃ cs : List Value, v = .agg cs.toArray ∧ v.cells.toList = cs := by
  unfold Value.okWide at h
  rw [ht] at h
  obtain ⟨cs, rfl, _⟩ := h
  exact ⟨cs.toList, by simp, by simp [Value.cells]⟩
end Go.Proofs.YtaljccgfnmfhnaaGreatDoorG
set_option linter.all false
namespace Go.Proofs.YtaljccgfnmfhnaaGreatDoorG
open Go Go.RowKit
def Within (P : Program) (t : TypeId) {H : Type} (x : DataW H) : Prop := ∀ n ∈ x.weights P t, n ≤ reachBytes
def HasZ (P : Program) (t : TypeId) {α : Type} (d : Kd α) (G : α → Prop) : Prop :=
  ∀ {H : Type} (enc : TypeId × Value → H) (W : World) (spare : Nat → Bool) (held : Bool) (fuel : Nat) (cs : List Value) (x : DataW H × List MemPlace),
    DataW.trod enc P W 0 spare held fuel t cs = some x → Within P t x.1 → ∃ a, d.K (cellsAt W) a cs ∧ G a
theorem Has.z {P : Program} {t : TypeId} {α : Type} {d : Kd α} {G : α → Prop} (h : Has P t d G) : HasZ P t d G := fun enc W spare held fuel cs x hx _ => h enc W spare held fuel cs x hx
theorem HasZ.int {P : Program} {t : TypeId} {k : IntKind} (ht : P.underlying t = some (.int k)) : HasZ P t (kint k) (wfi k) := fun enc W spare held fuel cs x hx _ => Has.int ht enc W spare held fuel cs x hx
theorem HasZ.bool {P : Program} {t : TypeId} (ht : P.underlying t = some .bool) : HasZ P t kbool (fun _ => True) := fun enc W spare held fuel cs x hx _ => Has.bool ht enc W spare held fuel cs x hx
theorem HasZ.str {P : Program} {t : TypeId} (ht : P.underlying t = some .string) : HasZ P t kstr (fun s => s.length ≤ 140737488351232) := fun enc W spare held fuel cs x h hw => by
  obtain ⟨⟨⟨l⟩⟩, h1, rfl, h2⟩ := DataW.trod_string ht h
  refine ⟨l, h1, ?_⟩
  have := hw l.length (by simp [DataW.weights])
  exact this
theorem weightsAll_in {H : Type} {P : Program} {e : TypeId} : ∀ {l : List (DataW H)} {d : DataW H}, d ∈ l → ∀ n ∈ d.weights P e, n ∈ DataW.weightsAll P e l
  | d' :: r, d, hd, n, hn => by
    simp only [DataW.weightsAll, List.mem_append]
    rcases List.mem_cons.1 hd with rfl | h
    · exact Or.inl hn
    · exact Or.inr (weightsAll_in h n hn)
theorem HasZ.slice {P : Program} {t e : TypeId} {α : Type} {d : Kd α} {G : α → Prop} {B : Nat} (ht : P.underlying t = some (.slice e)) (hc : P.cellsOf e = d.sz) (hb : P.bytesOf e = B) (he : HasZ P e d G) : HasZ P t (kslice d) (fun xs => xs.length * B ≤ 140737488351232 ∧ ∀ x ∈ xs, G x) := fun enc W spare held fuel cs x h hw => by
  rcases DataW.trod_slice ht h with ⟨rfl, _⟩ | ⟨a, len, cap, elems, rest, n, rfl, rfl, rfl, _, h2, h3, h4, h5, _⟩
  · exact ⟨[], ⟨none, 0, rfl, ⟨Nat.le_refl _, fun _ => rfl, by decide⟩, Rd.nil _ _ _⟩, by simp, by simp⟩
  · have hw1 : (elems.length + rest.length) * P.bytesOf e ≤ reachBytes := hw _ (by simp [DataW.weights, ht])
    have hw2 : ∀ y ∈ elems, Within P e y.1 := fun y hy m hm => hw m (by
      simp only [DataW.weights, ht, List.mem_cons, List.mem_append]
      exact Or.inr (Or.inl (weightsAll_in (List.mem_map_of_mem hy) m hm)))
    obtain ⟨xs, hl, hx⟩ := pick_list (Q := fun i x => G x ∧ ∃ cs, d.K (cellsAt W) x cs ∧ ∀ j u, cs[j]? = some u → cz (cellsAt W) (a.add (i * d.sz + j)) = some u) len (fun i hi => by
      have h6 := h5 i hi
      rw [List.getElem?_eq_getElem (by omega)] at h6
      obtain ⟨cs, h7, h8⟩ := Option.bind_eq_some_iff.1 h6
      obtain ⟨x, h9, h10⟩ := he enc W spare held n cs _ h8 (hw2 _ (List.getElem_mem _))
      obtain ⟨_, h11, h12⟩ := World.cells?_some h7
      refine ⟨x, h10, cs, h9, fun j u hu => ?_⟩
      have hj : j < P.cellsOf e := by have := (List.getElem?_eq_some_iff.1 hu).1; omega
      have h13 := h12 j hj
      rw [hu, add_add, hc] at h13
      exact cz_cell h13)
    refine ⟨xs, ⟨some a, cap, by rw [hl], ⟨by omega, (fun h => by cases h), by simp only [maxLen] at h3; omega⟩, fun i x hi => ?_⟩, ?_, fun x hm => ?_⟩
    · obtain ⟨_, cs, h6, h7⟩ := hx i x hi
      exact ⟨a, cs, rfl, h6, h7⟩
    · subst hb
      rw [hl, ← h4]
      exact Nat.le_trans (Nat.mul_le_mul_right _ (Nat.le_add_right _ _)) hw1
    · obtain ⟨i, hi⟩ := List.getElem?_of_mem hm
      exact (hx i x hi).1
theorem weights_part {H : Type} {P : Program} {t : TypeId} {fs : Array Field} {xs : List (DataW H × List MemPlace)} {i : Nat} {f : Field} {y : DataW H × List MemPlace} (ht : P.underlying t = some (.struct fs)) (hf : fs[i]? = some f) (hy : xs[i]? = some y)
    (hw : Within P t (.agg (xs.map (·.1)) : DataW H)) : Within P f.type y.1 := fun n hn => hw n (by
  simp only [DataW.weights, ht]
  refine DataW.weights_mem_each (j := i) (t := f.type) (d := y.1) ?_ ?_ n hn
  · have : fs.toList[i]? = some f := by simpa using hf
    rw [List.getElem?_map, this]
    rfl
  · rw [List.getElem?_map, hy]
    rfl)
theorem within_arg {H : Type} {P : Program} {ts : List TypeId} {ds : List (DataW H)} (h : (DataW.weightsEach P ts ds).all (· ≤ reachBytes) = true) {j : Nat} {t : TypeId} {d : DataW H} (ht : ts[j]? = some t) (hd : ds[j]? = some d) : Within P t d := fun n hn =>
  of_decide_eq_true (List.all_eq_true.1 h n (DataW.weights_mem_each ht hd n hn))
end Go.Proofs.YtaljccgfnmfhnaaGreatDoorG
set_option linter.all false
namespace Go.Proofs.YtaljccgfnmfhnaaGreatDoorG
open Go Go.RowKit Go.Proofs
variable {H : Type} {enc : TypeId × Value → H}
theorem handed_and_shaped {a : Assume} {C : Checked} {os : Os} {f : FuncId} {fn : Func} {s : ChangeSpec} {conds : List PathCond} {apart fresh handsOn again : Bool} {X : World → Array Value → Prop}
    (hX : ∀ (w w' : World) (args : Array Value), w.heap = w'.heap → X w args → X w' args)
    (own : ownKnob C.prog.godebug = none) (started : os.Started) (noInit : C.prog.inits.idxOf? f = none) (hfn : C.prog.funcs[f]? = some fn)
    (witness : ∃ (w : World) (tape : Tape) (i : Input), w.os = os ∧ (w.forCall tape i).Shaped C.prog ∧ i.vars = [] ∧ Input.okWide C.prog (w.forCall tape i) .any w.heap.size f i ∧
      ((s.pre enc C.prog fn conds apart (w.forCall tape i).memory i.args ∧ X (w.forCall tape i).memory i.args) ∧ sizedMet enc C.prog fn (OpenSpec.ofChange s) apart (w.forCall tape i).memory i.args) ∧ a.holds C.prog (lone (Frame.enter C.prog f i.args .normal) [] (w.forCall tape i)))
    (contract : ∀ (W : World) (base : Nat) (args : Array Value) (ds gs : List (DataW H)) (before : List MemPlace),
      (∀ (j : Nat) t v, fn.params[j]? = some t → args[j]? = some v → Value.okWide C.prog W .any base t v) →
      DataW.Whole enc C.prog fn.params.toList s.vars apart W args.toList ds gs before →
      conds.all (PathCond.test C.prog ⟨fn.params.toList, ds, s.plain.varTypes C.prog, gs⟩) = true →
      (DataW.weightsEach C.prog (fn.params.toList ++ s.plain.varTypes C.prog) (ds ++ gs)).all (· ≤ reachBytes) = true → X W args →
      W.ShapedOpen C.prog →
      a.holds C.prog (lone (Frame.enter C.prog f args .normal) [] W) →
      Calls C.prog f args W fun e W' => ∃ v, e = .returned v ∧ s.post enc C.prog fn apart fresh handsOn again W args v W') :
    ReturnsInHanded a C os f .any (fun w args => (s.pre enc C.prog fn conds apart w args ∧ X w args) ∧ sizedMet enc C.prog fn (OpenSpec.ofChange s) apart w args) (s.post enc C.prog fn apart fresh handsOn again) := by
  refine returnsInHanded_of_calls own started noInit witness ?_
  intro w tape i _ hsh _ hok hpre hholds
  obtain ⟨_, _, _, fn', hfn', _, _, _, _, hval⟩ := hok
  have e : fn' = fn := Option.some.inj (hfn'.symm.trans hfn)
  subst e
  obtain ⟨⟨⟨ds, gs, before, hw, hc⟩, hx⟩, hz⟩ := hpre
  have hw' := DataW.Whole.of_heap (w' := w.forCall tape i) (by rfl) hw
  refine (contract (w.forCall tape i) w.heap.size i.args ds gs before hval hw' hc (hz.weights hw) (hX _ _ _ (by rfl) hx) hsh hholds).mono fun e W' ⟨v, he, hp⟩ => ?_
  subst he
  exact ChangeSpec.post_blind hp
theorem hm_of {W : World} (h : W.ShapedOpen Tryz.prog) : HM (cellsAt W) := by
  obtain ⟨cs, h1, h2, h3⟩ := h.1 (rho.g 1) #[.int .i64 0] 3 (of_decide_eq_true (by kernel_rfl)) (by kernel_rfl)
  obtain ⟨m, hm⟩ := cell_of_shapedOpen_int (P := Tryz.prog) (g := rho.g 1) (t := 3) (zero := #[.int .i64 0]) h (of_decide_eq_true (by kernel_rfl)) (by kernel_rfl) rfl (by kernel_rfl) (by kernel_rfl) Tryz.underlying3
  refine ⟨m, ?_⟩
  have hs : cs.size = 1 := h2
  simp only [World.cell?, h1] at hm
  simp only [cellsAt, h1]
  have h0 : cs[0]? = some (.int .i64 m) := by simpa using hm
  congr 1
  apply Array.ext
  · simpa using hs
  · intro i hi hj
    have : i = 0 := by omega
    subst this
    simp [Array.getElem?_eq_getElem hi] at h0
    simpa using h0
end Go.Proofs.YtaljccgfnmfhnaaGreatDoorG
set_option linter.all false
namespace Go.Proofs.YtaljccgfnmfhnaaGreatDoorG
open Go Go.RowKit Go.Proofs
theorem rt_at : (Tryz.prog.cutTypes.find? (·.1 == "internal/reflectlite.rtype")).map (·.2) = some 162 := by kernel_rfl
theorem err_rows : ((List.range Tryz.prog.types.size).filter fun t => Tryz.prog.rowNamed t [101, 114, 114, 111, 114]) = [64] := by kernel_rfl
theorem err_at : Tryz.prog.globalNamed "errors.errorType" = some 0 := by kernel_rfl
theorem err_handle : typeHandle Tryz.prog 64 = .pointer (some ⟨4, 64, none⟩) := by kernel_rfl
theorem et_of {W : World} {l : List (String × DataW Unit)} (h : laidMetH Tryz.prog l W)
    (hl : (l.filter fun x => x.2.handleName?.isSome) = [("errors.errorType", .iface "internal/reflectlite.rtype" (.agg [.ptr (.lit (.string [101, 114, 114, 111, 114]))]))]) : ET (cellsAt W) := by
  unfold laidMetH at h
  rw [hl] at h
  obtain ⟨_, h2⟩ := h
  have h3 := h2 _ (List.mem_singleton.2 rfl)
  obtain ⟨name, u, ty, e1, e2, e3, e4, e5⟩ := h3
  have en : name = [101, 114, 114, 111, 114] := (Option.some.inj e1).symm
  subst en
  obtain rfl := Option.some.inj (rt_at.symm.trans e2)
  have hm : ty ∈ (List.range Tryz.prog.types.size).filter fun t => Tryz.prog.rowNamed t [101, 114, 114, 111, 114] := List.mem_filter.2 ⟨List.mem_range.2 e3, e4⟩
  rw [err_rows] at hm
  obtain rfl := List.mem_singleton.1 hm
  rw [err_handle] at e5
  unfold World.var? at e5
  rw [err_at] at e5
  unfold ET cellsAt
  cases hh : W.heap[0]? with
  | none => simp [hh] at e5
  | some o => cases o <;> simp_all
noncomputable def hwO (os : Os) : World :=
  let w0 := World.holding Tryz.prog os ⟨#[], #[], []⟩
  { w0 with heap := w0.heap.modify 0 fun
      | .cells _ t frozen => .cells #[.iface 162 (.agg #[.pointer (some ⟨4, 64, none⟩)])] t frozen
      | o => o }
noncomputable def lwO (os : Os) (laid : List (String × DataW Unit)) : World := (hwO os).layVars Tryz.prog laid
theorem lwO_os (os : Os) (laid : List (String × DataW Unit)) : (lwO os laid).os = os := (World.layVars_os _ _ _).trans rfl
theorem lwO_met {os : Os} {laid : List (String × DataW Unit)} (args : Array Value) (hf : (hwO os).layFits Tryz.prog laid [] = true)
    (hi : (hwO os).layIfaces Tryz.prog laid (lwO os laid) = true) : laidMet Tryz.prog laid ((lwO os laid).forCall (fun _ _ => 0) ⟨#[], args, []⟩).memory := by
  have e1 : (laid.filter fun x => (laid.map (·.1)).contains x.1) = laid := List.filter_eq_self.2 fun x hx => List.contains_iff_mem.2 (List.mem_map.2 ⟨x, hx, rfl⟩)
  have e2 : (laid.filter fun x => !(laid.map (·.1)).contains x.1) = [] := List.filter_eq_nil_iff.2 fun x hx => by rw [List.contains_iff_mem.2 (List.mem_map.2 ⟨x, hx, rfl⟩)]; simp
  have h : laidMet Tryz.prog laid (lwO os laid) := laidMet_layVars (w0 := hwO os) (laid.map (·.1)) [] (by rw [e1]; rfl) (by rw [e1]; exact hf) (by rw [e1]; exact hi) (by rw [e2]; exact LaidIn.none)
  exact h.of_heap (by simp [World.memory, World.forCall, Input.heap])
end Go.Proofs.YtaljccgfnmfhnaaGreatDoorG
