/- Walks, each function once: what it computes. -/
import Derived.Test.YtgjnhmidbapjmaaT1
set_option linter.all false
namespace Go.Proofs.YtgjnhmidbapjmaaG
open Go Go.RowKit
set_option maxHeartbeats 2000000 in
set_option maxRecDepth 20000 in
theorem rturn_calls (a0 : List (List St)) (Aa0 : Option Addr) (ca0 : Nat) (z : Z) (w : World) (hI : In z w []) (hra0 : Rd (kslice kstr) z Aa0 a0) (hca0 : Cap Aa0 a0.length ca0) (p0 : a0.length ≤ 10000) (p1 : widthS a0 ≤ 10000) :
    Calls Try.prog 25 #[.slice Aa0 a0.length ca0] w fun e w' => ∃ (AR0 : Option Addr) (cR0 : Nat) (qR0 : Z), e = .returned (.slice AR0 (rturnS a0).length cR0) ∧ Sp (FF []) w z w' [zR qR0, oR (kslice kstr) 31 qR0 AR0 cR0 (rturnS a0)] := by
 have hla0 := hca0.le
 have hma0 := hca0.mx
 have hS := hI.sp
 have hwn := widthS_nonneg a0
 have hfl := fill_len a0
 have hf0 := fill_at a0 (i := 0) (by omega)
 refine Calls_of (vs := [.slice Aa0 a0.length ca0]) (N := 39) Try.func25 rfl rfl (Nat.le_of_ble_eq_true rfl) ?_
 refine C_seq ?_
 refine C_region ?_
 refine W_cons rfl (by decide) (Sv_val rfl (R_assign rfl rfl) ?_)
 refine W_nil ?_
 refine E_then ?_
 refine C_seq ?_
 refine C_region ?_
 refine W_cons rfl (by decide) (Sv_val rfl (R_move rfl rfl) ?_)
 refine W_cons rfl (by decide) (Sv_call rfl rfl rfl ent23 ?_)
 refine (rfill_calls a0 Aa0 ca0 _ _ hS.out0 (hra0.mono (hS.zl [])) hca0 (by omega) (by omega)).mono ?_
 rintro e_ w1 ⟨AR0_2, cR0_2, qR0_2, rfl, hS_⟩
 refine ⟨_, rfl, ?_⟩
 have hS := hS.call0 hS_
 have hp3 := hS.cap 1 rfl
 have hlhp3 := hp3.le
 have hmhp3 := hp3.mx
 refine W_cons rfl (by decide) (Sv_val rfl (R_assign rfl rfl) ?_)
 refine W_nil ?_
 refine E_then ?_
 refine C_seq ?_
 refine C_region ?_
 refine W_cons rfl (by decide) (Sv_val rfl (R_assign rfl rfl) ?_)
 refine W_nil ?_
 refine E_then ?_
 refine C_seq ?_
 refine C_seq ?_
 refine C_region ?_
 refine W_cons rfl (by decide) (Sv_val rfl (R_assign rfl rfl) ?_)
 refine W_nil ?_
 refine E_then ?_
 refine C_block ?_
 obtain ⟨z7, hS⟩ := hS.famx
 have hS := hS.nilrow (kslice kstr) 31 z7
 have hs9 : ([] : List (List St)) = (List.range (0 : Nat)).map (fun (k_ : Nat) => (fillS a0).map fun r => r.getD k_ []) := by rfl
 have hS := hS.re 0 rfl hs9
 refine C_fr [(3, .slice AR0_2 (fillS a0).length cR0_2), (4, .slice none 0 0), (5, .int .i64 0)] rfl ?_
 refine C_loop (fun m_ f_ w_ => ∃ (k : Nat) (Ar4 : Option Addr) (cr4 : Nat) (z5 : Z), f_ = [(3, .slice AR0_2 (fillS a0).length cR0_2), (4, .slice Ar4 ((List.range k).map (fun (k_ : Nat) => (fillS a0).map fun r => r.getD k_ [])).length cr4), (5, .int .i64 (k : Int))] ∧ k ≤ ((fillS a0).getD 0 []).length ∧ m_ = ((fillS a0).getD 0 []).length - k ∧ Sp (FF []) w z w_ [zR qR0_2, oR (kslice kstr) 31 qR0_2 AR0_2 cR0_2 (fillS a0), zR z5, oR (kslice kstr) 31 z5 Ar4 cr4 ((List.range k).map (fun (k_ : Nat) => (fillS a0).map fun r => r.getD k_ []))]) (((fillS a0).getD 0 []).length - (0 : Nat)) ⟨(0 : Nat), none, 0, z7, (by rw [← hs9] <;> rfl), (by omega), rfl, hS.fin [2, 3, 1, 0] (by decide) rfl⟩ ?_
 rintro m_ f_ w6 ⟨k, Ar4, cr4, z5, rfl, hI0_0, rfl, hS⟩
 have hp10 := hS.cap 3 rfl
 have hlhp10 := hp10.le
 have hmhp10 := hp10.mx
 refine C_seq ?_
 refine C_seq ?_
 refine C_region ?_
 refine W_cons rfl (by decide) (Sv_val rfl (R_move rfl rfl) ?_)
 refine W_cons rfl (by decide) (Sv_val rfl (R_move rfl rfl) ?_)
 obtain ⟨q11, csq11, hAq11, ⟨Aq11, cq11, rfl, hcq11, hrq11⟩, hkq11⟩ := (hS.rw 1 rfl).el [] (i := 0) (by omega) (by omega)
 have hkq11 : ∀ (j_ : Nat) (u_ : Value), ([.slice Aq11 ((fillS a0).getD 0 []).length cq11] : List Value)[j_]? = some u_ → World.cell? w6 (q11.add (0 * 1 + j_)) = some u_ := hkq11
 have hrq11 : Rd kstr qR0_2 Aq11 (((fillS a0).getD 0 [])) := hrq11
 have hcq11 : Cap Aq11 (((fillS a0).getD 0 [])).length cq11 := hcq11
 have hlq11 := hcq11.le
 have hmq11 := hcq11.mx
 refine W_cons rfl (by decide) (Sv_val rfl (R_idx rfl rfl hAq11 rfl Try.underlying22 size31 (by omega) (by omega)) ?_)
 refine W_cons rfl (by decide) (Sv_val rfl (R_load1 rfl rfl agg31 (hkq11 0 _ rfl)) ?_)
 refine W_cons rfl (by decide) (Sv_val rfl (R_len rfl rfl Try.underlying31) ?_)
 refine W_cons rfl (by decide) (Sv_val rfl (R_bin rfl rfl rfl rfl rfl) ?_)
 refine W_nil ?_
 refine E_then (C_fr [(3, .slice AR0_2 (fillS a0).length cR0_2), (4, .slice Ar4 ((List.range k).map (fun (k_ : Nat) => (fillS a0).map fun r => r.getD k_ [])).length cr4), (5, .int .i64 (k : Int)), (15, .bool (decide ((k : Int) < (((fillS a0).getD 0 []).length : Int))))] rfl ?_)
 refine C_ite rfl (fun hC0 => ?_) (fun hC0 => ?_)
 ·have _hC0 := trivial
  have hC0p : (k : Int) < (((fillS a0).getD 0 []).length : Int) := by simpa using hC0
  refine C_skip ?_
  refine E_then ?_
  refine C_seq ?_
  refine C_block ?_
  refine C_seq ?_
  refine C_region ?_
  refine W_cons rfl (by decide) (Sv_val rfl (R_assign rfl rfl) ?_)
  refine W_nil ?_
  refine E_then ?_
  refine C_seq ?_
  refine C_seq ?_
  refine C_region ?_
  refine W_cons rfl (by decide) (Sv_val rfl (R_assign rfl rfl) ?_)
  refine W_nil ?_
  refine E_then ?_
  refine C_block ?_
  have hS := hS.nilrow kstr 9 zE
  have hs15 : ([] : List St) = ((fillS a0).take (0 : Nat)).map (fun r => r.getD k []) := by rfl
  have hS := hS.re 0 rfl hs15
  refine C_fr [(3, .slice AR0_2 (fillS a0).length cR0_2), (4, .slice Ar4 ((List.range k).map (fun (k_ : Nat) => (fillS a0).map fun r => r.getD k_ [])).length cr4), (5, .int .i64 (k : Int)), (6, .slice none 0 0), (7, .int .i64 0)] rfl ?_
  refine C_loop (fun m_ f_ w_ => ∃ (i : Nat) (Ar12 : Option Addr) (cr12 : Nat), f_ = [(3, .slice AR0_2 (fillS a0).length cR0_2), (4, .slice Ar4 ((List.range k).map (fun (k_ : Nat) => (fillS a0).map fun r => r.getD k_ [])).length cr4), (5, .int .i64 (k : Int)), (6, .slice Ar12 (((fillS a0).take i).map (fun r => r.getD k [])).length cr12), (7, .int .i64 (i : Int))] ∧ i ≤ (fillS a0).length ∧ m_ = (fillS a0).length - i ∧ Sp (FF []) w z w_ [zR qR0_2, oR (kslice kstr) 31 qR0_2 AR0_2 cR0_2 (fillS a0), zR z5, oR (kslice kstr) 31 z5 Ar4 cr4 ((List.range k).map (fun (k_ : Nat) => (fillS a0).map fun r => r.getD k_ [])), oR kstr 9 zE Ar12 cr12 (((fillS a0).take i).map (fun r => r.getD k []))]) ((fillS a0).length - (0 : Nat)) ⟨(0 : Nat), none, 0, (by rw [← hs15] <;> rfl), (by omega), rfl, hS.fin [1, 2, 3, 4, 0] (by decide) rfl⟩ ?_
  rintro m_ f_ w13 ⟨i, Ar12, cr12, rfl, hI1_0, rfl, hS⟩
  have hp16 := hS.cap 4 rfl
  have hlhp16 := hp16.le
  have hmhp16 := hp16.mx
  refine C_seq ?_
  refine C_seq ?_
  refine C_region ?_
  refine W_cons rfl (by decide) (Sv_val rfl (R_move rfl rfl) ?_)
  refine W_cons rfl (by decide) (Sv_val rfl (R_move rfl rfl) ?_)
  refine W_cons rfl (by decide) (Sv_val rfl (R_len rfl rfl Try.underlying22) ?_)
  refine W_cons rfl (by decide) (Sv_val rfl (R_bin rfl rfl rfl rfl rfl) ?_)
  refine W_nil ?_
  refine E_then ?_
  refine C_ite rfl (fun hC1 => ?_) (fun hC1 => ?_)
  ·have _hC1 := trivial
   have hC1p : (i : Int) < ((fillS a0).length : Int) := by simpa using hC1
   refine C_skip ?_
   refine E_then ?_
   refine C_seq ?_
   refine C_block ?_
   have hfi := fill_at a0 (i := i) (by omega)
   refine C_region ?_
   refine W_cons rfl (by decide) (Sv_val rfl (R_move rfl rfl) ?_)
   refine W_cons rfl (by decide) (Sv_val rfl (R_move rfl rfl) ?_)
   refine W_cons rfl (by decide) (Sv_val rfl (R_move rfl rfl) ?_)
   obtain ⟨q17, csq17, hAq17, ⟨Aq17, cq17, rfl, hcq17, hrq17⟩, hkq17⟩ := (hS.rw 1 rfl).el [] (i := (i : Int)) (by omega) (by omega)
   have hkq17 : ∀ (j_ : Nat) (u_ : Value), ([.slice Aq17 ((fillS a0).getD i []).length cq17] : List Value)[j_]? = some u_ → World.cell? w13 (q17.add (i * 1 + j_)) = some u_ := hkq17
   have hrq17 : Rd kstr qR0_2 Aq17 (((fillS a0).getD i [])) := hrq17
   have hcq17 : Cap Aq17 (((fillS a0).getD i [])).length cq17 := hcq17
   have hlq17 := hcq17.le
   have hmq17 := hcq17.mx
   refine W_cons rfl (by decide) (Sv_val rfl (R_idx rfl rfl hAq17 rfl Try.underlying22 size31 (by omega) (by omega)) ?_)
   refine W_cons rfl (by decide) (Sv_val rfl (R_load1 rfl rfl agg31 (hkq17 0 _ rfl)) ?_)
   refine W_cons rfl (by decide) (Sv_val rfl (R_move rfl rfl) ?_)
   obtain ⟨q18, csq18, hAq18, rfl, hkq18⟩ := hrq17.at_ ([] : St) (i := (k : Int)) (by omega) (by omega)
   have hkq18 : ∀ (j_ : Nat) (u_ : Value), ([vstr (((fillS a0).getD i []).getD k ([] : St))] : List Value)[j_]? = some u_ → cz qR0_2 (q18.add (k * 1 + j_)) = some u_ := hkq18
   refine W_cons rfl (by decide) (Sv_val rfl (R_idx rfl rfl hAq18 rfl Try.underlying31 size9 (by omega) (by omega)) ?_)
   refine W_cons rfl (by decide) (Sv_val rfl (R_load1 rfl rfl agg9 ((hS.zs 0 rfl).cell (hkq18 0 _ rfl))) ?_)
   refine W_cons rfl (by decide) (S_row (d := kstr) (q := zE) hS ([(((fillS a0).getD i []).getD k ([] : St))] : List St) rfl (R_buildSlice (ps := [(0, (.tmp 31))]) (vs := [vstr (((fillS a0).getD i []).getD k ([] : St))]) (w' := w13.alloc (.cells [vstr (((fillS a0).getD i []).getD k ([] : St))].toArray 9)) (r := .slice (some ⟨w13.heap.size, 0, none⟩) 1 1) rfl rfl rfl (by kernel_rfl)) (by simp [Reps, flat, kstr]) rfl (by decide) (fun g20 w19 hS => ?_))
   refine W_cons rfl (by decide) (S_append hS 5 rfl rfl rfl elem31 rfl rfl (hS.sow 0 rfl (fun _ _ h => h)) (by (try simp only [List.length_cons, List.length_nil, List.length_append, List.length_take, List.length_map, List.length_range, maxLen]); omega) (by (try simp only [List.length_cons, List.length_nil, List.length_append, List.length_take, List.length_map, List.length_range, maxLen]); omega) (fun Ar22 cr22 w21 hS => ?_))
   have hp23 := hS.cap 5 rfl
   have hlhp23 := hp23.le
   have hmhp23 := hp23.mx
   refine W_cons rfl (by decide) (Sv_val rfl (R_assign rfl rfl) ?_)
   refine W_nil ?_
   refine E_block_normal ?_
   refine E_then (C_fr [(3, .slice AR0_2 (fillS a0).length cR0_2), (4, .slice Ar4 ((List.range k).map (fun (k_ : Nat) => (fillS a0).map fun r => r.getD k_ [])).length cr4), (5, .int .i64 (k : Int)), (6, .slice Ar22 ((((fillS a0).take i).map (fun r => r.getD k [])) ++ ([(((fillS a0).getD i []).getD k ([] : St))] : List St)).length cr22), (7, .int .i64 (i : Int))] rfl ?_)
   refine C_region ?_
   refine W_cons rfl (by decide) (Sv_val rfl (R_move rfl rfl) ?_)
   refine W_cons rfl (by decide) (Sv_val rfl (R_add64 rfl rfl rfl (by omega) (by omega)) ?_)
   refine W_cons rfl (by decide) (Sv_val rfl (R_assign rfl rfl) ?_)
   refine W_nil ?_
   have hs24 : (((fillS a0).take i).map (fun r => r.getD k [])) ++ ([(((fillS a0).getD i []).getD k ([] : St))] : List St) = ((fillS a0).take (i + 1 : Nat)).map (fun r => r.getD k []) := by rw [List.take_succ_eq_append_getElem (show i < (fillS a0).length by omega), List.map_append]; simp [List.getD, (show i < (fillS a0).length by omega)]
   have hS := hS.re 5 rfl hs24
   refine E_round [3, 4, 5, 6, 7] ?_ ⟨(i + 1 : Nat), Ar22, cr22, (by rw [← hs24] <;> rfl), (by omega), rfl, hS.fin [1, 2, 3, 4, 5] (by decide) rfl⟩
   omega
  ·have _hC1 := trivial
   have hC1p : ¬ ((i : Int) < ((fillS a0).length : Int)) := by simpa using hC1
   refine C_exit ?_
   refine E_then_exit ?_
   refine E_then_exit ?_
   refine E_block_hit ?_
   refine E_then (C_fr [(3, .slice AR0_2 (fillS a0).length cR0_2), (4, .slice Ar4 ((List.range k).map (fun (k_ : Nat) => (fillS a0).map fun r => r.getD k_ [])).length cr4), (5, .int .i64 (k : Int)), (6, .slice Ar12 (((fillS a0).take i).map (fun r => r.getD k [])).length cr12)] rfl ?_)
   refine C_region ?_
   refine W_cons rfl (by decide) (Sv_val rfl (R_move rfl rfl) ?_)
   refine W_cons rfl (by decide) (Sv_val rfl (R_move rfl rfl) ?_)
   have hcz27 := hS.cap 4 rfl
   obtain ⟨z27, hlez27, hrz27, hS⟩ := hS.fz 4 2 rfl rfl (by decide) (zle_E _)
   have hS := hS.lift 3 rfl hlez27
   refine W_cons rfl (by decide) (S_row (d := (kslice kstr)) (q := z27) hS ([((fillS a0).take i).map (fun r => r.getD k [])] : List (List St)) rfl (R_buildSlice (ps := [(0, (.tmp 35))]) (vs := [.slice Ar12 (((fillS a0).take i).map (fun r => r.getD k [])).length cr12]) (w' := w13.alloc (.cells [.slice Ar12 (((fillS a0).take i).map (fun r => r.getD k [])).length cr12].toArray 31)) (r := .slice (some ⟨w13.heap.size, 0, none⟩) 1 1) rfl rfl rfl (by kernel_rfl)) ⟨_, _, rfl, ⟨_, _, rfl, hcz27, hrz27⟩, rfl⟩ rfl (by decide) (fun g26 w25 hS => ?_))
   refine W_cons rfl (by decide) (S_append hS 4 rfl rfl rfl elem22 rfl rfl (hS.sow 0 rfl (fun _ _ h => h)) (by (try simp only [List.length_cons, List.length_nil, List.length_append, List.length_take, List.length_map, List.length_range, maxLen]); omega) (by (try simp only [List.length_cons, List.length_nil, List.length_append, List.length_take, List.length_map, List.length_range, maxLen]); omega) (fun Ar29 cr29 w28 hS => ?_))
   have hp30 := hS.cap 4 rfl
   have hlhp30 := hp30.le
   have hmhp30 := hp30.mx
   refine W_cons rfl (by decide) (Sv_val rfl (R_assign rfl rfl) ?_)
   refine W_nil ?_
   refine E_block_normal ?_
   refine E_then (C_fr [(3, .slice AR0_2 (fillS a0).length cR0_2), (4, .slice Ar29 (((List.range k).map (fun (k_ : Nat) => (fillS a0).map fun r => r.getD k_ [])) ++ ([((fillS a0).take i).map (fun r => r.getD k [])] : List (List St))).length cr29), (5, .int .i64 (k : Int))] rfl ?_)
   refine C_region ?_
   refine W_cons rfl (by decide) (Sv_val rfl (R_move rfl rfl) ?_)
   refine W_cons rfl (by decide) (Sv_val rfl (R_add64 rfl rfl rfl (by omega) (by omega)) ?_)
   refine W_cons rfl (by decide) (Sv_val rfl (R_assign rfl rfl) ?_)
   refine W_nil ?_
   have hs31 : ((List.range k).map (fun (k_ : Nat) => (fillS a0).map fun r => r.getD k_ [])) ++ ([((fillS a0).take i).map (fun r => r.getD k [])] : List (List St)) = (List.range (k + 1 : Nat)).map (fun (k_ : Nat) => (fillS a0).map fun r => r.getD k_ []) := by rw [row_next, List.take_of_length_le (by omega)]
   have hS := hS.re 4 rfl hs31
   refine E_round [3, 4, 5] ?_ ⟨(k + 1 : Nat), Ar29, cr29, z27, (by rw [← hs31] <;> rfl), (by omega), rfl, hS.fin [2, 3, 1, 4] (by decide) rfl⟩
   omega
 ·have _hC0 := trivial
  have hC0p : ¬ ((k : Int) < (((fillS a0).getD 0 []).length : Int)) := by simpa using hC0
  refine C_exit ?_
  refine E_then_exit ?_
  refine E_then_exit ?_
  refine E_block_hit ?_
  refine E_then ?_
  refine C_seq ?_
  refine C_region ?_
  refine W_cons rfl (by decide) (Sv_val rfl (R_move rfl rfl) ?_)
  refine W_cons rfl (by decide) (Sv_val rfl (R_assign rfl rfl) ?_)
  refine W_nil ?_
  refine E_then (C_fr [(2, .slice Ar4 ((List.range k).map (fun (k_ : Nat) => (fillS a0).map fun r => r.getD k_ [])).length cr4)] rfl ?_)
  refine C_ret ?_
  have hq32 : (List.range k).map (fun (k_ : Nat) => (fillS a0).map fun r => r.getD k_ []) = rturnS a0 := by unfold rturnS; rw [show ((fillS a0).getD 0 []).length = k from by omega]
  have hS := hS.re 3 rfl hq32
  refine E_ret1 rfl rfl ?_
  exact ⟨Ar4, cr4, z5, Lret1 (Lslice hq32), hS.fin [2, 3] (by decide) rfl⟩

set_option maxHeartbeats 1000000 in
set_option maxRecDepth 20000 in
theorem same_calls (a0 : List (List St)) (Aa0 : Option Addr) (ca0 : Nat) (a1 : List (List St)) (Aa1 : Option Addr) (ca1 : Nat) (z : Z) (w : World) (hI : In z w []) (hra0 : Rd (kslice kstr) z Aa0 a0) (hca0 : Cap Aa0 a0.length ca0) (hra1 : Rd (kslice kstr) z Aa1 a1) (hca1 : Cap Aa1 a1.length ca1)  :
    Calls Try.prog 22 #[.slice Aa0 a0.length ca0, .slice Aa1 a1.length ca1] w fun e w' => e = .returned (.bool (decide (a0 = a1))) ∧ Sp (FF []) w z w' [] := by
 have hla0 := hca0.le
 have hma0 := hca0.mx
 have hla1 := hca1.le
 have hma1 := hca1.mx
 have hS := hI.sp
 refine Calls_of (vs := [.slice Aa0 a0.length ca0, .slice Aa1 a1.length ca1]) (N := 53) Try.func22 rfl rfl (Nat.le_of_ble_eq_true rfl) ?_
 refine C_seq ?_
 refine C_region ?_
 refine W_cons rfl (by decide) (Sv_val rfl (R_assign rfl rfl) ?_)
 refine W_nil ?_
 refine E_then ?_
 refine C_seq ?_
 refine C_seq ?_
 refine C_region ?_
 refine W_cons rfl (by decide) (Sv_val rfl (R_move rfl rfl) ?_)
 refine W_cons rfl (by decide) (Sv_val rfl (R_len rfl rfl Try.underlying22) ?_)
 refine W_cons rfl (by decide) (Sv_val rfl (R_move rfl rfl) ?_)
 refine W_cons rfl (by decide) (Sv_val rfl (R_len rfl rfl Try.underlying22) ?_)
 refine W_cons rfl (by decide) (Sv_val rfl (R_bin rfl rfl rfl rfl rfl) ?_)
 refine W_nil ?_
 refine E_then (C_fr [(0, .slice Aa0 a0.length ca0), (1, .slice Aa1 a1.length ca1), (11, .bool ((a0.length : Int) != (a1.length : Int)))] rfl ?_)
 refine C_ite rfl (fun hC0 => ?_) (fun hC0 => ?_)
 ·have _hC0 := trivial
  have hC0p : ¬ (a0.length : Int) = (a1.length : Int) := by simpa using hC0
  refine C_seq ?_
  refine C_region ?_
  refine W_cons rfl (by decide) (Sv_val rfl (R_assign rfl rfl) ?_)
  refine W_nil ?_
  refine E_then ?_
  refine C_ret ?_
  refine E_then_ret ?_
  refine E_ret1 rfl rfl ?_
  exact ⟨Lret1 (Lbool (show false = decide (a0 = a1) by first | exact (decide_eq_false (fun h_ => by subst h_; first | (exact absurd rfl (by assumption)) | omega)).symm | exact (decide_eq_true (take_all (by omega) (by omega) hI0_1)).symm)), hS.fin [] (by decide) rfl⟩
 ·have _hC0 := trivial
  have hC0p : (a0.length : Int) = (a1.length : Int) := by simpa using hC0
  refine C_skip ?_
  refine E_then ?_
  refine C_seq ?_
  refine C_seq ?_
  refine C_region ?_
  refine W_cons rfl (by decide) (Sv_val rfl (R_assign rfl rfl) ?_)
  refine W_nil ?_
  refine E_then ?_
  refine C_block ?_
  refine C_fr [(0, .slice Aa0 a0.length ca0), (1, .slice Aa1 a1.length ca1), (5, .int .i64 0)] rfl ?_
  refine C_loop (fun m_ f_ w_ => ∃ (i : Nat), f_ = [(0, .slice Aa0 a0.length ca0), (1, .slice Aa1 a1.length ca1), (5, .int .i64 (i : Int))] ∧ i ≤ a0.length ∧ a0.take i = a1.take i ∧ m_ = a0.length - i ∧ Sp (FF []) w z w_ []) (a0.length - (0 : Nat)) ⟨(0 : Nat), rfl, (by omega), (by rfl), rfl, hS.fin [] (by decide) rfl⟩ ?_
  rintro m_ f_ w1 ⟨i, rfl, hI0_0, hI0_1, rfl, hS⟩
  refine C_seq ?_
  refine C_seq ?_
  refine C_region ?_
  refine W_cons rfl (by decide) (Sv_val rfl (R_move rfl rfl) ?_)
  refine W_cons rfl (by decide) (Sv_val rfl (R_move rfl rfl) ?_)
  refine W_cons rfl (by decide) (Sv_val rfl (R_len rfl rfl Try.underlying22) ?_)
  refine W_cons rfl (by decide) (Sv_val rfl (R_bin rfl rfl rfl rfl rfl) ?_)
  refine W_nil ?_
  refine E_then ?_
  refine C_ite rfl (fun hC1 => ?_) (fun hC1 => ?_)
  ·have _hC1 := trivial
   have hC1p : (i : Int) < (a0.length : Int) := by simpa using hC1
   refine C_skip ?_
   refine E_then ?_
   refine C_seq ?_
   refine C_block ?_
   refine C_seq ?_
   refine C_seq ?_
   refine C_fr [(0, .slice Aa0 a0.length ca0), (1, .slice Aa1 a1.length ca1), (5, .int .i64 (i : Int))] rfl ?_
   obtain ⟨q2, csq2, hAq2, ⟨Aq2, cq2, rfl, hcq2, hrq2⟩, hkq2⟩ := hra0.at_ [] (i := (i : Int)) (by omega) (by omega)
   have hkq2 : ∀ (j_ : Nat) (u_ : Value), ([.slice Aq2 (a0.getD i []).length cq2] : List Value)[j_]? = some u_ → cz z (q2.add (i * 1 + j_)) = some u_ := hkq2
   have hrq2 : Rd kstr z Aq2 ((a0.getD i [])) := hrq2
   have hcq2 : Cap Aq2 ((a0.getD i [])).length cq2 := hcq2
   have hlq2 := hcq2.le
   have hmq2 := hcq2.mx
   obtain ⟨q3, csq3, hAq3, ⟨Aq3, cq3, rfl, hcq3, hrq3⟩, hkq3⟩ := hra1.at_ [] (i := (i : Int)) (by omega) (by omega)
   have hkq3 : ∀ (j_ : Nat) (u_ : Value), ([.slice Aq3 (a1.getD i []).length cq3] : List Value)[j_]? = some u_ → cz z (q3.add (i * 1 + j_)) = some u_ := hkq3
   have hrq3 : Rd kstr z Aq3 ((a1.getD i [])) := hrq3
   have hcq3 : Cap Aq3 ((a1.getD i [])).length cq3 := hcq3
   have hlq3 := hcq3.le
   have hmq3 := hcq3.mx
   refine C_drawn 11 [[], [], [0, 1], [2], [3], [], [], [5, 6], [7], [8], [4, 9]] [18, 19, 20, 21, 22, 23, 24, 25, 26, 27, 28] [0, 1, 5] rfl (by kernel_rfl) (by decide +kernel) [fun v_ _ => v_ = .slice Aa0 a0.length ca0, fun v_ _ => v_ = .int .i64 (i : Int), fun v_ _ => v_ = .pointer (some (q2.add (i * 1))), fun v_ _ => v_ = .slice Aq2 (a0.getD i []).length cq2, fun v_ _ => v_ = .int .i64 ((a0.getD i []).length : Int), fun v_ _ => v_ = .slice Aa1 a1.length ca1, fun v_ _ => v_ = .int .i64 (i : Int), fun v_ _ => v_ = .pointer (some (q3.add (i * 1))), fun v_ _ => v_ = .slice Aq3 (a1.getD i []).length cq3, fun v_ _ => v_ = .int .i64 ((a1.getD i []).length : Int), fun v_ _ => v_ = .bool (((a0.getD i []).length : Int) != ((a1.getD i []).length : Int))] ⟨fun _ _ _ h _ => h, ⟨fun _ _ _ h _ => h, ⟨fun _ _ _ h _ => h, ⟨fun _ _ _ h _ => h, ⟨fun _ _ _ h _ => h, ⟨fun _ _ _ h _ => h, ⟨fun _ _ _ h _ => h, ⟨fun _ _ _ h _ => h, ⟨fun _ _ _ h _ => h, ⟨fun _ _ _ h _ => h, ⟨fun _ _ _ h _ => h, trivial⟩⟩⟩⟩⟩⟩⟩⟩⟩⟩⟩ ⟨fun w4 hc5 => by have hS := hS.chg0 hc5; exact Sv_val rfl (R_move rfl rfl) ⟨Chg.refl _ _, rfl⟩, ⟨fun w4 hc5 => by have hS := hS.chg0 hc5; exact Sv_val rfl (R_move rfl rfl) ⟨Chg.refl _ _, rfl⟩, ⟨fun w4 hc5 => by have hS := hS.chg0 hc5; rintro _ rfl _ rfl; exact Sv_val rfl (R_idx rfl rfl hAq2 rfl Try.underlying22 size31 (by omega) (by omega)) ⟨Chg.refl _ _, rfl⟩, ⟨fun w4 hc5 => by have hS := hS.chg0 hc5; rintro _ rfl; exact Sv_val rfl (R_load1 rfl rfl agg31 (hS.sub.cell (hkq2 0 _ rfl))) ⟨Chg.refl _ _, rfl⟩, ⟨fun w4 hc5 => by have hS := hS.chg0 hc5; rintro _ rfl; exact Sv_val rfl (R_len rfl rfl Try.underlying31) ⟨Chg.refl _ _, rfl⟩, ⟨fun w4 hc5 => by have hS := hS.chg0 hc5; exact Sv_val rfl (R_move rfl rfl) ⟨Chg.refl _ _, rfl⟩, ⟨fun w4 hc5 => by have hS := hS.chg0 hc5; exact Sv_val rfl (R_move rfl rfl) ⟨Chg.refl _ _, rfl⟩, ⟨fun w4 hc5 => by have hS := hS.chg0 hc5; rintro _ rfl _ rfl; exact Sv_val rfl (R_idx rfl rfl hAq3 rfl Try.underlying22 size31 (by omega) (by omega)) ⟨Chg.refl _ _, rfl⟩, ⟨fun w4 hc5 => by have hS := hS.chg0 hc5; rintro _ rfl; exact Sv_val rfl (R_load1 rfl rfl agg31 (hS.sub.cell (hkq3 0 _ rfl))) ⟨Chg.refl _ _, rfl⟩, ⟨fun w4 hc5 => by have hS := hS.chg0 hc5; rintro _ rfl; exact Sv_val rfl (R_len rfl rfl Try.underlying31) ⟨Chg.refl _ _, rfl⟩, ⟨fun w4 hc5 => by have hS := hS.chg0 hc5; rintro _ rfl _ rfl; exact Sv_val rfl (R_bin rfl rfl rfl rfl rfl) ⟨Chg.refl _ _, rfl⟩, trivial⟩⟩⟩⟩⟩⟩⟩⟩⟩⟩⟩ ?_
   intro w4 hc5
   have hS := hS.chg0 hc5
   rintro _ rfl _ rfl _ rfl _ rfl _ rfl _ rfl _ rfl _ rfl _ rfl _ rfl _ rfl
   refine An_fr [(0, .slice Aa0 a0.length ca0), (1, .slice Aa1 a1.length ca1), (5, .int .i64 (i : Int)), (28, .bool (((a0.getD i []).length : Int) != ((a1.getD i []).length : Int)))] rfl ?_
   refine An_done (by decide +kernel) ?_
   refine E_then ?_
   refine C_ite rfl (fun hC2 => ?_) (fun hC2 => ?_)
   ·have _hC2 := trivial
    have hC2p : ¬ ((a0.getD i []).length : Int) = ((a1.getD i []).length : Int) := by simpa using hC2
    refine C_seq ?_
    refine C_region ?_
    refine W_cons rfl (by decide) (Sv_val rfl (R_assign rfl rfl) ?_)
    refine W_nil ?_
    refine E_then ?_
    refine C_ret ?_
    refine E_then_ret ?_
    refine E_block_ret ?_
    refine E_then_ret ?_
    refine E_then_ret ?_
    refine E_block_ret ?_
    refine E_then_ret ?_
    refine E_ret1 rfl rfl ?_
    exact ⟨Lret1 (Lbool (show false = decide (a0 = a1) by first | exact (decide_eq_false (fun h_ => by subst h_; first | (exact absurd rfl (by assumption)) | omega)).symm | exact (decide_eq_true (take_all (by omega) (by omega) hI0_1)).symm)), hS.fin [] (by decide) rfl⟩
   ·have _hC2 := trivial
    have hC2p : ((a0.getD i []).length : Int) = ((a1.getD i []).length : Int) := by simpa using hC2
    refine C_skip ?_
    refine E_then ?_
    refine C_seq ?_
    refine C_region ?_
    refine W_cons rfl (by decide) (Sv_val rfl (R_assign rfl rfl) ?_)
    refine W_nil ?_
    refine E_then ?_
    refine C_block ?_
    refine C_fr [(0, .slice Aa0 a0.length ca0), (1, .slice Aa1 a1.length ca1), (5, .int .i64 (i : Int)), (6, .int .i64 0)] rfl ?_
    refine C_loop (fun m_ f_ w_ => ∃ (k : Nat), f_ = [(0, .slice Aa0 a0.length ca0), (1, .slice Aa1 a1.length ca1), (5, .int .i64 (i : Int)), (6, .int .i64 (k : Int))] ∧ k ≤ (a0.getD i []).length ∧ (a0.getD i []).take k = (a1.getD i []).take k ∧ m_ = (a0.getD i []).length - k ∧ Sp (FF []) w z w_ []) ((a0.getD i []).length - (0 : Nat)) ⟨(0 : Nat), rfl, (by omega), (by rfl), rfl, hS.fin [] (by decide) rfl⟩ ?_
    rintro m_ f_ w6 ⟨k, rfl, hI1_0, hI1_1, rfl, hS⟩
    refine C_seq ?_
    refine C_seq ?_
    refine C_region ?_
    refine W_cons rfl (by decide) (Sv_val rfl (R_move rfl rfl) ?_)
    refine W_cons rfl (by decide) (Sv_val rfl (R_move rfl rfl) ?_)
    refine W_cons rfl (by decide) (Sv_val rfl (R_move rfl rfl) ?_)
    obtain ⟨q7, csq7, hAq7, ⟨Aq7, cq7, rfl, hcq7, hrq7⟩, hkq7⟩ := hra0.at_ [] (i := (i : Int)) (by omega) (by omega)
    have hkq7 : ∀ (j_ : Nat) (u_ : Value), ([.slice Aq7 (a0.getD i []).length cq7] : List Value)[j_]? = some u_ → cz z (q7.add (i * 1 + j_)) = some u_ := hkq7
    have hrq7 : Rd kstr z Aq7 ((a0.getD i [])) := hrq7
    have hcq7 : Cap Aq7 ((a0.getD i [])).length cq7 := hcq7
    have hlq7 := hcq7.le
    have hmq7 := hcq7.mx
    refine W_cons rfl (by decide) (Sv_val rfl (R_idx rfl rfl hAq7 rfl Try.underlying22 size31 (by omega) (by omega)) ?_)
    refine W_cons rfl (by decide) (Sv_val rfl (R_load1 rfl rfl agg31 (hS.sub.cell (hkq7 0 _ rfl))) ?_)
    refine W_cons rfl (by decide) (Sv_val rfl (R_len rfl rfl Try.underlying31) ?_)
    refine W_cons rfl (by decide) (Sv_val rfl (R_bin rfl rfl rfl rfl rfl) ?_)
    refine W_nil ?_
    refine E_then (C_fr [(0, .slice Aa0 a0.length ca0), (1, .slice Aa1 a1.length ca1), (5, .int .i64 (i : Int)), (6, .int .i64 (k : Int)), (35, .bool (decide ((k : Int) < ((a0.getD i []).length : Int))))] rfl ?_)
    refine C_ite rfl (fun hC3 => ?_) (fun hC3 => ?_)
    ·have _hC3 := trivial
     have hC3p : (k : Int) < ((a0.getD i []).length : Int) := by simpa using hC3
     refine C_skip ?_
     refine E_then ?_
     refine C_seq ?_
     refine C_block ?_
     refine C_seq ?_
     refine C_fr [(0, .slice Aa0 a0.length ca0), (1, .slice Aa1 a1.length ca1), (5, .int .i64 (i : Int)), (6, .int .i64 (k : Int))] rfl ?_
     obtain ⟨q8, csq8, hAq8, ⟨Aq8, cq8, rfl, hcq8, hrq8⟩, hkq8⟩ := hra0.at_ [] (i := (i : Int)) (by omega) (by omega)
     have hkq8 : ∀ (j_ : Nat) (u_ : Value), ([.slice Aq8 (a0.getD i []).length cq8] : List Value)[j_]? = some u_ → cz z (q8.add (i * 1 + j_)) = some u_ := hkq8
     have hrq8 : Rd kstr z Aq8 ((a0.getD i [])) := hrq8
     have hcq8 : Cap Aq8 ((a0.getD i [])).length cq8 := hcq8
     have hlq8 := hcq8.le
     have hmq8 := hcq8.mx
     obtain ⟨q9, csq9, hAq9, rfl, hkq9⟩ := hrq8.at_ ([] : St) (i := (k : Int)) (by omega) (by omega)
     have hkq9 : ∀ (j_ : Nat) (u_ : Value), ([vstr ((a0.getD i []).getD k ([] : St))] : List Value)[j_]? = some u_ → cz z (q9.add (k * 1 + j_)) = some u_ := hkq9
     obtain ⟨q10, csq10, hAq10, ⟨Aq10, cq10, rfl, hcq10, hrq10⟩, hkq10⟩ := hra1.at_ [] (i := (i : Int)) (by omega) (by omega)
     have hkq10 : ∀ (j_ : Nat) (u_ : Value), ([.slice Aq10 (a1.getD i []).length cq10] : List Value)[j_]? = some u_ → cz z (q10.add (i * 1 + j_)) = some u_ := hkq10
     have hrq10 : Rd kstr z Aq10 ((a1.getD i [])) := hrq10
     have hcq10 : Cap Aq10 ((a1.getD i [])).length cq10 := hcq10
     have hlq10 := hcq10.le
     have hmq10 := hcq10.mx
     obtain ⟨q11, csq11, hAq11, rfl, hkq11⟩ := hrq10.at_ ([] : St) (i := (k : Int)) (by omega) (by omega)
     have hkq11 : ∀ (j_ : Nat) (u_ : Value), ([vstr ((a1.getD i []).getD k ([] : St))] : List Value)[j_]? = some u_ → cz z (q11.add (k * 1 + j_)) = some u_ := hkq11
     refine C_drawn 15 [[], [], [0, 1], [2], [], [3, 4], [5], [], [], [7, 8], [9], [], [10, 11], [12], [6, 13]] [38, 39, 40, 41, 42, 43, 44, 45, 46, 47, 48, 49, 50, 51, 52] [0, 1, 5, 6] rfl (by kernel_rfl) (by decide +kernel) [fun v_ _ => v_ = .slice Aa0 a0.length ca0, fun v_ _ => v_ = .int .i64 (i : Int), fun v_ _ => v_ = .pointer (some (q8.add (i * 1))), fun v_ _ => v_ = .slice Aq8 (a0.getD i []).length cq8, fun v_ _ => v_ = .int .i64 (k : Int), fun v_ _ => v_ = .pointer (some (q9.add (k * 1))), fun v_ _ => v_ = vstr ((a0.getD i []).getD k ([] : St)), fun v_ _ => v_ = .slice Aa1 a1.length ca1, fun v_ _ => v_ = .int .i64 (i : Int), fun v_ _ => v_ = .pointer (some (q10.add (i * 1))), fun v_ _ => v_ = .slice Aq10 (a1.getD i []).length cq10, fun v_ _ => v_ = .int .i64 (k : Int), fun v_ _ => v_ = .pointer (some (q11.add (k * 1))), fun v_ _ => v_ = vstr ((a1.getD i []).getD k ([] : St)), fun v_ _ => v_ = .bool (!decide (((a0.getD i []).getD k ([] : St)) = ((a1.getD i []).getD k ([] : St))))] ⟨fun _ _ _ h _ => h, ⟨fun _ _ _ h _ => h, ⟨fun _ _ _ h _ => h, ⟨fun _ _ _ h _ => h, ⟨fun _ _ _ h _ => h, ⟨fun _ _ _ h _ => h, ⟨fun _ _ _ h _ => h, ⟨fun _ _ _ h _ => h, ⟨fun _ _ _ h _ => h, ⟨fun _ _ _ h _ => h, ⟨fun _ _ _ h _ => h, ⟨fun _ _ _ h _ => h, ⟨fun _ _ _ h _ => h, ⟨fun _ _ _ h _ => h, ⟨fun _ _ _ h _ => h, trivial⟩⟩⟩⟩⟩⟩⟩⟩⟩⟩⟩⟩⟩⟩⟩ ⟨fun w12 hc13 => by have hS := hS.chg0 hc13; exact Sv_val rfl (R_move rfl rfl) ⟨Chg.refl _ _, rfl⟩, ⟨fun w12 hc13 => by have hS := hS.chg0 hc13; exact Sv_val rfl (R_move rfl rfl) ⟨Chg.refl _ _, rfl⟩, ⟨fun w12 hc13 => by have hS := hS.chg0 hc13; rintro _ rfl _ rfl; exact Sv_val rfl (R_idx rfl rfl hAq8 rfl Try.underlying22 size31 (by omega) (by omega)) ⟨Chg.refl _ _, rfl⟩, ⟨fun w12 hc13 => by have hS := hS.chg0 hc13; rintro _ rfl; exact Sv_val rfl (R_load1 rfl rfl agg31 (hS.sub.cell (hkq8 0 _ rfl))) ⟨Chg.refl _ _, rfl⟩, ⟨fun w12 hc13 => by have hS := hS.chg0 hc13; exact Sv_val rfl (R_move rfl rfl) ⟨Chg.refl _ _, rfl⟩, ⟨fun w12 hc13 => by have hS := hS.chg0 hc13; rintro _ rfl _ rfl; exact Sv_val rfl (R_idx rfl rfl hAq9 rfl Try.underlying31 size9 (by omega) (by omega)) ⟨Chg.refl _ _, rfl⟩, ⟨fun w12 hc13 => by have hS := hS.chg0 hc13; rintro _ rfl; exact Sv_val rfl (R_load1 rfl rfl agg9 (hS.sub.cell (hkq9 0 _ rfl))) ⟨Chg.refl _ _, rfl⟩, ⟨fun w12 hc13 => by have hS := hS.chg0 hc13; exact Sv_val rfl (R_move rfl rfl) ⟨Chg.refl _ _, rfl⟩, ⟨fun w12 hc13 => by have hS := hS.chg0 hc13; exact Sv_val rfl (R_move rfl rfl) ⟨Chg.refl _ _, rfl⟩, ⟨fun w12 hc13 => by have hS := hS.chg0 hc13; rintro _ rfl _ rfl; exact Sv_val rfl (R_idx rfl rfl hAq10 rfl Try.underlying22 size31 (by omega) (by omega)) ⟨Chg.refl _ _, rfl⟩, ⟨fun w12 hc13 => by have hS := hS.chg0 hc13; rintro _ rfl; exact Sv_val rfl (R_load1 rfl rfl agg31 (hS.sub.cell (hkq10 0 _ rfl))) ⟨Chg.refl _ _, rfl⟩, ⟨fun w12 hc13 => by have hS := hS.chg0 hc13; exact Sv_val rfl (R_move rfl rfl) ⟨Chg.refl _ _, rfl⟩, ⟨fun w12 hc13 => by have hS := hS.chg0 hc13; rintro _ rfl _ rfl; exact Sv_val rfl (R_idx rfl rfl hAq11 rfl Try.underlying31 size9 (by omega) (by omega)) ⟨Chg.refl _ _, rfl⟩, ⟨fun w12 hc13 => by have hS := hS.chg0 hc13; rintro _ rfl; exact Sv_val rfl (R_load1 rfl rfl agg9 (hS.sub.cell (hkq11 0 _ rfl))) ⟨Chg.refl _ _, rfl⟩, ⟨fun w12 hc13 => by have hS := hS.chg0 hc13; rintro _ rfl _ rfl; exact Sv_val rfl (R_strneq rfl rfl rfl) ⟨Chg.refl _ _, rfl⟩, trivial⟩⟩⟩⟩⟩⟩⟩⟩⟩⟩⟩⟩⟩⟩⟩ ?_
     intro w12 hc13
     have hS := hS.chg0 hc13
     rintro _ rfl _ rfl _ rfl _ rfl _ rfl _ rfl _ rfl _ rfl _ rfl _ rfl _ rfl _ rfl _ rfl _ rfl _ rfl
     refine An_fr [(0, .slice Aa0 a0.length ca0), (1, .slice Aa1 a1.length ca1), (5, .int .i64 (i : Int)), (6, .int .i64 (k : Int)), (52, .bool (!decide (((a0.getD i []).getD k ([] : St)) = ((a1.getD i []).getD k ([] : St)))))] rfl ?_
     refine An_done (by decide +kernel) ?_
     refine E_then ?_
     refine C_ite rfl (fun hC4 => ?_) (fun hC4 => ?_)
     ·have _hC4 := trivial
      have hC4p : ¬ ((a0.getD i []).getD k ([] : St)) = ((a1.getD i []).getD k ([] : St)) := by simpa using hC4
      refine C_seq ?_
      refine C_region ?_
      refine W_cons rfl (by decide) (Sv_val rfl (R_assign rfl rfl) ?_)
      refine W_nil ?_
      refine E_then (C_fr [(4, .bool false)] rfl ?_)
      refine C_ret ?_
      refine E_block_ret ?_
      refine E_then_ret ?_
      refine E_then_ret ?_
      refine E_block_ret ?_
      refine E_block_ret ?_
      refine E_then_ret ?_
      refine E_then_ret ?_
      refine E_block_ret ?_
      refine E_then_ret ?_
      refine E_ret1 rfl rfl ?_
      exact ⟨Lret1 (Lbool (show false = decide (a0 = a1) by first | exact (decide_eq_false (fun h_ => by subst h_; first | (exact absurd rfl (by assumption)) | omega)).symm | exact (decide_eq_true (take_all (by omega) (by omega) hI0_1)).symm)), hS.fin [] (by decide) rfl⟩
     ·have _hC4 := trivial
      have hC4p : ((a0.getD i []).getD k ([] : St)) = ((a1.getD i []).getD k ([] : St)) := by simpa using hC4
      refine C_skip ?_
      refine E_block_normal ?_
      refine E_then ?_
      refine C_region ?_
      refine W_cons rfl (by decide) (Sv_val rfl (R_move rfl rfl) ?_)
      refine W_cons rfl (by decide) (Sv_val rfl (R_add64 rfl rfl rfl (by omega) (by omega)) ?_)
      refine W_cons rfl (by decide) (Sv_val rfl (R_assign rfl rfl) ?_)
      refine W_nil ?_
      refine E_round [0, 1, 5, 6] ?_ ⟨(k + 1 : Nat), rfl, (by omega), (by exact take_more (by omega) (by omega) hI1_1 (by assumption)), rfl, hS.fin [] (by decide) rfl⟩
      omega
    ·have _hC3 := trivial
     have hC3p : ¬ ((k : Int) < ((a0.getD i []).length : Int)) := by simpa using hC3
     refine C_exit ?_
     refine E_then_exit ?_
     refine E_then_exit ?_
     refine E_block_hit ?_
     refine E_block_normal ?_
     refine E_then ?_
     refine C_region ?_
     refine W_cons rfl (by decide) (Sv_val rfl (R_move rfl rfl) ?_)
     refine W_cons rfl (by decide) (Sv_val rfl (R_add64 rfl rfl rfl (by omega) (by omega)) ?_)
     refine W_cons rfl (by decide) (Sv_val rfl (R_assign rfl rfl) ?_)
     refine W_nil ?_
     refine E_round [0, 1, 5] ?_ ⟨(i + 1 : Nat), rfl, (by omega), (by exact take_more (by omega) (by omega) hI0_1 (take_all (by omega) (by omega) hI1_1)), rfl, hS.fin [] (by decide) rfl⟩
     omega
  ·have _hC1 := trivial
   have hC1p : ¬ ((i : Int) < (a0.length : Int)) := by simpa using hC1
   refine C_exit ?_
   refine E_then_exit ?_
   refine E_then_exit ?_
   refine E_block_hit ?_
   refine E_then (C_fr [] rfl ?_)
   refine C_seq ?_
   refine C_region ?_
   refine W_cons rfl (by decide) (Sv_val rfl (R_assign rfl rfl) ?_)
   refine W_nil ?_
   refine E_then ?_
   refine C_ret ?_
   refine E_ret1 rfl rfl ?_
   exact ⟨Lret1 (Lbool (show true = decide (a0 = a1) by first | exact (decide_eq_false (fun h_ => by subst h_; first | (exact absurd rfl (by assumption)) | omega)).symm | exact (decide_eq_true (take_all (by omega) (by omega) hI0_1)).symm)), hS.fin [] (by decide) rfl⟩

set_option maxHeartbeats 400000 in
set_option maxRecDepth 20000 in
theorem wide_calls (a0 : List (List St)) (Aa0 : Option Addr) (ca0 : Nat) (z : Z) (w : World) (hI : In z w []) (hra0 : Rd (kslice kstr) z Aa0 a0) (hca0 : Cap Aa0 a0.length ca0)  :
    Calls Try.prog 12 #[.slice Aa0 a0.length ca0] w fun e w' => e = .returned (.bool (wideS a0)) ∧ Sp (FF []) w z w' [] := by
 have hla0 := hca0.le
 have hma0 := hca0.mx
 have hS := hI.sp
 refine Calls_of (vs := [.slice Aa0 a0.length ca0]) (N := 42) Try.func12 rfl rfl (Nat.le_of_ble_eq_true rfl) ?_
 refine C_seq ?_
 refine C_region ?_
 refine W_cons rfl (by decide) (Sv_val rfl (R_assign rfl rfl) ?_)
 refine W_nil ?_
 refine E_then ?_
 refine C_seq ?_
 refine C_seq ?_
 refine C_region ?_
 refine W_cons rfl (by decide) (Sv_val rfl (R_assign rfl rfl) ?_)
 refine W_nil ?_
 refine E_then ?_
 refine C_block ?_
 refine C_fr [(0, .slice Aa0 a0.length ca0), (3, .int .i64 0)] rfl ?_
 refine C_loop (fun m_ f_ w_ => ∃ (i : Nat), f_ = [(0, .slice Aa0 a0.length ca0), (3, .int .i64 (i : Int))] ∧ i ≤ a0.length ∧ (a0.take i).any wrow = false ∧ i ≤ 61 ∧ m_ = a0.length - i ∧ Sp (FF []) w z w_ []) (a0.length - (0 : Nat)) ⟨(0 : Nat), rfl, (by omega), (by rfl), (by omega), rfl, hS.fin [] (by decide) rfl⟩ ?_
 rintro m_ f_ w1 ⟨i, rfl, hI0_0, hI0_1, hI0_2, rfl, hS⟩
 refine C_seq ?_
 refine C_seq ?_
 refine C_region ?_
 refine W_cons rfl (by decide) (Sv_val rfl (R_move rfl rfl) ?_)
 refine W_cons rfl (by decide) (Sv_val rfl (R_move rfl rfl) ?_)
 refine W_cons rfl (by decide) (Sv_val rfl (R_len rfl rfl Try.underlying22) ?_)
 refine W_cons rfl (by decide) (Sv_val rfl (R_bin rfl rfl rfl rfl rfl) ?_)
 refine W_cons rfl (by decide) (Sv_val rfl (R_move rfl rfl) ?_)
 refine W_split (t := 9) rfl (fun hg2 => ?_) (fun hg2 => ?_)
 ·have _hg2 := trivial
  have hg2p : (i : Int) < (a0.length : Int) := by simpa using hg2
  refine W_cons rfl (by decide) (Sv_gt rfl rfl rfl hg2 (Sv_val rfl (R_move rfl rfl) ?_))
  refine W_cons rfl (by decide) (Sv_gt rfl rfl rfl hg2 (Sv_val rfl (R_bin rfl rfl rfl rfl rfl) ?_))
  refine W_cons rfl (by decide) (Sv_val rfl (R_pick_t rfl rfl hg2 rfl) ?_)
  refine W_nil ?_
  refine E_then (C_fr [(0, .slice Aa0 a0.length ca0), (3, .int .i64 (i : Int)), (10, .int .i64 (i : Int)), (11, .bool (decide ((i : Int) < 61))), (12, .bool (decide ((i : Int) < 61)))] rfl ?_)
  refine C_ite rfl (fun hC0 => ?_) (fun hC0 => ?_)
  ·have _hC0 := trivial
   have hC0p : (i : Int) < 61 := by simpa using hC0
   refine C_skip ?_
   refine E_then ?_
   refine C_seq ?_
   refine C_block ?_
   refine C_seq ?_
   refine C_seq ?_
   refine C_region ?_
   refine W_cons rfl (by decide) (Sv_val rfl (R_move rfl rfl) ?_)
   refine W_cons rfl (by decide) (Sv_val rfl (R_move rfl rfl) ?_)
   obtain ⟨q3, csq3, hAq3, ⟨Aq3, cq3, rfl, hcq3, hrq3⟩, hkq3⟩ := hra0.at_ [] (i := (i : Int)) (by omega) (by omega)
   have hkq3 : ∀ (j_ : Nat) (u_ : Value), ([.slice Aq3 (a0.getD i []).length cq3] : List Value)[j_]? = some u_ → cz z (q3.add (i * 1 + j_)) = some u_ := hkq3
   have hrq3 : Rd kstr z Aq3 ((a0.getD i [])) := hrq3
   have hcq3 : Cap Aq3 ((a0.getD i [])).length cq3 := hcq3
   have hlq3 := hcq3.le
   have hmq3 := hcq3.mx
   refine W_cons rfl (by decide) (Sv_val rfl (R_idx rfl rfl hAq3 rfl Try.underlying22 size31 (by omega) (by omega)) ?_)
   refine W_cons rfl (by decide) (Sv_val rfl (R_load1 rfl rfl agg31 (hS.sub.cell (hkq3 0 _ rfl))) ?_)
   refine W_cons rfl (by decide) (Sv_val rfl (R_len rfl rfl Try.underlying31) ?_)
   refine W_cons rfl (by decide) (Sv_val rfl (R_bin rfl rfl rfl rfl rfl) ?_)
   refine W_nil ?_
   refine E_then (C_fr [(0, .slice Aa0 a0.length ca0), (3, .int .i64 (i : Int)), (10, .int .i64 (i : Int)), (11, .bool (decide ((i : Int) < 61))), (20, .bool (decide (((a0.getD i []).length : Int) > 60)))] rfl ?_)
   refine C_ite rfl (fun hC1 => ?_) (fun hC1 => ?_)
   ·have _hC1 := trivial
    have hC1p : ((a0.getD i []).length : Int) > 60 := by simpa using hC1
    refine C_seq ?_
    refine C_region ?_
    refine W_cons rfl (by decide) (Sv_val rfl (R_assign rfl rfl) ?_)
    refine W_nil ?_
    refine E_then (C_fr [(2, .bool true)] rfl ?_)
    refine C_ret ?_
    refine E_then_ret ?_
    refine E_block_ret ?_
    refine E_then_ret ?_
    refine E_then_ret ?_
    refine E_block_ret ?_
    refine E_then_ret ?_
    refine E_ret1 rfl rfl ?_
    exact ⟨Lret1 (Lbool (show true = wideS a0 by first | exact (wide_row (i := i) (by omega) (by omega) (wrow_long (by assumption))).symm | exact (wide_row (i := i) (by omega) (by omega) (wrow_text (k := k) (by omega) (by assumption))).symm | exact wide_end hI0_1 (by omega) (by omega))), hS.fin [] (by decide) rfl⟩
   ·have _hC1 := trivial
    have hC1p : ¬ (((a0.getD i []).length : Int) > 60) := by simpa using hC1
    refine C_skip ?_
    refine E_then ?_
    refine C_seq ?_
    refine C_region ?_
    refine W_cons rfl (by decide) (Sv_val rfl (R_assign rfl rfl) ?_)
    refine W_nil ?_
    refine E_then ?_
    refine C_block ?_
    refine C_fr [(0, .slice Aa0 a0.length ca0), (3, .int .i64 (i : Int)), (4, .int .i64 0), (10, .int .i64 (i : Int)), (11, .bool (decide ((i : Int) < 61)))] rfl ?_
    refine C_loop (fun m_ f_ w_ => ∃ (k : Nat), f_ = [(0, .slice Aa0 a0.length ca0), (3, .int .i64 (i : Int)), (4, .int .i64 (k : Int)), (10, .int .i64 (i : Int)), (11, .bool (decide ((i : Int) < 61)))] ∧ k ≤ (a0.getD i []).length ∧ ((a0.getD i []).take k).any (fun t => decide ((t.length : Int) > 4000)) = false ∧ m_ = (a0.getD i []).length - k ∧ Sp (FF []) w z w_ []) ((a0.getD i []).length - (0 : Nat)) ⟨(0 : Nat), rfl, (by omega), (by rfl), rfl, hS.fin [] (by decide) rfl⟩ ?_
    rintro m_ f_ w4 ⟨k, rfl, hI1_0, hI1_1, rfl, hS⟩
    refine C_seq ?_
    refine C_seq ?_
    refine C_region ?_
    refine W_cons rfl (by decide) (Sv_val rfl (R_move rfl rfl) ?_)
    refine W_cons rfl (by decide) (Sv_val rfl (R_move rfl rfl) ?_)
    refine W_cons rfl (by decide) (Sv_val rfl (R_move rfl rfl) ?_)
    obtain ⟨q5, csq5, hAq5, ⟨Aq5, cq5, rfl, hcq5, hrq5⟩, hkq5⟩ := hra0.at_ [] (i := (i : Int)) (by omega) (by omega)
    have hkq5 : ∀ (j_ : Nat) (u_ : Value), ([.slice Aq5 (a0.getD i []).length cq5] : List Value)[j_]? = some u_ → cz z (q5.add (i * 1 + j_)) = some u_ := hkq5
    have hrq5 : Rd kstr z Aq5 ((a0.getD i [])) := hrq5
    have hcq5 : Cap Aq5 ((a0.getD i [])).length cq5 := hcq5
    have hlq5 := hcq5.le
    have hmq5 := hcq5.mx
    refine W_cons rfl (by decide) (Sv_val rfl (R_idx rfl rfl hAq5 rfl Try.underlying22 size31 (by omega) (by omega)) ?_)
    refine W_cons rfl (by decide) (Sv_val rfl (R_load1 rfl rfl agg31 (hS.sub.cell (hkq5 0 _ rfl))) ?_)
    refine W_cons rfl (by decide) (Sv_val rfl (R_len rfl rfl Try.underlying31) ?_)
    refine W_cons rfl (by decide) (Sv_val rfl (R_bin rfl rfl rfl rfl rfl) ?_)
    refine W_nil ?_
    refine E_then (C_fr [(0, .slice Aa0 a0.length ca0), (3, .int .i64 (i : Int)), (4, .int .i64 (k : Int)), (10, .int .i64 (i : Int)), (11, .bool (decide ((i : Int) < 61))), (27, .bool (decide ((k : Int) < ((a0.getD i []).length : Int))))] rfl ?_)
    refine C_ite rfl (fun hC2 => ?_) (fun hC2 => ?_)
    ·have _hC2 := trivial
     have hC2p : (k : Int) < ((a0.getD i []).length : Int) := by simpa using hC2
     refine C_skip ?_
     refine E_then ?_
     refine C_seq ?_
     refine C_block ?_
     refine C_seq ?_
     refine C_region ?_
     refine W_cons rfl (by decide) (Sv_val rfl (R_move rfl rfl) ?_)
     refine W_cons rfl (by decide) (Sv_val rfl (R_move rfl rfl) ?_)
     obtain ⟨q6, csq6, hAq6, ⟨Aq6, cq6, rfl, hcq6, hrq6⟩, hkq6⟩ := hra0.at_ [] (i := (i : Int)) (by omega) (by omega)
     have hkq6 : ∀ (j_ : Nat) (u_ : Value), ([.slice Aq6 (a0.getD i []).length cq6] : List Value)[j_]? = some u_ → cz z (q6.add (i * 1 + j_)) = some u_ := hkq6
     have hrq6 : Rd kstr z Aq6 ((a0.getD i [])) := hrq6
     have hcq6 : Cap Aq6 ((a0.getD i [])).length cq6 := hcq6
     have hlq6 := hcq6.le
     have hmq6 := hcq6.mx
     refine W_cons rfl (by decide) (Sv_val rfl (R_idx rfl rfl hAq6 rfl Try.underlying22 size31 (by omega) (by omega)) ?_)
     refine W_cons rfl (by decide) (Sv_val rfl (R_load1 rfl rfl agg31 (hS.sub.cell (hkq6 0 _ rfl))) ?_)
     refine W_cons rfl (by decide) (Sv_val rfl (R_move rfl rfl) ?_)
     obtain ⟨q7, csq7, hAq7, rfl, hkq7⟩ := hrq6.at_ ([] : St) (i := (k : Int)) (by omega) (by omega)
     have hkq7 : ∀ (j_ : Nat) (u_ : Value), ([vstr ((a0.getD i []).getD k ([] : St))] : List Value)[j_]? = some u_ → cz z (q7.add (k * 1 + j_)) = some u_ := hkq7
     refine W_cons rfl (by decide) (Sv_val rfl (R_idx rfl rfl hAq7 rfl Try.underlying31 size9 (by omega) (by omega)) ?_)
     refine W_cons rfl (by decide) (Sv_val rfl (R_load1 rfl rfl agg9 (hS.sub.cell (hkq7 0 _ rfl))) ?_)
     refine W_cons rfl (by decide) (Sv_val rfl (R_strlen rfl rfl Try.underlying9) ?_)
     refine W_cons rfl (by decide) (Sv_val rfl (R_bin rfl rfl rfl rfl rfl) ?_)
     refine W_nil ?_
     refine E_then (C_fr [(0, .slice Aa0 a0.length ca0), (3, .int .i64 (i : Int)), (4, .int .i64 (k : Int)), (10, .int .i64 (i : Int)), (11, .bool (decide ((i : Int) < 61))), (38, .bool (decide ((((a0.getD i []).getD k ([] : St)).length : Int) > 4000)))] rfl ?_)
     refine C_ite rfl (fun hC3 => ?_) (fun hC3 => ?_)
     ·have _hC3 := trivial
      have hC3p : (((a0.getD i []).getD k ([] : St)).length : Int) > 4000 := by simpa using hC3
      refine C_seq ?_
      refine C_region ?_
      refine W_cons rfl (by decide) (Sv_val rfl (R_assign rfl rfl) ?_)
      refine W_nil ?_
      refine E_then (C_fr [(2, .bool true)] rfl ?_)
      refine C_ret ?_
      refine E_block_ret ?_
      refine E_then_ret ?_
      refine E_then_ret ?_
      refine E_block_ret ?_
      refine E_block_ret ?_
      refine E_then_ret ?_
      refine E_then_ret ?_
      refine E_block_ret ?_
      refine E_then_ret ?_
      refine E_ret1 rfl rfl ?_
      exact ⟨Lret1 (Lbool (show true = wideS a0 by first | exact (wide_row (i := i) (by omega) (by omega) (wrow_long (by assumption))).symm | exact (wide_row (i := i) (by omega) (by omega) (wrow_text (k := k) (by omega) (by assumption))).symm | exact wide_end hI0_1 (by omega) (by omega))), hS.fin [] (by decide) rfl⟩
     ·have _hC3 := trivial
      have hC3p : ¬ ((((a0.getD i []).getD k ([] : St)).length : Int) > 4000) := by simpa using hC3
      refine C_skip ?_
      refine E_block_normal ?_
      refine E_then ?_
      refine C_region ?_
      refine W_cons rfl (by decide) (Sv_val rfl (R_move rfl rfl) ?_)
      refine W_cons rfl (by decide) (Sv_val rfl (R_add64 rfl rfl rfl (by omega) (by omega)) ?_)
      refine W_cons rfl (by decide) (Sv_val rfl (R_assign rfl rfl) ?_)
      refine W_nil ?_
      refine E_round [0, 3, 4, 10, 11] ?_ ⟨(k + 1 : Nat), rfl, (by omega), (by exact take_any [] (by omega) hI1_1 (by simpa using hC3)), rfl, hS.fin [] (by decide) rfl⟩
      omega
    ·have _hC2 := trivial
     have hC2p : ¬ ((k : Int) < ((a0.getD i []).length : Int)) := by simpa using hC2
     refine C_exit ?_
     refine E_then_exit ?_
     refine E_then_exit ?_
     refine E_block_hit ?_
     refine E_block_normal ?_
     refine E_then ?_
     refine C_region ?_
     refine W_cons rfl (by decide) (Sv_val rfl (R_move rfl rfl) ?_)
     refine W_cons rfl (by decide) (Sv_val rfl (R_add64 rfl rfl rfl (by omega) (by omega)) ?_)
     refine W_cons rfl (by decide) (Sv_val rfl (R_assign rfl rfl) ?_)
     refine W_nil ?_
     refine E_round [0, 3] ?_ ⟨(i + 1 : Nat), rfl, (by omega), (by exact take_any [] (by omega) hI0_1 (wrow_not (k := k) (by assumption) (by omega) hI1_1)), (by omega), rfl, hS.fin [] (by decide) rfl⟩
     omega
  ·have _hC0 := trivial
   have hC0p : ¬ ((i : Int) < 61) := by simpa using hC0
   refine C_exit ?_
   refine E_then_exit ?_
   refine E_then_exit ?_
   refine E_block_hit ?_
   refine E_then ?_
   refine C_seq ?_
   refine C_region ?_
   refine W_cons rfl (by decide) (Sv_val rfl (R_move rfl rfl) ?_)
   refine W_cons rfl (by decide) (Sv_val rfl (R_len rfl rfl Try.underlying22) ?_)
   refine W_cons rfl (by decide) (Sv_val rfl (R_bin rfl rfl rfl rfl rfl) ?_)
   refine W_cons rfl (by decide) (Sv_val rfl (R_assign rfl rfl) ?_)
   refine W_nil ?_
   refine E_then (C_fr [(2, .bool (decide ((a0.length : Int) > 60)))] rfl ?_)
   refine C_ret ?_
   refine E_ret1 rfl rfl ?_
   exact ⟨Lret1 (Lbool (show decide ((a0.length : Int) > 60) = wideS a0 by first | exact (wide_row (i := i) (by omega) (by omega) (wrow_long (by assumption))).symm | exact (wide_row (i := i) (by omega) (by omega) (wrow_text (k := k) (by omega) (by assumption))).symm | exact wide_end hI0_1 (by omega) (by omega))), hS.fin [] (by decide) rfl⟩
 ·have _hg2 := trivial
  have hg2p : ¬ ((i : Int) < (a0.length : Int)) := by simpa using hg2
  refine W_cons rfl (by decide) (Sv_off rfl rfl rfl (by rw [hg2] <;> rfl) ?_)
  refine W_cons rfl (by decide) (Sv_off rfl rfl rfl (by rw [hg2] <;> rfl) ?_)
  refine W_cons rfl (by decide) (Sv_val rfl (R_pick_f rfl rfl hg2 rfl) ?_)
  refine W_nil ?_
  refine E_then (C_fr [(0, .slice Aa0 a0.length ca0), (3, .int .i64 (i : Int)), (10, undef), (11, undef), (12, .bool false)] rfl ?_)
  refine C_else rfl rfl ?_
  refine C_exit ?_
  refine E_then_exit ?_
  refine E_then_exit ?_
  refine E_block_hit ?_
  refine E_then ?_
  refine C_seq ?_
  refine C_region ?_
  refine W_cons rfl (by decide) (Sv_val rfl (R_move rfl rfl) ?_)
  refine W_cons rfl (by decide) (Sv_val rfl (R_len rfl rfl Try.underlying22) ?_)
  refine W_cons rfl (by decide) (Sv_val rfl (R_bin rfl rfl rfl rfl rfl) ?_)
  refine W_cons rfl (by decide) (Sv_val rfl (R_assign rfl rfl) ?_)
  refine W_nil ?_
  refine E_then (C_fr [(2, .bool (decide ((a0.length : Int) > 60)))] rfl ?_)
  refine C_ret ?_
  refine E_ret1 rfl rfl ?_
  exact ⟨Lret1 (Lbool (show decide ((a0.length : Int) > 60) = wideS a0 by first | exact (wide_row (i := i) (by omega) (by omega) (wrow_long (by assumption))).symm | exact (wide_row (i := i) (by omega) (by omega) (wrow_text (k := k) (by omega) (by assumption))).symm | exact wide_end hI0_1 (by omega) (by omega))), hS.fin [] (by decide) rfl⟩

set_option maxHeartbeats 400000 in
set_option maxRecDepth 20000 in
theorem spoil_calls (a0 : List (List St)) (Aa0 : Option Addr) (ca0 : Nat) (qa0 : Z) (z : Z) (w : World) (hI : In z w [zR qa0, oR (kslice kstr) 31 qa0 Aa0 ca0 a0])   :
    Calls Try.prog 26 #[.slice Aa0 a0.length ca0] w fun e w' => e = .returned (.tuple #[]) ∧ Sp (FF [zR qa0, oR (kslice kstr) 31 qa0 Aa0 ca0 a0]) w z w' [] := by
 have hS := hI.sp
 have hp1 := hS.cap 1 rfl
 have hlhp1 := hp1.le
 have hmhp1 := hp1.mx
 refine Calls_of (vs := [.slice Aa0 a0.length ca0]) (N := 13) Try.func26 rfl rfl (Nat.le_of_ble_eq_true rfl) ?_
 refine C_seq ?_
 refine C_region ?_
 refine W_cons rfl (by decide) (Sv_val rfl (R_assign rfl rfl) ?_)
 refine W_nil ?_
 refine E_then ?_
 refine C_block ?_
 have hs5 : a0 = (a0 : List (List St)) := by rfl
 have hS := hS.re 1 rfl hs5
 refine C_fr [(0, .slice Aa0 a0.length ca0), (2, .int .i64 0)] rfl ?_
 refine C_loop (fun m_ f_ w_ => ∃ (l1 : List (List St)) (i : Nat) (Ar2 : Option Addr) (cr2 : Nat) (z3 : Z), f_ = [(0, .slice Ar2 l1.length cr2), (2, .int .i64 (i : Int))] ∧ l1.length = a0.length ∧ i ≤ a0.length ∧ m_ = a0.length - i ∧ Sp (FF [zR qa0, oR (kslice kstr) 31 qa0 Aa0 ca0 a0]) w z w_ [zR z3, oR (kslice kstr) 31 z3 Ar2 cr2 l1]) (a0.length - (0 : Nat)) ⟨(a0 : List (List St)), (0 : Nat), Aa0, ca0, qa0, (by rw [← hs5] <;> rfl), (by rfl), (by omega), rfl, hS.fin [0, 1] (by decide) rfl⟩ ?_
 rintro m_ f_ w4 ⟨l1, i, Ar2, cr2, z3, rfl, hI0_0, hI0_1, rfl, hS⟩
 have hp6 := hS.cap 1 rfl
 have hlhp6 := hp6.le
 have hmhp6 := hp6.mx
 refine C_seq ?_
 refine C_seq ?_
 refine C_region ?_
 refine W_cons rfl (by decide) (Sv_val rfl (R_move rfl rfl) ?_)
 refine W_cons rfl (by decide) (Sv_val rfl (R_move rfl rfl) ?_)
 refine W_cons rfl (by decide) (Sv_val rfl (R_len rfl rfl Try.underlying22) ?_)
 refine W_cons rfl (by decide) (Sv_val rfl (R_bin rfl rfl rfl rfl rfl) ?_)
 refine W_nil ?_
 refine E_then ?_
 refine C_ite rfl (fun hC0 => ?_) (fun hC0 => ?_)
 ·have _hC0 := trivial
  have hC0p : (i : Int) < (l1.length : Int) := by simpa using hC0
  refine C_skip ?_
  refine E_then ?_
  refine C_seq ?_
  refine C_block ?_
  refine C_region ?_
  refine W_cons rfl (by decide) (Sv_val rfl (R_move rfl rfl) ?_)
  refine W_cons rfl (by decide) (Sv_val rfl (R_move rfl rfl) ?_)
  obtain ⟨q7, csq7, hAq7, ⟨Aq7, cq7, rfl, hcq7, hrq7⟩, hkq7⟩ := (hS.rw 1 rfl).el [] (i := (i : Int)) (by omega) (by omega)
  have hkq7 : ∀ (j_ : Nat) (u_ : Value), ([.slice Aq7 (l1.getD i []).length cq7] : List Value)[j_]? = some u_ → World.cell? w4 (q7.add (i * 1 + j_)) = some u_ := hkq7
  have hrq7 : Rd kstr z3 Aq7 ((l1.getD i [])) := hrq7
  have hcq7 : Cap Aq7 ((l1.getD i [])).length cq7 := hcq7
  have hlq7 := hcq7.le
  have hmq7 := hcq7.mx
  refine W_cons rfl (by decide) (Sv_val rfl (R_idx rfl rfl hAq7 rfl Try.underlying22 size31 (by omega) (by omega)) ?_)
  refine W_cons rfl (by decide) (Sv_val rfl (R_load1 rfl rfl agg31 (hkq7 0 _ rfl)) ?_)
  refine W_cons0 rfl (S_clear_fam hS 0 1 rfl rfl (by decide) rfl rfl Try.underlying31 zero9 rfl hrq7 (fun q9 lq9 w8 hllq9 hS => ?_))
  refine W_nil ?_
  refine E_block_normal ?_
  refine E_then (C_fr [(0, .slice Ar2 lq9.length cr2), (2, .int .i64 (i : Int))] (by rw [hllq9] <;> rfl) ?_)
  refine C_region ?_
  refine W_cons rfl (by decide) (Sv_val rfl (R_move rfl rfl) ?_)
  refine W_cons rfl (by decide) (Sv_val rfl (R_add64 rfl rfl rfl (by omega) (by omega)) ?_)
  refine W_cons rfl (by decide) (Sv_val rfl (R_assign rfl rfl) ?_)
  refine W_nil ?_
  have hs10 : lq9 = (lq9 : List (List St)) := by rfl
  have hS := hS.re 1 rfl hs10
  refine E_round [0, 2] ?_ ⟨(lq9 : List (List St)), (i + 1 : Nat), Ar2, cr2, q9, (by rw [← hs10] <;> rfl), (by omega), (by omega), rfl, hS.fin [0, 1] (by decide) rfl⟩
  omega
 ·have _hC0 := trivial
  have hC0p : ¬ ((i : Int) < (l1.length : Int)) := by simpa using hC0
  refine C_exit ?_
  refine E_then_exit ?_
  refine E_then_exit ?_
  refine E_block_hit ?_
  refine E_end_normal ?_
  refine E_ret0 rfl  ?_
  exact ⟨Lret0 , hS.fin [] (by decide) rfl⟩

set_option maxHeartbeats 400000 in
set_option maxRecDepth 20000 in
theorem grow_calls (a1 : Int) (z : Z) (w : World) (hI : In z w [])  (p0 : 0 ≤ a1 ∧ a1 ≤ 1000000000) :
    Calls Try.prog 77 #[.slice none 0 0, .int .i64 a1] w fun e w' => ∃ (AR0 : Option Addr) (cR0 : Nat), e = .returned (.slice AR0 ([] : List St).length cR0) ∧ Sp (FF []) w z w' [oR kstr 9 zE AR0 cR0 ([] : List St)] := by
 have hS := hI.sp
 refine Calls_of (vs := [.slice none 0 0, .int .i64 a1]) (N := 27) Try.func77 rfl rfl (Nat.le_of_ble_eq_true rfl) ?_
 refine C_seq ?_
 refine C_region ?_
 refine W_cons rfl (by decide) (Sv_val rfl (R_assign rfl rfl) ?_)
 refine W_nil ?_
 refine E_then ?_
 refine C_seq ?_
 refine C_seq ?_
 refine C_region ?_
 refine W_cons rfl (by decide) (Sv_val rfl (R_move rfl rfl) ?_)
 refine W_cons rfl (by decide) (Sv_val rfl (R_bin rfl rfl rfl rfl rfl) ?_)
 refine W_nil ?_
 refine E_then ?_
 refine C_ite rfl (fun hC0 => ?_) (fun hC0 => ?_)
 ·have _hC0 := trivial
  have hC0p : a1 < 0 := by simpa using hC0
  exfalso; omega
 ·have _hC0 := trivial
  have hC0p : ¬ (a1 < 0) := by simpa using hC0
  refine C_skip ?_
  refine E_then ?_
  refine C_seq ?_
  refine C_seq ?_
  refine C_region ?_
  refine W_cons rfl (by decide) (Sv_val rfl (R_move rfl rfl) ?_)
  refine W_cons rfl (by decide) (Sv_val rfl (R_move rfl rfl) ?_)
  refine W_cons rfl (by decide) (Sv_val rfl (R_cap rfl rfl (by kernel_rfl)) ?_)
  refine W_cons rfl (by decide) (Sv_val rfl (R_move rfl rfl) ?_)
  refine W_cons rfl (by decide) (Sv_val rfl (R_len rfl rfl Try.underlying31) ?_)
  refine W_cons rfl (by decide) (Sv_val rfl (R_sub64 rfl rfl rfl (by omega) (by omega)) ?_)
  refine W_cons rfl (by decide) (Sv_val rfl (R_sub64 rfl rfl rfl (by omega) (by omega)) ?_)
  refine W_cons rfl (by decide) (Sv_val rfl (R_assign rfl rfl) ?_)
  refine W_nil ?_
  refine E_then (C_fr [(0, .slice none 0 0), (1, .int .i64 (a1 - (((0 : Nat) : Int) - 0)))] rfl ?_)
  refine C_seq ?_
  refine C_region ?_
  refine W_cons rfl (by decide) (Sv_val rfl (R_move rfl rfl) ?_)
  refine W_cons rfl (by decide) (Sv_val rfl (R_bin rfl rfl rfl rfl rfl) ?_)
  refine W_nil ?_
  refine E_then ?_
  refine C_ite rfl (fun hC1 => ?_) (fun hC1 => ?_)
  ·have _hC1 := trivial
   have hC1p : (a1 - (((0 : Nat) : Int) - 0)) > 0 := by simpa using hC1
   refine C_region ?_
   refine W_cons rfl (by decide) (Sv_val rfl (R_move rfl rfl) ?_)
   refine W_cons rfl (by decide) (Sv_val rfl (R_move rfl rfl) ?_)
   refine W_cons rfl (by decide) (Sv_val rfl (R_cap rfl rfl (by kernel_rfl)) ?_)
   refine W_cons rfl (by decide) (Sv_val rfl (R_cutnil rfl rfl rfl (by kernel_rfl) (size9 _)) ?_)
   refine W_cons rfl (by decide) (Sv_val rfl (R_move rfl rfl) ?_)
   refine W_cons rfl (by decide) (S_grow (d := kstr) zE hS rfl rfl elem31 Try.underlying3 rfl rfl (by omega) (by omega) (by simp only [maxLen]; omega) (fun g2 cg2 w1 hS => ?_))
   refine W_cons rfl (by decide) (Sv_val rfl (R_move rfl rfl) ?_)
   refine W_cons rfl (by decide) (Sv_val rfl (R_len rfl rfl Try.underlying31) ?_)
   refine W_cons rfl (by decide) (Sv_val rfl (R_cut0 rfl rfl rfl (by kernel_rfl) (size9 _)) ?_)
   refine W_cons rfl (by decide) (Sv_val rfl (R_assign rfl rfl) ?_)
   refine W_nil ?_
   refine E_then (C_fr [(0, .slice (some ⟨g2, 0, none⟩) ([] : List St).length cg2)] rfl ?_)
   refine C_seq ?_
   refine C_region ?_
   refine W_cons rfl (by decide) (Sv_val rfl (R_move rfl rfl) ?_)
   refine W_cons rfl (by decide) (Sv_val rfl (R_assign rfl rfl) ?_)
   refine W_nil ?_
   refine E_then ?_
   refine C_ret ?_
   have hq3 : ([] : List St) = ([] : List St) := by rfl
   have hS := hS.re 0 rfl hq3
   refine E_ret1 rfl rfl ?_
   exact ⟨(some ⟨g2, 0, none⟩), cg2, Lret1 (Lslice hq3), hS.fin [0] (by decide) rfl⟩
  ·have _hC1 := trivial
   have hC1p : ¬ ((a1 - (((0 : Nat) : Int) - 0)) > 0) := by simpa using hC1
   refine C_skip ?_
   refine E_then ?_
   refine C_seq ?_
   refine C_region ?_
   refine W_cons rfl (by decide) (Sv_val rfl (R_move rfl rfl) ?_)
   refine W_cons rfl (by decide) (Sv_val rfl (R_assign rfl rfl) ?_)
   refine W_nil ?_
   refine E_then (C_fr [(4, .slice none 0 0)] rfl ?_)
   refine C_ret ?_
   have hS := hS.nilrow kstr 9 zE
   have hq5 : ([] : List St) = ([] : List St) := by rfl
   have hS := hS.re 0 rfl hq5
   refine E_ret1 rfl rfl ?_
   exact ⟨none, 0, Lret1 (Lslice hq5), hS.fin [0] (by decide) rfl⟩

set_option maxHeartbeats 400000 in
set_option maxRecDepth 20000 in
theorem concat_calls (a0 : List (List St)) (Aa0 : Option Addr) (ca0 : Nat) (z : Z) (w : World) (hI : In z w []) (hra0 : Rd (kslice kstr) z Aa0 a0) (hca0 : Cap Aa0 a0.length ca0) (p0 : a0.length ≤ 10000) (p1 : widthS a0 ≤ 10000) :
    Calls Try.prog 45 #[.slice Aa0 a0.length ca0] w fun e w' => ∃ (AR0 : Option Addr) (cR0 : Nat), e = .returned (.slice AR0 a0.flatten.length cR0) ∧ Sp (FF []) w z w' [oR kstr 9 zE AR0 cR0 a0.flatten] := by
 have hla0 := hca0.le
 have hma0 := hca0.mx
 have hS := hI.sp
 refine Calls_of (vs := [.slice Aa0 a0.length ca0]) (N := 36) Try.func45 rfl rfl (Nat.le_of_ble_eq_true rfl) ?_
 refine C_seq ?_
 refine C_region ?_
 refine W_cons rfl (by decide) (Sv_val rfl (R_assign rfl rfl) ?_)
 refine W_nil ?_
 refine E_then ?_
 refine C_seq ?_
 refine C_region ?_
 refine W_cons rfl (by decide) (Sv_val rfl (R_assign rfl rfl) ?_)
 refine W_nil ?_
 refine E_then ?_
 refine C_seq ?_
 refine C_seq ?_
 refine C_region ?_
 refine W_cons rfl (by decide) (Sv_val rfl (R_move rfl rfl) ?_)
 refine W_cons rfl (by decide) (Sv_val rfl (R_len rfl rfl Try.underlying22) ?_)
 refine W_cons rfl (by decide) (Sv_val rfl (R_move rfl rfl) ?_)
 refine W_nil ?_
 refine E_then ?_
 refine C_block ?_
 have hs2 : 0 = totS (a0.take (0 : Nat)) := by rfl
 refine C_fr [(0, .slice Aa0 a0.length ca0), (3, .int .i64 0), (9, .slice Aa0 a0.length ca0), (10, .int .i64 (a0.length : Int)), (11, .int .i64 0)] rfl ?_
 refine C_loop (fun m_ f_ w_ => ∃ (i : Nat), f_ = [(0, .slice Aa0 a0.length ca0), (3, .int .i64 (totS (a0.take i))), (9, .slice Aa0 a0.length ca0), (10, .int .i64 (a0.length : Int)), (11, .int .i64 (i : Int))] ∧ i ≤ a0.length ∧ m_ = a0.length - i ∧ Sp (FF []) w z w_ []) (a0.length - (0 : Nat)) ⟨(0 : Nat), (by rw [← hs2] <;> rfl), (by omega), rfl, hS.fin [] (by decide) rfl⟩ ?_
 rintro m_ f_ w1 ⟨i, rfl, hI0_0, rfl, hS⟩
 refine C_seq ?_
 refine C_region ?_
 refine W_cons rfl (by decide) (Sv_val rfl (R_bin rfl rfl rfl rfl rfl) ?_)
 refine W_nil ?_
 refine E_then ?_
 refine C_seq ?_
 refine C_ite rfl (fun hC0 => ?_) (fun hC0 => ?_)
 ·have _hC0 := trivial
  have hC0p : (i : Int) < (a0.length : Int) := by simpa using hC0
  refine C_skip ?_
  refine E_then ?_
  refine C_seq ?_
  refine C_block ?_
  refine C_seq ?_
  have ht1 := totS_bd a0 p1 i
  have ht2 := totS_bd a0 p1 (i + 1)
  have ht3 := totS_next a0 i (by omega)
  refine C_region ?_
  obtain ⟨q3, csq3, hAq3, ⟨Aq3, cq3, rfl, hcq3, hrq3⟩, hkq3⟩ := hra0.at_ [] (i := (i : Int)) (by omega) (by omega)
  have hkq3 : ∀ (j_ : Nat) (u_ : Value), ([.slice Aq3 (a0.getD i []).length cq3] : List Value)[j_]? = some u_ → cz z (q3.add (i * 1 + j_)) = some u_ := hkq3
  have hrq3 : Rd kstr z Aq3 ((a0.getD i [])) := hrq3
  have hcq3 : Cap Aq3 ((a0.getD i [])).length cq3 := hcq3
  have hlq3 := hcq3.le
  have hmq3 := hcq3.mx
  refine W_cons rfl (by decide) (Sv_val rfl (R_idx rfl rfl hAq3 rfl Try.underlying22 size31 (by omega) (by omega)) ?_)
  refine W_cons rfl (by decide) (Sv_val rfl (R_load1 rfl rfl agg31 (hS.sub.cell (hkq3 0 _ rfl))) ?_)
  refine W_cons rfl (by decide) (Sv_val rfl (R_assign rfl rfl) ?_)
  refine W_nil ?_
  refine E_then ?_
  refine C_seq ?_
  refine C_region ?_
  refine W_cons rfl (by decide) (Sv_val rfl (R_move rfl rfl) ?_)
  refine W_cons rfl (by decide) (Sv_val rfl (R_move rfl rfl) ?_)
  refine W_cons rfl (by decide) (Sv_val rfl (R_len rfl rfl Try.underlying31) ?_)
  refine W_cons rfl (by decide) (Sv_val rfl (R_add64 rfl rfl rfl (by omega) (by omega)) ?_)
  refine W_cons rfl (by decide) (Sv_val rfl (R_assign rfl rfl) ?_)
  refine W_nil ?_
  refine E_then (C_fr [(0, .slice Aa0 a0.length ca0), (3, .int .i64 ((totS (a0.take i)) + ((a0.getD i []).length : Int))), (9, .slice Aa0 a0.length ca0), (10, .int .i64 (a0.length : Int)), (11, .int .i64 (i : Int))] rfl ?_)
  refine C_seq ?_
  refine C_region ?_
  refine W_cons rfl (by decide) (Sv_val rfl (R_move rfl rfl) ?_)
  refine W_cons rfl (by decide) (Sv_val rfl (R_bin rfl rfl rfl rfl rfl) ?_)
  refine W_nil ?_
  refine E_then ?_
  refine C_ite rfl (fun hC1 => ?_) (fun hC1 => ?_)
  ·have _hC1 := trivial
   have hC1p : ((totS (a0.take i)) + ((a0.getD i []).length : Int)) < 0 := by simpa using hC1
   exfalso; omega
  ·have _hC1 := trivial
   have hC1p : ¬ (((totS (a0.take i)) + ((a0.getD i []).length : Int)) < 0) := by simpa using hC1
   refine C_skip ?_
   refine E_block_normal ?_
   refine E_then ?_
   refine C_region ?_
   refine W_cons rfl (by decide) (Sv_val rfl (R_add64 rfl rfl rfl (by omega) (by omega)) ?_)
   refine W_cons rfl (by decide) (Sv_val rfl (R_move rfl rfl) ?_)
   refine W_nil ?_
   have hs4 : (totS (a0.take i)) + ((a0.getD i []).length : Int) = totS (a0.take (i + 1 : Nat)) := by exact (totS_next a0 i (by omega)).symm
   refine E_round [0, 3, 9, 10, 11] ?_ ⟨(i + 1 : Nat), (by rw [← hs4] <;> rfl), (by omega), rfl, hS.fin [] (by decide) rfl⟩
   omega
 ·have _hC0 := trivial
  have hC0p : ¬ ((i : Int) < (a0.length : Int)) := by simpa using hC0
  refine C_exit ?_
  refine E_then_exit ?_
  refine E_then_exit ?_
  refine E_block_hit ?_
  refine E_then ?_
  refine C_seq ?_
  have ht1 := totS_bd a0 p1 i
  refine C_region ?_
  refine W_cons rfl (by decide) (Sv_val rfl (R_move rfl rfl) ?_)
  refine W_cons rfl (by decide) (Sv_call rfl rfl rfl ent77 ?_)
  refine (grow_calls (totS (a0.take i)) _ _ hS.out0  (by omega)).mono ?_
  rintro e_ w5 ⟨AR0_6, cR0_6, rfl, hS_⟩
  refine ⟨_, rfl, ?_⟩
  have hS := hS.call0 hS_
  have hp7 := hS.cap 0 rfl
  have hlhp7 := hp7.le
  have hmhp7 := hp7.mx
  refine W_cons rfl (by decide) (Sv_val rfl (R_assign rfl rfl) ?_)
  refine W_nil ?_
  refine E_then (C_fr [(0, .slice Aa0 a0.length ca0), (6, .slice AR0_6 ([] : List St).length cR0_6)] rfl ?_)
  refine C_seq ?_
  refine C_seq ?_
  refine C_region ?_
  refine W_cons rfl (by decide) (Sv_val rfl (R_move rfl rfl) ?_)
  refine W_cons rfl (by decide) (Sv_val rfl (R_len rfl rfl Try.underlying22) ?_)
  refine W_cons rfl (by decide) (Sv_val rfl (R_move rfl rfl) ?_)
  refine W_nil ?_
  refine E_then ?_
  refine C_block ?_
  have hs10 : ([] : List St) = (a0.take (0 : Nat)).flatten := by rfl
  have hS := hS.re 0 rfl hs10
  refine C_fr [(6, .slice AR0_6 ([] : List St).length cR0_6), (25, .slice Aa0 a0.length ca0), (26, .int .i64 (a0.length : Int)), (27, .int .i64 0)] rfl ?_
  refine C_loop (fun m_ f_ w_ => ∃ (i2 : Nat) (Ar8 : Option Addr) (cr8 : Nat), f_ = [(6, .slice Ar8 (a0.take i2).flatten.length cr8), (25, .slice Aa0 a0.length ca0), (26, .int .i64 (a0.length : Int)), (27, .int .i64 (i2 : Int))] ∧ i2 ≤ a0.length ∧ m_ = a0.length - i2 ∧ Sp (FF []) w z w_ [oR kstr 9 zE Ar8 cr8 (a0.take i2).flatten]) (a0.length - (0 : Nat)) ⟨(0 : Nat), AR0_6, cR0_6, (by rw [← hs10] <;> rfl), (by omega), rfl, hS.fin [0] (by decide) rfl⟩ ?_
  rintro m_ f_ w9 ⟨i2, Ar8, cr8, rfl, hI1_0, rfl, hS⟩
  have hp11 := hS.cap 0 rfl
  have hlhp11 := hp11.le
  have hmhp11 := hp11.mx
  refine C_seq ?_
  refine C_region ?_
  refine W_cons rfl (by decide) (Sv_val rfl (R_bin rfl rfl rfl rfl rfl) ?_)
  refine W_nil ?_
  refine E_then ?_
  refine C_seq ?_
  refine C_ite rfl (fun hC2 => ?_) (fun hC2 => ?_)
  ·have _hC2 := trivial
   have hC2p : (i2 : Int) < (a0.length : Int) := by simpa using hC2
   refine C_skip ?_
   refine E_then ?_
   refine C_seq ?_
   refine C_block ?_
   refine C_seq ?_
   have ht4 := totS_bd a0 p1 i2
   have ht5 := totS_next a0 i2 (by omega)
   have ht6 := totS_bd a0 p1 (i2 + 1)
   unfold totS at ht4 ht5 ht6
   refine C_region ?_
   obtain ⟨q12, csq12, hAq12, ⟨Aq12, cq12, rfl, hcq12, hrq12⟩, hkq12⟩ := hra0.at_ [] (i := (i2 : Int)) (by omega) (by omega)
   have hkq12 : ∀ (j_ : Nat) (u_ : Value), ([.slice Aq12 (a0.getD i2 []).length cq12] : List Value)[j_]? = some u_ → cz z (q12.add (i2 * 1 + j_)) = some u_ := hkq12
   have hrq12 : Rd kstr z Aq12 ((a0.getD i2 [])) := hrq12
   have hcq12 : Cap Aq12 ((a0.getD i2 [])).length cq12 := hcq12
   have hlq12 := hcq12.le
   have hmq12 := hcq12.mx
   refine W_cons rfl (by decide) (Sv_val rfl (R_idx rfl rfl hAq12 rfl Try.underlying22 size31 (by omega) (by omega)) ?_)
   refine W_cons rfl (by decide) (Sv_val rfl (R_load1 rfl rfl agg31 (hS.sub.cell (hkq12 0 _ rfl))) ?_)
   refine W_cons rfl (by decide) (Sv_val rfl (R_assign rfl rfl) ?_)
   refine W_nil ?_
   refine E_then ?_
   refine C_region ?_
   refine W_cons rfl (by decide) (Sv_val rfl (R_move rfl rfl) ?_)
   refine W_cons rfl (by decide) (Sv_val rfl (R_move rfl rfl) ?_)
   refine W_cons rfl (by decide) (S_append hS 0 rfl rfl rfl elem31 rfl rfl (Sp.srd hS.sub hrq12 hcq12 (fun _ _ h => h)) (by (try simp only [List.length_cons, List.length_nil, List.length_append, maxLen]); omega) (by (try simp only [List.length_cons, List.length_nil, List.length_append, maxLen]); omega) (fun Ar14 cr14 w13 hS => ?_))
   have hp15 := hS.cap 0 rfl
   have hlhp15 := hp15.le
   have hmhp15 := hp15.mx
   refine W_cons rfl (by decide) (Sv_val rfl (R_assign rfl rfl) ?_)
   refine W_nil ?_
   refine E_block_normal ?_
   refine E_then (C_fr [(6, .slice Ar14 ((a0.take i2).flatten ++ (a0.getD i2 [])).length cr14), (25, .slice Aa0 a0.length ca0), (26, .int .i64 (a0.length : Int)), (27, .int .i64 (i2 : Int))] rfl ?_)
   refine C_region ?_
   refine W_cons rfl (by decide) (Sv_val rfl (R_add64 rfl rfl rfl (by omega) (by omega)) ?_)
   refine W_cons rfl (by decide) (Sv_val rfl (R_move rfl rfl) ?_)
   refine W_nil ?_
   have hs16 : (a0.take i2).flatten ++ (a0.getD i2 []) = (a0.take (i2 + 1 : Nat)).flatten := by exact (flat_next a0 i2 (by omega)).symm
   have hS := hS.re 0 rfl hs16
   refine E_round [6, 25, 26, 27] ?_ ⟨(i2 + 1 : Nat), Ar14, cr14, (by rw [← hs16] <;> rfl), (by omega), rfl, hS.fin [0] (by decide) rfl⟩
   omega
  ·have _hC2 := trivial
   have hC2p : ¬ ((i2 : Int) < (a0.length : Int)) := by simpa using hC2
   refine C_exit ?_
   refine E_then_exit ?_
   refine E_then_exit ?_
   refine E_block_hit ?_
   refine E_then ?_
   refine C_seq ?_
   refine C_region ?_
   refine W_cons rfl (by decide) (Sv_val rfl (R_move rfl rfl) ?_)
   refine W_cons rfl (by decide) (Sv_val rfl (R_assign rfl rfl) ?_)
   refine W_nil ?_
   refine E_then (C_fr [(2, .slice Ar8 (a0.take i2).flatten.length cr8)] rfl ?_)
   refine C_ret ?_
   have hq17 : (a0.take i2).flatten = a0.flatten := by rw [List.take_of_length_le (by omega)]
   have hS := hS.re 0 rfl hq17
   refine E_ret1 rfl rfl ?_
   exact ⟨Ar8, cr8, Lret1 (Lslice hq17), hS.fin [0] (by decide) rfl⟩

set_option maxHeartbeats 400000 in
set_option maxRecDepth 20000 in
theorem tcheck_calls (a0 : List (List St)) (Aa0 : Option Addr) (ca0 : Nat) (z : Z) (w : World) (hI : In z w []) (hra0 : Rd (kslice kstr) z Aa0 a0) (hca0 : Cap Aa0 a0.length ca0) (p0 : a0.length ≤ 10000) (p1 : widthS a0 ≤ 10000) :
    Calls Try.prog 16 #[.slice Aa0 a0.length ca0] w fun e w' => e = .returned (.int .i64 (checkS a0)) ∧ Sp (FF []) w z w' [] := by
 have hla0 := hca0.le
 have hma0 := hca0.mx
 have hS := hI.sp
 refine Calls_of (vs := [.slice Aa0 a0.length ca0]) (N := 27) Try.func16 rfl rfl (Nat.le_of_ble_eq_true rfl) ?_
 refine C_seq ?_
 refine C_region ?_
 refine W_cons rfl (by decide) (Sv_val rfl (R_assign rfl rfl) ?_)
 refine W_nil ?_
 refine E_then ?_
 refine C_seq ?_
 refine C_region ?_
 refine W_cons rfl (by decide) (Sv_val rfl (R_move rfl rfl) ?_)
 refine W_cons rfl (by decide) (Sv_call rfl rfl rfl ent14 ?_)
 refine (width_calls a0 Aa0 ca0 _ _ hS.out0 (hra0.mono (hS.zl [])) hca0 ).mono ?_
 rintro e_ w1 ⟨rfl, hS_⟩
 refine ⟨_, rfl, ?_⟩
 have hS := hS.call0 hS_
 refine W_cons rfl (by decide) (S_box hS rfl (R_alloc rfl alloc3) (fun b4 w3 hS => ?_))
 refine W_cons0 rfl (S_store hS 0 rfl rfl rfl rfl rfl size3 (one1 rfl) (Nat.le_of_ble_eq_true rfl) (fun w5 hS => ?_))
 refine W_nil ?_
 refine E_then ?_
 refine C_seq ?_
 refine C_seq ?_
 refine C_region ?_
 refine W_cons rfl (by decide) (Sv_val rfl (R_load1 rfl rfl agg3 ((hS.bx 0 rfl).cell rfl)) ?_)
 refine W_cons rfl (by decide) (Sv_val rfl (R_bin rfl rfl rfl rfl rfl) ?_)
 refine W_cons rfl (by decide) (Sv_val rfl (R_move rfl rfl) ?_)
 refine W_split (t := 9) rfl (fun hg6 => ?_) (fun hg6 => ?_)
 ·have _hg6 := trivial
  have hg6p : (widthS a0) = 0 := by simpa using hg6
  refine W_cons rfl (by decide) (Sv_off rfl rfl rfl (by rw [hg6] <;> rfl) ?_)
  refine W_cons rfl (by decide) (Sv_off rfl rfl rfl (by rw [hg6] <;> rfl) ?_)
  refine W_cons rfl (by decide) (Sv_off rfl rfl rfl (by rw [hg6] <;> rfl) ?_)
  refine W_cons rfl (by decide) (Sv_val rfl (R_pick_t rfl rfl hg6 rfl) ?_)
  refine W_nil ?_
  refine E_then (C_fr [(0, .slice Aa0 a0.length ca0), (3, .pointer (some ⟨b4, 0, none⟩)), (13, .bool true)] rfl ?_)
  refine C_if rfl rfl ?_
  refine C_seq ?_
  refine C_region ?_
  refine W_cons rfl (by decide) (Sv_val rfl (R_assign rfl rfl) ?_)
  refine W_nil ?_
  refine E_then ?_
  refine C_ret ?_
  refine E_then_ret ?_
  refine E_ret1 rfl rfl ?_
  exact ⟨Lret1 (Lint (show 1 = checkS a0 by first | (unfold checkS; simp_all; done) | (unfold checkS; simp_all; rw [if_neg (by omega), if_neg (by omega)]))), hS.fin [] (by decide) rfl⟩
 ·have _hg6 := trivial
  have hg6p : ¬ ((widthS a0) = 0) := by simpa using hg6
  refine W_cons rfl (by decide) (Sv_gt rfl rfl rfl hg6 (Sv_val rfl (R_move rfl rfl) ?_))
  refine W_cons rfl (by decide) (Sv_gt rfl rfl rfl hg6 (Sv_val rfl (R_makeFunc rfl rfl) ?_))
  have hS := hS.bun [0] (by decide)
  refine W_cons rfl (by decide) (Sv_gt rfl rfl rfl hg6 (Sv_call rfl rfl rfl ent42 ?_))
  refine (cfr_has_calls a0 Aa0 ca0 43 [.pointer (some ⟨b4, 0, none⟩)] (allR [bR b4 3 [.int .i64 (widthS a0)]]) zE (fun x_ => ((x_.length : Int) != (widthS a0))) _ _ (hS.out [0] (by decide)) (hra0.mono (hS.zl [0])) hca0 (tcheck1_fv b4 (widthS a0) _ ) (zle_E _) ).mono ?_
  rintro e_ w7 ⟨rfl, hS_⟩
  refine ⟨_, rfl, ?_⟩
  have hS := hS.call [0] (by decide) hS_
  have hS := hS.unb
  refine W_cons rfl (by decide) (Sv_val rfl (R_pick_f rfl rfl hg6 rfl) ?_)
  refine W_nil ?_
  refine E_then (C_fr [(0, .slice Aa0 a0.length ca0), (3, .pointer (some ⟨b4, 0, none⟩)), (13, .bool (hasF (fun x_ => ((x_.length : Int) != (widthS a0))) a0))] rfl ?_)
  refine C_ite rfl (fun hC0 => ?_) (fun hC0 => ?_)
  ·have _hC0 := trivial
   refine C_seq ?_
   refine C_region ?_
   refine W_cons rfl (by decide) (Sv_val rfl (R_assign rfl rfl) ?_)
   refine W_nil ?_
   refine E_then ?_
   refine C_ret ?_
   refine E_then_ret ?_
   refine E_ret1 rfl rfl ?_
   exact ⟨Lret1 (Lint (show 1 = checkS a0 by first | (unfold checkS; simp_all; done) | (unfold checkS; simp_all; rw [if_neg (by omega), if_neg (by omega)]))), hS.fin [] (by decide) rfl⟩
  ·have _hC0 := trivial
   refine C_skip ?_
   refine E_then ?_
   refine C_seq ?_
   refine C_region ?_
   refine W_cons rfl (by decide) (Sv_val rfl (R_move rfl rfl) ?_)
   refine W_cons rfl (by decide) (Sv_call rfl rfl rfl ent45 ?_)
   refine (concat_calls a0 Aa0 ca0 _ _ hS.out0 (hra0.mono (hS.zl [])) hca0 (by first | omega | assumption) (by first | omega | assumption)).mono ?_
   rintro e_ w10 ⟨AR0_11, cR0_11, rfl, hS_⟩
   refine ⟨_, rfl, ?_⟩
   have hS := hS.call0 hS_
   have hp12 := hS.cap 0 rfl
   have hlhp12 := hp12.le
   have hmhp12 := hp12.mx
   have hS := hS.bun [] (by decide)
   refine W_cons rfl (by decide) (Sv_call rfl rfl rfl ent44 ?_)
   refine (cfs_has_calls a0.flatten AR0_11 cR0_11 46 [] (allR []) zE (fun x_ => decide ((x_.length : Int) > 1024)) _ _ (hS.out [0] (by decide)) (hS.ow [0] 1 rfl rfl (zle_E _)) (hS.cap 1 rfl) (tcheck2_fv  _ ) (zle_E _) ).mono ?_
   rintro e_ w13 ⟨rfl, hS_⟩
   refine ⟨_, rfl, ?_⟩
   have hS := hS.call [0] (by decide) hS_
   have hS := hS.unb
   refine W_cons rfl (by decide) (Sv_val rfl (R_assign rfl rfl) ?_)
   refine W_nil ?_
   refine E_then ?_
   refine C_seq ?_
   refine C_seq ?_
   refine C_region ?_
   refine W_cons rfl (by decide) (Sv_val rfl (R_move rfl rfl) ?_)
   refine W_cons rfl (by decide) (Sv_val rfl (R_move rfl rfl) ?_)
   refine W_split (t := 18) rfl (fun hg16 => ?_) (fun hg16 => ?_)
   ·have _hg16 := trivial
    refine W_cons rfl (by decide) (Sv_off rfl rfl rfl (by rw [hg16] <;> rfl) ?_)
    refine W_cons rfl (by decide) (Sv_off rfl rfl rfl (by rw [hg16] <;> rfl) ?_)
    refine W_cons rfl (by decide) (Sv_off rfl rfl rfl (by rw [hg16] <;> rfl) ?_)
    refine W_cons rfl (by decide) (Sv_val rfl (R_pick_t rfl rfl hg16 rfl) ?_)
    refine W_cons rfl (by decide) (Sv_val rfl (R_move rfl rfl) ?_)
    refine W_cons rfl (by decide) (Sv_off rfl rfl rfl rfl ?_)
    refine W_cons rfl (by decide) (Sv_off rfl rfl rfl rfl ?_)
    refine W_cons rfl (by decide) (Sv_val rfl (R_pick_t rfl rfl rfl rfl) ?_)
    refine W_nil ?_
    refine E_then (C_fr [(26, .bool true)] rfl ?_)
    refine C_if rfl rfl ?_
    refine C_seq ?_
    refine C_region ?_
    refine W_cons rfl (by decide) (Sv_val rfl (R_assign rfl rfl) ?_)
    refine W_nil ?_
    refine E_then ?_
    refine C_ret ?_
    refine E_then_ret ?_
    refine E_ret1 rfl rfl ?_
    exact ⟨Lret1 (Lint (show 3 = checkS a0 by first | (unfold checkS; simp_all; done) | (unfold checkS; simp_all; rw [if_neg (by omega), if_neg (by omega)]))), hS.fin [] (by decide) rfl⟩
   ·have _hg16 := trivial
    refine W_cons rfl (by decide) (Sv_gt rfl rfl rfl hg16 (Sv_val rfl (R_move rfl rfl) ?_))
    refine W_cons rfl (by decide) (Sv_gt rfl rfl rfl hg16 (Sv_val rfl (R_len rfl rfl Try.underlying22) ?_))
    refine W_cons rfl (by decide) (Sv_gt rfl rfl rfl hg16 (Sv_val rfl (R_bin rfl rfl rfl rfl rfl) ?_))
    refine W_cons rfl (by decide) (Sv_val rfl (R_pick_f rfl rfl hg16 rfl) ?_)
    refine W_cons rfl (by decide) (Sv_val rfl (R_move rfl rfl) ?_)
    refine W_split (t := 23) rfl (fun hg17 => ?_) (fun hg17 => ?_)
    ·have _hg17 := trivial
     have hg17p : (a0.length : Int) > 24 := by simpa using hg17
     refine W_cons rfl (by decide) (Sv_off rfl rfl rfl (by rw [hg17] <;> rfl) ?_)
     refine W_cons rfl (by decide) (Sv_off rfl rfl rfl (by rw [hg17] <;> rfl) ?_)
     refine W_cons rfl (by decide) (Sv_val rfl (R_pick_t rfl rfl hg17 rfl) ?_)
     refine W_nil ?_
     refine E_then (C_fr [(26, .bool true)] rfl ?_)
     refine C_if rfl rfl ?_
     refine C_seq ?_
     refine C_region ?_
     refine W_cons rfl (by decide) (Sv_val rfl (R_assign rfl rfl) ?_)
     refine W_nil ?_
     refine E_then ?_
     refine C_ret ?_
     refine E_then_ret ?_
     refine E_ret1 rfl rfl ?_
     exact ⟨Lret1 (Lint (show 3 = checkS a0 by first | (unfold checkS; simp_all; done) | (unfold checkS; simp_all; rw [if_neg (by omega), if_neg (by omega)]))), hS.fin [] (by decide) rfl⟩
    ·have _hg17 := trivial
     have hg17p : ¬ ((a0.length : Int) > 24) := by simpa using hg17
     refine W_cons rfl (by decide) (Sv_gt rfl rfl rfl hg17 (Sv_val rfl (R_load1 rfl rfl agg3 ((hS.bx 1 rfl).cell rfl)) ?_))
     refine W_cons rfl (by decide) (Sv_gt rfl rfl rfl hg17 (Sv_val rfl (R_bin rfl rfl rfl rfl rfl) ?_))
     refine W_cons rfl (by decide) (Sv_val rfl (R_pick_f rfl rfl hg17 rfl) ?_)
     refine W_nil ?_
     refine E_then (C_fr [(26, .bool (decide ((widthS a0) > 16)))] rfl ?_)
     refine C_ite rfl (fun hC1 => ?_) (fun hC1 => ?_)
     ·have _hC1 := trivial
      have hC1p : (widthS a0) > 16 := by simpa using hC1
      refine C_seq ?_
      refine C_region ?_
      refine W_cons rfl (by decide) (Sv_val rfl (R_assign rfl rfl) ?_)
      refine W_nil ?_
      refine E_then ?_
      refine C_ret ?_
      refine E_then_ret ?_
      refine E_ret1 rfl rfl ?_
      exact ⟨Lret1 (Lint (show 3 = checkS a0 by first | (unfold checkS; simp_all; done) | (unfold checkS; simp_all; rw [if_neg (by omega), if_neg (by omega)]))), hS.fin [] (by decide) rfl⟩
     ·have _hC1 := trivial
      have hC1p : ¬ ((widthS a0) > 16) := by simpa using hC1
      refine C_skip ?_
      refine E_then ?_
      refine C_seq ?_
      refine C_region ?_
      refine W_cons rfl (by decide) (Sv_val rfl (R_assign rfl rfl) ?_)
      refine W_nil ?_
      refine E_then ?_
      refine C_ret ?_
      refine E_ret1 rfl rfl ?_
      exact ⟨Lret1 (Lint (show 0 = checkS a0 by first | (unfold checkS; simp_all; done) | (unfold checkS; simp_all; rw [if_neg (by omega), if_neg (by omega)]))), hS.fin [] (by decide) rfl⟩

set_option maxHeartbeats 1000000 in
set_option maxRecDepth 20000 in
theorem rcheck_calls (a0 : List (List St)) (Aa0 : Option Addr) (ca0 : Nat) (z : Z) (w : World) (hI : In z w []) (hra0 : Rd (kslice kstr) z Aa0 a0) (hca0 : Cap Aa0 a0.length ca0)  :
    Calls Try.prog 17 #[.slice Aa0 a0.length ca0] w fun e w' => e = .returned (.int .i64 (checkS a0)) ∧ Sp (FF []) w z w' [] := by
 have hla0 := hca0.le
 have hma0 := hca0.mx
 have hS := hI.sp
 refine Calls_of (vs := [.slice Aa0 a0.length ca0]) (N := 66) Try.func17 rfl rfl (Nat.le_of_ble_eq_true rfl) ?_
 refine C_seq ?_
 refine C_region ?_
 refine W_cons rfl (by decide) (Sv_val rfl (R_assign rfl rfl) ?_)
 refine W_nil ?_
 refine E_then ?_
 refine C_seq ?_
 refine C_seq ?_
 refine C_region ?_
 refine W_cons rfl (by decide) (Sv_val rfl (R_move rfl rfl) ?_)
 refine W_cons rfl (by decide) (Sv_val rfl (R_len rfl rfl Try.underlying22) ?_)
 refine W_cons rfl (by decide) (Sv_val rfl (R_bin rfl rfl rfl rfl rfl) ?_)
 refine W_cons rfl (by decide) (Sv_val rfl (R_move rfl rfl) ?_)
 refine W_split (t := 9) rfl (fun hg1 => ?_) (fun hg1 => ?_)
 ·have _hg1 := trivial
  have hg1p : (a0.length : Int) = 0 := by simpa using hg1
  refine W_cons rfl (by decide) (Sv_off rfl rfl rfl (by rw [hg1] <;> rfl) ?_)
  refine W_cons rfl (by decide) (Sv_off rfl rfl rfl (by rw [hg1] <;> rfl) ?_)
  refine W_cons rfl (by decide) (Sv_off rfl rfl rfl (by rw [hg1] <;> rfl) ?_)
  refine W_cons rfl (by decide) (Sv_off rfl rfl rfl (by rw [hg1] <;> rfl) ?_)
  refine W_cons rfl (by decide) (Sv_off rfl rfl rfl (by rw [hg1] <;> rfl) ?_)
  refine W_cons rfl (by decide) (Sv_val rfl (R_pick_t rfl rfl hg1 rfl) ?_)
  refine W_nil ?_
  refine E_then (C_fr [(0, .slice Aa0 a0.length ca0), (15, .bool true)] rfl ?_)
  refine C_if rfl rfl ?_
  refine C_seq ?_
  refine C_region ?_
  refine W_cons rfl (by decide) (Sv_val rfl (R_assign rfl rfl) ?_)
  refine W_nil ?_
  refine E_then ?_
  refine C_ret ?_
  refine E_then_ret ?_
  refine E_ret1 rfl rfl ?_
  exact ⟨Lret1 (Lint (show 1 = checkS a0 by first | exact (chk1 (by first | exact .inl (by omega) | exact .inr (by omega))).symm | exact (chk2 (i := i) (by omega) (by omega)).symm | exact (chk3 (by omega) (n := ((a0.getD 0 []).length : Int)) (by omega) (eq_all (i := i) (by omega) hI0_1) (by omega)).symm | exact (chk4 (i := i2) (k := k) (n := ((a0.getD 0 []).length : Int)) (by omega) (eq_all (i := i) (by omega) hI0_1) (by omega) (by omega) (by omega)).symm | exact (chk5 (i := i2) (n := ((a0.getD 0 []).length : Int)) (by omega) (by omega) (eq_all (i := i) (by omega) hI0_1) (by omega) hI1_1 (by omega) (by omega)).symm)), hS.fin [] (by decide) rfl⟩
 ·have _hg1 := trivial
  have hg1p : ¬ ((a0.length : Int) = 0) := by simpa using hg1
  refine W_cons rfl (by decide) (Sv_gt rfl rfl rfl hg1 (Sv_val rfl (R_move rfl rfl) ?_))
  obtain ⟨q2, csq2, hAq2, ⟨Aq2, cq2, rfl, hcq2, hrq2⟩, hkq2⟩ := hra0.at_ [] (i := 0) (by omega) (by omega)
  have hkq2 : ∀ (j_ : Nat) (u_ : Value), ([.slice Aq2 (a0.getD 0 []).length cq2] : List Value)[j_]? = some u_ → cz z (q2.add (0 * 1 + j_)) = some u_ := hkq2
  have hrq2 : Rd kstr z Aq2 ((a0.getD 0 [])) := hrq2
  have hcq2 : Cap Aq2 ((a0.getD 0 [])).length cq2 := hcq2
  have hlq2 := hcq2.le
  have hmq2 := hcq2.mx
  refine W_cons rfl (by decide) (Sv_gt rfl rfl rfl hg1 (Sv_val rfl (R_idx rfl rfl hAq2 rfl Try.underlying22 size31 (by omega) (by omega)) ?_))
  refine W_cons rfl (by decide) (Sv_gt rfl rfl rfl hg1 (Sv_val rfl (R_load1 rfl rfl agg31 (hS.sub.cell (hkq2 0 _ rfl))) ?_))
  refine W_cons rfl (by decide) (Sv_gt rfl rfl rfl hg1 (Sv_val rfl (R_len rfl rfl Try.underlying31) ?_))
  refine W_cons rfl (by decide) (Sv_gt rfl rfl rfl hg1 (Sv_val rfl (R_bin rfl rfl rfl rfl rfl) ?_))
  refine W_cons rfl (by decide) (Sv_val rfl (R_pick_f rfl rfl hg1 rfl) ?_)
  refine W_nil ?_
  refine E_then (C_fr [(0, .slice Aa0 a0.length ca0), (15, .bool (((a0.getD 0 []).length : Int) == 0))] rfl ?_)
  refine C_ite rfl (fun hC0 => ?_) (fun hC0 => ?_)
  ·have _hC0 := trivial
   have hC0p : ((a0.getD 0 []).length : Int) = 0 := by simpa using hC0
   refine C_seq ?_
   refine C_region ?_
   refine W_cons rfl (by decide) (Sv_val rfl (R_assign rfl rfl) ?_)
   refine W_nil ?_
   refine E_then ?_
   refine C_ret ?_
   refine E_then_ret ?_
   refine E_ret1 rfl rfl ?_
   exact ⟨Lret1 (Lint (show 1 = checkS a0 by first | exact (chk1 (by first | exact .inl (by omega) | exact .inr (by omega))).symm | exact (chk2 (i := i) (by omega) (by omega)).symm | exact (chk3 (by omega) (n := ((a0.getD 0 []).length : Int)) (by omega) (eq_all (i := i) (by omega) hI0_1) (by omega)).symm | exact (chk4 (i := i2) (k := k) (n := ((a0.getD 0 []).length : Int)) (by omega) (eq_all (i := i) (by omega) hI0_1) (by omega) (by omega) (by omega)).symm | exact (chk5 (i := i2) (n := ((a0.getD 0 []).length : Int)) (by omega) (by omega) (eq_all (i := i) (by omega) hI0_1) (by omega) hI1_1 (by omega) (by omega)).symm)), hS.fin [] (by decide) rfl⟩
  ·have _hC0 := trivial
   have hC0p : ¬ (((a0.getD 0 []).length : Int) = 0) := by simpa using hC0
   refine C_skip ?_
   refine E_then ?_
   refine C_seq ?_
   refine C_seq ?_
   refine C_region ?_
   refine W_cons rfl (by decide) (Sv_val rfl (R_assign rfl rfl) ?_)
   refine W_nil ?_
   refine E_then ?_
   refine C_block ?_
   refine C_fr [(0, .slice Aa0 a0.length ca0), (3, .int .i64 0)] rfl ?_
   refine C_loop (fun m_ f_ w_ => ∃ (i : Nat), f_ = [(0, .slice Aa0 a0.length ca0), (3, .int .i64 (i : Int))] ∧ i ≤ a0.length ∧ (a0.take i).any (fun r => (r.length : Int) != ((a0.getD 0 []).length : Int)) = false ∧ m_ = a0.length - i ∧ Sp (FF []) w z w_ []) (a0.length - (0 : Nat)) ⟨(0 : Nat), rfl, (by omega), (by rfl), rfl, hS.fin [] (by decide) rfl⟩ ?_
   rintro m_ f_ w3 ⟨i, rfl, hI0_0, hI0_1, rfl, hS⟩
   refine C_seq ?_
   refine C_seq ?_
   refine C_region ?_
   refine W_cons rfl (by decide) (Sv_val rfl (R_move rfl rfl) ?_)
   refine W_cons rfl (by decide) (Sv_val rfl (R_move rfl rfl) ?_)
   refine W_cons rfl (by decide) (Sv_val rfl (R_len rfl rfl Try.underlying22) ?_)
   refine W_cons rfl (by decide) (Sv_val rfl (R_bin rfl rfl rfl rfl rfl) ?_)
   refine W_nil ?_
   refine E_then ?_
   refine C_ite rfl (fun hC1 => ?_) (fun hC1 => ?_)
   ·have _hC1 := trivial
    have hC1p : (i : Int) < (a0.length : Int) := by simpa using hC1
    refine C_skip ?_
    refine E_then ?_
    refine C_seq ?_
    refine C_block ?_
    refine C_seq ?_
    refine C_fr [(0, .slice Aa0 a0.length ca0), (3, .int .i64 (i : Int))] rfl ?_
    obtain ⟨q4, csq4, hAq4, ⟨Aq4, cq4, rfl, hcq4, hrq4⟩, hkq4⟩ := hra0.at_ [] (i := (i : Int)) (by omega) (by omega)
    have hkq4 : ∀ (j_ : Nat) (u_ : Value), ([.slice Aq4 (a0.getD i []).length cq4] : List Value)[j_]? = some u_ → cz z (q4.add (i * 1 + j_)) = some u_ := hkq4
    have hrq4 : Rd kstr z Aq4 ((a0.getD i [])) := hrq4
    have hcq4 : Cap Aq4 ((a0.getD i [])).length cq4 := hcq4
    have hlq4 := hcq4.le
    have hmq4 := hcq4.mx
    obtain ⟨q5, csq5, hAq5, ⟨Aq5, cq5, rfl, hcq5, hrq5⟩, hkq5⟩ := hra0.at_ [] (i := 0) (by omega) (by omega)
    have hkq5 : ∀ (j_ : Nat) (u_ : Value), ([.slice Aq5 (a0.getD 0 []).length cq5] : List Value)[j_]? = some u_ → cz z (q5.add (0 * 1 + j_)) = some u_ := hkq5
    have hrq5 : Rd kstr z Aq5 ((a0.getD 0 [])) := hrq5
    have hcq5 : Cap Aq5 ((a0.getD 0 [])).length cq5 := hcq5
    have hlq5 := hcq5.le
    have hmq5 := hcq5.mx
    refine C_drawn 10 [[], [], [0, 1], [2], [3], [], [5], [6], [7], [4, 8]] [22, 23, 24, 25, 26, 27, 28, 29, 30, 31] [0, 3] rfl (by kernel_rfl) (by decide +kernel) [fun v_ _ => v_ = .slice Aa0 a0.length ca0, fun v_ _ => v_ = .int .i64 (i : Int), fun v_ _ => v_ = .pointer (some (q4.add (i * 1))), fun v_ _ => v_ = .slice Aq4 (a0.getD i []).length cq4, fun v_ _ => v_ = .int .i64 ((a0.getD i []).length : Int), fun v_ _ => v_ = .slice Aa0 a0.length ca0, fun v_ _ => v_ = .pointer (some (q5.add (0 * 1))), fun v_ _ => v_ = .slice Aq5 (a0.getD 0 []).length cq5, fun v_ _ => v_ = .int .i64 ((a0.getD 0 []).length : Int), fun v_ _ => v_ = .bool (((a0.getD i []).length : Int) != ((a0.getD 0 []).length : Int))] ⟨fun _ _ _ h _ => h, ⟨fun _ _ _ h _ => h, ⟨fun _ _ _ h _ => h, ⟨fun _ _ _ h _ => h, ⟨fun _ _ _ h _ => h, ⟨fun _ _ _ h _ => h, ⟨fun _ _ _ h _ => h, ⟨fun _ _ _ h _ => h, ⟨fun _ _ _ h _ => h, ⟨fun _ _ _ h _ => h, trivial⟩⟩⟩⟩⟩⟩⟩⟩⟩⟩ ⟨fun w6 hc7 => by have hS := hS.chg0 hc7; exact Sv_val rfl (R_move rfl rfl) ⟨Chg.refl _ _, rfl⟩, ⟨fun w6 hc7 => by have hS := hS.chg0 hc7; exact Sv_val rfl (R_move rfl rfl) ⟨Chg.refl _ _, rfl⟩, ⟨fun w6 hc7 => by have hS := hS.chg0 hc7; rintro _ rfl _ rfl; exact Sv_val rfl (R_idx rfl rfl hAq4 rfl Try.underlying22 size31 (by omega) (by omega)) ⟨Chg.refl _ _, rfl⟩, ⟨fun w6 hc7 => by have hS := hS.chg0 hc7; rintro _ rfl; exact Sv_val rfl (R_load1 rfl rfl agg31 (hS.sub.cell (hkq4 0 _ rfl))) ⟨Chg.refl _ _, rfl⟩, ⟨fun w6 hc7 => by have hS := hS.chg0 hc7; rintro _ rfl; exact Sv_val rfl (R_len rfl rfl Try.underlying31) ⟨Chg.refl _ _, rfl⟩, ⟨fun w6 hc7 => by have hS := hS.chg0 hc7; exact Sv_val rfl (R_move rfl rfl) ⟨Chg.refl _ _, rfl⟩, ⟨fun w6 hc7 => by have hS := hS.chg0 hc7; rintro _ rfl; exact Sv_val rfl (R_idx rfl rfl hAq5 rfl Try.underlying22 size31 (by omega) (by omega)) ⟨Chg.refl _ _, rfl⟩, ⟨fun w6 hc7 => by have hS := hS.chg0 hc7; rintro _ rfl; exact Sv_val rfl (R_load1 rfl rfl agg31 (hS.sub.cell (hkq5 0 _ rfl))) ⟨Chg.refl _ _, rfl⟩, ⟨fun w6 hc7 => by have hS := hS.chg0 hc7; rintro _ rfl; exact Sv_val rfl (R_len rfl rfl Try.underlying31) ⟨Chg.refl _ _, rfl⟩, ⟨fun w6 hc7 => by have hS := hS.chg0 hc7; rintro _ rfl _ rfl; exact Sv_val rfl (R_bin rfl rfl rfl rfl rfl) ⟨Chg.refl _ _, rfl⟩, trivial⟩⟩⟩⟩⟩⟩⟩⟩⟩⟩ ?_
    intro w6 hc7
    have hS := hS.chg0 hc7
    rintro _ rfl _ rfl _ rfl _ rfl _ rfl _ rfl _ rfl _ rfl _ rfl _ rfl
    refine An_fr [(0, .slice Aa0 a0.length ca0), (3, .int .i64 (i : Int)), (31, .bool (((a0.getD i []).length : Int) != ((a0.getD 0 []).length : Int)))] rfl ?_
    refine An_done (by decide +kernel) ?_
    refine E_then ?_
    refine C_ite rfl (fun hC2 => ?_) (fun hC2 => ?_)
    ·have _hC2 := trivial
     have hC2p : ¬ ((a0.getD i []).length : Int) = ((a0.getD 0 []).length : Int) := by simpa using hC2
     refine C_seq ?_
     refine C_region ?_
     refine W_cons rfl (by decide) (Sv_val rfl (R_assign rfl rfl) ?_)
     refine W_nil ?_
     refine E_then ?_
     refine C_ret ?_
     refine E_block_ret ?_
     refine E_then_ret ?_
     refine E_then_ret ?_
     refine E_block_ret ?_
     refine E_then_ret ?_
     refine E_ret1 rfl rfl ?_
     exact ⟨Lret1 (Lint (show 1 = checkS a0 by first | exact (chk1 (by first | exact .inl (by omega) | exact .inr (by omega))).symm | exact (chk2 (i := i) (by omega) (by omega)).symm | exact (chk3 (by omega) (n := ((a0.getD 0 []).length : Int)) (by omega) (eq_all (i := i) (by omega) hI0_1) (by omega)).symm | exact (chk4 (i := i2) (k := k) (n := ((a0.getD 0 []).length : Int)) (by omega) (eq_all (i := i) (by omega) hI0_1) (by omega) (by omega) (by omega)).symm | exact (chk5 (i := i2) (n := ((a0.getD 0 []).length : Int)) (by omega) (by omega) (eq_all (i := i) (by omega) hI0_1) (by omega) hI1_1 (by omega) (by omega)).symm)), hS.fin [] (by decide) rfl⟩
    ·have _hC2 := trivial
     have hC2p : ((a0.getD i []).length : Int) = ((a0.getD 0 []).length : Int) := by simpa using hC2
     refine C_skip ?_
     refine E_block_normal ?_
     refine E_then ?_
     refine C_region ?_
     refine W_cons rfl (by decide) (Sv_val rfl (R_move rfl rfl) ?_)
     refine W_cons rfl (by decide) (Sv_val rfl (R_add64 rfl rfl rfl (by omega) (by omega)) ?_)
     refine W_cons rfl (by decide) (Sv_val rfl (R_assign rfl rfl) ?_)
     refine W_nil ?_
     refine E_round [0, 3] ?_ ⟨(i + 1 : Nat), rfl, (by omega), (by exact take_any [] (by omega) hI0_1 (by assumption)), rfl, hS.fin [] (by decide) rfl⟩
     omega
   ·have _hC1 := trivial
    have hC1p : ¬ ((i : Int) < (a0.length : Int)) := by simpa using hC1
    refine C_exit ?_
    refine E_then_exit ?_
    refine E_then_exit ?_
    refine E_block_hit ?_
    refine E_then (C_fr [(0, .slice Aa0 a0.length ca0)] rfl ?_)
    refine C_seq ?_
    refine C_seq ?_
    refine C_region ?_
    refine W_cons rfl (by decide) (Sv_val rfl (R_move rfl rfl) ?_)
    refine W_cons rfl (by decide) (Sv_val rfl (R_len rfl rfl Try.underlying22) ?_)
    refine W_cons rfl (by decide) (Sv_val rfl (R_bin rfl rfl rfl rfl rfl) ?_)
    refine W_cons rfl (by decide) (Sv_val rfl (R_move rfl rfl) ?_)
    refine W_split (t := 35) rfl (fun hg8 => ?_) (fun hg8 => ?_)
    ·have _hg8 := trivial
     have hg8p : (a0.length : Int) > 24 := by simpa using hg8
     refine W_cons rfl (by decide) (Sv_off rfl rfl rfl (by rw [hg8] <;> rfl) ?_)
     refine W_cons rfl (by decide) (Sv_off rfl rfl rfl (by rw [hg8] <;> rfl) ?_)
     refine W_cons rfl (by decide) (Sv_off rfl rfl rfl (by rw [hg8] <;> rfl) ?_)
     refine W_cons rfl (by decide) (Sv_off rfl rfl rfl (by rw [hg8] <;> rfl) ?_)
     refine W_cons rfl (by decide) (Sv_off rfl rfl rfl (by rw [hg8] <;> rfl) ?_)
     refine W_cons rfl (by decide) (Sv_val rfl (R_pick_t rfl rfl hg8 rfl) ?_)
     refine W_nil ?_
     refine E_then (C_fr [(0, .slice Aa0 a0.length ca0), (41, .bool true)] rfl ?_)
     refine C_if rfl rfl ?_
     refine C_seq ?_
     refine C_region ?_
     refine W_cons rfl (by decide) (Sv_val rfl (R_assign rfl rfl) ?_)
     refine W_nil ?_
     refine E_then ?_
     refine C_ret ?_
     refine E_then_ret ?_
     refine E_ret1 rfl rfl ?_
     exact ⟨Lret1 (Lint (show 3 = checkS a0 by first | exact (chk1 (by first | exact .inl (by omega) | exact .inr (by omega))).symm | exact (chk2 (i := i) (by omega) (by omega)).symm | exact (chk3 (by omega) (n := ((a0.getD 0 []).length : Int)) (by omega) (eq_all (i := i) (by omega) hI0_1) (by omega)).symm | exact (chk4 (i := i2) (k := k) (n := ((a0.getD 0 []).length : Int)) (by omega) (eq_all (i := i) (by omega) hI0_1) (by omega) (by omega) (by omega)).symm | exact (chk5 (i := i2) (n := ((a0.getD 0 []).length : Int)) (by omega) (by omega) (eq_all (i := i) (by omega) hI0_1) (by omega) hI1_1 (by omega) (by omega)).symm)), hS.fin [] (by decide) rfl⟩
    ·have _hg8 := trivial
     have hg8p : ¬ ((a0.length : Int) > 24) := by simpa using hg8
     refine W_cons rfl (by decide) (Sv_gt rfl rfl rfl hg8 (Sv_val rfl (R_move rfl rfl) ?_))
     obtain ⟨q9, csq9, hAq9, ⟨Aq9, cq9, rfl, hcq9, hrq9⟩, hkq9⟩ := hra0.at_ [] (i := 0) (by omega) (by omega)
     have hkq9 : ∀ (j_ : Nat) (u_ : Value), ([.slice Aq9 (a0.getD 0 []).length cq9] : List Value)[j_]? = some u_ → cz z (q9.add (0 * 1 + j_)) = some u_ := hkq9
     have hrq9 : Rd kstr z Aq9 ((a0.getD 0 [])) := hrq9
     have hcq9 : Cap Aq9 ((a0.getD 0 [])).length cq9 := hcq9
     have hlq9 := hcq9.le
     have hmq9 := hcq9.mx
     refine W_cons rfl (by decide) (Sv_gt rfl rfl rfl hg8 (Sv_val rfl (R_idx rfl rfl hAq9 rfl Try.underlying22 size31 (by omega) (by omega)) ?_))
     refine W_cons rfl (by decide) (Sv_gt rfl rfl rfl hg8 (Sv_val rfl (R_load1 rfl rfl agg31 (hS.sub.cell (hkq9 0 _ rfl))) ?_))
     refine W_cons rfl (by decide) (Sv_gt rfl rfl rfl hg8 (Sv_val rfl (R_len rfl rfl Try.underlying31) ?_))
     refine W_cons rfl (by decide) (Sv_gt rfl rfl rfl hg8 (Sv_val rfl (R_bin rfl rfl rfl rfl rfl) ?_))
     refine W_cons rfl (by decide) (Sv_val rfl (R_pick_f rfl rfl hg8 rfl) ?_)
     refine W_nil ?_
     refine E_then (C_fr [(0, .slice Aa0 a0.length ca0), (41, .bool (decide (((a0.getD 0 []).length : Int) > 16)))] rfl ?_)
     refine C_ite rfl (fun hC3 => ?_) (fun hC3 => ?_)
     ·have _hC3 := trivial
      have hC3p : ((a0.getD 0 []).length : Int) > 16 := by simpa using hC3
      refine C_seq ?_
      refine C_region ?_
      refine W_cons rfl (by decide) (Sv_val rfl (R_assign rfl rfl) ?_)
      refine W_nil ?_
      refine E_then ?_
      refine C_ret ?_
      refine E_then_ret ?_
      refine E_ret1 rfl rfl ?_
      exact ⟨Lret1 (Lint (show 3 = checkS a0 by first | exact (chk1 (by first | exact .inl (by omega) | exact .inr (by omega))).symm | exact (chk2 (i := i) (by omega) (by omega)).symm | exact (chk3 (by omega) (n := ((a0.getD 0 []).length : Int)) (by omega) (eq_all (i := i) (by omega) hI0_1) (by omega)).symm | exact (chk4 (i := i2) (k := k) (n := ((a0.getD 0 []).length : Int)) (by omega) (eq_all (i := i) (by omega) hI0_1) (by omega) (by omega) (by omega)).symm | exact (chk5 (i := i2) (n := ((a0.getD 0 []).length : Int)) (by omega) (by omega) (eq_all (i := i) (by omega) hI0_1) (by omega) hI1_1 (by omega) (by omega)).symm)), hS.fin [] (by decide) rfl⟩
     ·have _hC3 := trivial
      have hC3p : ¬ (((a0.getD 0 []).length : Int) > 16) := by simpa using hC3
      refine C_skip ?_
      refine E_then ?_
      refine C_seq ?_
      refine C_seq ?_
      refine C_region ?_
      refine W_cons rfl (by decide) (Sv_val rfl (R_assign rfl rfl) ?_)
      refine W_nil ?_
      refine E_then ?_
      refine C_block ?_
      refine C_fr [(0, .slice Aa0 a0.length ca0), (4, .int .i64 0)] rfl ?_
      refine C_loop (fun m_ f_ w_ => ∃ (i2 : Nat), f_ = [(0, .slice Aa0 a0.length ca0), (4, .int .i64 (i2 : Int))] ∧ i2 ≤ a0.length ∧ (a0.take i2).any (fun r => r.any longS) = false ∧ m_ = a0.length - i2 ∧ Sp (FF []) w z w_ []) (a0.length - (0 : Nat)) ⟨(0 : Nat), rfl, (by omega), (by rfl), rfl, hS.fin [] (by decide) rfl⟩ ?_
      rintro m_ f_ w10 ⟨i2, rfl, hI1_0, hI1_1, rfl, hS⟩
      refine C_seq ?_
      refine C_seq ?_
      refine C_region ?_
      refine W_cons rfl (by decide) (Sv_val rfl (R_move rfl rfl) ?_)
      refine W_cons rfl (by decide) (Sv_val rfl (R_move rfl rfl) ?_)
      refine W_cons rfl (by decide) (Sv_val rfl (R_len rfl rfl Try.underlying22) ?_)
      refine W_cons rfl (by decide) (Sv_val rfl (R_bin rfl rfl rfl rfl rfl) ?_)
      refine W_nil ?_
      refine E_then ?_
      refine C_ite rfl (fun hC4 => ?_) (fun hC4 => ?_)
      ·have _hC4 := trivial
       have hC4p : (i2 : Int) < (a0.length : Int) := by simpa using hC4
       refine C_skip ?_
       refine E_then ?_
       refine C_seq ?_
       refine C_block ?_
       refine C_seq ?_
       refine C_region ?_
       refine W_cons rfl (by decide) (Sv_val rfl (R_assign rfl rfl) ?_)
       refine W_nil ?_
       refine E_then ?_
       refine C_block ?_
       refine C_fr [(0, .slice Aa0 a0.length ca0), (4, .int .i64 (i2 : Int)), (5, .int .i64 0)] rfl ?_
       refine C_loop (fun m_ f_ w_ => ∃ (k : Nat), f_ = [(0, .slice Aa0 a0.length ca0), (4, .int .i64 (i2 : Int)), (5, .int .i64 (k : Int))] ∧ k ≤ (a0.getD i2 []).length ∧ ((a0.getD i2 []).take k).any longS = false ∧ m_ = (a0.getD i2 []).length - k ∧ Sp (FF []) w z w_ []) ((a0.getD i2 []).length - (0 : Nat)) ⟨(0 : Nat), rfl, (by omega), (by rfl), rfl, hS.fin [] (by decide) rfl⟩ ?_
       rintro m_ f_ w11 ⟨k, rfl, hI2_0, hI2_1, rfl, hS⟩
       refine C_seq ?_
       refine C_seq ?_
       refine C_region ?_
       refine W_cons rfl (by decide) (Sv_val rfl (R_move rfl rfl) ?_)
       refine W_cons rfl (by decide) (Sv_val rfl (R_move rfl rfl) ?_)
       refine W_cons rfl (by decide) (Sv_val rfl (R_move rfl rfl) ?_)
       obtain ⟨q12, csq12, hAq12, ⟨Aq12, cq12, rfl, hcq12, hrq12⟩, hkq12⟩ := hra0.at_ [] (i := (i2 : Int)) (by omega) (by omega)
       have hkq12 : ∀ (j_ : Nat) (u_ : Value), ([.slice Aq12 (a0.getD i2 []).length cq12] : List Value)[j_]? = some u_ → cz z (q12.add (i2 * 1 + j_)) = some u_ := hkq12
       have hrq12 : Rd kstr z Aq12 ((a0.getD i2 [])) := hrq12
       have hcq12 : Cap Aq12 ((a0.getD i2 [])).length cq12 := hcq12
       have hlq12 := hcq12.le
       have hmq12 := hcq12.mx
       refine W_cons rfl (by decide) (Sv_val rfl (R_idx rfl rfl hAq12 rfl Try.underlying22 size31 (by omega) (by omega)) ?_)
       refine W_cons rfl (by decide) (Sv_val rfl (R_load1 rfl rfl agg31 (hS.sub.cell (hkq12 0 _ rfl))) ?_)
       refine W_cons rfl (by decide) (Sv_val rfl (R_len rfl rfl Try.underlying31) ?_)
       refine W_cons rfl (by decide) (Sv_val rfl (R_bin rfl rfl rfl rfl rfl) ?_)
       refine W_nil ?_
       refine E_then (C_fr [(0, .slice Aa0 a0.length ca0), (4, .int .i64 (i2 : Int)), (5, .int .i64 (k : Int)), (54, .bool (decide ((k : Int) < ((a0.getD i2 []).length : Int))))] rfl ?_)
       refine C_ite rfl (fun hC5 => ?_) (fun hC5 => ?_)
       ·have _hC5 := trivial
        have hC5p : (k : Int) < ((a0.getD i2 []).length : Int) := by simpa using hC5
        refine C_skip ?_
        refine E_then ?_
        refine C_seq ?_
        refine C_block ?_
        refine C_seq ?_
        refine C_region ?_
        refine W_cons rfl (by decide) (Sv_val rfl (R_move rfl rfl) ?_)
        refine W_cons rfl (by decide) (Sv_val rfl (R_move rfl rfl) ?_)
        obtain ⟨q13, csq13, hAq13, ⟨Aq13, cq13, rfl, hcq13, hrq13⟩, hkq13⟩ := hra0.at_ [] (i := (i2 : Int)) (by omega) (by omega)
        have hkq13 : ∀ (j_ : Nat) (u_ : Value), ([.slice Aq13 (a0.getD i2 []).length cq13] : List Value)[j_]? = some u_ → cz z (q13.add (i2 * 1 + j_)) = some u_ := hkq13
        have hrq13 : Rd kstr z Aq13 ((a0.getD i2 [])) := hrq13
        have hcq13 : Cap Aq13 ((a0.getD i2 [])).length cq13 := hcq13
        have hlq13 := hcq13.le
        have hmq13 := hcq13.mx
        refine W_cons rfl (by decide) (Sv_val rfl (R_idx rfl rfl hAq13 rfl Try.underlying22 size31 (by omega) (by omega)) ?_)
        refine W_cons rfl (by decide) (Sv_val rfl (R_load1 rfl rfl agg31 (hS.sub.cell (hkq13 0 _ rfl))) ?_)
        refine W_cons rfl (by decide) (Sv_val rfl (R_move rfl rfl) ?_)
        obtain ⟨q14, csq14, hAq14, rfl, hkq14⟩ := hrq13.at_ ([] : St) (i := (k : Int)) (by omega) (by omega)
        have hkq14 : ∀ (j_ : Nat) (u_ : Value), ([vstr ((a0.getD i2 []).getD k ([] : St))] : List Value)[j_]? = some u_ → cz z (q14.add (k * 1 + j_)) = some u_ := hkq14
        refine W_cons rfl (by decide) (Sv_val rfl (R_idx rfl rfl hAq14 rfl Try.underlying31 size9 (by omega) (by omega)) ?_)
        refine W_cons rfl (by decide) (Sv_val rfl (R_load1 rfl rfl agg9 (hS.sub.cell (hkq14 0 _ rfl))) ?_)
        refine W_cons rfl (by decide) (Sv_val rfl (R_strlen rfl rfl Try.underlying9) ?_)
        refine W_cons rfl (by decide) (Sv_val rfl (R_bin rfl rfl rfl rfl rfl) ?_)
        refine W_nil ?_
        refine E_then (C_fr [(0, .slice Aa0 a0.length ca0), (4, .int .i64 (i2 : Int)), (5, .int .i64 (k : Int)), (65, .bool (decide ((((a0.getD i2 []).getD k ([] : St)).length : Int) > 1024)))] rfl ?_)
        refine C_ite rfl (fun hC6 => ?_) (fun hC6 => ?_)
        ·have _hC6 := trivial
         have hC6p : (((a0.getD i2 []).getD k ([] : St)).length : Int) > 1024 := by simpa using hC6
         refine C_seq ?_
         refine C_region ?_
         refine W_cons rfl (by decide) (Sv_val rfl (R_assign rfl rfl) ?_)
         refine W_nil ?_
         refine E_then ?_
         refine C_ret ?_
         refine E_block_ret ?_
         refine E_then_ret ?_
         refine E_then_ret ?_
         refine E_block_ret ?_
         refine E_block_ret ?_
         refine E_then_ret ?_
         refine E_then_ret ?_
         refine E_block_ret ?_
         refine E_then_ret ?_
         refine E_ret1 rfl rfl ?_
         exact ⟨Lret1 (Lint (show 3 = checkS a0 by first | exact (chk1 (by first | exact .inl (by omega) | exact .inr (by omega))).symm | exact (chk2 (i := i) (by omega) (by omega)).symm | exact (chk3 (by omega) (n := ((a0.getD 0 []).length : Int)) (by omega) (eq_all (i := i) (by omega) hI0_1) (by omega)).symm | exact (chk4 (i := i2) (k := k) (n := ((a0.getD 0 []).length : Int)) (by omega) (eq_all (i := i) (by omega) hI0_1) (by omega) (by omega) (by omega)).symm | exact (chk5 (i := i2) (n := ((a0.getD 0 []).length : Int)) (by omega) (by omega) (eq_all (i := i) (by omega) hI0_1) (by omega) hI1_1 (by omega) (by omega)).symm)), hS.fin [] (by decide) rfl⟩
        ·have _hC6 := trivial
         have hC6p : ¬ ((((a0.getD i2 []).getD k ([] : St)).length : Int) > 1024) := by simpa using hC6
         refine C_skip ?_
         refine E_block_normal ?_
         refine E_then ?_
         refine C_region ?_
         refine W_cons rfl (by decide) (Sv_val rfl (R_move rfl rfl) ?_)
         refine W_cons rfl (by decide) (Sv_val rfl (R_add64 rfl rfl rfl (by omega) (by omega)) ?_)
         refine W_cons rfl (by decide) (Sv_val rfl (R_assign rfl rfl) ?_)
         refine W_nil ?_
         refine E_round [0, 4, 5] ?_ ⟨(k + 1 : Nat), rfl, (by omega), (by exact take_any [] (by omega) hI2_1 (by assumption)), rfl, hS.fin [] (by decide) rfl⟩
         omega
       ·have _hC5 := trivial
        have hC5p : ¬ ((k : Int) < ((a0.getD i2 []).length : Int)) := by simpa using hC5
        refine C_exit ?_
        refine E_then_exit ?_
        refine E_then_exit ?_
        refine E_block_hit ?_
        refine E_block_normal ?_
        refine E_then ?_
        refine C_region ?_
        refine W_cons rfl (by decide) (Sv_val rfl (R_move rfl rfl) ?_)
        refine W_cons rfl (by decide) (Sv_val rfl (R_add64 rfl rfl rfl (by omega) (by omega)) ?_)
        refine W_cons rfl (by decide) (Sv_val rfl (R_assign rfl rfl) ?_)
        refine W_nil ?_
        refine E_round [0, 4] ?_ ⟨(i2 + 1 : Nat), rfl, (by omega), (by exact take_any [] (by omega) hI1_1 (any_all (by omega) hI2_1)), rfl, hS.fin [] (by decide) rfl⟩
        omega
      ·have _hC4 := trivial
       have hC4p : ¬ ((i2 : Int) < (a0.length : Int)) := by simpa using hC4
       refine C_exit ?_
       refine E_then_exit ?_
       refine E_then_exit ?_
       refine E_block_hit ?_
       refine E_then (C_fr [] rfl ?_)
       refine C_seq ?_
       refine C_region ?_
       refine W_cons rfl (by decide) (Sv_val rfl (R_assign rfl rfl) ?_)
       refine W_nil ?_
       refine E_then ?_
       refine C_ret ?_
       refine E_ret1 rfl rfl ?_
       exact ⟨Lret1 (Lint (show 0 = checkS a0 by first | exact (chk1 (by first | exact .inl (by omega) | exact .inr (by omega))).symm | exact (chk2 (i := i) (by omega) (by omega)).symm | exact (chk3 (by omega) (n := ((a0.getD 0 []).length : Int)) (by omega) (eq_all (i := i) (by omega) hI0_1) (by omega)).symm | exact (chk4 (i := i2) (k := k) (n := ((a0.getD 0 []).length : Int)) (by omega) (eq_all (i := i) (by omega) hI0_1) (by omega) (by omega) (by omega)).symm | exact (chk5 (i := i2) (n := ((a0.getD 0 []).length : Int)) (by omega) (by omega) (eq_all (i := i) (by omega) hI0_1) (by omega) hI1_1 (by omega) (by omega)).symm)), hS.fin [] (by decide) rfl⟩

set_option maxHeartbeats 400000 in
set_option maxRecDepth 20000 in
theorem tawake_calls  (z : Z) (w : World) (hI : In z w [])   :
    Calls Try.prog 13 #[] w fun e w' => e = .returned (.bool true) ∧ Sp (FF []) w z w' [] := by
 have hS := hI.sp
 refine Calls_of (vs := []) (N := 38) Try.func13 rfl rfl (Nat.le_of_ble_eq_true rfl) ?_
 refine C_seq ?_
 refine C_region ?_
 refine W_cons rfl (by decide) (Sv_val rfl (R_assign rfl rfl) ?_)
 refine W_nil ?_
 refine E_then ?_
 refine C_seq ?_
 refine C_region ?_
 refine W_cons rfl (by decide) (S_row (d := kstr) (q := zE) hS ([[97], [98]] : List St) rfl (R_buildSlice (ps := [(0, (.const (.string { data := #[97] }))), (1, (.const (.string { data := #[98] })))]) (vs := [vstr [97], vstr [98]]) (w' := w.alloc (.cells [vstr [97], vstr [98]].toArray 9)) (r := .slice (some ⟨w.heap.size, 0, none⟩) 2 2) rfl rfl rfl (by kernel_rfl)) (by simp [Reps, flat, kstr]) rfl (by decide) (fun g2 w1 hS => ?_))
 refine W_cons rfl (by decide) (S_row (d := kstr) (q := zE) hS ([[99]] : List St) rfl (R_buildSlice (ps := [(0, (.const (.string { data := #[99] })))]) (vs := [vstr [99]]) (w' := w1.alloc (.cells [vstr [99]].toArray 9)) (r := .slice (some ⟨w1.heap.size, 0, none⟩) 1 1) rfl rfl rfl (by kernel_rfl)) (by simp [Reps, flat, kstr]) rfl (by decide) (fun g4 w3 hS => ?_))
 obtain ⟨z7, hS⟩ := hS.famx
 have hcz8 := hS.cap 2 rfl
 obtain ⟨z8, hlez8, hrz8, hS⟩ := hS.fz 2 0 rfl rfl (by decide) (zle_E _)
 have hcz9 := hS.cap 1 rfl
 obtain ⟨z9, hlez9, hrz9, hS⟩ := hS.fz 1 0 rfl rfl (by decide) (zle_E _)
 have hrz8 := hrz8.mono hlez9
 refine W_cons rfl (by decide) (S_row (d := (kslice kstr)) (q := z9) hS ([([[97], [98]] : List St), ([[99]] : List St)] : List (List St)) rfl (R_buildSlice (ps := [(0, (.tmp 2)), (1, (.tmp 3))]) (vs := [.slice (some ⟨g2, 0, none⟩) ([[97], [98]] : List St).length 2, .slice (some ⟨g4, 0, none⟩) ([[99]] : List St).length 1]) (w' := w3.alloc (.cells [.slice (some ⟨g2, 0, none⟩) ([[97], [98]] : List St).length 2, .slice (some ⟨g4, 0, none⟩) ([[99]] : List St).length 1].toArray 31)) (r := .slice (some ⟨w3.heap.size, 0, none⟩) 2 2) rfl rfl rfl (by kernel_rfl)) ⟨_, _, rfl, ⟨_, _, rfl, hcz8, hrz8⟩, ⟨_, _, rfl, ⟨_, _, rfl, hcz9, hrz9⟩, rfl⟩⟩ rfl (by decide) (fun g6 w5 hS => ?_))
 refine W_cons rfl (by decide) (Sv_val rfl (R_assign rfl rfl) ?_)
 refine W_nil ?_
 refine E_then ?_
 refine C_seq ?_
 refine C_region ?_
 refine W_cons rfl (by decide) (Sv_val rfl (R_move rfl rfl) ?_)
 refine W_cons rfl (by decide) (Sv_call rfl rfl rfl ent14 ?_)
 refine (width_calls ([([[97], [98]] : List St), ([[99]] : List St)] : List (List St)) (some ⟨g6, 0, none⟩) 2 _ _ hS.out0 (hS.ow [] 0 rfl rfl (hS.zq [] 1 rfl rfl)) (hS.cap 0 rfl) ).mono ?_
 rintro e_ w10 ⟨rfl, hS_⟩
 refine ⟨_, rfl, ?_⟩
 have hS := hS.call0 hS_
 refine W_cons rfl (by decide) (Sv_val rfl (R_bin rfl rfl rfl rfl rfl) ?_)
 refine W_cons rfl (by decide) (Sv_val rfl (R_move rfl rfl) ?_)
 have hk12 : (((widthS ([([[97], [98]] : List St), ([[99]] : List St)] : List (List St))) == 2)) = true := by decide +kernel
 have hk12p : (widthS ([([[97], [98]] : List St), ([[99]] : List St)] : List (List St))) = 2 := by simpa using hk12
 refine W_cons rfl (by decide) (Sv_gt rfl rfl rfl hk12 (Sv_val rfl (R_move rfl rfl) ?_))
 refine W_cons rfl (by decide) (Sv_gt rfl rfl rfl hk12 (Sv_call rfl rfl rfl ent16 ?_))
 refine (tcheck_calls ([([[97], [98]] : List St), ([[99]] : List St)] : List (List St)) (some ⟨g6, 0, none⟩) 2 _ _ hS.out0 (hS.ow [] 0 rfl rfl (hS.zq [] 1 rfl rfl)) (hS.cap 0 rfl) (by decide) (by decide)).mono ?_
 rintro e_ w13 ⟨rfl, hS_⟩
 refine ⟨_, rfl, ?_⟩
 have hS := hS.call0 hS_
 refine W_cons rfl (by decide) (Sv_gt rfl rfl rfl hk12 (Sv_val rfl (R_bin rfl rfl rfl rfl rfl) ?_))
 refine W_cons rfl (by decide) (Sv_val rfl (R_pick_t rfl rfl hk12 rfl) ?_)
 refine W_cons rfl (by decide) (Sv_val rfl (R_move rfl rfl) ?_)
 have hk15 : (((checkS ([([[97], [98]] : List St), ([[99]] : List St)] : List (List St))) == 1)) = true := by decide +kernel
 have hk15p : (checkS ([([[97], [98]] : List St), ([[99]] : List St)] : List (List St))) = 1 := by simpa using hk15
 refine W_cons rfl (by decide) (Sv_gt rfl rfl rfl hk15 (Sv_val rfl (R_move rfl rfl) ?_))
 refine W_cons rfl (by decide) (Sv_gt rfl rfl rfl hk15 (Sv_call rfl rfl rfl ent19 ?_))
 refine (fill_calls ([([[97], [98]] : List St), ([[99]] : List St)] : List (List St)) (some ⟨g6, 0, none⟩) 2 _ _ hS.out0 (hS.ow [] 0 rfl rfl (hS.zq [] 1 rfl rfl)) (hS.cap 0 rfl) (by decide) (by decide)).mono ?_
 rintro e_ w16 ⟨AR0_17, cR0_17, qR0_17, rfl, hS_⟩
 refine ⟨_, rfl, ?_⟩
 have hS := hS.call0 hS_
 have hp18 := hS.cap 1 rfl
 have hlhp18 := hp18.le
 have hmhp18 := hp18.mx
 refine W_cons rfl (by decide) (Sv_gt rfl rfl rfl hk15 (S_row (d := kstr) (q := zE) hS ([[97], [98]] : List St) rfl (R_buildSlice (ps := [(0, (.const (.string { data := #[97] }))), (1, (.const (.string { data := #[98] })))]) (vs := [vstr [97], vstr [98]]) (w' := w16.alloc (.cells [vstr [97], vstr [98]].toArray 9)) (r := .slice (some ⟨w16.heap.size, 0, none⟩) 2 2) rfl rfl rfl (by kernel_rfl)) (by simp [Reps, flat, kstr]) rfl (by decide) (fun g20 w19 hS => ?_)))
 refine W_cons rfl (by decide) (Sv_gt rfl rfl rfl hk15 (S_row (d := kstr) (q := zE) hS ([[99], []] : List St) rfl (R_buildSlice (ps := [(0, (.const (.string { data := #[99] }))), (1, (.const (.string { data := #[] })))]) (vs := [vstr [99], vstr []]) (w' := w19.alloc (.cells [vstr [99], vstr []].toArray 9)) (r := .slice (some ⟨w19.heap.size, 0, none⟩) 2 2) rfl rfl rfl (by kernel_rfl)) (by simp [Reps, flat, kstr]) rfl (by decide) (fun g22 w21 hS => ?_)))
 obtain ⟨z25, hS⟩ := hS.famx
 have hcz26 := hS.cap 2 rfl
 obtain ⟨z26, hlez26, hrz26, hS⟩ := hS.fz 2 0 rfl rfl (by decide) (zle_E _)
 have hcz27 := hS.cap 1 rfl
 obtain ⟨z27, hlez27, hrz27, hS⟩ := hS.fz 1 0 rfl rfl (by decide) (zle_E _)
 have hrz26 := hrz26.mono hlez27
 refine W_cons rfl (by decide) (Sv_gt rfl rfl rfl hk15 (S_row (d := (kslice kstr)) (q := z27) hS ([([[97], [98]] : List St), ([[99], []] : List St)] : List (List St)) rfl (R_buildSlice (ps := [(0, (.tmp 16)), (1, (.tmp 17))]) (vs := [.slice (some ⟨g20, 0, none⟩) ([[97], [98]] : List St).length 2, .slice (some ⟨g22, 0, none⟩) ([[99], []] : List St).length 2]) (w' := w21.alloc (.cells [.slice (some ⟨g20, 0, none⟩) ([[97], [98]] : List St).length 2, .slice (some ⟨g22, 0, none⟩) ([[99], []] : List St).length 2].toArray 31)) (r := .slice (some ⟨w21.heap.size, 0, none⟩) 2 2) rfl rfl rfl (by kernel_rfl)) ⟨_, _, rfl, ⟨_, _, rfl, hcz26, hrz26⟩, ⟨_, _, rfl, ⟨_, _, rfl, hcz27, hrz27⟩, rfl⟩⟩ rfl (by decide) (fun g24 w23 hS => ?_)))
 refine W_cons rfl (by decide) (Sv_gt rfl rfl rfl hk15 (Sv_call rfl rfl rfl ent22 ?_))
 refine (same_calls (fillS ([([[97], [98]] : List St), ([[99]] : List St)] : List (List St))) AR0_17 cR0_17 ([([[97], [98]] : List St), ([[99], []] : List St)] : List (List St)) (some ⟨g24, 0, none⟩) 2 _ _ hS.out0 (hS.ow [] 3 rfl rfl (hS.zq [] 2 rfl rfl)) (hS.cap 3 rfl) (hS.ow [] 0 rfl rfl (hS.zq [] 1 rfl rfl)) (hS.cap 0 rfl) ).mono ?_
 rintro e_ w28 ⟨rfl, hS_⟩
 refine ⟨_, rfl, ?_⟩
 have hS := hS.call0 hS_
 refine W_cons rfl (by decide) (Sv_val rfl (R_pick_t rfl rfl hk15 rfl) ?_)
 refine W_cons rfl (by decide) (Sv_val rfl (R_move rfl rfl) ?_)
 have hk30 : (decide ((fillS ([([[97], [98]] : List St), ([[99]] : List St)] : List (List St))) = ([([[97], [98]] : List St), ([[99], []] : List St)] : List (List St)))) = true := by decide +kernel
 refine W_cons rfl (by decide) (Sv_gt rfl rfl rfl hk30 (Sv_val rfl (R_move rfl rfl) ?_))
 refine W_cons rfl (by decide) (Sv_gt rfl rfl rfl hk30 (Sv_call rfl rfl rfl ent21 ?_))
 refine (turn_calls ([([[97], [98]] : List St), ([[99]] : List St)] : List (List St)) (some ⟨g6, 0, none⟩) 2 _ _ hS.out0 (hS.ow [] 4 rfl rfl (hS.zq [] 5 rfl rfl)) (hS.cap 4 rfl) (by decide) (by decide)).mono ?_
 rintro e_ w31 ⟨AR0_32, cR0_32, qR0_32, rfl, hS_⟩
 refine ⟨_, rfl, ?_⟩
 have hS := hS.call0 hS_
 have hp33 := hS.cap 1 rfl
 have hlhp33 := hp33.le
 have hmhp33 := hp33.mx
 refine W_cons rfl (by decide) (Sv_gt rfl rfl rfl hk30 (S_row (d := kstr) (q := zE) hS ([[97], [99]] : List St) rfl (R_buildSlice (ps := [(0, (.const (.string { data := #[97] }))), (1, (.const (.string { data := #[99] })))]) (vs := [vstr [97], vstr [99]]) (w' := w31.alloc (.cells [vstr [97], vstr [99]].toArray 9)) (r := .slice (some ⟨w31.heap.size, 0, none⟩) 2 2) rfl rfl rfl (by kernel_rfl)) (by simp [Reps, flat, kstr]) rfl (by decide) (fun g35 w34 hS => ?_)))
 refine W_cons rfl (by decide) (Sv_gt rfl rfl rfl hk30 (S_row (d := kstr) (q := zE) hS ([[98], []] : List St) rfl (R_buildSlice (ps := [(0, (.const (.string { data := #[98] }))), (1, (.const (.string { data := #[] })))]) (vs := [vstr [98], vstr []]) (w' := w34.alloc (.cells [vstr [98], vstr []].toArray 9)) (r := .slice (some ⟨w34.heap.size, 0, none⟩) 2 2) rfl rfl rfl (by kernel_rfl)) (by simp [Reps, flat, kstr]) rfl (by decide) (fun g37 w36 hS => ?_)))
 obtain ⟨z40, hS⟩ := hS.famx
 have hcz41 := hS.cap 2 rfl
 obtain ⟨z41, hlez41, hrz41, hS⟩ := hS.fz 2 0 rfl rfl (by decide) (zle_E _)
 have hcz42 := hS.cap 1 rfl
 obtain ⟨z42, hlez42, hrz42, hS⟩ := hS.fz 1 0 rfl rfl (by decide) (zle_E _)
 have hrz41 := hrz41.mono hlez42
 refine W_cons rfl (by decide) (Sv_gt rfl rfl rfl hk30 (S_row (d := (kslice kstr)) (q := z42) hS ([([[97], [99]] : List St), ([[98], []] : List St)] : List (List St)) rfl (R_buildSlice (ps := [(0, (.tmp 24)), (1, (.tmp 25))]) (vs := [.slice (some ⟨g35, 0, none⟩) ([[97], [99]] : List St).length 2, .slice (some ⟨g37, 0, none⟩) ([[98], []] : List St).length 2]) (w' := w36.alloc (.cells [.slice (some ⟨g35, 0, none⟩) ([[97], [99]] : List St).length 2, .slice (some ⟨g37, 0, none⟩) ([[98], []] : List St).length 2].toArray 31)) (r := .slice (some ⟨w36.heap.size, 0, none⟩) 2 2) rfl rfl rfl (by kernel_rfl)) ⟨_, _, rfl, ⟨_, _, rfl, hcz41, hrz41⟩, ⟨_, _, rfl, ⟨_, _, rfl, hcz42, hrz42⟩, rfl⟩⟩ rfl (by decide) (fun g39 w38 hS => ?_)))
 refine W_cons rfl (by decide) (Sv_gt rfl rfl rfl hk30 (Sv_call rfl rfl rfl ent22 ?_))
 refine (same_calls (turnS ([([[97], [98]] : List St), ([[99]] : List St)] : List (List St))) AR0_32 cR0_32 ([([[97], [99]] : List St), ([[98], []] : List St)] : List (List St)) (some ⟨g39, 0, none⟩) 2 _ _ hS.out0 (hS.ow [] 3 rfl rfl (hS.zq [] 2 rfl rfl)) (hS.cap 3 rfl) (hS.ow [] 0 rfl rfl (hS.zq [] 1 rfl rfl)) (hS.cap 0 rfl) ).mono ?_
 rintro e_ w43 ⟨rfl, hS_⟩
 refine ⟨_, rfl, ?_⟩
 have hS := hS.call0 hS_
 refine W_cons rfl (by decide) (Sv_val rfl (R_pick_t rfl rfl hk30 rfl) ?_)
 refine W_cons rfl (by decide) (Sv_val rfl (R_move rfl rfl) ?_)
 have hk45 : (decide ((turnS ([([[97], [98]] : List St), ([[99]] : List St)] : List (List St))) = ([([[97], [99]] : List St), ([[98], []] : List St)] : List (List St)))) = true := by decide +kernel
 refine W_cons rfl (by decide) (Sv_gt rfl rfl rfl hk45 (S_row (d := kstr) (q := zE) hS ([[97], []] : List St) rfl (R_buildSlice (ps := [(0, (.const (.string { data := #[97] }))), (1, (.const (.string { data := #[] })))]) (vs := [vstr [97], vstr []]) (w' := w43.alloc (.cells [vstr [97], vstr []].toArray 9)) (r := .slice (some ⟨w43.heap.size, 0, none⟩) 2 2) rfl rfl rfl (by kernel_rfl)) (by simp [Reps, flat, kstr]) rfl (by decide) (fun g47 w46 hS => ?_)))
 refine W_cons rfl (by decide) (Sv_gt rfl rfl rfl hk45 (S_row (d := kstr) (q := zE) hS ([[]] : List St) rfl (R_buildSlice (ps := [(0, (.const (.string { data := #[] })))]) (vs := [vstr []]) (w' := w46.alloc (.cells [vstr []].toArray 9)) (r := .slice (some ⟨w46.heap.size, 0, none⟩) 1 1) rfl rfl rfl (by kernel_rfl)) (by simp [Reps, flat, kstr]) rfl (by decide) (fun g49 w48 hS => ?_)))
 obtain ⟨z52, hS⟩ := hS.famx
 have hcz53 := hS.cap 2 rfl
 obtain ⟨z53, hlez53, hrz53, hS⟩ := hS.fz 2 0 rfl rfl (by decide) (zle_E _)
 have hcz54 := hS.cap 1 rfl
 obtain ⟨z54, hlez54, hrz54, hS⟩ := hS.fz 1 0 rfl rfl (by decide) (zle_E _)
 have hrz53 := hrz53.mono hlez54
 refine W_cons rfl (by decide) (Sv_gt rfl rfl rfl hk45 (S_row (d := (kslice kstr)) (q := z54) hS ([([[97], []] : List St), ([[]] : List St)] : List (List St)) rfl (R_buildSlice (ps := [(0, (.tmp 30)), (1, (.tmp 31))]) (vs := [.slice (some ⟨g47, 0, none⟩) ([[97], []] : List St).length 2, .slice (some ⟨g49, 0, none⟩) ([[]] : List St).length 1]) (w' := w48.alloc (.cells [.slice (some ⟨g47, 0, none⟩) ([[97], []] : List St).length 2, .slice (some ⟨g49, 0, none⟩) ([[]] : List St).length 1].toArray 31)) (r := .slice (some ⟨w48.heap.size, 0, none⟩) 2 2) rfl rfl rfl (by kernel_rfl)) ⟨_, _, rfl, ⟨_, _, rfl, hcz53, hrz53⟩, ⟨_, _, rfl, ⟨_, _, rfl, hcz54, hrz54⟩, rfl⟩⟩ rfl (by decide) (fun g51 w50 hS => ?_)))
 refine W_cons rfl (by decide) (Sv_gt rfl rfl rfl hk45 (Sv_call rfl rfl rfl ent20 ?_))
 refine (trim_calls ([([[97], []] : List St), ([[]] : List St)] : List (List St)) (some ⟨g51, 0, none⟩) 2 _ _ hS.out0 (hS.ow [] 0 rfl rfl (hS.zq [] 1 rfl rfl)) (hS.cap 0 rfl) (by decide) (by decide)).mono ?_
 rintro e_ w55 ⟨AR0_56, cR0_56, qR0_56, rfl, hS_⟩
 refine ⟨_, rfl, ?_⟩
 have hS := hS.call0 hS_
 have hp57 := hS.cap 1 rfl
 have hlhp57 := hp57.le
 have hmhp57 := hp57.mx
 refine W_cons rfl (by decide) (Sv_gt rfl rfl rfl hk45 (S_row (d := kstr) (q := zE) hS ([[97]] : List St) rfl (R_buildSlice (ps := [(0, (.const (.string { data := #[97] })))]) (vs := [vstr [97]]) (w' := w55.alloc (.cells [vstr [97]].toArray 9)) (r := .slice (some ⟨w55.heap.size, 0, none⟩) 1 1) rfl rfl rfl (by kernel_rfl)) (by simp [Reps, flat, kstr]) rfl (by decide) (fun g59 w58 hS => ?_)))
 obtain ⟨z62, hS⟩ := hS.famx
 have hcz63 := hS.cap 1 rfl
 obtain ⟨z63, hlez63, hrz63, hS⟩ := hS.fz 1 0 rfl rfl (by decide) (zle_E _)
 refine W_cons rfl (by decide) (Sv_gt rfl rfl rfl hk45 (S_row (d := (kslice kstr)) (q := z63) hS ([([[97]] : List St)] : List (List St)) rfl (R_buildSlice (ps := [(0, (.tmp 34))]) (vs := [.slice (some ⟨g59, 0, none⟩) ([[97]] : List St).length 1]) (w' := w58.alloc (.cells [.slice (some ⟨g59, 0, none⟩) ([[97]] : List St).length 1].toArray 31)) (r := .slice (some ⟨w58.heap.size, 0, none⟩) 1 1) rfl rfl rfl (by kernel_rfl)) ⟨_, _, rfl, ⟨_, _, rfl, hcz63, hrz63⟩, rfl⟩ rfl (by decide) (fun g61 w60 hS => ?_)))
 refine W_cons rfl (by decide) (Sv_gt rfl rfl rfl hk45 (Sv_call rfl rfl rfl ent22 ?_))
 refine (same_calls (trimS ([([[97], []] : List St), ([[]] : List St)] : List (List St))) AR0_56 cR0_56 ([([[97]] : List St)] : List (List St)) (some ⟨g61, 0, none⟩) 1 _ _ hS.out0 (hS.ow [] 3 rfl rfl (hS.zq [] 2 rfl rfl)) (hS.cap 3 rfl) (hS.ow [] 0 rfl rfl (hS.zq [] 1 rfl rfl)) (hS.cap 0 rfl) ).mono ?_
 rintro e_ w64 ⟨rfl, hS_⟩
 refine ⟨_, rfl, ?_⟩
 have hS := hS.call0 hS_
 refine W_cons rfl (by decide) (Sv_val rfl (R_pick_t rfl rfl hk45 rfl) ?_)
 refine W_cons rfl (by decide) (Sv_val rfl (R_assign rfl rfl) ?_)
 refine W_nil ?_
 refine E_then (C_fr [(0, .bool (decide ((trimS ([([[97], []] : List St), ([[]] : List St)] : List (List St))) = ([([[97]] : List St)] : List (List St)))))] rfl ?_)
 refine C_ret ?_
 refine E_ret1 rfl rfl ?_
 exact ⟨Lret1 (Lbool (show decide ((trimS ([([[97], []] : List St), ([[]] : List St)] : List (List St))) = ([([[97]] : List St)] : List (List St))) = true by rfl)), hS.fin [] (by decide) rfl⟩

end Go.Proofs.YtgjnhmidbapjmaaG
