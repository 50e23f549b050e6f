/- Walks, each function once: what it computes. -/
import Derived.Test.YtalpekmbknjeeaaU0
set_option linter.all false
namespace Go.Proofs.YtalpekmbknjeeaaG
open Go Go.RowKit
set_option maxHeartbeats 400000 in
set_option maxRecDepth 20000 in
theorem cut_calls (a0 : Int) (z : Z) (w : World) (hI : In z w [])   :
    Calls Try.prog 66 #[.int .i64 a0] w fun e w' => e = .returned (.int .i64 (acutS a0)) ∧ Sp (FF []) w z w' [] := by
 have hS := hI.sp
 refine Calls_of (vs := [.int .i64 a0]) (N := 6) Try.func66 rfl rfl (Nat.le_of_ble_eq_true rfl) ?_
 refine C_seq ?_
 refine C_region ?_
 refine wv rfl rfl rfl (R_assign rfl rfl) ?_
 refine W_nil ?_
 refine E_then ?_
 refine C_seq ?_
 refine C_region ?_
 refine wv rfl rfl rfl (R_move rfl rfl) <| wv rfl rfl rfl (R_max rfl rfl) <| wv rfl rfl rfl (R_min rfl rfl) <| wv rfl rfl rfl (R_assign rfl rfl) ?_
 refine W_nil ?_
 refine E_then ?_
 refine C_ret ?_
 refine E_ret1 rfl rfl ?_
 exact ⟨Lret1 (Lint (show min (max a0 1) 60 = acutS a0 by unfold acutS; omega)), hS.fin [] (by decide) rfl⟩

set_option maxHeartbeats 400000 in
set_option maxRecDepth 20000 in
theorem rsize_calls (a0 : Int) (z : Z) (w : World) (hI : In z w [])   :
    Calls Try.prog 83 #[.int .i64 a0] w fun e w' => e = .returned (.int .i64 (acutS a0)) ∧ Sp (FF []) w z w' [] := by
 have hS := hI.sp
 refine Calls_of (vs := [.int .i64 a0]) (N := 8) Try.func83 rfl rfl (Nat.le_of_ble_eq_true rfl) ?_
 refine C_seq ?_
 refine C_region ?_
 refine wv rfl rfl rfl (R_assign rfl rfl) ?_
 refine W_nil ?_
 refine E_then ?_
 refine C_seq ?_
 refine C_seq ?_
 refine C_region ?_
 refine wv rfl rfl rfl (R_move rfl rfl) <| wv rfl rfl rfl (R_bin rfl rfl rfl rfl rfl) ?_
 refine W_nil ?_
 refine E_then ?_
 refine C_ite rfl (fun hC0 => ?_) (fun hC0 => ?_)
 ·have _hC0 := trivial
  have hC0p : a0 < 1 := by simpa using hC0
  refine C_seq ?_
  refine C_region ?_
  refine wv rfl rfl rfl (R_assign rfl rfl) ?_
  refine W_nil ?_
  refine E_then ?_
  refine C_ret ?_
  refine E_then_ret ?_
  refine E_ret1 rfl rfl ?_
  exact ⟨Lret1 (Lint (show 1 = acutS a0 by unfold acutS; omega)), hS.fin [] (by decide) rfl⟩
 ·have _hC0 := trivial
  have hC0p : ¬ (a0 < 1) := by simpa using hC0
  refine C_skip ?_
  refine E_then ?_
  refine C_seq ?_
  refine C_seq ?_
  refine C_region ?_
  refine wv rfl rfl rfl (R_move rfl rfl) <| wv rfl rfl rfl (R_bin rfl rfl rfl rfl rfl) ?_
  refine W_nil ?_
  refine E_then ?_
  refine C_ite rfl (fun hC1 => ?_) (fun hC1 => ?_)
  ·have _hC1 := trivial
   have hC1p : a0 > 60 := by simpa using hC1
   refine C_seq ?_
   refine C_region ?_
   refine wv rfl rfl rfl (R_assign rfl rfl) ?_
   refine W_nil ?_
   refine E_then (C_fr [(2, .int .i64 60)] rfl ?_)
   refine C_ret ?_
   refine E_then_ret ?_
   refine E_ret1 rfl rfl ?_
   exact ⟨Lret1 (Lint (show 60 = acutS a0 by unfold acutS; omega)), hS.fin [] (by decide) rfl⟩
  ·have _hC1 := trivial
   have hC1p : ¬ (a0 > 60) := by simpa using hC1
   refine C_skip ?_
   refine E_then (C_fr [(0, .int .i64 a0)] rfl ?_)
   refine C_seq ?_
   refine C_region ?_
   refine wv rfl rfl rfl (R_move rfl rfl) <| wv rfl rfl rfl (R_assign rfl rfl) ?_
   refine W_nil ?_
   refine E_then ?_
   refine C_ret ?_
   refine E_ret1 rfl rfl ?_
   exact ⟨Lret1 (Lint (show a0 = acutS a0 by unfold acutS; omega)), hS.fin [] (by decide) rfl⟩

set_option maxHeartbeats 400000 in
set_option maxRecDepth 20000 in
theorem point_calls (a0 : Int) (a1 : Int) (z : Z) (w : World) (hI : In z w [])  (p0 : a0.natAbs < 4503599627370496) (p1 : a1.natAbs < 4503599627370496) :
    Calls Try.prog 42 #[.int .i64 a0, .int .i64 a1] w fun e w' => e = .returned (.complex .f64 (cpt a0 a1).re.bits (cpt a0 a1).im.bits) ∧ Sp (FF []) w z w' [] := by
 have hS := hI.sp
 refine Calls_of (vs := [.int .i64 a0, .int .i64 a1]) (N := 10) Try.func42 rfl rfl (Nat.le_of_ble_eq_true rfl) ?_
 refine C_seq ?_
 refine C_region ?_
 refine wv rfl rfl rfl (R_assign rfl rfl) ?_
 refine W_nil ?_
 refine E_then ?_
 refine C_seq ?_
 refine C_region ?_
 refine wv rfl rfl rfl (R_move rfl rfl) <| wv rfl rfl rfl (R_convf rfl rfl Try.underlying3 Try.underlying45 (by omega)) <| wv rfl rfl rfl (R_move rfl rfl) <| wv rfl rfl rfl (R_convf rfl rfl Try.underlying3 Try.underlying45 (by omega)) <| wv rfl rfl rfl (R_cx rfl rfl) <| wv rfl rfl rfl (R_assign rfl rfl) ?_
 refine W_nil ?_
 refine E_then (C_fr [(4, .complex .f64 (Fl.ofInt a0).bits (Fl.ofInt a1).bits)] rfl ?_)
 refine C_ret ?_
 refine E_ret1 rfl rfl ?_
 exact ⟨Lret1 (show (.complex .f64 (Fl.ofInt a0).bits (Fl.ofInt a1).bits : Value) = .complex .f64 (cpt a0 a1).re.bits (cpt a0 a1).im.bits by rfl), hS.fin [] (by decide) rfl⟩

set_option maxHeartbeats 400000 in
set_option maxRecDepth 20000 in
theorem starts_calls (a0 : List Int) (Aa0 : Option Addr) (ca0 : Nat) (z : Z) (w : World) (hI : In z w []) (hra0 : Rd (kint .i64) z Aa0 a0) (hca0 : Cap Aa0 a0.length ca0) (p0 : a0.length ≤ 1000000) :
    Calls Try.prog 43 #[.slice Aa0 a0.length ca0] w fun e w' => ∃ (AR0 : Option Addr) (cR0 : Nat), e = .returned (.slice AR0 (startsS a0).length cR0) ∧ Sp (FF []) w z w' [oR (kint .i64) 3 zE AR0 cR0 (startsS a0)] := by
 have hla0 := hca0.le
 have hma0 := hca0.mx
 have hS := hI.sp
 refine Calls_of (vs := [.slice Aa0 a0.length ca0]) (N := 27) Try.func43 rfl rfl (Nat.le_of_ble_eq_true rfl) ?_
 refine C_seq ?_
 refine C_region ?_
 refine wv rfl rfl rfl (R_assign rfl rfl) ?_
 refine W_nil ?_
 refine E_then ?_
 refine C_seq ?_
 refine C_region ?_
 refine W_cons rfl (by decide) (S_row (d := (kint .i64)) (q := zE) hS ([1] : List Int) rfl (R_buildSlice (ps := [(0, (.const (.int .i64 1)))]) (vs := [.int .i64 1]) (w' := w.alloc (.cells [.int .i64 1].toArray 3)) (r := .slice (some ⟨w.heap.size, 0, none⟩) 1 1) rfl rfl rfl (by kernel_rfl)) (by simp [Reps, flat, kint]) rfl (by decide) (fun g2 w1 hS => ?_))
 refine wv rfl rfl rfl (R_assign rfl rfl) ?_
 refine W_nil ?_
 refine E_then ?_
 refine C_seq ?_
 refine C_seq ?_
 refine C_region ?_
 refine wv rfl rfl rfl (R_move rfl rfl) <| wv rfl rfl rfl (R_len rfl rfl Try.underlying22) <| wv rfl rfl rfl (R_move rfl rfl) ?_
 refine W_nil ?_
 refine E_then ?_
 refine C_block ?_
 have hs5 : ([1] : List Int) = (startsS a0).take ((0 : Nat) + 1) := by cases a0 <;> rfl
 have hS := hS.re 0 rfl hs5
 refine C_fr [(3, .slice (some ⟨g2, 0, none⟩) ([1] : List Int).length 1), (7, .slice Aa0 a0.length ca0), (8, .int .i64 (a0.length : Int)), (9, .int .i64 0)] rfl ?_
 refine C_loop (fun m_ f_ w_ => ∃ (i : Nat) (Ar3 : Option Addr) (cr3 : Nat), f_ = [(3, .slice Ar3 ((startsS a0).take (i + 1)).length cr3), (7, .slice Aa0 a0.length ca0), (8, .int .i64 (a0.length : Int)), (9, .int .i64 (i : Int))] ∧ i ≤ a0.length ∧ m_ = a0.length - i ∧ Sp (FF []) w z w_ [oR (kint .i64) 3 zE Ar3 cr3 ((startsS a0).take (i + 1))]) (a0.length - (0 : Nat)) ⟨(0 : Nat), (some ⟨g2, 0, none⟩), 1, (by rw [← hs5] <;> rfl), (by omega), rfl, hS.fin [0] (by decide) rfl⟩ ?_
 rintro m_ f_ w4 ⟨i, Ar3, cr3, rfl, hI0_0, rfl, hS⟩
 have hp6 := hS.cap 0 rfl
 have hlhp6 := hp6.le
 have hmhp6 := hp6.mx
 have hlen := starts_len a0
 have htl : ((startsS a0).take (i + 1)).length = i + 1 := by rw [List.length_take]; omega
 have hge : ((startsS a0).take (i + 1)).getD i 0 = (startsS a0).getD i 0 := by simp [List.getD]
 have hbd := starts_bd a0 i (by omega)
 have hcb := acut_bd (a0.getD i 0)
 refine C_seq ?_
 refine C_region ?_
 refine wv rfl rfl rfl (R_bin rfl rfl rfl rfl rfl) ?_
 refine W_nil ?_
 refine E_then ?_
 refine C_seq ?_
 refine C_ite rfl (fun hC0 => ?_) (fun hC0 => ?_)
 ·have _hC0 := trivial
  have hC0p : (i : Int) < (a0.length : Int) := by simpa using hC0
  refine C_skip ?_
  refine E_then ?_
  refine C_seq ?_
  refine C_block ?_
  refine C_seq ?_
  refine C_region ?_
  refine wv rfl rfl rfl (R_move rfl rfl) ?_
  obtain ⟨q7, csq7, hAq7, rfl, hkq7⟩ := hra0.at_ (0 : Int) (i := (i : Int)) (by omega) (by omega)
  have hkq7 : ∀ (j_ : Nat) (u_ : Value), ([.int .i64 (a0.getD i (0 : Int))] : List Value)[j_]? = some u_ → cz z (q7.add (i * 1 + j_)) = some u_ := hkq7
  refine wv rfl rfl rfl (R_idx rfl rfl hAq7 rfl Try.underlying22 size3 (by omega) (by omega)) <| wv rfl rfl rfl (R_load1 rfl rfl agg3 (hS.sub.cell (hkq7 0 _ rfl))) <| wv rfl rfl rfl (R_assign rfl rfl) <| wv rfl rfl rfl (R_assign rfl rfl) ?_
  refine W_nil ?_
  refine E_then ?_
  refine C_fr [(3, .slice Ar3 ((startsS a0).take (i + 1)).length cr3), (4, .int .i64 (i : Int)), (5, .int .i64 (a0.getD i (0 : Int))), (7, .slice Aa0 a0.length ca0), (8, .int .i64 (a0.length : Int)), (9, .int .i64 (i : Int))] rfl ?_
  obtain ⟨q8, hAq8, hxq8⟩ := (hS.rw 0 rfl).ix (0 : Int) (i := (i : Int)) (by omega) (by omega)
  refine C_drawn2 12 [[], [], [], [1, 2], [3], [], [5], [4, 6], [7], [8]] [some 14, some 15, some 16, some 17, some 18, some 19, some 20, some 21, some 22, some 23] [3, 4, 5, 7, 8, 9] (List.replicate 10 10) (List.replicate 10 []) (List.replicate 10 []) [fun γ_ => .slice Ar3 ((startsS a0).take (i + 1)).length cr3, fun γ_ => .slice Ar3 ((startsS a0).take (i + 1)).length cr3, fun γ_ => .int .i64 (i : Int), fun γ_ => .pointer (some (q8.add (i * 1))), fun γ_ => .int .i64 (((startsS a0).take (i + 1)).getD i (0 : Int)), fun γ_ => .int .i64 (a0.getD i (0 : Int)), fun γ_ => .int .i64 (acutS (a0.getD i (0 : Int))), fun γ_ => .int .i64 ((((startsS a0).take (i + 1)).getD i (0 : Int)) + (acutS (a0.getD i (0 : Int)))), fun γ_ => .int .i64 (((((startsS a0).take (i + 1)).getD i (0 : Int)) + (acutS (a0.getD i (0 : Int)))) + 1), fun γ_ => .slice (γ_.a 0) ([((((startsS a0).take (i + 1)).getD i (0 : Int)) + (acutS (a0.getD i (0 : Int)))) + 1] : List Int).length 1] [fun γ_ => [], fun γ_ => [], fun γ_ => [], fun γ_ => [], fun γ_ => [], fun γ_ => [], fun γ_ => [], fun γ_ => [], fun γ_ => [], fun γ_ => [oR (kint .i64) 3 zE (γ_.a 0) 1 ([((((startsS a0).take (i + 1)).getD i (0 : Int)) + (acutS (a0.getD i (0 : Int)))) + 1] : List Int)]] rfl (by kernel_rfl) (by decide +kernel) hS ?_ ?_
  ·refine ⟨fun _ _ _ hS => Sv_val rfl (R_move rfl rfl) ⟨gh0, rfl, hS⟩, fun _ _ _ hS => Sv_val rfl (R_move rfl rfl) ⟨gh0, rfl, hS⟩, fun _ _ _ hS => Sv_val rfl (R_move rfl rfl) ⟨gh0, rfl, hS⟩, fun _ _ _ hS => Sv_val rfl (R_idx rfl rfl hAq8 rfl Try.underlying22 size3 (by omega) (by omega)) ⟨gh0, rfl, hS⟩, fun _ _ _ hS => Sv_val rfl (R_load1 rfl rfl agg3 ((hS.rw 0 rfl).cellAt hAq8 hxq8 (fun _ h => h) 0 _ rfl)) ⟨gh0, rfl, hS⟩, fun _ _ _ hS => Sv_val rfl (R_move rfl rfl) ⟨gh0, rfl, hS⟩, fun g_ w25 fr26 hS => ?_, ?_⟩
   ·have _w25 := trivial
    have hS : Sp (FF []) w z w25 [oR (kint .i64) 3 zE Ar3 cr3 ((startsS a0).take (i + 1)), allR fr26] := hS
    refine Sv_call rfl rfl rfl ent66 ?_
    refine (cut_calls (a0.getD i (0 : Int)) _ _ hS.out0  ).mono ?_
    rintro e_ w27 ⟨rfl, hS_⟩
    refine ⟨_, rfl, ?_⟩
    have hS := hS.call0 hS_
    exact ⟨⟨fun _ => none, fun _ => 0, fun _ => zE, fun _ => 0⟩, rfl, hS.fin [0, 1] (by decide) rfl⟩
   refine ⟨fun _ _ _ hS => Sv_val rfl (R_add64 rfl rfl rfl (by omega) (by omega)) ⟨gh0, rfl, hS⟩, fun _ _ _ hS => Sv_val rfl (R_add64 rfl rfl rfl (by omega) (by omega)) ⟨gh0, rfl, hS⟩, fun g_ w33 fr34 hS => ?_, ?_⟩
   ·have _w33 := trivial
    have hS : Sp (FF []) w z w33 [oR (kint .i64) 3 zE Ar3 cr3 ((startsS a0).take (i + 1)), allR fr34] := hS
    refine S_row (d := (kint .i64)) (q := zE) hS ([((((startsS a0).take (i + 1)).getD i (0 : Int)) + (acutS (a0.getD i (0 : Int)))) + 1] : List Int) rfl (R_buildSlice (ps := [(0, (.tmp 22))]) (vs := [.int .i64 (((((startsS a0).take (i + 1)).getD i (0 : Int)) + (acutS (a0.getD i (0 : Int)))) + 1)]) (w' := w33.alloc (.cells [.int .i64 (((((startsS a0).take (i + 1)).getD i (0 : Int)) + (acutS (a0.getD i (0 : Int)))) + 1)].toArray 3)) (r := .slice (some ⟨w33.heap.size, 0, none⟩) 1 1) rfl rfl rfl (by kernel_rfl)) (by simp [Reps, flat, kint]) rfl (by decide) (fun g36 w35 hS => ?_)
    exact ⟨⟨fun _ => (some ⟨g36, 0, none⟩), fun _ => 1, fun _ => zE, fun _ => 0⟩, rfl, hS.fin [0, 1, 2] (by decide) rfl⟩
   exact trivial
  ·intro g_ w37 hS
   have hS : Sp (FF []) w z w37 [oR (kint .i64) 3 zE ((g_ 9).a 0) 1 ([((((startsS a0).take (i + 1)).getD i (0 : Int)) + (acutS (a0.getD i (0 : Int)))) + 1] : List Int), oR (kint .i64) 3 zE Ar3 cr3 ((startsS a0).take (i + 1))] := hS
   refine An_fr [(3, .slice Ar3 ((startsS a0).take (i + 1)).length cr3), (4, .int .i64 (i : Int)), (5, .int .i64 (a0.getD i (0 : Int))), (7, .slice Aa0 a0.length ca0), (8, .int .i64 (a0.length : Int)), (9, .int .i64 (i : Int)), (14, .slice Ar3 ((startsS a0).take (i + 1)).length cr3), (23, .slice ((g_ 9).a 0) ([((((startsS a0).take (i + 1)).getD i (0 : Int)) + (acutS (a0.getD i (0 : Int)))) + 1] : List Int).length 1)] rfl ?_
   generalize ((g_ 9).a 0) = A39 at hS ⊢
   have hp40 := hS.cap 0 rfl
   have hlhp40 := hp40.le
   have hmhp40 := hp40.mx
   refine An_one (i := 10) (by decide +kernel) rfl rfl (by decide) (S_append hS 1 rfl rfl rfl elem22 rfl rfl (hS.sow 0 rfl (fun _ _ h => h)) (by (try simp only [List.length_cons, List.length_nil, List.length_append, maxLen]); omega) (by (try simp only [List.length_cons, List.length_nil, List.length_append, maxLen]); omega) (fun Ar42 cr42 w41 hS => ?_))
   have hp43 := hS.cap 1 rfl
   have hlhp43 := hp43.le
   have hmhp43 := hp43.mx
   refine An_one (i := 11) (by decide +kernel) rfl rfl (by decide) (Sv_val rfl (R_assign rfl rfl) ?_)
   refine An_done (by decide +kernel) ?_
   refine E_block_normal ?_
   refine E_then (C_fr [(3, .slice Ar42 (((startsS a0).take (i + 1)) ++ ([((((startsS a0).take (i + 1)).getD i (0 : Int)) + (acutS (a0.getD i (0 : Int)))) + 1] : List Int)).length cr42), (7, .slice Aa0 a0.length ca0), (8, .int .i64 (a0.length : Int)), (9, .int .i64 (i : Int))] rfl ?_)
   refine C_region ?_
   refine wv rfl rfl rfl (R_add64 rfl rfl rfl (by omega) (by omega)) <| wv rfl rfl rfl (R_move rfl rfl) ?_
   refine W_nil ?_
   have hs44 : ((startsS a0).take (i + 1)) ++ ([((((startsS a0).take (i + 1)).getD i (0 : Int)) + (acutS (a0.getD i (0 : Int)))) + 1] : List Int) = (startsS a0).take ((i + 1 : Nat) + 1) := by exact starts_take a0 i (by omega)
   have hS := hS.re 1 rfl hs44
   refine E_round [3, 7, 8, 9] ?_ ⟨(i + 1 : Nat), Ar42, cr42, (by rw [← hs44] <;> rfl), (by omega), rfl, hS.fin [1] (by decide) rfl⟩
   omega
 ·have _hC0 := trivial
  have hC0p : ¬ ((i : Int) < (a0.length : Int)) := by simpa using hC0
  refine C_exit ?_
  refine E_then_exit ?_
  refine E_then_exit ?_
  refine E_block_hit ?_
  refine E_then ?_
  refine C_seq ?_
  refine C_region ?_
  refine wv rfl rfl rfl (R_move rfl rfl) <| wv rfl rfl rfl (R_assign rfl rfl) ?_
  refine W_nil ?_
  refine E_then (C_fr [(2, .slice Ar3 ((startsS a0).take (i + 1)).length cr3)] rfl ?_)
  refine C_ret ?_
  have hq45 : (startsS a0).take (i + 1) = startsS a0 := by (have hlen := starts_len a0; exact List.take_of_length_le (by omega))
  have hS := hS.re 0 rfl hq45
  refine E_ret1 rfl rfl ?_
  exact ⟨Ar3, cr3, Lret1 (Lslice hq45), hS.fin [0] (by decide) rfl⟩

set_option maxHeartbeats 400000 in
set_option maxRecDepth 20000 in
theorem rslots_calls (a0 : List Int) (Aa0 : Option Addr) (ca0 : Nat) (z : Z) (w : World) (hI : In z w []) (hra0 : Rd (kint .i64) z Aa0 a0) (hca0 : Cap Aa0 a0.length ca0) (p0 : a0.length ≤ 1000000) :
    Calls Try.prog 61 #[.slice Aa0 a0.length ca0] w fun e w' => ∃ (AR0 : Option Addr) (cR0 : Nat), e = .returned (.slice AR0 (slotsS a0).length cR0) ∧ Sp (FF []) w z w' [oR (kint .i64) 3 zE AR0 cR0 (slotsS a0)] := by
 have hla0 := hca0.le
 have hma0 := hca0.mx
 have hS := hI.sp
 refine Calls_of (vs := [.slice Aa0 a0.length ca0]) (N := 30) Try.func61 rfl rfl (Nat.le_of_ble_eq_true rfl) ?_
 refine C_seq ?_
 refine C_region ?_
 refine wv rfl rfl rfl (R_assign rfl rfl) ?_
 refine W_nil ?_
 refine E_then ?_
 refine C_seq ?_
 refine C_region ?_
 refine W_cons rfl (by decide) (S_row (d := (kint .i64)) (q := zE) hS ([(-1)] : List Int) rfl (R_buildSlice (ps := [(0, (.const (.int .i64 (-1))))]) (vs := [.int .i64 (-1)]) (w' := w.alloc (.cells [.int .i64 (-1)].toArray 3)) (r := .slice (some ⟨w.heap.size, 0, none⟩) 1 1) rfl rfl rfl (by kernel_rfl)) (by simp [Reps, flat, kint]) rfl (by decide) (fun g2 w1 hS => ?_))
 refine wv rfl rfl rfl (R_assign rfl rfl) ?_
 refine W_nil ?_
 refine E_then ?_
 refine C_seq ?_
 refine C_seq ?_
 refine C_region ?_
 refine wv rfl rfl rfl (R_assign rfl rfl) ?_
 refine W_nil ?_
 refine E_then ?_
 refine C_block ?_
 have hs5 : ([(-1)] : List Int) = slotsS (a0.take (0 : Nat)) := by rfl
 have hS := hS.re 0 rfl hs5
 refine C_fr [(0, .slice Aa0 a0.length ca0), (3, .slice (some ⟨g2, 0, none⟩) ([(-1)] : List Int).length 1), (4, .int .i64 0)] rfl ?_
 refine C_loop (fun m_ f_ w_ => ∃ (i : Nat) (Ar3 : Option Addr) (cr3 : Nat), f_ = [(0, .slice Aa0 a0.length ca0), (3, .slice Ar3 (slotsS (a0.take i)).length cr3), (4, .int .i64 (i : Int))] ∧ i ≤ a0.length ∧ m_ = a0.length - i ∧ Sp (FF []) w z w_ [oR (kint .i64) 3 zE Ar3 cr3 (slotsS (a0.take i))]) (a0.length - (0 : Nat)) ⟨(0 : Nat), (some ⟨g2, 0, none⟩), 1, (by rw [← hs5] <;> rfl), (by omega), rfl, hS.fin [0] (by decide) rfl⟩ ?_
 rintro m_ f_ w4 ⟨i, Ar3, cr3, rfl, hI0_0, rfl, hS⟩
 have hp6 := hS.cap 0 rfl
 have hlhp6 := hp6.le
 have hmhp6 := hp6.mx
 have hsl := slots_len (a0.take i)
 have htl : (a0.take i).length = i := by rw [List.length_take]; omega
 have hcb := acut_bd (a0.getD i 0)
 refine C_seq ?_
 refine C_seq ?_
 refine C_region ?_
 refine wv rfl rfl rfl (R_move rfl rfl) <| wv rfl rfl rfl (R_move rfl rfl) <| wv rfl rfl rfl (R_len rfl rfl Try.underlying22) <| wv rfl rfl rfl (R_bin rfl rfl rfl rfl rfl) ?_
 refine W_nil ?_
 refine E_then ?_
 refine C_ite rfl (fun hC0 => ?_) (fun hC0 => ?_)
 ·have _hC0 := trivial
  have hC0p : (i : Int) < (a0.length : Int) := by simpa using hC0
  refine C_skip ?_
  refine E_then ?_
  refine C_seq ?_
  refine C_block ?_
  refine C_seq ?_
  refine C_seq ?_
  refine C_region ?_
  refine wv rfl rfl rfl (R_assign rfl rfl) ?_
  refine W_nil ?_
  refine E_then ?_
  refine C_block ?_
  have hs9 : slotsS (a0.take i) = slotsS (a0.take i) ++ List.replicate (0 : Nat) (i : Int) := by simp
  have hS := hS.re 0 rfl hs9
  refine C_fr [(0, .slice Aa0 a0.length ca0), (3, .slice Ar3 (slotsS (a0.take i)).length cr3), (4, .int .i64 (i : Int)), (5, .int .i64 0)] rfl ?_
  refine C_loop (fun m_ f_ w_ => ∃ (k : Nat) (Ar7 : Option Addr) (cr7 : Nat), f_ = [(0, .slice Aa0 a0.length ca0), (3, .slice Ar7 (slotsS (a0.take i) ++ List.replicate k (i : Int)).length cr7), (4, .int .i64 (i : Int)), (5, .int .i64 (k : Int))] ∧ (k : Int) ≤ acutS (a0.getD i 0) ∧ m_ = (acutS (a0.getD i 0)).toNat - k ∧ Sp (FF []) w z w_ [oR (kint .i64) 3 zE Ar7 cr7 (slotsS (a0.take i) ++ List.replicate k (i : Int))]) ((acutS (a0.getD i 0)).toNat - (0 : Nat)) ⟨(0 : Nat), Ar3, cr3, (by rw [← hs9] <;> rfl), (by omega), rfl, hS.fin [0] (by decide) rfl⟩ ?_
  rintro m_ f_ w8 ⟨k, Ar7, cr7, rfl, hI1_0, rfl, hS⟩
  have hp10 := hS.cap 0 rfl
  have hlhp10 := hp10.le
  have hmhp10 := hp10.mx
  have hrl : (slotsS (a0.take i) ++ List.replicate k (i : Int)).length = (slotsS (a0.take i)).length + k := by simp
  refine C_seq ?_
  refine C_seq ?_
  refine C_region ?_
  refine wv rfl rfl rfl (R_move rfl rfl) <| wv rfl rfl rfl (R_move rfl rfl) <| wv rfl rfl rfl (R_move rfl rfl) ?_
  obtain ⟨q11, csq11, hAq11, rfl, hkq11⟩ := hra0.at_ (0 : Int) (i := (i : Int)) (by omega) (by omega)
  have hkq11 : ∀ (j_ : Nat) (u_ : Value), ([.int .i64 (a0.getD i (0 : Int))] : List Value)[j_]? = some u_ → cz z (q11.add (i * 1 + j_)) = some u_ := hkq11
  refine wv rfl rfl rfl (R_idx rfl rfl hAq11 rfl Try.underlying22 size3 (by omega) (by omega)) <| wv rfl rfl rfl (R_load1 rfl rfl agg3 (hS.sub.cell (hkq11 0 _ rfl))) ?_
  refine W_cons rfl (by decide) (Sv_call rfl rfl rfl ent83 ?_)
  refine (rsize_calls (a0.getD i (0 : Int)) _ _ hS.out0  ).mono ?_
  rintro e_ w12 ⟨rfl, hS_⟩
  refine ⟨_, rfl, ?_⟩
  have hS := hS.call0 hS_
  refine wv rfl rfl rfl (R_bin rfl rfl rfl rfl rfl) ?_
  refine W_nil ?_
  refine E_then (C_fr [(0, .slice Aa0 a0.length ca0), (3, .slice Ar7 (slotsS (a0.take i) ++ List.replicate k (i : Int)).length cr7), (4, .int .i64 (i : Int)), (5, .int .i64 (k : Int)), (19, .bool (decide ((k : Int) < (acutS (a0.getD i (0 : Int))))))] rfl ?_)
  refine C_ite rfl (fun hC1 => ?_) (fun hC1 => ?_)
  ·have _hC1 := trivial
   have hC1p : (k : Int) < (acutS (a0.getD i (0 : Int))) := by simpa using hC1
   refine C_skip ?_
   refine E_then ?_
   refine C_seq ?_
   refine C_block ?_
   refine C_region ?_
   refine wv rfl rfl rfl (R_move rfl rfl) <| wv rfl rfl rfl (R_move rfl rfl) ?_
   refine W_cons rfl (by decide) (S_row (d := (kint .i64)) (q := zE) hS ([(i : Int)] : List Int) rfl (R_buildSlice (ps := [(0, (.tmp 23))]) (vs := [.int .i64 (i : Int)]) (w' := w12.alloc (.cells [.int .i64 (i : Int)].toArray 3)) (r := .slice (some ⟨w12.heap.size, 0, none⟩) 1 1) rfl rfl rfl (by kernel_rfl)) (by simp [Reps, flat, kint]) rfl (by decide) (fun g15 w14 hS => ?_))
   refine W_cons rfl (by decide) (S_append hS 1 rfl rfl rfl elem22 rfl rfl (hS.sow 0 rfl (fun _ _ h => h)) (by (try simp only [List.length_cons, List.length_nil, List.length_append, List.length_replicate, maxLen]); (try simp only [List.length_append, List.length_replicate] at *); omega) (by (try simp only [List.length_cons, List.length_nil, List.length_append, List.length_replicate, maxLen]); (try simp only [List.length_append, List.length_replicate] at *); omega) (fun Ar17 cr17 w16 hS => ?_))
   have hp18 := hS.cap 1 rfl
   have hlhp18 := hp18.le
   have hmhp18 := hp18.mx
   refine wv rfl rfl rfl (R_assign rfl rfl) ?_
   refine W_nil ?_
   refine E_block_normal ?_
   refine E_then (C_fr [(0, .slice Aa0 a0.length ca0), (3, .slice Ar17 ((slotsS (a0.take i) ++ List.replicate k (i : Int)) ++ ([(i : Int)] : List Int)).length cr17), (4, .int .i64 (i : Int)), (5, .int .i64 (k : Int))] rfl ?_)
   refine C_region ?_
   refine wv rfl rfl rfl (R_move rfl rfl) <| wv rfl rfl rfl (R_add64 rfl rfl rfl (by omega) (by omega)) <| wv rfl rfl rfl (R_assign rfl rfl) ?_
   refine W_nil ?_
   have hs19 : (slotsS (a0.take i) ++ List.replicate k (i : Int)) ++ ([(i : Int)] : List Int) = slotsS (a0.take i) ++ List.replicate (k + 1 : Nat) (i : Int) := by simp [List.replicate_succ']
   have hS := hS.re 1 rfl hs19
   refine E_round [0, 3, 4, 5] ?_ ⟨(k + 1 : Nat), Ar17, cr17, (by rw [← hs19] <;> rfl), (by omega), rfl, hS.fin [1] (by decide) rfl⟩
   omega
  ·have _hC1 := trivial
   have hC1p : ¬ ((k : Int) < (acutS (a0.getD i (0 : Int)))) := by simpa using hC1
   refine C_exit ?_
   refine E_then_exit ?_
   refine E_then_exit ?_
   refine E_block_hit ?_
   refine E_then ?_
   refine C_region ?_
   refine wv rfl rfl rfl (R_move rfl rfl) ?_
   refine W_cons rfl (by decide) (S_row (d := (kint .i64)) (q := zE) hS ([(-1)] : List Int) rfl (R_buildSlice (ps := [(0, (.const (.int .i64 (-1))))]) (vs := [.int .i64 (-1)]) (w' := w12.alloc (.cells [.int .i64 (-1)].toArray 3)) (r := .slice (some ⟨w12.heap.size, 0, none⟩) 1 1) rfl rfl rfl (by kernel_rfl)) (by simp [Reps, flat, kint]) rfl (by decide) (fun g21 w20 hS => ?_))
   refine W_cons rfl (by decide) (S_append hS 1 rfl rfl rfl elem22 rfl rfl (hS.sow 0 rfl (fun _ _ h => h)) (by (try simp only [List.length_cons, List.length_nil, List.length_append, List.length_replicate, maxLen]); (try simp only [List.length_append, List.length_replicate] at *); omega) (by (try simp only [List.length_cons, List.length_nil, List.length_append, List.length_replicate, maxLen]); (try simp only [List.length_append, List.length_replicate] at *); omega) (fun Ar23 cr23 w22 hS => ?_))
   have hp24 := hS.cap 1 rfl
   have hlhp24 := hp24.le
   have hmhp24 := hp24.mx
   refine wv rfl rfl rfl (R_assign rfl rfl) ?_
   refine W_nil ?_
   refine E_block_normal ?_
   refine E_then (C_fr [(0, .slice Aa0 a0.length ca0), (3, .slice Ar23 ((slotsS (a0.take i) ++ List.replicate k (i : Int)) ++ ([(-1)] : List Int)).length cr23), (4, .int .i64 (i : Int))] rfl ?_)
   refine C_region ?_
   refine wv rfl rfl rfl (R_move rfl rfl) <| wv rfl rfl rfl (R_add64 rfl rfl rfl (by omega) (by omega)) <| wv rfl rfl rfl (R_assign rfl rfl) ?_
   refine W_nil ?_
   have hs25 : (slotsS (a0.take i) ++ List.replicate k (i : Int)) ++ ([(-1)] : List Int) = slotsS (a0.take (i + 1 : Nat)) := by exact slots_next a0 i k (by omega) (by omega)
   have hS := hS.re 1 rfl hs25
   refine E_round [0, 3, 4] ?_ ⟨(i + 1 : Nat), Ar23, cr23, (by rw [← hs25] <;> rfl), (by omega), rfl, hS.fin [1] (by decide) rfl⟩
   omega
 ·have _hC0 := trivial
  have hC0p : ¬ ((i : Int) < (a0.length : Int)) := by simpa using hC0
  refine C_exit ?_
  refine E_then_exit ?_
  refine E_then_exit ?_
  refine E_block_hit ?_
  refine E_then (C_fr [(3, .slice Ar3 (slotsS (a0.take i)).length cr3)] rfl ?_)
  refine C_seq ?_
  refine C_region ?_
  refine wv rfl rfl rfl (R_move rfl rfl) <| wv rfl rfl rfl (R_assign rfl rfl) ?_
  refine W_nil ?_
  refine E_then ?_
  refine C_ret ?_
  have hq26 : slotsS (a0.take i) = slotsS a0 := by rw [List.take_of_length_le (by omega)]
  have hS := hS.re 0 rfl hq26
  refine E_ret1 rfl rfl ?_
  exact ⟨Ar3, cr3, Lret1 (Lslice hq26), hS.fin [0] (by decide) rfl⟩

set_option maxHeartbeats 400000 in
set_option maxRecDepth 20000 in
theorem rstarts_calls (a0 : List Int) (Aa0 : Option Addr) (ca0 : Nat) (z : Z) (w : World) (hI : In z w []) (hra0 : Rd (kint .i64) z Aa0 a0) (hca0 : Cap Aa0 a0.length ca0) (p0 : a0.length ≤ 1000000) :
    Calls Try.prog 92 #[.slice Aa0 a0.length ca0] w fun e w' => ∃ (AR0 : Option Addr) (cR0 : Nat), e = .returned (.slice AR0 (startsS a0).length cR0) ∧ Sp (FF []) w z w' [oR (kint .i64) 3 zE AR0 cR0 (startsS a0)] := by
 have hla0 := hca0.le
 have hma0 := hca0.mx
 have hS := hI.sp
 refine Calls_of (vs := [.slice Aa0 a0.length ca0]) (N := 36) Try.func92 rfl rfl (Nat.le_of_ble_eq_true rfl) ?_
 refine C_seq ?_
 refine C_region ?_
 refine wv rfl rfl rfl (R_assign rfl rfl) ?_
 refine W_nil ?_
 refine E_then ?_
 refine C_seq ?_
 refine C_region ?_
 refine wv rfl rfl rfl (R_assign rfl rfl) ?_
 refine W_nil ?_
 refine E_then ?_
 refine C_seq ?_
 refine C_region ?_
 refine wv rfl rfl rfl (R_move rfl rfl) ?_
 refine W_cons rfl (by decide) (Sv_call rfl rfl rfl ent61 ?_)
 refine (rslots_calls a0 Aa0 ca0 _ _ hS.out0 (hra0.mono (hS.zl [])) hca0 (by omega)).mono ?_
 rintro e_ w1 ⟨AR0_2, cR0_2, rfl, hS_⟩
 refine ⟨_, rfl, ?_⟩
 have hS := hS.call0 hS_
 have hp3 := hS.cap 0 rfl
 have hlhp3 := hp3.le
 have hmhp3 := hp3.mx
 refine wv rfl rfl rfl (R_assign rfl rfl) ?_
 refine W_nil ?_
 refine E_then ?_
 refine C_seq ?_
 refine C_seq ?_
 refine C_region ?_
 refine wv rfl rfl rfl (R_assign rfl rfl) ?_
 refine W_nil ?_
 refine E_then ?_
 refine C_block ?_
 have hS := hS.nilrow (kint .i64) 3 zE
 have hs7 : ([] : List Int) = scanN (slotsS a0) (1 : Nat) := by rfl
 have hS := hS.re 0 rfl hs7
 refine C_fr [(3, .slice none 0 0), (4, .slice AR0_2 (slotsS a0).length cR0_2), (5, .int .i64 1)] rfl ?_
 refine C_loop (fun m_ f_ w_ => ∃ (i : Nat) (Ar4 : Option Addr) (cr4 : Nat), f_ = [(3, .slice Ar4 (scanN (slotsS a0) i).length cr4), (4, .slice AR0_2 (slotsS a0).length cR0_2), (5, .int .i64 (i : Int))] ∧ 1 ≤ i ∧ i ≤ (slotsS a0).length ∧ m_ = (slotsS a0).length - i ∧ Sp (FF []) w z w_ [oR (kint .i64) 3 zE Ar4 cr4 (scanN (slotsS a0) i), oR (kint .i64) 3 zE AR0_2 cR0_2 (slotsS a0)]) ((slotsS a0).length - (1 : Nat)) ⟨(1 : Nat), none, 0, (by rw [← hs7] <;> rfl), (by omega), (by exact (slots_last a0).2), rfl, hS.fin [0, 1] (by decide) rfl⟩ ?_
 rintro m_ f_ w5 ⟨i, Ar4, cr4, rfl, hI0_0, hI0_1, rfl, hS⟩
 have hp8 := hS.cap 0 rfl
 have hlhp8 := hp8.le
 have hmhp8 := hp8.mx
 have hsl := slots_len a0
 have hsc := scan_len (slotsS a0) i
 refine C_seq ?_
 refine C_seq ?_
 refine C_region ?_
 refine wv rfl rfl rfl (R_move rfl rfl) <| wv rfl rfl rfl (R_move rfl rfl) <| wv rfl rfl rfl (R_len rfl rfl Try.underlying22) <| wv rfl rfl rfl (R_bin rfl rfl rfl rfl rfl) ?_
 refine W_nil ?_
 refine E_then ?_
 refine C_ite rfl (fun hC0 => ?_) (fun hC0 => ?_)
 ·have _hC0 := trivial
  have hC0p : (i : Int) < ((slotsS a0).length : Int) := by simpa using hC0
  refine C_skip ?_
  refine E_then ?_
  refine C_seq ?_
  refine C_block ?_
  refine C_seq ?_
  refine C_region ?_
  refine wv rfl rfl rfl (R_move rfl rfl) <| wv rfl rfl rfl (R_move rfl rfl) <| wv rfl rfl rfl (R_sub64 rfl rfl rfl (by omega) (by omega)) ?_
  obtain ⟨q9, hAq9, hxq9⟩ := (hS.rw 1 rfl).ix (0 : Int) (i := ((i : Int) - 1)) (by omega) (by omega)
  refine wv rfl rfl rfl (R_idx rfl rfl hAq9 rfl Try.underlying22 size3 (by omega) (by omega)) <| wv rfl rfl rfl (R_load1 rfl rfl agg3 ((hS.rw 1 rfl).cellAt hAq9 hxq9 (fun _ h => h) 0 _ rfl)) <| wv rfl rfl rfl (R_bin rfl rfl rfl rfl rfl) <| wv rfl rfl rfl (R_move rfl rfl) <| wg rfl rfl (Gd.on rfl rfl rfl) (fun hB => R_move rfl rfl) <| wg rfl rfl (Gd.on rfl rfl rfl) (fun hB => R_move rfl rfl) <| wg (v := .pointer (AR0_2.map (fun q_ => q_.add (i * 1)))) rfl rfl (Gd.on rfl rfl rfl) (fun hB => by have hB0_ : ((slotsS a0).getD ((i : Int) - 1).toNat (0 : Int)) < 0 := (by simpa using (hB)); obtain ⟨q10, hAq10, hxq10⟩ := (hS.rw 1 rfl).ix (0 : Int) (i := (i : Int)) (by omega) (by omega); have e_ : AR0_2.map (fun q_ => q_.add (i * 1)) = some (q10.add (i * 1)) := (by rw [hAq10]; rfl); rw [e_]; exact Runs.at_ (i := 22) (gl rfl hB) (Runs.at_ (i := 21) (gl rfl hB) (R_idx (iv := (i : Int)) rfl rfl hAq10 rfl Try.underlying22 size3 (by omega) (by omega)))) <| wg rfl rfl (Gd.on rfl rfl rfl) (fun hB => by have hB0_ : ((slotsS a0).getD ((i : Int) - 1).toNat (0 : Int)) < 0 := (by simpa using (hB)); obtain ⟨q11, hAq11, hxq11⟩ := (hS.rw 1 rfl).ix (0 : Int) (i := (i : Int)) (by omega) (by omega); exact Runs.at_ (i := 23) (((gl rfl hB)).trans (by rw [hAq11]; rfl)) (R_load1 rfl rfl agg3 ((hS.rw 1 rfl).cellAt hAq11 hxq11 (fun _ h => h) 0 _ rfl))) <| wg rfl rfl (Gd.on rfl rfl rfl) (fun hB => Runs.at_ (i := 24) (gl rfl hB) (R_bin rfl rfl rfl rfl rfl)) <| wv rfl rfl rfl (R_pick_and rfl rfl rfl rfl) ?_
  refine W_nil ?_
  refine E_then (C_fr [(3, .slice Ar4 (scanN (slotsS a0) i).length cr4), (4, .slice AR0_2 (slotsS a0).length cR0_2), (5, .int .i64 (i : Int)), (26, .bool ((decide (((slotsS a0).getD ((i : Int) - 1).toNat (0 : Int)) < 0)) && (decide (((slotsS a0).getD i (0 : Int)) ≥ 0))))] rfl ?_)
  refine C_ite rfl (fun hC1 => ?_) (fun hC1 => ?_)
  ·have _hC1 := trivial
   have hC1p : (((slotsS a0).getD ((i : Int) - 1).toNat (0 : Int)) < 0 ∧ ((slotsS a0).getD i (0 : Int)) ≥ 0) := by simpa using hC1
   refine C_region ?_
   refine wv rfl rfl rfl (R_move rfl rfl) <| wv rfl rfl rfl (R_move rfl rfl) ?_
   refine W_cons rfl (by decide) (S_row (d := (kint .i64)) (q := zE) hS ([(i : Int)] : List Int) rfl (R_buildSlice (ps := [(0, (.tmp 28))]) (vs := [.int .i64 (i : Int)]) (w' := w5.alloc (.cells [.int .i64 (i : Int)].toArray 3)) (r := .slice (some ⟨w5.heap.size, 0, none⟩) 1 1) rfl rfl rfl (by kernel_rfl)) (by simp [Reps, flat, kint]) rfl (by decide) (fun g13 w12 hS => ?_))
   refine W_cons rfl (by decide) (S_append hS 1 rfl rfl rfl elem22 rfl rfl (hS.sow 0 rfl (fun _ _ h => h)) (by (try simp only [List.length_cons, List.length_nil, List.length_append, maxLen]); omega) (by (try simp only [List.length_cons, List.length_nil, List.length_append, maxLen]); omega) (fun Ar15 cr15 w14 hS => ?_))
   have hp16 := hS.cap 1 rfl
   have hlhp16 := hp16.le
   have hmhp16 := hp16.mx
   refine wv rfl rfl rfl (R_assign rfl rfl) ?_
   refine W_nil ?_
   refine E_block_normal ?_
   refine E_then (C_fr [(3, .slice Ar15 ((scanN (slotsS a0) i) ++ ([(i : Int)] : List Int)).length cr15), (4, .slice AR0_2 (slotsS a0).length cR0_2), (5, .int .i64 (i : Int))] rfl ?_)
   refine C_region ?_
   refine wv rfl rfl rfl (R_move rfl rfl) <| wv rfl rfl rfl (R_add64 rfl rfl rfl (by omega) (by omega)) <| wv rfl rfl rfl (R_assign rfl rfl) ?_
   refine W_nil ?_
   have hs17 : (scanN (slotsS a0) i) ++ ([(i : Int)] : List Int) = scanN (slotsS a0) (i + 1 : Nat) := by exact scan_yes' (by omega) hC1p.1 hC1p.2
   have hS := hS.re 1 rfl hs17
   refine E_round [3, 4, 5] ?_ ⟨(i + 1 : Nat), Ar15, cr15, (by rw [← hs17] <;> rfl), (by omega), (by omega), rfl, hS.fin [1, 2] (by decide) rfl⟩
   omega
  ·have _hC1 := trivial
   have hC1p : ¬ ((((slotsS a0).getD ((i : Int) - 1).toNat (0 : Int)) < 0 ∧ ((slotsS a0).getD i (0 : Int)) ≥ 0)) := by simpa using hC1
   refine C_skip ?_
   refine E_block_normal ?_
   refine E_then ?_
   refine C_region ?_
   refine wv rfl rfl rfl (R_move rfl rfl) <| wv rfl rfl rfl (R_add64 rfl rfl rfl (by omega) (by omega)) <| wv rfl rfl rfl (R_assign rfl rfl) ?_
   refine W_nil ?_
   have hs18 : scanN (slotsS a0) i = scanN (slotsS a0) (i + 1 : Nat) := by exact scan_no' (by omega)
   have hS := hS.re 0 rfl hs18
   refine E_round [3, 4, 5] ?_ ⟨(i + 1 : Nat), Ar4, cr4, (by rw [← hs18] <;> rfl), (by omega), (by omega), rfl, hS.fin [0, 1] (by decide) rfl⟩
   omega
 ·have _hC0 := trivial
  have hC0p : ¬ ((i : Int) < ((slotsS a0).length : Int)) := by simpa using hC0
  refine C_exit ?_
  refine E_then_exit ?_
  refine E_then_exit ?_
  refine E_block_hit ?_
  refine E_then (C_fr [(3, .slice Ar4 (scanN (slotsS a0) i).length cr4), (4, .slice AR0_2 (slotsS a0).length cR0_2)] rfl ?_)
  refine C_seq ?_
  refine C_region ?_
  refine wv rfl rfl rfl (R_move rfl rfl) <| wv rfl rfl rfl (R_move rfl rfl) <| wv rfl rfl rfl (R_len rfl rfl Try.underlying22) ?_
  refine W_cons rfl (by decide) (S_row (d := (kint .i64)) (q := zE) hS ([((slotsS a0).length : Int)] : List Int) rfl (R_buildSlice (ps := [(0, (.tmp 33))]) (vs := [.int .i64 ((slotsS a0).length : Int)]) (w' := w5.alloc (.cells [.int .i64 ((slotsS a0).length : Int)].toArray 3)) (r := .slice (some ⟨w5.heap.size, 0, none⟩) 1 1) rfl rfl rfl (by kernel_rfl)) (by simp [Reps, flat, kint]) rfl (by decide) (fun g20 w19 hS => ?_))
  refine W_cons rfl (by decide) (S_append hS 1 rfl rfl rfl elem22 rfl rfl (hS.sow 0 rfl (fun _ _ h => h)) (by (try simp only [List.length_cons, List.length_nil, List.length_append, maxLen]); omega) (by (try simp only [List.length_cons, List.length_nil, List.length_append, maxLen]); omega) (fun Ar22 cr22 w21 hS => ?_))
  have hp23 := hS.cap 1 rfl
  have hlhp23 := hp23.le
  have hmhp23 := hp23.mx
  refine wv rfl rfl rfl (R_assign rfl rfl) ?_
  refine W_nil ?_
  refine E_then (C_fr [(2, .slice Ar22 ((scanN (slotsS a0) i) ++ ([((slotsS a0).length : Int)] : List Int)).length cr22)] rfl ?_)
  refine C_ret ?_
  have hq24 : (scanN (slotsS a0) i) ++ ([((slotsS a0).length : Int)] : List Int) = startsS a0 := by exact scan_done a0 i (by omega)
  have hS := hS.re 1 rfl hq24
  refine E_ret1 rfl rfl ?_
  exact ⟨Ar22, cr22, Lret1 (Lslice hq24), hS.fin [1] (by decide) rfl⟩

set_option maxHeartbeats 400000 in
set_option maxRecDepth 20000 in
theorem cisnan_calls (a0 : Int) (z : Z) (w : World) (hI : In z w [])   :
    Calls Try.prog 90 #[.int .i64 a0] w fun e w' => e = .returned (.bool false) ∧ Sp (FF []) w z w' [] := by
 have hS := hI.sp
 refine Calls_of (vs := [.int .i64 a0]) (N := 6) Try.func90 rfl rfl (Nat.le_of_ble_eq_true rfl) ?_
 refine C_seq ?_
 refine C_region ?_
 refine wv rfl rfl rfl (R_assign rfl rfl) ?_
 refine W_nil ?_
 refine E_then ?_
 refine C_seq ?_
 refine C_region ?_
 refine wv rfl rfl rfl (R_move rfl rfl) <| wv rfl rfl rfl (R_move rfl rfl) <| wv rfl rfl rfl (R_bin rfl rfl rfl rfl rfl) <| wv rfl rfl rfl (R_assign rfl rfl) ?_
 refine W_nil ?_
 refine E_then ?_
 refine C_ret ?_
 refine E_ret1 rfl rfl ?_
 exact ⟨Lret1 (Lbool (show (a0 != a0) = false by simp)), hS.fin [] (by decide) rfl⟩

set_option maxHeartbeats 400000 in
set_option maxRecDepth 20000 in
theorem isnan2_calls (a0 : Int) (z : Z) (w : World) (hI : In z w [])   :
    Calls Try.prog 78 #[.int .i64 a0] w fun e w' => e = .returned (.bool false) ∧ Sp (FF []) w z w' [] := by
 have hS := hI.sp
 refine Calls_of (vs := [.int .i64 a0]) (N := 6) Try.func78 rfl rfl (Nat.le_of_ble_eq_true rfl) ?_
 refine C_seq ?_
 refine C_region ?_
 refine wv rfl rfl rfl (R_assign rfl rfl) ?_
 refine W_nil ?_
 refine E_then ?_
 refine C_seq ?_
 refine C_region ?_
 refine wv rfl rfl rfl (R_move rfl rfl) <| wv rfl rfl rfl (R_move rfl rfl) <| wv rfl rfl rfl (R_bin rfl rfl rfl rfl rfl) <| wv rfl rfl rfl (R_assign rfl rfl) ?_
 refine W_nil ?_
 refine E_then ?_
 refine C_ret ?_
 refine E_ret1 rfl rfl ?_
 exact ⟨Lret1 (Lbool (show (a0 != a0) = false by simp)), hS.fin [] (by decide) rfl⟩

set_option maxHeartbeats 400000 in
set_option maxRecDepth 20000 in
theorem less_calls (a0 : Int) (a1 : Int) (z : Z) (w : World) (hI : In z w [])   :
    Calls Try.prog 77 #[.int .i64 a0, .int .i64 a1] w fun e w' => e = .returned (.bool (decide (a0 < a1))) ∧ Sp (FF []) w z w' [] := by
 have hS := hI.sp
 refine Calls_of (vs := [.int .i64 a0, .int .i64 a1]) (N := 17) Try.func77 rfl rfl (Nat.le_of_ble_eq_true rfl) ?_
 refine C_seq ?_
 refine C_region ?_
 refine wv rfl rfl rfl (R_assign rfl rfl) ?_
 refine W_nil ?_
 refine E_then ?_
 refine C_seq ?_
 refine C_region ?_
 refine wv rfl rfl rfl (R_move rfl rfl) ?_
 refine W_cons rfl (by decide) (Sv_call rfl rfl rfl ent90 ?_)
 refine (cisnan_calls a0 _ _ hS.out0  ).mono ?_
 rintro e_ w1 ⟨rfl, hS_⟩
 refine ⟨_, rfl, ?_⟩
 have hS := hS.call0 hS_
 refine wv rfl rfl rfl (R_move rfl rfl) ?_
 refine W_cons rfl (by decide) (Sv_off rfl rfl rfl rfl ?_)
 refine W_cons rfl (by decide) (Sv_off rfl rfl rfl rfl ?_)
 refine W_cons rfl (by decide) (Sv_off rfl rfl rfl rfl ?_)
 refine wv rfl rfl rfl (R_pick_f rfl rfl rfl rfl) <| wv rfl rfl rfl (R_move rfl rfl) ?_
 refine W_cons rfl (by decide) (Sv_gt rfl rfl rfl rfl (Sv_val rfl (R_move rfl rfl) ?_))
 refine W_cons rfl (by decide) (Sv_gt rfl rfl rfl rfl (Sv_val rfl (R_move rfl rfl) ?_))
 refine W_cons rfl (by decide) (Sv_gt rfl rfl rfl rfl (Sv_val rfl (R_bin rfl rfl rfl rfl rfl) ?_))
 refine wv rfl rfl rfl (R_pick_f rfl rfl rfl rfl) <| wv rfl rfl rfl (R_assign rfl rfl) ?_
 refine W_nil ?_
 refine E_then (C_fr [(4, .bool (decide (a0 < a1)))] rfl ?_)
 refine C_ret ?_
 refine E_ret1 rfl rfl ?_
 exact ⟨Lret1 (Lbool (show (decide (a0 < a1)) = (decide (a0 < a1)) by rfl)), hS.fin [] (by decide) rfl⟩

set_option maxHeartbeats 400000 in
set_option maxRecDepth 20000 in
theorem bs_calls (a0 : List Int) (Aa0 : Option Addr) (ca0 : Nat) (a1 : Int) (z : Z) (w : World) (hI : In z w []) (hra0 : Rd (kint .i64) z Aa0 a0) (hca0 : Cap Aa0 a0.length ca0) (p0 : a0.length ≤ 10000000) (p1 : ∀ p q, p ≤ q → q < a0.length → a0.getD p 0 ≤ a0.getD q 0) :
    Calls Try.prog 54 #[.slice Aa0 a0.length ca0, .int .i64 a1] w fun e w' => e = .returned (.tuple #[.int .i64 (bsS a0 a1 : Int), .bool (decide (bsS a0 a1 < a0.length ∧ a0.getD (bsS a0 a1) 0 = a1))]) ∧ Sp (FF []) w z w' [] := by
 have hla0 := hca0.le
 have hma0 := hca0.mx
 have hS := hI.sp
 refine Calls_of (vs := [.slice Aa0 a0.length ca0, .int .i64 a1]) (N := 54) Try.func54 rfl rfl (Nat.le_of_ble_eq_true rfl) ?_
 refine C_seq ?_
 refine C_region ?_
 refine wv rfl rfl rfl (R_assign rfl rfl) <| wv rfl rfl rfl (R_assign rfl rfl) ?_
 refine W_nil ?_
 refine E_then ?_
 refine C_seq ?_
 refine C_region ?_
 refine wv rfl rfl rfl (R_move rfl rfl) <| wv rfl rfl rfl (R_len rfl rfl Try.underlying22) <| wv rfl rfl rfl (R_assign rfl rfl) ?_
 refine W_nil ?_
 refine E_then ?_
 refine C_seq ?_
 refine C_region ?_
 refine wv rfl rfl rfl (R_move rfl rfl) <| wv rfl rfl rfl (R_assign rfl rfl) <| wv rfl rfl rfl (R_assign rfl rfl) ?_
 refine W_nil ?_
 refine E_then (C_fr [(0, .slice Aa0 a0.length ca0), (1, .int .i64 a1), (6, .int .i64 (a0.length : Int)), (7, .int .i64 0), (8, .int .i64 (a0.length : Int))] rfl ?_)
 refine C_seq ?_
 refine C_block ?_
 refine C_fr [(0, .slice Aa0 a0.length ca0), (1, .int .i64 a1), (6, .int .i64 (a0.length : Int)), (7, .int .i64 0), (8, .int .i64 (a0.length : Int))] rfl ?_
 refine C_loop (fun m_ f_ w_ => ∃ (i : Nat) (j : Nat), f_ = [(0, .slice Aa0 a0.length ca0), (1, .int .i64 a1), (6, .int .i64 (a0.length : Int)), (7, .int .i64 (i : Int)), (8, .int .i64 (j : Int))] ∧ i ≤ j ∧ j ≤ a0.length ∧ (∀ q, q < i → a0.getD q 0 < a1) ∧ (∀ q, j ≤ q → q < a0.length → a1 ≤ a0.getD q 0) ∧ m_ = j - i ∧ Sp (FF []) w z w_ []) ((a0.length : Nat) - (0 : Nat)) ⟨(0 : Nat), (a0.length : Nat), rfl, (by omega), (by omega), (by intro q hq; omega), (by intro q h1 h2; omega), rfl, hS.fin [] (by decide) rfl⟩ ?_
 rintro m_ f_ w1 ⟨i, j, rfl, hI0_0, hI0_1, hI0_2, hI0_3, rfl, hS⟩
 refine C_seq ?_
 refine C_seq ?_
 refine C_region ?_
 refine wv rfl rfl rfl (R_move rfl rfl) <| wv rfl rfl rfl (R_move rfl rfl) <| wv rfl rfl rfl (R_bin rfl rfl rfl rfl rfl) ?_
 refine W_nil ?_
 refine E_then ?_
 refine C_ite rfl (fun hC0 => ?_) (fun hC0 => ?_)
 ·have _hC0 := trivial
  have hC0p : (i : Int) < (j : Int) := by simpa using hC0
  refine C_skip ?_
  refine E_then ?_
  refine C_block ?_
  refine C_seq ?_
  refine C_region ?_
  refine wv rfl rfl rfl (R_move rfl rfl) <| wv rfl rfl rfl (R_move rfl rfl) <| wv rfl rfl rfl (R_add64 rfl rfl rfl (by omega) (by omega)) <| wv rfl rfl rfl (R_convi rfl rfl Try.underlying3 Try.underlying36 (by exact wrap_u64 (by omega) (by omega))) <| wv rfl rfl rfl ((show Runs _ _ _ _ (.int .u64 (((i : Int) + (j : Int)) / 2)) _ from R_shr (n := 1) rfl rfl rfl (by omega) (by decide))) <| wv rfl rfl rfl (R_convi rfl rfl Try.underlying36 Try.underlying3 (by exact wrap_id (by omega) (by omega))) <| wv rfl rfl rfl (R_assign rfl rfl) ?_
  refine W_nil ?_
  refine E_then (C_fr [(0, .slice Aa0 a0.length ca0), (1, .int .i64 a1), (6, .int .i64 (a0.length : Int)), (7, .int .i64 (i : Int)), (8, .int .i64 (j : Int)), (9, .int .i64 (((i : Int) + (j : Int)) / 2))] rfl ?_)
  refine C_seq ?_
  refine C_region ?_
  refine wv rfl rfl rfl (R_move rfl rfl) <| wv rfl rfl rfl (R_move rfl rfl) ?_
  obtain ⟨q2, csq2, hAq2, rfl, hkq2⟩ := hra0.at_ (0 : Int) (i := (((i : Int) + (j : Int)) / 2)) (by omega) (by omega)
  refine wv rfl rfl rfl (R_idx rfl rfl hAq2 rfl Try.underlying22 size3 (by omega) (by omega)) <| wv rfl rfl rfl (R_load1 rfl rfl agg3 (hS.sub.cell (hkq2 0 _ rfl))) <| wv rfl rfl rfl (R_move rfl rfl) ?_
  refine W_cons rfl (by decide) (Sv_call rfl rfl rfl ent77 ?_)
  refine (less_calls (a0.getD (((i : Int) + (j : Int)) / 2).toNat (0 : Int)) a1 _ _ hS.out0  ).mono ?_
  rintro e_ w3 ⟨rfl, hS_⟩
  refine ⟨_, rfl, ?_⟩
  have hS := hS.call0 hS_
  refine W_nil ?_
  refine E_then (C_fr [(0, .slice Aa0 a0.length ca0), (1, .int .i64 a1), (6, .int .i64 (a0.length : Int)), (7, .int .i64 (i : Int)), (8, .int .i64 (j : Int)), (9, .int .i64 (((i : Int) + (j : Int)) / 2)), (27, .bool (decide ((a0.getD (((i : Int) + (j : Int)) / 2).toNat (0 : Int)) < a1)))] rfl ?_)
  refine C_ite rfl (fun hC1 => ?_) (fun hC1 => ?_)
  ·have _hC1 := trivial
   refine C_region ?_
   refine wv rfl rfl rfl (R_move rfl rfl) <| wv rfl rfl rfl (R_add64 rfl rfl rfl (by omega) (by omega)) <| wv rfl rfl rfl (R_assign rfl rfl) ?_
   refine W_nil ?_
   refine E_block_normal ?_
   have hs5 : (((i : Int) + (j : Int)) / 2) + 1 = (((i + j) / 2 + 1 : Nat) : Int) := by omega
   refine E_round [0, 1, 6, 7, 8] ?_ ⟨((i + j) / 2 + 1 : Nat), (j : Nat), (by rw [← hs5] <;> rfl), (by omega), (by omega), (by intro q hq; have h1 := p1 q ((i + j) / 2) (by omega) (by omega); have h2 : (((i : Int) + (j : Int)) / 2).toNat = (i + j) / 2 := (by omega); have h4 := of_decide_eq_true hC1; rw [h2] at h4; omega), (by exact hI0_3), rfl, hS.fin [] (by decide) rfl⟩
   omega
  ·have _hC1 := trivial
   refine C_region ?_
   refine wv rfl rfl rfl (R_move rfl rfl) <| wv rfl rfl rfl (R_assign rfl rfl) ?_
   refine W_nil ?_
   refine E_block_normal ?_
   have hs6 : ((i : Int) + (j : Int)) / 2 = (((i + j) / 2 : Nat) : Int) := by omega
   refine E_round [0, 1, 6, 7, 8] ?_ ⟨(i : Nat), ((i + j) / 2 : Nat), (by rw [← hs6] <;> rfl), (by omega), (by omega), (by exact hI0_2), (by intro q h1 h3; have h1 := p1 ((i + j) / 2) q (by omega) (by omega); have h2 : (((i : Int) + (j : Int)) / 2).toNat = (i + j) / 2 := (by omega); have h4 := of_decide_eq_false hC1; rw [h2] at h4; omega), rfl, hS.fin [] (by decide) rfl⟩
   omega
 ·have _hC0 := trivial
  have hC0p : ¬ ((i : Int) < (j : Int)) := by simpa using hC0
  refine C_exit ?_
  refine E_then_exit ?_
  refine E_then_exit ?_
  refine E_block_hit ?_
  refine E_then ?_
  refine C_seq ?_
  refine C_region ?_
  refine wv rfl rfl rfl (R_move rfl rfl) <| wv rfl rfl rfl (R_move rfl rfl) <| wv rfl rfl rfl (R_move rfl rfl) <| wv rfl rfl rfl (R_bin rfl rfl rfl rfl rfl) <| wv rfl rfl rfl (R_move rfl rfl) <| wg rfl rfl (Gd.on rfl rfl rfl) (fun hB => R_move rfl rfl) <| wg rfl rfl (Gd.on rfl rfl rfl) (fun hB => R_move rfl rfl) <| wg (v := .pointer (Aa0.map (fun q_ => q_.add (i * 1)))) rfl rfl (Gd.on rfl rfl rfl) (fun hB => by have hB0_ : (i : Int) < (a0.length : Int) := (by simpa using (hB)); obtain ⟨q7, csq7, hAq7, rfl, hkq7⟩ := hra0.at_ (0 : Int) (i := (i : Int)) (by omega) (by omega); have hkq7 : ∀ (j_ : Nat) (u_ : Value), ([.int .i64 (a0.getD i (0 : Int))] : List Value)[j_]? = some u_ → cz z (q7.add (i * 1 + j_)) = some u_ := hkq7; have e_ : Aa0.map (fun q_ => q_.add (i * 1)) = some (q7.add (i * 1)) := (by rw [hAq7]; rfl); rw [e_]; exact Runs.at_ (i := 37) (gl rfl hB) (Runs.at_ (i := 36) (gl rfl hB) (R_idx (iv := (i : Int)) rfl rfl hAq7 rfl Try.underlying22 size3 (by omega) (by omega)))) <| wg rfl rfl (Gd.on rfl rfl rfl) (fun hB => by have hB0_ : (i : Int) < (a0.length : Int) := (by simpa using (hB)); obtain ⟨q8, csq8, hAq8, rfl, hkq8⟩ := hra0.at_ (0 : Int) (i := (i : Int)) (by omega) (by omega); have hkq8 : ∀ (j_ : Nat) (u_ : Value), ([.int .i64 (a0.getD i (0 : Int))] : List Value)[j_]? = some u_ → cz z (q8.add (i * 1 + j_)) = some u_ := hkq8; exact Runs.at_ (i := 38) (((gl rfl hB)).trans (by rw [hAq8]; rfl)) (R_load1 rfl rfl agg3 (hS.sub.cell (hkq8 0 _ rfl)))) <| wg rfl rfl (Gd.on rfl rfl rfl) (fun hB => R_move rfl rfl) <| wg rfl rfl (Gd.on rfl rfl rfl) (fun hB => Runs.at_ (i := 40) (gl rfl hB) (Runs.at_ (i := 39) (gl rfl hB) (R_bin rfl rfl rfl rfl rfl))) <| wg rfl rfl (Gd.on rfl rfl rfl) (fun hB => Runs.at_ (i := 41) (gl rfl hB) (R_move rfl rfl)) <| wg rfl rfl (Gd.gno rfl rfl rfl) (fun hB => R_move rfl rfl) <| wg rfl rfl (Gd.gno rfl rfl rfl) (fun hB => R_move rfl rfl) <| wg (v := .pointer (Aa0.map (fun q_ => q_.add (i * 1)))) rfl rfl (Gd.gno rfl rfl rfl) (fun hB => by have hB0_ : (i : Int) < (a0.length : Int) := (by simpa using ((ga hB))); have hB1_ : ¬ ((a0.getD i (0 : Int)) = a1) := (by simpa using (gb hB)); obtain ⟨q9, csq9, hAq9, rfl, hkq9⟩ := hra0.at_ (0 : Int) (i := (i : Int)) (by omega) (by omega); have hkq9 : ∀ (j_ : Nat) (u_ : Value), ([.int .i64 (a0.getD i (0 : Int))] : List Value)[j_]? = some u_ → cz z (q9.add (i * 1 + j_)) = some u_ := hkq9; have e_ : Aa0.map (fun q_ => q_.add (i * 1)) = some (q9.add (i * 1)) := (by rw [hAq9]; rfl); rw [e_]; exact Runs.at_ (i := 44) (gl rfl hB) (Runs.at_ (i := 43) (gl rfl hB) (R_idx (iv := (i : Int)) rfl rfl hAq9 rfl Try.underlying22 size3 (by omega) (by omega)))) <| wg rfl rfl (Gd.gno rfl rfl rfl) (fun hB => by have hB0_ : (i : Int) < (a0.length : Int) := (by simpa using ((ga hB))); have hB1_ : ¬ ((a0.getD i (0 : Int)) = a1) := (by simpa using (gb hB)); obtain ⟨q10, csq10, hAq10, rfl, hkq10⟩ := hra0.at_ (0 : Int) (i := (i : Int)) (by omega) (by omega); have hkq10 : ∀ (j_ : Nat) (u_ : Value), ([.int .i64 (a0.getD i (0 : Int))] : List Value)[j_]? = some u_ → cz z (q10.add (i * 1 + j_)) = some u_ := hkq10; exact Runs.at_ (i := 45) (((gl rfl hB)).trans (by rw [hAq10]; rfl)) (R_load1 rfl rfl agg3 (hS.sub.cell (hkq10 0 _ rfl)))) ?_
  refine W_cons rfl (by decide) (Sv_gcall (Gd.gno rfl rfl rfl) hS (fun hB => Sv.at_ (i := 46) (gl rfl hB) (Sv_call rfl rfl rfl ent78 ((isnan2_calls (a0.getD i (0 : Int)) _ _ hS.out0  ).mono (fun _ _ h_ => ⟨_, h_.1, rfl, hS.call0 h_.2⟩)))) (fun w11 hS => ?_))
  refine wg rfl rfl (Gd.gno rfl rfl rfl) (fun hB => Runs.at_ (i := 47) (gl rfl hB) (R_move rfl rfl)) <| wg rfl rfl (Gd.gon rfl rfl rfl) (fun hB => R_move rfl rfl) ?_
  refine W_cons rfl (by decide) (Sv_gcall (Gd.gon rfl rfl rfl) hS (fun hB => Sv.at_ (i := 49) (gl rfl hB) (Sv_call rfl rfl rfl ent78 ((isnan2_calls a1 _ _ hS.out0  ).mono (fun _ _ h_ => ⟨_, h_.1, rfl, hS.call0 h_.2⟩)))) (fun w12 hS => ?_))
  refine wg rfl rfl (Gd.gno rfl rfl rfl) (fun hB => Runs.at_ (i := 50) (gl2 rfl hB) (Runs.at_ (i := 48) (gl rfl hB) (R_pick_and rfl rfl rfl rfl))) <| wg rfl rfl (Gd.on rfl rfl rfl) (fun hB => Runs.at_ (i := 51) (gl2 rfl hB) (Runs.at_ (i := 42) (gl rfl hB) (R_pick_or rfl rfl rfl rfl))) <| wv rfl rfl rfl (R_pick_and rfl rfl rfl rfl) <| wv rfl rfl rfl (R_assign rfl rfl) <| wv rfl rfl rfl (R_assign rfl rfl) ?_
  refine W_nil ?_
  refine E_then (C_fr [(4, .int .i64 (i : Int)), (5, .bool ((decide ((i : Int) < (a0.length : Int))) && (((a0.getD i (0 : Int)) == a1) || (false && false))))] rfl ?_)
  refine C_ret ?_
  refine E_ret2 rfl rfl rfl ?_
  exact ⟨Lret2 (Lint (show (i : Int) = (bsS a0 a1 : Int) by rw [show bsS a0 a1 = i from bs_of (by omega) hI0_2 (fun h => hI0_3 i (by omega) h)]; try (first | (rw [eq_comm, decide_eq_true_eq]; omega) | (rw [eq_comm, decide_eq_false_iff_not]; omega) | (rw [Bool.eq_iff_iff]; simp <;> omega)))) (Lbool (show ((decide ((i : Int) < (a0.length : Int))) && (((a0.getD i (0 : Int)) == a1) || (false && false))) = (decide (bsS a0 a1 < a0.length ∧ a0.getD (bsS a0 a1) 0 = a1)) by rw [show bsS a0 a1 = i from bs_of (by omega) hI0_2 (fun h => hI0_3 i (by omega) h)]; try (first | (rw [eq_comm, decide_eq_true_eq]; omega) | (rw [eq_comm, decide_eq_false_iff_not]; omega) | (rw [Bool.eq_iff_iff]; simp <;> omega)))), hS.fin [] (by decide) rfl⟩

set_option maxHeartbeats 400000 in
set_option maxRecDepth 20000 in
theorem find_calls (a0 : List Int) (Aa0 : Option Addr) (ca0 : Nat) (a1 : Int) (z : Z) (w : World) (hI : In z w []) (hra0 : Rd (kint .i64) z Aa0 a0) (hca0 : Cap Aa0 a0.length ca0) (p0 : a0.length ≤ 1000000) (p1 : -9223372036854775808 ≤ a1) :
    Calls Try.prog 24 #[.slice Aa0 a0.length ca0, .int .i64 a1] w fun e w' => e = .returned (.tuple #[.int .i64 (findS a0 a1).1, .int .i64 (findS a0 a1).2]) ∧ Sp (FF []) w z w' [] := by
 have hla0 := hca0.le
 have hma0 := hca0.mx
 have hS := hI.sp
 have hsl := starts_len a0
 have hsb := starts_bd a0 a0.length (Nat.le_refl _)
 refine Calls_of (vs := [.slice Aa0 a0.length ca0, .int .i64 a1]) (N := 47) Try.func24 rfl rfl (Nat.le_of_ble_eq_true rfl) ?_
 refine C_seq ?_
 refine C_region ?_
 refine wv rfl rfl rfl (R_assign rfl rfl) <| wv rfl rfl rfl (R_assign rfl rfl) ?_
 refine W_nil ?_
 refine E_then ?_
 refine C_seq ?_
 refine C_region ?_
 refine wv rfl rfl rfl (R_move rfl rfl) ?_
 refine W_cons rfl (by decide) (Sv_call rfl rfl rfl ent43 ?_)
 refine (starts_calls a0 Aa0 ca0 _ _ hS.out0 (hra0.mono (hS.zl [])) hca0 (by omega)).mono ?_
 rintro e_ w1 ⟨AR0_2, cR0_2, rfl, hS_⟩
 refine ⟨_, rfl, ?_⟩
 have hS := hS.call0 hS_
 have hp3 := hS.cap 0 rfl
 have hlhp3 := hp3.le
 have hmhp3 := hp3.mx
 refine wv rfl rfl rfl (R_assign rfl rfl) ?_
 refine W_nil ?_
 refine E_then ?_
 refine C_seq ?_
 refine C_seq ?_
 refine C_region ?_
 refine wv rfl rfl rfl (R_move rfl rfl) <| wv rfl rfl rfl (R_bin rfl rfl rfl rfl rfl) <| wv rfl rfl rfl (R_move rfl rfl) <| wg rfl rfl (Gd.no rfl rfl rfl) (fun hB => R_move rfl rfl) <| wg rfl rfl (Gd.no rfl rfl rfl) (fun hB => R_move rfl rfl) <| wg rfl rfl (Gd.no rfl rfl rfl) (fun hB => R_move rfl rfl) <| wg rfl rfl (Gd.no rfl rfl rfl) (fun hB => Runs.at_ (i := 16) (gl rfl hB) (R_len rfl rfl Try.underlying22)) <| wg (v := .pointer (AR0_2.map (fun q_ => q_.add (a0.length * 1)))) rfl rfl (Gd.no rfl rfl rfl) (fun hB => by have hB0_ : ¬ (a1 < 0) := (by simpa using (hB)); obtain ⟨q4, hAq4, hxq4⟩ := (hS.rw 0 rfl).ix (0 : Int) (i := (a0.length : Int)) (by omega) (by omega); have e_ : AR0_2.map (fun q_ => q_.add (a0.length * 1)) = some (q4.add (a0.length * 1)) := (by rw [hAq4]; rfl); rw [e_]; exact Runs.at_ (i := 17) (gl rfl hB) (Runs.at_ (i := 15) (gl rfl hB) (R_idx (iv := (a0.length : Int)) rfl rfl hAq4 rfl Try.underlying22 size3 (by omega) (by omega)))) <| wg rfl rfl (Gd.no rfl rfl rfl) (fun hB => by have hB0_ : ¬ (a1 < 0) := (by simpa using (hB)); obtain ⟨q5, hAq5, hxq5⟩ := (hS.rw 0 rfl).ix (0 : Int) (i := (a0.length : Int)) (by omega) (by omega); exact Runs.at_ (i := 18) (((gl rfl hB)).trans (by rw [hAq5]; rfl)) (R_load1 rfl rfl agg3 ((hS.rw 0 rfl).cellAt hAq5 hxq5 (fun _ h => h) 0 _ rfl))) <| wg rfl rfl (Gd.no rfl rfl rfl) (fun hB => Runs.at_ (i := 19) (gl rfl hB) (Runs.at_ (i := 14) (gl rfl hB) (R_bin rfl rfl rfl rfl rfl))) <| wv rfl rfl rfl (R_pick_or rfl rfl rfl rfl) ?_
 refine W_nil ?_
 refine E_then (C_fr [(1, .int .i64 a1), (6, .slice AR0_2 (startsS a0).length cR0_2), (21, .bool ((decide (a1 < 0)) || (decide (a1 ≥ ((startsS a0).getD a0.length (0 : Int))))))] rfl ?_)
 refine C_ite rfl (fun hC0 => ?_) (fun hC0 => ?_)
 ·have _hC0 := trivial
  have hC0p : (a1 < 0 ∨ a1 ≥ ((startsS a0).getD a0.length (0 : Int))) := by simpa using hC0
  refine C_seq ?_
  refine C_region ?_
  refine wv rfl rfl rfl (R_assign rfl rfl) <| wv rfl rfl rfl (R_assign rfl rfl) ?_
  refine W_nil ?_
  refine E_then ?_
  refine C_ret ?_
  refine E_then_ret ?_
  refine E_ret2 rfl rfl rfl ?_
  exact ⟨Lret2 (Lint (show (-1) = (findS a0 a1).1 by have hn : 1 ≤ bsS (startsS a0) (a1 + 1) → ((bsS (startsS a0) (a1 + 1) : Int) - 1).toNat = bsS (startsS a0) (a1 + 1) - 1 := (by omega); unfold findS; first | (rw [if_pos (by omega)]) | (rw [if_neg (by omega), if_pos (by assumption)]) | (rw [if_neg (by omega), if_neg (by assumption)]; try rw [hn (by omega)]))) (Lint (show (-1) = (findS a0 a1).2 by have hn : 1 ≤ bsS (startsS a0) (a1 + 1) → ((bsS (startsS a0) (a1 + 1) : Int) - 1).toNat = bsS (startsS a0) (a1 + 1) - 1 := (by omega); unfold findS; first | (rw [if_pos (by omega)]) | (rw [if_neg (by omega), if_pos (by assumption)]) | (rw [if_neg (by omega), if_neg (by assumption)]; try rw [hn (by omega)]))), hS.fin [] (by decide) rfl⟩
 ·have _hC0 := trivial
  have hC0p : ¬ ((a1 < 0 ∨ a1 ≥ ((startsS a0).getD a0.length (0 : Int)))) := by simpa using hC0
  have hfm := find_mid (l := a0) (a := a1) (by omega) (by omega)
  refine C_skip ?_
  refine E_then ?_
  refine C_seq ?_
  refine C_region ?_
  refine wv rfl rfl rfl (R_move rfl rfl) <| wv rfl rfl rfl (R_move rfl rfl) <| wv rfl rfl rfl (R_add64 rfl rfl rfl (by omega) (by omega)) ?_
  refine W_cons rfl (by decide) (Sv_call rfl rfl rfl ent54 ?_)
  refine (bs_calls (startsS a0) AR0_2 cR0_2 (a1 + 1) _ _ hS.out0 (hS.ow [] 0 rfl rfl (zle_E _)) (hS.cap 0 rfl) (by have := starts_len a0; omega) (by exact starts_sorted a0)).mono ?_
  rintro e_ w6 ⟨rfl, hS_⟩
  refine ⟨_, rfl, ?_⟩
  have hS := hS.call0 hS_
  refine wv rfl rfl rfl (R_move rfl rfl) <| wv rfl rfl rfl (R_extract rfl rfl rfl) <| wv rfl rfl rfl (R_extract rfl rfl rfl) <| wv rfl rfl rfl (R_assign rfl rfl) <| wv rfl rfl rfl (R_assign rfl rfl) ?_
  refine W_nil ?_
  refine E_then (C_fr [(1, .int .i64 a1), (6, .slice AR0_2 (startsS a0).length cR0_2), (7, .int .i64 (bsS (startsS a0) (a1 + 1) : Int))] rfl ?_)
  refine C_block ?_
  refine C_seq ?_
  refine C_region ?_
  refine wv rfl rfl rfl (R_move rfl rfl) <| wv rfl rfl rfl (R_move rfl rfl) ?_
  obtain ⟨q8, hAq8, hxq8⟩ := (hS.rw 0 rfl).ix (0 : Int) (i := (bsS (startsS a0) (a1 + 1) : Int)) (by omega) (by omega)
  refine wv rfl rfl rfl (R_idx rfl rfl hAq8 rfl Try.underlying22 size3 (by omega) (by omega)) <| wv rfl rfl rfl (R_load1 rfl rfl agg3 ((hS.rw 0 rfl).cellAt hAq8 hxq8 (fun _ h => h) 0 _ rfl)) <| wv rfl rfl rfl (R_move rfl rfl) <| wv rfl rfl rfl (R_add64 rfl rfl rfl (by omega) (by omega)) <| wv rfl rfl rfl (R_bin rfl rfl rfl rfl rfl) <| wv rfl rfl rfl (R_assign rfl rfl) ?_
  refine W_nil ?_
  refine E_then (C_fr [(1, .int .i64 a1), (6, .slice AR0_2 (startsS a0).length cR0_2), (7, .int .i64 (bsS (startsS a0) (a1 + 1) : Int)), (38, .bool (((startsS a0).getD (bsS (startsS a0) (a1 + 1)) (0 : Int)) == (a1 + 1)))] rfl ?_)
  refine C_ite rfl (fun hC1 => ?_) (fun hC1 => ?_)
  ·have _hC1 := trivial
   have hC1p : ((startsS a0).getD (bsS (startsS a0) (a1 + 1)) (0 : Int)) = (a1 + 1) := by simpa using hC1
   refine C_seq ?_
   refine C_region ?_
   refine wv rfl rfl rfl (R_move rfl rfl) <| wv rfl rfl rfl (R_assign rfl rfl) <| wv rfl rfl rfl (R_assign rfl rfl) ?_
   refine W_nil ?_
   refine E_then (C_fr [(4, .int .i64 (bsS (startsS a0) (a1 + 1) : Int)), (5, .int .i64 (-1))] rfl ?_)
   refine C_ret ?_
   refine E_block_ret ?_
   refine E_ret2 rfl rfl rfl ?_
   exact ⟨Lret2 (Lint (show (bsS (startsS a0) (a1 + 1) : Int) = (findS a0 a1).1 by have hn : 1 ≤ bsS (startsS a0) (a1 + 1) → ((bsS (startsS a0) (a1 + 1) : Int) - 1).toNat = bsS (startsS a0) (a1 + 1) - 1 := (by omega); unfold findS; first | (rw [if_pos (by omega)]) | (rw [if_neg (by omega), if_pos (by assumption)]) | (rw [if_neg (by omega), if_neg (by assumption)]; try rw [hn (by omega)]))) (Lint (show (-1) = (findS a0 a1).2 by have hn : 1 ≤ bsS (startsS a0) (a1 + 1) → ((bsS (startsS a0) (a1 + 1) : Int) - 1).toNat = bsS (startsS a0) (a1 + 1) - 1 := (by omega); unfold findS; first | (rw [if_pos (by omega)]) | (rw [if_neg (by omega), if_pos (by assumption)]) | (rw [if_neg (by omega), if_neg (by assumption)]; try rw [hn (by omega)]))), hS.fin [] (by decide) rfl⟩
  ·have _hC1 := trivial
   have hC1p : ¬ (((startsS a0).getD (bsS (startsS a0) (a1 + 1)) (0 : Int)) = (a1 + 1)) := by simpa using hC1
   have hf1 := hfm.2 hC1p
   have hsb1 := starts_bd a0 (bsS (startsS a0) (a1 + 1) - 1) (by omega)
   have hn : ((bsS (startsS a0) (a1 + 1) : Int) - 1).toNat = bsS (startsS a0) (a1 + 1) - 1 := by omega
   rw [← hn] at hsb1
   refine C_seq ?_
   refine C_fr [(1, .int .i64 a1), (6, .slice AR0_2 (startsS a0).length cR0_2), (7, .int .i64 (bsS (startsS a0) (a1 + 1) : Int))] rfl ?_
   obtain ⟨q11, hAq11, hxq11⟩ := (hS.rw 0 rfl).ix (0 : Int) (i := ((bsS (startsS a0) (a1 + 1) : Int) - 1)) (by omega) (by omega)
   refine C_drawn 11 [[], [0], [], [], [], [4], [3, 5], [6], [2, 7], [1, 0, 1], [8, 9, 0, 1, 2, 3, 4, 5, 6, 7, 8, 9]] [29, 30, 31, 32, 33, 34, 35, 36, 37, 4, 5] [1, 6, 7] rfl (by kernel_rfl) (by decide +kernel) [fun v_ _ => v_ = .int .i64 (bsS (startsS a0) (a1 + 1) : Int), fun v_ _ => v_ = .int .i64 ((bsS (startsS a0) (a1 + 1) : Int) - 1), fun v_ _ => v_ = .int .i64 a1, fun v_ _ => v_ = .slice AR0_2 (startsS a0).length cR0_2, fun v_ _ => v_ = .int .i64 (bsS (startsS a0) (a1 + 1) : Int), fun v_ _ => v_ = .int .i64 ((bsS (startsS a0) (a1 + 1) : Int) - 1), fun v_ _ => v_ = .pointer (some (q11.add (((bsS (startsS a0) (a1 + 1) : Int) - 1).toNat * 1))), fun v_ _ => v_ = .int .i64 ((startsS a0).getD ((bsS (startsS a0) (a1 + 1) : Int) - 1).toNat (0 : Int)), fun v_ _ => v_ = .int .i64 (a1 - ((startsS a0).getD ((bsS (startsS a0) (a1 + 1) : Int) - 1).toNat (0 : Int))), fun v_ _ => v_ = .int .i64 ((bsS (startsS a0) (a1 + 1) : Int) - 1), fun v_ _ => v_ = .int .i64 (a1 - ((startsS a0).getD ((bsS (startsS a0) (a1 + 1) : Int) - 1).toNat (0 : Int)))] ⟨fun _ _ _ h _ => h, ⟨fun _ _ _ h _ => h, ⟨fun _ _ _ h _ => h, ⟨fun _ _ _ h _ => h, ⟨fun _ _ _ h _ => h, ⟨fun _ _ _ h _ => h, ⟨fun _ _ _ h _ => h, ⟨fun _ _ _ h _ => h, ⟨fun _ _ _ h _ => h, ⟨fun _ _ _ h _ => h, ⟨fun _ _ _ h _ => h, trivial⟩⟩⟩⟩⟩⟩⟩⟩⟩⟩⟩ ⟨fun w9 hc10 => by have hS := hS.chg0 hc10; exact Sv_val rfl (R_move rfl rfl) ⟨Chg.refl _ _, rfl⟩, ⟨fun w9 hc10 => by have hS := hS.chg0 hc10; rintro _ rfl; exact Sv_val rfl (R_sub64 rfl rfl rfl (by omega) (by omega)) ⟨Chg.refl _ _, rfl⟩, ⟨fun w9 hc10 => by have hS := hS.chg0 hc10; exact Sv_val rfl (R_move rfl rfl) ⟨Chg.refl _ _, rfl⟩, ⟨fun w9 hc10 => by have hS := hS.chg0 hc10; exact Sv_val rfl (R_move rfl rfl) ⟨Chg.refl _ _, rfl⟩, ⟨fun w9 hc10 => by have hS := hS.chg0 hc10; exact Sv_val rfl (R_move rfl rfl) ⟨Chg.refl _ _, rfl⟩, ⟨fun w9 hc10 => by have hS := hS.chg0 hc10; rintro _ rfl; exact Sv_val rfl (R_sub64 rfl rfl rfl (by omega) (by omega)) ⟨Chg.refl _ _, rfl⟩, ⟨fun w9 hc10 => by have hS := hS.chg0 hc10; rintro _ rfl _ rfl; exact Sv_val rfl (R_idx rfl rfl hAq11 rfl Try.underlying22 size3 (by omega) (by omega)) ⟨Chg.refl _ _, rfl⟩, ⟨fun w9 hc10 => by have hS := hS.chg0 hc10; rintro _ rfl; exact Sv_val rfl (R_load1 rfl rfl agg3 ((hS.rw 0 rfl).cellAt hAq11 hxq11 (fun _ h => h) 0 _ rfl)) ⟨Chg.refl _ _, rfl⟩, ⟨fun w9 hc10 => by have hS := hS.chg0 hc10; rintro _ rfl _ rfl; exact Sv_val rfl (R_sub64 rfl rfl rfl (by omega) (by omega)) ⟨Chg.refl _ _, rfl⟩, ⟨fun w9 hc10 => by have hS := hS.chg0 hc10; rintro _ rfl _ rfl _ rfl; exact Sv_val rfl (R_assign rfl rfl) ⟨Chg.refl _ _, rfl⟩, ⟨fun w9 hc10 => by have hS := hS.chg0 hc10; rintro _ rfl _ rfl _ rfl _ rfl _ rfl _ rfl _ rfl _ rfl _ rfl _ rfl _ rfl _ rfl; exact Sv_val rfl (R_assign rfl rfl) ⟨Chg.refl _ _, rfl⟩, trivial⟩⟩⟩⟩⟩⟩⟩⟩⟩⟩⟩ ?_
   intro w9 hc10
   have hS := hS.chg0 hc10
   rintro _ rfl _ rfl _ rfl _ rfl _ rfl _ rfl _ rfl _ rfl _ rfl _ rfl _ rfl
   refine An_fr [(4, .int .i64 ((bsS (startsS a0) (a1 + 1) : Int) - 1)), (5, .int .i64 (a1 - ((startsS a0).getD ((bsS (startsS a0) (a1 + 1) : Int) - 1).toNat (0 : Int))))] rfl ?_
   refine An_done (by decide +kernel) ?_
   refine E_then ?_
   refine C_ret ?_
   refine E_block_ret ?_
   refine E_ret2 rfl rfl rfl ?_
   exact ⟨Lret2 (Lint (show (bsS (startsS a0) (a1 + 1) : Int) - 1 = (findS a0 a1).1 by have hn : 1 ≤ bsS (startsS a0) (a1 + 1) → ((bsS (startsS a0) (a1 + 1) : Int) - 1).toNat = bsS (startsS a0) (a1 + 1) - 1 := (by omega); unfold findS; first | (rw [if_pos (by omega)]) | (rw [if_neg (by omega), if_pos (by assumption)]) | (rw [if_neg (by omega), if_neg (by assumption)]; try rw [hn (by omega)]))) (Lint (show a1 - ((startsS a0).getD ((bsS (startsS a0) (a1 + 1) : Int) - 1).toNat (0 : Int)) = (findS a0 a1).2 by have hn : 1 ≤ bsS (startsS a0) (a1 + 1) → ((bsS (startsS a0) (a1 + 1) : Int) - 1).toNat = bsS (startsS a0) (a1 + 1) - 1 := (by omega); unfold findS; first | (rw [if_pos (by omega)]) | (rw [if_neg (by omega), if_pos (by assumption)]) | (rw [if_neg (by omega), if_neg (by assumption)]; try rw [hn (by omega)]))), hS.fin [] (by decide) rfl⟩

set_option maxHeartbeats 4000000 in
set_option maxRecDepth 20000 in
theorem awithin_calls (a0 : List Int) (Aa0 : Option Addr) (ca0 : Nat) (a1 : List Int) (Aa1 : Option Addr) (ca1 : Nat) (a2 : TRect) (z : Z) (w : World) (hI : In z w []) (hra0 : Rd (kint .i64) z Aa0 a0) (hca0 : Cap Aa0 a0.length ca0) (hra1 : Rd (kint .i64) z Aa1 a1) (hca1 : Cap Aa1 a1.length ca1) (p0 : a0.length ≤ 1000) (p1 : a1.length ≤ 1000) :
    Calls Try.prog 41 #[.slice Aa0 a0.length ca0, .slice Aa1 a1.length ca1, .agg #[.int .i64 a2.Row, .int .i64 a2.Col, .int .i64 a2.Rows, .int .i64 a2.Cols]] w fun e w' => e = .returned (.bool (insideS a0.length a1.length a2)) ∧ Sp (FF []) w z w' [] := by
 have hla0 := hca0.le
 have hma0 := hca0.mx
 have hla1 := hca1.le
 have hma1 := hca1.mx
 have hS := hI.sp
 refine Calls_of (vs := [.slice Aa0 a0.length ca0, .slice Aa1 a1.length ca1, .agg #[.int .i64 a2.Row, .int .i64 a2.Col, .int .i64 a2.Rows, .int .i64 a2.Cols]]) (N := 61) Try.func41 rfl rfl (Nat.le_of_ble_eq_true rfl) ?_
 refine C_seq ?_
 refine C_region ?_
 refine W_cons rfl (by decide) (S_box hS rfl (R_box (cs := [.int .i64 a2.Row, .int .i64 a2.Col, .int .i64 a2.Rows, .int .i64 a2.Cols]) rfl rfl rfl) (fun b2 w1 hS => ?_))
 refine wv rfl rfl rfl (R_assign rfl rfl) ?_
 refine W_nil ?_
 refine E_then ?_
 refine C_seq ?_
 refine C_region ?_
 refine wv rfl rfl rfl (R_fld rfl rfl fld39_0) <| wv rfl rfl rfl (R_load1 rfl rfl agg3 ((hS.bx 0 rfl).cell rfl)) <| wv rfl rfl rfl (R_bin rfl rfl rfl rfl rfl) <| wv rfl rfl rfl (R_move rfl rfl) <| wg rfl rfl (Gd.on rfl rfl rfl) (fun hB => R_fld rfl rfl fld39_2) <| wg rfl rfl (Gd.on rfl rfl rfl) (fun hB => Runs.at_ (i := 12) (gl rfl hB) (R_load1 rfl rfl agg3 ((hS.bx 0 rfl).cell rfl))) <| wg rfl rfl (Gd.on rfl rfl rfl) (fun hB => Runs.at_ (i := 13) (gl rfl hB) (R_bin rfl rfl rfl rfl rfl)) <| wv rfl rfl rfl (R_pick_and rfl rfl rfl rfl) <| wv rfl rfl rfl (R_move rfl rfl) <| wg rfl rfl (Gd.on rfl rfl rfl) (fun hB => R_fld rfl rfl fld39_0) <| wg rfl rfl (Gd.on rfl rfl rfl) (fun hB => Runs.at_ (i := 17) (gl rfl hB) (R_load1 rfl rfl agg3 ((hS.bx 0 rfl).cell rfl))) <| wg rfl rfl (Gd.on rfl rfl rfl) (fun hB => R_move rfl rfl) <| wg rfl rfl (Gd.on rfl rfl rfl) (fun hB => Runs.at_ (i := 19) (gl rfl hB) (R_len rfl rfl Try.underlying22)) <| wg rfl rfl (Gd.on rfl rfl rfl) (fun hB => Runs.at_ (i := 20) (gl rfl hB) (Runs.at_ (i := 18) (gl rfl hB) (R_bin rfl rfl rfl rfl rfl))) <| wv rfl rfl rfl (R_pick_and rfl rfl rfl rfl) <| wv rfl rfl rfl (R_move rfl rfl) <| wg rfl rfl (Gd.on rfl rfl rfl) (fun hB => R_fld rfl rfl fld39_2) <| wg rfl rfl (Gd.on rfl rfl rfl) (fun hB => Runs.at_ (i := 24) (gl rfl hB) (R_load1 rfl rfl agg3 ((hS.bx 0 rfl).cell rfl))) <| wg rfl rfl (Gd.on rfl rfl rfl) (fun hB => R_move rfl rfl) <| wg rfl rfl (Gd.on rfl rfl rfl) (fun hB => Runs.at_ (i := 26) (gl rfl hB) (R_len rfl rfl Try.underlying22)) <| wg rfl rfl (Gd.on rfl rfl rfl) (fun hB => R_fld rfl rfl fld39_0) <| wg rfl rfl (Gd.on rfl rfl rfl) (fun hB => Runs.at_ (i := 28) (gl rfl hB) (R_load1 rfl rfl agg3 ((hS.bx 0 rfl).cell rfl))) <| wg rfl rfl (Gd.on rfl rfl rfl) (fun hB => by have hB0_ : ((a2.Row ≥ 0 ∧ a2.Rows ≥ 1) ∧ a2.Row < (a1.length : Int)) := (by simpa using (hB)); exact Runs.at_ (i := 29) (gl rfl hB) (Runs.at_ (i := 27) (gl rfl hB) (R_sub64 rfl rfl rfl (by omega) (by omega)))) <| wg rfl rfl (Gd.on rfl rfl rfl) (fun hB => Runs.at_ (i := 30) (gl rfl hB) (Runs.at_ (i := 25) (gl rfl hB) (R_bin rfl rfl rfl rfl rfl))) <| wv rfl rfl rfl (R_pick_and rfl rfl rfl rfl) <| wv rfl rfl rfl (R_assign rfl rfl) ?_
 refine W_nil ?_
 refine E_then (C_fr [(0, .slice Aa0 a0.length ca0), (5, .pointer (some ⟨b2, 0, none⟩)), (7, .bool ((((decide (a2.Row ≥ 0)) && (decide (a2.Rows ≥ 1))) && (decide (a2.Row < (a1.length : Int)))) && (decide (a2.Rows ≤ ((a1.length : Int) - a2.Row)))))] rfl ?_)
 refine C_seq ?_
 refine C_region ?_
 refine wv rfl rfl rfl (R_move rfl rfl) <| wv rfl rfl rfl (R_move rfl rfl) <| wg rfl rfl (Gd.on rfl rfl rfl) (fun hB => R_fld rfl rfl fld39_1) <| wg rfl rfl (Gd.on rfl rfl rfl) (fun hB => Runs.at_ (i := 35) (gl rfl hB) (R_load1 rfl rfl agg3 ((hS.bx 0 rfl).cell rfl))) <| wg rfl rfl (Gd.on rfl rfl rfl) (fun hB => Runs.at_ (i := 36) (gl rfl hB) (R_bin rfl rfl rfl rfl rfl)) <| wv rfl rfl rfl (R_pick_and rfl rfl rfl rfl) <| wv rfl rfl rfl (R_move rfl rfl) <| wg rfl rfl (Gd.on rfl rfl rfl) (fun hB => R_fld rfl rfl fld39_3) <| wg rfl rfl (Gd.on rfl rfl rfl) (fun hB => Runs.at_ (i := 40) (gl rfl hB) (R_load1 rfl rfl agg3 ((hS.bx 0 rfl).cell rfl))) <| wg rfl rfl (Gd.on rfl rfl rfl) (fun hB => Runs.at_ (i := 41) (gl rfl hB) (R_bin rfl rfl rfl rfl rfl)) <| wv rfl rfl rfl (R_pick_and rfl rfl rfl rfl) <| wv rfl rfl rfl (R_move rfl rfl) <| wg rfl rfl (Gd.on rfl rfl rfl) (fun hB => R_fld rfl rfl fld39_1) <| wg rfl rfl (Gd.on rfl rfl rfl) (fun hB => Runs.at_ (i := 45) (gl rfl hB) (R_load1 rfl rfl agg3 ((hS.bx 0 rfl).cell rfl))) <| wg rfl rfl (Gd.on rfl rfl rfl) (fun hB => R_move rfl rfl) <| wg rfl rfl (Gd.on rfl rfl rfl) (fun hB => Runs.at_ (i := 47) (gl rfl hB) (R_len rfl rfl Try.underlying22)) <| wg rfl rfl (Gd.on rfl rfl rfl) (fun hB => Runs.at_ (i := 48) (gl rfl hB) (Runs.at_ (i := 46) (gl rfl hB) (R_bin rfl rfl rfl rfl rfl))) <| wv rfl rfl rfl (R_pick_and rfl rfl rfl rfl) <| wv rfl rfl rfl (R_move rfl rfl) <| wg rfl rfl (Gd.on rfl rfl rfl) (fun hB => R_fld rfl rfl fld39_3) <| wg rfl rfl (Gd.on rfl rfl rfl) (fun hB => Runs.at_ (i := 52) (gl rfl hB) (R_load1 rfl rfl agg3 ((hS.bx 0 rfl).cell rfl))) <| wg rfl rfl (Gd.on rfl rfl rfl) (fun hB => R_move rfl rfl) <| wg rfl rfl (Gd.on rfl rfl rfl) (fun hB => Runs.at_ (i := 54) (gl rfl hB) (R_len rfl rfl Try.underlying22)) <| wg rfl rfl (Gd.on rfl rfl rfl) (fun hB => R_fld rfl rfl fld39_1) <| wg rfl rfl (Gd.on rfl rfl rfl) (fun hB => Runs.at_ (i := 56) (gl rfl hB) (R_load1 rfl rfl agg3 ((hS.bx 0 rfl).cell rfl))) <| wg rfl rfl (Gd.on rfl rfl rfl) (fun hB => by have hB0_ : ((((((a2.Row ≥ 0 ∧ a2.Rows ≥ 1) ∧ a2.Row < (a1.length : Int)) ∧ a2.Rows ≤ ((a1.length : Int) - a2.Row)) ∧ a2.Col ≥ 0) ∧ a2.Cols ≥ 1) ∧ a2.Col < (a0.length : Int)) := (by simpa using (hB)); exact Runs.at_ (i := 57) (gl rfl hB) (Runs.at_ (i := 55) (gl rfl hB) (R_sub64 rfl rfl rfl (by omega) (by omega)))) <| wg rfl rfl (Gd.on rfl rfl rfl) (fun hB => Runs.at_ (i := 58) (gl rfl hB) (Runs.at_ (i := 53) (gl rfl hB) (R_bin rfl rfl rfl rfl rfl))) <| wv rfl rfl rfl (R_pick_and rfl rfl rfl rfl) <| wv rfl rfl rfl (R_assign rfl rfl) ?_
 refine W_nil ?_
 refine E_then (C_fr [(6, .bool ((((((((decide (a2.Row ≥ 0)) && (decide (a2.Rows ≥ 1))) && (decide (a2.Row < (a1.length : Int)))) && (decide (a2.Rows ≤ ((a1.length : Int) - a2.Row)))) && (decide (a2.Col ≥ 0))) && (decide (a2.Cols ≥ 1))) && (decide (a2.Col < (a0.length : Int)))) && (decide (a2.Cols ≤ ((a0.length : Int) - a2.Col)))))] rfl ?_)
 refine C_ret ?_
 refine E_ret1 rfl rfl ?_
 exact ⟨Lret1 (Lbool (show ((((((((decide (a2.Row ≥ 0)) && (decide (a2.Rows ≥ 1))) && (decide (a2.Row < (a1.length : Int)))) && (decide (a2.Rows ≤ ((a1.length : Int) - a2.Row)))) && (decide (a2.Col ≥ 0))) && (decide (a2.Cols ≥ 1))) && (decide (a2.Col < (a0.length : Int)))) && (decide (a2.Cols ≤ ((a0.length : Int) - a2.Col)))) = (insideS a0.length a1.length a2) by unfold insideS; rw [Bool.eq_iff_iff]; simp; omega)), hS.fin [] (by decide) rfl⟩

set_option maxHeartbeats 400000 in
set_option maxRecDepth 20000 in
theorem acorner_calls (a0 : List Int) (Aa0 : Option Addr) (ca0 : Nat) (a1 : List Int) (Aa1 : Option Addr) (ca1 : Nat) (a2 : TRect) (z : Z) (w : World) (hI : In z w []) (hra0 : Rd (kint .i64) z Aa0 a0) (hca0 : Cap Aa0 a0.length ca0) (hra1 : Rd (kint .i64) z Aa1 a1) (hca1 : Cap Aa1 a1.length ca1) (p0 : a0.length ≤ 1000) (p1 : a1.length ≤ 1000) :
    Calls Try.prog 21 #[.slice Aa0 a0.length ca0, .slice Aa1 a1.length ca1, .agg #[.int .i64 a2.Row, .int .i64 a2.Col, .int .i64 a2.Rows, .int .i64 a2.Cols]] w fun e w' => e = .returned (.tuple #[.complex .f64 (acornerS a0 a1 a2).1.re.bits (acornerS a0 a1 a2).1.im.bits, .int .i64 (acornerS a0 a1 a2).2]) ∧ Sp (FF []) w z w' [] := by
 have hla0 := hca0.le
 have hma0 := hca0.mx
 have hla1 := hca1.le
 have hma1 := hca1.mx
 have hS := hI.sp
 have hsl0 := starts_len a0
 have hsl1 := starts_len a1
 refine Calls_of (vs := [.slice Aa0 a0.length ca0, .slice Aa1 a1.length ca1, .agg #[.int .i64 a2.Row, .int .i64 a2.Col, .int .i64 a2.Rows, .int .i64 a2.Cols]]) (N := 26) Try.func21 rfl rfl (Nat.le_of_ble_eq_true rfl) ?_
 refine C_seq ?_
 refine C_region ?_
 refine W_cons rfl (by decide) (S_box hS rfl (R_box (cs := [.int .i64 a2.Row, .int .i64 a2.Col, .int .i64 a2.Rows, .int .i64 a2.Cols]) rfl rfl rfl) (fun b2 w1 hS => ?_))
 refine wv rfl rfl rfl (R_assign rfl rfl) <| wv rfl rfl rfl (R_assign rfl rfl) ?_
 refine W_nil ?_
 refine E_then ?_
 refine C_seq ?_
 refine C_seq ?_
 refine C_region ?_
 refine wv rfl rfl rfl (R_move rfl rfl) <| wv rfl rfl rfl (R_move rfl rfl) <| wv rfl rfl rfl (R_loadN (cs := [.int .i64 a2.Row, .int .i64 a2.Col, .int .i64 a2.Rows, .int .i64 a2.Cols]) rfl rfl agg39 size39 rfl (boxcells (hS.bx 0 rfl) 0 rfl)) ?_
 refine W_cons rfl (by decide) (Sv_call rfl rfl rfl ent41 ?_)
 refine (awithin_calls a0 Aa0 ca0 a1 Aa1 ca1 a2 _ _ hS.out0 (hra0.mono (hS.zl [])) hca0 (hra1.mono (hS.zl [])) hca1 (by omega) (by omega)).mono ?_
 rintro e_ w3 ⟨rfl, hS_⟩
 refine ⟨_, rfl, ?_⟩
 have hS := hS.call0 hS_
 refine wv rfl rfl rfl (R_un rfl rfl rfl) ?_
 refine W_nil ?_
 refine E_then (C_fr [(0, .slice Aa0 a0.length ca0), (1, .slice Aa1 a1.length ca1), (5, .pointer (some ⟨b2, 0, none⟩)), (12, .bool (!(insideS a0.length a1.length a2)))] rfl ?_)
 refine C_ite rfl (fun hC0 => ?_) (fun hC0 => ?_)
 ·have _hC0 := trivial
  have hC0p : ¬ (insideS a0.length a1.length a2 = true) := by simpa using hC0
  have hin : insideS a0.length a1.length a2 = false := by simpa using hC0
  refine C_seq ?_
  refine C_region ?_
  refine wv rfl rfl rfl (R_assign rfl rfl) <| wv rfl rfl rfl (R_assign rfl rfl) ?_
  refine W_nil ?_
  refine E_then ?_
  refine C_ret ?_
  refine E_then_ret ?_
  refine E_ret2 rfl rfl rfl ?_
  exact ⟨Lret2 (show (.complex .f64 (Fl.ofInt 0).bits (Fl.ofInt 0).bits : Value) = .complex .f64 (acornerS a0 a1 a2).1.re.bits (acornerS a0 a1 a2).1.im.bits by first | (rw [corner_in hin]; try rfl) | (rw [corner_out hin]; try rfl)) (Lint (show 4 = (acornerS a0 a1 a2).2 by first | (rw [corner_in hin]; try rfl) | (rw [corner_out hin]; try rfl))), hS.fin [] (by decide) rfl⟩
 ·have _hC0 := trivial
  have hC0p : (insideS a0.length a1.length a2 = true) := by simpa using hC0
  have hin : insideS a0.length a1.length a2 = true := by simpa using hC0
  have hi := inside_of hin
  have hb0 := starts_bd a0 a2.Col.toNat (by omega)
  have hb1 := starts_bd a1 a2.Row.toNat (by omega)
  refine C_skip ?_
  refine E_then ?_
  refine C_seq ?_
  refine C_fr [(0, .slice Aa0 a0.length ca0), (1, .slice Aa1 a1.length ca1), (5, .pointer (some ⟨b2, 0, none⟩))] rfl ?_
  refine C_drawn2 15 [[], [0], [], [2], [1, 3], [4], [], [6, 1], [], [8], [7, 9], [10], [5, 11, 7], [12, 12, 0, 1, 2, 3, 4, 5, 6, 7, 8, 9, 10, 11, 12], [13, 0, 1, 2, 3, 4, 5, 6, 7, 8, 9, 10, 11, 12, 13]] [some 13, some 14, some 15, some 16, some 17, some 18, some 19, some 20, some 21, some 22, some 23, some 24, some 25, some 6, some 7] [0, 1, 5] [15, 4, 15, 15, 15, 15, 15, 10, 15, 15, 15, 15, 15, 15, 15] [[], [], [], [], [1], [], [], [], [], [], [7], [], [], [], []] [[], [], [], [], [], [4], [], [], [], [], [], [10], [], [], []] [fun γ_ => .slice Aa0 a0.length ca0, fun γ_ => .slice (γ_.a 0) (startsS a0).length (γ_.c 0), fun γ_ => .pointer (some ⟨b2, 1, none⟩), fun γ_ => .int .i64 a2.Col, fun γ_ => .pointer ((γ_.a 0).map (fun q_ => q_.add (a2.Col.toNat * 1))), fun γ_ => .int .i64 ((startsS a0).getD a2.Col.toNat (0 : Int)), fun γ_ => .slice Aa1 a1.length ca1, fun γ_ => .slice (γ_.a 0) (startsS a1).length (γ_.c 0), fun γ_ => .pointer (some ⟨b2, 0, none⟩), fun γ_ => .int .i64 a2.Row, fun γ_ => .pointer ((γ_.a 0).map (fun q_ => q_.add (a2.Row.toNat * 1))), fun γ_ => .int .i64 ((startsS a1).getD a2.Row.toNat (0 : Int)), fun γ_ => .complex .f64 (cpt ((startsS a0).getD a2.Col.toNat (0 : Int)) ((startsS a1).getD a2.Row.toNat (0 : Int))).re.bits (cpt ((startsS a0).getD a2.Col.toNat (0 : Int)) ((startsS a1).getD a2.Row.toNat (0 : Int))).im.bits, fun γ_ => .complex .f64 (cpt ((startsS a0).getD a2.Col.toNat (0 : Int)) ((startsS a1).getD a2.Row.toNat (0 : Int))).re.bits (cpt ((startsS a0).getD a2.Col.toNat (0 : Int)) ((startsS a1).getD a2.Row.toNat (0 : Int))).im.bits, fun γ_ => .int .i64 0] [fun γ_ => [], fun γ_ => [oR (kint .i64) 3 zE (γ_.a 0) (γ_.c 0) (startsS a0)], fun γ_ => [], fun γ_ => [], fun γ_ => [oR (kint .i64) 3 zE (γ_.a 0) (γ_.c 0) (startsS a0)], fun γ_ => [], fun γ_ => [], fun γ_ => [oR (kint .i64) 3 zE (γ_.a 0) (γ_.c 0) (startsS a1)], fun γ_ => [], fun γ_ => [], fun γ_ => [oR (kint .i64) 3 zE (γ_.a 0) (γ_.c 0) (startsS a1)], fun γ_ => [], fun γ_ => [], fun γ_ => [], fun γ_ => []] rfl (by kernel_rfl) (by decide +kernel) hS ?_ ?_
  ·refine ⟨fun _ _ _ hS => Sv_val rfl (R_move rfl rfl) ⟨gh0, rfl, hS⟩, fun g_ w19 fr20 hS => ?_, ?_⟩
   ·have _w19 := trivial
    have hS : Sp (FF []) w z w19 [bR b2 39 [.int .i64 a2.Row, .int .i64 a2.Col, .int .i64 a2.Rows, .int .i64 a2.Cols], allR fr20] := hS
    refine Sv_call rfl rfl rfl ent43 ?_
    refine (starts_calls a0 Aa0 ca0 _ _ hS.out0 (hra0.mono (hS.zl [])) hca0 (by omega)).mono ?_
    rintro e_ w21 ⟨AR0_22, cR0_22, rfl, hS_⟩
    refine ⟨_, rfl, ?_⟩
    have hS := hS.call0 hS_
    have hp23 := hS.cap 0 rfl
    have hlhp23 := hp23.le
    have hmhp23 := hp23.mx
    exact ⟨⟨fun _ => AR0_22, fun _ => cR0_22, fun _ => zE, fun _ => 0⟩, rfl, hS.fin [0, 1, 2] (by decide) rfl⟩
   refine ⟨fun _ _ _ hS => Sv_val rfl (R_fld rfl rfl fld39_1) ⟨gh0, rfl, hS⟩, fun _ _ _ hS => Sv_val rfl (R_load1 rfl rfl agg3 ((hS.bx 0 rfl).cell rfl)) ⟨gh0, rfl, hS⟩, fun g_ w28 fr29 hS => ?_, ?_⟩
   ·have _w28 := trivial
    have hS : Sp (FF []) w z w28 [oR (kint .i64) 3 zE ((g_ 1).a 0) ((g_ 1).c 0) (startsS a0), bR b2 39 [.int .i64 a2.Row, .int .i64 a2.Col, .int .i64 a2.Rows, .int .i64 a2.Cols], allR fr29] := hS
    obtain ⟨q30, hAq30, hxq30⟩ := (hS.rw 0 rfl).ix (0 : Int) (i := a2.Col) (by omega) (by omega)
    exact Sv_val rfl (R_idx rfl rfl hAq30 rfl Try.underlying22 size3 (by omega) (by omega)) ⟨⟨fun _ => ((g_ 1).a 0), fun _ => ((g_ 1).c 0), fun _ => zE, fun _ => 0⟩, (by show _ = Value.pointer (Option.map _ _); rw [hAq30]; rfl), hS.fin [0, 1, 2] (by decide) rfl⟩
   refine ⟨fun g_ w31 fr32 hS => ?_, ?_⟩
   ·have _w31 := trivial
    have hS : Sp (FF []) w z w31 [oR (kint .i64) 3 zE ((g_ 4).a 0) ((g_ 4).c 0) (startsS a0), bR b2 39 [.int .i64 a2.Row, .int .i64 a2.Col, .int .i64 a2.Rows, .int .i64 a2.Cols], allR fr32] := hS
    obtain ⟨q33, hAq33, hxq33⟩ := (hS.rw 0 rfl).ix (0 : Int) (i := a2.Col) (by omega) (by omega)
    exact Sv_val rfl (R_load1 rfl (by show some (Value.pointer (Option.map _ _)) = _; rw [hAq33]; rfl) agg3 ((hS.rw 0 rfl).cellAt hAq33 hxq33 (fun _ h => h) 0 _ rfl)) ⟨gh0, rfl, hS.fin [0, 1, 2] (by decide) rfl⟩
   refine ⟨fun _ _ _ hS => Sv_val rfl (R_move rfl rfl) ⟨gh0, rfl, hS⟩, fun g_ w36 fr37 hS => ?_, ?_⟩
   ·have _w36 := trivial
    have hS : Sp (FF []) w z w36 [bR b2 39 [.int .i64 a2.Row, .int .i64 a2.Col, .int .i64 a2.Rows, .int .i64 a2.Cols], allR fr37] := hS
    refine Sv_call rfl rfl rfl ent43 ?_
    refine (starts_calls a1 Aa1 ca1 _ _ hS.out0 (hra1.mono (hS.zl [])) hca1 (by omega)).mono ?_
    rintro e_ w38 ⟨AR0_39, cR0_39, rfl, hS_⟩
    refine ⟨_, rfl, ?_⟩
    have hS := hS.call0 hS_
    have hp40 := hS.cap 0 rfl
    have hlhp40 := hp40.le
    have hmhp40 := hp40.mx
    exact ⟨⟨fun _ => AR0_39, fun _ => cR0_39, fun _ => zE, fun _ => 0⟩, rfl, hS.fin [0, 1, 2] (by decide) rfl⟩
   refine ⟨fun _ _ _ hS => Sv_val rfl (R_fld rfl rfl fld39_0) ⟨gh0, rfl, hS⟩, fun _ _ _ hS => Sv_val rfl (R_load1 rfl rfl agg3 ((hS.bx 0 rfl).cell rfl)) ⟨gh0, rfl, hS⟩, fun g_ w45 fr46 hS => ?_, ?_⟩
   ·have _w45 := trivial
    have hS : Sp (FF []) w z w45 [oR (kint .i64) 3 zE ((g_ 7).a 0) ((g_ 7).c 0) (startsS a1), bR b2 39 [.int .i64 a2.Row, .int .i64 a2.Col, .int .i64 a2.Rows, .int .i64 a2.Cols], allR fr46] := hS
    obtain ⟨q47, hAq47, hxq47⟩ := (hS.rw 0 rfl).ix (0 : Int) (i := a2.Row) (by omega) (by omega)
    exact Sv_val rfl (R_idx rfl rfl hAq47 rfl Try.underlying22 size3 (by omega) (by omega)) ⟨⟨fun _ => ((g_ 7).a 0), fun _ => ((g_ 7).c 0), fun _ => zE, fun _ => 0⟩, (by show _ = Value.pointer (Option.map _ _); rw [hAq47]; rfl), hS.fin [0, 1, 2] (by decide) rfl⟩
   refine ⟨fun g_ w48 fr49 hS => ?_, ?_⟩
   ·have _w48 := trivial
    have hS : Sp (FF []) w z w48 [oR (kint .i64) 3 zE ((g_ 10).a 0) ((g_ 10).c 0) (startsS a1), bR b2 39 [.int .i64 a2.Row, .int .i64 a2.Col, .int .i64 a2.Rows, .int .i64 a2.Cols], allR fr49] := hS
    obtain ⟨q50, hAq50, hxq50⟩ := (hS.rw 0 rfl).ix (0 : Int) (i := a2.Row) (by omega) (by omega)
    exact Sv_val rfl (R_load1 rfl (by show some (Value.pointer (Option.map _ _)) = _; rw [hAq50]; rfl) agg3 ((hS.rw 0 rfl).cellAt hAq50 hxq50 (fun _ h => h) 0 _ rfl)) ⟨gh0, rfl, hS.fin [0, 1, 2] (by decide) rfl⟩
   refine ⟨fun g_ w51 fr52 hS => ?_, ?_⟩
   ·have _w51 := trivial
    have hS : Sp (FF []) w z w51 [bR b2 39 [.int .i64 a2.Row, .int .i64 a2.Col, .int .i64 a2.Rows, .int .i64 a2.Cols], allR fr52] := hS
    refine Sv_call rfl rfl rfl ent42 ?_
    refine (point_calls ((startsS a0).getD a2.Col.toNat (0 : Int)) ((startsS a1).getD a2.Row.toNat (0 : Int)) _ _ hS.out0  (by omega) (by omega)).mono ?_
    rintro e_ w53 ⟨rfl, hS_⟩
    refine ⟨_, rfl, ?_⟩
    have hS := hS.call0 hS_
    exact ⟨⟨fun _ => none, fun _ => 0, fun _ => zE, fun _ => 0⟩, rfl, hS.fin [0, 1] (by decide) rfl⟩
   refine ⟨fun _ _ _ hS => Sv_val rfl (R_assign rfl rfl) ⟨gh0, rfl, hS⟩, fun _ _ _ hS => Sv_val rfl (R_assign rfl rfl) ⟨gh0, rfl, hS⟩, ?_⟩
   exact trivial
  ·intro g_ w59 hS
   have hS : Sp (FF []) w z w59 [oR (kint .i64) 3 zE ((g_ 4).a 0) ((g_ 4).c 0) (startsS a0), oR (kint .i64) 3 zE ((g_ 10).a 0) ((g_ 10).c 0) (startsS a1), bR b2 39 [.int .i64 a2.Row, .int .i64 a2.Col, .int .i64 a2.Rows, .int .i64 a2.Cols]] := hS
   refine An_fr [(0, .slice Aa0 a0.length ca0), (1, .slice Aa1 a1.length ca1), (5, .pointer (some ⟨b2, 0, none⟩)), (6, .complex .f64 (cpt ((startsS a0).getD a2.Col.toNat (0 : Int)) ((startsS a1).getD a2.Row.toNat (0 : Int))).re.bits (cpt ((startsS a0).getD a2.Col.toNat (0 : Int)) ((startsS a1).getD a2.Row.toNat (0 : Int))).im.bits), (7, .int .i64 0)] rfl ?_
   generalize ((g_ 4).a 0) = A61 at hS ⊢
   generalize ((g_ 4).c 0) = c62 at hS ⊢
   generalize ((g_ 10).a 0) = A63 at hS ⊢
   generalize ((g_ 10).c 0) = c64 at hS ⊢
   have hp65 := hS.cap 0 rfl
   have hlhp65 := hp65.le
   have hmhp65 := hp65.mx
   have hp66 := hS.cap 1 rfl
   have hlhp66 := hp66.le
   have hmhp66 := hp66.mx
   refine An_done (by decide +kernel) ?_
   refine E_then ?_
   refine C_ret ?_
   refine E_ret2 rfl rfl rfl ?_
   exact ⟨Lret2 (show (.complex .f64 (cpt ((startsS a0).getD a2.Col.toNat (0 : Int)) ((startsS a1).getD a2.Row.toNat (0 : Int))).re.bits (cpt ((startsS a0).getD a2.Col.toNat (0 : Int)) ((startsS a1).getD a2.Row.toNat (0 : Int))).im.bits : Value) = .complex .f64 (acornerS a0 a1 a2).1.re.bits (acornerS a0 a1 a2).1.im.bits by first | (rw [corner_in hin]; try rfl) | (rw [corner_out hin]; try rfl)) (Lint (show 0 = (acornerS a0 a1 a2).2 by first | (rw [corner_in hin]; try rfl) | (rw [corner_out hin]; try rfl))), hS.fin [] (by decide) rfl⟩

set_option maxHeartbeats 400000 in
set_option maxRecDepth 20000 in
theorem asize_calls (a0 : List Int) (Aa0 : Option Addr) (ca0 : Nat) (a1 : List Int) (Aa1 : Option Addr) (ca1 : Nat) (a2 : TRect) (z : Z) (w : World) (hI : In z w []) (hra0 : Rd (kint .i64) z Aa0 a0) (hca0 : Cap Aa0 a0.length ca0) (hra1 : Rd (kint .i64) z Aa1 a1) (hca1 : Cap Aa1 a1.length ca1) (p0 : a0.length ≤ 1000) (p1 : a1.length ≤ 1000) :
    Calls Try.prog 22 #[.slice Aa0 a0.length ca0, .slice Aa1 a1.length ca1, .agg #[.int .i64 a2.Row, .int .i64 a2.Col, .int .i64 a2.Rows, .int .i64 a2.Cols]] w fun e w' => e = .returned (.tuple #[.complex .f64 (asizeS a0 a1 a2).1.re.bits (asizeS a0 a1 a2).1.im.bits, .int .i64 (asizeS a0 a1 a2).2]) ∧ Sp (FF []) w z w' [] := by
 have hla0 := hca0.le
 have hma0 := hca0.mx
 have hla1 := hca1.le
 have hma1 := hca1.mx
 have hS := hI.sp
 have hsl0 := starts_len a0
 have hsl1 := starts_len a1
 refine Calls_of (vs := [.slice Aa0 a0.length ca0, .slice Aa1 a1.length ca1, .agg #[.int .i64 a2.Row, .int .i64 a2.Col, .int .i64 a2.Rows, .int .i64 a2.Cols]]) (N := 45) Try.func22 rfl rfl (Nat.le_of_ble_eq_true rfl) ?_
 refine C_seq ?_
 refine C_region ?_
 refine W_cons rfl (by decide) (S_box hS rfl (R_box (cs := [.int .i64 a2.Row, .int .i64 a2.Col, .int .i64 a2.Rows, .int .i64 a2.Cols]) rfl rfl rfl) (fun b2 w1 hS => ?_))
 refine wv rfl rfl rfl (R_assign rfl rfl) <| wv rfl rfl rfl (R_assign rfl rfl) ?_
 refine W_nil ?_
 refine E_then ?_
 refine C_seq ?_
 refine C_region ?_
 refine wv rfl rfl rfl (R_move rfl rfl) <| wv rfl rfl rfl (R_move rfl rfl) <| wv rfl rfl rfl (R_loadN (cs := [.int .i64 a2.Row, .int .i64 a2.Col, .int .i64 a2.Rows, .int .i64 a2.Cols]) rfl rfl agg39 size39 rfl (boxcells (hS.bx 0 rfl) 0 rfl)) ?_
 refine W_cons rfl (by decide) (Sv_call rfl rfl rfl ent21 ?_)
 refine (acorner_calls a0 Aa0 ca0 a1 Aa1 ca1 a2 _ _ hS.out0 (hra0.mono (hS.zl [])) hca0 (hra1.mono (hS.zl [])) hca1 (by omega) (by omega)).mono ?_
 rintro e_ w3 ⟨rfl, hS_⟩
 refine ⟨_, rfl, ?_⟩
 have hS := hS.call0 hS_
 refine wv rfl rfl rfl (R_move rfl rfl) <| wv rfl rfl rfl (R_extract rfl rfl rfl) <| wv rfl rfl rfl (R_extract rfl rfl rfl) <| wv rfl rfl rfl (R_assign rfl rfl) <| wv rfl rfl rfl (R_assign rfl rfl) ?_
 refine W_nil ?_
 refine E_then (C_fr [(0, .slice Aa0 a0.length ca0), (1, .slice Aa1 a1.length ca1), (5, .pointer (some ⟨b2, 0, none⟩)), (8, .complex .f64 (acornerS a0 a1 a2).1.re.bits (acornerS a0 a1 a2).1.im.bits), (9, .int .i64 (acornerS a0 a1 a2).2)] rfl ?_)
 refine C_seq ?_
 refine C_seq ?_
 refine C_region ?_
 refine wv rfl rfl rfl (R_move rfl rfl) <| wv rfl rfl rfl (R_bin rfl rfl rfl rfl rfl) ?_
 refine W_nil ?_
 refine E_then ?_
 refine C_ite rfl (fun hC0 => ?_) (fun hC0 => ?_)
 ·have _hC0 := trivial
  have hC0p : ¬ (acornerS a0 a1 a2).2 = 0 := by simpa using hC0
  have hin := corner_no hC0p
  refine C_seq ?_
  refine C_region ?_
  refine wv rfl rfl rfl (R_move rfl rfl) <| wv rfl rfl rfl (R_assign rfl rfl) <| wv rfl rfl rfl (R_assign rfl rfl) ?_
  refine W_nil ?_
  refine E_then (C_fr [(6, .complex .f64 (Fl.ofInt 0).bits (Fl.ofInt 0).bits), (7, .int .i64 (acornerS a0 a1 a2).2)] rfl ?_)
  refine C_ret ?_
  refine E_then_ret ?_
  refine E_ret2 rfl rfl rfl ?_
  exact ⟨Lret2 (show (.complex .f64 (Fl.ofInt 0).bits (Fl.ofInt 0).bits : Value) = .complex .f64 (asizeS a0 a1 a2).1.re.bits (asizeS a0 a1 a2).1.im.bits by first | (rw [size_in hin]; done) | (rw [size_in hin]; rfl) | (rw [size_out hin, corner_out hin]; done) | (rw [size_out hin]; rfl)) (Lint (show (acornerS a0 a1 a2).2 = (asizeS a0 a1 a2).2 by first | (rw [size_in hin]; done) | (rw [size_in hin]; rfl) | (rw [size_out hin, corner_out hin]; done) | (rw [size_out hin]; rfl))), hS.fin [] (by decide) rfl⟩
 ·have _hC0 := trivial
  have hC0p : (acornerS a0 a1 a2).2 = 0 := by simpa using hC0
  have hin := corner_ok (by simpa using hC0)
  have hi := inside_of hin
  have hb0 := starts_bd a0 a2.Col.toNat (by omega)
  have hb1 := starts_bd a1 a2.Row.toNat (by omega)
  have hb2 := starts_bd a0 (a2.Col + a2.Cols).toNat (by omega)
  have hb3 := starts_bd a1 (a2.Row + a2.Rows).toNat (by omega)
  have hcr : (acornerS a0 a1 a2).1 = cpt ((startsS a0).getD a2.Col.toNat 0) ((startsS a1).getD a2.Row.toNat 0) := by rw [corner_in hin]
  refine C_skip ?_
  refine E_then ?_
  refine C_seq ?_
  refine C_fr [(0, .slice Aa0 a0.length ca0), (1, .slice Aa1 a1.length ca1), (5, .pointer (some ⟨b2, 0, none⟩)), (8, .complex .f64 (acornerS a0 a1 a2).1.re.bits (acornerS a0 a1 a2).1.im.bits)] rfl ?_
  refine C_drawn2 20 [[], [0], [], [2], [], [4], [3, 5], [1, 6], [7], [], [9, 1], [], [11], [], [13], [12, 14], [10, 15], [16], [8, 17, 10], [18, 18, 0, 1, 2, 3, 4, 5, 6, 7, 8, 9, 10, 11, 12, 13, 14, 15, 16, 17, 18]] [some 21, some 22, some 23, some 24, some 25, some 26, some 27, some 28, some 29, some 30, some 31, some 32, some 33, some 34, some 35, some 36, some 37, some 38, some 39, some 10] [0, 1, 5, 8] [20, 7, 20, 20, 20, 20, 20, 20, 20, 20, 16, 20, 20, 20, 20, 20, 20, 20, 20, 20] [[], [], [], [], [], [], [], [1], [], [], [], [], [], [], [], [], [10], [], [], []] [[], [], [], [], [], [], [], [], [7], [], [], [], [], [], [], [], [], [16], [], []] [fun γ_ => .slice Aa0 a0.length ca0, fun γ_ => .slice (γ_.a 0) (startsS a0).length (γ_.c 0), fun γ_ => .pointer (some ⟨b2, 1, none⟩), fun γ_ => .int .i64 a2.Col, fun γ_ => .pointer (some ⟨b2, 3, none⟩), fun γ_ => .int .i64 a2.Cols, fun γ_ => .int .i64 (a2.Col + a2.Cols), fun γ_ => .pointer ((γ_.a 0).map (fun q_ => q_.add ((a2.Col + a2.Cols).toNat * 1))), fun γ_ => .int .i64 ((startsS a0).getD (a2.Col + a2.Cols).toNat (0 : Int)), fun γ_ => .slice Aa1 a1.length ca1, fun γ_ => .slice (γ_.a 0) (startsS a1).length (γ_.c 0), fun γ_ => .pointer (some ⟨b2, 0, none⟩), fun γ_ => .int .i64 a2.Row, fun γ_ => .pointer (some ⟨b2, 2, none⟩), fun γ_ => .int .i64 a2.Rows, fun γ_ => .int .i64 (a2.Row + a2.Rows), fun γ_ => .pointer ((γ_.a 0).map (fun q_ => q_.add ((a2.Row + a2.Rows).toNat * 1))), fun γ_ => .int .i64 ((startsS a1).getD (a2.Row + a2.Rows).toNat (0 : Int)), fun γ_ => .complex .f64 (cpt ((startsS a0).getD (a2.Col + a2.Cols).toNat (0 : Int)) ((startsS a1).getD (a2.Row + a2.Rows).toNat (0 : Int))).re.bits (cpt ((startsS a0).getD (a2.Col + a2.Cols).toNat (0 : Int)) ((startsS a1).getD (a2.Row + a2.Rows).toNat (0 : Int))).im.bits, fun γ_ => .complex .f64 (cpt ((startsS a0).getD (a2.Col + a2.Cols).toNat (0 : Int)) ((startsS a1).getD (a2.Row + a2.Rows).toNat (0 : Int))).re.bits (cpt ((startsS a0).getD (a2.Col + a2.Cols).toNat (0 : Int)) ((startsS a1).getD (a2.Row + a2.Rows).toNat (0 : Int))).im.bits] [fun γ_ => [], fun γ_ => [oR (kint .i64) 3 zE (γ_.a 0) (γ_.c 0) (startsS a0)], fun γ_ => [], fun γ_ => [], fun γ_ => [], fun γ_ => [], fun γ_ => [], fun γ_ => [oR (kint .i64) 3 zE (γ_.a 0) (γ_.c 0) (startsS a0)], fun γ_ => [], fun γ_ => [], fun γ_ => [oR (kint .i64) 3 zE (γ_.a 0) (γ_.c 0) (startsS a1)], fun γ_ => [], fun γ_ => [], fun γ_ => [], fun γ_ => [], fun γ_ => [], fun γ_ => [oR (kint .i64) 3 zE (γ_.a 0) (γ_.c 0) (startsS a1)], fun γ_ => [], fun γ_ => [], fun γ_ => []] rfl (by kernel_rfl) (by decide +kernel) hS ?_ ?_
  ·refine ⟨fun _ _ _ hS => Sv_val rfl (R_move rfl rfl) ⟨gh0, rfl, hS⟩, fun g_ w19 fr20 hS => ?_, ?_⟩
   ·have _w19 := trivial
    have hS : Sp (FF []) w z w19 [bR b2 39 [.int .i64 a2.Row, .int .i64 a2.Col, .int .i64 a2.Rows, .int .i64 a2.Cols], allR fr20] := hS
    refine Sv_call rfl rfl rfl ent43 ?_
    refine (starts_calls a0 Aa0 ca0 _ _ hS.out0 (hra0.mono (hS.zl [])) hca0 (by omega)).mono ?_
    rintro e_ w21 ⟨AR0_22, cR0_22, rfl, hS_⟩
    refine ⟨_, rfl, ?_⟩
    have hS := hS.call0 hS_
    have hp23 := hS.cap 0 rfl
    have hlhp23 := hp23.le
    have hmhp23 := hp23.mx
    exact ⟨⟨fun _ => AR0_22, fun _ => cR0_22, fun _ => zE, fun _ => 0⟩, rfl, hS.fin [0, 1, 2] (by decide) rfl⟩
   refine ⟨fun _ _ _ hS => Sv_val rfl (R_fld rfl rfl fld39_1) ⟨gh0, rfl, hS⟩, fun _ _ _ hS => Sv_val rfl (R_load1 rfl rfl agg3 ((hS.bx 0 rfl).cell rfl)) ⟨gh0, rfl, hS⟩, fun _ _ _ hS => Sv_val rfl (R_fld rfl rfl fld39_3) ⟨gh0, rfl, hS⟩, fun _ _ _ hS => Sv_val rfl (R_load1 rfl rfl agg3 ((hS.bx 0 rfl).cell rfl)) ⟨gh0, rfl, hS⟩, fun _ _ _ hS => Sv_val rfl (R_add64 rfl rfl rfl (by omega) (by omega)) ⟨gh0, rfl, hS⟩, fun g_ w34 fr35 hS => ?_, ?_⟩
   ·have _w34 := trivial
    have hS : Sp (FF []) w z w34 [oR (kint .i64) 3 zE ((g_ 1).a 0) ((g_ 1).c 0) (startsS a0), bR b2 39 [.int .i64 a2.Row, .int .i64 a2.Col, .int .i64 a2.Rows, .int .i64 a2.Cols], allR fr35] := hS
    obtain ⟨q36, hAq36, hxq36⟩ := (hS.rw 0 rfl).ix (0 : Int) (i := (a2.Col + a2.Cols)) (by omega) (by omega)
    exact Sv_val rfl (R_idx rfl rfl hAq36 rfl Try.underlying22 size3 (by omega) (by omega)) ⟨⟨fun _ => ((g_ 1).a 0), fun _ => ((g_ 1).c 0), fun _ => zE, fun _ => 0⟩, (by show _ = Value.pointer (Option.map _ _); rw [hAq36]; rfl), hS.fin [0, 1, 2] (by decide) rfl⟩
   refine ⟨fun g_ w37 fr38 hS => ?_, ?_⟩
   ·have _w37 := trivial
    have hS : Sp (FF []) w z w37 [oR (kint .i64) 3 zE ((g_ 7).a 0) ((g_ 7).c 0) (startsS a0), bR b2 39 [.int .i64 a2.Row, .int .i64 a2.Col, .int .i64 a2.Rows, .int .i64 a2.Cols], allR fr38] := hS
    obtain ⟨q39, hAq39, hxq39⟩ := (hS.rw 0 rfl).ix (0 : Int) (i := (a2.Col + a2.Cols)) (by omega) (by omega)
    exact Sv_val rfl (R_load1 rfl (by show some (Value.pointer (Option.map _ _)) = _; rw [hAq39]; rfl) agg3 ((hS.rw 0 rfl).cellAt hAq39 hxq39 (fun _ h => h) 0 _ rfl)) ⟨gh0, rfl, hS.fin [0, 1, 2] (by decide) rfl⟩
   refine ⟨fun _ _ _ hS => Sv_val rfl (R_move rfl rfl) ⟨gh0, rfl, hS⟩, fun g_ w42 fr43 hS => ?_, ?_⟩
   ·have _w42 := trivial
    have hS : Sp (FF []) w z w42 [bR b2 39 [.int .i64 a2.Row, .int .i64 a2.Col, .int .i64 a2.Rows, .int .i64 a2.Cols], allR fr43] := hS
    refine Sv_call rfl rfl rfl ent43 ?_
    refine (starts_calls a1 Aa1 ca1 _ _ hS.out0 (hra1.mono (hS.zl [])) hca1 (by omega)).mono ?_
    rintro e_ w44 ⟨AR0_45, cR0_45, rfl, hS_⟩
    refine ⟨_, rfl, ?_⟩
    have hS := hS.call0 hS_
    have hp46 := hS.cap 0 rfl
    have hlhp46 := hp46.le
    have hmhp46 := hp46.mx
    exact ⟨⟨fun _ => AR0_45, fun _ => cR0_45, fun _ => zE, fun _ => 0⟩, rfl, hS.fin [0, 1, 2] (by decide) rfl⟩
   refine ⟨fun _ _ _ hS => Sv_val rfl (R_fld rfl rfl fld39_0) ⟨gh0, rfl, hS⟩, fun _ _ _ hS => Sv_val rfl (R_load1 rfl rfl agg3 ((hS.bx 0 rfl).cell rfl)) ⟨gh0, rfl, hS⟩, fun _ _ _ hS => Sv_val rfl (R_fld rfl rfl fld39_2) ⟨gh0, rfl, hS⟩, fun _ _ _ hS => Sv_val rfl (R_load1 rfl rfl agg3 ((hS.bx 0 rfl).cell rfl)) ⟨gh0, rfl, hS⟩, fun _ _ _ hS => Sv_val rfl (R_add64 rfl rfl rfl (by omega) (by omega)) ⟨gh0, rfl, hS⟩, fun g_ w57 fr58 hS => ?_, ?_⟩
   ·have _w57 := trivial
    have hS : Sp (FF []) w z w57 [oR (kint .i64) 3 zE ((g_ 10).a 0) ((g_ 10).c 0) (startsS a1), bR b2 39 [.int .i64 a2.Row, .int .i64 a2.Col, .int .i64 a2.Rows, .int .i64 a2.Cols], allR fr58] := hS
    obtain ⟨q59, hAq59, hxq59⟩ := (hS.rw 0 rfl).ix (0 : Int) (i := (a2.Row + a2.Rows)) (by omega) (by omega)
    exact Sv_val rfl (R_idx rfl rfl hAq59 rfl Try.underlying22 size3 (by omega) (by omega)) ⟨⟨fun _ => ((g_ 10).a 0), fun _ => ((g_ 10).c 0), fun _ => zE, fun _ => 0⟩, (by show _ = Value.pointer (Option.map _ _); rw [hAq59]; rfl), hS.fin [0, 1, 2] (by decide) rfl⟩
   refine ⟨fun g_ w60 fr61 hS => ?_, ?_⟩
   ·have _w60 := trivial
    have hS : Sp (FF []) w z w60 [oR (kint .i64) 3 zE ((g_ 16).a 0) ((g_ 16).c 0) (startsS a1), bR b2 39 [.int .i64 a2.Row, .int .i64 a2.Col, .int .i64 a2.Rows, .int .i64 a2.Cols], allR fr61] := hS
    obtain ⟨q62, hAq62, hxq62⟩ := (hS.rw 0 rfl).ix (0 : Int) (i := (a2.Row + a2.Rows)) (by omega) (by omega)
    exact Sv_val rfl (R_load1 rfl (by show some (Value.pointer (Option.map _ _)) = _; rw [hAq62]; rfl) agg3 ((hS.rw 0 rfl).cellAt hAq62 hxq62 (fun _ h => h) 0 _ rfl)) ⟨gh0, rfl, hS.fin [0, 1, 2] (by decide) rfl⟩
   refine ⟨fun g_ w63 fr64 hS => ?_, ?_⟩
   ·have _w63 := trivial
    have hS : Sp (FF []) w z w63 [bR b2 39 [.int .i64 a2.Row, .int .i64 a2.Col, .int .i64 a2.Rows, .int .i64 a2.Cols], allR fr64] := hS
    refine Sv_call rfl rfl rfl ent42 ?_
    refine (point_calls ((startsS a0).getD (a2.Col + a2.Cols).toNat (0 : Int)) ((startsS a1).getD (a2.Row + a2.Rows).toNat (0 : Int)) _ _ hS.out0  (by omega) (by omega)).mono ?_
    rintro e_ w65 ⟨rfl, hS_⟩
    refine ⟨_, rfl, ?_⟩
    have hS := hS.call0 hS_
    exact ⟨⟨fun _ => none, fun _ => 0, fun _ => zE, fun _ => 0⟩, rfl, hS.fin [0, 1] (by decide) rfl⟩
   refine ⟨fun _ _ _ hS => Sv_val rfl (R_assign rfl rfl) ⟨gh0, rfl, hS⟩, ?_⟩
   exact trivial
  ·intro g_ w69 hS
   have hS : Sp (FF []) w z w69 [oR (kint .i64) 3 zE ((g_ 7).a 0) ((g_ 7).c 0) (startsS a0), oR (kint .i64) 3 zE ((g_ 16).a 0) ((g_ 16).c 0) (startsS a1), bR b2 39 [.int .i64 a2.Row, .int .i64 a2.Col, .int .i64 a2.Rows, .int .i64 a2.Cols]] := hS
   refine An_fr [(0, .slice Aa0 a0.length ca0), (1, .slice Aa1 a1.length ca1), (5, .pointer (some ⟨b2, 0, none⟩)), (8, .complex .f64 (acornerS a0 a1 a2).1.re.bits (acornerS a0 a1 a2).1.im.bits), (10, .complex .f64 (cpt ((startsS a0).getD (a2.Col + a2.Cols).toNat (0 : Int)) ((startsS a1).getD (a2.Row + a2.Rows).toNat (0 : Int))).re.bits (cpt ((startsS a0).getD (a2.Col + a2.Cols).toNat (0 : Int)) ((startsS a1).getD (a2.Row + a2.Rows).toNat (0 : Int))).im.bits)] rfl ?_
   generalize ((g_ 7).a 0) = A71 at hS ⊢
   generalize ((g_ 7).c 0) = c72 at hS ⊢
   generalize ((g_ 16).a 0) = A73 at hS ⊢
   generalize ((g_ 16).c 0) = c74 at hS ⊢
   have hp75 := hS.cap 0 rfl
   have hlhp75 := hp75.le
   have hmhp75 := hp75.mx
   have hp76 := hS.cap 1 rfl
   have hlhp76 := hp76.le
   have hmhp76 := hp76.mx
   refine An_done (by decide +kernel) ?_
   refine E_then ?_
   refine C_seq ?_
   refine C_region ?_
   refine wv rfl rfl rfl (R_move rfl rfl) <| wv rfl rfl rfl (R_move rfl rfl) <| wv rfl rfl rfl (R_cxsub (a := (cpt ((startsS a0).getD (a2.Col + a2.Cols).toNat (0 : Int)) ((startsS a1).getD (a2.Row + a2.Rows).toNat (0 : Int))).re) (b := (cpt ((startsS a0).getD (a2.Col + a2.Cols).toNat (0 : Int)) ((startsS a1).getD (a2.Row + a2.Rows).toNat (0 : Int))).im) (c := (acornerS a0 a1 a2).1.re) (d := (acornerS a0 a1 a2).1.im) rfl rfl rfl (by simp [-List.getD_eq_getElem?_getD, hcr, cpt, Fl.ok, Fl.add, Fl.sub, Fl.opp, Fl.ofInt]; omega) (by simp [-List.getD_eq_getElem?_getD, hcr, cpt, Fl.ok, Fl.add, Fl.sub, Fl.opp, Fl.ofInt]; omega)) ?_
   refine W_cons rfl (by decide) (Sv_call rfl rfl rfl ent42 ?_)
   refine (point_calls 1 1 _ _ hS.out0  (by omega) (by omega)).mono ?_
   rintro e_ w77 ⟨rfl, hS_⟩
   refine ⟨_, rfl, ?_⟩
   have hS := hS.call0 hS_
   refine wv rfl rfl rfl (R_cxsub (a := (cpt ((startsS a0).getD (a2.Col + a2.Cols).toNat (0 : Int)) ((startsS a1).getD (a2.Row + a2.Rows).toNat (0 : Int))).re.sub (acornerS a0 a1 a2).1.re) (b := (cpt ((startsS a0).getD (a2.Col + a2.Cols).toNat (0 : Int)) ((startsS a1).getD (a2.Row + a2.Rows).toNat (0 : Int))).im.sub (acornerS a0 a1 a2).1.im) (c := (cpt 1 1).re) (d := (cpt 1 1).im) rfl rfl rfl (by simp [-List.getD_eq_getElem?_getD, hcr, cpt, Fl.ok, Fl.add, Fl.sub, Fl.opp, Fl.ofInt]; omega) (by simp [-List.getD_eq_getElem?_getD, hcr, cpt, Fl.ok, Fl.add, Fl.sub, Fl.opp, Fl.ofInt]; omega)) <| wv rfl rfl rfl (R_assign rfl rfl) <| wv rfl rfl rfl (R_assign rfl rfl) ?_
   refine W_nil ?_
   refine E_then (C_fr [(6, .complex .f64 (((cpt ((startsS a0).getD (a2.Col + a2.Cols).toNat (0 : Int)) ((startsS a1).getD (a2.Row + a2.Rows).toNat (0 : Int))).re.sub (acornerS a0 a1 a2).1.re).sub (cpt 1 1).re).bits (((cpt ((startsS a0).getD (a2.Col + a2.Cols).toNat (0 : Int)) ((startsS a1).getD (a2.Row + a2.Rows).toNat (0 : Int))).im.sub (acornerS a0 a1 a2).1.im).sub (cpt 1 1).im).bits), (7, .int .i64 0)] rfl ?_)
   refine C_ret ?_
   refine E_ret2 rfl rfl rfl ?_
   exact ⟨Lret2 (show (.complex .f64 (((cpt ((startsS a0).getD (a2.Col + a2.Cols).toNat (0 : Int)) ((startsS a1).getD (a2.Row + a2.Rows).toNat (0 : Int))).re.sub (acornerS a0 a1 a2).1.re).sub (cpt 1 1).re).bits (((cpt ((startsS a0).getD (a2.Col + a2.Cols).toNat (0 : Int)) ((startsS a1).getD (a2.Row + a2.Rows).toNat (0 : Int))).im.sub (acornerS a0 a1 a2).1.im).sub (cpt 1 1).im).bits : Value) = .complex .f64 (asizeS a0 a1 a2).1.re.bits (asizeS a0 a1 a2).1.im.bits by first | (rw [size_in hin]; done) | (rw [size_in hin]; rfl) | (rw [size_out hin, corner_out hin]; done) | (rw [size_out hin]; rfl)) (Lint (show 0 = (asizeS a0 a1 a2).2 by first | (rw [size_in hin]; done) | (rw [size_in hin]; rfl) | (rw [size_out hin, corner_out hin]; done) | (rw [size_out hin]; rfl))), hS.fin [] (by decide) rfl⟩

set_option maxHeartbeats 400000 in
set_option maxRecDepth 20000 in
theorem rcorner_calls (a0 : List Int) (Aa0 : Option Addr) (ca0 : Nat) (a1 : List Int) (Aa1 : Option Addr) (ca1 : Nat) (a2 : TRect) (z : Z) (w : World) (hI : In z w []) (hra0 : Rd (kint .i64) z Aa0 a0) (hca0 : Cap Aa0 a0.length ca0) (hra1 : Rd (kint .i64) z Aa1 a1) (hca1 : Cap Aa1 a1.length ca1) (p0 : a0.length ≤ 1000) (p1 : a1.length ≤ 1000) (p2 : insideS a0.length a1.length a2 = true) :
    Calls Try.prog 84 #[.slice Aa0 a0.length ca0, .slice Aa1 a1.length ca1, .agg #[.int .i64 a2.Row, .int .i64 a2.Col, .int .i64 a2.Rows, .int .i64 a2.Cols]] w fun e w' => e = .returned (.tuple #[.int .i64 ((startsS a0).getD a2.Col.toNat 0), .int .i64 ((startsS a1).getD a2.Row.toNat 0)]) ∧ Sp (FF []) w z w' [] := by
 have hla0 := hca0.le
 have hma0 := hca0.mx
 have hla1 := hca1.le
 have hma1 := hca1.mx
 have hS := hI.sp
 have hsl0 := starts_len a0
 have hsl1 := starts_len a1
 have hi := inside_of p2
 refine Calls_of (vs := [.slice Aa0 a0.length ca0, .slice Aa1 a1.length ca1, .agg #[.int .i64 a2.Row, .int .i64 a2.Col, .int .i64 a2.Rows, .int .i64 a2.Cols]]) (N := 20) Try.func84 rfl rfl (Nat.le_of_ble_eq_true rfl) ?_
 refine C_seq ?_
 refine C_region ?_
 refine W_cons rfl (by decide) (S_box hS rfl (R_box (cs := [.int .i64 a2.Row, .int .i64 a2.Col, .int .i64 a2.Rows, .int .i64 a2.Cols]) rfl rfl rfl) (fun b2 w1 hS => ?_))
 refine wv rfl rfl rfl (R_assign rfl rfl) <| wv rfl rfl rfl (R_assign rfl rfl) ?_
 refine W_nil ?_
 refine E_then ?_
 refine C_seq ?_
 refine C_fr [(0, .slice Aa0 a0.length ca0), (1, .slice Aa1 a1.length ca1), (5, .pointer (some ⟨b2, 0, none⟩))] rfl ?_
 refine C_drawn2 14 [[], [0], [], [2], [1, 3], [4], [], [6, 1], [], [8], [7, 9], [10], [5, 7, 0, 1, 2, 3, 4, 5], [11, 12, 0, 1, 2, 3, 4, 5, 6, 7, 8, 9, 10, 11, 12]] [some 8, some 9, some 10, some 11, some 12, some 13, some 14, some 15, some 16, some 17, some 18, some 19, some 6, some 7] [0, 1, 5] [14, 4, 14, 14, 14, 14, 14, 10, 14, 14, 14, 14, 14, 14] [[], [], [], [], [1], [], [], [], [], [], [7], [], [], []] [[], [], [], [], [], [4], [], [], [], [], [], [10], [], []] [fun γ_ => .slice Aa0 a0.length ca0, fun γ_ => .slice (γ_.a 0) (startsS a0).length (γ_.c 0), fun γ_ => .pointer (some ⟨b2, 1, none⟩), fun γ_ => .int .i64 a2.Col, fun γ_ => .pointer ((γ_.a 0).map (fun q_ => q_.add (a2.Col.toNat * 1))), fun γ_ => .int .i64 ((startsS a0).getD a2.Col.toNat (0 : Int)), fun γ_ => .slice Aa1 a1.length ca1, fun γ_ => .slice (γ_.a 0) (startsS a1).length (γ_.c 0), fun γ_ => .pointer (some ⟨b2, 0, none⟩), fun γ_ => .int .i64 a2.Row, fun γ_ => .pointer ((γ_.a 0).map (fun q_ => q_.add (a2.Row.toNat * 1))), fun γ_ => .int .i64 ((startsS a1).getD a2.Row.toNat (0 : Int)), fun γ_ => .int .i64 ((startsS a0).getD a2.Col.toNat (0 : Int)), fun γ_ => .int .i64 ((startsS a1).getD a2.Row.toNat (0 : Int))] [fun γ_ => [], fun γ_ => [oR (kint .i64) 3 zE (γ_.a 0) (γ_.c 0) (startsS a0)], fun γ_ => [], fun γ_ => [], fun γ_ => [oR (kint .i64) 3 zE (γ_.a 0) (γ_.c 0) (startsS a0)], fun γ_ => [], fun γ_ => [], fun γ_ => [oR (kint .i64) 3 zE (γ_.a 0) (γ_.c 0) (startsS a1)], fun γ_ => [], fun γ_ => [], fun γ_ => [oR (kint .i64) 3 zE (γ_.a 0) (γ_.c 0) (startsS a1)], fun γ_ => [], fun γ_ => [], fun γ_ => []] rfl (by kernel_rfl) (by decide +kernel) hS ?_ ?_
 ·refine ⟨fun _ _ _ hS => Sv_val rfl (R_move rfl rfl) ⟨gh0, rfl, hS⟩, fun g_ w15 fr16 hS => ?_, ?_⟩
  ·have _w15 := trivial
   have hS : Sp (FF []) w z w15 [bR b2 39 [.int .i64 a2.Row, .int .i64 a2.Col, .int .i64 a2.Rows, .int .i64 a2.Cols], allR fr16] := hS
   refine Sv_call rfl rfl rfl ent92 ?_
   refine (rstarts_calls a0 Aa0 ca0 _ _ hS.out0 (hra0.mono (hS.zl [])) hca0 (by omega)).mono ?_
   rintro e_ w17 ⟨AR0_18, cR0_18, rfl, hS_⟩
   refine ⟨_, rfl, ?_⟩
   have hS := hS.call0 hS_
   have hp19 := hS.cap 0 rfl
   have hlhp19 := hp19.le
   have hmhp19 := hp19.mx
   exact ⟨⟨fun _ => AR0_18, fun _ => cR0_18, fun _ => zE, fun _ => 0⟩, rfl, hS.fin [0, 1, 2] (by decide) rfl⟩
  refine ⟨fun _ _ _ hS => Sv_val rfl (R_fld rfl rfl fld39_1) ⟨gh0, rfl, hS⟩, fun _ _ _ hS => Sv_val rfl (R_load1 rfl rfl agg3 ((hS.bx 0 rfl).cell rfl)) ⟨gh0, rfl, hS⟩, fun g_ w24 fr25 hS => ?_, ?_⟩
  ·have _w24 := trivial
   have hS : Sp (FF []) w z w24 [oR (kint .i64) 3 zE ((g_ 1).a 0) ((g_ 1).c 0) (startsS a0), bR b2 39 [.int .i64 a2.Row, .int .i64 a2.Col, .int .i64 a2.Rows, .int .i64 a2.Cols], allR fr25] := hS
   obtain ⟨q26, hAq26, hxq26⟩ := (hS.rw 0 rfl).ix (0 : Int) (i := a2.Col) (by omega) (by omega)
   exact Sv_val rfl (R_idx rfl rfl hAq26 rfl Try.underlying22 size3 (by omega) (by omega)) ⟨⟨fun _ => ((g_ 1).a 0), fun _ => ((g_ 1).c 0), fun _ => zE, fun _ => 0⟩, (by show _ = Value.pointer (Option.map _ _); rw [hAq26]; rfl), hS.fin [0, 1, 2] (by decide) rfl⟩
  refine ⟨fun g_ w27 fr28 hS => ?_, ?_⟩
  ·have _w27 := trivial
   have hS : Sp (FF []) w z w27 [oR (kint .i64) 3 zE ((g_ 4).a 0) ((g_ 4).c 0) (startsS a0), bR b2 39 [.int .i64 a2.Row, .int .i64 a2.Col, .int .i64 a2.Rows, .int .i64 a2.Cols], allR fr28] := hS
   obtain ⟨q29, hAq29, hxq29⟩ := (hS.rw 0 rfl).ix (0 : Int) (i := a2.Col) (by omega) (by omega)
   exact Sv_val rfl (R_load1 rfl (by show some (Value.pointer (Option.map _ _)) = _; rw [hAq29]; rfl) agg3 ((hS.rw 0 rfl).cellAt hAq29 hxq29 (fun _ h => h) 0 _ rfl)) ⟨gh0, rfl, hS.fin [0, 1, 2] (by decide) rfl⟩
  refine ⟨fun _ _ _ hS => Sv_val rfl (R_move rfl rfl) ⟨gh0, rfl, hS⟩, fun g_ w32 fr33 hS => ?_, ?_⟩
  ·have _w32 := trivial
   have hS : Sp (FF []) w z w32 [bR b2 39 [.int .i64 a2.Row, .int .i64 a2.Col, .int .i64 a2.Rows, .int .i64 a2.Cols], allR fr33] := hS
   refine Sv_call rfl rfl rfl ent92 ?_
   refine (rstarts_calls a1 Aa1 ca1 _ _ hS.out0 (hra1.mono (hS.zl [])) hca1 (by omega)).mono ?_
   rintro e_ w34 ⟨AR0_35, cR0_35, rfl, hS_⟩
   refine ⟨_, rfl, ?_⟩
   have hS := hS.call0 hS_
   have hp36 := hS.cap 0 rfl
   have hlhp36 := hp36.le
   have hmhp36 := hp36.mx
   exact ⟨⟨fun _ => AR0_35, fun _ => cR0_35, fun _ => zE, fun _ => 0⟩, rfl, hS.fin [0, 1, 2] (by decide) rfl⟩
  refine ⟨fun _ _ _ hS => Sv_val rfl (R_fld rfl rfl fld39_0) ⟨gh0, rfl, hS⟩, fun _ _ _ hS => Sv_val rfl (R_load1 rfl rfl agg3 ((hS.bx 0 rfl).cell rfl)) ⟨gh0, rfl, hS⟩, fun g_ w41 fr42 hS => ?_, ?_⟩
  ·have _w41 := trivial
   have hS : Sp (FF []) w z w41 [oR (kint .i64) 3 zE ((g_ 7).a 0) ((g_ 7).c 0) (startsS a1), bR b2 39 [.int .i64 a2.Row, .int .i64 a2.Col, .int .i64 a2.Rows, .int .i64 a2.Cols], allR fr42] := hS
   obtain ⟨q43, hAq43, hxq43⟩ := (hS.rw 0 rfl).ix (0 : Int) (i := a2.Row) (by omega) (by omega)
   exact Sv_val rfl (R_idx rfl rfl hAq43 rfl Try.underlying22 size3 (by omega) (by omega)) ⟨⟨fun _ => ((g_ 7).a 0), fun _ => ((g_ 7).c 0), fun _ => zE, fun _ => 0⟩, (by show _ = Value.pointer (Option.map _ _); rw [hAq43]; rfl), hS.fin [0, 1, 2] (by decide) rfl⟩
  refine ⟨fun g_ w44 fr45 hS => ?_, ?_⟩
  ·have _w44 := trivial
   have hS : Sp (FF []) w z w44 [oR (kint .i64) 3 zE ((g_ 10).a 0) ((g_ 10).c 0) (startsS a1), bR b2 39 [.int .i64 a2.Row, .int .i64 a2.Col, .int .i64 a2.Rows, .int .i64 a2.Cols], allR fr45] := hS
   obtain ⟨q46, hAq46, hxq46⟩ := (hS.rw 0 rfl).ix (0 : Int) (i := a2.Row) (by omega) (by omega)
   exact Sv_val rfl (R_load1 rfl (by show some (Value.pointer (Option.map _ _)) = _; rw [hAq46]; rfl) agg3 ((hS.rw 0 rfl).cellAt hAq46 hxq46 (fun _ h => h) 0 _ rfl)) ⟨gh0, rfl, hS.fin [0, 1, 2] (by decide) rfl⟩
  refine ⟨fun _ _ _ hS => Sv_val rfl (R_assign rfl rfl) ⟨gh0, rfl, hS⟩, fun _ _ _ hS => Sv_val rfl (R_assign rfl rfl) ⟨gh0, rfl, hS⟩, ?_⟩
  exact trivial
 ·intro g_ w51 hS
  have hS : Sp (FF []) w z w51 [oR (kint .i64) 3 zE ((g_ 4).a 0) ((g_ 4).c 0) (startsS a0), oR (kint .i64) 3 zE ((g_ 10).a 0) ((g_ 10).c 0) (startsS a1), bR b2 39 [.int .i64 a2.Row, .int .i64 a2.Col, .int .i64 a2.Rows, .int .i64 a2.Cols]] := hS
  refine An_fr [(0, .slice Aa0 a0.length ca0), (1, .slice Aa1 a1.length ca1), (5, .pointer (some ⟨b2, 0, none⟩)), (6, .int .i64 ((startsS a0).getD a2.Col.toNat (0 : Int))), (7, .int .i64 ((startsS a1).getD a2.Row.toNat (0 : Int)))] rfl ?_
  generalize ((g_ 4).a 0) = A53 at hS ⊢
  generalize ((g_ 4).c 0) = c54 at hS ⊢
  generalize ((g_ 10).a 0) = A55 at hS ⊢
  generalize ((g_ 10).c 0) = c56 at hS ⊢
  have hp57 := hS.cap 0 rfl
  have hlhp57 := hp57.le
  have hmhp57 := hp57.mx
  have hp58 := hS.cap 1 rfl
  have hlhp58 := hp58.le
  have hmhp58 := hp58.mx
  refine An_done (by decide +kernel) ?_
  refine E_then ?_
  refine C_ret ?_
  refine E_ret2 rfl rfl rfl ?_
  exact ⟨Lret2 (Lint (show (startsS a0).getD a2.Col.toNat (0 : Int) = (startsS a0).getD a2.Col.toNat 0 by rfl)) (Lint (show (startsS a1).getD a2.Row.toNat (0 : Int) = (startsS a1).getD a2.Row.toNat 0 by rfl)), hS.fin [] (by decide) rfl⟩

set_option maxHeartbeats 400000 in
set_option maxRecDepth 20000 in
theorem extent_calls (a0 : List Int) (Aa0 : Option Addr) (ca0 : Nat) (a1 : List Int) (Aa1 : Option Addr) (ca1 : Nat) (a2 : TRect) (z : Z) (w : World) (hI : In z w []) (hra0 : Rd (kint .i64) z Aa0 a0) (hca0 : Cap Aa0 a0.length ca0) (hra1 : Rd (kint .i64) z Aa1 a1) (hca1 : Cap Aa1 a1.length ca1) (p0 : a0.length ≤ 1000) (p1 : a1.length ≤ 1000) (p2 : insideS a0.length a1.length a2 = true) :
    Calls Try.prog 85 #[.slice Aa0 a0.length ca0, .slice Aa1 a1.length ca1, .agg #[.int .i64 a2.Row, .int .i64 a2.Col, .int .i64 a2.Rows, .int .i64 a2.Cols]] w fun e w' => e = .returned (.tuple #[.int .i64 (a2.Cols - 1 + sumC a0 a2.Col.toNat a2.Cols.toNat), .int .i64 (a2.Rows - 1 + sumC a1 a2.Row.toNat a2.Rows.toNat)]) ∧ Sp (FF []) w z w' [] := by
 have hla0 := hca0.le
 have hma0 := hca0.mx
 have hla1 := hca1.le
 have hma1 := hca1.mx
 have hS := hI.sp
 have hi := inside_of p2
 refine Calls_of (vs := [.slice Aa0 a0.length ca0, .slice Aa1 a1.length ca1, .agg #[.int .i64 a2.Row, .int .i64 a2.Col, .int .i64 a2.Rows, .int .i64 a2.Cols]]) (N := 52) Try.func85 rfl rfl (Nat.le_of_ble_eq_true rfl) ?_
 refine C_seq ?_
 refine C_region ?_
 refine W_cons rfl (by decide) (S_box hS rfl (R_box (cs := [.int .i64 a2.Row, .int .i64 a2.Col, .int .i64 a2.Rows, .int .i64 a2.Cols]) rfl rfl rfl) (fun b2 w1 hS => ?_))
 refine wv rfl rfl rfl (R_assign rfl rfl) <| wv rfl rfl rfl (R_assign rfl rfl) ?_
 refine W_nil ?_
 refine E_then ?_
 refine C_seq ?_
 refine C_fr [(0, .slice Aa0 a0.length ca0), (1, .slice Aa1 a1.length ca1), (5, .pointer (some ⟨b2, 0, none⟩))] rfl ?_
 refine C_drawn 8 [[], [0], [1], [], [3], [4], [2, 0, 1, 2], [5, 6, 0, 1, 2, 3, 4, 5, 6]] [12, 13, 14, 15, 16, 17, 8, 9] [0, 1, 5] rfl (by kernel_rfl) (by decide +kernel) [fun v_ _ => v_ = .pointer (some ⟨b2, 3, none⟩), fun v_ _ => v_ = .int .i64 a2.Cols, fun v_ _ => v_ = .int .i64 (a2.Cols - 1), fun v_ _ => v_ = .pointer (some ⟨b2, 2, none⟩), fun v_ _ => v_ = .int .i64 a2.Rows, fun v_ _ => v_ = .int .i64 (a2.Rows - 1), fun v_ _ => v_ = .int .i64 (a2.Cols - 1), fun v_ _ => v_ = .int .i64 (a2.Rows - 1)] ⟨fun _ _ _ h _ => h, ⟨fun _ _ _ h _ => h, ⟨fun _ _ _ h _ => h, ⟨fun _ _ _ h _ => h, ⟨fun _ _ _ h _ => h, ⟨fun _ _ _ h _ => h, ⟨fun _ _ _ h _ => h, ⟨fun _ _ _ h _ => h, trivial⟩⟩⟩⟩⟩⟩⟩⟩ ⟨fun w3 hc4 => by have hS := hS.chg0 hc4; exact Sv_val rfl (R_fld rfl rfl fld39_3) ⟨Chg.refl _ _, rfl⟩, ⟨fun w3 hc4 => by have hS := hS.chg0 hc4; rintro _ rfl; exact Sv_val rfl (R_load1 rfl rfl agg3 ((hS.bx 0 rfl).cell rfl)) ⟨Chg.refl _ _, rfl⟩, ⟨fun w3 hc4 => by have hS := hS.chg0 hc4; rintro _ rfl; exact Sv_val rfl (R_sub64 rfl rfl rfl (by omega) (by omega)) ⟨Chg.refl _ _, rfl⟩, ⟨fun w3 hc4 => by have hS := hS.chg0 hc4; exact Sv_val rfl (R_fld rfl rfl fld39_2) ⟨Chg.refl _ _, rfl⟩, ⟨fun w3 hc4 => by have hS := hS.chg0 hc4; rintro _ rfl; exact Sv_val rfl (R_load1 rfl rfl agg3 ((hS.bx 0 rfl).cell rfl)) ⟨Chg.refl _ _, rfl⟩, ⟨fun w3 hc4 => by have hS := hS.chg0 hc4; rintro _ rfl; exact Sv_val rfl (R_sub64 rfl rfl rfl (by omega) (by omega)) ⟨Chg.refl _ _, rfl⟩, ⟨fun w3 hc4 => by have hS := hS.chg0 hc4; rintro _ rfl _ rfl _ rfl _ rfl; exact Sv_val rfl (R_assign rfl rfl) ⟨Chg.refl _ _, rfl⟩, ⟨fun w3 hc4 => by have hS := hS.chg0 hc4; rintro _ rfl _ rfl _ rfl _ rfl _ rfl _ rfl _ rfl _ rfl _ rfl; exact Sv_val rfl (R_assign rfl rfl) ⟨Chg.refl _ _, rfl⟩, trivial⟩⟩⟩⟩⟩⟩⟩⟩ ?_
 intro w3 hc4
 have hS := hS.chg0 hc4
 rintro _ rfl _ rfl _ rfl _ rfl _ rfl _ rfl _ rfl _ rfl
 refine An_fr [(0, .slice Aa0 a0.length ca0), (1, .slice Aa1 a1.length ca1), (5, .pointer (some ⟨b2, 0, none⟩)), (8, .int .i64 (a2.Cols - 1)), (9, .int .i64 (a2.Rows - 1))] rfl ?_
 refine An_done (by decide +kernel) ?_
 refine E_then ?_
 refine C_seq ?_
 refine C_seq ?_
 refine C_region ?_
 refine wv rfl rfl rfl (R_assign rfl rfl) ?_
 refine W_nil ?_
 refine E_then ?_
 refine C_block ?_
 have hs6 : a2.Cols - 1 = a2.Cols - 1 + sumC a0 a2.Col.toNat (0 : Nat) := by simp [sumC]
 refine C_fr [(0, .slice Aa0 a0.length ca0), (1, .slice Aa1 a1.length ca1), (5, .pointer (some ⟨b2, 0, none⟩)), (8, .int .i64 (a2.Cols - 1)), (9, .int .i64 (a2.Rows - 1)), (10, .int .i64 0)] rfl ?_
 refine C_loop (fun m_ f_ w_ => ∃ (i : Nat), f_ = [(0, .slice Aa0 a0.length ca0), (1, .slice Aa1 a1.length ca1), (5, .pointer (some ⟨b2, 0, none⟩)), (8, .int .i64 (a2.Cols - 1 + sumC a0 a2.Col.toNat i)), (9, .int .i64 (a2.Rows - 1)), (10, .int .i64 (i : Int))] ∧ (i : Int) ≤ a2.Cols ∧ m_ = a2.Cols.toNat - i ∧ Sp (FF []) w z w_ [bR b2 39 [.int .i64 a2.Row, .int .i64 a2.Col, .int .i64 a2.Rows, .int .i64 a2.Cols]]) (a2.Cols.toNat - (0 : Nat)) ⟨(0 : Nat), (by rw [← hs6] <;> rfl), (by omega), rfl, hS.fin [0] (by decide) rfl⟩ ?_
 rintro m_ f_ w5 ⟨i, rfl, hI0_0, rfl, hS⟩
 have hsb := sumC_bd a0 a2.Col.toNat i
 have hcb := acut_bd (a0.getD (a2.Col + (i : Int)).toNat 0)
 refine C_seq ?_
 refine C_seq ?_
 refine C_region ?_
 refine wv rfl rfl rfl (R_move rfl rfl) <| wv rfl rfl rfl (R_fld rfl rfl fld39_3) <| wv rfl rfl rfl (R_load1 rfl rfl agg3 ((hS.bx 0 rfl).cell rfl)) <| wv rfl rfl rfl (R_bin rfl rfl rfl rfl rfl) ?_
 refine W_nil ?_
 refine E_then ?_
 refine C_ite rfl (fun hC0 => ?_) (fun hC0 => ?_)
 ·have _hC0 := trivial
  have hC0p : (i : Int) < a2.Cols := by simpa using hC0
  refine C_skip ?_
  refine E_then ?_
  refine C_seq ?_
  refine C_block ?_
  refine C_region ?_
  refine wv rfl rfl rfl (R_move rfl rfl) <| wv rfl rfl rfl (R_move rfl rfl) <| wv rfl rfl rfl (R_fld rfl rfl fld39_1) <| wv rfl rfl rfl (R_load1 rfl rfl agg3 ((hS.bx 0 rfl).cell rfl)) <| wv rfl rfl rfl (R_move rfl rfl) <| wv rfl rfl rfl (R_add64 rfl rfl rfl (by omega) (by omega)) ?_
  obtain ⟨q7, csq7, hAq7, rfl, hkq7⟩ := hra0.at_ (0 : Int) (i := (a2.Col + (i : Int))) (by omega) (by omega)
  refine wv rfl rfl rfl (R_idx rfl rfl hAq7 rfl Try.underlying22 size3 (by omega) (by omega)) <| wv rfl rfl rfl (R_load1 rfl rfl agg3 (hS.sub.cell (hkq7 0 _ rfl))) ?_
  refine W_cons rfl (by decide) (Sv_call rfl rfl rfl ent83 ?_)
  refine (rsize_calls (a0.getD (a2.Col + (i : Int)).toNat (0 : Int)) _ _ hS.out0  ).mono ?_
  rintro e_ w8 ⟨rfl, hS_⟩
  refine ⟨_, rfl, ?_⟩
  have hS := hS.call0 hS_
  refine wv rfl rfl rfl (R_add64 rfl rfl rfl (by omega) (by omega)) <| wv rfl rfl rfl (R_assign rfl rfl) ?_
  refine W_nil ?_
  refine E_block_normal ?_
  refine E_then (C_fr [(0, .slice Aa0 a0.length ca0), (1, .slice Aa1 a1.length ca1), (5, .pointer (some ⟨b2, 0, none⟩)), (8, .int .i64 ((a2.Cols - 1 + sumC a0 a2.Col.toNat i) + (acutS (a0.getD (a2.Col + (i : Int)).toNat (0 : Int))))), (9, .int .i64 (a2.Rows - 1)), (10, .int .i64 (i : Int))] rfl ?_)
  refine C_region ?_
  refine wv rfl rfl rfl (R_move rfl rfl) <| wv rfl rfl rfl (R_add64 rfl rfl rfl (by omega) (by omega)) <| wv rfl rfl rfl (R_assign rfl rfl) ?_
  refine W_nil ?_
  have hs10 : (a2.Cols - 1 + sumC a0 a2.Col.toNat i) + (acutS (a0.getD (a2.Col + (i : Int)).toNat (0 : Int))) = a2.Cols - 1 + sumC a0 a2.Col.toNat (i + 1 : Nat) := by rw [show (a2.Col + (i : Int)).toNat = a2.Col.toNat + i from by omega]; simp only [sumC]; omega
  refine E_round [0, 1, 5, 8, 9, 10] ?_ ⟨(i + 1 : Nat), (by rw [← hs10] <;> rfl), (by omega), rfl, hS.fin [0] (by decide) rfl⟩
  omega
 ·have _hC0 := trivial
  have hC0p : ¬ ((i : Int) < a2.Cols) := by simpa using hC0
  refine C_exit ?_
  refine E_then_exit ?_
  refine E_then_exit ?_
  refine E_block_hit ?_
  refine E_then (C_fr [(1, .slice Aa1 a1.length ca1), (5, .pointer (some ⟨b2, 0, none⟩)), (8, .int .i64 (a2.Cols - 1 + sumC a0 a2.Col.toNat i)), (9, .int .i64 (a2.Rows - 1))] rfl ?_)
  refine C_seq ?_
  refine C_seq ?_
  refine C_region ?_
  refine wv rfl rfl rfl (R_assign rfl rfl) ?_
  refine W_nil ?_
  refine E_then ?_
  refine C_block ?_
  have hs12 : a2.Rows - 1 = a2.Rows - 1 + sumC a1 a2.Row.toNat (0 : Nat) := by simp [sumC]
  refine C_fr [(1, .slice Aa1 a1.length ca1), (5, .pointer (some ⟨b2, 0, none⟩)), (8, .int .i64 (a2.Cols - 1 + sumC a0 a2.Col.toNat i)), (9, .int .i64 (a2.Rows - 1)), (11, .int .i64 0)] rfl ?_
  refine C_loop (fun m_ f_ w_ => ∃ (j : Nat), f_ = [(1, .slice Aa1 a1.length ca1), (5, .pointer (some ⟨b2, 0, none⟩)), (8, .int .i64 (a2.Cols - 1 + sumC a0 a2.Col.toNat i)), (9, .int .i64 (a2.Rows - 1 + sumC a1 a2.Row.toNat j)), (11, .int .i64 (j : Int))] ∧ (j : Int) ≤ a2.Rows ∧ m_ = a2.Rows.toNat - j ∧ Sp (FF []) w z w_ [bR b2 39 [.int .i64 a2.Row, .int .i64 a2.Col, .int .i64 a2.Rows, .int .i64 a2.Cols]]) (a2.Rows.toNat - (0 : Nat)) ⟨(0 : Nat), (by rw [← hs12] <;> rfl), (by omega), rfl, hS.fin [0] (by decide) rfl⟩ ?_
  rintro m_ f_ w11 ⟨j, rfl, hI1_0, rfl, hS⟩
  have hsb := sumC_bd a1 a2.Row.toNat j
  have hcb := acut_bd (a1.getD (a2.Row + (j : Int)).toNat 0)
  refine C_seq ?_
  refine C_seq ?_
  refine C_region ?_
  refine wv rfl rfl rfl (R_move rfl rfl) <| wv rfl rfl rfl (R_fld rfl rfl fld39_2) <| wv rfl rfl rfl (R_load1 rfl rfl agg3 ((hS.bx 0 rfl).cell rfl)) <| wv rfl rfl rfl (R_bin rfl rfl rfl rfl rfl) ?_
  refine W_nil ?_
  refine E_then ?_
  refine C_ite rfl (fun hC1 => ?_) (fun hC1 => ?_)
  ·have _hC1 := trivial
   have hC1p : (j : Int) < a2.Rows := by simpa using hC1
   refine C_skip ?_
   refine E_then ?_
   refine C_seq ?_
   refine C_block ?_
   refine C_region ?_
   refine wv rfl rfl rfl (R_move rfl rfl) <| wv rfl rfl rfl (R_move rfl rfl) <| wv rfl rfl rfl (R_fld rfl rfl fld39_0) <| wv rfl rfl rfl (R_load1 rfl rfl agg3 ((hS.bx 0 rfl).cell rfl)) <| wv rfl rfl rfl (R_move rfl rfl) <| wv rfl rfl rfl (R_add64 rfl rfl rfl (by omega) (by omega)) ?_
   obtain ⟨q13, csq13, hAq13, rfl, hkq13⟩ := hra1.at_ (0 : Int) (i := (a2.Row + (j : Int))) (by omega) (by omega)
   refine wv rfl rfl rfl (R_idx rfl rfl hAq13 rfl Try.underlying22 size3 (by omega) (by omega)) <| wv rfl rfl rfl (R_load1 rfl rfl agg3 (hS.sub.cell (hkq13 0 _ rfl))) ?_
   refine W_cons rfl (by decide) (Sv_call rfl rfl rfl ent83 ?_)
   refine (rsize_calls (a1.getD (a2.Row + (j : Int)).toNat (0 : Int)) _ _ hS.out0  ).mono ?_
   rintro e_ w14 ⟨rfl, hS_⟩
   refine ⟨_, rfl, ?_⟩
   have hS := hS.call0 hS_
   refine wv rfl rfl rfl (R_add64 rfl rfl rfl (by omega) (by omega)) <| wv rfl rfl rfl (R_assign rfl rfl) ?_
   refine W_nil ?_
   refine E_block_normal ?_
   refine E_then (C_fr [(1, .slice Aa1 a1.length ca1), (5, .pointer (some ⟨b2, 0, none⟩)), (8, .int .i64 (a2.Cols - 1 + sumC a0 a2.Col.toNat i)), (9, .int .i64 ((a2.Rows - 1 + sumC a1 a2.Row.toNat j) + (acutS (a1.getD (a2.Row + (j : Int)).toNat (0 : Int))))), (11, .int .i64 (j : Int))] rfl ?_)
   refine C_region ?_
   refine wv rfl rfl rfl (R_move rfl rfl) <| wv rfl rfl rfl (R_add64 rfl rfl rfl (by omega) (by omega)) <| wv rfl rfl rfl (R_assign rfl rfl) ?_
   refine W_nil ?_
   have hs16 : (a2.Rows - 1 + sumC a1 a2.Row.toNat j) + (acutS (a1.getD (a2.Row + (j : Int)).toNat (0 : Int))) = a2.Rows - 1 + sumC a1 a2.Row.toNat (j + 1 : Nat) := by rw [show (a2.Row + (j : Int)).toNat = a2.Row.toNat + j from by omega]; simp only [sumC]; omega
   refine E_round [1, 5, 8, 9, 11] ?_ ⟨(j + 1 : Nat), (by rw [← hs16] <;> rfl), (by omega), rfl, hS.fin [0] (by decide) rfl⟩
   omega
  ·have _hC1 := trivial
   have hC1p : ¬ ((j : Int) < a2.Rows) := by simpa using hC1
   refine C_exit ?_
   refine E_then_exit ?_
   refine E_then_exit ?_
   refine E_block_hit ?_
   refine E_then (C_fr [(8, .int .i64 (a2.Cols - 1 + sumC a0 a2.Col.toNat i)), (9, .int .i64 (a2.Rows - 1 + sumC a1 a2.Row.toNat j))] rfl ?_)
   refine C_seq ?_
   refine C_region ?_
   refine wv rfl rfl rfl (R_move rfl rfl) <| wv rfl rfl rfl (R_move rfl rfl) <| wv rfl rfl rfl (R_assign rfl rfl) <| wv rfl rfl rfl (R_assign rfl rfl) ?_
   refine W_nil ?_
   refine E_then ?_
   refine C_ret ?_
   refine E_ret2 rfl rfl rfl ?_
   exact ⟨Lret2 (Lint (show a2.Cols - 1 + sumC a0 a2.Col.toNat i = a2.Cols - 1 + sumC a0 a2.Col.toNat a2.Cols.toNat by rw [show a2.Cols.toNat = i from by omega])) (Lint (show a2.Rows - 1 + sumC a1 a2.Row.toNat j = a2.Rows - 1 + sumC a1 a2.Row.toNat a2.Rows.toNat by rw [show a2.Rows.toNat = j from by omega])), hS.fin [] (by decide) rfl⟩

set_option maxHeartbeats 400000 in
set_option maxRecDepth 20000 in
theorem cfi_idx_calls (a0 : List Int) (Aa0 : Option Addr) (ca0 : Nat) (ga1 : Nat) (ka1 : List Value) (Ra1 : Res) (zca1 : Z) (pa1 : Int → Bool) (z : Z) (w : World) (hI : In z w [Ra1]) (hra0 : Rd (kint .i64) z Aa0 a0) (hca0 : Cap Aa0 a0.length ca0) (hfa1 : FV Try.prog zca1 ga1 ka1 (fun z_ (x_ : Int) vs_ => vs_ = [.int .i64 x_]) (fun (_ _ : Unit) => Ra1) (fun _ x_ => True) (fun _ _ => ()) (fun _ x_ => .bool (pa1 x_))) (hza1 : zle zca1 z)  :
    Calls Try.prog 93 #[.slice Aa0 a0.length ca0, .func (.func ga1) #[] ka1.toArray] w fun e w' => e = .returned (.int .i64 (idxF pa1 a0 0)) ∧ Sp (FF [Ra1]) w z w' [Ra1] := by
 have hla0 := hca0.le
 have hma0 := hca0.mx
 have hS := hI.sp
 refine Calls_of (vs := [.slice Aa0 a0.length ca0, .func (.func ga1) #[] ka1.toArray]) (N := 19) Try.func93 rfl rfl (Nat.le_of_ble_eq_true rfl) ?_
 refine C_seq ?_
 refine C_region ?_
 refine wv rfl rfl rfl (R_assign rfl rfl) ?_
 refine W_nil ?_
 refine E_then ?_
 refine C_seq ?_
 refine C_seq ?_
 refine C_region ?_
 refine wv rfl rfl rfl (R_move rfl rfl) <| wv rfl rfl rfl (R_len rfl rfl Try.underlying22) <| wv rfl rfl rfl (R_move rfl rfl) ?_
 refine W_nil ?_
 refine E_then ?_
 refine C_block ?_
 refine C_fr [(0, .slice Aa0 a0.length ca0), (1, .func (.func ga1) #[] ka1.toArray), (7, .int .i64 (a0.length : Int)), (8, .int .i64 0)] rfl ?_
 refine C_loop (fun m_ f_ w_ => ∃ (i : Nat), f_ = [(0, .slice Aa0 a0.length ca0), (1, .func (.func ga1) #[] ka1.toArray), (7, .int .i64 (a0.length : Int)), (8, .int .i64 (i : Int))] ∧ i ≤ a0.length ∧ idxF pa1 (a0.drop i) i = idxF pa1 a0 0 ∧ m_ = a0.length - i ∧ Sp (FF [Ra1]) w z w_ [Ra1]) (a0.length - (0 : Nat)) ⟨(0 : Nat), rfl, (by omega), (by rfl), rfl, hS.fin [0] (by decide) rfl⟩ ?_
 rintro m_ f_ w1 ⟨i, rfl, hI0_0, hI0_1, rfl, hS⟩
 refine C_seq ?_
 refine C_region ?_
 refine wv rfl rfl rfl (R_bin rfl rfl rfl rfl rfl) ?_
 refine W_nil ?_
 refine E_then ?_
 refine C_seq ?_
 refine C_ite rfl (fun hC0 => ?_) (fun hC0 => ?_)
 ·have _hC0 := trivial
  have hC0p : (i : Int) < (a0.length : Int) := by simpa using hC0
  refine C_skip ?_
  refine E_then ?_
  refine C_seq ?_
  refine C_block ?_
  refine C_seq ?_
  refine C_region ?_
  refine wv rfl rfl rfl (R_move rfl rfl) <| wv rfl rfl rfl (R_assign rfl rfl) ?_
  refine W_nil ?_
  refine E_then ?_
  refine C_seq ?_
  refine C_region ?_
  refine wv rfl rfl rfl (R_move rfl rfl) <| wv rfl rfl rfl (R_move rfl rfl) <| wv rfl rfl rfl (R_move rfl rfl) ?_
  obtain ⟨q2, csq2, hAq2, rfl, hkq2⟩ := hra0.at_ (0 : Int) (i := (i : Int)) (by omega) (by omega)
  have hkq2 : ∀ (j_ : Nat) (u_ : Value), ([.int .i64 (a0.getD i (0 : Int))] : List Value)[j_]? = some u_ → cz z (q2.add (i * 1 + j_)) = some u_ := hkq2
  refine wv rfl rfl rfl (R_idx rfl rfl hAq2 rfl Try.underlying22 size3 (by omega) (by omega)) <| wv rfl rfl rfl (R_load1 rfl rfl agg3 (hS.sub.cell (hkq2 0 _ rfl))) ?_
  refine W_cons rfl (by decide) (S_cb (s := ()) (y := ()) hfa1 hS 0 rfl hza1 ((a0.getD i (0 : Int))) (by trivial) rfl rfl rfl rfl rfl (fun y4 w3 hS => ?_))
  refine W_nil ?_
  refine E_then (C_fr [(0, .slice Aa0 a0.length ca0), (1, .func (.func ga1) #[] ka1.toArray), (5, .int .i64 (i : Int)), (7, .int .i64 (a0.length : Int)), (8, .int .i64 (i : Int)), (16, .bool (pa1 (a0.getD i (0 : Int))))] rfl ?_)
  refine C_ite rfl (fun hC1 => ?_) (fun hC1 => ?_)
  ·have _hC1 := trivial
   refine C_seq ?_
   refine C_region ?_
   refine wv rfl rfl rfl (R_move rfl rfl) <| wv rfl rfl rfl (R_assign rfl rfl) ?_
   refine W_nil ?_
   refine E_then (C_fr [(4, .int .i64 (i : Int))] rfl ?_)
   refine C_ret ?_
   refine E_block_ret ?_
   refine E_then_ret ?_
   refine E_then_ret ?_
   refine E_block_ret ?_
   refine E_then_ret ?_
   refine E_ret1 rfl rfl ?_
   exact ⟨Lret1 (Lint (show (i : Int) = idxF pa1 a0 0 by first | (rw [← hI0_1]; exact (idxF_hit (d := (0 : Int)) (by omega) (by assumption)).symm) | (rw [← hI0_1]; exact (idxF_end (by omega)).symm))), hS.fin [0] (by decide) rfl⟩
  ·have _hC1 := trivial
   refine C_skip ?_
   refine E_block_normal ?_
   refine E_then ?_
   refine C_region ?_
   refine wv rfl rfl rfl (R_add64 rfl rfl rfl (by omega) (by omega)) <| wv rfl rfl rfl (R_move rfl rfl) ?_
   refine W_nil ?_
   refine E_round [0, 1, 7, 8] ?_ ⟨(i + 1 : Nat), rfl, (by omega), (by rw [← hI0_1, idxF_next (n := i) (d := (0 : Int)) (by omega) (by assumption)] <;> rfl), rfl, hS.fin [0] (by decide) rfl⟩
   omega
 ·have _hC0 := trivial
  have hC0p : ¬ ((i : Int) < (a0.length : Int)) := by simpa using hC0
  refine C_exit ?_
  refine E_then_exit ?_
  refine E_then_exit ?_
  refine E_block_hit ?_
  refine E_then (C_fr [] rfl ?_)
  refine C_seq ?_
  refine C_region ?_
  refine wv rfl rfl rfl (R_assign rfl rfl) ?_
  refine W_nil ?_
  refine E_then ?_
  refine C_ret ?_
  refine E_ret1 rfl rfl ?_
  exact ⟨Lret1 (Lint (show (-1) = idxF pa1 a0 0 by first | (rw [← hI0_1]; exact (idxF_hit (d := (0 : Int)) (by omega) (by assumption)).symm) | (rw [← hI0_1]; exact (idxF_end (by omega)).symm))), hS.fin [0] (by decide) rfl⟩

set_option maxHeartbeats 400000 in
set_option maxRecDepth 20000 in
theorem cfi_has_calls (a0 : List Int) (Aa0 : Option Addr) (ca0 : Nat) (ga1 : Nat) (ka1 : List Value) (Ra1 : Res) (zca1 : Z) (pa1 : Int → Bool) (z : Z) (w : World) (hI : In z w [Ra1]) (hra0 : Rd (kint .i64) z Aa0 a0) (hca0 : Cap Aa0 a0.length ca0) (hfa1 : FV Try.prog zca1 ga1 ka1 (fun z_ (x_ : Int) vs_ => vs_ = [.int .i64 x_]) (fun (_ _ : Unit) => Ra1) (fun _ x_ => True) (fun _ _ => ()) (fun _ x_ => .bool (pa1 x_))) (hza1 : zle zca1 z)  :
    Calls Try.prog 86 #[.slice Aa0 a0.length ca0, .func (.func ga1) #[] ka1.toArray] w fun e w' => e = .returned (.bool (hasF pa1 a0)) ∧ Sp (FF [Ra1]) w z w' [Ra1] := by
 have hla0 := hca0.le
 have hma0 := hca0.mx
 have hS := hI.sp
 refine Calls_of (vs := [.slice Aa0 a0.length ca0, .func (.func ga1) #[] ka1.toArray]) (N := 9) Try.func86 rfl rfl (Nat.le_of_ble_eq_true rfl) ?_
 refine C_seq ?_
 refine C_region ?_
 refine wv rfl rfl rfl (R_assign rfl rfl) ?_
 refine W_nil ?_
 refine E_then ?_
 refine C_seq ?_
 refine C_region ?_
 refine wv rfl rfl rfl (R_move rfl rfl) <| wv rfl rfl rfl (R_move rfl rfl) ?_
 refine W_cons rfl (by decide) (Sv_call rfl rfl rfl ent93 ?_)
 refine (cfi_idx_calls a0 Aa0 ca0 ga1 ka1 Ra1 zca1 pa1 _ _ (hS.out [0] (by decide)) (hra0.mono (hS.zl [0])) hca0 hfa1 (hza1.trans (hS.zl [0])) ).mono ?_
 rintro e_ w1 ⟨rfl, hS_⟩
 refine ⟨_, rfl, ?_⟩
 have hS := hS.call [0] (by decide) hS_
 refine wv rfl rfl rfl (R_bin rfl rfl rfl rfl rfl) <| wv rfl rfl rfl (R_assign rfl rfl) ?_
 refine W_nil ?_
 refine E_then (C_fr [(4, .bool (decide ((idxF pa1 a0 0) ≥ 0)))] rfl ?_)
 refine C_ret ?_
 refine E_ret1 rfl rfl ?_
 exact ⟨Lret1 (Lbool (show (decide ((idxF pa1 a0 0) ≥ 0)) = (hasF pa1 a0) by rfl)), hS.fin [0] (by decide) rfl⟩

set_option maxHeartbeats 400000 in
set_option maxRecDepth 20000 in
theorem cfc_idx_calls (a0 : List TCell) (Aa0 : Option Addr) (ca0 : Nat) (ga1 : Nat) (ka1 : List Value) (Ra1 : Res) (zca1 : Z) (pa1 : TCell → Bool) (z : Z) (w : World) (hI : In z w [Ra1]) (hra0 : Rd kdTCell z Aa0 a0) (hca0 : Cap Aa0 a0.length ca0) (hfa1 : FV Try.prog zca1 ga1 ka1 (fun z_ (x_ : TCell) vs_ => vs_ = [.agg #[.int .i64 x_.Row, .int .i64 x_.Col, vstr x_.Text, .int .i64 x_.Style.Align, .int .i64 x_.Style.Wrap, .int .i64 x_.Style.Dir]]) (fun (_ _ : Unit) => Ra1) (fun _ x_ => True) (fun _ _ => ()) (fun _ x_ => .bool (pa1 x_))) (hza1 : zle zca1 z)  :
    Calls Try.prog 75 #[.slice Aa0 a0.length ca0, .func (.func ga1) #[] ka1.toArray] w fun e w' => e = .returned (.int .i64 (idxF pa1 a0 0)) ∧ Sp (FF [Ra1]) w z w' [Ra1] := by
 have hla0 := hca0.le
 have hma0 := hca0.mx
 have hS := hI.sp
 refine Calls_of (vs := [.slice Aa0 a0.length ca0, .func (.func ga1) #[] ka1.toArray]) (N := 19) Try.func75 rfl rfl (Nat.le_of_ble_eq_true rfl) ?_
 refine C_seq ?_
 refine C_region ?_
 refine wv rfl rfl rfl (R_assign rfl rfl) ?_
 refine W_nil ?_
 refine E_then ?_
 refine C_seq ?_
 refine C_seq ?_
 refine C_region ?_
 refine wv rfl rfl rfl (R_move rfl rfl) <| wv rfl rfl rfl (R_len rfl rfl Try.underlying23) <| wv rfl rfl rfl (R_move rfl rfl) ?_
 refine W_nil ?_
 refine E_then ?_
 refine C_block ?_
 refine C_fr [(0, .slice Aa0 a0.length ca0), (1, .func (.func ga1) #[] ka1.toArray), (7, .int .i64 (a0.length : Int)), (8, .int .i64 0)] rfl ?_
 refine C_loop (fun m_ f_ w_ => ∃ (i : Nat), f_ = [(0, .slice Aa0 a0.length ca0), (1, .func (.func ga1) #[] ka1.toArray), (7, .int .i64 (a0.length : Int)), (8, .int .i64 (i : Int))] ∧ i ≤ a0.length ∧ idxF pa1 (a0.drop i) i = idxF pa1 a0 0 ∧ m_ = a0.length - i ∧ Sp (FF [Ra1]) w z w_ [Ra1]) (a0.length - (0 : Nat)) ⟨(0 : Nat), rfl, (by omega), (by rfl), rfl, hS.fin [0] (by decide) rfl⟩ ?_
 rintro m_ f_ w1 ⟨i, rfl, hI0_0, hI0_1, rfl, hS⟩
 refine C_seq ?_
 refine C_region ?_
 refine wv rfl rfl rfl (R_bin rfl rfl rfl rfl rfl) ?_
 refine W_nil ?_
 refine E_then ?_
 refine C_seq ?_
 refine C_ite rfl (fun hC0 => ?_) (fun hC0 => ?_)
 ·have _hC0 := trivial
  have hC0p : (i : Int) < (a0.length : Int) := by simpa using hC0
  refine C_skip ?_
  refine E_then ?_
  refine C_seq ?_
  refine C_block ?_
  refine C_seq ?_
  refine C_region ?_
  refine wv rfl rfl rfl (R_move rfl rfl) <| wv rfl rfl rfl (R_assign rfl rfl) ?_
  refine W_nil ?_
  refine E_then ?_
  refine C_seq ?_
  refine C_region ?_
  refine wv rfl rfl rfl (R_move rfl rfl) <| wv rfl rfl rfl (R_move rfl rfl) <| wv rfl rfl rfl (R_move rfl rfl) ?_
  obtain ⟨q2, csq2, hAq2, rfl, hkq2⟩ := hra0.at_ (default : TCell) (i := (i : Int)) (by omega) (by omega)
  have hkq2 : ∀ (j_ : Nat) (u_ : Value), ([.int .i64 (a0.getD i (default : TCell)).Row, .int .i64 (a0.getD i (default : TCell)).Col, vstr (a0.getD i (default : TCell)).Text, .int .i64 (a0.getD i (default : TCell)).Style.Align, .int .i64 (a0.getD i (default : TCell)).Style.Wrap, .int .i64 (a0.getD i (default : TCell)).Style.Dir] : List Value)[j_]? = some u_ → cz z (q2.add (i * 6 + j_)) = some u_ := hkq2
  refine wv rfl rfl rfl (R_idx rfl rfl hAq2 rfl Try.underlying23 size60 (by omega) (by omega)) <| wv rfl rfl rfl (R_loadN (cs := [.int .i64 (a0.getD i (default : TCell)).Row, .int .i64 (a0.getD i (default : TCell)).Col, vstr (a0.getD i (default : TCell)).Text, .int .i64 (a0.getD i (default : TCell)).Style.Align, .int .i64 (a0.getD i (default : TCell)).Style.Wrap, .int .i64 (a0.getD i (default : TCell)).Style.Dir]) rfl rfl agg60 size60 rfl (fun j u h => cell_add (hS.sub.cell (hkq2 j u h)))) ?_
  refine W_cons rfl (by decide) (S_cb (s := ()) (y := ()) hfa1 hS 0 rfl hza1 (a0.getD i (default : TCell)) (by trivial) rfl rfl rfl rfl rfl (fun y4 w3 hS => ?_))
  refine W_nil ?_
  refine E_then (C_fr [(0, .slice Aa0 a0.length ca0), (1, .func (.func ga1) #[] ka1.toArray), (5, .int .i64 (i : Int)), (7, .int .i64 (a0.length : Int)), (8, .int .i64 (i : Int)), (16, .bool (pa1 (a0.getD i (default : TCell))))] rfl ?_)
  refine C_ite rfl (fun hC1 => ?_) (fun hC1 => ?_)
  ·have _hC1 := trivial
   refine C_seq ?_
   refine C_region ?_
   refine wv rfl rfl rfl (R_move rfl rfl) <| wv rfl rfl rfl (R_assign rfl rfl) ?_
   refine W_nil ?_
   refine E_then (C_fr [(4, .int .i64 (i : Int))] rfl ?_)
   refine C_ret ?_
   refine E_block_ret ?_
   refine E_then_ret ?_
   refine E_then_ret ?_
   refine E_block_ret ?_
   refine E_then_ret ?_
   refine E_ret1 rfl rfl ?_
   exact ⟨Lret1 (Lint (show (i : Int) = idxF pa1 a0 0 by first | (rw [← hI0_1]; exact (idxF_hit (d := (default : TCell)) (by omega) (by assumption)).symm) | (rw [← hI0_1]; exact (idxF_end (by omega)).symm))), hS.fin [0] (by decide) rfl⟩
  ·have _hC1 := trivial
   refine C_skip ?_
   refine E_block_normal ?_
   refine E_then ?_
   refine C_region ?_
   refine wv rfl rfl rfl (R_add64 rfl rfl rfl (by omega) (by omega)) <| wv rfl rfl rfl (R_move rfl rfl) ?_
   refine W_nil ?_
   refine E_round [0, 1, 7, 8] ?_ ⟨(i + 1 : Nat), rfl, (by omega), (by rw [← hI0_1, idxF_next (n := i) (d := (default : TCell)) (by omega) (by assumption)] <;> rfl), rfl, hS.fin [0] (by decide) rfl⟩
   omega
 ·have _hC0 := trivial
  have hC0p : ¬ ((i : Int) < (a0.length : Int)) := by simpa using hC0
  refine C_exit ?_
  refine E_then_exit ?_
  refine E_then_exit ?_
  refine E_block_hit ?_
  refine E_then (C_fr [] rfl ?_)
  refine C_seq ?_
  refine C_region ?_
  refine wv rfl rfl rfl (R_assign rfl rfl) ?_
  refine W_nil ?_
  refine E_then ?_
  refine C_ret ?_
  refine E_ret1 rfl rfl ?_
  exact ⟨Lret1 (Lint (show (-1) = idxF pa1 a0 0 by first | (rw [← hI0_1]; exact (idxF_hit (d := (default : TCell)) (by omega) (by assumption)).symm) | (rw [← hI0_1]; exact (idxF_end (by omega)).symm))), hS.fin [0] (by decide) rfl⟩

set_option maxHeartbeats 400000 in
set_option maxRecDepth 20000 in
theorem cfc_has_calls (a0 : List TCell) (Aa0 : Option Addr) (ca0 : Nat) (ga1 : Nat) (ka1 : List Value) (Ra1 : Res) (zca1 : Z) (pa1 : TCell → Bool) (z : Z) (w : World) (hI : In z w [Ra1]) (hra0 : Rd kdTCell z Aa0 a0) (hca0 : Cap Aa0 a0.length ca0) (hfa1 : FV Try.prog zca1 ga1 ka1 (fun z_ (x_ : TCell) vs_ => vs_ = [.agg #[.int .i64 x_.Row, .int .i64 x_.Col, vstr x_.Text, .int .i64 x_.Style.Align, .int .i64 x_.Style.Wrap, .int .i64 x_.Style.Dir]]) (fun (_ _ : Unit) => Ra1) (fun _ x_ => True) (fun _ _ => ()) (fun _ x_ => .bool (pa1 x_))) (hza1 : zle zca1 z)  :
    Calls Try.prog 46 #[.slice Aa0 a0.length ca0, .func (.func ga1) #[] ka1.toArray] w fun e w' => e = .returned (.bool (hasF pa1 a0)) ∧ Sp (FF [Ra1]) w z w' [Ra1] := by
 have hla0 := hca0.le
 have hma0 := hca0.mx
 have hS := hI.sp
 refine Calls_of (vs := [.slice Aa0 a0.length ca0, .func (.func ga1) #[] ka1.toArray]) (N := 9) Try.func46 rfl rfl (Nat.le_of_ble_eq_true rfl) ?_
 refine C_seq ?_
 refine C_region ?_
 refine wv rfl rfl rfl (R_assign rfl rfl) ?_
 refine W_nil ?_
 refine E_then ?_
 refine C_seq ?_
 refine C_region ?_
 refine wv rfl rfl rfl (R_move rfl rfl) <| wv rfl rfl rfl (R_move rfl rfl) ?_
 refine W_cons rfl (by decide) (Sv_call rfl rfl rfl ent75 ?_)
 refine (cfc_idx_calls a0 Aa0 ca0 ga1 ka1 Ra1 zca1 pa1 _ _ (hS.out [0] (by decide)) (hra0.mono (hS.zl [0])) hca0 hfa1 (hza1.trans (hS.zl [0])) ).mono ?_
 rintro e_ w1 ⟨rfl, hS_⟩
 refine ⟨_, rfl, ?_⟩
 have hS := hS.call [0] (by decide) hS_
 refine wv rfl rfl rfl (R_bin rfl rfl rfl rfl rfl) <| wv rfl rfl rfl (R_assign rfl rfl) ?_
 refine W_nil ?_
 refine E_then (C_fr [(4, .bool (decide ((idxF pa1 a0 0) ≥ 0)))] rfl ?_)
 refine C_ret ?_
 refine E_ret1 rfl rfl ?_
 exact ⟨Lret1 (Lbool (show (decide ((idxF pa1 a0 0) ≥ 0)) = (hasF pa1 a0) by rfl)), hS.fin [0] (by decide) rfl⟩

set_option maxHeartbeats 400000 in
set_option maxRecDepth 20000 in
theorem cfq_idx_calls (a0 : List TRect) (Aa0 : Option Addr) (ca0 : Nat) (ga1 : Nat) (ka1 : List Value) (Ra1 : Res) (zca1 : Z) (pa1 : TRect → Bool) (z : Z) (w : World) (hI : In z w [Ra1]) (hra0 : Rd kdTRect z Aa0 a0) (hca0 : Cap Aa0 a0.length ca0) (hfa1 : FV Try.prog zca1 ga1 ka1 (fun z_ (x_ : TRect) vs_ => vs_ = [.agg #[.int .i64 x_.Row, .int .i64 x_.Col, .int .i64 x_.Rows, .int .i64 x_.Cols]]) (fun (_ _ : Unit) => Ra1) (fun _ x_ => True) (fun _ _ => ()) (fun _ x_ => .bool (pa1 x_))) (hza1 : zle zca1 z)  :
    Calls Try.prog 64 #[.slice Aa0 a0.length ca0, .func (.func ga1) #[] ka1.toArray] w fun e w' => e = .returned (.int .i64 (idxF pa1 a0 0)) ∧ Sp (FF [Ra1]) w z w' [Ra1] := by
 have hla0 := hca0.le
 have hma0 := hca0.mx
 have hS := hI.sp
 refine Calls_of (vs := [.slice Aa0 a0.length ca0, .func (.func ga1) #[] ka1.toArray]) (N := 19) Try.func64 rfl rfl (Nat.le_of_ble_eq_true rfl) ?_
 refine C_seq ?_
 refine C_region ?_
 refine wv rfl rfl rfl (R_assign rfl rfl) ?_
 refine W_nil ?_
 refine E_then ?_
 refine C_seq ?_
 refine C_seq ?_
 refine C_region ?_
 refine wv rfl rfl rfl (R_move rfl rfl) <| wv rfl rfl rfl (R_len rfl rfl Try.underlying24) <| wv rfl rfl rfl (R_move rfl rfl) ?_
 refine W_nil ?_
 refine E_then ?_
 refine C_block ?_
 refine C_fr [(0, .slice Aa0 a0.length ca0), (1, .func (.func ga1) #[] ka1.toArray), (7, .int .i64 (a0.length : Int)), (8, .int .i64 0)] rfl ?_
 refine C_loop (fun m_ f_ w_ => ∃ (i : Nat), f_ = [(0, .slice Aa0 a0.length ca0), (1, .func (.func ga1) #[] ka1.toArray), (7, .int .i64 (a0.length : Int)), (8, .int .i64 (i : Int))] ∧ i ≤ a0.length ∧ idxF pa1 (a0.drop i) i = idxF pa1 a0 0 ∧ m_ = a0.length - i ∧ Sp (FF [Ra1]) w z w_ [Ra1]) (a0.length - (0 : Nat)) ⟨(0 : Nat), rfl, (by omega), (by rfl), rfl, hS.fin [0] (by decide) rfl⟩ ?_
 rintro m_ f_ w1 ⟨i, rfl, hI0_0, hI0_1, rfl, hS⟩
 refine C_seq ?_
 refine C_region ?_
 refine wv rfl rfl rfl (R_bin rfl rfl rfl rfl rfl) ?_
 refine W_nil ?_
 refine E_then ?_
 refine C_seq ?_
 refine C_ite rfl (fun hC0 => ?_) (fun hC0 => ?_)
 ·have _hC0 := trivial
  have hC0p : (i : Int) < (a0.length : Int) := by simpa using hC0
  refine C_skip ?_
  refine E_then ?_
  refine C_seq ?_
  refine C_block ?_
  refine C_seq ?_
  refine C_region ?_
  refine wv rfl rfl rfl (R_move rfl rfl) <| wv rfl rfl rfl (R_assign rfl rfl) ?_
  refine W_nil ?_
  refine E_then ?_
  refine C_seq ?_
  refine C_region ?_
  refine wv rfl rfl rfl (R_move rfl rfl) <| wv rfl rfl rfl (R_move rfl rfl) <| wv rfl rfl rfl (R_move rfl rfl) ?_
  obtain ⟨q2, csq2, hAq2, rfl, hkq2⟩ := hra0.at_ (default : TRect) (i := (i : Int)) (by omega) (by omega)
  have hkq2 : ∀ (j_ : Nat) (u_ : Value), ([.int .i64 (a0.getD i (default : TRect)).Row, .int .i64 (a0.getD i (default : TRect)).Col, .int .i64 (a0.getD i (default : TRect)).Rows, .int .i64 (a0.getD i (default : TRect)).Cols] : List Value)[j_]? = some u_ → cz z (q2.add (i * 4 + j_)) = some u_ := hkq2
  refine wv rfl rfl rfl (R_idx rfl rfl hAq2 rfl Try.underlying24 size39 (by omega) (by omega)) <| wv rfl rfl rfl (R_loadN (cs := [.int .i64 (a0.getD i (default : TRect)).Row, .int .i64 (a0.getD i (default : TRect)).Col, .int .i64 (a0.getD i (default : TRect)).Rows, .int .i64 (a0.getD i (default : TRect)).Cols]) rfl rfl agg39 size39 rfl (fun j u h => cell_add (hS.sub.cell (hkq2 j u h)))) ?_
  refine W_cons rfl (by decide) (S_cb (s := ()) (y := ()) hfa1 hS 0 rfl hza1 (a0.getD i (default : TRect)) (by trivial) rfl rfl rfl rfl rfl (fun y4 w3 hS => ?_))
  refine W_nil ?_
  refine E_then (C_fr [(0, .slice Aa0 a0.length ca0), (1, .func (.func ga1) #[] ka1.toArray), (5, .int .i64 (i : Int)), (7, .int .i64 (a0.length : Int)), (8, .int .i64 (i : Int)), (16, .bool (pa1 (a0.getD i (default : TRect))))] rfl ?_)
  refine C_ite rfl (fun hC1 => ?_) (fun hC1 => ?_)
  ·have _hC1 := trivial
   refine C_seq ?_
   refine C_region ?_
   refine wv rfl rfl rfl (R_move rfl rfl) <| wv rfl rfl rfl (R_assign rfl rfl) ?_
   refine W_nil ?_
   refine E_then (C_fr [(4, .int .i64 (i : Int))] rfl ?_)
   refine C_ret ?_
   refine E_block_ret ?_
   refine E_then_ret ?_
   refine E_then_ret ?_
   refine E_block_ret ?_
   refine E_then_ret ?_
   refine E_ret1 rfl rfl ?_
   exact ⟨Lret1 (Lint (show (i : Int) = idxF pa1 a0 0 by first | (rw [← hI0_1]; exact (idxF_hit (d := (default : TRect)) (by omega) (by assumption)).symm) | (rw [← hI0_1]; exact (idxF_end (by omega)).symm))), hS.fin [0] (by decide) rfl⟩
  ·have _hC1 := trivial
   refine C_skip ?_
   refine E_block_normal ?_
   refine E_then ?_
   refine C_region ?_
   refine wv rfl rfl rfl (R_add64 rfl rfl rfl (by omega) (by omega)) <| wv rfl rfl rfl (R_move rfl rfl) ?_
   refine W_nil ?_
   refine E_round [0, 1, 7, 8] ?_ ⟨(i + 1 : Nat), rfl, (by omega), (by rw [← hI0_1, idxF_next (n := i) (d := (default : TRect)) (by omega) (by assumption)] <;> rfl), rfl, hS.fin [0] (by decide) rfl⟩
   omega
 ·have _hC0 := trivial
  have hC0p : ¬ ((i : Int) < (a0.length : Int)) := by simpa using hC0
  refine C_exit ?_
  refine E_then_exit ?_
  refine E_then_exit ?_
  refine E_block_hit ?_
  refine E_then (C_fr [] rfl ?_)
  refine C_seq ?_
  refine C_region ?_
  refine wv rfl rfl rfl (R_assign rfl rfl) ?_
  refine W_nil ?_
  refine E_then ?_
  refine C_ret ?_
  refine E_ret1 rfl rfl ?_
  exact ⟨Lret1 (Lint (show (-1) = idxF pa1 a0 0 by first | (rw [← hI0_1]; exact (idxF_hit (d := (default : TRect)) (by omega) (by assumption)).symm) | (rw [← hI0_1]; exact (idxF_end (by omega)).symm))), hS.fin [0] (by decide) rfl⟩

set_option maxHeartbeats 400000 in
set_option maxRecDepth 20000 in
theorem cfq_has_calls (a0 : List TRect) (Aa0 : Option Addr) (ca0 : Nat) (ga1 : Nat) (ka1 : List Value) (Ra1 : Res) (zca1 : Z) (pa1 : TRect → Bool) (z : Z) (w : World) (hI : In z w [Ra1]) (hra0 : Rd kdTRect z Aa0 a0) (hca0 : Cap Aa0 a0.length ca0) (hfa1 : FV Try.prog zca1 ga1 ka1 (fun z_ (x_ : TRect) vs_ => vs_ = [.agg #[.int .i64 x_.Row, .int .i64 x_.Col, .int .i64 x_.Rows, .int .i64 x_.Cols]]) (fun (_ _ : Unit) => Ra1) (fun _ x_ => True) (fun _ _ => ()) (fun _ x_ => .bool (pa1 x_))) (hza1 : zle zca1 z)  :
    Calls Try.prog 48 #[.slice Aa0 a0.length ca0, .func (.func ga1) #[] ka1.toArray] w fun e w' => e = .returned (.bool (hasF pa1 a0)) ∧ Sp (FF [Ra1]) w z w' [Ra1] := by
 have hla0 := hca0.le
 have hma0 := hca0.mx
 have hS := hI.sp
 refine Calls_of (vs := [.slice Aa0 a0.length ca0, .func (.func ga1) #[] ka1.toArray]) (N := 9) Try.func48 rfl rfl (Nat.le_of_ble_eq_true rfl) ?_
 refine C_seq ?_
 refine C_region ?_
 refine wv rfl rfl rfl (R_assign rfl rfl) ?_
 refine W_nil ?_
 refine E_then ?_
 refine C_seq ?_
 refine C_region ?_
 refine wv rfl rfl rfl (R_move rfl rfl) <| wv rfl rfl rfl (R_move rfl rfl) ?_
 refine W_cons rfl (by decide) (Sv_call rfl rfl rfl ent64 ?_)
 refine (cfq_idx_calls a0 Aa0 ca0 ga1 ka1 Ra1 zca1 pa1 _ _ (hS.out [0] (by decide)) (hra0.mono (hS.zl [0])) hca0 hfa1 (hza1.trans (hS.zl [0])) ).mono ?_
 rintro e_ w1 ⟨rfl, hS_⟩
 refine ⟨_, rfl, ?_⟩
 have hS := hS.call [0] (by decide) hS_
 refine wv rfl rfl rfl (R_bin rfl rfl rfl rfl rfl) <| wv rfl rfl rfl (R_assign rfl rfl) ?_
 refine W_nil ?_
 refine E_then (C_fr [(4, .bool (decide ((idxF pa1 a0 0) ≥ 0)))] rfl ?_)
 refine C_ret ?_
 refine E_ret1 rfl rfl ?_
 exact ⟨Lret1 (Lbool (show (decide ((idxF pa1 a0 0) ≥ 0)) = (hasF pa1 a0) by rfl)), hS.fin [0] (by decide) rfl⟩

set_option maxHeartbeats 400000 in
set_option maxRecDepth 20000 in
theorem share_calls (a0 : Int) (a1 : Int) (a2 : Int) (a3 : Int) (z : Z) (w : World) (hI : In z w [])   :
    Calls Try.prog 76 #[.int .i64 a0, .int .i64 a1, .int .i64 a2, .int .i64 a3] w fun e w' => e = .returned (.bool (shareS a0 a1 a2 a3)) ∧ Sp (FF []) w z w' [] := by
 have hS := hI.sp
 refine Calls_of (vs := [.int .i64 a0, .int .i64 a1, .int .i64 a2, .int .i64 a3]) (N := 30) Try.func76 rfl rfl (Nat.le_of_ble_eq_true rfl) ?_
 refine C_seq ?_
 refine C_region ?_
 refine wv rfl rfl rfl (R_assign rfl rfl) ?_
 refine W_nil ?_
 refine E_then ?_
 refine C_seq ?_
 refine C_seq ?_
 refine C_region ?_
 refine wv rfl rfl rfl (R_move rfl rfl) <| wv rfl rfl rfl (R_bin rfl rfl rfl rfl rfl) <| wv rfl rfl rfl (R_move rfl rfl) <| wg rfl rfl (Gd.no rfl rfl rfl) (fun hB => R_move rfl rfl) <| wg rfl rfl (Gd.no rfl rfl rfl) (fun hB => Runs.at_ (i := 12) (gl rfl hB) (R_bin rfl rfl rfl rfl rfl)) <| wv rfl rfl rfl (R_pick_or rfl rfl rfl rfl) ?_
 refine W_nil ?_
 refine E_then (C_fr [(0, .int .i64 a0), (1, .int .i64 a1), (2, .int .i64 a2), (3, .int .i64 a3), (14, .bool ((decide (a1 < 1)) || (decide (a3 < 1))))] rfl ?_)
 refine C_ite rfl (fun hC0 => ?_) (fun hC0 => ?_)
 ·have _hC0 := trivial
  have hC0p : (a1 < 1 ∨ a3 < 1) := by simpa using hC0
  refine C_seq ?_
  refine C_region ?_
  refine wv rfl rfl rfl (R_assign rfl rfl) ?_
  refine W_nil ?_
  refine E_then (C_fr [(8, .bool false)] rfl ?_)
  refine C_ret ?_
  refine E_then_ret ?_
  refine E_ret1 rfl rfl ?_
  exact ⟨Lret1 (Lbool (show false = (shareS a0 a1 a2 a3) by first | exact shareS_f (by omega) | exact shareS_gt (by omega) (by omega) | exact shareS_le (by omega) (by omega))), hS.fin [] (by decide) rfl⟩
 ·have _hC0 := trivial
  have hC0p : ¬ ((a1 < 1 ∨ a3 < 1)) := by simpa using hC0
  refine C_skip ?_
  refine E_then ?_
  refine C_seq ?_
  refine C_seq ?_
  refine C_region ?_
  refine wv rfl rfl rfl (R_move rfl rfl) <| wv rfl rfl rfl (R_move rfl rfl) <| wv rfl rfl rfl (R_bin rfl rfl rfl rfl rfl) ?_
  refine W_nil ?_
  refine E_then ?_
  refine C_ite rfl (fun hC1 => ?_) (fun hC1 => ?_)
  ·have _hC1 := trivial
   have hC1p : a0 > a2 := by simpa using hC1
   refine C_region ?_
   refine wv rfl rfl rfl (R_move rfl rfl) <| wv rfl rfl rfl (R_move rfl rfl) <| wv rfl rfl rfl (R_move rfl rfl) <| wv rfl rfl rfl (R_move rfl rfl) <| wv rfl rfl rfl (R_assign rfl rfl) <| wv rfl rfl rfl (R_assign rfl rfl) <| wv rfl rfl rfl (R_assign rfl rfl) <| wv rfl rfl rfl (R_assign rfl rfl) ?_
   refine W_nil ?_
   refine E_then (C_fr [(0, .int .i64 a2), (1, .int .i64 a3), (2, .int .i64 a0)] rfl ?_)
   refine C_seq ?_
   refine C_region ?_
   refine wv rfl rfl rfl (R_move rfl rfl) <| wv rfl rfl rfl (R_conviw rfl rfl Try.underlying3 Try.underlying104) <| wv rfl rfl rfl (R_move rfl rfl) <| wv rfl rfl rfl (R_conviw rfl rfl Try.underlying3 Try.underlying104) <| wv rfl rfl rfl (R_bin rfl rfl rfl rfl rfl) <| wv rfl rfl rfl (R_move rfl rfl) <| wv rfl rfl rfl (R_conviw rfl rfl Try.underlying3 Try.underlying104) <| wv rfl rfl rfl (R_bin rfl rfl rfl rfl rfl) <| wv rfl rfl rfl (R_assign rfl rfl) ?_
   refine W_nil ?_
   refine E_then (C_fr [(8, .bool (decide ((IntKind.u64.wrap ((IntKind.u64.wrap a0) - (IntKind.u64.wrap a2))) < (IntKind.u64.wrap a3))))] rfl ?_)
   refine C_ret ?_
   refine E_ret1 rfl rfl ?_
   exact ⟨Lret1 (Lbool (show (decide ((IntKind.u64.wrap ((IntKind.u64.wrap a0) - (IntKind.u64.wrap a2))) < (IntKind.u64.wrap a3))) = (shareS a0 a1 a2 a3) by first | exact shareS_f (by omega) | exact shareS_gt (by omega) (by omega) | exact shareS_le (by omega) (by omega))), hS.fin [] (by decide) rfl⟩
  ·have _hC1 := trivial
   have hC1p : ¬ (a0 > a2) := by simpa using hC1
   refine C_skip ?_
   refine E_then (C_fr [(0, .int .i64 a0), (1, .int .i64 a1), (2, .int .i64 a2)] rfl ?_)
   refine C_seq ?_
   refine C_region ?_
   refine wv rfl rfl rfl (R_move rfl rfl) <| wv rfl rfl rfl (R_conviw rfl rfl Try.underlying3 Try.underlying104) <| wv rfl rfl rfl (R_move rfl rfl) <| wv rfl rfl rfl (R_conviw rfl rfl Try.underlying3 Try.underlying104) <| wv rfl rfl rfl (R_bin rfl rfl rfl rfl rfl) <| wv rfl rfl rfl (R_move rfl rfl) <| wv rfl rfl rfl (R_conviw rfl rfl Try.underlying3 Try.underlying104) <| wv rfl rfl rfl (R_bin rfl rfl rfl rfl rfl) <| wv rfl rfl rfl (R_assign rfl rfl) ?_
   refine W_nil ?_
   refine E_then (C_fr [(8, .bool (decide ((IntKind.u64.wrap ((IntKind.u64.wrap a2) - (IntKind.u64.wrap a0))) < (IntKind.u64.wrap a1))))] rfl ?_)
   refine C_ret ?_
   refine E_ret1 rfl rfl ?_
   exact ⟨Lret1 (Lbool (show (decide ((IntKind.u64.wrap ((IntKind.u64.wrap a2) - (IntKind.u64.wrap a0))) < (IntKind.u64.wrap a1))) = (shareS a0 a1 a2 a3) by first | exact shareS_f (by omega) | exact shareS_gt (by omega) (by omega) | exact shareS_le (by omega) (by omega))), hS.fin [] (by decide) rfl⟩

set_option maxHeartbeats 400000 in
set_option maxRecDepth 20000 in
theorem meet_calls (a0 : TRect) (a1 : TRect) (z : Z) (w : World) (hI : In z w [])   :
    Calls Try.prog 51 #[.agg #[.int .i64 a0.Row, .int .i64 a0.Col, .int .i64 a0.Rows, .int .i64 a0.Cols], .agg #[.int .i64 a1.Row, .int .i64 a1.Col, .int .i64 a1.Rows, .int .i64 a1.Cols]] w fun e w' => e = .returned (.bool (meetS a0 a1)) ∧ Sp (FF []) w z w' [] := by
 have hS := hI.sp
 refine Calls_of (vs := [.agg #[.int .i64 a0.Row, .int .i64 a0.Col, .int .i64 a0.Rows, .int .i64 a0.Cols], .agg #[.int .i64 a1.Row, .int .i64 a1.Col, .int .i64 a1.Rows, .int .i64 a1.Cols]]) (N := 25) Try.func51 rfl rfl (Nat.le_of_ble_eq_true rfl) ?_
 refine C_seq ?_
 refine C_region ?_
 refine W_cons rfl (by decide) (S_box hS rfl (R_box (cs := [.int .i64 a0.Row, .int .i64 a0.Col, .int .i64 a0.Rows, .int .i64 a0.Cols]) rfl rfl rfl) (fun b2 w1 hS => ?_))
 refine W_cons rfl (by decide) (S_box hS rfl (R_box (cs := [.int .i64 a1.Row, .int .i64 a1.Col, .int .i64 a1.Rows, .int .i64 a1.Cols]) rfl rfl rfl) (fun b4 w3 hS => ?_))
 refine wv rfl rfl rfl (R_assign rfl rfl) ?_
 refine W_nil ?_
 refine E_then ?_
 refine C_seq ?_
 refine C_region ?_
 refine wv rfl rfl rfl (R_fld rfl rfl fld39_0) <| wv rfl rfl rfl (R_load1 rfl rfl agg3 ((hS.bx 1 rfl).cell rfl)) <| wv rfl rfl rfl (R_fld rfl rfl fld39_2) <| wv rfl rfl rfl (R_load1 rfl rfl agg3 ((hS.bx 1 rfl).cell rfl)) <| wv rfl rfl rfl (R_fld rfl rfl fld39_0) <| wv rfl rfl rfl (R_load1 rfl rfl agg3 ((hS.bx 0 rfl).cell rfl)) <| wv rfl rfl rfl (R_fld rfl rfl fld39_2) <| wv rfl rfl rfl (R_load1 rfl rfl agg3 ((hS.bx 0 rfl).cell rfl)) ?_
 refine W_cons rfl (by decide) (Sv_call rfl rfl rfl ent76 ?_)
 refine (share_calls a0.Row a0.Rows a1.Row a1.Rows _ _ hS.out0  ).mono ?_
 rintro e_ w5 ⟨rfl, hS_⟩
 refine ⟨_, rfl, ?_⟩
 have hS := hS.call0 hS_
 refine wv rfl rfl rfl (R_move rfl rfl) <| wg rfl rfl (Gd.on rfl rfl rfl) (fun hB => R_fld rfl rfl fld39_1) <| wg rfl rfl (Gd.on rfl rfl rfl) (fun hB => Runs.at_ (i := 15) (gl rfl hB) (R_load1 rfl rfl agg3 ((hS.bx 1 rfl).cell rfl))) <| wg rfl rfl (Gd.on rfl rfl rfl) (fun hB => R_fld rfl rfl fld39_3) <| wg rfl rfl (Gd.on rfl rfl rfl) (fun hB => Runs.at_ (i := 17) (gl rfl hB) (R_load1 rfl rfl agg3 ((hS.bx 1 rfl).cell rfl))) <| wg rfl rfl (Gd.on rfl rfl rfl) (fun hB => R_fld rfl rfl fld39_1) <| wg rfl rfl (Gd.on rfl rfl rfl) (fun hB => Runs.at_ (i := 19) (gl rfl hB) (R_load1 rfl rfl agg3 ((hS.bx 0 rfl).cell rfl))) <| wg rfl rfl (Gd.on rfl rfl rfl) (fun hB => R_fld rfl rfl fld39_3) <| wg rfl rfl (Gd.on rfl rfl rfl) (fun hB => Runs.at_ (i := 21) (gl rfl hB) (R_load1 rfl rfl agg3 ((hS.bx 0 rfl).cell rfl))) ?_
 refine W_cons rfl (by decide) (Sv_gcall (Gd.on rfl rfl rfl) hS (fun hB => Sv.at_ (i := 22) (gl rfl hB) (Sv.at_ (i := 20) (gl rfl hB) (Sv.at_ (i := 18) (gl rfl hB) (Sv.at_ (i := 16) (gl rfl hB) (Sv_call rfl rfl rfl ent76 ((share_calls a0.Col a0.Cols a1.Col a1.Cols _ _ hS.out0  ).mono (fun _ _ h_ => ⟨_, h_.1, rfl, hS.call0 h_.2⟩))))))) (fun w7 hS => ?_))
 refine wv rfl rfl rfl (R_pick_and rfl rfl rfl rfl) <| wv rfl rfl rfl (R_assign rfl rfl) ?_
 refine W_nil ?_
 refine E_then (C_fr [(4, .bool ((shareS a0.Row a0.Rows a1.Row a1.Rows) && (shareS a0.Col a0.Cols a1.Col a1.Cols)))] rfl ?_)
 refine C_ret ?_
 refine E_ret1 rfl rfl ?_
 exact ⟨Lret1 (Lbool (show ((shareS a0.Row a0.Rows a1.Row a1.Rows) && (shareS a0.Col a0.Cols a1.Col a1.Cols)) = (meetS a0 a1) by first | (unfold meetS; simp_all; done) | (unfold meetS; simp_all; omega) | (unfold meetS; simp_all; intros; omega) | (unfold meetS; rw [Bool.eq_iff_iff]; simp_all; done) | (unfold meetS; rw [Bool.eq_iff_iff]; simp_all; omega))), hS.fin [] (by decide) rfl⟩

set_option maxHeartbeats 400000 in
set_option maxRecDepth 20000 in
theorem one_calls (a0 : Int) (a1 : Int) (z : Z) (w : World) (hI : In z w [])   :
    Calls Try.prog 39 #[.int .i64 a0, .int .i64 a1] w fun e w' => e = .returned (.agg #[.int .i64 (oneS a0 a1).Row, .int .i64 (oneS a0 a1).Col, .int .i64 (oneS a0 a1).Rows, .int .i64 (oneS a0 a1).Cols]) ∧ Sp (FF []) w z w' [] := by
 have hS := hI.sp
 refine Calls_of (vs := [.int .i64 a0, .int .i64 a1]) (N := 8) Try.func39 rfl rfl (Nat.le_of_ble_eq_true rfl) ?_
 refine C_seq ?_
 refine C_region ?_
 refine W_cons rfl (by decide) (S_box hS rfl (R_alloc rfl alloc39) (fun b2 w1 hS => ?_))
 refine W_nil ?_
 refine E_then ?_
 refine C_seq ?_
 refine C_region ?_
 refine wv rfl rfl rfl (R_move rfl rfl) <| wv rfl rfl rfl (R_move rfl rfl) <| wv rfl rfl rfl (R_build (w' := w1) (ps := [(0, (.tmp 5)), (1, (.tmp 6)), (2, (.const (.int .i64 1))), (3, (.const (.int .i64 1)))]) (vs := [.int .i64 a0, .int .i64 a1, .int .i64 1, .int .i64 1]) (r := .agg #[.int .i64 a0, .int .i64 a1, .int .i64 1, .int .i64 1]) rfl rfl rfl (by kernel_rfl)) ?_
 refine W_cons0 rfl (S_store hS 0 rfl rfl rfl rfl rfl size39 (one_cons rfl (one_cons rfl (one_cons rfl (one_cons rfl one_nil)))) (Nat.le_of_ble_eq_true rfl) (fun w3 hS => ?_))
 have hS : Sp (FF []) w z w3 [bR b2 39 [.int .i64 a0, .int .i64 a1, .int .i64 1, .int .i64 1]] := hS
 refine W_nil ?_
 refine E_then (C_fr [(4, .pointer (some ⟨b2, 0, none⟩))] rfl ?_)
 refine C_ret ?_
 refine E_rv1 rfl (RV_cellN (cs := [.int .i64 a0, .int .i64 a1, .int .i64 1, .int .i64 1]) rfl agg39 size39 rfl (boxcells (hS.bx 0 rfl) 0 rfl)) ?_
 exact ⟨Lret1 (show (.agg #[.int .i64 a0, .int .i64 a1, .int .i64 1, .int .i64 1] : Value) = .agg #[.int .i64 (oneS a0 a1).Row, .int .i64 (oneS a0 a1).Col, .int .i64 (oneS a0 a1).Rows, .int .i64 (oneS a0 a1).Cols] by rfl), hS.fin [] (by decide) rfl⟩

end Go.Proofs.YtalpekmbknjeeaaG
