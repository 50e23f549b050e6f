/- Walks, each function once: what it computes. -/
import Derived.Test.YtgjnhmidbapjmaaU2
set_option linter.all false
namespace Go.Proofs.YtgjnhmidbapjmaaG
open Go Go.RowKit
set_option maxHeartbeats 400000 in
set_option maxRecDepth 20000 in
theorem eqc_calls (a0 : List TCell) (Aa0 : Option Addr) (ca0 : Nat) (a1 : List TCell) (Aa1 : Option Addr) (ca1 : Nat) (z : Z) (w : World) (hI : In z w []) (hra0 : Rd kdTCell z Aa0 a0) (hca0 : Cap Aa0 a0.length ca0) (hra1 : Rd kdTCell z Aa1 a1) (hca1 : Cap Aa1 a1.length ca1)  :
    Calls Try.prog 73 #[.slice Aa0 a0.length ca0, .slice Aa1 a1.length ca1] w fun e w' => e = .returned (.bool (decide (a0 = a1))) ∧ Sp (FF []) w z w' [] := by
 have hla0 := hca0.le
 have hma0 := hca0.mx
 have hla1 := hca1.le
 have hma1 := hca1.mx
 have hS := hI.sp
 refine Calls_of (vs := [.slice Aa0 a0.length ca0, .slice Aa1 a1.length ca1]) (N := 26) Try.func73 rfl rfl (Nat.le_of_ble_eq_true rfl) ?_
 refine C_seq ?_
 refine C_region ?_
 refine W_cons rfl (by decide) (Sv_val rfl (R_assign rfl rfl) ?_)
 refine W_nil ?_
 refine E_then ?_
 refine C_seq ?_
 refine C_seq ?_
 refine C_region ?_
 refine W_cons rfl (by decide) (Sv_val rfl (R_move rfl rfl) ?_)
 refine W_cons rfl (by decide) (Sv_val rfl (R_len rfl rfl Try.underlying36) ?_)
 refine W_cons rfl (by decide) (Sv_val rfl (R_move rfl rfl) ?_)
 refine W_cons rfl (by decide) (Sv_val rfl (R_len rfl rfl Try.underlying36) ?_)
 refine W_cons rfl (by decide) (Sv_val rfl (R_bin rfl rfl rfl rfl rfl) ?_)
 refine W_nil ?_
 refine E_then (C_fr [(0, .slice Aa0 a0.length ca0), (1, .slice Aa1 a1.length ca1), (10, .bool ((a0.length : Int) != (a1.length : Int)))] rfl ?_)
 refine C_ite rfl (fun hC0 => ?_) (fun hC0 => ?_)
 ·have _hC0 := trivial
  have hC0p : ¬ (a0.length : Int) = (a1.length : Int) := by simpa using hC0
  refine C_seq ?_
  refine C_region ?_
  refine W_cons rfl (by decide) (Sv_val rfl (R_assign rfl rfl) ?_)
  refine W_nil ?_
  refine E_then ?_
  refine C_ret ?_
  refine E_then_ret ?_
  refine E_ret1 rfl rfl ?_
  exact ⟨Lret1 (Lbool (show false = (decide (a0 = a1)) by first | exact (decide_eq_false (fun h_ => by subst h_; first | (exact absurd rfl (by assumption)) | omega)).symm | exact (decide_eq_true (take_all (by omega) (by omega) hI0_1)).symm)), hS.fin [] (by decide) rfl⟩
 ·have _hC0 := trivial
  have hC0p : (a0.length : Int) = (a1.length : Int) := by simpa using hC0
  refine C_skip ?_
  refine E_then ?_
  refine C_seq ?_
  refine C_seq ?_
  refine C_region ?_
  refine W_cons rfl (by decide) (Sv_val rfl (R_move rfl rfl) ?_)
  refine W_cons rfl (by decide) (Sv_val rfl (R_len rfl rfl Try.underlying36) ?_)
  refine W_cons rfl (by decide) (Sv_val rfl (R_move rfl rfl) ?_)
  refine W_nil ?_
  refine E_then ?_
  refine C_block ?_
  refine C_fr [(0, .slice Aa0 a0.length ca0), (1, .slice Aa1 a1.length ca1), (12, .int .i64 (a0.length : Int)), (13, .int .i64 0)] rfl ?_
  refine C_loop (fun m_ f_ w_ => ∃ (i : Nat), f_ = [(0, .slice Aa0 a0.length ca0), (1, .slice Aa1 a1.length ca1), (12, .int .i64 (a0.length : Int)), (13, .int .i64 (i : Int))] ∧ i ≤ a0.length ∧ a0.take i = a1.take i ∧ m_ = a0.length - i ∧ Sp (FF []) w z w_ []) (a0.length - (0 : Nat)) ⟨(0 : Nat), rfl, (by omega), (by rfl), rfl, hS.fin [] (by decide) rfl⟩ ?_
  rintro m_ f_ w1 ⟨i, rfl, hI0_0, hI0_1, rfl, hS⟩
  refine C_seq ?_
  refine C_region ?_
  refine W_cons rfl (by decide) (Sv_val rfl (R_bin rfl rfl rfl rfl rfl) ?_)
  refine W_nil ?_
  refine E_then ?_
  refine C_seq ?_
  refine C_ite rfl (fun hC1 => ?_) (fun hC1 => ?_)
  ·have _hC1 := trivial
   have hC1p : (i : Int) < (a0.length : Int) := by simpa using hC1
   refine C_skip ?_
   refine E_then ?_
   refine C_seq ?_
   refine C_block ?_
   refine C_seq ?_
   refine C_region ?_
   refine W_cons rfl (by decide) (Sv_val rfl (R_move rfl rfl) ?_)
   refine W_cons rfl (by decide) (Sv_val rfl (R_assign rfl rfl) ?_)
   refine W_nil ?_
   refine E_then ?_
   refine C_seq ?_
   refine C_fr [(0, .slice Aa0 a0.length ca0), (1, .slice Aa1 a1.length ca1), (5, .int .i64 (i : Int)), (12, .int .i64 (a0.length : Int)), (13, .int .i64 (i : Int))] rfl ?_
   obtain ⟨q4, csq4, hAq4, rfl, hkq4⟩ := hra0.at_ (default : TCell) (i := (i : Int)) (by omega) (by omega)
   have hkq4 : ∀ (j_ : Nat) (u_ : Value), ([.int .i64 (a0.getD i (default : TCell)).Row, .int .i64 (a0.getD i (default : TCell)).Col, vstr (a0.getD i (default : TCell)).Text, .int .i64 (a0.getD i (default : TCell)).Style.Align, .int .i64 (a0.getD i (default : TCell)).Style.Wrap, .int .i64 (a0.getD i (default : TCell)).Style.Dir] : List Value)[j_]? = some u_ → cz z (q4.add (i * 6 + j_)) = some u_ := hkq4
   obtain ⟨q5, csq5, hAq5, rfl, hkq5⟩ := hra1.at_ (default : TCell) (i := (i : Int)) (by omega) (by omega)
   have hkq5 : ∀ (j_ : Nat) (u_ : Value), ([.int .i64 (a1.getD i (default : TCell)).Row, .int .i64 (a1.getD i (default : TCell)).Col, vstr (a1.getD i (default : TCell)).Text, .int .i64 (a1.getD i (default : TCell)).Style.Align, .int .i64 (a1.getD i (default : TCell)).Style.Wrap, .int .i64 (a1.getD i (default : TCell)).Style.Dir] : List Value)[j_]? = some u_ → cz z (q5.add (i * 6 + j_)) = some u_ := hkq5
   refine C_drawn 9 [[], [], [0, 1], [2], [], [], [4, 5], [6], [3, 7]] [16, 17, 18, 19, 20, 21, 22, 23, 24] [0, 1, 5, 12, 13] rfl (by kernel_rfl) (by decide +kernel) [fun v_ _ => v_ = .slice Aa0 a0.length ca0, fun v_ _ => v_ = .int .i64 (i : Int), fun v_ _ => v_ = .pointer (some (q4.add (i * 6))), fun v_ _ => v_ = .agg #[.int .i64 (a0.getD i (default : TCell)).Row, .int .i64 (a0.getD i (default : TCell)).Col, vstr (a0.getD i (default : TCell)).Text, .int .i64 (a0.getD i (default : TCell)).Style.Align, .int .i64 (a0.getD i (default : TCell)).Style.Wrap, .int .i64 (a0.getD i (default : TCell)).Style.Dir], fun v_ _ => v_ = .slice Aa1 a1.length ca1, fun v_ _ => v_ = .int .i64 (i : Int), fun v_ _ => v_ = .pointer (some (q5.add (i * 6))), fun v_ _ => v_ = .agg #[.int .i64 (a1.getD i (default : TCell)).Row, .int .i64 (a1.getD i (default : TCell)).Col, vstr (a1.getD i (default : TCell)).Text, .int .i64 (a1.getD i (default : TCell)).Style.Align, .int .i64 (a1.getD i (default : TCell)).Style.Wrap, .int .i64 (a1.getD i (default : TCell)).Style.Dir], fun v_ _ => v_ = .bool (!decide (a0.getD i (default : TCell) = a1.getD i (default : TCell)))] ⟨fun _ _ _ h _ => h, ⟨fun _ _ _ h _ => h, ⟨fun _ _ _ h _ => h, ⟨fun _ _ _ h _ => h, ⟨fun _ _ _ h _ => h, ⟨fun _ _ _ h _ => h, ⟨fun _ _ _ h _ => h, ⟨fun _ _ _ h _ => h, ⟨fun _ _ _ h _ => h, trivial⟩⟩⟩⟩⟩⟩⟩⟩⟩ ⟨fun w2 hc3 => by have hS := hS.chg0 hc3; exact Sv_val rfl (R_move rfl rfl) ⟨Chg.refl _ _, rfl⟩, ⟨fun w2 hc3 => by have hS := hS.chg0 hc3; exact Sv_val rfl (R_move rfl rfl) ⟨Chg.refl _ _, rfl⟩, ⟨fun w2 hc3 => by have hS := hS.chg0 hc3; rintro _ rfl _ rfl; exact Sv_val rfl (R_idx rfl rfl hAq4 rfl Try.underlying36 size46 (by omega) (by omega)) ⟨Chg.refl _ _, rfl⟩, ⟨fun w2 hc3 => by have hS := hS.chg0 hc3; rintro _ rfl; exact Sv_val rfl (R_loadN (cs := [.int .i64 (a0.getD i (default : TCell)).Row, .int .i64 (a0.getD i (default : TCell)).Col, vstr (a0.getD i (default : TCell)).Text, .int .i64 (a0.getD i (default : TCell)).Style.Align, .int .i64 (a0.getD i (default : TCell)).Style.Wrap, .int .i64 (a0.getD i (default : TCell)).Style.Dir]) rfl rfl agg46 size46 rfl (fun j u h => cell_add (hS.sub.cell (hkq4 j u h)))) ⟨Chg.refl _ _, rfl⟩, ⟨fun w2 hc3 => by have hS := hS.chg0 hc3; exact Sv_val rfl (R_move rfl rfl) ⟨Chg.refl _ _, rfl⟩, ⟨fun w2 hc3 => by have hS := hS.chg0 hc3; exact Sv_val rfl (R_move rfl rfl) ⟨Chg.refl _ _, rfl⟩, ⟨fun w2 hc3 => by have hS := hS.chg0 hc3; rintro _ rfl _ rfl; exact Sv_val rfl (R_idx rfl rfl hAq5 rfl Try.underlying36 size46 (by omega) (by omega)) ⟨Chg.refl _ _, rfl⟩, ⟨fun w2 hc3 => by have hS := hS.chg0 hc3; rintro _ rfl; exact Sv_val rfl (R_loadN (cs := [.int .i64 (a1.getD i (default : TCell)).Row, .int .i64 (a1.getD i (default : TCell)).Col, vstr (a1.getD i (default : TCell)).Text, .int .i64 (a1.getD i (default : TCell)).Style.Align, .int .i64 (a1.getD i (default : TCell)).Style.Wrap, .int .i64 (a1.getD i (default : TCell)).Style.Dir]) rfl rfl agg46 size46 rfl (fun j u h => cell_add (hS.sub.cell (hkq5 j u h)))) ⟨Chg.refl _ _, rfl⟩, ⟨fun w2 hc3 => by have hS := hS.chg0 hc3; rintro _ rfl _ rfl; exact Sv_val rfl (R_neqv rfl rfl rfl eqg46 ((eqv46 (a0.getD i (default : TCell)) (a1.getD i (default : TCell))).up 1)) ⟨Chg.refl _ _, rfl⟩, trivial⟩⟩⟩⟩⟩⟩⟩⟩⟩ ?_
   intro w2 hc3
   have hS := hS.chg0 hc3
   rintro _ rfl _ rfl _ rfl _ rfl _ rfl _ rfl _ rfl _ rfl _ rfl
   refine An_fr [(0, .slice Aa0 a0.length ca0), (1, .slice Aa1 a1.length ca1), (12, .int .i64 (a0.length : Int)), (13, .int .i64 (i : Int)), (24, .bool (!decide (a0.getD i (default : TCell) = a1.getD i (default : TCell))))] rfl ?_
   refine An_done (by decide +kernel) ?_
   refine E_then ?_
   refine C_ite rfl (fun hC2 => ?_) (fun hC2 => ?_)
   ·have _hC2 := trivial
    have hC2p : ¬ a0.getD i (default : TCell) = a1.getD i (default : TCell) := by simpa using hC2
    refine C_seq ?_
    refine C_region ?_
    refine W_cons rfl (by decide) (Sv_val rfl (R_assign rfl rfl) ?_)
    refine W_nil ?_
    refine E_then (C_fr [(4, .bool false)] rfl ?_)
    refine C_ret ?_
    refine E_block_ret ?_
    refine E_then_ret ?_
    refine E_then_ret ?_
    refine E_block_ret ?_
    refine E_then_ret ?_
    refine E_ret1 rfl rfl ?_
    exact ⟨Lret1 (Lbool (show false = (decide (a0 = a1)) by first | exact (decide_eq_false (fun h_ => by subst h_; first | (exact absurd rfl (by assumption)) | omega)).symm | exact (decide_eq_true (take_all (by omega) (by omega) hI0_1)).symm)), hS.fin [] (by decide) rfl⟩
   ·have _hC2 := trivial
    have hC2p : a0.getD i (default : TCell) = a1.getD i (default : TCell) := by simpa using hC2
    refine C_skip ?_
    refine E_block_normal ?_
    refine E_then ?_
    refine C_region ?_
    refine W_cons rfl (by decide) (Sv_val rfl (R_add64 rfl rfl rfl (by omega) (by omega)) ?_)
    refine W_cons rfl (by decide) (Sv_val rfl (R_move rfl rfl) ?_)
    refine W_nil ?_
    refine E_round [0, 1, 12, 13] ?_ ⟨(i + 1 : Nat), rfl, (by omega), (by exact take_more (by omega) (by omega) hI0_1 (by assumption)), rfl, hS.fin [] (by decide) rfl⟩
    omega
  ·have _hC1 := trivial
   have hC1p : ¬ ((i : Int) < (a0.length : Int)) := by simpa using hC1
   refine C_exit ?_
   refine E_then_exit ?_
   refine E_then_exit ?_
   refine E_block_hit ?_
   refine E_then (C_fr [] rfl ?_)
   refine C_seq ?_
   refine C_region ?_
   refine W_cons rfl (by decide) (Sv_val rfl (R_assign rfl rfl) ?_)
   refine W_nil ?_
   refine E_then ?_
   refine C_ret ?_
   refine E_ret1 rfl rfl ?_
   exact ⟨Lret1 (Lbool (show true = (decide (a0 = a1)) by first | exact (decide_eq_false (fun h_ => by subst h_; first | (exact absurd rfl (by assumption)) | omega)).symm | exact (decide_eq_true (take_all (by omega) (by omega) hI0_1)).symm)), hS.fin [] (by decide) rfl⟩

set_option maxHeartbeats 400000 in
set_option maxRecDepth 20000 in
theorem eqc_clone_calls (a0 : List TCell) (Aa0 : Option Addr) (ca0 : Nat) (z : Z) (w : World) (hI : In z w []) (hra0 : Rd kdTCell z Aa0 a0) (hca0 : Cap Aa0 a0.length ca0) (p0 : a0.length ≤ 100000) :
    Calls Try.prog 68 #[.slice Aa0 a0.length ca0] w fun e w' => ∃ (AR0 : Option Addr) (cR0 : Nat), e = .returned (.slice AR0 a0.length cR0) ∧ Sp (FF []) w z w' [oR kdTCell 46 zE AR0 cR0 a0] := by
 have hla0 := hca0.le
 have hma0 := hca0.mx
 have hS := hI.sp
 refine Calls_of (vs := [.slice Aa0 a0.length ca0]) (N := 8) Try.func68 rfl rfl (Nat.le_of_ble_eq_true rfl) ?_
 refine C_seq ?_
 refine C_region ?_
 refine W_cons rfl (by decide) (Sv_val rfl (R_assign rfl rfl) ?_)
 refine W_nil ?_
 refine E_then ?_
 refine C_seq ?_
 refine C_seq ?_
 refine C_region ?_
 refine W_cons rfl (by decide) (Sv_val rfl (R_move rfl rfl) ?_)
 refine W_cons rfl (by decide) (Sv_val rfl (R_isnil rfl rfl rfl Try.underlying36) ?_)
 refine W_nil ?_
 refine E_then ?_
 refine C_ite rfl (fun hC0 => ?_) (fun hC0 => ?_)
 ·have _hC0 := trivial
  refine C_seq ?_
  refine C_region ?_
  refine W_cons rfl (by decide) (Sv_val rfl (R_assign rfl rfl) ?_)
  refine W_nil ?_
  refine E_then ?_
  refine C_ret ?_
  refine E_then_ret ?_
  have hS := hS.nilrow kdTCell 46 zE
  have hq2 : ([] : List TCell) = a0 := by first | (have hn_ := hca0.nil (by simpa using hC0); exact (List.length_eq_zero_iff.1 (by omega)).symm) | simp
  have hS := hS.re 0 rfl hq2
  refine E_ret1 rfl rfl ?_
  exact ⟨none, 0, Lret1 (Lslice hq2), hS.fin [0] (by decide) rfl⟩
 ·have _hC0 := trivial
  refine C_skip ?_
  refine E_then ?_
  refine C_seq ?_
  refine C_region ?_
  refine W_cons rfl (by decide) (S_row (d := kdTCell) (q := zE) hS ([] : List TCell) rfl (R_buildSlice (ps := []) (vs := []) (w' := w.alloc (.cells [].toArray 46)) (r := .slice (some ⟨w.heap.size, 0, none⟩) 0 0) rfl rfl rfl (by kernel_rfl)) (by simp [Reps, flat, kdTCell]) rfl (by decide) (fun g4 w3 hS => ?_))
  refine W_cons rfl (by decide) (Sv_val rfl (R_move rfl rfl) ?_)
  refine W_cons rfl (by decide) (S_append hS 0 rfl rfl rfl elem36 rfl rfl (Sp.srd hS.sub hra0 hca0 (fun _ _ h => h)) (by (try simp only [List.length_cons, List.length_nil, List.length_append, maxLen]); omega) (by (try simp only [List.length_cons, List.length_nil, List.length_append, maxLen]); omega) (fun Ar6 cr6 w5 hS => ?_))
  have hp7 := hS.cap 0 rfl
  have hlhp7 := hp7.le
  have hmhp7 := hp7.mx
  refine W_cons rfl (by decide) (Sv_val rfl (R_assign rfl rfl) ?_)
  refine W_nil ?_
  refine E_then (C_fr [(2, .slice Ar6 (([] : List TCell) ++ a0).length cr6)] rfl ?_)
  refine C_ret ?_
  have hq8 : ([] : List TCell) ++ a0 = a0 := by first | (have hn_ := hca0.nil (by simpa using hC0); exact (List.length_eq_zero_iff.1 (by omega)).symm) | simp
  have hS := hS.re 0 rfl hq8
  refine E_ret1 rfl rfl ?_
  exact ⟨Ar6, cr6, Lret1 (Lslice hq8), hS.fin [0] (by decide) rfl⟩

set_option maxHeartbeats 400000 in
set_option maxRecDepth 20000 in
theorem eqr_calls (a0 : List TRect) (Aa0 : Option Addr) (ca0 : Nat) (a1 : List TRect) (Aa1 : Option Addr) (ca1 : Nat) (z : Z) (w : World) (hI : In z w []) (hra0 : Rd kdTRect z Aa0 a0) (hca0 : Cap Aa0 a0.length ca0) (hra1 : Rd kdTRect z Aa1 a1) (hca1 : Cap Aa1 a1.length ca1)  :
    Calls Try.prog 74 #[.slice Aa0 a0.length ca0, .slice Aa1 a1.length ca1] w fun e w' => e = .returned (.bool (decide (a0 = a1))) ∧ Sp (FF []) w z w' [] := by
 have hla0 := hca0.le
 have hma0 := hca0.mx
 have hla1 := hca1.le
 have hma1 := hca1.mx
 have hS := hI.sp
 refine Calls_of (vs := [.slice Aa0 a0.length ca0, .slice Aa1 a1.length ca1]) (N := 26) Try.func74 rfl rfl (Nat.le_of_ble_eq_true rfl) ?_
 refine C_seq ?_
 refine C_region ?_
 refine W_cons rfl (by decide) (Sv_val rfl (R_assign rfl rfl) ?_)
 refine W_nil ?_
 refine E_then ?_
 refine C_seq ?_
 refine C_seq ?_
 refine C_region ?_
 refine W_cons rfl (by decide) (Sv_val rfl (R_move rfl rfl) ?_)
 refine W_cons rfl (by decide) (Sv_val rfl (R_len rfl rfl Try.underlying37) ?_)
 refine W_cons rfl (by decide) (Sv_val rfl (R_move rfl rfl) ?_)
 refine W_cons rfl (by decide) (Sv_val rfl (R_len rfl rfl Try.underlying37) ?_)
 refine W_cons rfl (by decide) (Sv_val rfl (R_bin rfl rfl rfl rfl rfl) ?_)
 refine W_nil ?_
 refine E_then (C_fr [(0, .slice Aa0 a0.length ca0), (1, .slice Aa1 a1.length ca1), (10, .bool ((a0.length : Int) != (a1.length : Int)))] rfl ?_)
 refine C_ite rfl (fun hC0 => ?_) (fun hC0 => ?_)
 ·have _hC0 := trivial
  have hC0p : ¬ (a0.length : Int) = (a1.length : Int) := by simpa using hC0
  refine C_seq ?_
  refine C_region ?_
  refine W_cons rfl (by decide) (Sv_val rfl (R_assign rfl rfl) ?_)
  refine W_nil ?_
  refine E_then ?_
  refine C_ret ?_
  refine E_then_ret ?_
  refine E_ret1 rfl rfl ?_
  exact ⟨Lret1 (Lbool (show false = (decide (a0 = a1)) by first | exact (decide_eq_false (fun h_ => by subst h_; first | (exact absurd rfl (by assumption)) | omega)).symm | exact (decide_eq_true (take_all (by omega) (by omega) hI0_1)).symm)), hS.fin [] (by decide) rfl⟩
 ·have _hC0 := trivial
  have hC0p : (a0.length : Int) = (a1.length : Int) := by simpa using hC0
  refine C_skip ?_
  refine E_then ?_
  refine C_seq ?_
  refine C_seq ?_
  refine C_region ?_
  refine W_cons rfl (by decide) (Sv_val rfl (R_move rfl rfl) ?_)
  refine W_cons rfl (by decide) (Sv_val rfl (R_len rfl rfl Try.underlying37) ?_)
  refine W_cons rfl (by decide) (Sv_val rfl (R_move rfl rfl) ?_)
  refine W_nil ?_
  refine E_then ?_
  refine C_block ?_
  refine C_fr [(0, .slice Aa0 a0.length ca0), (1, .slice Aa1 a1.length ca1), (12, .int .i64 (a0.length : Int)), (13, .int .i64 0)] rfl ?_
  refine C_loop (fun m_ f_ w_ => ∃ (i : Nat), f_ = [(0, .slice Aa0 a0.length ca0), (1, .slice Aa1 a1.length ca1), (12, .int .i64 (a0.length : Int)), (13, .int .i64 (i : Int))] ∧ i ≤ a0.length ∧ a0.take i = a1.take i ∧ m_ = a0.length - i ∧ Sp (FF []) w z w_ []) (a0.length - (0 : Nat)) ⟨(0 : Nat), rfl, (by omega), (by rfl), rfl, hS.fin [] (by decide) rfl⟩ ?_
  rintro m_ f_ w1 ⟨i, rfl, hI0_0, hI0_1, rfl, hS⟩
  refine C_seq ?_
  refine C_region ?_
  refine W_cons rfl (by decide) (Sv_val rfl (R_bin rfl rfl rfl rfl rfl) ?_)
  refine W_nil ?_
  refine E_then ?_
  refine C_seq ?_
  refine C_ite rfl (fun hC1 => ?_) (fun hC1 => ?_)
  ·have _hC1 := trivial
   have hC1p : (i : Int) < (a0.length : Int) := by simpa using hC1
   refine C_skip ?_
   refine E_then ?_
   refine C_seq ?_
   refine C_block ?_
   refine C_seq ?_
   refine C_region ?_
   refine W_cons rfl (by decide) (Sv_val rfl (R_move rfl rfl) ?_)
   refine W_cons rfl (by decide) (Sv_val rfl (R_assign rfl rfl) ?_)
   refine W_nil ?_
   refine E_then ?_
   refine C_seq ?_
   refine C_fr [(0, .slice Aa0 a0.length ca0), (1, .slice Aa1 a1.length ca1), (5, .int .i64 (i : Int)), (12, .int .i64 (a0.length : Int)), (13, .int .i64 (i : Int))] rfl ?_
   obtain ⟨q4, csq4, hAq4, rfl, hkq4⟩ := hra0.at_ (default : TRect) (i := (i : Int)) (by omega) (by omega)
   have hkq4 : ∀ (j_ : Nat) (u_ : Value), ([.int .i64 (a0.getD i (default : TRect)).Row, .int .i64 (a0.getD i (default : TRect)).Col, .int .i64 (a0.getD i (default : TRect)).Rows, .int .i64 (a0.getD i (default : TRect)).Cols] : List Value)[j_]? = some u_ → cz z (q4.add (i * 4 + j_)) = some u_ := hkq4
   obtain ⟨q5, csq5, hAq5, rfl, hkq5⟩ := hra1.at_ (default : TRect) (i := (i : Int)) (by omega) (by omega)
   have hkq5 : ∀ (j_ : Nat) (u_ : Value), ([.int .i64 (a1.getD i (default : TRect)).Row, .int .i64 (a1.getD i (default : TRect)).Col, .int .i64 (a1.getD i (default : TRect)).Rows, .int .i64 (a1.getD i (default : TRect)).Cols] : List Value)[j_]? = some u_ → cz z (q5.add (i * 4 + j_)) = some u_ := hkq5
   refine C_drawn 9 [[], [], [0, 1], [2], [], [], [4, 5], [6], [3, 7]] [16, 17, 18, 19, 20, 21, 22, 23, 24] [0, 1, 5, 12, 13] rfl (by kernel_rfl) (by decide +kernel) [fun v_ _ => v_ = .slice Aa0 a0.length ca0, fun v_ _ => v_ = .int .i64 (i : Int), fun v_ _ => v_ = .pointer (some (q4.add (i * 4))), fun v_ _ => v_ = .agg #[.int .i64 (a0.getD i (default : TRect)).Row, .int .i64 (a0.getD i (default : TRect)).Col, .int .i64 (a0.getD i (default : TRect)).Rows, .int .i64 (a0.getD i (default : TRect)).Cols], fun v_ _ => v_ = .slice Aa1 a1.length ca1, fun v_ _ => v_ = .int .i64 (i : Int), fun v_ _ => v_ = .pointer (some (q5.add (i * 4))), fun v_ _ => v_ = .agg #[.int .i64 (a1.getD i (default : TRect)).Row, .int .i64 (a1.getD i (default : TRect)).Col, .int .i64 (a1.getD i (default : TRect)).Rows, .int .i64 (a1.getD i (default : TRect)).Cols], fun v_ _ => v_ = .bool (!decide (a0.getD i (default : TRect) = a1.getD i (default : TRect)))] ⟨fun _ _ _ h _ => h, ⟨fun _ _ _ h _ => h, ⟨fun _ _ _ h _ => h, ⟨fun _ _ _ h _ => h, ⟨fun _ _ _ h _ => h, ⟨fun _ _ _ h _ => h, ⟨fun _ _ _ h _ => h, ⟨fun _ _ _ h _ => h, ⟨fun _ _ _ h _ => h, trivial⟩⟩⟩⟩⟩⟩⟩⟩⟩ ⟨fun w2 hc3 => by have hS := hS.chg0 hc3; exact Sv_val rfl (R_move rfl rfl) ⟨Chg.refl _ _, rfl⟩, ⟨fun w2 hc3 => by have hS := hS.chg0 hc3; exact Sv_val rfl (R_move rfl rfl) ⟨Chg.refl _ _, rfl⟩, ⟨fun w2 hc3 => by have hS := hS.chg0 hc3; rintro _ rfl _ rfl; exact Sv_val rfl (R_idx rfl rfl hAq4 rfl Try.underlying37 size33 (by omega) (by omega)) ⟨Chg.refl _ _, rfl⟩, ⟨fun w2 hc3 => by have hS := hS.chg0 hc3; rintro _ rfl; exact Sv_val rfl (R_loadN (cs := [.int .i64 (a0.getD i (default : TRect)).Row, .int .i64 (a0.getD i (default : TRect)).Col, .int .i64 (a0.getD i (default : TRect)).Rows, .int .i64 (a0.getD i (default : TRect)).Cols]) rfl rfl agg33 size33 rfl (fun j u h => cell_add (hS.sub.cell (hkq4 j u h)))) ⟨Chg.refl _ _, rfl⟩, ⟨fun w2 hc3 => by have hS := hS.chg0 hc3; exact Sv_val rfl (R_move rfl rfl) ⟨Chg.refl _ _, rfl⟩, ⟨fun w2 hc3 => by have hS := hS.chg0 hc3; exact Sv_val rfl (R_move rfl rfl) ⟨Chg.refl _ _, rfl⟩, ⟨fun w2 hc3 => by have hS := hS.chg0 hc3; rintro _ rfl _ rfl; exact Sv_val rfl (R_idx rfl rfl hAq5 rfl Try.underlying37 size33 (by omega) (by omega)) ⟨Chg.refl _ _, rfl⟩, ⟨fun w2 hc3 => by have hS := hS.chg0 hc3; rintro _ rfl; exact Sv_val rfl (R_loadN (cs := [.int .i64 (a1.getD i (default : TRect)).Row, .int .i64 (a1.getD i (default : TRect)).Col, .int .i64 (a1.getD i (default : TRect)).Rows, .int .i64 (a1.getD i (default : TRect)).Cols]) rfl rfl agg33 size33 rfl (fun j u h => cell_add (hS.sub.cell (hkq5 j u h)))) ⟨Chg.refl _ _, rfl⟩, ⟨fun w2 hc3 => by have hS := hS.chg0 hc3; rintro _ rfl _ rfl; exact Sv_val rfl (R_neqv rfl rfl rfl eqg33 ((eqv33 (a0.getD i (default : TRect)) (a1.getD i (default : TRect))).up 2)) ⟨Chg.refl _ _, rfl⟩, trivial⟩⟩⟩⟩⟩⟩⟩⟩⟩ ?_
   intro w2 hc3
   have hS := hS.chg0 hc3
   rintro _ rfl _ rfl _ rfl _ rfl _ rfl _ rfl _ rfl _ rfl _ rfl
   refine An_fr [(0, .slice Aa0 a0.length ca0), (1, .slice Aa1 a1.length ca1), (12, .int .i64 (a0.length : Int)), (13, .int .i64 (i : Int)), (24, .bool (!decide (a0.getD i (default : TRect) = a1.getD i (default : TRect))))] rfl ?_
   refine An_done (by decide +kernel) ?_
   refine E_then ?_
   refine C_ite rfl (fun hC2 => ?_) (fun hC2 => ?_)
   ·have _hC2 := trivial
    have hC2p : ¬ a0.getD i (default : TRect) = a1.getD i (default : TRect) := by simpa using hC2
    refine C_seq ?_
    refine C_region ?_
    refine W_cons rfl (by decide) (Sv_val rfl (R_assign rfl rfl) ?_)
    refine W_nil ?_
    refine E_then (C_fr [(4, .bool false)] rfl ?_)
    refine C_ret ?_
    refine E_block_ret ?_
    refine E_then_ret ?_
    refine E_then_ret ?_
    refine E_block_ret ?_
    refine E_then_ret ?_
    refine E_ret1 rfl rfl ?_
    exact ⟨Lret1 (Lbool (show false = (decide (a0 = a1)) by first | exact (decide_eq_false (fun h_ => by subst h_; first | (exact absurd rfl (by assumption)) | omega)).symm | exact (decide_eq_true (take_all (by omega) (by omega) hI0_1)).symm)), hS.fin [] (by decide) rfl⟩
   ·have _hC2 := trivial
    have hC2p : a0.getD i (default : TRect) = a1.getD i (default : TRect) := by simpa using hC2
    refine C_skip ?_
    refine E_block_normal ?_
    refine E_then ?_
    refine C_region ?_
    refine W_cons rfl (by decide) (Sv_val rfl (R_add64 rfl rfl rfl (by omega) (by omega)) ?_)
    refine W_cons rfl (by decide) (Sv_val rfl (R_move rfl rfl) ?_)
    refine W_nil ?_
    refine E_round [0, 1, 12, 13] ?_ ⟨(i + 1 : Nat), rfl, (by omega), (by exact take_more (by omega) (by omega) hI0_1 (by assumption)), rfl, hS.fin [] (by decide) rfl⟩
    omega
  ·have _hC1 := trivial
   have hC1p : ¬ ((i : Int) < (a0.length : Int)) := by simpa using hC1
   refine C_exit ?_
   refine E_then_exit ?_
   refine E_then_exit ?_
   refine E_block_hit ?_
   refine E_then (C_fr [] rfl ?_)
   refine C_seq ?_
   refine C_region ?_
   refine W_cons rfl (by decide) (Sv_val rfl (R_assign rfl rfl) ?_)
   refine W_nil ?_
   refine E_then ?_
   refine C_ret ?_
   refine E_ret1 rfl rfl ?_
   exact ⟨Lret1 (Lbool (show true = (decide (a0 = a1)) by first | exact (decide_eq_false (fun h_ => by subst h_; first | (exact absurd rfl (by assumption)) | omega)).symm | exact (decide_eq_true (take_all (by omega) (by omega) hI0_1)).symm)), hS.fin [] (by decide) rfl⟩

set_option maxHeartbeats 400000 in
set_option maxRecDepth 20000 in
theorem eqr_clone_calls (a0 : List TRect) (Aa0 : Option Addr) (ca0 : Nat) (z : Z) (w : World) (hI : In z w []) (hra0 : Rd kdTRect z Aa0 a0) (hca0 : Cap Aa0 a0.length ca0) (p0 : a0.length ≤ 100000) :
    Calls Try.prog 69 #[.slice Aa0 a0.length ca0] w fun e w' => ∃ (AR0 : Option Addr) (cR0 : Nat), e = .returned (.slice AR0 a0.length cR0) ∧ Sp (FF []) w z w' [oR kdTRect 33 zE AR0 cR0 a0] := by
 have hla0 := hca0.le
 have hma0 := hca0.mx
 have hS := hI.sp
 refine Calls_of (vs := [.slice Aa0 a0.length ca0]) (N := 8) Try.func69 rfl rfl (Nat.le_of_ble_eq_true rfl) ?_
 refine C_seq ?_
 refine C_region ?_
 refine W_cons rfl (by decide) (Sv_val rfl (R_assign rfl rfl) ?_)
 refine W_nil ?_
 refine E_then ?_
 refine C_seq ?_
 refine C_seq ?_
 refine C_region ?_
 refine W_cons rfl (by decide) (Sv_val rfl (R_move rfl rfl) ?_)
 refine W_cons rfl (by decide) (Sv_val rfl (R_isnil rfl rfl rfl Try.underlying37) ?_)
 refine W_nil ?_
 refine E_then ?_
 refine C_ite rfl (fun hC0 => ?_) (fun hC0 => ?_)
 ·have _hC0 := trivial
  refine C_seq ?_
  refine C_region ?_
  refine W_cons rfl (by decide) (Sv_val rfl (R_assign rfl rfl) ?_)
  refine W_nil ?_
  refine E_then ?_
  refine C_ret ?_
  refine E_then_ret ?_
  have hS := hS.nilrow kdTRect 33 zE
  have hq2 : ([] : List TRect) = a0 := by first | (have hn_ := hca0.nil (by simpa using hC0); exact (List.length_eq_zero_iff.1 (by omega)).symm) | simp
  have hS := hS.re 0 rfl hq2
  refine E_ret1 rfl rfl ?_
  exact ⟨none, 0, Lret1 (Lslice hq2), hS.fin [0] (by decide) rfl⟩
 ·have _hC0 := trivial
  refine C_skip ?_
  refine E_then ?_
  refine C_seq ?_
  refine C_region ?_
  refine W_cons rfl (by decide) (S_row (d := kdTRect) (q := zE) hS ([] : List TRect) rfl (R_buildSlice (ps := []) (vs := []) (w' := w.alloc (.cells [].toArray 33)) (r := .slice (some ⟨w.heap.size, 0, none⟩) 0 0) rfl rfl rfl (by kernel_rfl)) (by simp [Reps, flat, kdTRect]) rfl (by decide) (fun g4 w3 hS => ?_))
  refine W_cons rfl (by decide) (Sv_val rfl (R_move rfl rfl) ?_)
  refine W_cons rfl (by decide) (S_append hS 0 rfl rfl rfl elem37 rfl rfl (Sp.srd hS.sub hra0 hca0 (fun _ _ h => h)) (by (try simp only [List.length_cons, List.length_nil, List.length_append, maxLen]); omega) (by (try simp only [List.length_cons, List.length_nil, List.length_append, maxLen]); omega) (fun Ar6 cr6 w5 hS => ?_))
  have hp7 := hS.cap 0 rfl
  have hlhp7 := hp7.le
  have hmhp7 := hp7.mx
  refine W_cons rfl (by decide) (Sv_val rfl (R_assign rfl rfl) ?_)
  refine W_nil ?_
  refine E_then (C_fr [(2, .slice Ar6 (([] : List TRect) ++ a0).length cr6)] rfl ?_)
  refine C_ret ?_
  have hq8 : ([] : List TRect) ++ a0 = a0 := by first | (have hn_ := hca0.nil (by simpa using hC0); exact (List.length_eq_zero_iff.1 (by omega)).symm) | simp
  have hS := hS.re 0 rfl hq8
  refine E_ret1 rfl rfl ?_
  exact ⟨Ar6, cr6, Lret1 (Lslice hq8), hS.fin [0] (by decide) rfl⟩

set_option maxHeartbeats 400000 in
set_option maxRecDepth 20000 in
theorem shsame_calls (a0 : TSheet) (Aa0_Widths : Option Addr) (ca0_Widths : Nat) (Aa0_Heights : Option Addr) (ca0_Heights : Nat) (Aa0_Cells : Option Addr) (ca0_Cells : Nat) (Aa0_Merges : Option Addr) (ca0_Merges : Nat) (a1 : TSheet) (Aa1_Widths : Option Addr) (ca1_Widths : Nat) (Aa1_Heights : Option Addr) (ca1_Heights : Nat) (Aa1_Cells : Option Addr) (ca1_Cells : Nat) (Aa1_Merges : Option Addr) (ca1_Merges : Nat) (z : Z) (w : World) (hI : In z w []) (hra0_Widths : Rd (kint .i64) z Aa0_Widths a0.Widths) (hca0_Widths : Cap Aa0_Widths a0.Widths.length ca0_Widths) (hra0_Heights : Rd (kint .i64) z Aa0_Heights a0.Heights) (hca0_Heights : Cap Aa0_Heights a0.Heights.length ca0_Heights) (hra0_Cells : Rd kdTCell z Aa0_Cells a0.Cells) (hca0_Cells : Cap Aa0_Cells a0.Cells.length ca0_Cells) (hra0_Merges : Rd kdTRect z Aa0_Merges a0.Merges) (hca0_Merges : Cap Aa0_Merges a0.Merges.length ca0_Merges) (hra1_Widths : Rd (kint .i64) z Aa1_Widths a1.Widths) (hca1_Widths : Cap Aa1_Widths a1.Widths.length ca1_Widths) (hra1_Heights : Rd (kint .i64) z Aa1_Heights a1.Heights) (hca1_Heights : Cap Aa1_Heights a1.Heights.length ca1_Heights) (hra1_Cells : Rd kdTCell z Aa1_Cells a1.Cells) (hca1_Cells : Cap Aa1_Cells a1.Cells.length ca1_Cells) (hra1_Merges : Rd kdTRect z Aa1_Merges a1.Merges) (hca1_Merges : Cap Aa1_Merges a1.Merges.length ca1_Merges)  :
    Calls Try.prog 41 #[.agg #[.int .i64 a0.Right, .slice Aa0_Widths a0.Widths.length ca0_Widths, .slice Aa0_Heights a0.Heights.length ca0_Heights, .slice Aa0_Cells a0.Cells.length ca0_Cells, .slice Aa0_Merges a0.Merges.length ca0_Merges], .agg #[.int .i64 a1.Right, .slice Aa1_Widths a1.Widths.length ca1_Widths, .slice Aa1_Heights a1.Heights.length ca1_Heights, .slice Aa1_Cells a1.Cells.length ca1_Cells, .slice Aa1_Merges a1.Merges.length ca1_Merges]] w fun e w' => e = .returned (.bool (decide (a0 = a1))) ∧ Sp (FF []) w z w' [] := by
 have hla0_Widths := hca0_Widths.le
 have hma0_Widths := hca0_Widths.mx
 have hla0_Heights := hca0_Heights.le
 have hma0_Heights := hca0_Heights.mx
 have hla0_Cells := hca0_Cells.le
 have hma0_Cells := hca0_Cells.mx
 have hla0_Merges := hca0_Merges.le
 have hma0_Merges := hca0_Merges.mx
 have hla1_Widths := hca1_Widths.le
 have hma1_Widths := hca1_Widths.mx
 have hla1_Heights := hca1_Heights.le
 have hma1_Heights := hca1_Heights.mx
 have hla1_Cells := hca1_Cells.le
 have hma1_Cells := hca1_Cells.mx
 have hla1_Merges := hca1_Merges.le
 have hma1_Merges := hca1_Merges.mx
 have hS := hI.sp
 refine Calls_of (vs := [.agg #[.int .i64 a0.Right, .slice Aa0_Widths a0.Widths.length ca0_Widths, .slice Aa0_Heights a0.Heights.length ca0_Heights, .slice Aa0_Cells a0.Cells.length ca0_Cells, .slice Aa0_Merges a0.Merges.length ca0_Merges], .agg #[.int .i64 a1.Right, .slice Aa1_Widths a1.Widths.length ca1_Widths, .slice Aa1_Heights a1.Heights.length ca1_Heights, .slice Aa1_Cells a1.Cells.length ca1_Cells, .slice Aa1_Merges a1.Merges.length ca1_Merges]]) (N := 38) Try.func41 rfl rfl (Nat.le_of_ble_eq_true rfl) ?_
 refine C_seq ?_
 refine C_region ?_
 refine W_cons rfl (by decide) (S_box hS rfl (R_box (cs := [.int .i64 a0.Right, .slice Aa0_Widths a0.Widths.length ca0_Widths, .slice Aa0_Heights a0.Heights.length ca0_Heights, .slice Aa0_Cells a0.Cells.length ca0_Cells, .slice Aa0_Merges a0.Merges.length ca0_Merges]) rfl rfl rfl) (fun b2 w1 hS => ?_))
 refine W_cons rfl (by decide) (S_box hS rfl (R_box (cs := [.int .i64 a1.Right, .slice Aa1_Widths a1.Widths.length ca1_Widths, .slice Aa1_Heights a1.Heights.length ca1_Heights, .slice Aa1_Cells a1.Cells.length ca1_Cells, .slice Aa1_Merges a1.Merges.length ca1_Merges]) rfl rfl rfl) (fun b4 w3 hS => ?_))
 refine W_cons rfl (by decide) (Sv_val rfl (R_assign rfl rfl) ?_)
 refine W_nil ?_
 refine E_then ?_
 refine C_seq ?_
 refine C_region ?_
 refine W_cons rfl (by decide) (Sv_val rfl (R_fld rfl rfl fld39_0) ?_)
 refine W_cons rfl (by decide) (Sv_val rfl (R_load1 rfl rfl agg3 ((hS.bx 1 rfl).cell rfl)) ?_)
 refine W_cons rfl (by decide) (Sv_val rfl (R_fld rfl rfl fld39_0) ?_)
 refine W_cons rfl (by decide) (Sv_val rfl (R_load1 rfl rfl agg3 ((hS.bx 0 rfl).cell rfl)) ?_)
 refine W_cons rfl (by decide) (Sv_val rfl (R_bin rfl rfl rfl rfl rfl) ?_)
 refine W_cons rfl (by decide) (Sv_val rfl (R_move rfl rfl) ?_)
 refine W_split (t := 10) rfl (fun hg5 => ?_) (fun hg5 => ?_)
 ·have _hg5 := trivial
  have hg5p : a0.Right = a1.Right := by simpa using hg5
  refine W_cons rfl (by decide) (Sv_gt rfl rfl rfl hg5 (Sv_val rfl (R_fld rfl rfl fld39_1) ?_))
  refine W_cons rfl (by decide) (Sv_gt rfl rfl rfl hg5 (Sv_val rfl (R_load1 rfl rfl agg35 ((hS.bx 1 rfl).cell rfl)) ?_))
  refine W_cons rfl (by decide) (Sv_gt rfl rfl rfl hg5 (Sv_val rfl (R_fld rfl rfl fld39_1) ?_))
  refine W_cons rfl (by decide) (Sv_gt rfl rfl rfl hg5 (Sv_val rfl (R_load1 rfl rfl agg35 ((hS.bx 0 rfl).cell rfl)) ?_))
  refine W_cons rfl (by decide) (Sv_gt rfl rfl rfl hg5 (Sv_call rfl rfl rfl ent72 ?_))
  refine (eqi_calls a0.Widths Aa0_Widths ca0_Widths a1.Widths Aa1_Widths ca1_Widths _ _ hS.out0 (hra0_Widths.mono (hS.zl [])) hca0_Widths (hra1_Widths.mono (hS.zl [])) hca1_Widths ).mono ?_
  rintro e_ w6 ⟨rfl, hS_⟩
  refine ⟨_, rfl, ?_⟩
  have hS := hS.call0 hS_
  refine W_cons rfl (by decide) (Sv_val rfl (R_pick_t rfl rfl hg5 rfl) ?_)
  refine W_cons rfl (by decide) (Sv_val rfl (R_move rfl rfl) ?_)
  refine W_split (t := 17) rfl (fun hg8 => ?_) (fun hg8 => ?_)
  ·have _hg8 := trivial
   refine W_cons rfl (by decide) (Sv_gt rfl rfl rfl hg8 (Sv_val rfl (R_fld rfl rfl fld39_2) ?_))
   refine W_cons rfl (by decide) (Sv_gt rfl rfl rfl hg8 (Sv_val rfl (R_load1 rfl rfl agg35 ((hS.bx 1 rfl).cell rfl)) ?_))
   refine W_cons rfl (by decide) (Sv_gt rfl rfl rfl hg8 (Sv_val rfl (R_fld rfl rfl fld39_2) ?_))
   refine W_cons rfl (by decide) (Sv_gt rfl rfl rfl hg8 (Sv_val rfl (R_load1 rfl rfl agg35 ((hS.bx 0 rfl).cell rfl)) ?_))
   refine W_cons rfl (by decide) (Sv_gt rfl rfl rfl hg8 (Sv_call rfl rfl rfl ent72 ?_))
   refine (eqi_calls a0.Heights Aa0_Heights ca0_Heights a1.Heights Aa1_Heights ca1_Heights _ _ hS.out0 (hra0_Heights.mono (hS.zl [])) hca0_Heights (hra1_Heights.mono (hS.zl [])) hca1_Heights ).mono ?_
   rintro e_ w9 ⟨rfl, hS_⟩
   refine ⟨_, rfl, ?_⟩
   have hS := hS.call0 hS_
   refine W_cons rfl (by decide) (Sv_val rfl (R_pick_t rfl rfl hg8 rfl) ?_)
   refine W_cons rfl (by decide) (Sv_val rfl (R_move rfl rfl) ?_)
   refine W_split (t := 24) rfl (fun hg11 => ?_) (fun hg11 => ?_)
   ·have _hg11 := trivial
    refine W_cons rfl (by decide) (Sv_gt rfl rfl rfl hg11 (Sv_val rfl (R_fld rfl rfl fld39_3) ?_))
    refine W_cons rfl (by decide) (Sv_gt rfl rfl rfl hg11 (Sv_val rfl (R_load1 rfl rfl agg36 ((hS.bx 1 rfl).cell rfl)) ?_))
    refine W_cons rfl (by decide) (Sv_gt rfl rfl rfl hg11 (Sv_val rfl (R_fld rfl rfl fld39_3) ?_))
    refine W_cons rfl (by decide) (Sv_gt rfl rfl rfl hg11 (Sv_val rfl (R_load1 rfl rfl agg36 ((hS.bx 0 rfl).cell rfl)) ?_))
    refine W_cons rfl (by decide) (Sv_gt rfl rfl rfl hg11 (Sv_call rfl rfl rfl ent73 ?_))
    refine (eqc_calls a0.Cells Aa0_Cells ca0_Cells a1.Cells Aa1_Cells ca1_Cells _ _ hS.out0 (hra0_Cells.mono (hS.zl [])) hca0_Cells (hra1_Cells.mono (hS.zl [])) hca1_Cells ).mono ?_
    rintro e_ w12 ⟨rfl, hS_⟩
    refine ⟨_, rfl, ?_⟩
    have hS := hS.call0 hS_
    refine W_cons rfl (by decide) (Sv_val rfl (R_pick_t rfl rfl hg11 rfl) ?_)
    refine W_cons rfl (by decide) (Sv_val rfl (R_move rfl rfl) ?_)
    refine W_split (t := 31) rfl (fun hg14 => ?_) (fun hg14 => ?_)
    ·have _hg14 := trivial
     refine W_cons rfl (by decide) (Sv_gt rfl rfl rfl hg14 (Sv_val rfl (R_fld rfl rfl fld39_4) ?_))
     refine W_cons rfl (by decide) (Sv_gt rfl rfl rfl hg14 (Sv_val rfl (R_load1 rfl rfl agg37 ((hS.bx 1 rfl).cell rfl)) ?_))
     refine W_cons rfl (by decide) (Sv_gt rfl rfl rfl hg14 (Sv_val rfl (R_fld rfl rfl fld39_4) ?_))
     refine W_cons rfl (by decide) (Sv_gt rfl rfl rfl hg14 (Sv_val rfl (R_load1 rfl rfl agg37 ((hS.bx 0 rfl).cell rfl)) ?_))
     refine W_cons rfl (by decide) (Sv_gt rfl rfl rfl hg14 (Sv_call rfl rfl rfl ent74 ?_))
     refine (eqr_calls a0.Merges Aa0_Merges ca0_Merges a1.Merges Aa1_Merges ca1_Merges _ _ hS.out0 (hra0_Merges.mono (hS.zl [])) hca0_Merges (hra1_Merges.mono (hS.zl [])) hca1_Merges ).mono ?_
     rintro e_ w15 ⟨rfl, hS_⟩
     refine ⟨_, rfl, ?_⟩
     have hS := hS.call0 hS_
     refine W_cons rfl (by decide) (Sv_val rfl (R_pick_t rfl rfl hg14 rfl) ?_)
     refine W_cons rfl (by decide) (Sv_val rfl (R_assign rfl rfl) ?_)
     refine W_nil ?_
     refine E_then (C_fr [(4, .bool (decide (a0.Merges = a1.Merges)))] rfl ?_)
     refine C_ret ?_
     refine E_ret1 rfl rfl ?_
     exact ⟨Lret1 (Lbool (show (decide (a0.Merges = a1.Merges)) = (decide (a0 = a1)) by first | (exact same_no (by simp_all)) | (cases a0; cases a1; simp_all; done) | skip)), hS.fin [] (by decide) rfl⟩
    ·have _hg14 := trivial
     refine W_cons rfl (by decide) (Sv_off rfl rfl rfl (by rw [hg14] <;> rfl) ?_)
     refine W_cons rfl (by decide) (Sv_off rfl rfl rfl (by rw [hg14] <;> rfl) ?_)
     refine W_cons rfl (by decide) (Sv_off rfl rfl rfl (by rw [hg14] <;> rfl) ?_)
     refine W_cons rfl (by decide) (Sv_off rfl rfl rfl (by rw [hg14] <;> rfl) ?_)
     refine W_cons rfl (by decide) (Sv_off rfl rfl rfl (by rw [hg14] <;> rfl) ?_)
     refine W_cons rfl (by decide) (Sv_val rfl (R_pick_f rfl rfl hg14 rfl) ?_)
     refine W_cons rfl (by decide) (Sv_val rfl (R_assign rfl rfl) ?_)
     refine W_nil ?_
     refine E_then (C_fr [(4, .bool false)] rfl ?_)
     refine C_ret ?_
     refine E_ret1 rfl rfl ?_
     exact ⟨Lret1 (Lbool (show false = (decide (a0 = a1)) by first | (exact same_no (by simp_all)) | (cases a0; cases a1; simp_all; done) | skip)), hS.fin [] (by decide) rfl⟩
   ·have _hg11 := trivial
    refine W_cons rfl (by decide) (Sv_off rfl rfl rfl (by rw [hg11] <;> rfl) ?_)
    refine W_cons rfl (by decide) (Sv_off rfl rfl rfl (by rw [hg11] <;> rfl) ?_)
    refine W_cons rfl (by decide) (Sv_off rfl rfl rfl (by rw [hg11] <;> rfl) ?_)
    refine W_cons rfl (by decide) (Sv_off rfl rfl rfl (by rw [hg11] <;> rfl) ?_)
    refine W_cons rfl (by decide) (Sv_off rfl rfl rfl (by rw [hg11] <;> rfl) ?_)
    refine W_cons rfl (by decide) (Sv_val rfl (R_pick_f rfl rfl hg11 rfl) ?_)
    refine W_cons rfl (by decide) (Sv_val rfl (R_move rfl rfl) ?_)
    refine W_cons rfl (by decide) (Sv_off rfl rfl rfl rfl ?_)
    refine W_cons rfl (by decide) (Sv_off rfl rfl rfl rfl ?_)
    refine W_cons rfl (by decide) (Sv_off rfl rfl rfl rfl ?_)
    refine W_cons rfl (by decide) (Sv_off rfl rfl rfl rfl ?_)
    refine W_cons rfl (by decide) (Sv_off rfl rfl rfl rfl ?_)
    refine W_cons rfl (by decide) (Sv_val rfl (R_pick_f rfl rfl rfl rfl) ?_)
    refine W_cons rfl (by decide) (Sv_val rfl (R_assign rfl rfl) ?_)
    refine W_nil ?_
    refine E_then (C_fr [(4, .bool false)] rfl ?_)
    refine C_ret ?_
    refine E_ret1 rfl rfl ?_
    exact ⟨Lret1 (Lbool (show false = (decide (a0 = a1)) by first | (exact same_no (by simp_all)) | (cases a0; cases a1; simp_all; done) | skip)), hS.fin [] (by decide) rfl⟩
  ·have _hg8 := trivial
   refine W_cons rfl (by decide) (Sv_off rfl rfl rfl (by rw [hg8] <;> rfl) ?_)
   refine W_cons rfl (by decide) (Sv_off rfl rfl rfl (by rw [hg8] <;> rfl) ?_)
   refine W_cons rfl (by decide) (Sv_off rfl rfl rfl (by rw [hg8] <;> rfl) ?_)
   refine W_cons rfl (by decide) (Sv_off rfl rfl rfl (by rw [hg8] <;> rfl) ?_)
   refine W_cons rfl (by decide) (Sv_off rfl rfl rfl (by rw [hg8] <;> rfl) ?_)
   refine W_cons rfl (by decide) (Sv_val rfl (R_pick_f rfl rfl hg8 rfl) ?_)
   refine W_cons rfl (by decide) (Sv_val rfl (R_move rfl rfl) ?_)
   refine W_cons rfl (by decide) (Sv_off rfl rfl rfl rfl ?_)
   refine W_cons rfl (by decide) (Sv_off rfl rfl rfl rfl ?_)
   refine W_cons rfl (by decide) (Sv_off rfl rfl rfl rfl ?_)
   refine W_cons rfl (by decide) (Sv_off rfl rfl rfl rfl ?_)
   refine W_cons rfl (by decide) (Sv_off rfl rfl rfl rfl ?_)
   refine W_cons rfl (by decide) (Sv_val rfl (R_pick_f rfl rfl rfl rfl) ?_)
   refine W_cons rfl (by decide) (Sv_val rfl (R_move rfl rfl) ?_)
   refine W_cons rfl (by decide) (Sv_off rfl rfl rfl rfl ?_)
   refine W_cons rfl (by decide) (Sv_off rfl rfl rfl rfl ?_)
   refine W_cons rfl (by decide) (Sv_off rfl rfl rfl rfl ?_)
   refine W_cons rfl (by decide) (Sv_off rfl rfl rfl rfl ?_)
   refine W_cons rfl (by decide) (Sv_off rfl rfl rfl rfl ?_)
   refine W_cons rfl (by decide) (Sv_val rfl (R_pick_f rfl rfl rfl rfl) ?_)
   refine W_cons rfl (by decide) (Sv_val rfl (R_assign rfl rfl) ?_)
   refine W_nil ?_
   refine E_then (C_fr [(4, .bool false)] rfl ?_)
   refine C_ret ?_
   refine E_ret1 rfl rfl ?_
   exact ⟨Lret1 (Lbool (show false = (decide (a0 = a1)) by first | (exact same_no (by simp_all)) | (cases a0; cases a1; simp_all; done) | skip)), hS.fin [] (by decide) rfl⟩
 ·have _hg5 := trivial
  have hg5p : ¬ (a0.Right = a1.Right) := by simpa using hg5
  refine W_cons rfl (by decide) (Sv_off rfl rfl rfl (by rw [hg5] <;> rfl) ?_)
  refine W_cons rfl (by decide) (Sv_off rfl rfl rfl (by rw [hg5] <;> rfl) ?_)
  refine W_cons rfl (by decide) (Sv_off rfl rfl rfl (by rw [hg5] <;> rfl) ?_)
  refine W_cons rfl (by decide) (Sv_off rfl rfl rfl (by rw [hg5] <;> rfl) ?_)
  refine W_cons rfl (by decide) (Sv_off rfl rfl rfl (by rw [hg5] <;> rfl) ?_)
  refine W_cons rfl (by decide) (Sv_val rfl (R_pick_f rfl rfl hg5 rfl) ?_)
  refine W_cons rfl (by decide) (Sv_val rfl (R_move rfl rfl) ?_)
  refine W_cons rfl (by decide) (Sv_off rfl rfl rfl rfl ?_)
  refine W_cons rfl (by decide) (Sv_off rfl rfl rfl rfl ?_)
  refine W_cons rfl (by decide) (Sv_off rfl rfl rfl rfl ?_)
  refine W_cons rfl (by decide) (Sv_off rfl rfl rfl rfl ?_)
  refine W_cons rfl (by decide) (Sv_off rfl rfl rfl rfl ?_)
  refine W_cons rfl (by decide) (Sv_val rfl (R_pick_f rfl rfl rfl rfl) ?_)
  refine W_cons rfl (by decide) (Sv_val rfl (R_move rfl rfl) ?_)
  refine W_cons rfl (by decide) (Sv_off rfl rfl rfl rfl ?_)
  refine W_cons rfl (by decide) (Sv_off rfl rfl rfl rfl ?_)
  refine W_cons rfl (by decide) (Sv_off rfl rfl rfl rfl ?_)
  refine W_cons rfl (by decide) (Sv_off rfl rfl rfl rfl ?_)
  refine W_cons rfl (by decide) (Sv_off rfl rfl rfl rfl ?_)
  refine W_cons rfl (by decide) (Sv_val rfl (R_pick_f rfl rfl rfl rfl) ?_)
  refine W_cons rfl (by decide) (Sv_val rfl (R_move rfl rfl) ?_)
  refine W_cons rfl (by decide) (Sv_off rfl rfl rfl rfl ?_)
  refine W_cons rfl (by decide) (Sv_off rfl rfl rfl rfl ?_)
  refine W_cons rfl (by decide) (Sv_off rfl rfl rfl rfl ?_)
  refine W_cons rfl (by decide) (Sv_off rfl rfl rfl rfl ?_)
  refine W_cons rfl (by decide) (Sv_off rfl rfl rfl rfl ?_)
  refine W_cons rfl (by decide) (Sv_val rfl (R_pick_f rfl rfl rfl rfl) ?_)
  refine W_cons rfl (by decide) (Sv_val rfl (R_assign rfl rfl) ?_)
  refine W_nil ?_
  refine E_then (C_fr [(4, .bool false)] rfl ?_)
  refine C_ret ?_
  refine E_ret1 rfl rfl ?_
  exact ⟨Lret1 (Lbool (show false = (decide (a0 = a1)) by first | (exact same_no (by simp_all)) | (cases a0; cases a1; simp_all; done) | skip)), hS.fin [] (by decide) rfl⟩

set_option maxHeartbeats 400000 in
set_option maxRecDepth 20000 in
theorem in_calls (a0 : Int) (a1 : Int) (a2 : Int) (z : Z) (w : World) (hI : In z w [])   :
    Calls Try.prog 78 #[.int .i64 a0, .int .i64 a1, .int .i64 a2] w fun e w' => e = .returned (.bool (inS a0 a1 a2)) ∧ Sp (FF []) w z w' [] := by
 have hS := hI.sp
 refine Calls_of (vs := [.int .i64 a0, .int .i64 a1, .int .i64 a2]) (N := 26) Try.func78 rfl rfl (Nat.le_of_ble_eq_true rfl) ?_
 refine C_seq ?_
 refine C_region ?_
 refine W_cons rfl (by decide) (Sv_val rfl (R_assign rfl rfl) ?_)
 refine W_nil ?_
 refine E_then ?_
 refine C_seq ?_
 refine C_seq ?_
 refine C_region ?_
 refine W_cons rfl (by decide) (Sv_val rfl (R_move rfl rfl) ?_)
 refine W_cons rfl (by decide) (Sv_val rfl (R_bin rfl rfl rfl rfl rfl) ?_)
 refine W_cons rfl (by decide) (Sv_val rfl (R_move rfl rfl) ?_)
 refine W_split (t := 9) rfl (fun hg1 => ?_) (fun hg1 => ?_)
 ·have _hg1 := trivial
  have hg1p : a2 < 1 := by simpa using hg1
  refine W_cons rfl (by decide) (Sv_off rfl rfl rfl (by rw [hg1] <;> rfl) ?_)
  refine W_cons rfl (by decide) (Sv_off rfl rfl rfl (by rw [hg1] <;> rfl) ?_)
  refine W_cons rfl (by decide) (Sv_off rfl rfl rfl (by rw [hg1] <;> rfl) ?_)
  refine W_cons rfl (by decide) (Sv_val rfl (R_pick_t rfl rfl hg1 rfl) ?_)
  refine W_nil ?_
  refine E_then (C_fr [(0, .int .i64 a0), (1, .int .i64 a1), (2, .int .i64 a2), (13, .bool true)] rfl ?_)
  refine C_if rfl rfl ?_
  refine C_seq ?_
  refine C_region ?_
  refine W_cons rfl (by decide) (Sv_val rfl (R_assign rfl rfl) ?_)
  refine W_nil ?_
  refine E_then ?_
  refine C_ret ?_
  refine E_then_ret ?_
  refine E_ret1 rfl rfl ?_
  exact ⟨Lret1 (Lbool (show false = (inS a0 a1 a2) by first | exact inS_f (by omega) | exact inS_neg (by omega) (by omega) | exact inS_pos (by omega) (by omega))), hS.fin [] (by decide) rfl⟩
 ·have _hg1 := trivial
  have hg1p : ¬ (a2 < 1) := by simpa using hg1
  refine W_cons rfl (by decide) (Sv_gt rfl rfl rfl hg1 (Sv_val rfl (R_move rfl rfl) ?_))
  refine W_cons rfl (by decide) (Sv_gt rfl rfl rfl hg1 (Sv_val rfl (R_move rfl rfl) ?_))
  refine W_cons rfl (by decide) (Sv_gt rfl rfl rfl hg1 (Sv_val rfl (R_bin rfl rfl rfl rfl rfl) ?_))
  refine W_cons rfl (by decide) (Sv_val rfl (R_pick_f rfl rfl hg1 rfl) ?_)
  refine W_nil ?_
  refine E_then (C_fr [(0, .int .i64 a0), (1, .int .i64 a1), (2, .int .i64 a2), (13, .bool (decide (a0 < a1)))] rfl ?_)
  refine C_ite rfl (fun hC0 => ?_) (fun hC0 => ?_)
  ·have _hC0 := trivial
   have hC0p : a0 < a1 := by simpa using hC0
   refine C_seq ?_
   refine C_region ?_
   refine W_cons rfl (by decide) (Sv_val rfl (R_assign rfl rfl) ?_)
   refine W_nil ?_
   refine E_then ?_
   refine C_ret ?_
   refine E_then_ret ?_
   refine E_ret1 rfl rfl ?_
   exact ⟨Lret1 (Lbool (show false = (inS a0 a1 a2) by first | exact inS_f (by omega) | exact inS_neg (by omega) (by omega) | exact inS_pos (by omega) (by omega))), hS.fin [] (by decide) rfl⟩
  ·have _hC0 := trivial
   have hC0p : ¬ (a0 < a1) := by simpa using hC0
   refine C_skip ?_
   refine E_then ?_
   refine C_seq ?_
   refine C_seq ?_
   refine C_region ?_
   refine W_cons rfl (by decide) (Sv_val rfl (R_move rfl rfl) ?_)
   refine W_cons rfl (by decide) (Sv_val rfl (R_bin rfl rfl rfl rfl rfl) ?_)
   refine W_nil ?_
   refine E_then ?_
   refine C_ite rfl (fun hC1 => ?_) (fun hC1 => ?_)
   ·have _hC1 := trivial
    have hC1p : a1 < 0 := by simpa using hC1
    refine C_seq ?_
    refine C_region ?_
    refine W_cons rfl (by decide) (Sv_val rfl (R_move rfl rfl) ?_)
    refine W_cons rfl (by decide) (Sv_val rfl (R_move rfl rfl) ?_)
    refine W_cons rfl (by decide) (Sv_val rfl (R_move rfl rfl) ?_)
    refine W_cons rfl (by decide) (Sv_val rfl (R_bin rfl rfl rfl rfl rfl) ?_)
    refine W_cons rfl (by decide) (Sv_val rfl (R_bin rfl rfl rfl rfl rfl) ?_)
    refine W_cons rfl (by decide) (Sv_val rfl (R_assign rfl rfl) ?_)
    refine W_nil ?_
    refine E_then (C_fr [(6, .bool (decide (a0 < (IntKind.i64.wrap (a1 + a2)))))] rfl ?_)
    refine C_ret ?_
    refine E_then_ret ?_
    refine E_ret1 rfl rfl ?_
    exact ⟨Lret1 (Lbool (show (decide (a0 < (IntKind.i64.wrap (a1 + a2)))) = (inS a0 a1 a2) by first | exact inS_f (by omega) | exact inS_neg (by omega) (by omega) | exact inS_pos (by omega) (by omega))), hS.fin [] (by decide) rfl⟩
   ·have _hC1 := trivial
    have hC1p : ¬ (a1 < 0) := by simpa using hC1
    refine C_skip ?_
    refine E_then ?_
    refine C_seq ?_
    refine C_region ?_
    refine W_cons rfl (by decide) (Sv_val rfl (R_move rfl rfl) ?_)
    refine W_cons rfl (by decide) (Sv_val rfl (R_move rfl rfl) ?_)
    refine W_cons rfl (by decide) (Sv_val rfl (R_bin rfl rfl rfl rfl rfl) ?_)
    refine W_cons rfl (by decide) (Sv_val rfl (R_move rfl rfl) ?_)
    refine W_cons rfl (by decide) (Sv_val rfl (R_bin rfl rfl rfl rfl rfl) ?_)
    refine W_cons rfl (by decide) (Sv_val rfl (R_assign rfl rfl) ?_)
    refine W_nil ?_
    refine E_then (C_fr [(6, .bool (decide ((IntKind.i64.wrap (a0 - a1)) < a2)))] rfl ?_)
    refine C_ret ?_
    refine E_ret1 rfl rfl ?_
    exact ⟨Lret1 (Lbool (show (decide ((IntKind.i64.wrap (a0 - a1)) < a2)) = (inS a0 a1 a2) by first | exact inS_f (by omega) | exact inS_neg (by omega) (by omega) | exact inS_pos (by omega) (by omega))), hS.fin [] (by decide) rfl⟩

set_option maxHeartbeats 400000 in
set_option maxRecDepth 20000 in
theorem covers_calls (a0 : TRect) (a1 : Int) (a2 : Int) (z : Z) (w : World) (hI : In z w [])   :
    Calls Try.prog 49 #[.agg #[.int .i64 a0.Row, .int .i64 a0.Col, .int .i64 a0.Rows, .int .i64 a0.Cols], .int .i64 a1, .int .i64 a2] w fun e w' => e = .returned (.bool (coversS a0 a1 a2)) ∧ Sp (FF []) w z w' [] := by
 have hS := hI.sp
 refine Calls_of (vs := [.agg #[.int .i64 a0.Row, .int .i64 a0.Col, .int .i64 a0.Rows, .int .i64 a0.Cols], .int .i64 a1, .int .i64 a2]) (N := 21) Try.func49 rfl rfl (Nat.le_of_ble_eq_true rfl) ?_
 refine C_seq ?_
 refine C_region ?_
 refine W_cons rfl (by decide) (S_box hS rfl (R_box (cs := [.int .i64 a0.Row, .int .i64 a0.Col, .int .i64 a0.Rows, .int .i64 a0.Cols]) rfl rfl rfl) (fun b2 w1 hS => ?_))
 refine W_cons rfl (by decide) (Sv_val rfl (R_assign rfl rfl) ?_)
 refine W_nil ?_
 refine E_then ?_
 refine C_seq ?_
 refine C_region ?_
 refine W_cons rfl (by decide) (Sv_val rfl (R_move rfl rfl) ?_)
 refine W_cons rfl (by decide) (Sv_val rfl (R_fld rfl rfl fld33_0) ?_)
 refine W_cons rfl (by decide) (Sv_val rfl (R_load1 rfl rfl agg3 ((hS.bx 0 rfl).cell rfl)) ?_)
 refine W_cons rfl (by decide) (Sv_val rfl (R_fld rfl rfl fld33_2) ?_)
 refine W_cons rfl (by decide) (Sv_val rfl (R_load1 rfl rfl agg3 ((hS.bx 0 rfl).cell rfl)) ?_)
 refine W_cons rfl (by decide) (Sv_call rfl rfl rfl ent78 ?_)
 refine (in_calls a1 a0.Row a0.Rows _ _ hS.out0  ).mono ?_
 rintro e_ w3 ⟨rfl, hS_⟩
 refine ⟨_, rfl, ?_⟩
 have hS := hS.call0 hS_
 refine W_cons rfl (by decide) (Sv_val rfl (R_move rfl rfl) ?_)
 refine W_split (t := 13) rfl (fun hg5 => ?_) (fun hg5 => ?_)
 ·have _hg5 := trivial
  refine W_cons rfl (by decide) (Sv_gt rfl rfl rfl hg5 (Sv_val rfl (R_move rfl rfl) ?_))
  refine W_cons rfl (by decide) (Sv_gt rfl rfl rfl hg5 (Sv_val rfl (R_fld rfl rfl fld33_1) ?_))
  refine W_cons rfl (by decide) (Sv_gt rfl rfl rfl hg5 (Sv_val rfl (R_load1 rfl rfl agg3 ((hS.bx 0 rfl).cell rfl)) ?_))
  refine W_cons rfl (by decide) (Sv_gt rfl rfl rfl hg5 (Sv_val rfl (R_fld rfl rfl fld33_3) ?_))
  refine W_cons rfl (by decide) (Sv_gt rfl rfl rfl hg5 (Sv_val rfl (R_load1 rfl rfl agg3 ((hS.bx 0 rfl).cell rfl)) ?_))
  refine W_cons rfl (by decide) (Sv_gt rfl rfl rfl hg5 (Sv_call rfl rfl rfl ent78 ?_))
  refine (in_calls a2 a0.Col a0.Cols _ _ hS.out0  ).mono ?_
  rintro e_ w6 ⟨rfl, hS_⟩
  refine ⟨_, rfl, ?_⟩
  have hS := hS.call0 hS_
  refine W_cons rfl (by decide) (Sv_val rfl (R_pick_t rfl rfl hg5 rfl) ?_)
  refine W_cons rfl (by decide) (Sv_val rfl (R_assign rfl rfl) ?_)
  refine W_nil ?_
  refine E_then (C_fr [(6, .bool (inS a2 a0.Col a0.Cols))] rfl ?_)
  refine C_ret ?_
  refine E_ret1 rfl rfl ?_
  exact ⟨Lret1 (Lbool (show (inS a2 a0.Col a0.Cols) = (coversS a0 a1 a2) by first | (unfold coversS; simp_all; done) | (unfold coversS; simp_all; omega) | (unfold coversS; simp_all; intros; omega) | (unfold coversS; rw [Bool.eq_iff_iff]; simp_all; done) | (unfold coversS; rw [Bool.eq_iff_iff]; simp_all; omega))), hS.fin [] (by decide) rfl⟩
 ·have _hg5 := trivial
  refine W_cons rfl (by decide) (Sv_off rfl rfl rfl (by rw [hg5] <;> rfl) ?_)
  refine W_cons rfl (by decide) (Sv_off rfl rfl rfl (by rw [hg5] <;> rfl) ?_)
  refine W_cons rfl (by decide) (Sv_off rfl rfl rfl (by rw [hg5] <;> rfl) ?_)
  refine W_cons rfl (by decide) (Sv_off rfl rfl rfl (by rw [hg5] <;> rfl) ?_)
  refine W_cons rfl (by decide) (Sv_off rfl rfl rfl (by rw [hg5] <;> rfl) ?_)
  refine W_cons rfl (by decide) (Sv_off rfl rfl rfl (by rw [hg5] <;> rfl) ?_)
  refine W_cons rfl (by decide) (Sv_val rfl (R_pick_f rfl rfl hg5 rfl) ?_)
  refine W_cons rfl (by decide) (Sv_val rfl (R_assign rfl rfl) ?_)
  refine W_nil ?_
  refine E_then (C_fr [(6, .bool false)] rfl ?_)
  refine C_ret ?_
  refine E_ret1 rfl rfl ?_
  exact ⟨Lret1 (Lbool (show false = (coversS a0 a1 a2) by first | (unfold coversS; simp_all; done) | (unfold coversS; simp_all; omega) | (unfold coversS; simp_all; intros; omega) | (unfold coversS; rw [Bool.eq_iff_iff]; simp_all; done) | (unfold coversS; rw [Bool.eq_iff_iff]; simp_all; omega))), hS.fin [] (by decide) rfl⟩

set_option maxHeartbeats 400000 in
set_option maxRecDepth 20000 in
theorem rmeet_calls (a0 : TRect) (a1 : TRect) (z : Z) (w : World) (hI : In z w [])   :
    Calls Try.prog 28 #[.agg #[.int .i64 a0.Row, .int .i64 a0.Col, .int .i64 a0.Rows, .int .i64 a0.Cols], .agg #[.int .i64 a1.Row, .int .i64 a1.Col, .int .i64 a1.Rows, .int .i64 a1.Cols]] w fun e w' => e = .returned (.bool (rmeetS a0 a1)) ∧ Sp (FF []) w z w' [] := by
 have hS := hI.sp
 refine Calls_of (vs := [.agg #[.int .i64 a0.Row, .int .i64 a0.Col, .int .i64 a0.Rows, .int .i64 a0.Cols], .agg #[.int .i64 a1.Row, .int .i64 a1.Col, .int .i64 a1.Rows, .int .i64 a1.Cols]]) (N := 27) Try.func28 rfl rfl (Nat.le_of_ble_eq_true rfl) ?_
 refine C_seq ?_
 refine C_region ?_
 refine W_cons rfl (by decide) (S_box hS rfl (R_box (cs := [.int .i64 a0.Row, .int .i64 a0.Col, .int .i64 a0.Rows, .int .i64 a0.Cols]) rfl rfl rfl) (fun b2 w1 hS => ?_))
 refine W_cons rfl (by decide) (S_box hS rfl (R_box (cs := [.int .i64 a1.Row, .int .i64 a1.Col, .int .i64 a1.Rows, .int .i64 a1.Cols]) rfl rfl rfl) (fun b4 w3 hS => ?_))
 refine W_cons rfl (by decide) (Sv_val rfl (R_assign rfl rfl) ?_)
 refine W_nil ?_
 refine E_then ?_
 refine C_seq ?_
 refine C_fr [(2, .pointer (some ⟨b2, 0, none⟩)), (3, .pointer (some ⟨b4, 0, none⟩))] rfl ?_
 refine C_drawn 12 [[], [0], [], [2], [1, 3], [], [5], [], [7], [6, 8], [4, 0, 1, 2, 3, 4], [9, 10, 0, 1, 2, 3, 4, 5, 6, 7, 8, 9, 10]] [7, 8, 9, 10, 11, 12, 13, 14, 15, 16, 5, 6] [2, 3] rfl (by kernel_rfl) (by decide +kernel) [fun v_ _ => v_ = .pointer (some ⟨b2, 0, none⟩), fun v_ _ => v_ = .int .i64 a0.Row, fun v_ _ => v_ = .pointer (some ⟨b4, 0, none⟩), fun v_ _ => v_ = .int .i64 a1.Row, fun v_ _ => v_ = .int .i64 (max a0.Row a1.Row), fun v_ _ => v_ = .pointer (some ⟨b2, 1, none⟩), fun v_ _ => v_ = .int .i64 a0.Col, fun v_ _ => v_ = .pointer (some ⟨b4, 1, none⟩), fun v_ _ => v_ = .int .i64 a1.Col, fun v_ _ => v_ = .int .i64 (max a0.Col a1.Col), fun v_ _ => v_ = .int .i64 (max a0.Row a1.Row), fun v_ _ => v_ = .int .i64 (max a0.Col a1.Col)] ⟨fun _ _ _ h _ => h, ⟨fun _ _ _ h _ => h, ⟨fun _ _ _ h _ => h, ⟨fun _ _ _ h _ => h, ⟨fun _ _ _ h _ => h, ⟨fun _ _ _ h _ => h, ⟨fun _ _ _ h _ => h, ⟨fun _ _ _ h _ => h, ⟨fun _ _ _ h _ => h, ⟨fun _ _ _ h _ => h, ⟨fun _ _ _ h _ => h, ⟨fun _ _ _ h _ => h, trivial⟩⟩⟩⟩⟩⟩⟩⟩⟩⟩⟩⟩ ⟨fun w5 hc6 => by have hS := hS.chg0 hc6; exact Sv_val rfl (R_fld rfl rfl fld33_0) ⟨Chg.refl _ _, rfl⟩, ⟨fun w5 hc6 => by have hS := hS.chg0 hc6; rintro _ rfl; exact Sv_val rfl (R_load1 rfl rfl agg3 ((hS.bx 1 rfl).cell rfl)) ⟨Chg.refl _ _, rfl⟩, ⟨fun w5 hc6 => by have hS := hS.chg0 hc6; exact Sv_val rfl (R_fld rfl rfl fld33_0) ⟨Chg.refl _ _, rfl⟩, ⟨fun w5 hc6 => by have hS := hS.chg0 hc6; rintro _ rfl; exact Sv_val rfl (R_load1 rfl rfl agg3 ((hS.bx 0 rfl).cell rfl)) ⟨Chg.refl _ _, rfl⟩, ⟨fun w5 hc6 => by have hS := hS.chg0 hc6; rintro _ rfl _ rfl; exact Sv_val rfl (R_max rfl rfl) ⟨Chg.refl _ _, rfl⟩, ⟨fun w5 hc6 => by have hS := hS.chg0 hc6; exact Sv_val rfl (R_fld rfl rfl fld33_1) ⟨Chg.refl _ _, rfl⟩, ⟨fun w5 hc6 => by have hS := hS.chg0 hc6; rintro _ rfl; exact Sv_val rfl (R_load1 rfl rfl agg3 ((hS.bx 1 rfl).cell rfl)) ⟨Chg.refl _ _, rfl⟩, ⟨fun w5 hc6 => by have hS := hS.chg0 hc6; exact Sv_val rfl (R_fld rfl rfl fld33_1) ⟨Chg.refl _ _, rfl⟩, ⟨fun w5 hc6 => by have hS := hS.chg0 hc6; rintro _ rfl; exact Sv_val rfl (R_load1 rfl rfl agg3 ((hS.bx 0 rfl).cell rfl)) ⟨Chg.refl _ _, rfl⟩, ⟨fun w5 hc6 => by have hS := hS.chg0 hc6; rintro _ rfl _ rfl; exact Sv_val rfl (R_max rfl rfl) ⟨Chg.refl _ _, rfl⟩, ⟨fun w5 hc6 => by have hS := hS.chg0 hc6; rintro _ rfl _ rfl _ rfl _ rfl _ rfl _ rfl; exact Sv_val rfl (R_assign rfl rfl) ⟨Chg.refl _ _, rfl⟩, ⟨fun w5 hc6 => by have hS := hS.chg0 hc6; rintro _ rfl _ rfl _ rfl _ rfl _ rfl _ rfl _ rfl _ rfl _ rfl _ rfl _ rfl _ rfl _ rfl; exact Sv_val rfl (R_assign rfl rfl) ⟨Chg.refl _ _, rfl⟩, trivial⟩⟩⟩⟩⟩⟩⟩⟩⟩⟩⟩⟩ ?_
 intro w5 hc6
 have hS := hS.chg0 hc6
 rintro _ rfl _ rfl _ rfl _ rfl _ rfl _ rfl _ rfl _ rfl _ rfl _ rfl _ rfl _ rfl
 refine An_fr [(2, .pointer (some ⟨b2, 0, none⟩)), (3, .pointer (some ⟨b4, 0, none⟩)), (5, .int .i64 (max a0.Row a1.Row)), (6, .int .i64 (max a0.Col a1.Col))] rfl ?_
 refine An_done (by decide +kernel) ?_
 refine E_then ?_
 refine C_seq ?_
 refine C_region ?_
 refine W_cons rfl (by decide) (Sv_val rfl (R_loadN (cs := [.int .i64 a0.Row, .int .i64 a0.Col, .int .i64 a0.Rows, .int .i64 a0.Cols]) rfl rfl agg33 size33 rfl (boxcells (hS.bx 1 rfl) 0 rfl)) ?_)
 refine W_cons rfl (by decide) (Sv_val rfl (R_move rfl rfl) ?_)
 refine W_cons rfl (by decide) (Sv_val rfl (R_move rfl rfl) ?_)
 refine W_cons rfl (by decide) (Sv_call rfl rfl rfl ent49 ?_)
 refine (covers_calls a0 (max a0.Row a1.Row) (max a0.Col a1.Col) _ _ hS.out0  ).mono ?_
 rintro e_ w7 ⟨rfl, hS_⟩
 refine ⟨_, rfl, ?_⟩
 have hS := hS.call0 hS_
 refine W_cons rfl (by decide) (Sv_val rfl (R_move rfl rfl) ?_)
 refine W_split (t := 21) rfl (fun hg9 => ?_) (fun hg9 => ?_)
 ·have _hg9 := trivial
  refine W_cons rfl (by decide) (Sv_gt rfl rfl rfl hg9 (Sv_val rfl (R_loadN (cs := [.int .i64 a1.Row, .int .i64 a1.Col, .int .i64 a1.Rows, .int .i64 a1.Cols]) rfl rfl agg33 size33 rfl (boxcells (hS.bx 0 rfl) 0 rfl)) ?_))
  refine W_cons rfl (by decide) (Sv_gt rfl rfl rfl hg9 (Sv_val rfl (R_move rfl rfl) ?_))
  refine W_cons rfl (by decide) (Sv_gt rfl rfl rfl hg9 (Sv_val rfl (R_move rfl rfl) ?_))
  refine W_cons rfl (by decide) (Sv_gt rfl rfl rfl hg9 (Sv_call rfl rfl rfl ent49 ?_))
  refine (covers_calls a1 (max a0.Row a1.Row) (max a0.Col a1.Col) _ _ hS.out0  ).mono ?_
  rintro e_ w10 ⟨rfl, hS_⟩
  refine ⟨_, rfl, ?_⟩
  have hS := hS.call0 hS_
  refine W_cons rfl (by decide) (Sv_val rfl (R_pick_t rfl rfl hg9 rfl) ?_)
  refine W_cons rfl (by decide) (Sv_val rfl (R_assign rfl rfl) ?_)
  refine W_nil ?_
  refine E_then (C_fr [(4, .bool (coversS a1 (max a0.Row a1.Row) (max a0.Col a1.Col)))] rfl ?_)
  refine C_ret ?_
  refine E_ret1 rfl rfl ?_
  exact ⟨Lret1 (Lbool (show (coversS a1 (max a0.Row a1.Row) (max a0.Col a1.Col)) = (rmeetS a0 a1) by first | (unfold rmeetS; simp_all; done) | (unfold rmeetS; simp_all; omega) | (unfold rmeetS; simp_all; intros; omega) | (unfold rmeetS; rw [Bool.eq_iff_iff]; simp_all; done) | (unfold rmeetS; rw [Bool.eq_iff_iff]; simp_all; omega))), hS.fin [] (by decide) rfl⟩
 ·have _hg9 := trivial
  refine W_cons rfl (by decide) (Sv_off rfl rfl rfl (by rw [hg9] <;> rfl) ?_)
  refine W_cons rfl (by decide) (Sv_off rfl rfl rfl (by rw [hg9] <;> rfl) ?_)
  refine W_cons rfl (by decide) (Sv_off rfl rfl rfl (by rw [hg9] <;> rfl) ?_)
  refine W_cons rfl (by decide) (Sv_off rfl rfl rfl (by rw [hg9] <;> rfl) ?_)
  refine W_cons rfl (by decide) (Sv_val rfl (R_pick_f rfl rfl hg9 rfl) ?_)
  refine W_cons rfl (by decide) (Sv_val rfl (R_assign rfl rfl) ?_)
  refine W_nil ?_
  refine E_then (C_fr [(4, .bool false)] rfl ?_)
  refine C_ret ?_
  refine E_ret1 rfl rfl ?_
  exact ⟨Lret1 (Lbool (show false = (rmeetS a0 a1) by first | (unfold rmeetS; simp_all; done) | (unfold rmeetS; simp_all; omega) | (unfold rmeetS; simp_all; intros; omega) | (unfold rmeetS; rw [Bool.eq_iff_iff]; simp_all; done) | (unfold rmeetS; rw [Bool.eq_iff_iff]; simp_all; omega))), hS.fin [] (by decide) rfl⟩

set_option maxHeartbeats 400000 in
set_option maxRecDepth 20000 in
theorem there_calls (a0 : TSheet) (Aa0_Widths : Option Addr) (ca0_Widths : Nat) (Aa0_Heights : Option Addr) (ca0_Heights : Nat) (Aa0_Cells : Option Addr) (ca0_Cells : Nat) (Aa0_Merges : Option Addr) (ca0_Merges : Nat) (a1 : TRect) (z : Z) (w : World) (hI : In z w []) (hra0_Widths : Rd (kint .i64) z Aa0_Widths a0.Widths) (hca0_Widths : Cap Aa0_Widths a0.Widths.length ca0_Widths) (hra0_Heights : Rd (kint .i64) z Aa0_Heights a0.Heights) (hca0_Heights : Cap Aa0_Heights a0.Heights.length ca0_Heights) (hra0_Cells : Rd kdTCell z Aa0_Cells a0.Cells) (hca0_Cells : Cap Aa0_Cells a0.Cells.length ca0_Cells) (hra0_Merges : Rd kdTRect z Aa0_Merges a0.Merges) (hca0_Merges : Cap Aa0_Merges a0.Merges.length ca0_Merges)  :
    Calls Try.prog 83 #[.agg #[.int .i64 a0.Right, .slice Aa0_Widths a0.Widths.length ca0_Widths, .slice Aa0_Heights a0.Heights.length ca0_Heights, .slice Aa0_Cells a0.Cells.length ca0_Cells, .slice Aa0_Merges a0.Merges.length ca0_Merges], .agg #[.int .i64 a1.Row, .int .i64 a1.Col, .int .i64 a1.Rows, .int .i64 a1.Cols]] w fun e w' => e = .returned (.bool (thereS a0 a1)) ∧ Sp (FF []) w z w' [] := by
 have hla0_Widths := hca0_Widths.le
 have hma0_Widths := hca0_Widths.mx
 have hla0_Heights := hca0_Heights.le
 have hma0_Heights := hca0_Heights.mx
 have hla0_Cells := hca0_Cells.le
 have hma0_Cells := hca0_Cells.mx
 have hla0_Merges := hca0_Merges.le
 have hma0_Merges := hca0_Merges.mx
 have hS := hI.sp
 refine Calls_of (vs := [.agg #[.int .i64 a0.Right, .slice Aa0_Widths a0.Widths.length ca0_Widths, .slice Aa0_Heights a0.Heights.length ca0_Heights, .slice Aa0_Cells a0.Cells.length ca0_Cells, .slice Aa0_Merges a0.Merges.length ca0_Merges], .agg #[.int .i64 a1.Row, .int .i64 a1.Col, .int .i64 a1.Rows, .int .i64 a1.Cols]]) (N := 51) Try.func83 rfl rfl (Nat.le_of_ble_eq_true rfl) ?_
 refine C_seq ?_
 refine C_region ?_
 refine W_cons rfl (by decide) (S_box hS rfl (R_box (cs := [.int .i64 a0.Right, .slice Aa0_Widths a0.Widths.length ca0_Widths, .slice Aa0_Heights a0.Heights.length ca0_Heights, .slice Aa0_Cells a0.Cells.length ca0_Cells, .slice Aa0_Merges a0.Merges.length ca0_Merges]) rfl rfl rfl) (fun b2 w1 hS => ?_))
 refine W_cons rfl (by decide) (S_box hS rfl (R_box (cs := [.int .i64 a1.Row, .int .i64 a1.Col, .int .i64 a1.Rows, .int .i64 a1.Cols]) rfl rfl rfl) (fun b4 w3 hS => ?_))
 refine W_cons rfl (by decide) (Sv_val rfl (R_assign rfl rfl) ?_)
 refine W_nil ?_
 refine E_then ?_
 refine C_seq ?_
 refine C_region ?_
 refine W_cons rfl (by decide) (Sv_val rfl (R_fld rfl rfl fld33_0) ?_)
 refine W_cons rfl (by decide) (Sv_val rfl (R_load1 rfl rfl agg3 ((hS.bx 0 rfl).cell rfl)) ?_)
 refine W_cons rfl (by decide) (Sv_val rfl (R_bin rfl rfl rfl rfl rfl) ?_)
 refine W_cons rfl (by decide) (Sv_val rfl (R_move rfl rfl) ?_)
 refine W_split (t := 8) rfl (fun hg5 => ?_) (fun hg5 => ?_)
 ·have _hg5 := trivial
  have hg5p : a1.Row ≥ 0 := by simpa using hg5
  refine W_cons rfl (by decide) (Sv_gt rfl rfl rfl hg5 (Sv_val rfl (R_fld rfl rfl fld33_1) ?_))
  refine W_cons rfl (by decide) (Sv_gt rfl rfl rfl hg5 (Sv_val rfl (R_load1 rfl rfl agg3 ((hS.bx 0 rfl).cell rfl)) ?_))
  refine W_cons rfl (by decide) (Sv_gt rfl rfl rfl hg5 (Sv_val rfl (R_bin rfl rfl rfl rfl rfl) ?_))
  refine W_cons rfl (by decide) (Sv_val rfl (R_pick_t rfl rfl hg5 rfl) ?_)
  refine W_cons rfl (by decide) (Sv_val rfl (R_move rfl rfl) ?_)
  refine W_split (t := 13) rfl (fun hg6 => ?_) (fun hg6 => ?_)
  ·have _hg6 := trivial
   have hg6p : a1.Col ≥ 0 := by simpa using hg6
   refine W_cons rfl (by decide) (Sv_gt rfl rfl rfl hg6 (Sv_val rfl (R_fld rfl rfl fld33_2) ?_))
   refine W_cons rfl (by decide) (Sv_gt rfl rfl rfl hg6 (Sv_val rfl (R_load1 rfl rfl agg3 ((hS.bx 0 rfl).cell rfl)) ?_))
   refine W_cons rfl (by decide) (Sv_gt rfl rfl rfl hg6 (Sv_val rfl (R_fld rfl rfl fld39_2) ?_))
   refine W_cons rfl (by decide) (Sv_gt rfl rfl rfl hg6 (Sv_val rfl (R_load1 rfl rfl agg35 ((hS.bx 1 rfl).cell rfl)) ?_))
   refine W_cons rfl (by decide) (Sv_gt rfl rfl rfl hg6 (Sv_val rfl (R_len rfl rfl Try.underlying35) ?_))
   refine W_cons rfl (by decide) (Sv_gt rfl rfl rfl hg6 (Sv_val rfl (R_bin rfl rfl rfl rfl rfl) ?_))
   refine W_cons rfl (by decide) (Sv_val rfl (R_pick_t rfl rfl hg6 rfl) ?_)
   refine W_cons rfl (by decide) (Sv_val rfl (R_move rfl rfl) ?_)
   refine W_split (t := 21) rfl (fun hg7 => ?_) (fun hg7 => ?_)
   ·have _hg7 := trivial
    have hg7p : a1.Rows ≤ (a0.Heights.length : Int) := by simpa using hg7
    refine W_cons rfl (by decide) (Sv_gt rfl rfl rfl hg7 (Sv_val rfl (R_fld rfl rfl fld33_3) ?_))
    refine W_cons rfl (by decide) (Sv_gt rfl rfl rfl hg7 (Sv_val rfl (R_load1 rfl rfl agg3 ((hS.bx 0 rfl).cell rfl)) ?_))
    refine W_cons rfl (by decide) (Sv_gt rfl rfl rfl hg7 (Sv_val rfl (R_fld rfl rfl fld39_1) ?_))
    refine W_cons rfl (by decide) (Sv_gt rfl rfl rfl hg7 (Sv_val rfl (R_load1 rfl rfl agg35 ((hS.bx 1 rfl).cell rfl)) ?_))
    refine W_cons rfl (by decide) (Sv_gt rfl rfl rfl hg7 (Sv_val rfl (R_len rfl rfl Try.underlying35) ?_))
    refine W_cons rfl (by decide) (Sv_gt rfl rfl rfl hg7 (Sv_val rfl (R_bin rfl rfl rfl rfl rfl) ?_))
    refine W_cons rfl (by decide) (Sv_val rfl (R_pick_t rfl rfl hg7 rfl) ?_)
    refine W_cons rfl (by decide) (Sv_val rfl (R_move rfl rfl) ?_)
    refine W_split (t := 29) rfl (fun hg8 => ?_) (fun hg8 => ?_)
    ·have _hg8 := trivial
     have hg8p : a1.Cols ≤ (a0.Widths.length : Int) := by simpa using hg8
     refine W_cons rfl (by decide) (Sv_gt rfl rfl rfl hg8 (Sv_val rfl (R_fld rfl rfl fld33_0) ?_))
     refine W_cons rfl (by decide) (Sv_gt rfl rfl rfl hg8 (Sv_val rfl (R_load1 rfl rfl agg3 ((hS.bx 0 rfl).cell rfl)) ?_))
     refine W_cons rfl (by decide) (Sv_gt rfl rfl rfl hg8 (Sv_val rfl (R_fld rfl rfl fld39_2) ?_))
     refine W_cons rfl (by decide) (Sv_gt rfl rfl rfl hg8 (Sv_val rfl (R_load1 rfl rfl agg35 ((hS.bx 1 rfl).cell rfl)) ?_))
     refine W_cons rfl (by decide) (Sv_gt rfl rfl rfl hg8 (Sv_val rfl (R_len rfl rfl Try.underlying35) ?_))
     refine W_cons rfl (by decide) (Sv_gt rfl rfl rfl hg8 (Sv_val rfl (R_fld rfl rfl fld33_2) ?_))
     refine W_cons rfl (by decide) (Sv_gt rfl rfl rfl hg8 (Sv_val rfl (R_load1 rfl rfl agg3 ((hS.bx 0 rfl).cell rfl)) ?_))
     refine W_cons rfl (by decide) (Sv_gt rfl rfl rfl hg8 (Sv_val rfl (R_bin rfl rfl rfl rfl rfl) ?_))
     refine W_cons rfl (by decide) (Sv_gt rfl rfl rfl hg8 (Sv_val rfl (R_bin rfl rfl rfl rfl rfl) ?_))
     refine W_cons rfl (by decide) (Sv_val rfl (R_pick_t rfl rfl hg8 rfl) ?_)
     refine W_cons rfl (by decide) (Sv_val rfl (R_move rfl rfl) ?_)
     refine W_split (t := 40) rfl (fun hg9 => ?_) (fun hg9 => ?_)
     ·have _hg9 := trivial
      have hg9p : a1.Row ≤ (IntKind.i64.wrap ((a0.Heights.length : Int) - a1.Rows)) := by simpa using hg9
      refine W_cons rfl (by decide) (Sv_gt rfl rfl rfl hg9 (Sv_val rfl (R_fld rfl rfl fld33_1) ?_))
      refine W_cons rfl (by decide) (Sv_gt rfl rfl rfl hg9 (Sv_val rfl (R_load1 rfl rfl agg3 ((hS.bx 0 rfl).cell rfl)) ?_))
      refine W_cons rfl (by decide) (Sv_gt rfl rfl rfl hg9 (Sv_val rfl (R_fld rfl rfl fld39_1) ?_))
      refine W_cons rfl (by decide) (Sv_gt rfl rfl rfl hg9 (Sv_val rfl (R_load1 rfl rfl agg35 ((hS.bx 1 rfl).cell rfl)) ?_))
      refine W_cons rfl (by decide) (Sv_gt rfl rfl rfl hg9 (Sv_val rfl (R_len rfl rfl Try.underlying35) ?_))
      refine W_cons rfl (by decide) (Sv_gt rfl rfl rfl hg9 (Sv_val rfl (R_fld rfl rfl fld33_3) ?_))
      refine W_cons rfl (by decide) (Sv_gt rfl rfl rfl hg9 (Sv_val rfl (R_load1 rfl rfl agg3 ((hS.bx 0 rfl).cell rfl)) ?_))
      refine W_cons rfl (by decide) (Sv_gt rfl rfl rfl hg9 (Sv_val rfl (R_bin rfl rfl rfl rfl rfl) ?_))
      refine W_cons rfl (by decide) (Sv_gt rfl rfl rfl hg9 (Sv_val rfl (R_bin rfl rfl rfl rfl rfl) ?_))
      refine W_cons rfl (by decide) (Sv_val rfl (R_pick_t rfl rfl hg9 rfl) ?_)
      refine W_cons rfl (by decide) (Sv_val rfl (R_assign rfl rfl) ?_)
      refine W_nil ?_
      refine E_then (C_fr [(4, .bool (decide (a1.Col ≤ (IntKind.i64.wrap ((a0.Widths.length : Int) - a1.Cols)))))] rfl ?_)
      refine C_ret ?_
      refine E_ret1 rfl rfl ?_
      exact ⟨Lret1 (Lbool (show (decide (a1.Col ≤ (IntKind.i64.wrap ((a0.Widths.length : Int) - a1.Cols)))) = (thereS a0 a1) by first | (unfold thereS hasS; simp_all; done) | (unfold thereS hasS; simp_all; omega) | (unfold thereS hasS; simp_all; intros; omega) | (unfold thereS hasS; rw [Bool.eq_iff_iff]; simp_all; done) | (unfold thereS hasS; rw [Bool.eq_iff_iff]; simp_all; omega))), hS.fin [] (by decide) rfl⟩
     ·have _hg9 := trivial
      have hg9p : ¬ (a1.Row ≤ (IntKind.i64.wrap ((a0.Heights.length : Int) - a1.Rows))) := by simpa using hg9
      refine W_cons rfl (by decide) (Sv_off rfl rfl rfl (by rw [hg9] <;> rfl) ?_)
      refine W_cons rfl (by decide) (Sv_off rfl rfl rfl (by rw [hg9] <;> rfl) ?_)
      refine W_cons rfl (by decide) (Sv_off rfl rfl rfl (by rw [hg9] <;> rfl) ?_)
      refine W_cons rfl (by decide) (Sv_off rfl rfl rfl (by rw [hg9] <;> rfl) ?_)
      refine W_cons rfl (by decide) (Sv_off rfl rfl rfl (by rw [hg9] <;> rfl) ?_)
      refine W_cons rfl (by decide) (Sv_off rfl rfl rfl (by rw [hg9] <;> rfl) ?_)
      refine W_cons rfl (by decide) (Sv_off rfl rfl rfl (by rw [hg9] <;> rfl) ?_)
      refine W_cons rfl (by decide) (Sv_off rfl rfl rfl (by rw [hg9] <;> rfl) ?_)
      refine W_cons rfl (by decide) (Sv_off rfl rfl rfl (by rw [hg9] <;> rfl) ?_)
      refine W_cons rfl (by decide) (Sv_val rfl (R_pick_f rfl rfl hg9 rfl) ?_)
      refine W_cons rfl (by decide) (Sv_val rfl (R_assign rfl rfl) ?_)
      refine W_nil ?_
      refine E_then (C_fr [(4, .bool false)] rfl ?_)
      refine C_ret ?_
      refine E_ret1 rfl rfl ?_
      exact ⟨Lret1 (Lbool (show false = (thereS a0 a1) by first | (unfold thereS hasS; simp_all; done) | (unfold thereS hasS; simp_all; omega) | (unfold thereS hasS; simp_all; intros; omega) | (unfold thereS hasS; rw [Bool.eq_iff_iff]; simp_all; done) | (unfold thereS hasS; rw [Bool.eq_iff_iff]; simp_all; omega))), hS.fin [] (by decide) rfl⟩
    ·have _hg8 := trivial
     have hg8p : ¬ (a1.Cols ≤ (a0.Widths.length : Int)) := by simpa using hg8
     refine W_cons rfl (by decide) (Sv_off rfl rfl rfl (by rw [hg8] <;> rfl) ?_)
     refine W_cons rfl (by decide) (Sv_off rfl rfl rfl (by rw [hg8] <;> rfl) ?_)
     refine W_cons rfl (by decide) (Sv_off rfl rfl rfl (by rw [hg8] <;> rfl) ?_)
     refine W_cons rfl (by decide) (Sv_off rfl rfl rfl (by rw [hg8] <;> rfl) ?_)
     refine W_cons rfl (by decide) (Sv_off rfl rfl rfl (by rw [hg8] <;> rfl) ?_)
     refine W_cons rfl (by decide) (Sv_off rfl rfl rfl (by rw [hg8] <;> rfl) ?_)
     refine W_cons rfl (by decide) (Sv_off rfl rfl rfl (by rw [hg8] <;> rfl) ?_)
     refine W_cons rfl (by decide) (Sv_off rfl rfl rfl (by rw [hg8] <;> rfl) ?_)
     refine W_cons rfl (by decide) (Sv_off rfl rfl rfl (by rw [hg8] <;> rfl) ?_)
     refine W_cons rfl (by decide) (Sv_val rfl (R_pick_f rfl rfl hg8 rfl) ?_)
     refine W_cons rfl (by decide) (Sv_val rfl (R_move rfl rfl) ?_)
     refine W_cons rfl (by decide) (Sv_off rfl rfl rfl rfl ?_)
     refine W_cons rfl (by decide) (Sv_off rfl rfl rfl rfl ?_)
     refine W_cons rfl (by decide) (Sv_off rfl rfl rfl rfl ?_)
     refine W_cons rfl (by decide) (Sv_off rfl rfl rfl rfl ?_)
     refine W_cons rfl (by decide) (Sv_off rfl rfl rfl rfl ?_)
     refine W_cons rfl (by decide) (Sv_off rfl rfl rfl rfl ?_)
     refine W_cons rfl (by decide) (Sv_off rfl rfl rfl rfl ?_)
     refine W_cons rfl (by decide) (Sv_off rfl rfl rfl rfl ?_)
     refine W_cons rfl (by decide) (Sv_off rfl rfl rfl rfl ?_)
     refine W_cons rfl (by decide) (Sv_val rfl (R_pick_f rfl rfl rfl rfl) ?_)
     refine W_cons rfl (by decide) (Sv_val rfl (R_assign rfl rfl) ?_)
     refine W_nil ?_
     refine E_then (C_fr [(4, .bool false)] rfl ?_)
     refine C_ret ?_
     refine E_ret1 rfl rfl ?_
     exact ⟨Lret1 (Lbool (show false = (thereS a0 a1) by first | (unfold thereS hasS; simp_all; done) | (unfold thereS hasS; simp_all; omega) | (unfold thereS hasS; simp_all; intros; omega) | (unfold thereS hasS; rw [Bool.eq_iff_iff]; simp_all; done) | (unfold thereS hasS; rw [Bool.eq_iff_iff]; simp_all; omega))), hS.fin [] (by decide) rfl⟩
   ·have _hg7 := trivial
    have hg7p : ¬ (a1.Rows ≤ (a0.Heights.length : Int)) := by simpa using hg7
    refine W_cons rfl (by decide) (Sv_off rfl rfl rfl (by rw [hg7] <;> rfl) ?_)
    refine W_cons rfl (by decide) (Sv_off rfl rfl rfl (by rw [hg7] <;> rfl) ?_)
    refine W_cons rfl (by decide) (Sv_off rfl rfl rfl (by rw [hg7] <;> rfl) ?_)
    refine W_cons rfl (by decide) (Sv_off rfl rfl rfl (by rw [hg7] <;> rfl) ?_)
    refine W_cons rfl (by decide) (Sv_off rfl rfl rfl (by rw [hg7] <;> rfl) ?_)
    refine W_cons rfl (by decide) (Sv_off rfl rfl rfl (by rw [hg7] <;> rfl) ?_)
    refine W_cons rfl (by decide) (Sv_val rfl (R_pick_f rfl rfl hg7 rfl) ?_)
    refine W_cons rfl (by decide) (Sv_val rfl (R_move rfl rfl) ?_)
    refine W_cons rfl (by decide) (Sv_off rfl rfl rfl rfl ?_)
    refine W_cons rfl (by decide) (Sv_off rfl rfl rfl rfl ?_)
    refine W_cons rfl (by decide) (Sv_off rfl rfl rfl rfl ?_)
    refine W_cons rfl (by decide) (Sv_off rfl rfl rfl rfl ?_)
    refine W_cons rfl (by decide) (Sv_off rfl rfl rfl rfl ?_)
    refine W_cons rfl (by decide) (Sv_off rfl rfl rfl rfl ?_)
    refine W_cons rfl (by decide) (Sv_off rfl rfl rfl rfl ?_)
    refine W_cons rfl (by decide) (Sv_off rfl rfl rfl rfl ?_)
    refine W_cons rfl (by decide) (Sv_off rfl rfl rfl rfl ?_)
    refine W_cons rfl (by decide) (Sv_val rfl (R_pick_f rfl rfl rfl rfl) ?_)
    refine W_cons rfl (by decide) (Sv_val rfl (R_move rfl rfl) ?_)
    refine W_cons rfl (by decide) (Sv_off rfl rfl rfl rfl ?_)
    refine W_cons rfl (by decide) (Sv_off rfl rfl rfl rfl ?_)
    refine W_cons rfl (by decide) (Sv_off rfl rfl rfl rfl ?_)
    refine W_cons rfl (by decide) (Sv_off rfl rfl rfl rfl ?_)
    refine W_cons rfl (by decide) (Sv_off rfl rfl rfl rfl ?_)
    refine W_cons rfl (by decide) (Sv_off rfl rfl rfl rfl ?_)
    refine W_cons rfl (by decide) (Sv_off rfl rfl rfl rfl ?_)
    refine W_cons rfl (by decide) (Sv_off rfl rfl rfl rfl ?_)
    refine W_cons rfl (by decide) (Sv_off rfl rfl rfl rfl ?_)
    refine W_cons rfl (by decide) (Sv_val rfl (R_pick_f rfl rfl rfl rfl) ?_)
    refine W_cons rfl (by decide) (Sv_val rfl (R_assign rfl rfl) ?_)
    refine W_nil ?_
    refine E_then (C_fr [(4, .bool false)] rfl ?_)
    refine C_ret ?_
    refine E_ret1 rfl rfl ?_
    exact ⟨Lret1 (Lbool (show false = (thereS a0 a1) by first | (unfold thereS hasS; simp_all; done) | (unfold thereS hasS; simp_all; omega) | (unfold thereS hasS; simp_all; intros; omega) | (unfold thereS hasS; rw [Bool.eq_iff_iff]; simp_all; done) | (unfold thereS hasS; rw [Bool.eq_iff_iff]; simp_all; omega))), hS.fin [] (by decide) rfl⟩
  ·have _hg6 := trivial
   have hg6p : ¬ (a1.Col ≥ 0) := by simpa using hg6
   refine W_cons rfl (by decide) (Sv_off rfl rfl rfl (by rw [hg6] <;> rfl) ?_)
   refine W_cons rfl (by decide) (Sv_off rfl rfl rfl (by rw [hg6] <;> rfl) ?_)
   refine W_cons rfl (by decide) (Sv_off rfl rfl rfl (by rw [hg6] <;> rfl) ?_)
   refine W_cons rfl (by decide) (Sv_off rfl rfl rfl (by rw [hg6] <;> rfl) ?_)
   refine W_cons rfl (by decide) (Sv_off rfl rfl rfl (by rw [hg6] <;> rfl) ?_)
   refine W_cons rfl (by decide) (Sv_off rfl rfl rfl (by rw [hg6] <;> rfl) ?_)
   refine W_cons rfl (by decide) (Sv_val rfl (R_pick_f rfl rfl hg6 rfl) ?_)
   refine W_cons rfl (by decide) (Sv_val rfl (R_move rfl rfl) ?_)
   refine W_cons rfl (by decide) (Sv_off rfl rfl rfl rfl ?_)
   refine W_cons rfl (by decide) (Sv_off rfl rfl rfl rfl ?_)
   refine W_cons rfl (by decide) (Sv_off rfl rfl rfl rfl ?_)
   refine W_cons rfl (by decide) (Sv_off rfl rfl rfl rfl ?_)
   refine W_cons rfl (by decide) (Sv_off rfl rfl rfl rfl ?_)
   refine W_cons rfl (by decide) (Sv_off rfl rfl rfl rfl ?_)
   refine W_cons rfl (by decide) (Sv_val rfl (R_pick_f rfl rfl rfl rfl) ?_)
   refine W_cons rfl (by decide) (Sv_val rfl (R_move rfl rfl) ?_)
   refine W_cons rfl (by decide) (Sv_off rfl rfl rfl rfl ?_)
   refine W_cons rfl (by decide) (Sv_off rfl rfl rfl rfl ?_)
   refine W_cons rfl (by decide) (Sv_off rfl rfl rfl rfl ?_)
   refine W_cons rfl (by decide) (Sv_off rfl rfl rfl rfl ?_)
   refine W_cons rfl (by decide) (Sv_off rfl rfl rfl rfl ?_)
   refine W_cons rfl (by decide) (Sv_off rfl rfl rfl rfl ?_)
   refine W_cons rfl (by decide) (Sv_off rfl rfl rfl rfl ?_)
   refine W_cons rfl (by decide) (Sv_off rfl rfl rfl rfl ?_)
   refine W_cons rfl (by decide) (Sv_off rfl rfl rfl rfl ?_)
   refine W_cons rfl (by decide) (Sv_val rfl (R_pick_f rfl rfl rfl rfl) ?_)
   refine W_cons rfl (by decide) (Sv_val rfl (R_move rfl rfl) ?_)
   refine W_cons rfl (by decide) (Sv_off rfl rfl rfl rfl ?_)
   refine W_cons rfl (by decide) (Sv_off rfl rfl rfl rfl ?_)
   refine W_cons rfl (by decide) (Sv_off rfl rfl rfl rfl ?_)
   refine W_cons rfl (by decide) (Sv_off rfl rfl rfl rfl ?_)
   refine W_cons rfl (by decide) (Sv_off rfl rfl rfl rfl ?_)
   refine W_cons rfl (by decide) (Sv_off rfl rfl rfl rfl ?_)
   refine W_cons rfl (by decide) (Sv_off rfl rfl rfl rfl ?_)
   refine W_cons rfl (by decide) (Sv_off rfl rfl rfl rfl ?_)
   refine W_cons rfl (by decide) (Sv_off rfl rfl rfl rfl ?_)
   refine W_cons rfl (by decide) (Sv_val rfl (R_pick_f rfl rfl rfl rfl) ?_)
   refine W_cons rfl (by decide) (Sv_val rfl (R_assign rfl rfl) ?_)
   refine W_nil ?_
   refine E_then (C_fr [(4, .bool false)] rfl ?_)
   refine C_ret ?_
   refine E_ret1 rfl rfl ?_
   exact ⟨Lret1 (Lbool (show false = (thereS a0 a1) by first | (unfold thereS hasS; simp_all; done) | (unfold thereS hasS; simp_all; omega) | (unfold thereS hasS; simp_all; intros; omega) | (unfold thereS hasS; rw [Bool.eq_iff_iff]; simp_all; done) | (unfold thereS hasS; rw [Bool.eq_iff_iff]; simp_all; omega))), hS.fin [] (by decide) rfl⟩
 ·have _hg5 := trivial
  have hg5p : ¬ (a1.Row ≥ 0) := by simpa using hg5
  refine W_cons rfl (by decide) (Sv_off rfl rfl rfl (by rw [hg5] <;> rfl) ?_)
  refine W_cons rfl (by decide) (Sv_off rfl rfl rfl (by rw [hg5] <;> rfl) ?_)
  refine W_cons rfl (by decide) (Sv_off rfl rfl rfl (by rw [hg5] <;> rfl) ?_)
  refine W_cons rfl (by decide) (Sv_val rfl (R_pick_f rfl rfl hg5 rfl) ?_)
  refine W_cons rfl (by decide) (Sv_val rfl (R_move rfl rfl) ?_)
  refine W_cons rfl (by decide) (Sv_off rfl rfl rfl rfl ?_)
  refine W_cons rfl (by decide) (Sv_off rfl rfl rfl rfl ?_)
  refine W_cons rfl (by decide) (Sv_off rfl rfl rfl rfl ?_)
  refine W_cons rfl (by decide) (Sv_off rfl rfl rfl rfl ?_)
  refine W_cons rfl (by decide) (Sv_off rfl rfl rfl rfl ?_)
  refine W_cons rfl (by decide) (Sv_off rfl rfl rfl rfl ?_)
  refine W_cons rfl (by decide) (Sv_val rfl (R_pick_f rfl rfl rfl rfl) ?_)
  refine W_cons rfl (by decide) (Sv_val rfl (R_move rfl rfl) ?_)
  refine W_cons rfl (by decide) (Sv_off rfl rfl rfl rfl ?_)
  refine W_cons rfl (by decide) (Sv_off rfl rfl rfl rfl ?_)
  refine W_cons rfl (by decide) (Sv_off rfl rfl rfl rfl ?_)
  refine W_cons rfl (by decide) (Sv_off rfl rfl rfl rfl ?_)
  refine W_cons rfl (by decide) (Sv_off rfl rfl rfl rfl ?_)
  refine W_cons rfl (by decide) (Sv_off rfl rfl rfl rfl ?_)
  refine W_cons rfl (by decide) (Sv_val rfl (R_pick_f rfl rfl rfl rfl) ?_)
  refine W_cons rfl (by decide) (Sv_val rfl (R_move rfl rfl) ?_)
  refine W_cons rfl (by decide) (Sv_off rfl rfl rfl rfl ?_)
  refine W_cons rfl (by decide) (Sv_off rfl rfl rfl rfl ?_)
  refine W_cons rfl (by decide) (Sv_off rfl rfl rfl rfl ?_)
  refine W_cons rfl (by decide) (Sv_off rfl rfl rfl rfl ?_)
  refine W_cons rfl (by decide) (Sv_off rfl rfl rfl rfl ?_)
  refine W_cons rfl (by decide) (Sv_off rfl rfl rfl rfl ?_)
  refine W_cons rfl (by decide) (Sv_off rfl rfl rfl rfl ?_)
  refine W_cons rfl (by decide) (Sv_off rfl rfl rfl rfl ?_)
  refine W_cons rfl (by decide) (Sv_off rfl rfl rfl rfl ?_)
  refine W_cons rfl (by decide) (Sv_val rfl (R_pick_f rfl rfl rfl rfl) ?_)
  refine W_cons rfl (by decide) (Sv_val rfl (R_move rfl rfl) ?_)
  refine W_cons rfl (by decide) (Sv_off rfl rfl rfl rfl ?_)
  refine W_cons rfl (by decide) (Sv_off rfl rfl rfl rfl ?_)
  refine W_cons rfl (by decide) (Sv_off rfl rfl rfl rfl ?_)
  refine W_cons rfl (by decide) (Sv_off rfl rfl rfl rfl ?_)
  refine W_cons rfl (by decide) (Sv_off rfl rfl rfl rfl ?_)
  refine W_cons rfl (by decide) (Sv_off rfl rfl rfl rfl ?_)
  refine W_cons rfl (by decide) (Sv_off rfl rfl rfl rfl ?_)
  refine W_cons rfl (by decide) (Sv_off rfl rfl rfl rfl ?_)
  refine W_cons rfl (by decide) (Sv_off rfl rfl rfl rfl ?_)
  refine W_cons rfl (by decide) (Sv_val rfl (R_pick_f rfl rfl rfl rfl) ?_)
  refine W_cons rfl (by decide) (Sv_val rfl (R_assign rfl rfl) ?_)
  refine W_nil ?_
  refine E_then (C_fr [(4, .bool false)] rfl ?_)
  refine C_ret ?_
  refine E_ret1 rfl rfl ?_
  exact ⟨Lret1 (Lbool (show false = (thereS a0 a1) by first | (unfold thereS hasS; simp_all; done) | (unfold thereS hasS; simp_all; omega) | (unfold thereS hasS; simp_all; intros; omega) | (unfold thereS hasS; rw [Bool.eq_iff_iff]; simp_all; done) | (unfold thereS hasS; rw [Bool.eq_iff_iff]; simp_all; omega))), hS.fin [] (by decide) rfl⟩

set_option maxHeartbeats 400000 in
set_option maxRecDepth 20000 in
theorem rstyled_calls (a0 : TStyle) (z : Z) (w : World) (hI : In z w [])   :
    Calls Try.prog 93 #[.agg #[.int .i64 a0.Align, .int .i64 a0.Wrap, .int .i64 a0.Dir]] w fun e w' => e = .returned (.bool (rstyledS a0)) ∧ Sp (FF []) w z w' [] := by
 have hS := hI.sp
 refine Calls_of (vs := [.agg #[.int .i64 a0.Align, .int .i64 a0.Wrap, .int .i64 a0.Dir]]) (N := 31) Try.func93 rfl rfl (Nat.le_of_ble_eq_true rfl) ?_
 refine C_seq ?_
 refine C_region ?_
 refine W_cons rfl (by decide) (S_box hS rfl (R_box (cs := [.int .i64 a0.Align, .int .i64 a0.Wrap, .int .i64 a0.Dir]) rfl rfl rfl) (fun b2 w1 hS => ?_))
 refine W_cons rfl (by decide) (Sv_val rfl (R_assign rfl rfl) ?_)
 refine W_nil ?_
 refine E_then ?_
 refine C_seq ?_
 refine C_region ?_
 refine W_cons rfl (by decide) (Sv_val rfl (R_fld rfl rfl fld44_0) ?_)
 refine W_cons rfl (by decide) (Sv_val rfl (R_load1 rfl rfl agg3 ((hS.bx 0 rfl).cell rfl)) ?_)
 refine W_cons rfl (by decide) (Sv_val rfl (R_bin rfl rfl rfl rfl rfl) ?_)
 refine W_cons rfl (by decide) (Sv_val rfl (R_move rfl rfl) ?_)
 refine W_split (t := 6) rfl (fun hg3 => ?_) (fun hg3 => ?_)
 ·have _hg3 := trivial
  have hg3p : 0 ≤ a0.Align := by simpa using hg3
  refine W_cons rfl (by decide) (Sv_gt rfl rfl rfl hg3 (Sv_val rfl (R_fld rfl rfl fld44_0) ?_))
  refine W_cons rfl (by decide) (Sv_gt rfl rfl rfl hg3 (Sv_val rfl (R_load1 rfl rfl agg3 ((hS.bx 0 rfl).cell rfl)) ?_))
  refine W_cons rfl (by decide) (Sv_gt rfl rfl rfl hg3 (Sv_val rfl (R_bin rfl rfl rfl rfl rfl) ?_))
  refine W_cons rfl (by decide) (Sv_val rfl (R_pick_t rfl rfl hg3 rfl) ?_)
  refine W_cons rfl (by decide) (Sv_val rfl (R_move rfl rfl) ?_)
  refine W_split (t := 11) rfl (fun hg4 => ?_) (fun hg4 => ?_)
  ·have _hg4 := trivial
   have hg4p : a0.Align < 5 := by simpa using hg4
   refine W_cons rfl (by decide) (Sv_gt rfl rfl rfl hg4 (Sv_val rfl (R_fld rfl rfl fld44_1) ?_))
   refine W_cons rfl (by decide) (Sv_gt rfl rfl rfl hg4 (Sv_val rfl (R_load1 rfl rfl agg3 ((hS.bx 0 rfl).cell rfl)) ?_))
   refine W_cons rfl (by decide) (Sv_gt rfl rfl rfl hg4 (Sv_val rfl (R_bin rfl rfl rfl rfl rfl) ?_))
   refine W_cons rfl (by decide) (Sv_gt rfl rfl rfl hg4 (Sv_val rfl (R_move rfl rfl) ?_))
   refine W_split (t := 15) rfl (fun hg5 => ?_) (fun hg5 => ?_)
   ·have _hg5 := trivial
    have hg5p : a0.Wrap = 0 := by simpa using hg5
    refine W_cons rfl (by decide) (Sv_off rfl rfl rfl (by rw [hg5] <;> rfl) ?_)
    refine W_cons rfl (by decide) (Sv_off rfl rfl rfl (by rw [hg5] <;> rfl) ?_)
    refine W_cons rfl (by decide) (Sv_off rfl rfl rfl (by rw [hg5] <;> rfl) ?_)
    refine W_cons rfl (by decide) (Sv_gt rfl rfl rfl hg4 (Sv_val rfl (R_pick_t rfl rfl hg5 rfl) ?_))
    refine W_cons rfl (by decide) (Sv_val rfl (R_pick_t rfl rfl hg4 rfl) ?_)
    refine W_cons rfl (by decide) (Sv_val rfl (R_move rfl rfl) ?_)
    refine W_cons rfl (by decide) (Sv_gt rfl rfl rfl rfl (Sv_val rfl (R_fld rfl rfl fld44_2) ?_))
    refine W_cons rfl (by decide) (Sv_gt rfl rfl rfl rfl (Sv_val rfl (R_load1 rfl rfl agg3 ((hS.bx 0 rfl).cell rfl)) ?_))
    refine W_cons rfl (by decide) (Sv_gt rfl rfl rfl rfl (Sv_val rfl (R_bin rfl rfl rfl rfl rfl) ?_))
    refine W_cons rfl (by decide) (Sv_val rfl (R_pick_t rfl rfl rfl rfl) ?_)
    refine W_cons rfl (by decide) (Sv_val rfl (R_move rfl rfl) ?_)
    refine W_split (t := 26) rfl (fun hg6 => ?_) (fun hg6 => ?_)
    ·have _hg6 := trivial
     have hg6p : 0 ≤ a0.Dir := by simpa using hg6
     refine W_cons rfl (by decide) (Sv_gt rfl rfl rfl hg6 (Sv_val rfl (R_fld rfl rfl fld44_2) ?_))
     refine W_cons rfl (by decide) (Sv_gt rfl rfl rfl hg6 (Sv_val rfl (R_load1 rfl rfl agg3 ((hS.bx 0 rfl).cell rfl)) ?_))
     refine W_cons rfl (by decide) (Sv_gt rfl rfl rfl hg6 (Sv_val rfl (R_bin rfl rfl rfl rfl rfl) ?_))
     refine W_cons rfl (by decide) (Sv_val rfl (R_pick_t rfl rfl hg6 rfl) ?_)
     refine W_cons rfl (by decide) (Sv_val rfl (R_assign rfl rfl) ?_)
     refine W_nil ?_
     refine E_then (C_fr [(2, .bool (decide (a0.Dir < 4)))] rfl ?_)
     refine C_ret ?_
     refine E_ret1 rfl rfl ?_
     exact ⟨Lret1 (Lbool (show (decide (a0.Dir < 4)) = (rstyledS a0) by first | (unfold rstyledS; simp_all; done) | (unfold rstyledS; simp_all; omega) | (unfold rstyledS; simp_all; intros; omega) | (unfold rstyledS; rw [Bool.eq_iff_iff]; simp_all; done) | (unfold rstyledS; rw [Bool.eq_iff_iff]; simp_all; omega))), hS.fin [] (by decide) rfl⟩
    ·have _hg6 := trivial
     have hg6p : ¬ (0 ≤ a0.Dir) := by simpa using hg6
     refine W_cons rfl (by decide) (Sv_off rfl rfl rfl (by rw [hg6] <;> rfl) ?_)
     refine W_cons rfl (by decide) (Sv_off rfl rfl rfl (by rw [hg6] <;> rfl) ?_)
     refine W_cons rfl (by decide) (Sv_off rfl rfl rfl (by rw [hg6] <;> rfl) ?_)
     refine W_cons rfl (by decide) (Sv_val rfl (R_pick_f rfl rfl hg6 rfl) ?_)
     refine W_cons rfl (by decide) (Sv_val rfl (R_assign rfl rfl) ?_)
     refine W_nil ?_
     refine E_then (C_fr [(2, .bool false)] rfl ?_)
     refine C_ret ?_
     refine E_ret1 rfl rfl ?_
     exact ⟨Lret1 (Lbool (show false = (rstyledS a0) by first | (unfold rstyledS; simp_all; done) | (unfold rstyledS; simp_all; omega) | (unfold rstyledS; simp_all; intros; omega) | (unfold rstyledS; rw [Bool.eq_iff_iff]; simp_all; done) | (unfold rstyledS; rw [Bool.eq_iff_iff]; simp_all; omega))), hS.fin [] (by decide) rfl⟩
   ·have _hg5 := trivial
    have hg5p : ¬ (a0.Wrap = 0) := by simpa using hg5
    refine W_cons rfl (by decide) (Sv_gt rfl rfl rfl hg5 (Sv_val rfl (R_fld rfl rfl fld44_1) ?_))
    refine W_cons rfl (by decide) (Sv_gt rfl rfl rfl hg5 (Sv_val rfl (R_load1 rfl rfl agg3 ((hS.bx 0 rfl).cell rfl)) ?_))
    refine W_cons rfl (by decide) (Sv_gt rfl rfl rfl hg5 (Sv_val rfl (R_bin rfl rfl rfl rfl rfl) ?_))
    refine W_cons rfl (by decide) (Sv_gt rfl rfl rfl hg4 (Sv_val rfl (R_pick_f rfl rfl hg5 rfl) ?_))
    refine W_cons rfl (by decide) (Sv_val rfl (R_pick_t rfl rfl hg4 rfl) ?_)
    refine W_cons rfl (by decide) (Sv_val rfl (R_move rfl rfl) ?_)
    refine W_split (t := 21) rfl (fun hg7 => ?_) (fun hg7 => ?_)
    ·have _hg7 := trivial
     have hg7p : a0.Wrap = 1 := by simpa using hg7
     refine W_cons rfl (by decide) (Sv_gt rfl rfl rfl hg7 (Sv_val rfl (R_fld rfl rfl fld44_2) ?_))
     refine W_cons rfl (by decide) (Sv_gt rfl rfl rfl hg7 (Sv_val rfl (R_load1 rfl rfl agg3 ((hS.bx 0 rfl).cell rfl)) ?_))
     refine W_cons rfl (by decide) (Sv_gt rfl rfl rfl hg7 (Sv_val rfl (R_bin rfl rfl rfl rfl rfl) ?_))
     refine W_cons rfl (by decide) (Sv_val rfl (R_pick_t rfl rfl hg7 rfl) ?_)
     refine W_cons rfl (by decide) (Sv_val rfl (R_move rfl rfl) ?_)
     refine W_split (t := 26) rfl (fun hg8 => ?_) (fun hg8 => ?_)
     ·have _hg8 := trivial
      have hg8p : 0 ≤ a0.Dir := by simpa using hg8
      refine W_cons rfl (by decide) (Sv_gt rfl rfl rfl hg8 (Sv_val rfl (R_fld rfl rfl fld44_2) ?_))
      refine W_cons rfl (by decide) (Sv_gt rfl rfl rfl hg8 (Sv_val rfl (R_load1 rfl rfl agg3 ((hS.bx 0 rfl).cell rfl)) ?_))
      refine W_cons rfl (by decide) (Sv_gt rfl rfl rfl hg8 (Sv_val rfl (R_bin rfl rfl rfl rfl rfl) ?_))
      refine W_cons rfl (by decide) (Sv_val rfl (R_pick_t rfl rfl hg8 rfl) ?_)
      refine W_cons rfl (by decide) (Sv_val rfl (R_assign rfl rfl) ?_)
      refine W_nil ?_
      refine E_then (C_fr [(2, .bool (decide (a0.Dir < 4)))] rfl ?_)
      refine C_ret ?_
      refine E_ret1 rfl rfl ?_
      exact ⟨Lret1 (Lbool (show (decide (a0.Dir < 4)) = (rstyledS a0) by first | (unfold rstyledS; simp_all; done) | (unfold rstyledS; simp_all; omega) | (unfold rstyledS; simp_all; intros; omega) | (unfold rstyledS; rw [Bool.eq_iff_iff]; simp_all; done) | (unfold rstyledS; rw [Bool.eq_iff_iff]; simp_all; omega))), hS.fin [] (by decide) rfl⟩
     ·have _hg8 := trivial
      have hg8p : ¬ (0 ≤ a0.Dir) := by simpa using hg8
      refine W_cons rfl (by decide) (Sv_off rfl rfl rfl (by rw [hg8] <;> rfl) ?_)
      refine W_cons rfl (by decide) (Sv_off rfl rfl rfl (by rw [hg8] <;> rfl) ?_)
      refine W_cons rfl (by decide) (Sv_off rfl rfl rfl (by rw [hg8] <;> rfl) ?_)
      refine W_cons rfl (by decide) (Sv_val rfl (R_pick_f rfl rfl hg8 rfl) ?_)
      refine W_cons rfl (by decide) (Sv_val rfl (R_assign rfl rfl) ?_)
      refine W_nil ?_
      refine E_then (C_fr [(2, .bool false)] rfl ?_)
      refine C_ret ?_
      refine E_ret1 rfl rfl ?_
      exact ⟨Lret1 (Lbool (show false = (rstyledS a0) by first | (unfold rstyledS; simp_all; done) | (unfold rstyledS; simp_all; omega) | (unfold rstyledS; simp_all; intros; omega) | (unfold rstyledS; rw [Bool.eq_iff_iff]; simp_all; done) | (unfold rstyledS; rw [Bool.eq_iff_iff]; simp_all; omega))), hS.fin [] (by decide) rfl⟩
    ·have _hg7 := trivial
     have hg7p : ¬ (a0.Wrap = 1) := by simpa using hg7
     refine W_cons rfl (by decide) (Sv_off rfl rfl rfl (by rw [hg7] <;> rfl) ?_)
     refine W_cons rfl (by decide) (Sv_off rfl rfl rfl (by rw [hg7] <;> rfl) ?_)
     refine W_cons rfl (by decide) (Sv_off rfl rfl rfl (by rw [hg7] <;> rfl) ?_)
     refine W_cons rfl (by decide) (Sv_val rfl (R_pick_f rfl rfl hg7 rfl) ?_)
     refine W_cons rfl (by decide) (Sv_val rfl (R_move rfl rfl) ?_)
     refine W_cons rfl (by decide) (Sv_off rfl rfl rfl rfl ?_)
     refine W_cons rfl (by decide) (Sv_off rfl rfl rfl rfl ?_)
     refine W_cons rfl (by decide) (Sv_off rfl rfl rfl rfl ?_)
     refine W_cons rfl (by decide) (Sv_val rfl (R_pick_f rfl rfl rfl rfl) ?_)
     refine W_cons rfl (by decide) (Sv_val rfl (R_assign rfl rfl) ?_)
     refine W_nil ?_
     refine E_then (C_fr [(2, .bool false)] rfl ?_)
     refine C_ret ?_
     refine E_ret1 rfl rfl ?_
     exact ⟨Lret1 (Lbool (show false = (rstyledS a0) by first | (unfold rstyledS; simp_all; done) | (unfold rstyledS; simp_all; omega) | (unfold rstyledS; simp_all; intros; omega) | (unfold rstyledS; rw [Bool.eq_iff_iff]; simp_all; done) | (unfold rstyledS; rw [Bool.eq_iff_iff]; simp_all; omega))), hS.fin [] (by decide) rfl⟩
  ·have _hg4 := trivial
   have hg4p : ¬ (a0.Align < 5) := by simpa using hg4
   refine W_cons rfl (by decide) (Sv_off rfl rfl rfl (by rw [hg4] <;> rfl) ?_)
   refine W_cons rfl (by decide) (Sv_off rfl rfl rfl (by rw [hg4] <;> rfl) ?_)
   refine W_cons rfl (by decide) (Sv_off rfl rfl rfl (by rw [hg4] <;> rfl) ?_)
   refine W_cons rfl (by decide) (Sv_off rfl rfl rfl (by rw [hg4] <;> rfl) ?_)
   refine W_cons rfl (by decide) (Sv_offu rfl rfl rfl ?_)
   refine W_cons rfl (by decide) (Sv_offu rfl rfl rfl ?_)
   refine W_cons rfl (by decide) (Sv_offu rfl rfl rfl ?_)
   refine W_cons rfl (by decide) (Sv_off rfl rfl rfl (by rw [hg4] <;> rfl) ?_)
   refine W_cons rfl (by decide) (Sv_val rfl (R_pick_f rfl rfl hg4 rfl) ?_)
   refine W_cons rfl (by decide) (Sv_val rfl (R_move rfl rfl) ?_)
   refine W_cons rfl (by decide) (Sv_off rfl rfl rfl rfl ?_)
   refine W_cons rfl (by decide) (Sv_off rfl rfl rfl rfl ?_)
   refine W_cons rfl (by decide) (Sv_off rfl rfl rfl rfl ?_)
   refine W_cons rfl (by decide) (Sv_val rfl (R_pick_f rfl rfl rfl rfl) ?_)
   refine W_cons rfl (by decide) (Sv_val rfl (R_move rfl rfl) ?_)
   refine W_cons rfl (by decide) (Sv_off rfl rfl rfl rfl ?_)
   refine W_cons rfl (by decide) (Sv_off rfl rfl rfl rfl ?_)
   refine W_cons rfl (by decide) (Sv_off rfl rfl rfl rfl ?_)
   refine W_cons rfl (by decide) (Sv_val rfl (R_pick_f rfl rfl rfl rfl) ?_)
   refine W_cons rfl (by decide) (Sv_val rfl (R_assign rfl rfl) ?_)
   refine W_nil ?_
   refine E_then (C_fr [(2, .bool false)] rfl ?_)
   refine C_ret ?_
   refine E_ret1 rfl rfl ?_
   exact ⟨Lret1 (Lbool (show false = (rstyledS a0) by first | (unfold rstyledS; simp_all; done) | (unfold rstyledS; simp_all; omega) | (unfold rstyledS; simp_all; intros; omega) | (unfold rstyledS; rw [Bool.eq_iff_iff]; simp_all; done) | (unfold rstyledS; rw [Bool.eq_iff_iff]; simp_all; omega))), hS.fin [] (by decide) rfl⟩
 ·have _hg3 := trivial
  have hg3p : ¬ (0 ≤ a0.Align) := by simpa using hg3
  refine W_cons rfl (by decide) (Sv_off rfl rfl rfl (by rw [hg3] <;> rfl) ?_)
  refine W_cons rfl (by decide) (Sv_off rfl rfl rfl (by rw [hg3] <;> rfl) ?_)
  refine W_cons rfl (by decide) (Sv_off rfl rfl rfl (by rw [hg3] <;> rfl) ?_)
  refine W_cons rfl (by decide) (Sv_val rfl (R_pick_f rfl rfl hg3 rfl) ?_)
  refine W_cons rfl (by decide) (Sv_val rfl (R_move rfl rfl) ?_)
  refine W_cons rfl (by decide) (Sv_off rfl rfl rfl rfl ?_)
  refine W_cons rfl (by decide) (Sv_off rfl rfl rfl rfl ?_)
  refine W_cons rfl (by decide) (Sv_off rfl rfl rfl rfl ?_)
  refine W_cons rfl (by decide) (Sv_off rfl rfl rfl rfl ?_)
  refine W_cons rfl (by decide) (Sv_offu rfl rfl rfl ?_)
  refine W_cons rfl (by decide) (Sv_offu rfl rfl rfl ?_)
  refine W_cons rfl (by decide) (Sv_offu rfl rfl rfl ?_)
  refine W_cons rfl (by decide) (Sv_off rfl rfl rfl rfl ?_)
  refine W_cons rfl (by decide) (Sv_val rfl (R_pick_f rfl rfl rfl rfl) ?_)
  refine W_cons rfl (by decide) (Sv_val rfl (R_move rfl rfl) ?_)
  refine W_cons rfl (by decide) (Sv_off rfl rfl rfl rfl ?_)
  refine W_cons rfl (by decide) (Sv_off rfl rfl rfl rfl ?_)
  refine W_cons rfl (by decide) (Sv_off rfl rfl rfl rfl ?_)
  refine W_cons rfl (by decide) (Sv_val rfl (R_pick_f rfl rfl rfl rfl) ?_)
  refine W_cons rfl (by decide) (Sv_val rfl (R_move rfl rfl) ?_)
  refine W_cons rfl (by decide) (Sv_off rfl rfl rfl rfl ?_)
  refine W_cons rfl (by decide) (Sv_off rfl rfl rfl rfl ?_)
  refine W_cons rfl (by decide) (Sv_off rfl rfl rfl rfl ?_)
  refine W_cons rfl (by decide) (Sv_val rfl (R_pick_f rfl rfl rfl rfl) ?_)
  refine W_cons rfl (by decide) (Sv_val rfl (R_assign rfl rfl) ?_)
  refine W_nil ?_
  refine E_then (C_fr [(2, .bool false)] rfl ?_)
  refine C_ret ?_
  refine E_ret1 rfl rfl ?_
  exact ⟨Lret1 (Lbool (show false = (rstyledS a0) by first | (unfold rstyledS; simp_all; done) | (unfold rstyledS; simp_all; omega) | (unfold rstyledS; simp_all; intros; omega) | (unfold rstyledS; rw [Bool.eq_iff_iff]; simp_all; done) | (unfold rstyledS; rw [Bool.eq_iff_iff]; simp_all; omega))), hS.fin [] (by decide) rfl⟩

set_option maxHeartbeats 400000 in
set_option maxRecDepth 20000 in
theorem rahead_calls (a0 : Int) (a1 : Int) (a2 : Int) (a3 : Int) (z : Z) (w : World) (hI : In z w [])   :
    Calls Try.prog 92 #[.int .i64 a0, .int .i64 a1, .int .i64 a2, .int .i64 a3] w fun e w' => e = .returned (.bool (raheadS a0 a1 a2 a3)) ∧ Sp (FF []) w z w' [] := by
 have hS := hI.sp
 refine Calls_of (vs := [.int .i64 a0, .int .i64 a1, .int .i64 a2, .int .i64 a3]) (N := 22) Try.func92 rfl rfl (Nat.le_of_ble_eq_true rfl) ?_
 refine C_seq ?_
 refine C_region ?_
 refine W_cons rfl (by decide) (Sv_val rfl (R_assign rfl rfl) ?_)
 refine W_nil ?_
 refine E_then ?_
 refine C_seq ?_
 refine C_region ?_
 refine W_cons rfl (by decide) (Sv_val rfl (R_move rfl rfl) ?_)
 refine W_cons rfl (by decide) (Sv_val rfl (R_move rfl rfl) ?_)
 refine W_cons rfl (by decide) (Sv_val rfl (R_bin rfl rfl rfl rfl rfl) ?_)
 refine W_cons rfl (by decide) (Sv_val rfl (R_move rfl rfl) ?_)
 refine W_split (t := 12) rfl (fun hg1 => ?_) (fun hg1 => ?_)
 ·have _hg1 := trivial
  have hg1p : a0 < a2 := by simpa using hg1
  refine W_cons rfl (by decide) (Sv_off rfl rfl rfl (by rw [hg1] <;> rfl) ?_)
  refine W_cons rfl (by decide) (Sv_off rfl rfl rfl (by rw [hg1] <;> rfl) ?_)
  refine W_cons rfl (by decide) (Sv_off rfl rfl rfl (by rw [hg1] <;> rfl) ?_)
  refine W_cons rfl (by decide) (Sv_off rfl rfl rfl (by rw [hg1] <;> rfl) ?_)
  refine W_cons rfl (by decide) (Sv_offu rfl rfl rfl ?_)
  refine W_cons rfl (by decide) (Sv_offu rfl rfl rfl ?_)
  refine W_cons rfl (by decide) (Sv_offu rfl rfl rfl ?_)
  refine W_cons rfl (by decide) (Sv_off rfl rfl rfl (by rw [hg1] <;> rfl) ?_)
  refine W_cons rfl (by decide) (Sv_val rfl (R_pick_t rfl rfl hg1 rfl) ?_)
  refine W_cons rfl (by decide) (Sv_val rfl (R_assign rfl rfl) ?_)
  refine W_nil ?_
  refine E_then (C_fr [(8, .bool true)] rfl ?_)
  refine C_ret ?_
  refine E_ret1 rfl rfl ?_
  exact ⟨Lret1 (Lbool (show true = (raheadS a0 a1 a2 a3) by first | (unfold raheadS; simp_all; done) | (unfold raheadS; simp_all; omega) | (unfold raheadS; simp_all; intros; omega) | (unfold raheadS; rw [Bool.eq_iff_iff]; simp_all; done) | (unfold raheadS; rw [Bool.eq_iff_iff]; simp_all; omega))), hS.fin [] (by decide) rfl⟩
 ·have _hg1 := trivial
  have hg1p : ¬ (a0 < a2) := by simpa using hg1
  refine W_cons rfl (by decide) (Sv_gt rfl rfl rfl hg1 (Sv_val rfl (R_move rfl rfl) ?_))
  refine W_cons rfl (by decide) (Sv_gt rfl rfl rfl hg1 (Sv_val rfl (R_move rfl rfl) ?_))
  refine W_cons rfl (by decide) (Sv_gt rfl rfl rfl hg1 (Sv_val rfl (R_bin rfl rfl rfl rfl rfl) ?_))
  refine W_cons rfl (by decide) (Sv_gt rfl rfl rfl hg1 (Sv_val rfl (R_move rfl rfl) ?_))
  refine W_split (t := 16) rfl (fun hg2 => ?_) (fun hg2 => ?_)
  ·have _hg2 := trivial
   have hg2p : a0 = a2 := by simpa using hg2
   refine W_cons rfl (by decide) (Sv_gt rfl rfl rfl hg2 (Sv_val rfl (R_move rfl rfl) ?_))
   refine W_cons rfl (by decide) (Sv_gt rfl rfl rfl hg2 (Sv_val rfl (R_move rfl rfl) ?_))
   refine W_cons rfl (by decide) (Sv_gt rfl rfl rfl hg2 (Sv_val rfl (R_bin rfl rfl rfl rfl rfl) ?_))
   refine W_cons rfl (by decide) (Sv_gt rfl rfl rfl hg1 (Sv_val rfl (R_pick_t rfl rfl hg2 rfl) ?_))
   refine W_cons rfl (by decide) (Sv_val rfl (R_pick_f rfl rfl hg1 rfl) ?_)
   refine W_cons rfl (by decide) (Sv_val rfl (R_assign rfl rfl) ?_)
   refine W_nil ?_
   refine E_then (C_fr [(8, .bool (decide (a1 < a3)))] rfl ?_)
   refine C_ret ?_
   refine E_ret1 rfl rfl ?_
   exact ⟨Lret1 (Lbool (show (decide (a1 < a3)) = (raheadS a0 a1 a2 a3) by first | (unfold raheadS; simp_all; done) | (unfold raheadS; simp_all; omega) | (unfold raheadS; simp_all; intros; omega) | (unfold raheadS; rw [Bool.eq_iff_iff]; simp_all; done) | (unfold raheadS; rw [Bool.eq_iff_iff]; simp_all; omega))), hS.fin [] (by decide) rfl⟩
  ·have _hg2 := trivial
   have hg2p : ¬ (a0 = a2) := by simpa using hg2
   refine W_cons rfl (by decide) (Sv_off rfl rfl rfl (by rw [hg2] <;> rfl) ?_)
   refine W_cons rfl (by decide) (Sv_off rfl rfl rfl (by rw [hg2] <;> rfl) ?_)
   refine W_cons rfl (by decide) (Sv_off rfl rfl rfl (by rw [hg2] <;> rfl) ?_)
   refine W_cons rfl (by decide) (Sv_gt rfl rfl rfl hg1 (Sv_val rfl (R_pick_f rfl rfl hg2 rfl) ?_))
   refine W_cons rfl (by decide) (Sv_val rfl (R_pick_f rfl rfl hg1 rfl) ?_)
   refine W_cons rfl (by decide) (Sv_val rfl (R_assign rfl rfl) ?_)
   refine W_nil ?_
   refine E_then (C_fr [(8, .bool false)] rfl ?_)
   refine C_ret ?_
   refine E_ret1 rfl rfl ?_
   exact ⟨Lret1 (Lbool (show false = (raheadS a0 a1 a2 a3) by first | (unfold raheadS; simp_all; done) | (unfold raheadS; simp_all; omega) | (unfold raheadS; simp_all; intros; omega) | (unfold raheadS; rw [Bool.eq_iff_iff]; simp_all; done) | (unfold raheadS; rw [Bool.eq_iff_iff]; simp_all; omega))), hS.fin [] (by decide) rfl⟩

set_option maxHeartbeats 400000 in
set_option maxRecDepth 20000 in
theorem rlimits_calls (a0 : TSheet) (Aa0_Widths : Option Addr) (ca0_Widths : Nat) (Aa0_Heights : Option Addr) (ca0_Heights : Nat) (Aa0_Cells : Option Addr) (ca0_Cells : Nat) (Aa0_Merges : Option Addr) (ca0_Merges : Nat) (z : Z) (w : World) (hI : In z w []) (hra0_Widths : Rd (kint .i64) z Aa0_Widths a0.Widths) (hca0_Widths : Cap Aa0_Widths a0.Widths.length ca0_Widths) (hra0_Heights : Rd (kint .i64) z Aa0_Heights a0.Heights) (hca0_Heights : Cap Aa0_Heights a0.Heights.length ca0_Heights) (hra0_Cells : Rd kdTCell z Aa0_Cells a0.Cells) (hca0_Cells : Cap Aa0_Cells a0.Cells.length ca0_Cells) (hra0_Merges : Rd kdTRect z Aa0_Merges a0.Merges) (hca0_Merges : Cap Aa0_Merges a0.Merges.length ca0_Merges)  :
    Calls Try.prog 81 #[.agg #[.int .i64 a0.Right, .slice Aa0_Widths a0.Widths.length ca0_Widths, .slice Aa0_Heights a0.Heights.length ca0_Heights, .slice Aa0_Cells a0.Cells.length ca0_Cells, .slice Aa0_Merges a0.Merges.length ca0_Merges]] w fun e w' => e = .returned (.bool (rlimitsS a0)) ∧ Sp (FF []) w z w' [] := by
 have hla0_Widths := hca0_Widths.le
 have hma0_Widths := hca0_Widths.mx
 have hla0_Heights := hca0_Heights.le
 have hma0_Heights := hca0_Heights.mx
 have hla0_Cells := hca0_Cells.le
 have hma0_Cells := hca0_Cells.mx
 have hla0_Merges := hca0_Merges.le
 have hma0_Merges := hca0_Merges.mx
 have hS := hI.sp
 refine Calls_of (vs := [.agg #[.int .i64 a0.Right, .slice Aa0_Widths a0.Widths.length ca0_Widths, .slice Aa0_Heights a0.Heights.length ca0_Heights, .slice Aa0_Cells a0.Cells.length ca0_Cells, .slice Aa0_Merges a0.Merges.length ca0_Merges]]) (N := 63) Try.func81 rfl rfl (Nat.le_of_ble_eq_true rfl) ?_
 refine C_seq ?_
 refine C_region ?_
 refine W_cons rfl (by decide) (S_box hS rfl (R_box (cs := [.int .i64 a0.Right, .slice Aa0_Widths a0.Widths.length ca0_Widths, .slice Aa0_Heights a0.Heights.length ca0_Heights, .slice Aa0_Cells a0.Cells.length ca0_Cells, .slice Aa0_Merges a0.Merges.length ca0_Merges]) rfl rfl rfl) (fun b2 w1 hS => ?_))
 refine W_cons rfl (by decide) (Sv_val rfl (R_assign rfl rfl) ?_)
 refine W_nil ?_
 refine E_then ?_
 refine C_seq ?_
 refine C_seq ?_
 refine C_region ?_
 refine W_cons rfl (by decide) (Sv_val rfl (R_fld rfl rfl fld39_2) ?_)
 refine W_cons rfl (by decide) (Sv_val rfl (R_load1 rfl rfl agg35 ((hS.bx 0 rfl).cell rfl)) ?_)
 refine W_cons rfl (by decide) (Sv_val rfl (R_len rfl rfl Try.underlying35) ?_)
 refine W_cons rfl (by decide) (Sv_val rfl (R_bin rfl rfl rfl rfl rfl) ?_)
 refine W_cons rfl (by decide) (Sv_val rfl (R_move rfl rfl) ?_)
 refine W_split (t := 10) rfl (fun hg3 => ?_) (fun hg3 => ?_)
 ·have _hg3 := trivial
  have hg3p : (a0.Heights.length : Int) > 24 := by simpa using hg3
  refine W_cons rfl (by decide) (Sv_off rfl rfl rfl (by rw [hg3] <;> rfl) ?_)
  refine W_cons rfl (by decide) (Sv_off rfl rfl rfl (by rw [hg3] <;> rfl) ?_)
  refine W_cons rfl (by decide) (Sv_off rfl rfl rfl (by rw [hg3] <;> rfl) ?_)
  refine W_cons rfl (by decide) (Sv_off rfl rfl rfl (by rw [hg3] <;> rfl) ?_)
  refine W_cons rfl (by decide) (Sv_val rfl (R_pick_t rfl rfl hg3 rfl) ?_)
  refine W_cons rfl (by decide) (Sv_val rfl (R_move rfl rfl) ?_)
  refine W_cons rfl (by decide) (Sv_off rfl rfl rfl rfl ?_)
  refine W_cons rfl (by decide) (Sv_off rfl rfl rfl rfl ?_)
  refine W_cons rfl (by decide) (Sv_off rfl rfl rfl rfl ?_)
  refine W_cons rfl (by decide) (Sv_off rfl rfl rfl rfl ?_)
  refine W_cons rfl (by decide) (Sv_val rfl (R_pick_t rfl rfl rfl rfl) ?_)
  refine W_nil ?_
  refine E_then (C_fr [(1, .pointer (some ⟨b2, 0, none⟩)), (21, .bool true)] rfl ?_)
  refine C_if rfl rfl ?_
  refine C_seq ?_
  refine C_region ?_
  refine W_cons rfl (by decide) (Sv_val rfl (R_assign rfl rfl) ?_)
  refine W_nil ?_
  refine E_then ?_
  refine C_ret ?_
  refine E_then_ret ?_
  refine E_ret1 rfl rfl ?_
  exact ⟨Lret1 (Lbool (show false = (rlimitsS a0) by first | exact rlim_len (by omega) | exact rlim_c (i := k) (by omega) (by assumption) | exact rlim_w (i := j) (by omega) (by assumption) | exact rlim_h (i := i) (by omega) (by assumption) | exact rlim_ok (i := i) (j := j) (k := k) (by omega) (by omega) hI0_1 (by omega) hI1_1 (by omega) hI2_1)), hS.fin [] (by decide) rfl⟩
 ·have _hg3 := trivial
  have hg3p : ¬ ((a0.Heights.length : Int) > 24) := by simpa using hg3
  refine W_cons rfl (by decide) (Sv_gt rfl rfl rfl hg3 (Sv_val rfl (R_fld rfl rfl fld39_1) ?_))
  refine W_cons rfl (by decide) (Sv_gt rfl rfl rfl hg3 (Sv_val rfl (R_load1 rfl rfl agg35 ((hS.bx 0 rfl).cell rfl)) ?_))
  refine W_cons rfl (by decide) (Sv_gt rfl rfl rfl hg3 (Sv_val rfl (R_len rfl rfl Try.underlying35) ?_))
  refine W_cons rfl (by decide) (Sv_gt rfl rfl rfl hg3 (Sv_val rfl (R_bin rfl rfl rfl rfl rfl) ?_))
  refine W_cons rfl (by decide) (Sv_val rfl (R_pick_f rfl rfl hg3 rfl) ?_)
  refine W_cons rfl (by decide) (Sv_val rfl (R_move rfl rfl) ?_)
  refine W_split (t := 16) rfl (fun hg4 => ?_) (fun hg4 => ?_)
  ·have _hg4 := trivial
   have hg4p : (a0.Widths.length : Int) > 16 := by simpa using hg4
   refine W_cons rfl (by decide) (Sv_off rfl rfl rfl (by rw [hg4] <;> rfl) ?_)
   refine W_cons rfl (by decide) (Sv_off rfl rfl rfl (by rw [hg4] <;> rfl) ?_)
   refine W_cons rfl (by decide) (Sv_off rfl rfl rfl (by rw [hg4] <;> rfl) ?_)
   refine W_cons rfl (by decide) (Sv_off rfl rfl rfl (by rw [hg4] <;> rfl) ?_)
   refine W_cons rfl (by decide) (Sv_val rfl (R_pick_t rfl rfl hg4 rfl) ?_)
   refine W_nil ?_
   refine E_then (C_fr [(1, .pointer (some ⟨b2, 0, none⟩)), (21, .bool true)] rfl ?_)
   refine C_if rfl rfl ?_
   refine C_seq ?_
   refine C_region ?_
   refine W_cons rfl (by decide) (Sv_val rfl (R_assign rfl rfl) ?_)
   refine W_nil ?_
   refine E_then ?_
   refine C_ret ?_
   refine E_then_ret ?_
   refine E_ret1 rfl rfl ?_
   exact ⟨Lret1 (Lbool (show false = (rlimitsS a0) by first | exact rlim_len (by omega) | exact rlim_c (i := k) (by omega) (by assumption) | exact rlim_w (i := j) (by omega) (by assumption) | exact rlim_h (i := i) (by omega) (by assumption) | exact rlim_ok (i := i) (j := j) (k := k) (by omega) (by omega) hI0_1 (by omega) hI1_1 (by omega) hI2_1)), hS.fin [] (by decide) rfl⟩
  ·have _hg4 := trivial
   have hg4p : ¬ ((a0.Widths.length : Int) > 16) := by simpa using hg4
   refine W_cons rfl (by decide) (Sv_gt rfl rfl rfl hg4 (Sv_val rfl (R_fld rfl rfl fld39_4) ?_))
   refine W_cons rfl (by decide) (Sv_gt rfl rfl rfl hg4 (Sv_val rfl (R_load1 rfl rfl agg37 ((hS.bx 0 rfl).cell rfl)) ?_))
   refine W_cons rfl (by decide) (Sv_gt rfl rfl rfl hg4 (Sv_val rfl (R_len rfl rfl Try.underlying37) ?_))
   refine W_cons rfl (by decide) (Sv_gt rfl rfl rfl hg4 (Sv_val rfl (R_bin rfl rfl rfl rfl rfl) ?_))
   refine W_cons rfl (by decide) (Sv_val rfl (R_pick_f rfl rfl hg4 rfl) ?_)
   refine W_nil ?_
   refine E_then (C_fr [(1, .pointer (some ⟨b2, 0, none⟩)), (21, .bool (decide ((a0.Merges.length : Int) > 12)))] rfl ?_)
   refine C_ite rfl (fun hC0 => ?_) (fun hC0 => ?_)
   ·have _hC0 := trivial
    have hC0p : (a0.Merges.length : Int) > 12 := by simpa using hC0
    refine C_seq ?_
    refine C_region ?_
    refine W_cons rfl (by decide) (Sv_val rfl (R_assign rfl rfl) ?_)
    refine W_nil ?_
    refine E_then ?_
    refine C_ret ?_
    refine E_then_ret ?_
    refine E_ret1 rfl rfl ?_
    exact ⟨Lret1 (Lbool (show false = (rlimitsS a0) by first | exact rlim_len (by omega) | exact rlim_c (i := k) (by omega) (by assumption) | exact rlim_w (i := j) (by omega) (by assumption) | exact rlim_h (i := i) (by omega) (by assumption) | exact rlim_ok (i := i) (j := j) (k := k) (by omega) (by omega) hI0_1 (by omega) hI1_1 (by omega) hI2_1)), hS.fin [] (by decide) rfl⟩
   ·have _hC0 := trivial
    have hC0p : ¬ ((a0.Merges.length : Int) > 12) := by simpa using hC0
    refine C_skip ?_
    refine E_then ?_
    refine C_seq ?_
    refine C_seq ?_
    refine C_region ?_
    refine W_cons rfl (by decide) (Sv_val rfl (R_assign rfl rfl) ?_)
    refine W_nil ?_
    refine E_then ?_
    refine C_block ?_
    refine C_fr [(1, .pointer (some ⟨b2, 0, none⟩)), (3, .int .i64 0)] rfl ?_
    refine C_loop (fun m_ f_ w_ => ∃ (i : Nat), f_ = [(1, .pointer (some ⟨b2, 0, none⟩)), (3, .int .i64 (i : Int))] ∧ i ≤ a0.Heights.length ∧ (a0.Heights.take i).any (fun n => decide (n > 12)) = false ∧ m_ = a0.Heights.length - i ∧ Sp (FF []) w z w_ [bR b2 39 [.int .i64 a0.Right, .slice Aa0_Widths a0.Widths.length ca0_Widths, .slice Aa0_Heights a0.Heights.length ca0_Heights, .slice Aa0_Cells a0.Cells.length ca0_Cells, .slice Aa0_Merges a0.Merges.length ca0_Merges]]) (a0.Heights.length - (0 : Nat)) ⟨(0 : Nat), rfl, (by omega), (by rfl), rfl, hS.fin [0] (by decide) rfl⟩ ?_
    rintro m_ f_ w5 ⟨i, rfl, hI0_0, hI0_1, rfl, hS⟩
    refine C_seq ?_
    refine C_seq ?_
    refine C_region ?_
    refine W_cons rfl (by decide) (Sv_val rfl (R_move rfl rfl) ?_)
    refine W_cons rfl (by decide) (Sv_val rfl (R_fld rfl rfl fld39_2) ?_)
    refine W_cons rfl (by decide) (Sv_val rfl (R_load1 rfl rfl agg35 ((hS.bx 0 rfl).cell rfl)) ?_)
    refine W_cons rfl (by decide) (Sv_val rfl (R_len rfl rfl Try.underlying35) ?_)
    refine W_cons rfl (by decide) (Sv_val rfl (R_bin rfl rfl rfl rfl rfl) ?_)
    refine W_nil ?_
    refine E_then ?_
    refine C_ite rfl (fun hC1 => ?_) (fun hC1 => ?_)
    ·have _hC1 := trivial
     have hC1p : (i : Int) < (a0.Heights.length : Int) := by simpa using hC1
     refine C_skip ?_
     refine E_then (C_fr [(1, .pointer (some ⟨b2, 0, none⟩)), (3, .int .i64 (i : Int))] rfl ?_)
     refine C_seq ?_
     refine C_block ?_
     refine C_seq ?_
     refine C_region ?_
     refine W_cons rfl (by decide) (Sv_val rfl (R_fld rfl rfl fld39_2) ?_)
     refine W_cons rfl (by decide) (Sv_val rfl (R_load1 rfl rfl agg35 ((hS.bx 0 rfl).cell rfl)) ?_)
     refine W_cons rfl (by decide) (Sv_val rfl (R_move rfl rfl) ?_)
     obtain ⟨q6, csq6, hAq6, rfl, hkq6⟩ := hra0_Heights.at_ (0 : Int) (i := (i : Int)) (by omega) (by omega)
     have hkq6 : ∀ (j_ : Nat) (u_ : Value), ([.int .i64 (a0.Heights.getD i (0 : Int))] : List Value)[j_]? = some u_ → cz z (q6.add (i * 1 + j_)) = some u_ := hkq6
     refine W_cons rfl (by decide) (Sv_val rfl (R_idx rfl rfl hAq6 rfl Try.underlying35 size3 (by omega) (by omega)) ?_)
     refine W_cons rfl (by decide) (Sv_val rfl (R_load1 rfl rfl agg3 (hS.sub.cell (hkq6 0 _ rfl))) ?_)
     refine W_cons rfl (by decide) (Sv_val rfl (R_bin rfl rfl rfl rfl rfl) ?_)
     refine W_nil ?_
     refine E_then (C_fr [(1, .pointer (some ⟨b2, 0, none⟩)), (3, .int .i64 (i : Int)), (34, .bool (decide ((a0.Heights.getD i (0 : Int)) > 12)))] rfl ?_)
     refine C_ite rfl (fun hC2 => ?_) (fun hC2 => ?_)
     ·have _hC2 := trivial
      have hC2p : (a0.Heights.getD i (0 : Int)) > 12 := by simpa using hC2
      refine C_seq ?_
      refine C_region ?_
      refine W_cons rfl (by decide) (Sv_val rfl (R_assign rfl rfl) ?_)
      refine W_nil ?_
      refine E_then ?_
      refine C_ret ?_
      refine E_block_ret ?_
      refine E_then_ret ?_
      refine E_then_ret ?_
      refine E_block_ret ?_
      refine E_then_ret ?_
      refine E_ret1 rfl rfl ?_
      exact ⟨Lret1 (Lbool (show false = (rlimitsS a0) by first | exact rlim_len (by omega) | exact rlim_c (i := k) (by omega) (by assumption) | exact rlim_w (i := j) (by omega) (by assumption) | exact rlim_h (i := i) (by omega) (by assumption) | exact rlim_ok (i := i) (j := j) (k := k) (by omega) (by omega) hI0_1 (by omega) hI1_1 (by omega) hI2_1)), hS.fin [] (by decide) rfl⟩
     ·have _hC2 := trivial
      have hC2p : ¬ ((a0.Heights.getD i (0 : Int)) > 12) := by simpa using hC2
      refine C_skip ?_
      refine E_block_normal ?_
      refine E_then ?_
      refine C_region ?_
      refine W_cons rfl (by decide) (Sv_val rfl (R_move rfl rfl) ?_)
      refine W_cons rfl (by decide) (Sv_val rfl (R_add64 rfl rfl rfl (by omega) (by omega)) ?_)
      refine W_cons rfl (by decide) (Sv_val rfl (R_assign rfl rfl) ?_)
      refine W_nil ?_
      refine E_round [1, 3] ?_ ⟨(i + 1 : Nat), rfl, (by omega), (by exact any_step (p := (fun n => decide (n > 12))) 0 (by omega) hI0_1 (by simp_all)), rfl, hS.fin [0] (by decide) rfl⟩
      omega
    ·have _hC1 := trivial
     have hC1p : ¬ ((i : Int) < (a0.Heights.length : Int)) := by simpa using hC1
     refine C_exit ?_
     refine E_then_exit ?_
     refine E_then_exit ?_
     refine E_block_hit ?_
     refine E_then (C_fr [(1, .pointer (some ⟨b2, 0, none⟩))] rfl ?_)
     refine C_seq ?_
     refine C_seq ?_
     refine C_region ?_
     refine W_cons rfl (by decide) (Sv_val rfl (R_assign rfl rfl) ?_)
     refine W_nil ?_
     refine E_then ?_
     refine C_block ?_
     refine C_fr [(1, .pointer (some ⟨b2, 0, none⟩)), (4, .int .i64 0)] rfl ?_
     refine C_loop (fun m_ f_ w_ => ∃ (j : Nat), f_ = [(1, .pointer (some ⟨b2, 0, none⟩)), (4, .int .i64 (j : Int))] ∧ j ≤ a0.Widths.length ∧ (a0.Widths.take j).any (fun n => decide (n > 60)) = false ∧ m_ = a0.Widths.length - j ∧ Sp (FF []) w z w_ [bR b2 39 [.int .i64 a0.Right, .slice Aa0_Widths a0.Widths.length ca0_Widths, .slice Aa0_Heights a0.Heights.length ca0_Heights, .slice Aa0_Cells a0.Cells.length ca0_Cells, .slice Aa0_Merges a0.Merges.length ca0_Merges]]) (a0.Widths.length - (0 : Nat)) ⟨(0 : Nat), rfl, (by omega), (by rfl), rfl, hS.fin [0] (by decide) rfl⟩ ?_
     rintro m_ f_ w7 ⟨j, rfl, hI1_0, hI1_1, rfl, hS⟩
     refine C_seq ?_
     refine C_seq ?_
     refine C_region ?_
     refine W_cons rfl (by decide) (Sv_val rfl (R_move rfl rfl) ?_)
     refine W_cons rfl (by decide) (Sv_val rfl (R_fld rfl rfl fld39_1) ?_)
     refine W_cons rfl (by decide) (Sv_val rfl (R_load1 rfl rfl agg35 ((hS.bx 0 rfl).cell rfl)) ?_)
     refine W_cons rfl (by decide) (Sv_val rfl (R_len rfl rfl Try.underlying35) ?_)
     refine W_cons rfl (by decide) (Sv_val rfl (R_bin rfl rfl rfl rfl rfl) ?_)
     refine W_nil ?_
     refine E_then ?_
     refine C_ite rfl (fun hC3 => ?_) (fun hC3 => ?_)
     ·have _hC3 := trivial
      have hC3p : (j : Int) < (a0.Widths.length : Int) := by simpa using hC3
      refine C_skip ?_
      refine E_then (C_fr [(1, .pointer (some ⟨b2, 0, none⟩)), (4, .int .i64 (j : Int))] rfl ?_)
      refine C_seq ?_
      refine C_block ?_
      refine C_seq ?_
      refine C_region ?_
      refine W_cons rfl (by decide) (Sv_val rfl (R_fld rfl rfl fld39_1) ?_)
      refine W_cons rfl (by decide) (Sv_val rfl (R_load1 rfl rfl agg35 ((hS.bx 0 rfl).cell rfl)) ?_)
      refine W_cons rfl (by decide) (Sv_val rfl (R_move rfl rfl) ?_)
      obtain ⟨q8, csq8, hAq8, rfl, hkq8⟩ := hra0_Widths.at_ (0 : Int) (i := (j : Int)) (by omega) (by omega)
      have hkq8 : ∀ (j_ : Nat) (u_ : Value), ([.int .i64 (a0.Widths.getD j (0 : Int))] : List Value)[j_]? = some u_ → cz z (q8.add (j * 1 + j_)) = some u_ := hkq8
      refine W_cons rfl (by decide) (Sv_val rfl (R_idx rfl rfl hAq8 rfl Try.underlying35 size3 (by omega) (by omega)) ?_)
      refine W_cons rfl (by decide) (Sv_val rfl (R_load1 rfl rfl agg3 (hS.sub.cell (hkq8 0 _ rfl))) ?_)
      refine W_cons rfl (by decide) (Sv_val rfl (R_bin rfl rfl rfl rfl rfl) ?_)
      refine W_nil ?_
      refine E_then (C_fr [(1, .pointer (some ⟨b2, 0, none⟩)), (4, .int .i64 (j : Int)), (47, .bool (decide ((a0.Widths.getD j (0 : Int)) > 60)))] rfl ?_)
      refine C_ite rfl (fun hC4 => ?_) (fun hC4 => ?_)
      ·have _hC4 := trivial
       have hC4p : (a0.Widths.getD j (0 : Int)) > 60 := by simpa using hC4
       refine C_seq ?_
       refine C_region ?_
       refine W_cons rfl (by decide) (Sv_val rfl (R_assign rfl rfl) ?_)
       refine W_nil ?_
       refine E_then ?_
       refine C_ret ?_
       refine E_block_ret ?_
       refine E_then_ret ?_
       refine E_then_ret ?_
       refine E_block_ret ?_
       refine E_then_ret ?_
       refine E_ret1 rfl rfl ?_
       exact ⟨Lret1 (Lbool (show false = (rlimitsS a0) by first | exact rlim_len (by omega) | exact rlim_c (i := k) (by omega) (by assumption) | exact rlim_w (i := j) (by omega) (by assumption) | exact rlim_h (i := i) (by omega) (by assumption) | exact rlim_ok (i := i) (j := j) (k := k) (by omega) (by omega) hI0_1 (by omega) hI1_1 (by omega) hI2_1)), hS.fin [] (by decide) rfl⟩
      ·have _hC4 := trivial
       have hC4p : ¬ ((a0.Widths.getD j (0 : Int)) > 60) := by simpa using hC4
       refine C_skip ?_
       refine E_block_normal ?_
       refine E_then ?_
       refine C_region ?_
       refine W_cons rfl (by decide) (Sv_val rfl (R_move rfl rfl) ?_)
       refine W_cons rfl (by decide) (Sv_val rfl (R_add64 rfl rfl rfl (by omega) (by omega)) ?_)
       refine W_cons rfl (by decide) (Sv_val rfl (R_assign rfl rfl) ?_)
       refine W_nil ?_
       refine E_round [1, 4] ?_ ⟨(j + 1 : Nat), rfl, (by omega), (by exact any_step (p := (fun n => decide (n > 60))) 0 (by omega) hI1_1 (by simp_all)), rfl, hS.fin [0] (by decide) rfl⟩
       omega
     ·have _hC3 := trivial
      have hC3p : ¬ ((j : Int) < (a0.Widths.length : Int)) := by simpa using hC3
      refine C_exit ?_
      refine E_then_exit ?_
      refine E_then_exit ?_
      refine E_block_hit ?_
      refine E_then (C_fr [(1, .pointer (some ⟨b2, 0, none⟩))] rfl ?_)
      refine C_seq ?_
      refine C_seq ?_
      refine C_region ?_
      refine W_cons rfl (by decide) (Sv_val rfl (R_assign rfl rfl) ?_)
      refine W_nil ?_
      refine E_then ?_
      refine C_block ?_
      refine C_fr [(1, .pointer (some ⟨b2, 0, none⟩)), (5, .int .i64 0)] rfl ?_
      refine C_loop (fun m_ f_ w_ => ∃ (k : Nat), f_ = [(1, .pointer (some ⟨b2, 0, none⟩)), (5, .int .i64 (k : Int))] ∧ k ≤ a0.Cells.length ∧ (a0.Cells.take k).any (fun c : TCell => decide ((c.Text.length : Int) > 1024)) = false ∧ m_ = a0.Cells.length - k ∧ Sp (FF []) w z w_ [bR b2 39 [.int .i64 a0.Right, .slice Aa0_Widths a0.Widths.length ca0_Widths, .slice Aa0_Heights a0.Heights.length ca0_Heights, .slice Aa0_Cells a0.Cells.length ca0_Cells, .slice Aa0_Merges a0.Merges.length ca0_Merges]]) (a0.Cells.length - (0 : Nat)) ⟨(0 : Nat), rfl, (by omega), (by rfl), rfl, hS.fin [0] (by decide) rfl⟩ ?_
      rintro m_ f_ w9 ⟨k, rfl, hI2_0, hI2_1, rfl, hS⟩
      refine C_seq ?_
      refine C_seq ?_
      refine C_region ?_
      refine W_cons rfl (by decide) (Sv_val rfl (R_move rfl rfl) ?_)
      refine W_cons rfl (by decide) (Sv_val rfl (R_fld rfl rfl fld39_3) ?_)
      refine W_cons rfl (by decide) (Sv_val rfl (R_load1 rfl rfl agg36 ((hS.bx 0 rfl).cell rfl)) ?_)
      refine W_cons rfl (by decide) (Sv_val rfl (R_len rfl rfl Try.underlying36) ?_)
      refine W_cons rfl (by decide) (Sv_val rfl (R_bin rfl rfl rfl rfl rfl) ?_)
      refine W_nil ?_
      refine E_then ?_
      refine C_ite rfl (fun hC5 => ?_) (fun hC5 => ?_)
      ·have _hC5 := trivial
       have hC5p : (k : Int) < (a0.Cells.length : Int) := by simpa using hC5
       refine C_skip ?_
       refine E_then (C_fr [(1, .pointer (some ⟨b2, 0, none⟩)), (5, .int .i64 (k : Int))] rfl ?_)
       refine C_seq ?_
       refine C_block ?_
       refine C_seq ?_
       refine C_region ?_
       refine W_cons rfl (by decide) (Sv_val rfl (R_fld rfl rfl fld39_3) ?_)
       refine W_cons rfl (by decide) (Sv_val rfl (R_load1 rfl rfl agg36 ((hS.bx 0 rfl).cell rfl)) ?_)
       refine W_cons rfl (by decide) (Sv_val rfl (R_move rfl rfl) ?_)
       obtain ⟨q10, csq10, hAq10, rfl, hkq10⟩ := hra0_Cells.at_ (default : TCell) (i := (k : Int)) (by omega) (by omega)
       have hkq10 : ∀ (j_ : Nat) (u_ : Value), ([.int .i64 (a0.Cells.getD k (default : TCell)).Row, .int .i64 (a0.Cells.getD k (default : TCell)).Col, vstr (a0.Cells.getD k (default : TCell)).Text, .int .i64 (a0.Cells.getD k (default : TCell)).Style.Align, .int .i64 (a0.Cells.getD k (default : TCell)).Style.Wrap, .int .i64 (a0.Cells.getD k (default : TCell)).Style.Dir] : List Value)[j_]? = some u_ → cz z (q10.add (k * 6 + j_)) = some u_ := hkq10
       refine W_cons rfl (by decide) (Sv_val rfl (R_idx rfl rfl hAq10 rfl Try.underlying36 size46 (by omega) (by omega)) ?_)
       refine W_cons rfl (by decide) (Sv_val rfl (R_fld rfl rfl fld46_2) ?_)
       refine W_cons rfl (by decide) (Sv_val rfl (R_load1 rfl rfl agg9 (cell_add (hS.sub.cell (hkq10 2 _ rfl)))) ?_)
       refine W_cons rfl (by decide) (Sv_val rfl (R_strlen rfl rfl Try.underlying9) ?_)
       refine W_cons rfl (by decide) (Sv_val rfl (R_bin rfl rfl rfl rfl rfl) ?_)
       refine W_nil ?_
       refine E_then (C_fr [(1, .pointer (some ⟨b2, 0, none⟩)), (5, .int .i64 (k : Int)), (62, .bool (decide (((a0.Cells.getD k (default : TCell)).Text.length : Int) > 1024)))] rfl ?_)
       refine C_ite rfl (fun hC6 => ?_) (fun hC6 => ?_)
       ·have _hC6 := trivial
        have hC6p : ((a0.Cells.getD k (default : TCell)).Text.length : Int) > 1024 := by simpa using hC6
        refine C_seq ?_
        refine C_region ?_
        refine W_cons rfl (by decide) (Sv_val rfl (R_assign rfl rfl) ?_)
        refine W_nil ?_
        refine E_then ?_
        refine C_ret ?_
        refine E_block_ret ?_
        refine E_then_ret ?_
        refine E_then_ret ?_
        refine E_block_ret ?_
        refine E_then_ret ?_
        refine E_ret1 rfl rfl ?_
        exact ⟨Lret1 (Lbool (show false = (rlimitsS a0) by first | exact rlim_len (by omega) | exact rlim_c (i := k) (by omega) (by assumption) | exact rlim_w (i := j) (by omega) (by assumption) | exact rlim_h (i := i) (by omega) (by assumption) | exact rlim_ok (i := i) (j := j) (k := k) (by omega) (by omega) hI0_1 (by omega) hI1_1 (by omega) hI2_1)), hS.fin [] (by decide) rfl⟩
       ·have _hC6 := trivial
        have hC6p : ¬ (((a0.Cells.getD k (default : TCell)).Text.length : Int) > 1024) := by simpa using hC6
        refine C_skip ?_
        refine E_block_normal ?_
        refine E_then ?_
        refine C_region ?_
        refine W_cons rfl (by decide) (Sv_val rfl (R_move rfl rfl) ?_)
        refine W_cons rfl (by decide) (Sv_val rfl (R_add64 rfl rfl rfl (by omega) (by omega)) ?_)
        refine W_cons rfl (by decide) (Sv_val rfl (R_assign rfl rfl) ?_)
        refine W_nil ?_
        refine E_round [1, 5] ?_ ⟨(k + 1 : Nat), rfl, (by omega), (by exact any_step (p := (fun c : TCell => decide ((c.Text.length : Int) > 1024))) default (by omega) hI2_1 (by simp_all)), rfl, hS.fin [0] (by decide) rfl⟩
        omega
      ·have _hC5 := trivial
       have hC5p : ¬ ((k : Int) < (a0.Cells.length : Int)) := by simpa using hC5
       refine C_exit ?_
       refine E_then_exit ?_
       refine E_then_exit ?_
       refine E_block_hit ?_
       refine E_then (C_fr [] rfl ?_)
       refine C_seq ?_
       refine C_region ?_
       refine W_cons rfl (by decide) (Sv_val rfl (R_assign rfl rfl) ?_)
       refine W_nil ?_
       refine E_then ?_
       refine C_ret ?_
       refine E_ret1 rfl rfl ?_
       exact ⟨Lret1 (Lbool (show true = (rlimitsS a0) by first | exact rlim_len (by omega) | exact rlim_c (i := k) (by omega) (by assumption) | exact rlim_w (i := j) (by omega) (by assumption) | exact rlim_h (i := i) (by omega) (by assumption) | exact rlim_ok (i := i) (j := j) (k := k) (by omega) (by omega) hI0_1 (by omega) hI1_1 (by omega) hI2_1)), hS.fin [] (by decide) rfl⟩

set_option maxHeartbeats 400000 in
set_option maxRecDepth 20000 in
theorem raround_calls (a0 : TSheet) (Aa0_Widths : Option Addr) (ca0_Widths : Nat) (Aa0_Heights : Option Addr) (ca0_Heights : Nat) (Aa0_Cells : Option Addr) (ca0_Cells : Nat) (Aa0_Merges : Option Addr) (ca0_Merges : Nat) (a1 : Int) (a2 : Int) (z : Z) (w : World) (hI : In z w []) (hra0_Widths : Rd (kint .i64) z Aa0_Widths a0.Widths) (hca0_Widths : Cap Aa0_Widths a0.Widths.length ca0_Widths) (hra0_Heights : Rd (kint .i64) z Aa0_Heights a0.Heights) (hca0_Heights : Cap Aa0_Heights a0.Heights.length ca0_Heights) (hra0_Cells : Rd kdTCell z Aa0_Cells a0.Cells) (hca0_Cells : Cap Aa0_Cells a0.Cells.length ca0_Cells) (hra0_Merges : Rd kdTRect z Aa0_Merges a0.Merges) (hca0_Merges : Cap Aa0_Merges a0.Merges.length ca0_Merges)  :
    Calls Try.prog 55 #[.agg #[.int .i64 a0.Right, .slice Aa0_Widths a0.Widths.length ca0_Widths, .slice Aa0_Heights a0.Heights.length ca0_Heights, .slice Aa0_Cells a0.Cells.length ca0_Cells, .slice Aa0_Merges a0.Merges.length ca0_Merges], .int .i64 a1, .int .i64 a2] w fun e w' => e = .returned (.agg #[.int .i64 (raroundS a0 a1 a2).Row, .int .i64 (raroundS a0 a1 a2).Col, .int .i64 (raroundS a0 a1 a2).Rows, .int .i64 (raroundS a0 a1 a2).Cols]) ∧ Sp (FF []) w z w' [] := by
 have hla0_Widths := hca0_Widths.le
 have hma0_Widths := hca0_Widths.mx
 have hla0_Heights := hca0_Heights.le
 have hma0_Heights := hca0_Heights.mx
 have hla0_Cells := hca0_Cells.le
 have hma0_Cells := hca0_Cells.mx
 have hla0_Merges := hca0_Merges.le
 have hma0_Merges := hca0_Merges.mx
 have hS := hI.sp
 refine Calls_of (vs := [.agg #[.int .i64 a0.Right, .slice Aa0_Widths a0.Widths.length ca0_Widths, .slice Aa0_Heights a0.Heights.length ca0_Heights, .slice Aa0_Cells a0.Cells.length ca0_Cells, .slice Aa0_Merges a0.Merges.length ca0_Merges], .int .i64 a1, .int .i64 a2]) (N := 31) Try.func55 rfl rfl (Nat.le_of_ble_eq_true rfl) ?_
 refine C_seq ?_
 refine C_region ?_
 refine W_cons rfl (by decide) (S_box hS rfl (R_box (cs := [.int .i64 a0.Right, .slice Aa0_Widths a0.Widths.length ca0_Widths, .slice Aa0_Heights a0.Heights.length ca0_Heights, .slice Aa0_Cells a0.Cells.length ca0_Cells, .slice Aa0_Merges a0.Merges.length ca0_Merges]) rfl rfl rfl) (fun b2 w1 hS => ?_))
 refine W_cons rfl (by decide) (S_box hS rfl (R_alloc rfl alloc33) (fun b4 w3 hS => ?_))
 refine W_nil ?_
 refine E_then ?_
 refine C_seq ?_
 refine C_seq ?_
 refine C_region ?_
 refine W_cons rfl (by decide) (Sv_val rfl (R_assign rfl rfl) ?_)
 refine W_nil ?_
 refine E_then ?_
 refine C_block ?_
 refine C_fr [(1, .int .i64 a1), (2, .int .i64 a2), (3, .pointer (some ⟨b2, 0, none⟩)), (6, .pointer (some ⟨b4, 0, none⟩)), (7, .int .i64 0)] rfl ?_
 refine C_loop (fun m_ f_ w_ => ∃ (i : Nat), f_ = [(1, .int .i64 a1), (2, .int .i64 a2), (3, .pointer (some ⟨b2, 0, none⟩)), (6, .pointer (some ⟨b4, 0, none⟩)), (7, .int .i64 (i : Int))] ∧ i ≤ a0.Merges.length ∧ a0.Merges.find? (fun r => coversS r a1 a2) = (a0.Merges.drop i).find? (fun r => coversS r a1 a2) ∧ m_ = a0.Merges.length - i ∧ Sp (FF []) w z w_ [bR b2 39 [.int .i64 a0.Right, .slice Aa0_Widths a0.Widths.length ca0_Widths, .slice Aa0_Heights a0.Heights.length ca0_Heights, .slice Aa0_Cells a0.Cells.length ca0_Cells, .slice Aa0_Merges a0.Merges.length ca0_Merges], bR b4 33 [.int .i64 0, .int .i64 0, .int .i64 0, .int .i64 0]]) (a0.Merges.length - (0 : Nat)) ⟨(0 : Nat), rfl, (by omega), (by rfl), rfl, hS.fin [1, 0] (by decide) rfl⟩ ?_
 rintro m_ f_ w5 ⟨i, rfl, hI0_0, hI0_1, rfl, hS⟩
 refine C_seq ?_
 refine C_seq ?_
 refine C_region ?_
 refine W_cons rfl (by decide) (Sv_val rfl (R_move rfl rfl) ?_)
 refine W_cons rfl (by decide) (Sv_val rfl (R_fld rfl rfl fld39_4) ?_)
 refine W_cons rfl (by decide) (Sv_val rfl (R_load1 rfl rfl agg37 ((hS.bx 0 rfl).cell rfl)) ?_)
 refine W_cons rfl (by decide) (Sv_val rfl (R_len rfl rfl Try.underlying37) ?_)
 refine W_cons rfl (by decide) (Sv_val rfl (R_bin rfl rfl rfl rfl rfl) ?_)
 refine W_nil ?_
 refine E_then ?_
 refine C_ite rfl (fun hC0 => ?_) (fun hC0 => ?_)
 ·have _hC0 := trivial
  have hC0p : (i : Int) < (a0.Merges.length : Int) := by simpa using hC0
  refine C_skip ?_
  refine E_then (C_fr [(1, .int .i64 a1), (2, .int .i64 a2), (3, .pointer (some ⟨b2, 0, none⟩)), (6, .pointer (some ⟨b4, 0, none⟩)), (7, .int .i64 (i : Int))] rfl ?_)
  refine C_seq ?_
  refine C_block ?_
  refine C_seq ?_
  refine C_region ?_
  refine W_cons rfl (by decide) (Sv_val rfl (R_fld rfl rfl fld39_4) ?_)
  refine W_cons rfl (by decide) (Sv_val rfl (R_load1 rfl rfl agg37 ((hS.bx 0 rfl).cell rfl)) ?_)
  refine W_cons rfl (by decide) (Sv_val rfl (R_move rfl rfl) ?_)
  obtain ⟨q6, csq6, hAq6, rfl, hkq6⟩ := hra0_Merges.at_ (default : TRect) (i := (i : Int)) (by omega) (by omega)
  have hkq6 : ∀ (j_ : Nat) (u_ : Value), ([.int .i64 (a0.Merges.getD i (default : TRect)).Row, .int .i64 (a0.Merges.getD i (default : TRect)).Col, .int .i64 (a0.Merges.getD i (default : TRect)).Rows, .int .i64 (a0.Merges.getD i (default : TRect)).Cols] : List Value)[j_]? = some u_ → cz z (q6.add (i * 4 + j_)) = some u_ := hkq6
  refine W_cons rfl (by decide) (Sv_val rfl (R_idx rfl rfl hAq6 rfl Try.underlying37 size33 (by omega) (by omega)) ?_)
  refine W_cons rfl (by decide) (Sv_val rfl (R_loadN (cs := [.int .i64 (a0.Merges.getD i (default : TRect)).Row, .int .i64 (a0.Merges.getD i (default : TRect)).Col, .int .i64 (a0.Merges.getD i (default : TRect)).Rows, .int .i64 (a0.Merges.getD i (default : TRect)).Cols]) rfl rfl agg33 size33 rfl (fun j u h => cell_add (hS.sub.cell (hkq6 j u h)))) ?_)
  refine W_cons rfl (by decide) (Sv_val rfl (R_move rfl rfl) ?_)
  refine W_cons rfl (by decide) (Sv_val rfl (R_move rfl rfl) ?_)
  refine W_cons rfl (by decide) (Sv_call rfl rfl rfl ent49 ?_)
  refine (covers_calls (a0.Merges.getD i (default : TRect)) a1 a2 _ _ hS.out0  ).mono ?_
  rintro e_ w7 ⟨rfl, hS_⟩
  refine ⟨_, rfl, ?_⟩
  have hS := hS.call0 hS_
  refine W_nil ?_
  refine E_then (C_fr [(1, .int .i64 a1), (2, .int .i64 a2), (3, .pointer (some ⟨b2, 0, none⟩)), (6, .pointer (some ⟨b4, 0, none⟩)), (7, .int .i64 (i : Int)), (22, .bool (coversS (a0.Merges.getD i (default : TRect)) a1 a2))] rfl ?_)
  refine C_ite rfl (fun hC1 => ?_) (fun hC1 => ?_)
  ·have _hC1 := trivial
   refine C_seq ?_
   refine C_region ?_
   refine W_cons rfl (by decide) (Sv_val rfl (R_fld rfl rfl fld39_4) ?_)
   refine W_cons rfl (by decide) (Sv_val rfl (R_load1 rfl rfl agg37 ((hS.bx 0 rfl).cell rfl)) ?_)
   refine W_cons rfl (by decide) (Sv_val rfl (R_move rfl rfl) ?_)
   obtain ⟨q9, csq9, hAq9, rfl, hkq9⟩ := hra0_Merges.at_ (default : TRect) (i := (i : Int)) (by omega) (by omega)
   have hkq9 : ∀ (j_ : Nat) (u_ : Value), ([.int .i64 (a0.Merges.getD i (default : TRect)).Row, .int .i64 (a0.Merges.getD i (default : TRect)).Col, .int .i64 (a0.Merges.getD i (default : TRect)).Rows, .int .i64 (a0.Merges.getD i (default : TRect)).Cols] : List Value)[j_]? = some u_ → cz z (q9.add (i * 4 + j_)) = some u_ := hkq9
   refine W_cons rfl (by decide) (Sv_val rfl (R_idx rfl rfl hAq9 rfl Try.underlying37 size33 (by omega) (by omega)) ?_)
   refine W_cons rfl (by decide) (Sv_val rfl (R_loadN (cs := [.int .i64 (a0.Merges.getD i (default : TRect)).Row, .int .i64 (a0.Merges.getD i (default : TRect)).Col, .int .i64 (a0.Merges.getD i (default : TRect)).Rows, .int .i64 (a0.Merges.getD i (default : TRect)).Cols]) rfl rfl agg33 size33 rfl (fun j u h => cell_add (hS.sub.cell (hkq9 j u h)))) ?_)
   refine W_cons0 rfl (S_store hS 1 rfl rfl rfl rfl rfl size33 (one_cons rfl (one_cons rfl (one_cons rfl (one_cons rfl one_nil)))) (Nat.le_of_ble_eq_true rfl) (fun w10 hS => ?_))
   have hS : Sp (FF []) w z w10 [bR b2 39 [.int .i64 a0.Right, .slice Aa0_Widths a0.Widths.length ca0_Widths, .slice Aa0_Heights a0.Heights.length ca0_Heights, .slice Aa0_Cells a0.Cells.length ca0_Cells, .slice Aa0_Merges a0.Merges.length ca0_Merges], bR b4 33 [.int .i64 (a0.Merges.getD i (default : TRect)).Row, .int .i64 (a0.Merges.getD i (default : TRect)).Col, .int .i64 (a0.Merges.getD i (default : TRect)).Rows, .int .i64 (a0.Merges.getD i (default : TRect)).Cols]] := hS
   refine W_nil ?_
   refine E_then (C_fr [(6, .pointer (some ⟨b4, 0, none⟩))] rfl ?_)
   refine C_ret ?_
   refine E_block_ret ?_
   refine E_then_ret ?_
   refine E_then_ret ?_
   refine E_block_ret ?_
   refine E_then_ret ?_
   refine E_rv1 rfl (RV_cellN (cs := [.int .i64 (a0.Merges.getD i (default : TRect)).Row, .int .i64 (a0.Merges.getD i (default : TRect)).Col, .int .i64 (a0.Merges.getD i (default : TRect)).Rows, .int .i64 (a0.Merges.getD i (default : TRect)).Cols]) rfl agg33 size33 rfl (boxcells (hS.bx 1 rfl) 0 rfl)) ?_
   exact ⟨Lret1 (show (.agg #[.int .i64 (a0.Merges.getD i (default : TRect)).Row, .int .i64 (a0.Merges.getD i (default : TRect)).Col, .int .i64 (a0.Merges.getD i (default : TRect)).Rows, .int .i64 (a0.Merges.getD i (default : TRect)).Cols] : Value) = .agg #[.int .i64 (raroundS a0 a1 a2).Row, .int .i64 (raroundS a0 a1 a2).Col, .int .i64 (raroundS a0 a1 a2).Rows, .int .i64 (raroundS a0 a1 a2).Cols] by first | (rw [raround_end (i := i) (by omega) hI0_1]; done) | (rw [raround_hit (i := i) (by omega) hI0_1 (by assumption)] <;> rfl)), hS.fin [] (by decide) rfl⟩
  ·have _hC1 := trivial
   refine C_skip ?_
   refine E_block_normal ?_
   refine E_then ?_
   refine C_region ?_
   refine W_cons rfl (by decide) (Sv_val rfl (R_move rfl rfl) ?_)
   refine W_cons rfl (by decide) (Sv_val rfl (R_add64 rfl rfl rfl (by omega) (by omega)) ?_)
   refine W_cons rfl (by decide) (Sv_val rfl (R_assign rfl rfl) ?_)
   refine W_nil ?_
   refine E_round [1, 2, 3, 6, 7] ?_ ⟨(i + 1 : Nat), rfl, (by omega), (by exact find_step (p := (fun r => coversS r a1 a2)) default (by omega) hI0_1 (by simp_all)), rfl, hS.fin [0, 1] (by decide) rfl⟩
   omega
 ·have _hC0 := trivial
  have hC0p : ¬ ((i : Int) < (a0.Merges.length : Int)) := by simpa using hC0
  refine C_exit ?_
  refine E_then_exit ?_
  refine E_then_exit ?_
  refine E_block_hit ?_
  refine E_then (C_fr [(1, .int .i64 a1), (2, .int .i64 a2), (6, .pointer (some ⟨b4, 0, none⟩))] rfl ?_)
  refine C_seq ?_
  refine C_region ?_
  refine W_cons rfl (by decide) (Sv_val rfl (R_move rfl rfl) ?_)
  refine W_cons rfl (by decide) (Sv_val rfl (R_move rfl rfl) ?_)
  refine W_cons rfl (by decide) (Sv_val rfl (R_build (w' := w5) (ps := [(0, (.tmp 28)), (1, (.tmp 29)), (2, (.const (.int .i64 1))), (3, (.const (.int .i64 1)))]) (vs := [.int .i64 a1, .int .i64 a2, .int .i64 1, .int .i64 1]) (r := .agg #[.int .i64 a1, .int .i64 a2, .int .i64 1, .int .i64 1]) rfl rfl rfl (by kernel_rfl)) ?_)
  refine W_cons0 rfl (S_store hS 1 rfl rfl rfl rfl rfl size33 (one_cons rfl (one_cons rfl (one_cons rfl (one_cons rfl one_nil)))) (Nat.le_of_ble_eq_true rfl) (fun w11 hS => ?_))
  have hS : Sp (FF []) w z w11 [bR b2 39 [.int .i64 a0.Right, .slice Aa0_Widths a0.Widths.length ca0_Widths, .slice Aa0_Heights a0.Heights.length ca0_Heights, .slice Aa0_Cells a0.Cells.length ca0_Cells, .slice Aa0_Merges a0.Merges.length ca0_Merges], bR b4 33 [.int .i64 a1, .int .i64 a2, .int .i64 1, .int .i64 1]] := hS
  refine W_nil ?_
  refine E_then (C_fr [(6, .pointer (some ⟨b4, 0, none⟩))] rfl ?_)
  refine C_ret ?_
  refine E_rv1 rfl (RV_cellN (cs := [.int .i64 a1, .int .i64 a2, .int .i64 1, .int .i64 1]) rfl agg33 size33 rfl (boxcells (hS.bx 1 rfl) 0 rfl)) ?_
  exact ⟨Lret1 (show (.agg #[.int .i64 a1, .int .i64 a2, .int .i64 1, .int .i64 1] : Value) = .agg #[.int .i64 (raroundS a0 a1 a2).Row, .int .i64 (raroundS a0 a1 a2).Col, .int .i64 (raroundS a0 a1 a2).Rows, .int .i64 (raroundS a0 a1 a2).Cols] by first | (rw [raround_end (i := i) (by omega) hI0_1]; done) | (rw [raround_hit (i := i) (by omega) hI0_1 (by assumption)] <;> rfl)), hS.fin [] (by decide) rfl⟩

set_option maxHeartbeats 400000 in
set_option maxRecDepth 20000 in
theorem numbers_calls (a0 : List Int) (Aa0 : Option Addr) (ca0 : Nat) (a1 : List Int) (Aa1 : Option Addr) (ca1 : Nat) (z : Z) (w : World) (hI : In z w []) (hra0 : Rd (kint .i64) z Aa0 a0) (hca0 : Cap Aa0 a0.length ca0) (hra1 : Rd (kint .i64) z Aa1 a1) (hca1 : Cap Aa1 a1.length ca1)  :
    Calls Try.prog 70 #[.slice Aa0 a0.length ca0, .slice Aa1 a1.length ca1] w fun e w' => e = .returned (.bool (decide (a0 = a1))) ∧ Sp (FF []) w z w' [] := by
 have hla0 := hca0.le
 have hma0 := hca0.mx
 have hla1 := hca1.le
 have hma1 := hca1.mx
 have hS := hI.sp
 refine Calls_of (vs := [.slice Aa0 a0.length ca0, .slice Aa1 a1.length ca1]) (N := 26) Try.func70 rfl rfl (Nat.le_of_ble_eq_true rfl) ?_
 refine C_seq ?_
 refine C_region ?_
 refine W_cons rfl (by decide) (Sv_val rfl (R_assign rfl rfl) ?_)
 refine W_nil ?_
 refine E_then ?_
 refine C_seq ?_
 refine C_seq ?_
 refine C_region ?_
 refine W_cons rfl (by decide) (Sv_val rfl (R_move rfl rfl) ?_)
 refine W_cons rfl (by decide) (Sv_val rfl (R_len rfl rfl Try.underlying35) ?_)
 refine W_cons rfl (by decide) (Sv_val rfl (R_move rfl rfl) ?_)
 refine W_cons rfl (by decide) (Sv_val rfl (R_len rfl rfl Try.underlying35) ?_)
 refine W_cons rfl (by decide) (Sv_val rfl (R_bin rfl rfl rfl rfl rfl) ?_)
 refine W_nil ?_
 refine E_then (C_fr [(0, .slice Aa0 a0.length ca0), (1, .slice Aa1 a1.length ca1), (10, .bool ((a0.length : Int) != (a1.length : Int)))] rfl ?_)
 refine C_ite rfl (fun hC0 => ?_) (fun hC0 => ?_)
 ·have _hC0 := trivial
  have hC0p : ¬ (a0.length : Int) = (a1.length : Int) := by simpa using hC0
  refine C_seq ?_
  refine C_region ?_
  refine W_cons rfl (by decide) (Sv_val rfl (R_assign rfl rfl) ?_)
  refine W_nil ?_
  refine E_then ?_
  refine C_ret ?_
  refine E_then_ret ?_
  refine E_ret1 rfl rfl ?_
  exact ⟨Lret1 (Lbool (show false = (decide (a0 = a1)) by first | exact (decide_eq_false (fun h_ => by subst h_; first | (exact absurd rfl (by assumption)) | omega)).symm | exact (decide_eq_true (take_all (by omega) (by omega) hI0_1)).symm)), hS.fin [] (by decide) rfl⟩
 ·have _hC0 := trivial
  have hC0p : (a0.length : Int) = (a1.length : Int) := by simpa using hC0
  refine C_skip ?_
  refine E_then ?_
  refine C_seq ?_
  refine C_seq ?_
  refine C_region ?_
  refine W_cons rfl (by decide) (Sv_val rfl (R_assign rfl rfl) ?_)
  refine W_nil ?_
  refine E_then ?_
  refine C_block ?_
  refine C_fr [(0, .slice Aa0 a0.length ca0), (1, .slice Aa1 a1.length ca1), (5, .int .i64 0)] rfl ?_
  refine C_loop (fun m_ f_ w_ => ∃ (i : Nat), f_ = [(0, .slice Aa0 a0.length ca0), (1, .slice Aa1 a1.length ca1), (5, .int .i64 (i : Int))] ∧ i ≤ a0.length ∧ a0.take i = a1.take i ∧ m_ = a0.length - i ∧ Sp (FF []) w z w_ []) (a0.length - (0 : Nat)) ⟨(0 : Nat), rfl, (by omega), (by rfl), rfl, hS.fin [] (by decide) rfl⟩ ?_
  rintro m_ f_ w1 ⟨i, rfl, hI0_0, hI0_1, rfl, hS⟩
  refine C_seq ?_
  refine C_seq ?_
  refine C_region ?_
  refine W_cons rfl (by decide) (Sv_val rfl (R_move rfl rfl) ?_)
  refine W_cons rfl (by decide) (Sv_val rfl (R_move rfl rfl) ?_)
  refine W_cons rfl (by decide) (Sv_val rfl (R_len rfl rfl Try.underlying35) ?_)
  refine W_cons rfl (by decide) (Sv_val rfl (R_bin rfl rfl rfl rfl rfl) ?_)
  refine W_nil ?_
  refine E_then ?_
  refine C_ite rfl (fun hC1 => ?_) (fun hC1 => ?_)
  ·have _hC1 := trivial
   have hC1p : (i : Int) < (a0.length : Int) := by simpa using hC1
   refine C_skip ?_
   refine E_then ?_
   refine C_seq ?_
   refine C_block ?_
   refine C_seq ?_
   refine C_fr [(0, .slice Aa0 a0.length ca0), (1, .slice Aa1 a1.length ca1), (5, .int .i64 (i : Int))] rfl ?_
   obtain ⟨q4, csq4, hAq4, rfl, hkq4⟩ := hra0.at_ (0 : Int) (i := (i : Int)) (by omega) (by omega)
   have hkq4 : ∀ (j_ : Nat) (u_ : Value), ([.int .i64 (a0.getD i (0 : Int))] : List Value)[j_]? = some u_ → cz z (q4.add (i * 1 + j_)) = some u_ := hkq4
   obtain ⟨q5, csq5, hAq5, rfl, hkq5⟩ := hra1.at_ (0 : Int) (i := (i : Int)) (by omega) (by omega)
   have hkq5 : ∀ (j_ : Nat) (u_ : Value), ([.int .i64 (a1.getD i (0 : Int))] : List Value)[j_]? = some u_ → cz z (q5.add (i * 1 + j_)) = some u_ := hkq5
   refine C_drawn 9 [[], [], [0, 1], [2], [], [], [4, 5], [6], [3, 7]] [17, 18, 19, 20, 21, 22, 23, 24, 25] [0, 1, 5] rfl (by kernel_rfl) (by decide +kernel) [fun v_ _ => v_ = .slice Aa0 a0.length ca0, fun v_ _ => v_ = .int .i64 (i : Int), fun v_ _ => v_ = .pointer (some (q4.add (i * 1))), fun v_ _ => v_ = .int .i64 (a0.getD i (0 : Int)), fun v_ _ => v_ = .slice Aa1 a1.length ca1, fun v_ _ => v_ = .int .i64 (i : Int), fun v_ _ => v_ = .pointer (some (q5.add (i * 1))), fun v_ _ => v_ = .int .i64 (a1.getD i (0 : Int)), fun v_ _ => v_ = .bool ((a0.getD i (0 : Int)) != (a1.getD i (0 : Int)))] ⟨fun _ _ _ h _ => h, ⟨fun _ _ _ h _ => h, ⟨fun _ _ _ h _ => h, ⟨fun _ _ _ h _ => h, ⟨fun _ _ _ h _ => h, ⟨fun _ _ _ h _ => h, ⟨fun _ _ _ h _ => h, ⟨fun _ _ _ h _ => h, ⟨fun _ _ _ h _ => h, trivial⟩⟩⟩⟩⟩⟩⟩⟩⟩ ⟨fun w2 hc3 => by have hS := hS.chg0 hc3; exact Sv_val rfl (R_move rfl rfl) ⟨Chg.refl _ _, rfl⟩, ⟨fun w2 hc3 => by have hS := hS.chg0 hc3; exact Sv_val rfl (R_move rfl rfl) ⟨Chg.refl _ _, rfl⟩, ⟨fun w2 hc3 => by have hS := hS.chg0 hc3; rintro _ rfl _ rfl; exact Sv_val rfl (R_idx rfl rfl hAq4 rfl Try.underlying35 size3 (by omega) (by omega)) ⟨Chg.refl _ _, rfl⟩, ⟨fun w2 hc3 => by have hS := hS.chg0 hc3; rintro _ rfl; exact Sv_val rfl (R_load1 rfl rfl agg3 (hS.sub.cell (hkq4 0 _ rfl))) ⟨Chg.refl _ _, rfl⟩, ⟨fun w2 hc3 => by have hS := hS.chg0 hc3; exact Sv_val rfl (R_move rfl rfl) ⟨Chg.refl _ _, rfl⟩, ⟨fun w2 hc3 => by have hS := hS.chg0 hc3; exact Sv_val rfl (R_move rfl rfl) ⟨Chg.refl _ _, rfl⟩, ⟨fun w2 hc3 => by have hS := hS.chg0 hc3; rintro _ rfl _ rfl; exact Sv_val rfl (R_idx rfl rfl hAq5 rfl Try.underlying35 size3 (by omega) (by omega)) ⟨Chg.refl _ _, rfl⟩, ⟨fun w2 hc3 => by have hS := hS.chg0 hc3; rintro _ rfl; exact Sv_val rfl (R_load1 rfl rfl agg3 (hS.sub.cell (hkq5 0 _ rfl))) ⟨Chg.refl _ _, rfl⟩, ⟨fun w2 hc3 => by have hS := hS.chg0 hc3; rintro _ rfl _ rfl; exact Sv_val rfl (R_bin rfl rfl rfl rfl rfl) ⟨Chg.refl _ _, rfl⟩, trivial⟩⟩⟩⟩⟩⟩⟩⟩⟩ ?_
   intro w2 hc3
   have hS := hS.chg0 hc3
   rintro _ rfl _ rfl _ rfl _ rfl _ rfl _ rfl _ rfl _ rfl _ rfl
   refine An_fr [(0, .slice Aa0 a0.length ca0), (1, .slice Aa1 a1.length ca1), (5, .int .i64 (i : Int)), (25, .bool ((a0.getD i (0 : Int)) != (a1.getD i (0 : Int))))] rfl ?_
   refine An_done (by decide +kernel) ?_
   refine E_then ?_
   refine C_ite rfl (fun hC2 => ?_) (fun hC2 => ?_)
   ·have _hC2 := trivial
    have hC2p : ¬ (a0.getD i (0 : Int)) = (a1.getD i (0 : Int)) := by simpa using hC2
    refine C_seq ?_
    refine C_region ?_
    refine W_cons rfl (by decide) (Sv_val rfl (R_assign rfl rfl) ?_)
    refine W_nil ?_
    refine E_then ?_
    refine C_ret ?_
    refine E_block_ret ?_
    refine E_then_ret ?_
    refine E_then_ret ?_
    refine E_block_ret ?_
    refine E_then_ret ?_
    refine E_ret1 rfl rfl ?_
    exact ⟨Lret1 (Lbool (show false = (decide (a0 = a1)) by first | exact (decide_eq_false (fun h_ => by subst h_; first | (exact absurd rfl (by assumption)) | omega)).symm | exact (decide_eq_true (take_all (by omega) (by omega) hI0_1)).symm)), hS.fin [] (by decide) rfl⟩
   ·have _hC2 := trivial
    have hC2p : (a0.getD i (0 : Int)) = (a1.getD i (0 : Int)) := by simpa using hC2
    refine C_skip ?_
    refine E_block_normal ?_
    refine E_then ?_
    refine C_region ?_
    refine W_cons rfl (by decide) (Sv_val rfl (R_move rfl rfl) ?_)
    refine W_cons rfl (by decide) (Sv_val rfl (R_add64 rfl rfl rfl (by omega) (by omega)) ?_)
    refine W_cons rfl (by decide) (Sv_val rfl (R_assign rfl rfl) ?_)
    refine W_nil ?_
    refine E_round [0, 1, 5] ?_ ⟨(i + 1 : Nat), rfl, (by omega), (by exact take_more (by omega) (by omega) hI0_1 (by assumption)), rfl, hS.fin [] (by decide) rfl⟩
    omega
  ·have _hC1 := trivial
   have hC1p : ¬ ((i : Int) < (a0.length : Int)) := by simpa using hC1
   refine C_exit ?_
   refine E_then_exit ?_
   refine E_then_exit ?_
   refine E_block_hit ?_
   refine E_then (C_fr [] rfl ?_)
   refine C_seq ?_
   refine C_region ?_
   refine W_cons rfl (by decide) (Sv_val rfl (R_assign rfl rfl) ?_)
   refine W_nil ?_
   refine E_then ?_
   refine C_ret ?_
   refine E_ret1 rfl rfl ?_
   exact ⟨Lret1 (Lbool (show true = (decide (a0 = a1)) by first | exact (decide_eq_false (fun h_ => by subst h_; first | (exact absurd rfl (by assumption)) | omega)).symm | exact (decide_eq_true (take_all (by omega) (by omega) hI0_1)).symm)), hS.fin [] (by decide) rfl⟩

set_option maxHeartbeats 400000 in
set_option maxRecDepth 20000 in
theorem rects_calls (a0 : List TRect) (Aa0 : Option Addr) (ca0 : Nat) (a1 : List TRect) (Aa1 : Option Addr) (ca1 : Nat) (z : Z) (w : World) (hI : In z w []) (hra0 : Rd kdTRect z Aa0 a0) (hca0 : Cap Aa0 a0.length ca0) (hra1 : Rd kdTRect z Aa1 a1) (hca1 : Cap Aa1 a1.length ca1)  :
    Calls Try.prog 71 #[.slice Aa0 a0.length ca0, .slice Aa1 a1.length ca1] w fun e w' => e = .returned (.bool (decide (a0 = a1))) ∧ Sp (FF []) w z w' [] := by
 have hla0 := hca0.le
 have hma0 := hca0.mx
 have hla1 := hca1.le
 have hma1 := hca1.mx
 have hS := hI.sp
 refine Calls_of (vs := [.slice Aa0 a0.length ca0, .slice Aa1 a1.length ca1]) (N := 26) Try.func71 rfl rfl (Nat.le_of_ble_eq_true rfl) ?_
 refine C_seq ?_
 refine C_region ?_
 refine W_cons rfl (by decide) (Sv_val rfl (R_assign rfl rfl) ?_)
 refine W_nil ?_
 refine E_then ?_
 refine C_seq ?_
 refine C_seq ?_
 refine C_region ?_
 refine W_cons rfl (by decide) (Sv_val rfl (R_move rfl rfl) ?_)
 refine W_cons rfl (by decide) (Sv_val rfl (R_len rfl rfl Try.underlying37) ?_)
 refine W_cons rfl (by decide) (Sv_val rfl (R_move rfl rfl) ?_)
 refine W_cons rfl (by decide) (Sv_val rfl (R_len rfl rfl Try.underlying37) ?_)
 refine W_cons rfl (by decide) (Sv_val rfl (R_bin rfl rfl rfl rfl rfl) ?_)
 refine W_nil ?_
 refine E_then (C_fr [(0, .slice Aa0 a0.length ca0), (1, .slice Aa1 a1.length ca1), (10, .bool ((a0.length : Int) != (a1.length : Int)))] rfl ?_)
 refine C_ite rfl (fun hC0 => ?_) (fun hC0 => ?_)
 ·have _hC0 := trivial
  have hC0p : ¬ (a0.length : Int) = (a1.length : Int) := by simpa using hC0
  refine C_seq ?_
  refine C_region ?_
  refine W_cons rfl (by decide) (Sv_val rfl (R_assign rfl rfl) ?_)
  refine W_nil ?_
  refine E_then ?_
  refine C_ret ?_
  refine E_then_ret ?_
  refine E_ret1 rfl rfl ?_
  exact ⟨Lret1 (Lbool (show false = (decide (a0 = a1)) by first | exact (decide_eq_false (fun h_ => by subst h_; first | (exact absurd rfl (by assumption)) | omega)).symm | exact (decide_eq_true (take_all (by omega) (by omega) hI0_1)).symm)), hS.fin [] (by decide) rfl⟩
 ·have _hC0 := trivial
  have hC0p : (a0.length : Int) = (a1.length : Int) := by simpa using hC0
  refine C_skip ?_
  refine E_then ?_
  refine C_seq ?_
  refine C_seq ?_
  refine C_region ?_
  refine W_cons rfl (by decide) (Sv_val rfl (R_assign rfl rfl) ?_)
  refine W_nil ?_
  refine E_then ?_
  refine C_block ?_
  refine C_fr [(0, .slice Aa0 a0.length ca0), (1, .slice Aa1 a1.length ca1), (5, .int .i64 0)] rfl ?_
  refine C_loop (fun m_ f_ w_ => ∃ (i : Nat), f_ = [(0, .slice Aa0 a0.length ca0), (1, .slice Aa1 a1.length ca1), (5, .int .i64 (i : Int))] ∧ i ≤ a0.length ∧ a0.take i = a1.take i ∧ m_ = a0.length - i ∧ Sp (FF []) w z w_ []) (a0.length - (0 : Nat)) ⟨(0 : Nat), rfl, (by omega), (by rfl), rfl, hS.fin [] (by decide) rfl⟩ ?_
  rintro m_ f_ w1 ⟨i, rfl, hI0_0, hI0_1, rfl, hS⟩
  refine C_seq ?_
  refine C_seq ?_
  refine C_region ?_
  refine W_cons rfl (by decide) (Sv_val rfl (R_move rfl rfl) ?_)
  refine W_cons rfl (by decide) (Sv_val rfl (R_move rfl rfl) ?_)
  refine W_cons rfl (by decide) (Sv_val rfl (R_len rfl rfl Try.underlying37) ?_)
  refine W_cons rfl (by decide) (Sv_val rfl (R_bin rfl rfl rfl rfl rfl) ?_)
  refine W_nil ?_
  refine E_then ?_
  refine C_ite rfl (fun hC1 => ?_) (fun hC1 => ?_)
  ·have _hC1 := trivial
   have hC1p : (i : Int) < (a0.length : Int) := by simpa using hC1
   refine C_skip ?_
   refine E_then ?_
   refine C_seq ?_
   refine C_block ?_
   refine C_seq ?_
   refine C_fr [(0, .slice Aa0 a0.length ca0), (1, .slice Aa1 a1.length ca1), (5, .int .i64 (i : Int))] rfl ?_
   obtain ⟨q4, csq4, hAq4, rfl, hkq4⟩ := hra0.at_ (default : TRect) (i := (i : Int)) (by omega) (by omega)
   have hkq4 : ∀ (j_ : Nat) (u_ : Value), ([.int .i64 (a0.getD i (default : TRect)).Row, .int .i64 (a0.getD i (default : TRect)).Col, .int .i64 (a0.getD i (default : TRect)).Rows, .int .i64 (a0.getD i (default : TRect)).Cols] : List Value)[j_]? = some u_ → cz z (q4.add (i * 4 + j_)) = some u_ := hkq4
   obtain ⟨q5, csq5, hAq5, rfl, hkq5⟩ := hra1.at_ (default : TRect) (i := (i : Int)) (by omega) (by omega)
   have hkq5 : ∀ (j_ : Nat) (u_ : Value), ([.int .i64 (a1.getD i (default : TRect)).Row, .int .i64 (a1.getD i (default : TRect)).Col, .int .i64 (a1.getD i (default : TRect)).Rows, .int .i64 (a1.getD i (default : TRect)).Cols] : List Value)[j_]? = some u_ → cz z (q5.add (i * 4 + j_)) = some u_ := hkq5
   refine C_drawn 9 [[], [], [0, 1], [2], [], [], [4, 5], [6], [3, 7]] [17, 18, 19, 20, 21, 22, 23, 24, 25] [0, 1, 5] rfl (by kernel_rfl) (by decide +kernel) [fun v_ _ => v_ = .slice Aa0 a0.length ca0, fun v_ _ => v_ = .int .i64 (i : Int), fun v_ _ => v_ = .pointer (some (q4.add (i * 4))), fun v_ _ => v_ = .agg #[.int .i64 (a0.getD i (default : TRect)).Row, .int .i64 (a0.getD i (default : TRect)).Col, .int .i64 (a0.getD i (default : TRect)).Rows, .int .i64 (a0.getD i (default : TRect)).Cols], fun v_ _ => v_ = .slice Aa1 a1.length ca1, fun v_ _ => v_ = .int .i64 (i : Int), fun v_ _ => v_ = .pointer (some (q5.add (i * 4))), fun v_ _ => v_ = .agg #[.int .i64 (a1.getD i (default : TRect)).Row, .int .i64 (a1.getD i (default : TRect)).Col, .int .i64 (a1.getD i (default : TRect)).Rows, .int .i64 (a1.getD i (default : TRect)).Cols], fun v_ _ => v_ = .bool (!decide (a0.getD i (default : TRect) = a1.getD i (default : TRect)))] ⟨fun _ _ _ h _ => h, ⟨fun _ _ _ h _ => h, ⟨fun _ _ _ h _ => h, ⟨fun _ _ _ h _ => h, ⟨fun _ _ _ h _ => h, ⟨fun _ _ _ h _ => h, ⟨fun _ _ _ h _ => h, ⟨fun _ _ _ h _ => h, ⟨fun _ _ _ h _ => h, trivial⟩⟩⟩⟩⟩⟩⟩⟩⟩ ⟨fun w2 hc3 => by have hS := hS.chg0 hc3; exact Sv_val rfl (R_move rfl rfl) ⟨Chg.refl _ _, rfl⟩, ⟨fun w2 hc3 => by have hS := hS.chg0 hc3; exact Sv_val rfl (R_move rfl rfl) ⟨Chg.refl _ _, rfl⟩, ⟨fun w2 hc3 => by have hS := hS.chg0 hc3; rintro _ rfl _ rfl; exact Sv_val rfl (R_idx rfl rfl hAq4 rfl Try.underlying37 size33 (by omega) (by omega)) ⟨Chg.refl _ _, rfl⟩, ⟨fun w2 hc3 => by have hS := hS.chg0 hc3; rintro _ rfl; exact Sv_val rfl (R_loadN (cs := [.int .i64 (a0.getD i (default : TRect)).Row, .int .i64 (a0.getD i (default : TRect)).Col, .int .i64 (a0.getD i (default : TRect)).Rows, .int .i64 (a0.getD i (default : TRect)).Cols]) rfl rfl agg33 size33 rfl (fun j u h => cell_add (hS.sub.cell (hkq4 j u h)))) ⟨Chg.refl _ _, rfl⟩, ⟨fun w2 hc3 => by have hS := hS.chg0 hc3; exact Sv_val rfl (R_move rfl rfl) ⟨Chg.refl _ _, rfl⟩, ⟨fun w2 hc3 => by have hS := hS.chg0 hc3; exact Sv_val rfl (R_move rfl rfl) ⟨Chg.refl _ _, rfl⟩, ⟨fun w2 hc3 => by have hS := hS.chg0 hc3; rintro _ rfl _ rfl; exact Sv_val rfl (R_idx rfl rfl hAq5 rfl Try.underlying37 size33 (by omega) (by omega)) ⟨Chg.refl _ _, rfl⟩, ⟨fun w2 hc3 => by have hS := hS.chg0 hc3; rintro _ rfl; exact Sv_val rfl (R_loadN (cs := [.int .i64 (a1.getD i (default : TRect)).Row, .int .i64 (a1.getD i (default : TRect)).Col, .int .i64 (a1.getD i (default : TRect)).Rows, .int .i64 (a1.getD i (default : TRect)).Cols]) rfl rfl agg33 size33 rfl (fun j u h => cell_add (hS.sub.cell (hkq5 j u h)))) ⟨Chg.refl _ _, rfl⟩, ⟨fun w2 hc3 => by have hS := hS.chg0 hc3; rintro _ rfl _ rfl; exact Sv_val rfl (R_neqv rfl rfl rfl eqg33 ((eqv33 (a0.getD i (default : TRect)) (a1.getD i (default : TRect))).up 2)) ⟨Chg.refl _ _, rfl⟩, trivial⟩⟩⟩⟩⟩⟩⟩⟩⟩ ?_
   intro w2 hc3
   have hS := hS.chg0 hc3
   rintro _ rfl _ rfl _ rfl _ rfl _ rfl _ rfl _ rfl _ rfl _ rfl
   refine An_fr [(0, .slice Aa0 a0.length ca0), (1, .slice Aa1 a1.length ca1), (5, .int .i64 (i : Int)), (25, .bool (!decide (a0.getD i (default : TRect) = a1.getD i (default : TRect))))] rfl ?_
   refine An_done (by decide +kernel) ?_
   refine E_then ?_
   refine C_ite rfl (fun hC2 => ?_) (fun hC2 => ?_)
   ·have _hC2 := trivial
    have hC2p : ¬ a0.getD i (default : TRect) = a1.getD i (default : TRect) := by simpa using hC2
    refine C_seq ?_
    refine C_region ?_
    refine W_cons rfl (by decide) (Sv_val rfl (R_assign rfl rfl) ?_)
    refine W_nil ?_
    refine E_then ?_
    refine C_ret ?_
    refine E_block_ret ?_
    refine E_then_ret ?_
    refine E_then_ret ?_
    refine E_block_ret ?_
    refine E_then_ret ?_
    refine E_ret1 rfl rfl ?_
    exact ⟨Lret1 (Lbool (show false = (decide (a0 = a1)) by first | exact (decide_eq_false (fun h_ => by subst h_; first | (exact absurd rfl (by assumption)) | omega)).symm | exact (decide_eq_true (take_all (by omega) (by omega) hI0_1)).symm)), hS.fin [] (by decide) rfl⟩
   ·have _hC2 := trivial
    have hC2p : a0.getD i (default : TRect) = a1.getD i (default : TRect) := by simpa using hC2
    refine C_skip ?_
    refine E_block_normal ?_
    refine E_then ?_
    refine C_region ?_
    refine W_cons rfl (by decide) (Sv_val rfl (R_move rfl rfl) ?_)
    refine W_cons rfl (by decide) (Sv_val rfl (R_add64 rfl rfl rfl (by omega) (by omega)) ?_)
    refine W_cons rfl (by decide) (Sv_val rfl (R_assign rfl rfl) ?_)
    refine W_nil ?_
    refine E_round [0, 1, 5] ?_ ⟨(i + 1 : Nat), rfl, (by omega), (by exact take_more (by omega) (by omega) hI0_1 (by assumption)), rfl, hS.fin [] (by decide) rfl⟩
    omega
  ·have _hC1 := trivial
   have hC1p : ¬ ((i : Int) < (a0.length : Int)) := by simpa using hC1
   refine C_exit ?_
   refine E_then_exit ?_
   refine E_then_exit ?_
   refine E_block_hit ?_
   refine E_then (C_fr [] rfl ?_)
   refine C_seq ?_
   refine C_region ?_
   refine W_cons rfl (by decide) (Sv_val rfl (R_assign rfl rfl) ?_)
   refine W_nil ?_
   refine E_then ?_
   refine C_ret ?_
   refine E_ret1 rfl rfl ?_
   exact ⟨Lret1 (Lbool (show true = (decide (a0 = a1)) by first | exact (decide_eq_false (fun h_ => by subst h_; first | (exact absurd rfl (by assumption)) | omega)).symm | exact (decide_eq_true (take_all (by omega) (by omega) hI0_1)).symm)), hS.fin [] (by decide) rfl⟩

end Go.Proofs.YtgjnhmidbapjmaaG
