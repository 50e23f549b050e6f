/- Walks, each function once: what it computes. -/
import Derived.Test.YtibniimdfahiiaaX0
set_option linter.all false
namespace Go.Proofs.YtibniimdfahiiaaG
open Go Go.RowKit
set_option maxHeartbeats 400000 in
set_option maxRecDepth 20000 in
theorem cut_calls (a0 : Int) (w : World)   :
    Calls Try.prog 38 #[.int .i64 a0] w fun e w' => e = .returned (.int .i64 (cutS a0)) ∧ Chg [] w w' := by
  have hC := Chg.refl [] w
  refine Calls_of (vs := [.int .i64 a0]) (N := 6) Try.func38 rfl rfl (Nat.le_of_ble_eq_true rfl) ?_
  refine C_seq ?_
  refine C_region ?_
  refine W_cons rfl (by decide) (Sv_val rfl (R_assign rfl rfl) ?_)
  refine W_nil ?_
  refine E_then ?_
  refine C_seq ?_
  refine C_region ?_
  refine W_cons rfl (by decide) (Sv_val rfl (R_move rfl rfl) ?_)
  refine W_cons rfl (by decide) (Sv_val rfl (R_max rfl rfl) ?_)
  refine W_cons rfl (by decide) (Sv_val rfl (R_min rfl rfl) ?_)
  refine W_cons rfl (by decide) (Sv_val rfl (R_assign rfl rfl) ?_)
  refine W_nil ?_
  refine E_then ?_
  refine C_ret ?_
  refine E_ret1 rfl rfl ?_
  exact ⟨Lret1 (Lint (show min (max a0 1) 60 = cutS a0 by unfold cutS; omega)), hC⟩

set_option maxHeartbeats 400000 in
set_option maxRecDepth 20000 in
theorem rsize_calls (a0 : Int) (w : World)   :
    Calls Try.prog 39 #[.int .i64 a0] w fun e w' => e = .returned (.int .i64 (cutS a0)) ∧ Chg [] w w' := by
  have hC := Chg.refl [] w
  refine Calls_of (vs := [.int .i64 a0]) (N := 8) Try.func39 rfl rfl (Nat.le_of_ble_eq_true rfl) ?_
  refine C_seq ?_
  refine C_region ?_
  refine W_cons rfl (by decide) (Sv_val rfl (R_assign rfl rfl) ?_)
  refine W_nil ?_
  refine E_then ?_
  refine C_seq ?_
  refine C_seq ?_
  refine C_region ?_
  refine W_cons rfl (by decide) (Sv_val rfl (R_move rfl rfl) ?_)
  refine W_cons rfl (by decide) (Sv_val rfl (R_bin rfl rfl rfl rfl rfl) ?_)
  refine W_nil ?_
  refine E_then ?_
  refine C_ite rfl (fun hC0 => ?_) (fun hC0 => ?_)
  · have _hC0 := trivial
    have hC0p : a0 < 1 := by simpa using hC0
    refine C_seq ?_
    refine C_region ?_
    refine W_cons rfl (by decide) (Sv_val rfl (R_assign rfl rfl) ?_)
    refine W_nil ?_
    refine E_then ?_
    refine C_ret ?_
    refine E_then_ret ?_
    refine E_ret1 rfl rfl ?_
    exact ⟨Lret1 (Lint (show 1 = cutS a0 by unfold cutS; omega)), hC⟩
  · have _hC0 := trivial
    have hC0p : ¬ (a0 < 1) := by simpa using hC0
    refine C_skip ?_
    refine E_then ?_
    refine C_seq ?_
    refine C_seq ?_
    refine C_region ?_
    refine W_cons rfl (by decide) (Sv_val rfl (R_move rfl rfl) ?_)
    refine W_cons rfl (by decide) (Sv_val rfl (R_bin rfl rfl rfl rfl rfl) ?_)
    refine W_nil ?_
    refine E_then ?_
    refine C_ite rfl (fun hC1 => ?_) (fun hC1 => ?_)
    · have _hC1 := trivial
      have hC1p : a0 > 60 := by simpa using hC1
      refine C_seq ?_
      refine C_region ?_
      refine W_cons rfl (by decide) (Sv_val rfl (R_assign rfl rfl) ?_)
      refine W_nil ?_
      refine E_then (C_fr [(2, .int .i64 60)] rfl ?_)
      refine C_ret ?_
      refine E_then_ret ?_
      refine E_ret1 rfl rfl ?_
      exact ⟨Lret1 (Lint (show 60 = cutS a0 by unfold cutS; omega)), hC⟩
    · have _hC1 := trivial
      have hC1p : ¬ (a0 > 60) := by simpa using hC1
      refine C_skip ?_
      refine E_then (C_fr [(0, .int .i64 a0)] rfl ?_)
      refine C_seq ?_
      refine C_region ?_
      refine W_cons rfl (by decide) (Sv_val rfl (R_move rfl rfl) ?_)
      refine W_cons rfl (by decide) (Sv_val rfl (R_assign rfl rfl) ?_)
      refine W_nil ?_
      refine E_then ?_
      refine C_ret ?_
      refine E_ret1 rfl rfl ?_
      exact ⟨Lret1 (Lint (show a0 = cutS a0 by unfold cutS; omega)), hC⟩

set_option maxHeartbeats 400000 in
set_option maxRecDepth 20000 in
theorem point_calls (a0 : Int) (a1 : Int) (w : World)  (p0 : a0.natAbs < 4503599627370496) (p1 : a1.natAbs < 4503599627370496) :
    Calls Try.prog 42 #[.int .i64 a0, .int .i64 a1] w fun e w' => e = .returned (.complex .f64 (cpt a0 a1).re.bits (cpt a0 a1).im.bits) ∧ Chg [] w w' := by
  have hC := Chg.refl [] w
  refine Calls_of (vs := [.int .i64 a0, .int .i64 a1]) (N := 10) Try.func42 rfl rfl (Nat.le_of_ble_eq_true rfl) ?_
  refine C_seq ?_
  refine C_region ?_
  refine W_cons rfl (by decide) (Sv_val rfl (R_assign rfl rfl) ?_)
  refine W_nil ?_
  refine E_then ?_
  refine C_seq ?_
  refine C_region ?_
  refine W_cons rfl (by decide) (Sv_val rfl (R_move rfl rfl) ?_)
  refine W_cons rfl (by decide) (Sv_val rfl (R_convf rfl rfl Try.underlying3 Try.underlying40 (by omega)) ?_)
  refine W_cons rfl (by decide) (Sv_val rfl (R_move rfl rfl) ?_)
  refine W_cons rfl (by decide) (Sv_val rfl (R_convf rfl rfl Try.underlying3 Try.underlying40 (by omega)) ?_)
  refine W_cons rfl (by decide) (Sv_val rfl (R_cx rfl rfl) ?_)
  refine W_cons rfl (by decide) (Sv_val rfl (R_assign rfl rfl) ?_)
  refine W_nil ?_
  refine E_then (C_fr [(4, .complex .f64 (Fl.ofInt a0).bits (Fl.ofInt a1).bits)] rfl ?_)
  refine C_ret ?_
  refine E_ret1 rfl rfl ?_
  exact ⟨Lret1 (show (.complex .f64 (Fl.ofInt a0).bits (Fl.ofInt a1).bits : Value) = .complex .f64 (cpt a0 a1).re.bits (cpt a0 a1).im.bits by rfl), hC⟩

set_option maxHeartbeats 400000 in
set_option maxRecDepth 20000 in
theorem lpoint_calls (a0 : Int) (a1 : Int) (w : World)  (p0 : a0.natAbs < 4503599627370496) (p1 : a1.natAbs < 4503599627370496) :
    Calls Try.prog 24 #[.int .i64 a0, .int .i64 a1] w fun e w' => e = .returned (.complex .f64 (cpt a0 a1).re.bits (cpt a0 a1).im.bits) ∧ Chg [] w w' := by
  have hC := Chg.refl [] w
  refine Calls_of (vs := [.int .i64 a0, .int .i64 a1]) (N := 10) Try.func24 rfl rfl (Nat.le_of_ble_eq_true rfl) ?_
  refine C_seq ?_
  refine C_region ?_
  refine W_cons rfl (by decide) (Sv_val rfl (R_assign rfl rfl) ?_)
  refine W_nil ?_
  refine E_then ?_
  refine C_seq ?_
  refine C_region ?_
  refine W_cons rfl (by decide) (Sv_val rfl (R_move rfl rfl) ?_)
  refine W_cons rfl (by decide) (Sv_val rfl (R_convf rfl rfl Try.underlying3 Try.underlying40 (by omega)) ?_)
  refine W_cons rfl (by decide) (Sv_val rfl (R_move rfl rfl) ?_)
  refine W_cons rfl (by decide) (Sv_val rfl (R_convf rfl rfl Try.underlying3 Try.underlying40 (by omega)) ?_)
  refine W_cons rfl (by decide) (Sv_val rfl (R_cx rfl rfl) ?_)
  refine W_cons rfl (by decide) (Sv_val rfl (R_assign rfl rfl) ?_)
  refine W_nil ?_
  refine E_then (C_fr [(4, .complex .f64 (Fl.ofInt a0).bits (Fl.ofInt a1).bits)] rfl ?_)
  refine C_ret ?_
  refine E_ret1 rfl rfl ?_
  exact ⟨Lret1 (show (.complex .f64 (Fl.ofInt a0).bits (Fl.ofInt a1).bits : Value) = .complex .f64 (cpt a0 a1).re.bits (cpt a0 a1).im.bits by rfl), hC⟩

set_option maxHeartbeats 400000 in
set_option maxRecDepth 20000 in
theorem mirrored_calls (a0 : Cx) (a1 : Int) (w : World)  (p0 : a1.natAbs < 1125899906842624) (p1 : a0.re.n.natAbs < 1125899906842624) (p2 : a0.im.n.natAbs < 1125899906842624) :
    Calls Try.prog 46 #[.complex .f64 a0.re.bits a0.im.bits, .int .i64 a1] w fun e w' => e = .returned (.complex .f64 (mirC a0 a1).re.bits (mirC a0 a1).im.bits) ∧ Chg [] w w' := by
  have hC := Chg.refl [] w
  refine Calls_of (vs := [.complex .f64 a0.re.bits a0.im.bits, .int .i64 a1]) (N := 15) Try.func46 rfl rfl (Nat.le_of_ble_eq_true rfl) ?_
  refine C_seq ?_
  refine C_region ?_
  refine W_cons rfl (by decide) (Sv_val rfl (R_assign rfl rfl) ?_)
  refine W_nil ?_
  refine E_then ?_
  refine C_seq ?_
  refine C_region ?_
  refine W_cons rfl (by decide) (Sv_val rfl (R_move rfl rfl) ?_)
  refine W_cons rfl (by decide) (Sv_val rfl (R_sub64 rfl rfl rfl (by omega) (by omega)) ?_)
  refine W_cons rfl (by decide) (Sv_call rfl rfl rfl ent42 ?_)
  refine (point_calls (a1 - 1) 0  _   (by first | decide | omega) (by first | decide | omega)).mono ?_
  rintro e_ w1 ⟨rfl, hc2⟩
  refine ⟨_, rfl, ?_⟩
  have hC := hC.then hc2 (by simp)
  refine W_cons rfl (by decide) (Sv_val rfl (R_move rfl rfl) ?_)
  refine W_cons rfl (by decide) (Sv_val rfl (R_real rfl rfl) ?_)
  refine W_cons rfl (by decide) (Sv_val rfl (R_move rfl rfl) ?_)
  refine W_cons rfl (by decide) (Sv_val rfl (R_imag rfl rfl) ?_)
  refine W_cons rfl (by decide) (Sv_val rfl (R_negf rfl rfl (by simp [Fl.ok, Fl.add, Fl.sub, Fl.opp, Fl.ofInt, Cx.ok, mirC, cpt, Cx.sub] at *; omega)) ?_)
  refine W_cons rfl (by decide) (Sv_val rfl (R_cx rfl rfl) ?_)
  refine W_cons rfl (by decide) (Sv_val rfl (R_cxsub (a := (cpt (a1 - 1) 0).re) (b := (cpt (a1 - 1) 0).im) (c := a0.re) (d := a0.im.opp) rfl rfl rfl (by simp [Fl.ok, Fl.add, Fl.sub, Fl.opp, Fl.ofInt, Cx.ok, mirC, cpt, Cx.sub] at *; omega) (by simp [Fl.ok, Fl.add, Fl.sub, Fl.opp, Fl.ofInt, Cx.ok, mirC, cpt, Cx.sub] at *; omega)) ?_)
  refine W_cons rfl (by decide) (Sv_val rfl (R_assign rfl rfl) ?_)
  refine W_nil ?_
  refine E_then (C_fr [(4, .complex .f64 (((cpt (a1 - 1) 0).re).sub a0.re).bits (((cpt (a1 - 1) 0).im).sub a0.im.opp).bits)] rfl ?_)
  refine C_ret ?_
  refine E_ret1 rfl rfl ?_
  exact ⟨Lret1 (show (.complex .f64 (((cpt (a1 - 1) 0).re).sub a0.re).bits (((cpt (a1 - 1) 0).im).sub a0.im.opp).bits : Value) = .complex .f64 (mirC a0 a1).re.bits (mirC a0 a1).im.bits by rfl), hC⟩

set_option maxHeartbeats 400000 in
set_option maxRecDepth 20000 in
theorem rscreen_calls (a0 : Int) (a1 : Int) (a2 : Int) (a3 : Int) (w : World)  (p0 : a0.natAbs < 1125899906842624) (p1 : a1.natAbs < 1125899906842624) (p2 : a2.natAbs < 1125899906842624) :
    Calls Try.prog 32 #[.int .i64 a0, .int .i64 a1, .int .i64 a2, .int .i64 a3] w fun e w' => e = .returned (.int .i64 (rscr a0 a1 a2 a3)) ∧ Chg [] w w' := by
  have hC := Chg.refl [] w
  refine Calls_of (vs := [.int .i64 a0, .int .i64 a1, .int .i64 a2, .int .i64 a3]) (N := 20) Try.func32 rfl rfl (Nat.le_of_ble_eq_true rfl) ?_
  refine C_seq ?_
  refine C_region ?_
  refine W_cons rfl (by decide) (Sv_val rfl (R_assign rfl rfl) ?_)
  refine W_nil ?_
  refine E_then ?_
  refine C_seq ?_
  refine C_seq ?_
  refine C_region ?_
  refine W_cons rfl (by decide) (Sv_val rfl (R_move rfl rfl) ?_)
  refine W_cons rfl (by decide) (Sv_val rfl (R_bin rfl rfl rfl rfl rfl) ?_)
  refine W_nil ?_
  refine E_then ?_
  refine C_ite rfl (fun hC0 => ?_) (fun hC0 => ?_)
  · have _hC0 := trivial
    have hC0p : a3 = 1 := by simpa using hC0
    refine C_seq ?_
    refine C_region ?_
    refine W_cons rfl (by decide) (Sv_val rfl (R_move rfl rfl) ?_)
    refine W_cons rfl (by decide) (Sv_val rfl (R_sub64 rfl rfl rfl (by omega) (by omega)) ?_)
    refine W_cons rfl (by decide) (Sv_val rfl (R_move rfl rfl) ?_)
    refine W_cons rfl (by decide) (Sv_val rfl (R_move rfl rfl) ?_)
    refine W_cons rfl (by decide) (Sv_val rfl (R_sub64 rfl rfl rfl (by omega) (by omega)) ?_)
    refine W_cons rfl (by decide) (Sv_val rfl (R_sub64 rfl rfl rfl (by omega) (by omega)) ?_)
    refine W_cons rfl (by decide) (Sv_val rfl (R_assign rfl rfl) ?_)
    refine W_nil ?_
    refine E_then (C_fr [(8, .int .i64 ((a2 - 1) - (a0 - a1)))] rfl ?_)
    refine C_ret ?_
    refine E_then_ret ?_
    refine E_ret1 rfl rfl ?_
    exact ⟨Lret1 (Lint (show (a2 - 1) - (a0 - a1) = rscr a0 a1 a2 a3 by unfold rscr; simp only [hC0p, if_true, if_false])), hC⟩
  · have _hC0 := trivial
    have hC0p : ¬ (a3 = 1) := by simpa using hC0
    refine C_skip ?_
    refine E_then (C_fr [(0, .int .i64 a0), (1, .int .i64 a1)] rfl ?_)
    refine C_seq ?_
    refine C_region ?_
    refine W_cons rfl (by decide) (Sv_val rfl (R_move rfl rfl) ?_)
    refine W_cons rfl (by decide) (Sv_val rfl (R_move rfl rfl) ?_)
    refine W_cons rfl (by decide) (Sv_val rfl (R_sub64 rfl rfl rfl (by omega) (by omega)) ?_)
    refine W_cons rfl (by decide) (Sv_val rfl (R_assign rfl rfl) ?_)
    refine W_nil ?_
    refine E_then (C_fr [(8, .int .i64 (a0 - a1))] rfl ?_)
    refine C_ret ?_
    refine E_ret1 rfl rfl ?_
    exact ⟨Lret1 (Lint (show a0 - a1 = rscr a0 a1 a2 a3 by unfold rscr; simp only [hC0p, if_true, if_false])), hC⟩

set_option maxHeartbeats 400000 in
set_option maxRecDepth 20000 in
theorem rback_calls (a0 : Int) (a1 : Int) (a2 : Int) (a3 : Int) (w : World)  (p0 : a0.natAbs < 1125899906842624) (p1 : a1.natAbs < 1125899906842624) (p2 : a2.natAbs < 1125899906842624) :
    Calls Try.prog 34 #[.int .i64 a0, .int .i64 a1, .int .i64 a2, .int .i64 a3] w fun e w' => e = .returned (.int .i64 (rbck a0 a1 a2 a3)) ∧ Chg [] w w' := by
  have hC := Chg.refl [] w
  refine Calls_of (vs := [.int .i64 a0, .int .i64 a1, .int .i64 a2, .int .i64 a3]) (N := 20) Try.func34 rfl rfl (Nat.le_of_ble_eq_true rfl) ?_
  refine C_seq ?_
  refine C_region ?_
  refine W_cons rfl (by decide) (Sv_val rfl (R_assign rfl rfl) ?_)
  refine W_nil ?_
  refine E_then ?_
  refine C_seq ?_
  refine C_seq ?_
  refine C_region ?_
  refine W_cons rfl (by decide) (Sv_val rfl (R_move rfl rfl) ?_)
  refine W_cons rfl (by decide) (Sv_val rfl (R_bin rfl rfl rfl rfl rfl) ?_)
  refine W_nil ?_
  refine E_then ?_
  refine C_ite rfl (fun hC0 => ?_) (fun hC0 => ?_)
  · have _hC0 := trivial
    have hC0p : a3 = 1 := by simpa using hC0
    refine C_seq ?_
    refine C_region ?_
    refine W_cons rfl (by decide) (Sv_val rfl (R_move rfl rfl) ?_)
    refine W_cons rfl (by decide) (Sv_val rfl (R_sub64 rfl rfl rfl (by omega) (by omega)) ?_)
    refine W_cons rfl (by decide) (Sv_val rfl (R_move rfl rfl) ?_)
    refine W_cons rfl (by decide) (Sv_val rfl (R_sub64 rfl rfl rfl (by omega) (by omega)) ?_)
    refine W_cons rfl (by decide) (Sv_val rfl (R_move rfl rfl) ?_)
    refine W_cons rfl (by decide) (Sv_val rfl (R_add64 rfl rfl rfl (by omega) (by omega)) ?_)
    refine W_cons rfl (by decide) (Sv_val rfl (R_assign rfl rfl) ?_)
    refine W_nil ?_
    refine E_then (C_fr [(8, .int .i64 (((a2 - 1) - a0) + a1))] rfl ?_)
    refine C_ret ?_
    refine E_then_ret ?_
    refine E_ret1 rfl rfl ?_
    exact ⟨Lret1 (Lint (show ((a2 - 1) - a0) + a1 = rbck a0 a1 a2 a3 by unfold rbck; simp only [hC0p, if_true, if_false])), hC⟩
  · have _hC0 := trivial
    have hC0p : ¬ (a3 = 1) := by simpa using hC0
    refine C_skip ?_
    refine E_then (C_fr [(0, .int .i64 a0), (1, .int .i64 a1)] rfl ?_)
    refine C_seq ?_
    refine C_region ?_
    refine W_cons rfl (by decide) (Sv_val rfl (R_move rfl rfl) ?_)
    refine W_cons rfl (by decide) (Sv_val rfl (R_move rfl rfl) ?_)
    refine W_cons rfl (by decide) (Sv_val rfl (R_add64 rfl rfl rfl (by omega) (by omega)) ?_)
    refine W_cons rfl (by decide) (Sv_val rfl (R_assign rfl rfl) ?_)
    refine W_nil ?_
    refine E_then (C_fr [(8, .int .i64 (a0 + a1))] rfl ?_)
    refine C_ret ?_
    refine E_ret1 rfl rfl ?_
    exact ⟨Lret1 (Lint (show a0 + a1 = rbck a0 a1 a2 a3 by unfold rbck; simp only [hC0p, if_true, if_false])), hC⟩

set_option maxHeartbeats 400000 in
set_option maxRecDepth 20000 in
theorem screen_calls (a0 : Cx) (a1 : Cx) (a2 : Int) (a3 : Int) (w : World)  (p0 : a0.re.n.natAbs < 281474976710656) (p1 : a0.im.n.natAbs < 281474976710656) (p2 : a1.re.n.natAbs < 281474976710656) (p3 : a1.im.n.natAbs < 281474976710656) (p4 : a2.natAbs < 281474976710656) :
    Calls Try.prog 31 #[.complex .f64 a0.re.bits a0.im.bits, .complex .f64 a1.re.bits a1.im.bits, .int .i64 a2, .int .i64 a3] w fun e w' => e = .returned (.complex .f64 (scrC a0 a1 a2 a3).re.bits (scrC a0 a1 a2 a3).im.bits) ∧ Chg [] w w' := by
  have hC := Chg.refl [] w
  refine Calls_of (vs := [.complex .f64 a0.re.bits a0.im.bits, .complex .f64 a1.re.bits a1.im.bits, .int .i64 a2, .int .i64 a3]) (N := 19) Try.func31 rfl rfl (Nat.le_of_ble_eq_true rfl) ?_
  refine C_seq ?_
  refine C_region ?_
  refine W_cons rfl (by decide) (Sv_val rfl (R_assign rfl rfl) ?_)
  refine W_nil ?_
  refine E_then ?_
  refine C_seq ?_
  refine C_region ?_
  refine W_cons rfl (by decide) (Sv_val rfl (R_move rfl rfl) ?_)
  refine W_cons rfl (by decide) (Sv_val rfl (R_move rfl rfl) ?_)
  refine W_cons rfl (by decide) (Sv_val rfl (R_cxsub (a := a0.re) (b := a0.im) (c := a1.re) (d := a1.im) rfl rfl rfl (by simp [Fl.ok, Fl.add, Fl.sub, Fl.opp, Fl.ofInt, Cx.ok, mirC, cpt, Cx.sub] at *; omega) (by simp [Fl.ok, Fl.add, Fl.sub, Fl.opp, Fl.ofInt, Cx.ok, mirC, cpt, Cx.sub] at *; omega)) ?_)
  refine W_cons rfl (by decide) (Sv_val rfl (R_assign rfl rfl) ?_)
  refine W_nil ?_
  refine E_then (C_fr [(2, .int .i64 a2), (3, .int .i64 a3), (9, .complex .f64 (a0.re.sub a1.re).bits (a0.im.sub a1.im).bits)] rfl ?_)
  refine C_seq ?_
  refine C_seq ?_
  refine C_region ?_
  refine W_cons rfl (by decide) (Sv_val rfl (R_move rfl rfl) ?_)
  refine W_cons rfl (by decide) (Sv_val rfl (R_bin rfl rfl rfl rfl rfl) ?_)
  refine W_nil ?_
  refine E_then ?_
  refine C_ite rfl (fun hC0 => ?_) (fun hC0 => ?_)
  · have _hC0 := trivial
    have hC0p : a3 = 1 := by simpa using hC0
    refine C_seq ?_
    refine C_region ?_
    refine W_cons rfl (by decide) (Sv_val rfl (R_move rfl rfl) ?_)
    refine W_cons rfl (by decide) (Sv_val rfl (R_move rfl rfl) ?_)
    refine W_cons rfl (by decide) (Sv_call rfl rfl rfl ent46 ?_)
    refine (mirrored_calls (⟨a0.re.sub a1.re, a0.im.sub a1.im⟩ : Cx) a2  _   (by simp [Fl.ok, Fl.add, Fl.sub, Fl.opp, Fl.ofInt, Cx.ok, mirC, cpt, Cx.sub] at *; omega) (by simp [Fl.ok, Fl.add, Fl.sub, Fl.opp, Fl.ofInt, Cx.ok, mirC, cpt, Cx.sub] at *; omega) (by simp [Fl.ok, Fl.add, Fl.sub, Fl.opp, Fl.ofInt, Cx.ok, mirC, cpt, Cx.sub] at *; omega)).mono ?_
    rintro e_ w1 ⟨rfl, hc2⟩
    refine ⟨_, rfl, ?_⟩
    have hC := hC.then hc2 (by simp)
    refine W_cons rfl (by decide) (Sv_val rfl (R_assign rfl rfl) ?_)
    refine W_nil ?_
    refine E_then (C_fr [(8, .complex .f64 ((mirC (⟨a0.re.sub a1.re, a0.im.sub a1.im⟩ : Cx) a2).re).bits ((mirC (⟨a0.re.sub a1.re, a0.im.sub a1.im⟩ : Cx) a2).im).bits)] rfl ?_)
    refine C_ret ?_
    refine E_then_ret ?_
    refine E_ret1 rfl rfl ?_
    exact ⟨Lret1 (show (.complex .f64 ((mirC (⟨a0.re.sub a1.re, a0.im.sub a1.im⟩ : Cx) a2).re).bits ((mirC (⟨a0.re.sub a1.re, a0.im.sub a1.im⟩ : Cx) a2).im).bits : Value) = .complex .f64 (scrC a0 a1 a2 a3).re.bits (scrC a0 a1 a2 a3).im.bits by unfold scrC; simp only [hC0p, if_true, if_false]; try rfl), hC⟩
  · have _hC0 := trivial
    have hC0p : ¬ (a3 = 1) := by simpa using hC0
    refine C_skip ?_
    refine E_then ?_
    refine C_seq ?_
    refine C_region ?_
    refine W_cons rfl (by decide) (Sv_val rfl (R_move rfl rfl) ?_)
    refine W_cons rfl (by decide) (Sv_val rfl (R_assign rfl rfl) ?_)
    refine W_nil ?_
    refine E_then (C_fr [(8, .complex .f64 (a0.re.sub a1.re).bits (a0.im.sub a1.im).bits)] rfl ?_)
    refine C_ret ?_
    refine E_ret1 rfl rfl ?_
    exact ⟨Lret1 (show (.complex .f64 (a0.re.sub a1.re).bits (a0.im.sub a1.im).bits : Value) = .complex .f64 (scrC a0 a1 a2 a3).re.bits (scrC a0 a1 a2 a3).im.bits by unfold scrC; simp only [hC0p, if_true, if_false]; try rfl), hC⟩

set_option maxHeartbeats 400000 in
set_option maxRecDepth 20000 in
theorem back_calls (a0 : Cx) (a1 : Cx) (a2 : Int) (a3 : Int) (w : World)  (p0 : a0.re.n.natAbs < 281474976710656) (p1 : a0.im.n.natAbs < 281474976710656) (p2 : a1.re.n.natAbs < 281474976710656) (p3 : a1.im.n.natAbs < 281474976710656) (p4 : a2.natAbs < 281474976710656) :
    Calls Try.prog 33 #[.complex .f64 a0.re.bits a0.im.bits, .complex .f64 a1.re.bits a1.im.bits, .int .i64 a2, .int .i64 a3] w fun e w' => e = .returned (.complex .f64 (bckC a0 a1 a2 a3).re.bits (bckC a0 a1 a2 a3).im.bits) ∧ Chg [] w w' := by
  have hC := Chg.refl [] w
  refine Calls_of (vs := [.complex .f64 a0.re.bits a0.im.bits, .complex .f64 a1.re.bits a1.im.bits, .int .i64 a2, .int .i64 a3]) (N := 17) Try.func33 rfl rfl (Nat.le_of_ble_eq_true rfl) ?_
  refine C_seq ?_
  refine C_region ?_
  refine W_cons rfl (by decide) (Sv_val rfl (R_assign rfl rfl) ?_)
  refine W_nil ?_
  refine E_then ?_
  refine C_seq ?_
  refine C_seq ?_
  refine C_region ?_
  refine W_cons rfl (by decide) (Sv_val rfl (R_move rfl rfl) ?_)
  refine W_cons rfl (by decide) (Sv_val rfl (R_bin rfl rfl rfl rfl rfl) ?_)
  refine W_nil ?_
  refine E_then ?_
  refine C_ite rfl (fun hC0 => ?_) (fun hC0 => ?_)
  · have _hC0 := trivial
    have hC0p : a3 = 1 := by simpa using hC0
    refine C_region ?_
    refine W_cons rfl (by decide) (Sv_val rfl (R_move rfl rfl) ?_)
    refine W_cons rfl (by decide) (Sv_val rfl (R_move rfl rfl) ?_)
    refine W_cons rfl (by decide) (Sv_call rfl rfl rfl ent46 ?_)
    refine (mirrored_calls a0 a2  _   (by simp [Fl.ok, Fl.add, Fl.sub, Fl.opp, Fl.ofInt, Cx.ok, mirC, cpt, Cx.sub] at *; omega) (by simp [Fl.ok, Fl.add, Fl.sub, Fl.opp, Fl.ofInt, Cx.ok, mirC, cpt, Cx.sub] at *; omega) (by simp [Fl.ok, Fl.add, Fl.sub, Fl.opp, Fl.ofInt, Cx.ok, mirC, cpt, Cx.sub] at *; omega)).mono ?_
    rintro e_ w1 ⟨rfl, hc2⟩
    refine ⟨_, rfl, ?_⟩
    have hC := hC.then hc2 (by simp)
    refine W_cons rfl (by decide) (Sv_val rfl (R_assign rfl rfl) ?_)
    refine W_nil ?_
    refine E_then (C_fr [(0, .complex .f64 ((mirC a0 a2).re).bits ((mirC a0 a2).im).bits), (1, .complex .f64 a1.re.bits a1.im.bits)] rfl ?_)
    refine C_seq ?_
    refine C_region ?_
    refine W_cons rfl (by decide) (Sv_val rfl (R_move rfl rfl) ?_)
    refine W_cons rfl (by decide) (Sv_val rfl (R_move rfl rfl) ?_)
    refine W_cons rfl (by decide) (Sv_val rfl (R_cxadd (a := (mirC a0 a2).re) (b := (mirC a0 a2).im) (c := a1.re) (d := a1.im) rfl rfl rfl (by simp [Fl.ok, Fl.add, Fl.sub, Fl.opp, Fl.ofInt, Cx.ok, mirC, cpt, Cx.sub] at *; omega) (by simp [Fl.ok, Fl.add, Fl.sub, Fl.opp, Fl.ofInt, Cx.ok, mirC, cpt, Cx.sub] at *; omega)) ?_)
    refine W_cons rfl (by decide) (Sv_val rfl (R_assign rfl rfl) ?_)
    refine W_nil ?_
    refine E_then (C_fr [(8, .complex .f64 (((mirC a0 a2).re).add a1.re).bits (((mirC a0 a2).im).add a1.im).bits)] rfl ?_)
    refine C_ret ?_
    refine E_ret1 rfl rfl ?_
    exact ⟨Lret1 (show (.complex .f64 (((mirC a0 a2).re).add a1.re).bits (((mirC a0 a2).im).add a1.im).bits : Value) = .complex .f64 (bckC a0 a1 a2 a3).re.bits (bckC a0 a1 a2 a3).im.bits by unfold bckC; simp only [hC0p, if_true, if_false]; try rfl), hC⟩
  · have _hC0 := trivial
    have hC0p : ¬ (a3 = 1) := by simpa using hC0
    refine C_skip ?_
    refine E_then (C_fr [(0, .complex .f64 a0.re.bits a0.im.bits), (1, .complex .f64 a1.re.bits a1.im.bits)] rfl ?_)
    refine C_seq ?_
    refine C_region ?_
    refine W_cons rfl (by decide) (Sv_val rfl (R_move rfl rfl) ?_)
    refine W_cons rfl (by decide) (Sv_val rfl (R_move rfl rfl) ?_)
    refine W_cons rfl (by decide) (Sv_val rfl (R_cxadd (a := a0.re) (b := a0.im) (c := a1.re) (d := a1.im) rfl rfl rfl (by simp [Fl.ok, Fl.add, Fl.sub, Fl.opp, Fl.ofInt, Cx.ok, mirC, cpt, Cx.sub] at *; omega) (by simp [Fl.ok, Fl.add, Fl.sub, Fl.opp, Fl.ofInt, Cx.ok, mirC, cpt, Cx.sub] at *; omega)) ?_)
    refine W_cons rfl (by decide) (Sv_val rfl (R_assign rfl rfl) ?_)
    refine W_nil ?_
    refine E_then (C_fr [(8, .complex .f64 (a0.re.add a1.re).bits (a0.im.add a1.im).bits)] rfl ?_)
    refine C_ret ?_
    refine E_ret1 rfl rfl ?_
    exact ⟨Lret1 (show (.complex .f64 (a0.re.add a1.re).bits (a0.im.add a1.im).bits : Value) = .complex .f64 (bckC a0 a1 a2 a3).re.bits (bckC a0 a1 a2 a3).im.bits by unfold bckC; simp only [hC0p, if_true, if_false]; try rfl), hC⟩

set_option maxHeartbeats 2000000 in
set_option maxRecDepth 20000 in
theorem rwithin_calls (a0 : Int) (a1 : Int) (a2 : TRect) (w : World)  (p0 : 0 ≤ a0) (p1 : a0 ≤ 1000000) (p2 : 0 ≤ a1) (p3 : a1 ≤ 1000000) :
    Calls Try.prog 21 #[.int .i64 a0, .int .i64 a1, .agg #[.int .i64 a2.Row, .int .i64 a2.Col, .int .i64 a2.Rows, .int .i64 a2.Cols]] w fun e w' => e = .returned (.bool (insideS a0 a1 a2)) ∧ Chg [] w w' := by
  have hC := Chg.refl [] w
  refine Calls_of (vs := [.int .i64 a0, .int .i64 a1, .agg #[.int .i64 a2.Row, .int .i64 a2.Col, .int .i64 a2.Rows, .int .i64 a2.Cols]]) (N := 53) Try.func21 rfl rfl (Nat.le_of_ble_eq_true rfl) ?_
  refine C_seq ?_
  refine C_region ?_
  refine W_cons rfl (by decide) (Sv_box rfl (R_box (cs := [.int .i64 a2.Row, .int .i64 a2.Col, .int .i64 a2.Rows, .int .i64 a2.Cols]) rfl rfl rfl) (fun b1 w2 hcb1 hnb1 hBb1 => ?_))
  have hNb1 : ∀ k ∈ [b1], w.heap.size ≤ k := newC (boxbase hnb1) hC.size
  have hC := hC.then hcb1 (by simp)
  refine W_cons rfl (by decide) (Sv_val rfl (R_assign rfl rfl) ?_)
  refine W_nil ?_
  refine E_then ?_
  refine C_seq ?_
  refine C_seq ?_
  refine C_region ?_
  refine W_cons rfl (by decide) (Sv_val rfl (R_fld rfl rfl fld30_0) ?_)
  refine W_cons rfl (by decide) (Sv_val rfl (R_load1 rfl rfl agg3 (hBb1.cell rfl)) ?_)
  refine W_cons rfl (by decide) (Sv_val rfl (R_bin rfl rfl rfl rfl rfl) ?_)
  refine W_cons rfl (by decide) (Sv_val rfl (R_move rfl rfl) ?_)
  refine W_split (t := 10) rfl (fun hg3 => ?_) (fun hg3 => ?_)
  · have _hg3 := trivial
    have hg3p : a2.Row < 0 := by simpa using hg3
    refine W_cons rfl (by decide) (Sv_off rfl rfl rfl (by rw [hg3]; rfl) ?_)
    refine W_cons rfl (by decide) (Sv_off rfl rfl rfl (by rw [hg3]; rfl) ?_)
    refine W_cons rfl (by decide) (Sv_off rfl rfl rfl (by rw [hg3]; rfl) ?_)
    refine W_cons rfl (by decide) (Sv_val rfl (R_pick_t rfl rfl hg3 rfl) ?_)
    refine W_cons rfl (by decide) (Sv_val rfl (R_move rfl rfl) ?_)
    refine W_cons rfl (by decide) (Sv_off rfl rfl rfl rfl ?_)
    refine W_cons rfl (by decide) (Sv_off rfl rfl rfl rfl ?_)
    refine W_cons rfl (by decide) (Sv_off rfl rfl rfl rfl ?_)
    refine W_cons rfl (by decide) (Sv_val rfl (R_pick_t rfl rfl rfl rfl) ?_)
    refine W_cons rfl (by decide) (Sv_val rfl (R_move rfl rfl) ?_)
    refine W_cons rfl (by decide) (Sv_off rfl rfl rfl rfl ?_)
    refine W_cons rfl (by decide) (Sv_off rfl rfl rfl rfl ?_)
    refine W_cons rfl (by decide) (Sv_off rfl rfl rfl rfl ?_)
    refine W_cons rfl (by decide) (Sv_val rfl (R_pick_t rfl rfl rfl rfl) ?_)
    refine W_cons rfl (by decide) (Sv_val rfl (R_move rfl rfl) ?_)
    refine W_cons rfl (by decide) (Sv_off rfl rfl rfl rfl ?_)
    refine W_cons rfl (by decide) (Sv_off rfl rfl rfl rfl ?_)
    refine W_cons rfl (by decide) (Sv_off rfl rfl rfl rfl ?_)
    refine W_cons rfl (by decide) (Sv_off rfl rfl rfl rfl ?_)
    refine W_cons rfl (by decide) (Sv_val rfl (R_pick_t rfl rfl rfl rfl) ?_)
    refine W_cons rfl (by decide) (Sv_val rfl (R_move rfl rfl) ?_)
    refine W_cons rfl (by decide) (Sv_off rfl rfl rfl rfl ?_)
    refine W_cons rfl (by decide) (Sv_off rfl rfl rfl rfl ?_)
    refine W_cons rfl (by decide) (Sv_off rfl rfl rfl rfl ?_)
    refine W_cons rfl (by decide) (Sv_off rfl rfl rfl rfl ?_)
    refine W_cons rfl (by decide) (Sv_val rfl (R_pick_t rfl rfl rfl rfl) ?_)
    refine W_nil ?_
    refine E_then (C_fr [(0, .int .i64 a0), (1, .int .i64 a1), (5, .pointer (some ⟨b1, 0, none⟩)), (36, .bool true)] rfl ?_)
    refine C_if rfl rfl ?_
    refine C_seq ?_
    refine C_region ?_
    refine W_cons rfl (by decide) (Sv_val rfl (R_assign rfl rfl) ?_)
    refine W_nil ?_
    refine E_then ?_
    refine C_ret ?_
    refine E_then_ret ?_
    refine E_ret1 rfl rfl ?_
    exact ⟨Lret1 (Lbool (show false = insideS a0 a1 a2 by unfold insideS; rw [Bool.eq_iff_iff]; simp; omega)), hC⟩
  · have _hg3 := trivial
    have hg3p : ¬ (a2.Row < 0) := by simpa using hg3
    refine W_cons rfl (by decide) (Sv_gt rfl rfl rfl hg3 (Sv_val rfl (R_fld rfl rfl fld30_1) ?_))
    refine W_cons rfl (by decide) (Sv_gt rfl rfl rfl hg3 (Sv_val rfl (R_load1 rfl rfl agg3 (hBb1.cell rfl)) ?_))
    refine W_cons rfl (by decide) (Sv_gt rfl rfl rfl hg3 (Sv_val rfl (R_bin rfl rfl rfl rfl rfl) ?_))
    refine W_cons rfl (by decide) (Sv_val rfl (R_pick_f rfl rfl hg3 rfl) ?_)
    refine W_cons rfl (by decide) (Sv_val rfl (R_move rfl rfl) ?_)
    refine W_split (t := 15) rfl (fun hg4 => ?_) (fun hg4 => ?_)
    · have _hg4 := trivial
      have hg4p : a2.Col < 0 := by simpa using hg4
      refine W_cons rfl (by decide) (Sv_off rfl rfl rfl (by rw [hg4]; rfl) ?_)
      refine W_cons rfl (by decide) (Sv_off rfl rfl rfl (by rw [hg4]; rfl) ?_)
      refine W_cons rfl (by decide) (Sv_off rfl rfl rfl (by rw [hg4]; rfl) ?_)
      refine W_cons rfl (by decide) (Sv_val rfl (R_pick_t rfl rfl hg4 rfl) ?_)
      refine W_cons rfl (by decide) (Sv_val rfl (R_move rfl rfl) ?_)
      refine W_cons rfl (by decide) (Sv_off rfl rfl rfl rfl ?_)
      refine W_cons rfl (by decide) (Sv_off rfl rfl rfl rfl ?_)
      refine W_cons rfl (by decide) (Sv_off rfl rfl rfl rfl ?_)
      refine W_cons rfl (by decide) (Sv_val rfl (R_pick_t rfl rfl rfl rfl) ?_)
      refine W_cons rfl (by decide) (Sv_val rfl (R_move rfl rfl) ?_)
      refine W_cons rfl (by decide) (Sv_off rfl rfl rfl rfl ?_)
      refine W_cons rfl (by decide) (Sv_off rfl rfl rfl rfl ?_)
      refine W_cons rfl (by decide) (Sv_off rfl rfl rfl rfl ?_)
      refine W_cons rfl (by decide) (Sv_off rfl rfl rfl rfl ?_)
      refine W_cons rfl (by decide) (Sv_val rfl (R_pick_t rfl rfl rfl rfl) ?_)
      refine W_cons rfl (by decide) (Sv_val rfl (R_move rfl rfl) ?_)
      refine W_cons rfl (by decide) (Sv_off rfl rfl rfl rfl ?_)
      refine W_cons rfl (by decide) (Sv_off rfl rfl rfl rfl ?_)
      refine W_cons rfl (by decide) (Sv_off rfl rfl rfl rfl ?_)
      refine W_cons rfl (by decide) (Sv_off rfl rfl rfl rfl ?_)
      refine W_cons rfl (by decide) (Sv_val rfl (R_pick_t rfl rfl rfl rfl) ?_)
      refine W_nil ?_
      refine E_then (C_fr [(0, .int .i64 a0), (1, .int .i64 a1), (5, .pointer (some ⟨b1, 0, none⟩)), (36, .bool true)] rfl ?_)
      refine C_if rfl rfl ?_
      refine C_seq ?_
      refine C_region ?_
      refine W_cons rfl (by decide) (Sv_val rfl (R_assign rfl rfl) ?_)
      refine W_nil ?_
      refine E_then ?_
      refine C_ret ?_
      refine E_then_ret ?_
      refine E_ret1 rfl rfl ?_
      exact ⟨Lret1 (Lbool (show false = insideS a0 a1 a2 by unfold insideS; rw [Bool.eq_iff_iff]; simp; omega)), hC⟩
    · have _hg4 := trivial
      have hg4p : ¬ (a2.Col < 0) := by simpa using hg4
      refine W_cons rfl (by decide) (Sv_gt rfl rfl rfl hg4 (Sv_val rfl (R_fld rfl rfl fld30_2) ?_))
      refine W_cons rfl (by decide) (Sv_gt rfl rfl rfl hg4 (Sv_val rfl (R_load1 rfl rfl agg3 (hBb1.cell rfl)) ?_))
      refine W_cons rfl (by decide) (Sv_gt rfl rfl rfl hg4 (Sv_val rfl (R_bin rfl rfl rfl rfl rfl) ?_))
      refine W_cons rfl (by decide) (Sv_val rfl (R_pick_f rfl rfl hg4 rfl) ?_)
      refine W_cons rfl (by decide) (Sv_val rfl (R_move rfl rfl) ?_)
      refine W_split (t := 20) rfl (fun hg5 => ?_) (fun hg5 => ?_)
      · have _hg5 := trivial
        have hg5p : a2.Rows < 1 := by simpa using hg5
        refine W_cons rfl (by decide) (Sv_off rfl rfl rfl (by rw [hg5]; rfl) ?_)
        refine W_cons rfl (by decide) (Sv_off rfl rfl rfl (by rw [hg5]; rfl) ?_)
        refine W_cons rfl (by decide) (Sv_off rfl rfl rfl (by rw [hg5]; rfl) ?_)
        refine W_cons rfl (by decide) (Sv_val rfl (R_pick_t rfl rfl hg5 rfl) ?_)
        refine W_cons rfl (by decide) (Sv_val rfl (R_move rfl rfl) ?_)
        refine W_cons rfl (by decide) (Sv_off rfl rfl rfl rfl ?_)
        refine W_cons rfl (by decide) (Sv_off rfl rfl rfl rfl ?_)
        refine W_cons rfl (by decide) (Sv_off rfl rfl rfl rfl ?_)
        refine W_cons rfl (by decide) (Sv_off rfl rfl rfl rfl ?_)
        refine W_cons rfl (by decide) (Sv_val rfl (R_pick_t rfl rfl rfl rfl) ?_)
        refine W_cons rfl (by decide) (Sv_val rfl (R_move rfl rfl) ?_)
        refine W_cons rfl (by decide) (Sv_off rfl rfl rfl rfl ?_)
        refine W_cons rfl (by decide) (Sv_off rfl rfl rfl rfl ?_)
        refine W_cons rfl (by decide) (Sv_off rfl rfl rfl rfl ?_)
        refine W_cons rfl (by decide) (Sv_off rfl rfl rfl rfl ?_)
        refine W_cons rfl (by decide) (Sv_val rfl (R_pick_t rfl rfl rfl rfl) ?_)
        refine W_nil ?_
        refine E_then (C_fr [(0, .int .i64 a0), (1, .int .i64 a1), (5, .pointer (some ⟨b1, 0, none⟩)), (36, .bool true)] rfl ?_)
        refine C_if rfl rfl ?_
        refine C_seq ?_
        refine C_region ?_
        refine W_cons rfl (by decide) (Sv_val rfl (R_assign rfl rfl) ?_)
        refine W_nil ?_
        refine E_then ?_
        refine C_ret ?_
        refine E_then_ret ?_
        refine E_ret1 rfl rfl ?_
        exact ⟨Lret1 (Lbool (show false = insideS a0 a1 a2 by unfold insideS; rw [Bool.eq_iff_iff]; simp; omega)), hC⟩
      · have _hg5 := trivial
        have hg5p : ¬ (a2.Rows < 1) := by simpa using hg5
        refine W_cons rfl (by decide) (Sv_gt rfl rfl rfl hg5 (Sv_val rfl (R_fld rfl rfl fld30_3) ?_))
        refine W_cons rfl (by decide) (Sv_gt rfl rfl rfl hg5 (Sv_val rfl (R_load1 rfl rfl agg3 (hBb1.cell rfl)) ?_))
        refine W_cons rfl (by decide) (Sv_gt rfl rfl rfl hg5 (Sv_val rfl (R_bin rfl rfl rfl rfl rfl) ?_))
        refine W_cons rfl (by decide) (Sv_val rfl (R_pick_f rfl rfl hg5 rfl) ?_)
        refine W_cons rfl (by decide) (Sv_val rfl (R_move rfl rfl) ?_)
        refine W_split (t := 25) rfl (fun hg6 => ?_) (fun hg6 => ?_)
        · have _hg6 := trivial
          have hg6p : a2.Cols < 1 := by simpa using hg6
          refine W_cons rfl (by decide) (Sv_off rfl rfl rfl (by rw [hg6]; rfl) ?_)
          refine W_cons rfl (by decide) (Sv_off rfl rfl rfl (by rw [hg6]; rfl) ?_)
          refine W_cons rfl (by decide) (Sv_off rfl rfl rfl (by rw [hg6]; rfl) ?_)
          refine W_cons rfl (by decide) (Sv_off rfl rfl rfl (by rw [hg6]; rfl) ?_)
          refine W_cons rfl (by decide) (Sv_val rfl (R_pick_t rfl rfl hg6 rfl) ?_)
          refine W_cons rfl (by decide) (Sv_val rfl (R_move rfl rfl) ?_)
          refine W_cons rfl (by decide) (Sv_off rfl rfl rfl rfl ?_)
          refine W_cons rfl (by decide) (Sv_off rfl rfl rfl rfl ?_)
          refine W_cons rfl (by decide) (Sv_off rfl rfl rfl rfl ?_)
          refine W_cons rfl (by decide) (Sv_off rfl rfl rfl rfl ?_)
          refine W_cons rfl (by decide) (Sv_val rfl (R_pick_t rfl rfl rfl rfl) ?_)
          refine W_nil ?_
          refine E_then (C_fr [(0, .int .i64 a0), (1, .int .i64 a1), (5, .pointer (some ⟨b1, 0, none⟩)), (36, .bool true)] rfl ?_)
          refine C_if rfl rfl ?_
          refine C_seq ?_
          refine C_region ?_
          refine W_cons rfl (by decide) (Sv_val rfl (R_assign rfl rfl) ?_)
          refine W_nil ?_
          refine E_then ?_
          refine C_ret ?_
          refine E_then_ret ?_
          refine E_ret1 rfl rfl ?_
          exact ⟨Lret1 (Lbool (show false = insideS a0 a1 a2 by unfold insideS; rw [Bool.eq_iff_iff]; simp; omega)), hC⟩
        · have _hg6 := trivial
          have hg6p : ¬ (a2.Cols < 1) := by simpa using hg6
          refine W_cons rfl (by decide) (Sv_gt rfl rfl rfl hg6 (Sv_val rfl (R_fld rfl rfl fld30_0) ?_))
          refine W_cons rfl (by decide) (Sv_gt rfl rfl rfl hg6 (Sv_val rfl (R_load1 rfl rfl agg3 (hBb1.cell rfl)) ?_))
          refine W_cons rfl (by decide) (Sv_gt rfl rfl rfl hg6 (Sv_val rfl (R_move rfl rfl) ?_))
          refine W_cons rfl (by decide) (Sv_gt rfl rfl rfl hg6 (Sv_val rfl (R_bin rfl rfl rfl rfl rfl) ?_))
          refine W_cons rfl (by decide) (Sv_val rfl (R_pick_f rfl rfl hg6 rfl) ?_)
          refine W_cons rfl (by decide) (Sv_val rfl (R_move rfl rfl) ?_)
          refine W_split (t := 31) rfl (fun hg7 => ?_) (fun hg7 => ?_)
          · have _hg7 := trivial
            have hg7p : a2.Row ≥ a1 := by simpa using hg7
            refine W_cons rfl (by decide) (Sv_off rfl rfl rfl (by rw [hg7]; rfl) ?_)
            refine W_cons rfl (by decide) (Sv_off rfl rfl rfl (by rw [hg7]; rfl) ?_)
            refine W_cons rfl (by decide) (Sv_off rfl rfl rfl (by rw [hg7]; rfl) ?_)
            refine W_cons rfl (by decide) (Sv_off rfl rfl rfl (by rw [hg7]; rfl) ?_)
            refine W_cons rfl (by decide) (Sv_val rfl (R_pick_t rfl rfl hg7 rfl) ?_)
            refine W_nil ?_
            refine E_then (C_fr [(0, .int .i64 a0), (1, .int .i64 a1), (5, .pointer (some ⟨b1, 0, none⟩)), (36, .bool true)] rfl ?_)
            refine C_if rfl rfl ?_
            refine C_seq ?_
            refine C_region ?_
            refine W_cons rfl (by decide) (Sv_val rfl (R_assign rfl rfl) ?_)
            refine W_nil ?_
            refine E_then ?_
            refine C_ret ?_
            refine E_then_ret ?_
            refine E_ret1 rfl rfl ?_
            exact ⟨Lret1 (Lbool (show false = insideS a0 a1 a2 by unfold insideS; rw [Bool.eq_iff_iff]; simp; omega)), hC⟩
          · have _hg7 := trivial
            have hg7p : ¬ (a2.Row ≥ a1) := by simpa using hg7
            refine W_cons rfl (by decide) (Sv_gt rfl rfl rfl hg7 (Sv_val rfl (R_fld rfl rfl fld30_1) ?_))
            refine W_cons rfl (by decide) (Sv_gt rfl rfl rfl hg7 (Sv_val rfl (R_load1 rfl rfl agg3 (hBb1.cell rfl)) ?_))
            refine W_cons rfl (by decide) (Sv_gt rfl rfl rfl hg7 (Sv_val rfl (R_move rfl rfl) ?_))
            refine W_cons rfl (by decide) (Sv_gt rfl rfl rfl hg7 (Sv_val rfl (R_bin rfl rfl rfl rfl rfl) ?_))
            refine W_cons rfl (by decide) (Sv_val rfl (R_pick_f rfl rfl hg7 rfl) ?_)
            refine W_nil ?_
            refine E_then (C_fr [(0, .int .i64 a0), (1, .int .i64 a1), (5, .pointer (some ⟨b1, 0, none⟩)), (36, .bool (decide (a2.Col ≥ a0)))] rfl ?_)
            refine C_ite rfl (fun hC0 => ?_) (fun hC0 => ?_)
            · have _hC0 := trivial
              have hC0p : a2.Col ≥ a0 := by simpa using hC0
              refine C_seq ?_
              refine C_region ?_
              refine W_cons rfl (by decide) (Sv_val rfl (R_assign rfl rfl) ?_)
              refine W_nil ?_
              refine E_then ?_
              refine C_ret ?_
              refine E_then_ret ?_
              refine E_ret1 rfl rfl ?_
              exact ⟨Lret1 (Lbool (show false = insideS a0 a1 a2 by unfold insideS; rw [Bool.eq_iff_iff]; simp; omega)), hC⟩
            · have _hC0 := trivial
              have hC0p : ¬ (a2.Col ≥ a0) := by simpa using hC0
              refine C_skip ?_
              refine E_then ?_
              refine C_seq ?_
              refine C_region ?_
              refine W_cons rfl (by decide) (Sv_val rfl (R_move rfl rfl) ?_)
              refine W_cons rfl (by decide) (Sv_val rfl (R_fld rfl rfl fld30_0) ?_)
              refine W_cons rfl (by decide) (Sv_val rfl (R_load1 rfl rfl agg3 (hBb1.cell rfl)) ?_)
              refine W_cons rfl (by decide) (Sv_val rfl (R_sub64 rfl rfl rfl (by omega) (by omega)) ?_)
              refine W_cons rfl (by decide) (Sv_val rfl (R_fld rfl rfl fld30_2) ?_)
              refine W_cons rfl (by decide) (Sv_val rfl (R_load1 rfl rfl agg3 (hBb1.cell rfl)) ?_)
              refine W_cons rfl (by decide) (Sv_val rfl (R_bin rfl rfl rfl rfl rfl) ?_)
              refine W_cons rfl (by decide) (Sv_val rfl (R_move rfl rfl) ?_)
              refine W_split (t := 44) rfl (fun hg8 => ?_) (fun hg8 => ?_)
              · have _hg8 := trivial
                have hg8p : (a1 - a2.Row) ≥ a2.Rows := by simpa using hg8
                refine W_cons rfl (by decide) (Sv_gt rfl rfl rfl hg8 (Sv_val rfl (R_move rfl rfl) ?_))
                refine W_cons rfl (by decide) (Sv_gt rfl rfl rfl hg8 (Sv_val rfl (R_fld rfl rfl fld30_1) ?_))
                refine W_cons rfl (by decide) (Sv_gt rfl rfl rfl hg8 (Sv_val rfl (R_load1 rfl rfl agg3 (hBb1.cell rfl)) ?_))
                refine W_cons rfl (by decide) (Sv_gt rfl rfl rfl hg8 (Sv_val rfl (R_sub64 rfl rfl rfl (by omega) (by omega)) ?_))
                refine W_cons rfl (by decide) (Sv_gt rfl rfl rfl hg8 (Sv_val rfl (R_fld rfl rfl fld30_3) ?_))
                refine W_cons rfl (by decide) (Sv_gt rfl rfl rfl hg8 (Sv_val rfl (R_load1 rfl rfl agg3 (hBb1.cell rfl)) ?_))
                refine W_cons rfl (by decide) (Sv_gt rfl rfl rfl hg8 (Sv_val rfl (R_bin rfl rfl rfl rfl rfl) ?_))
                refine W_cons rfl (by decide) (Sv_val rfl (R_pick_t rfl rfl hg8 rfl) ?_)
                refine W_cons rfl (by decide) (Sv_val rfl (R_assign rfl rfl) ?_)
                refine W_nil ?_
                refine E_then (C_fr [(6, .bool (decide ((a0 - a2.Col) ≥ a2.Cols)))] rfl ?_)
                refine C_ret ?_
                refine E_ret1 rfl rfl ?_
                exact ⟨Lret1 (Lbool (show decide ((a0 - a2.Col) ≥ a2.Cols) = insideS a0 a1 a2 by unfold insideS; rw [Bool.eq_iff_iff]; simp; omega)), hC⟩
              · have _hg8 := trivial
                have hg8p : ¬ ((a1 - a2.Row) ≥ a2.Rows) := by simpa using hg8
                refine W_cons rfl (by decide) (Sv_off rfl rfl rfl (by rw [hg8]; rfl) ?_)
                refine W_cons rfl (by decide) (Sv_off rfl rfl rfl (by rw [hg8]; rfl) ?_)
                refine W_cons rfl (by decide) (Sv_off rfl rfl rfl (by rw [hg8]; rfl) ?_)
                refine W_cons rfl (by decide) (Sv_off rfl rfl rfl (by rw [hg8]; rfl) ?_)
                refine W_cons rfl (by decide) (Sv_off rfl rfl rfl (by rw [hg8]; rfl) ?_)
                refine W_cons rfl (by decide) (Sv_off rfl rfl rfl (by rw [hg8]; rfl) ?_)
                refine W_cons rfl (by decide) (Sv_off rfl rfl rfl (by rw [hg8]; rfl) ?_)
                refine W_cons rfl (by decide) (Sv_val rfl (R_pick_f rfl rfl hg8 rfl) ?_)
                refine W_cons rfl (by decide) (Sv_val rfl (R_assign rfl rfl) ?_)
                refine W_nil ?_
                refine E_then (C_fr [(6, .bool false)] rfl ?_)
                refine C_ret ?_
                refine E_ret1 rfl rfl ?_
                exact ⟨Lret1 (Lbool (show false = insideS a0 a1 a2 by unfold insideS; rw [Bool.eq_iff_iff]; simp; omega)), hC⟩

set_option maxHeartbeats 400000 in
set_option maxRecDepth 20000 in
theorem starts_calls (Aa0 : Option Addr) (ca0 : Nat) (a0 : List Int) (z : Z) (w : World) (hz : Sub z w) (hra0 : Rd (kint .i64) z Aa0 a0) (hca0 : Cap Aa0 a0.length ca0) (p0 : a0.length ≤ 1000000) :
    Calls Try.prog 14 #[.slice Aa0 a0.length ca0] w fun e w' => ∃ AR0 cR0, e = .returned (.slice AR0 (startsS a0).length cR0) ∧ Own (kint .i64) 3 w.heap.size zE w' AR0 cR0 (startsS a0) ∧ Chg [] w w' := by
  have hla0 := hca0.le
  have hma0 := hca0.mx
  have hC := Chg.refl [] w
  refine Calls_of (vs := [.slice Aa0 a0.length ca0]) (N := 27) Try.func14 rfl rfl (Nat.le_of_ble_eq_true rfl) ?_
  refine C_seq ?_
  refine C_region ?_
  refine W_cons rfl (by decide) (Sv_val rfl (R_assign rfl rfl) ?_)
  refine W_nil ?_
  refine E_then ?_
  refine C_seq ?_
  refine C_region ?_
  refine W_cons rfl (by decide) (Sv_row (d := (kint .i64)) (z := zE) ([1] : List Int) rfl (R_buildSlice (ps := [(0, (.const (.int .i64 1)))]) (vs := [.int .i64 1]) (w' := w.alloc (.cells [.int .i64 1].toArray 3)) (r := .slice (some ⟨w.heap.size, 0, none⟩) 1 1) rfl rfl rfl (by kernel_rfl)) (by simp [Reps, flat, kint]) rfl (by decide) (fun g1 w2 hcg1 hng1 hOg1 => ?_))
  have hOg1 := hOg1.lower hng1
  have hZg1 : ∀ k ∈ blk (some ⟨g1, 0, none⟩), z k = none := fresh_z hz hOg1.base
  have hNg1 : ∀ k ∈ blk (some ⟨g1, 0, none⟩), w.heap.size ≤ k := newC hOg1.base hC.size
  have hOg1 := hOg1.lower hC.size
  have hz := hz.chg0 hcg1
  have hC := hC.then hcg1 (by simp)
  have hmg1 := hOg1.cap.mx
  have hlg1 := hOg1.cap.le
  refine W_cons rfl (by decide) (Sv_val rfl (R_assign rfl rfl) ?_)
  refine W_nil ?_
  refine E_then ?_
  refine C_seq ?_
  refine C_seq ?_
  refine C_region ?_
  refine W_cons rfl (by decide) (Sv_val rfl (R_move rfl rfl) ?_)
  refine W_cons rfl (by decide) (Sv_val rfl (R_len rfl rfl Try.underlying22) ?_)
  refine W_cons rfl (by decide) (Sv_val rfl (R_move rfl rfl) ?_)
  refine W_nil ?_
  refine E_then ?_
  refine C_block ?_
  have hs5 : ([1] : List Int) = (startsS a0).take ((0 : Nat) + 1) := by cases a0 <;> rfl
  rw [hs5] at hOg1
  refine C_fr [(3, .slice (some ⟨g1, 0, none⟩) ((startsS a0).take ((0 : Nat) + 1)).length 1), (7, .slice Aa0 a0.length ca0), (8, .int .i64 (a0.length : Int)), (9, .int .i64 0)] (by rw [← hs5]; rfl) ?_
  refine C_loop (fun m_ f_ w_ => ∃ (i : Nat) (Ar4 : Option Addr) (cr4 : Nat), f_ = [(3, .slice Ar4 ((startsS a0).take (i + 1)).length cr4), (7, .slice Aa0 a0.length ca0), (8, .int .i64 (a0.length : Int)), (9, .int .i64 (i : Int))] ∧ i ≤ a0.length ∧ m_ = a0.length - i ∧ Sub z w_ ∧ Chg [] w w_ ∧ Own (kint .i64) 3 w.heap.size zE w_ Ar4 cr4 ((startsS a0).take (i + 1)) ∧ (∀ b_ ∈ blk Ar4, z b_ = none)) (a0.length - 0) ?_ ?_
  · exact ⟨0, (some ⟨g1, 0, none⟩), 1, rfl, (by omega), rfl, hz, hC, hOg1, hZg1⟩
  · rintro m_ f_ w3 ⟨i, Ar4, cr4, rfl, hI0_0, rfl, hz, hC, hOr4, hZr4⟩
    have hNr4 := hOr4.base
    have hmr4 := hOr4.cap.mx
    have hlr4 := hOr4.cap.le
    have hlen := starts_len a0
    have htl : ((startsS a0).take (i + 1)).length = i + 1 := by rw [List.length_take]; omega
    have hge : ((startsS a0).take (i + 1)).getD i 0 = (startsS a0).getD i 0 := by simp [List.getD]
    have hbd := starts_bd a0 i (by omega)
    have hcb := cut_bd (a0.getD i 0)
    refine C_seq ?_
    refine C_region ?_
    refine W_cons rfl (by decide) (Sv_val rfl (R_bin rfl rfl rfl rfl rfl) ?_)
    refine W_nil ?_
    refine E_then ?_
    refine C_seq ?_
    refine C_ite rfl (fun hC0 => ?_) (fun hC0 => ?_)
    · have _hC0 := trivial
      have hC0p : (i : Int) < (a0.length : Int) := by simpa using hC0
      refine C_skip ?_
      refine E_then ?_
      refine C_seq ?_
      refine C_block ?_
      refine C_seq ?_
      refine C_region ?_
      refine W_cons rfl (by decide) (Sv_val rfl (R_move rfl rfl) ?_)
      obtain ⟨q6, csq6, hAq6, rfl, hcq6⟩ := hra0.at_ (0 : Int) (i := (i : Int)) (by omega) (by omega)
      have hcq6 : ∀ (j_ : Nat) (u_ : Value), ([.int .i64 (a0.getD i (0 : Int))] : List Value)[j_]? = some u_ → cz z (q6.add (i * 1 + j_)) = some u_ := hcq6
      refine W_cons rfl (by decide) (Sv_val rfl (R_idx rfl rfl hAq6 rfl Try.underlying22 size3 (by omega) (by omega)) ?_)
      refine W_cons rfl (by decide) (Sv_val rfl (R_load1 rfl rfl agg3 (hz.cell (hcq6 0 _ rfl))) ?_)
      refine W_cons rfl (by decide) (Sv_val rfl (R_assign rfl rfl) ?_)
      refine W_cons rfl (by decide) (Sv_val rfl (R_assign rfl rfl) ?_)
      refine W_nil ?_
      refine E_then ?_
      refine C_fr [(3, .slice Ar4 ((startsS a0).take (i + 1)).length cr4), (4, .int .i64 (i : Int)), (5, .int .i64 (a0.getD i (0 : Int))), (7, .slice Aa0 a0.length ca0), (8, .int .i64 (a0.length : Int)), (9, .int .i64 (i : Int))] rfl ?_
      refine C_drawnX 12 [[], [], [], [1, 2], [3], [], [5], [4, 6], [7], [8]] [some 14, some 15, some 16, some 17, some 18, some 19, some 20, some 21, some 22, some 23] [3, 4, 5, 7, 8, 9] [[], [], [], [], [], [], [], [], [], []] [10, 10, 10, 10, 10, 10, 10, 10, 10, 10] [false, false, false, false, false, false, false, false, false, true] rfl (by kernel_rfl) (by decide +kernel) [fun v _ => v = .slice Ar4 ((startsS a0).take (i + 1)).length cr4, fun v _ => v = .slice Ar4 ((startsS a0).take (i + 1)).length cr4, fun v _ => v = .int .i64 (i : Int), fun v w_ => ∃ a_, v = .pointer (some a_) ∧ ∀ j u, ([.int .i64 (((startsS a0).take (i + 1)).getD i (0 : Int))] : List Value)[j]? = some u → w_.cell? (a_.add j) = some u, fun v _ => v = .int .i64 (((startsS a0).take (i + 1)).getD i (0 : Int)), fun v _ => v = .int .i64 (a0.getD i (0 : Int)), fun v _ => v = .int .i64 (cutS (a0.getD i (0 : Int))), fun v _ => v = .int .i64 ((((startsS a0).take (i + 1)).getD i (0 : Int)) + (cutS (a0.getD i (0 : Int)))), fun v _ => v = .int .i64 (((((startsS a0).take (i + 1)).getD i (0 : Int)) + (cutS (a0.getD i (0 : Int)))) + 1), fun v w_ => ∃ Ar9 cr9, v = .slice Ar9 ([((((startsS a0).take (i + 1)).getD i (0 : Int)) + (cutS (a0.getD i (0 : Int)))) + 1] : List Int).length cr9 ∧ Own (kint .i64) 3 w.heap.size zE w_ Ar9 cr9 ([((((startsS a0).take (i + 1)).getD i (0 : Int)) + (cutS (a0.getD i (0 : Int)))) + 1] : List Int) ∧ (∀ k ∈ blk Ar9, z k = none) ∧ ∀ k ∈ blk Ar9, w3.heap.size ≤ k] ?_ ?_ ?_
      · exact ⟨fun _ _ _ h _ => h, fun _ _ _ h _ => h, fun _ _ _ h _ => h, fun v_ _ _ h hc => by obtain ⟨a_, rfl, hh⟩ := h; exact ⟨a_, rfl, fun j u hu => cell_chg0 (hh j u hu) hc⟩, fun _ _ _ h _ => h, fun _ _ _ h _ => h, fun _ _ _ h _ => h, fun _ _ _ h _ => h, fun _ _ _ h _ => h, fun v_ _ _ h hc => by obtain ⟨A_, c_, rfl, hO_, hZ_⟩ := h; exact ⟨A_, c_, rfl, hO_.chg0 hc, hZ_⟩, trivial⟩
      · refine ⟨fun w10 hc11 => ?_, ?_⟩
        · have _w10 := trivial
          have hc11 : Chg [] w3 w10 := hc11
          have hz := hz.chg0 hc11
          have hOr4 := hOr4.chg0 hc11
          have hC := hC.then hc11 (by simp)
          exact Sv_val rfl (R_move rfl rfl) ⟨Chg.refl _ _, rfl, trivial⟩
        refine ⟨fun w12 hc13 => ?_, ?_⟩
        · have _w12 := trivial
          have hc13 : Chg [] w3 w12 := hc13
          have hz := hz.chg0 hc13
          have hOr4 := hOr4.chg0 hc13
          have hC := hC.then hc13 (by simp)
          exact Sv_val rfl (R_move rfl rfl) ⟨Chg.refl _ _, rfl, trivial⟩
        refine ⟨fun w14 hc15 => ?_, ?_⟩
        · have _w14 := trivial
          have hc15 : Chg [] w3 w14 := hc15
          have hz := hz.chg0 hc15
          have hOr4 := hOr4.chg0 hc15
          have hC := hC.then hc15 (by simp)
          exact Sv_val rfl (R_move rfl rfl) ⟨Chg.refl _ _, rfl, trivial⟩
        refine ⟨fun w16 hc17 => ?_, ?_⟩
        · have _w16 := trivial
          have hc17 : Chg [] w3 w16 := hc17
          have hz := hz.chg0 hc17
          have hOr4 := hOr4.chg0 hc17
          have hC := hC.then hc17 (by simp)
          rintro _ rfl _ rfl
          obtain ⟨hzl, _, hrl⟩ := (hOr4.mono (zle_E _)).lend hz hZr4
          obtain ⟨p_, cs_, hA_, rfl, hc_⟩ := hrl.at_ (0 : Int) (i := (i : Int)) (by omega) (by omega)
          exact Sv_val rfl (R_idx rfl rfl hA_ rfl Try.underlying22 size3 (by omega) (by omega)) ⟨Chg.refl _ _, ⟨_, rfl, fun j u hu => cell_add (hzl.cell (hc_ j u hu))⟩, trivial⟩
        refine ⟨fun w18 hc19 => ?_, ?_⟩
        · have _w18 := trivial
          have hc19 : Chg [] w3 w18 := hc19
          have hz := hz.chg0 hc19
          have hOr4 := hOr4.chg0 hc19
          have hC := hC.then hc19 (by simp)
          rintro _ ⟨p3, rfl, hp3⟩
          exact Sv_val rfl (R_load1 rfl rfl agg3 (cell0 (hp3 0 _ rfl))) ⟨Chg.refl _ _, rfl, trivial⟩
        refine ⟨fun w20 hc21 => ?_, ?_⟩
        · have _w20 := trivial
          have hc21 : Chg [] w3 w20 := hc21
          have hz := hz.chg0 hc21
          have hOr4 := hOr4.chg0 hc21
          have hC := hC.then hc21 (by simp)
          exact Sv_val rfl (R_move rfl rfl) ⟨Chg.refl _ _, rfl, trivial⟩
        refine ⟨fun w22 hc23 => ?_, ?_⟩
        · have _w22 := trivial
          have hc23 : Chg [] w3 w22 := hc23
          have hz := hz.chg0 hc23
          have hOr4 := hOr4.chg0 hc23
          have hC := hC.then hc23 (by simp)
          rintro _ rfl
          refine Sv_call rfl rfl rfl ent38 ?_
          refine (cut_calls (a0.getD i (0 : Int))  _   ).mono ?_
          rintro e_ w7 ⟨rfl, hc8⟩
          exact ⟨_, rfl, hc8, rfl, trivial⟩
        refine ⟨fun w24 hc25 => ?_, ?_⟩
        · have _w24 := trivial
          have hc25 : Chg [] w3 w24 := hc25
          have hz := hz.chg0 hc25
          have hOr4 := hOr4.chg0 hc25
          have hC := hC.then hc25 (by simp)
          rintro _ rfl _ rfl
          exact Sv_val rfl (R_add64 rfl rfl rfl (by omega) (by omega)) ⟨Chg.refl _ _, rfl, trivial⟩
        refine ⟨fun w26 hc27 => ?_, ?_⟩
        · have _w26 := trivial
          have hc27 : Chg [] w3 w26 := hc27
          have hz := hz.chg0 hc27
          have hOr4 := hOr4.chg0 hc27
          have hC := hC.then hc27 (by simp)
          rintro _ rfl
          exact Sv_val rfl (R_add64 rfl rfl rfl (by omega) (by omega)) ⟨Chg.refl _ _, rfl, trivial⟩
        refine ⟨fun w28 hc29 => ?_, ?_⟩
        · have _w28 := trivial
          have hc29 : Chg [] w3 w28 := hc29
          have hz := hz.chg0 hc29
          have hOr4 := hOr4.chg0 hc29
          have hC := hC.then hc29 (by simp)
          rintro _ rfl
          refine Sv_row (d := (kint .i64)) (z := zE) ([((((startsS a0).take (i + 1)).getD i (0 : Int)) + (cutS (a0.getD i (0 : Int)))) + 1] : List Int) rfl (R_buildSlice (ps := [(0, (.tmp 22))]) (vs := [.int .i64 (((((startsS a0).take (i + 1)).getD i (0 : Int)) + (cutS (a0.getD i (0 : Int)))) + 1)]) (w' := w28.alloc (.cells [.int .i64 (((((startsS a0).take (i + 1)).getD i (0 : Int)) + (cutS (a0.getD i (0 : Int)))) + 1)].toArray 3)) (r := .slice (some ⟨w28.heap.size, 0, none⟩) 1 1) rfl rfl rfl (by kernel_rfl)) (by simp [Reps, flat, kint]) rfl (by decide) (fun g_ w_ hc_ hn_ hO_ => ?_)
          exact ⟨hc_, ⟨_, _, rfl, hO_.lower (Nat.le_trans hC.size hn_), fresh_z hz (fun k hk => Nat.le_trans hn_ (hO_.base k hk)), fun k hk => Nat.le_trans hc29.size (Nat.le_trans hn_ (hO_.base k hk))⟩, fun k_ hk_ => ⟨Nat.le_trans hn_ (hO_.base k_ hk_), hO_.lt k_ hk_⟩⟩
        exact trivial
      · intro w30 hc31
        have hc31 : Chg [] w3 w30 := hc31
        have hltr4 := hOr4.lt
        have hz := hz.chg0 hc31
        have hOr4 := hOr4.chg0 hc31
        have hC := hC.then hc31 (by simp)
        rintro _ rfl _ rfl _ rfl _ ⟨p3, rfl, hp3⟩ _ rfl _ rfl _ rfl _ rfl _ rfl _ ⟨Ar9, cr9, rfl, hOr9, hZr9, hBr9⟩ _
        have hNr9 := hOr9.base
        have hmr9 := hOr9.cap.mx
        have hlr9 := hOr9.cap.le
        have hDr4_r9 : ∀ k ∈ blk Ar4, k ∉ blk Ar9 := disj_new hltr4 hBr9
        refine An_fr [(3, .slice Ar4 ((startsS a0).take (i + 1)).length cr4), (4, .int .i64 (i : Int)), (5, .int .i64 (a0.getD i (0 : Int))), (7, .slice Aa0 a0.length ca0), (8, .int .i64 (a0.length : Int)), (9, .int .i64 (i : Int)), (14, .slice Ar4 ((startsS a0).take (i + 1)).length cr4), (23, .slice Ar9 ([((((startsS a0).take (i + 1)).getD i (0 : Int)) + (cutS (a0.getD i (0 : Int)))) + 1] : List Int).length cr9)] rfl ?_
        obtain ⟨nw34, hpnw34, hqnw34⟩ := hOr9.cells
        refine An_one (i := 10) (by decide +kernel) rfl rfl (by decide) (Sv_append rfl rfl elem22 rfl hOr4 rfl hOr9.cap.nil hpnw34 hqnw34 (by (try simp only [List.length_cons, List.length_nil, maxLen]); omega) (by (try simp only [List.length_cons, List.length_nil, maxLen]); omega) hC.size (fun Ar32 cr32 w33 hOr32 hcr32 hkr32 => ?_))
        have hZr32 := grown_z hz hZr4 hkr32
        have hDr9_r32 : ∀ k ∈ blk Ar9, k ∉ blk Ar32 := disj_grown (disj_sym hDr4_r9) hOr9.lt hkr32
        have hz := hz.chg hcr32 hZr4
        have hOr9 := hOr9.chg hcr32 (disj_sym hDr4_r9)
        have hC := hC.then hcr32 (fun i hi => .inr (hNr4 i hi))
        have hNr32 := hOr32.base
        have hmr32 := hOr32.cap.mx
        have hlr32 := hOr32.cap.le
        refine An_one (i := 11) (by decide +kernel) rfl rfl (by decide) (Sv_val rfl (R_assign rfl rfl) ?_)
        refine An_done (by decide +kernel) ?_
        refine E_block_normal ?_
        refine E_then (C_fr [(3, .slice Ar32 (((startsS a0).take (i + 1)) ++ ([((((startsS a0).take (i + 1)).getD i (0 : Int)) + (cutS (a0.getD i (0 : Int)))) + 1] : List Int)).length cr32), (7, .slice Aa0 a0.length ca0), (8, .int .i64 (a0.length : Int)), (9, .int .i64 (i : Int))] rfl ?_)
        refine C_region ?_
        refine W_cons rfl (by decide) (Sv_val rfl (R_add64 rfl rfl rfl (by omega) (by omega)) ?_)
        refine W_cons rfl (by decide) (Sv_val rfl (R_move rfl rfl) ?_)
        refine W_nil ?_
        have hs35 : ((startsS a0).take (i + 1)) ++ ([((((startsS a0).take (i + 1)).getD i (0 : Int)) + (cutS (a0.getD i (0 : Int)))) + 1] : List Int) = (startsS a0).take ((i + 1 : Nat) + 1) := by exact starts_take a0 i (by omega)
        rw [hs35] at hOr32
        refine E_round [3, 7, 8, 9] ?_ ⟨(i + 1), Ar32, cr32, (by rw [← hs35]; rfl), (by omega), rfl, hz, hC, hOr32, hZr32⟩
        omega
    · have _hC0 := trivial
      have hC0p : ¬ ((i : Int) < (a0.length : Int)) := by simpa using hC0
      refine C_exit ?_
      refine E_then_exit ?_
      refine E_then_exit ?_
      refine E_block_hit ?_
      refine E_then ?_
      refine C_seq ?_
      refine C_region ?_
      refine W_cons rfl (by decide) (Sv_val rfl (R_move rfl rfl) ?_)
      refine W_cons rfl (by decide) (Sv_val rfl (R_assign rfl rfl) ?_)
      refine W_nil ?_
      refine E_then (C_fr [(2, .slice Ar4 ((startsS a0).take (i + 1)).length cr4)] rfl ?_)
      refine C_ret ?_
      refine E_ret1 rfl rfl ?_
      have hq36 : (startsS a0).take (i + 1) = startsS a0 := by (have hlen := starts_len a0); exact List.take_of_length_le (by omega)
      exact ⟨Ar4, cr4, Lret1 (Lslice hq36), (hq36 ▸ hOr4), hC⟩

set_option maxHeartbeats 400000 in
set_option maxRecDepth 20000 in
theorem same_calls (Aa0 : Option Addr) (ca0 : Nat) (a0 : List Int) (Aa1 : Option Addr) (ca1 : Nat) (a1 : List Int) (z : Z) (w : World) (hz : Sub z w) (hra0 : Rd (kint .i64) z Aa0 a0) (hca0 : Cap Aa0 a0.length ca0) (hra1 : Rd (kint .i64) z Aa1 a1) (hca1 : Cap Aa1 a1.length ca1)  :
    Calls Try.prog 13 #[.slice Aa0 a0.length ca0, .slice Aa1 a1.length ca1] w fun e w' => e = .returned (.bool (decide (a0 = a1))) ∧ Chg [] w w' := by
  have hla0 := hca0.le
  have hma0 := hca0.mx
  have hla1 := hca1.le
  have hma1 := hca1.mx
  have hC := Chg.refl [] w
  refine Calls_of (vs := [.slice Aa0 a0.length ca0, .slice Aa1 a1.length ca1]) (N := 26) Try.func13 rfl rfl (Nat.le_of_ble_eq_true rfl) ?_
  refine C_seq ?_
  refine C_region ?_
  refine W_cons rfl (by decide) (Sv_val rfl (R_assign rfl rfl) ?_)
  refine W_nil ?_
  refine E_then ?_
  refine C_seq ?_
  refine C_seq ?_
  refine C_region ?_
  refine W_cons rfl (by decide) (Sv_val rfl (R_move rfl rfl) ?_)
  refine W_cons rfl (by decide) (Sv_val rfl (R_len rfl rfl Try.underlying22) ?_)
  refine W_cons rfl (by decide) (Sv_val rfl (R_move rfl rfl) ?_)
  refine W_cons rfl (by decide) (Sv_val rfl (R_len rfl rfl Try.underlying22) ?_)
  refine W_cons rfl (by decide) (Sv_val rfl (R_bin rfl rfl rfl rfl rfl) ?_)
  refine W_nil ?_
  refine E_then (C_fr [(0, .slice Aa0 a0.length ca0), (1, .slice Aa1 a1.length ca1), (10, .bool ((a0.length : Int) != (a1.length : Int)))] rfl ?_)
  refine C_ite rfl (fun hC0 => ?_) (fun hC0 => ?_)
  · have _hC0 := trivial
    have hC0p : ¬ (a0.length : Int) = (a1.length : Int) := by simpa using hC0
    refine C_seq ?_
    refine C_region ?_
    refine W_cons rfl (by decide) (Sv_val rfl (R_assign rfl rfl) ?_)
    refine W_nil ?_
    refine E_then ?_
    refine C_ret ?_
    refine E_then_ret ?_
    refine E_ret1 rfl rfl ?_
    exact ⟨Lret1 (Lbool (show false = decide (a0 = a1) by first | exact same_len hC0p | exact same_ne hC2p | exact same_end (by omega) (by omega) hI0_1)), hC⟩
  · have _hC0 := trivial
    have hC0p : (a0.length : Int) = (a1.length : Int) := by simpa using hC0
    refine C_skip ?_
    refine E_then ?_
    refine C_seq ?_
    refine C_seq ?_
    refine C_region ?_
    refine W_cons rfl (by decide) (Sv_val rfl (R_assign rfl rfl) ?_)
    refine W_nil ?_
    refine E_then ?_
    refine C_block ?_
    refine C_fr [(0, .slice Aa0 a0.length ca0), (1, .slice Aa1 a1.length ca1), (5, .int .i64 0)] rfl ?_
    refine C_loop (fun m_ f_ w_ => ∃ (i : Nat), f_ = [(0, .slice Aa0 a0.length ca0), (1, .slice Aa1 a1.length ca1), (5, .int .i64 (i : Int))] ∧ i ≤ a0.length ∧ (∀ q, q < i → a0.getD q 0 = a1.getD q 0) ∧ m_ = a0.length - i ∧ Sub z w_ ∧ Chg [] w w_) (a0.length - 0) ?_ ?_
    · exact ⟨0, rfl, (by omega), (by intro q hq; omega), rfl, hz, hC⟩
    · rintro m_ f_ w1 ⟨i, rfl, hI0_0, hI0_1, rfl, hz, hC⟩
      refine C_seq ?_
      refine C_seq ?_
      refine C_region ?_
      refine W_cons rfl (by decide) (Sv_val rfl (R_move rfl rfl) ?_)
      refine W_cons rfl (by decide) (Sv_val rfl (R_move rfl rfl) ?_)
      refine W_cons rfl (by decide) (Sv_val rfl (R_len rfl rfl Try.underlying22) ?_)
      refine W_cons rfl (by decide) (Sv_val rfl (R_bin rfl rfl rfl rfl rfl) ?_)
      refine W_nil ?_
      refine E_then ?_
      refine C_ite rfl (fun hC1 => ?_) (fun hC1 => ?_)
      · have _hC1 := trivial
        have hC1p : (i : Int) < (a0.length : Int) := by simpa using hC1
        refine C_skip ?_
        refine E_then ?_
        refine C_seq ?_
        refine C_block ?_
        refine C_seq ?_
        refine C_fr [(0, .slice Aa0 a0.length ca0), (1, .slice Aa1 a1.length ca1), (5, .int .i64 (i : Int))] rfl ?_
        obtain ⟨q2, csq2, hAq2, rfl, hcq2⟩ := hra0.at_ (0 : Int) (i := (i : Int)) (by omega) (by omega)
        have hcq2 : ∀ (j_ : Nat) (u_ : Value), ([.int .i64 (a0.getD i (0 : Int))] : List Value)[j_]? = some u_ → cz z (q2.add (i * 1 + j_)) = some u_ := hcq2
        obtain ⟨q3, csq3, hAq3, rfl, hcq3⟩ := hra1.at_ (0 : Int) (i := (i : Int)) (by omega) (by omega)
        have hcq3 : ∀ (j_ : Nat) (u_ : Value), ([.int .i64 (a1.getD i (0 : Int))] : List Value)[j_]? = some u_ → cz z (q3.add (i * 1 + j_)) = some u_ := hcq3
        refine C_drawnX 9 [[], [], [0, 1], [2], [], [], [4, 5], [6], [3, 7]] [some 17, some 18, some 19, some 20, some 21, some 22, some 23, some 24, some 25] [0, 1, 5] [[], [], [], [], [], [], [], [], []] [9, 9, 9, 9, 9, 9, 9, 9, 9] [false, false, false, false, false, false, false, false, false] rfl (by kernel_rfl) (by decide +kernel) [fun v _ => v = .slice Aa0 a0.length ca0, fun v _ => v = .int .i64 (i : Int), fun v _ => v = .pointer (some (q2.add (i * 1))), fun v _ => v = .int .i64 (a0.getD i (0 : Int)), fun v _ => v = .slice Aa1 a1.length ca1, fun v _ => v = .int .i64 (i : Int), fun v _ => v = .pointer (some (q3.add (i * 1))), fun v _ => v = .int .i64 (a1.getD i (0 : Int)), fun v _ => v = .bool ((a0.getD i (0 : Int)) != (a1.getD i (0 : Int)))] ?_ ?_ ?_
        · exact ⟨fun _ _ _ h _ => h, fun _ _ _ h _ => h, fun _ _ _ h _ => h, fun _ _ _ h _ => h, fun _ _ _ h _ => h, fun _ _ _ h _ => h, fun _ _ _ h _ => h, fun _ _ _ h _ => h, fun _ _ _ h _ => h, trivial⟩
        · refine ⟨fun w4 hc5 => ?_, ?_⟩
          · have _w4 := trivial
            have hc5 : Chg [] w1 w4 := hc5
            have hz := hz.chg0 hc5
            have hC := hC.then hc5 (by simp)
            exact Sv_val rfl (R_move rfl rfl) ⟨Chg.refl _ _, rfl, trivial⟩
          refine ⟨fun w6 hc7 => ?_, ?_⟩
          · have _w6 := trivial
            have hc7 : Chg [] w1 w6 := hc7
            have hz := hz.chg0 hc7
            have hC := hC.then hc7 (by simp)
            exact Sv_val rfl (R_move rfl rfl) ⟨Chg.refl _ _, rfl, trivial⟩
          refine ⟨fun w8 hc9 => ?_, ?_⟩
          · have _w8 := trivial
            have hc9 : Chg [] w1 w8 := hc9
            have hz := hz.chg0 hc9
            have hC := hC.then hc9 (by simp)
            rintro _ rfl _ rfl
            exact Sv_val rfl (R_idx rfl rfl hAq2 rfl Try.underlying22 size3 (by omega) (by omega)) ⟨Chg.refl _ _, rfl, trivial⟩
          refine ⟨fun w10 hc11 => ?_, ?_⟩
          · have _w10 := trivial
            have hc11 : Chg [] w1 w10 := hc11
            have hz := hz.chg0 hc11
            have hC := hC.then hc11 (by simp)
            rintro _ rfl
            exact Sv_val rfl (R_load1 rfl rfl agg3 (hz.cell (hcq2 0 _ rfl))) ⟨Chg.refl _ _, rfl, trivial⟩
          refine ⟨fun w12 hc13 => ?_, ?_⟩
          · have _w12 := trivial
            have hc13 : Chg [] w1 w12 := hc13
            have hz := hz.chg0 hc13
            have hC := hC.then hc13 (by simp)
            exact Sv_val rfl (R_move rfl rfl) ⟨Chg.refl _ _, rfl, trivial⟩
          refine ⟨fun w14 hc15 => ?_, ?_⟩
          · have _w14 := trivial
            have hc15 : Chg [] w1 w14 := hc15
            have hz := hz.chg0 hc15
            have hC := hC.then hc15 (by simp)
            exact Sv_val rfl (R_move rfl rfl) ⟨Chg.refl _ _, rfl, trivial⟩
          refine ⟨fun w16 hc17 => ?_, ?_⟩
          · have _w16 := trivial
            have hc17 : Chg [] w1 w16 := hc17
            have hz := hz.chg0 hc17
            have hC := hC.then hc17 (by simp)
            rintro _ rfl _ rfl
            exact Sv_val rfl (R_idx rfl rfl hAq3 rfl Try.underlying22 size3 (by omega) (by omega)) ⟨Chg.refl _ _, rfl, trivial⟩
          refine ⟨fun w18 hc19 => ?_, ?_⟩
          · have _w18 := trivial
            have hc19 : Chg [] w1 w18 := hc19
            have hz := hz.chg0 hc19
            have hC := hC.then hc19 (by simp)
            rintro _ rfl
            exact Sv_val rfl (R_load1 rfl rfl agg3 (hz.cell (hcq3 0 _ rfl))) ⟨Chg.refl _ _, rfl, trivial⟩
          refine ⟨fun w20 hc21 => ?_, ?_⟩
          · have _w20 := trivial
            have hc21 : Chg [] w1 w20 := hc21
            have hz := hz.chg0 hc21
            have hC := hC.then hc21 (by simp)
            rintro _ rfl _ rfl
            exact Sv_val rfl (R_bin rfl rfl rfl rfl rfl) ⟨Chg.refl _ _, rfl, trivial⟩
          exact trivial
        · intro w22 hc23
          have hc23 : Chg [] w1 w22 := hc23
          have hz := hz.chg0 hc23
          have hC := hC.then hc23 (by simp)
          rintro _ rfl _ rfl _ rfl _ rfl _ rfl _ rfl _ rfl _ rfl _ rfl _
          refine An_fr [(0, .slice Aa0 a0.length ca0), (1, .slice Aa1 a1.length ca1), (5, .int .i64 (i : Int)), (25, .bool ((a0.getD i (0 : Int)) != (a1.getD i (0 : Int))))] rfl ?_
          refine An_done (by decide +kernel) ?_
          refine E_then ?_
          refine C_ite rfl (fun hC2 => ?_) (fun hC2 => ?_)
          · have _hC2 := trivial
            have hC2p : ¬ (a0.getD i (0 : Int)) = (a1.getD i (0 : Int)) := by simpa using hC2
            refine C_seq ?_
            refine C_region ?_
            refine W_cons rfl (by decide) (Sv_val rfl (R_assign rfl rfl) ?_)
            refine W_nil ?_
            refine E_then ?_
            refine C_ret ?_
            refine E_block_ret ?_
            refine E_then_ret ?_
            refine E_then_ret ?_
            refine E_block_ret ?_
            refine E_then_ret ?_
            refine E_ret1 rfl rfl ?_
            exact ⟨Lret1 (Lbool (show false = decide (a0 = a1) by first | exact same_len hC0p | exact same_ne hC2p | exact same_end (by omega) (by omega) hI0_1)), hC⟩
          · have _hC2 := trivial
            have hC2p : (a0.getD i (0 : Int)) = (a1.getD i (0 : Int)) := by simpa using hC2
            refine C_skip ?_
            refine E_block_normal ?_
            refine E_then ?_
            refine C_region ?_
            refine W_cons rfl (by decide) (Sv_val rfl (R_move rfl rfl) ?_)
            refine W_cons rfl (by decide) (Sv_val rfl (R_add64 rfl rfl rfl (by omega) (by omega)) ?_)
            refine W_cons rfl (by decide) (Sv_val rfl (R_assign rfl rfl) ?_)
            refine W_nil ?_
            refine E_round [0, 1, 5] ?_ ⟨(i + 1), rfl, (by omega), (by exact same_next hI0_1 hC2p), rfl, hz, hC⟩
            omega
      · have _hC1 := trivial
        have hC1p : ¬ ((i : Int) < (a0.length : Int)) := by simpa using hC1
        refine C_exit ?_
        refine E_then_exit ?_
        refine E_then_exit ?_
        refine E_block_hit ?_
        refine E_then (C_fr [] rfl ?_)
        refine C_seq ?_
        refine C_region ?_
        refine W_cons rfl (by decide) (Sv_val rfl (R_assign rfl rfl) ?_)
        refine W_nil ?_
        refine E_then ?_
        refine C_ret ?_
        refine E_ret1 rfl rfl ?_
        exact ⟨Lret1 (Lbool (show true = decide (a0 = a1) by first | exact same_len hC0p | exact same_ne hC2p | exact same_end (by omega) (by omega) hI0_1)), hC⟩

set_option maxHeartbeats 400000 in
set_option maxRecDepth 20000 in
theorem rslots_calls (Aa0 : Option Addr) (ca0 : Nat) (a0 : List Int) (z : Z) (w : World) (hz : Sub z w) (hra0 : Rd (kint .i64) z Aa0 a0) (hca0 : Cap Aa0 a0.length ca0) (p0 : a0.length ≤ 1000000) :
    Calls Try.prog 16 #[.slice Aa0 a0.length ca0] w fun e w' => ∃ AR0 cR0, e = .returned (.slice AR0 (slotsS a0).length cR0) ∧ Own (kint .i64) 3 w.heap.size zE w' AR0 cR0 (slotsS a0) ∧ Chg [] w w' := by
  have hla0 := hca0.le
  have hma0 := hca0.mx
  have hC := Chg.refl [] w
  refine Calls_of (vs := [.slice Aa0 a0.length ca0]) (N := 30) Try.func16 rfl rfl (Nat.le_of_ble_eq_true rfl) ?_
  refine C_seq ?_
  refine C_region ?_
  refine W_cons rfl (by decide) (Sv_val rfl (R_assign rfl rfl) ?_)
  refine W_nil ?_
  refine E_then ?_
  refine C_seq ?_
  refine C_region ?_
  refine W_cons rfl (by decide) (Sv_row (d := (kint .i64)) (z := zE) ([(-1)] : List Int) rfl (R_buildSlice (ps := [(0, (.const (.int .i64 (-1))))]) (vs := [.int .i64 (-1)]) (w' := w.alloc (.cells [.int .i64 (-1)].toArray 3)) (r := .slice (some ⟨w.heap.size, 0, none⟩) 1 1) rfl rfl rfl (by kernel_rfl)) (by simp [Reps, flat, kint]) rfl (by decide) (fun g1 w2 hcg1 hng1 hOg1 => ?_))
  have hOg1 := hOg1.lower hng1
  have hZg1 : ∀ k ∈ blk (some ⟨g1, 0, none⟩), z k = none := fresh_z hz hOg1.base
  have hNg1 : ∀ k ∈ blk (some ⟨g1, 0, none⟩), w.heap.size ≤ k := newC hOg1.base hC.size
  have hOg1 := hOg1.lower hC.size
  have hz := hz.chg0 hcg1
  have hC := hC.then hcg1 (by simp)
  have hmg1 := hOg1.cap.mx
  have hlg1 := hOg1.cap.le
  refine W_cons rfl (by decide) (Sv_val rfl (R_assign rfl rfl) ?_)
  refine W_nil ?_
  refine E_then ?_
  refine C_seq ?_
  refine C_seq ?_
  refine C_region ?_
  refine W_cons rfl (by decide) (Sv_val rfl (R_assign rfl rfl) ?_)
  refine W_nil ?_
  refine E_then ?_
  refine C_block ?_
  have hs5 : ([(-1)] : List Int) = slotsS (a0.take (0 : Nat)) := by rfl
  rw [hs5] at hOg1
  refine C_fr [(0, .slice Aa0 a0.length ca0), (3, .slice (some ⟨g1, 0, none⟩) (slotsS (a0.take (0 : Nat))).length 1), (4, .int .i64 0)] (by rw [← hs5]; rfl) ?_
  refine C_loop (fun m_ f_ w_ => ∃ (i : Nat) (Ar4 : Option Addr) (cr4 : Nat), f_ = [(0, .slice Aa0 a0.length ca0), (3, .slice Ar4 (slotsS (a0.take i)).length cr4), (4, .int .i64 (i : Int))] ∧ i ≤ a0.length ∧ m_ = a0.length - i ∧ Sub z w_ ∧ Chg [] w w_ ∧ Own (kint .i64) 3 w.heap.size zE w_ Ar4 cr4 (slotsS (a0.take i)) ∧ (∀ b_ ∈ blk Ar4, z b_ = none)) (a0.length - 0) ?_ ?_
  · exact ⟨0, (some ⟨g1, 0, none⟩), 1, rfl, (by omega), rfl, hz, hC, hOg1, hZg1⟩
  · rintro m_ f_ w3 ⟨i, Ar4, cr4, rfl, hI0_0, rfl, hz, hC, hOr4, hZr4⟩
    have hNr4 := hOr4.base
    have hmr4 := hOr4.cap.mx
    have hlr4 := hOr4.cap.le
    have hsl := slots_len (a0.take i)
    have htl : (a0.take i).length = i := by rw [List.length_take]; omega
    have hcb := cut_bd (a0.getD i 0)
    refine C_seq ?_
    refine C_seq ?_
    refine C_region ?_
    refine W_cons rfl (by decide) (Sv_val rfl (R_move rfl rfl) ?_)
    refine W_cons rfl (by decide) (Sv_val rfl (R_move rfl rfl) ?_)
    refine W_cons rfl (by decide) (Sv_val rfl (R_len rfl rfl Try.underlying22) ?_)
    refine W_cons rfl (by decide) (Sv_val rfl (R_bin rfl rfl rfl rfl rfl) ?_)
    refine W_nil ?_
    refine E_then ?_
    refine C_ite rfl (fun hC0 => ?_) (fun hC0 => ?_)
    · have _hC0 := trivial
      have hC0p : (i : Int) < (a0.length : Int) := by simpa using hC0
      refine C_skip ?_
      refine E_then ?_
      refine C_seq ?_
      refine C_block ?_
      refine C_seq ?_
      refine C_seq ?_
      refine C_region ?_
      refine W_cons rfl (by decide) (Sv_val rfl (R_assign rfl rfl) ?_)
      refine W_nil ?_
      refine E_then ?_
      refine C_block ?_
      have hs8 : slotsS (a0.take i) = slotsS (a0.take i) ++ List.replicate (0 : Nat) (i : Int) := by simp
      rw [hs8] at hOr4
      refine C_fr [(0, .slice Aa0 a0.length ca0), (3, .slice Ar4 (slotsS (a0.take i) ++ List.replicate (0 : Nat) (i : Int)).length cr4), (4, .int .i64 (i : Int)), (5, .int .i64 0)] (by rw [← hs8]; rfl) ?_
      refine C_loop (fun m_ f_ w_ => ∃ (k : Nat) (Ar7 : Option Addr) (cr7 : Nat), f_ = [(0, .slice Aa0 a0.length ca0), (3, .slice Ar7 (slotsS (a0.take i) ++ List.replicate k (i : Int)).length cr7), (4, .int .i64 (i : Int)), (5, .int .i64 (k : Int))] ∧ (k : Int) ≤ cutS (a0.getD i 0) ∧ m_ = (cutS (a0.getD i 0)).toNat - k ∧ Sub z w_ ∧ Chg [] w w_ ∧ Own (kint .i64) 3 w.heap.size zE w_ Ar7 cr7 (slotsS (a0.take i) ++ List.replicate k (i : Int)) ∧ (∀ b_ ∈ blk Ar7, z b_ = none)) ((cutS (a0.getD i 0)).toNat - 0) ?_ ?_
      · exact ⟨0, Ar4, cr4, rfl, (by omega), rfl, hz, hC, hOr4, hZr4⟩
      · rintro m_ f_ w6 ⟨k, Ar7, cr7, rfl, hI1_0, rfl, hz, hC, hOr7, hZr7⟩
        have hNr7 := hOr7.base
        have hmr7 := hOr7.cap.mx
        have hlr7 := hOr7.cap.le
        have hrl : (slotsS (a0.take i) ++ List.replicate k (i : Int)).length = (slotsS (a0.take i)).length + k := by simp
        refine C_seq ?_
        refine C_seq ?_
        refine C_region ?_
        refine W_cons rfl (by decide) (Sv_val rfl (R_move rfl rfl) ?_)
        refine W_cons rfl (by decide) (Sv_val rfl (R_move rfl rfl) ?_)
        refine W_cons rfl (by decide) (Sv_val rfl (R_move rfl rfl) ?_)
        obtain ⟨q9, csq9, hAq9, rfl, hcq9⟩ := hra0.at_ (0 : Int) (i := (i : Int)) (by omega) (by omega)
        have hcq9 : ∀ (j_ : Nat) (u_ : Value), ([.int .i64 (a0.getD i (0 : Int))] : List Value)[j_]? = some u_ → cz z (q9.add (i * 1 + j_)) = some u_ := hcq9
        refine W_cons rfl (by decide) (Sv_val rfl (R_idx rfl rfl hAq9 rfl Try.underlying22 size3 (by omega) (by omega)) ?_)
        refine W_cons rfl (by decide) (Sv_val rfl (R_load1 rfl rfl agg3 (hz.cell (hcq9 0 _ rfl))) ?_)
        refine W_cons rfl (by decide) (Sv_call rfl rfl rfl ent39 ?_)
        refine (rsize_calls (a0.getD i (0 : Int))  _   ).mono ?_
        rintro e_ w10 ⟨rfl, hc11⟩
        refine ⟨_, rfl, ?_⟩
        have hz := hz.chg0 hc11
        have hOr7 := hOr7.chg0 hc11
        have hC := hC.then hc11 (by simp)
        refine W_cons rfl (by decide) (Sv_val rfl (R_bin rfl rfl rfl rfl rfl) ?_)
        refine W_nil ?_
        refine E_then (C_fr [(0, .slice Aa0 a0.length ca0), (3, .slice Ar7 (slotsS (a0.take i) ++ List.replicate k (i : Int)).length cr7), (4, .int .i64 (i : Int)), (5, .int .i64 (k : Int)), (19, .bool (decide ((k : Int) < (cutS (a0.getD i (0 : Int))))))] rfl ?_)
        refine C_ite rfl (fun hC1 => ?_) (fun hC1 => ?_)
        · have _hC1 := trivial
          have hC1p : (k : Int) < (cutS (a0.getD i (0 : Int))) := by simpa using hC1
          refine C_skip ?_
          refine E_then ?_
          refine C_seq ?_
          refine C_block ?_
          refine C_region ?_
          refine W_cons rfl (by decide) (Sv_val rfl (R_move rfl rfl) ?_)
          refine W_cons rfl (by decide) (Sv_val rfl (R_move rfl rfl) ?_)
          refine W_cons rfl (by decide) (Sv_row (d := (kint .i64)) (z := zE) ([(i : Int)] : List Int) rfl (R_buildSlice (ps := [(0, (.tmp 23))]) (vs := [.int .i64 (i : Int)]) (w' := w10.alloc (.cells [.int .i64 (i : Int)].toArray 3)) (r := .slice (some ⟨w10.heap.size, 0, none⟩) 1 1) rfl rfl rfl (by kernel_rfl)) (by simp [Reps, flat, kint]) rfl (by decide) (fun g12 w13 hcg12 hng12 hOg12 => ?_))
          have hOg12 := hOg12.lower hng12
          have hDr7_g12 : ∀ k ∈ blk Ar7, k ∉ blk (some ⟨g12, 0, none⟩) := disj_new hOr7.lt hOg12.base
          have hZg12 : ∀ k ∈ blk (some ⟨g12, 0, none⟩), z k = none := fresh_z hz hOg12.base
          have hNg12 : ∀ k ∈ blk (some ⟨g12, 0, none⟩), w.heap.size ≤ k := newC hOg12.base hC.size
          have hOg12 := hOg12.lower hC.size
          have hz := hz.chg0 hcg12
          have hOr7 := hOr7.chg0 hcg12
          have hC := hC.then hcg12 (by simp)
          have hmg12 := hOg12.cap.mx
          have hlg12 := hOg12.cap.le
          obtain ⟨nw16, hpnw16, hqnw16⟩ := hOg12.cells
          refine W_cons rfl (by decide) (Sv_append rfl rfl elem22 rfl hOr7 rfl hOg12.cap.nil hpnw16 hqnw16 (by (try simp only [List.length_cons, List.length_nil, maxLen]); omega) (by (try simp only [List.length_cons, List.length_nil, maxLen]); omega) hC.size (fun Ar14 cr14 w15 hOr14 hcr14 hkr14 => ?_))
          have hZr14 := grown_z hz hZr7 hkr14
          have hDg12_r14 : ∀ k ∈ blk (some ⟨g12, 0, none⟩), k ∉ blk Ar14 := disj_grown (disj_sym hDr7_g12) hOg12.lt hkr14
          have hz := hz.chg hcr14 hZr7
          have hOg12 := hOg12.chg hcr14 (disj_sym hDr7_g12)
          have hC := hC.then hcr14 (fun i hi => .inr (hNr7 i hi))
          have hNr14 := hOr14.base
          have hmr14 := hOr14.cap.mx
          have hlr14 := hOr14.cap.le
          refine W_cons rfl (by decide) (Sv_val rfl (R_assign rfl rfl) ?_)
          refine W_nil ?_
          refine E_block_normal ?_
          refine E_then (C_fr [(0, .slice Aa0 a0.length ca0), (3, .slice Ar14 ((slotsS (a0.take i) ++ List.replicate k (i : Int)) ++ ([(i : Int)] : List Int)).length cr14), (4, .int .i64 (i : Int)), (5, .int .i64 (k : Int))] rfl ?_)
          refine C_region ?_
          refine W_cons rfl (by decide) (Sv_val rfl (R_move rfl rfl) ?_)
          refine W_cons rfl (by decide) (Sv_val rfl (R_add64 rfl rfl rfl (by omega) (by omega)) ?_)
          refine W_cons rfl (by decide) (Sv_val rfl (R_assign rfl rfl) ?_)
          refine W_nil ?_
          have hs17 : (slotsS (a0.take i) ++ List.replicate k (i : Int)) ++ ([(i : Int)] : List Int) = slotsS (a0.take i) ++ List.replicate (k + 1 : Nat) (i : Int) := by simp [List.replicate_succ']
          rw [hs17] at hOr14
          refine E_round [0, 3, 4, 5] ?_ ⟨(k + 1), Ar14, cr14, (by rw [← hs17]; rfl), (by omega), rfl, hz, hC, hOr14, hZr14⟩
          omega
        · have _hC1 := trivial
          have hC1p : ¬ ((k : Int) < (cutS (a0.getD i (0 : Int)))) := by simpa using hC1
          refine C_exit ?_
          refine E_then_exit ?_
          refine E_then_exit ?_
          refine E_block_hit ?_
          refine E_then ?_
          refine C_region ?_
          refine W_cons rfl (by decide) (Sv_val rfl (R_move rfl rfl) ?_)
          refine W_cons rfl (by decide) (Sv_row (d := (kint .i64)) (z := zE) ([(-1)] : List Int) rfl (R_buildSlice (ps := [(0, (.const (.int .i64 (-1))))]) (vs := [.int .i64 (-1)]) (w' := w10.alloc (.cells [.int .i64 (-1)].toArray 3)) (r := .slice (some ⟨w10.heap.size, 0, none⟩) 1 1) rfl rfl rfl (by kernel_rfl)) (by simp [Reps, flat, kint]) rfl (by decide) (fun g18 w19 hcg18 hng18 hOg18 => ?_))
          have hOg18 := hOg18.lower hng18
          have hDr7_g18 : ∀ k ∈ blk Ar7, k ∉ blk (some ⟨g18, 0, none⟩) := disj_new hOr7.lt hOg18.base
          have hZg18 : ∀ k ∈ blk (some ⟨g18, 0, none⟩), z k = none := fresh_z hz hOg18.base
          have hNg18 : ∀ k ∈ blk (some ⟨g18, 0, none⟩), w.heap.size ≤ k := newC hOg18.base hC.size
          have hOg18 := hOg18.lower hC.size
          have hz := hz.chg0 hcg18
          have hOr7 := hOr7.chg0 hcg18
          have hC := hC.then hcg18 (by simp)
          have hmg18 := hOg18.cap.mx
          have hlg18 := hOg18.cap.le
          obtain ⟨nw22, hpnw22, hqnw22⟩ := hOg18.cells
          refine W_cons rfl (by decide) (Sv_append rfl rfl elem22 rfl hOr7 rfl hOg18.cap.nil hpnw22 hqnw22 (by (try simp only [List.length_cons, List.length_nil, maxLen]); omega) (by (try simp only [List.length_cons, List.length_nil, maxLen]); omega) hC.size (fun Ar20 cr20 w21 hOr20 hcr20 hkr20 => ?_))
          have hZr20 := grown_z hz hZr7 hkr20
          have hDg18_r20 : ∀ k ∈ blk (some ⟨g18, 0, none⟩), k ∉ blk Ar20 := disj_grown (disj_sym hDr7_g18) hOg18.lt hkr20
          have hz := hz.chg hcr20 hZr7
          have hOg18 := hOg18.chg hcr20 (disj_sym hDr7_g18)
          have hC := hC.then hcr20 (fun i hi => .inr (hNr7 i hi))
          have hNr20 := hOr20.base
          have hmr20 := hOr20.cap.mx
          have hlr20 := hOr20.cap.le
          refine W_cons rfl (by decide) (Sv_val rfl (R_assign rfl rfl) ?_)
          refine W_nil ?_
          refine E_block_normal ?_
          refine E_then (C_fr [(0, .slice Aa0 a0.length ca0), (3, .slice Ar20 ((slotsS (a0.take i) ++ List.replicate k (i : Int)) ++ ([(-1)] : List Int)).length cr20), (4, .int .i64 (i : Int))] rfl ?_)
          refine C_region ?_
          refine W_cons rfl (by decide) (Sv_val rfl (R_move rfl rfl) ?_)
          refine W_cons rfl (by decide) (Sv_val rfl (R_add64 rfl rfl rfl (by omega) (by omega)) ?_)
          refine W_cons rfl (by decide) (Sv_val rfl (R_assign rfl rfl) ?_)
          refine W_nil ?_
          have hs23 : (slotsS (a0.take i) ++ List.replicate k (i : Int)) ++ ([(-1)] : List Int) = slotsS (a0.take (i + 1 : Nat)) := by exact slots_next a0 i k (by omega) (by omega)
          rw [hs23] at hOr20
          refine E_round [0, 3, 4] ?_ ⟨(i + 1), Ar20, cr20, (by rw [← hs23]; rfl), (by omega), rfl, hz, hC, hOr20, hZr20⟩
          omega
    · have _hC0 := trivial
      have hC0p : ¬ ((i : Int) < (a0.length : Int)) := by simpa using hC0
      refine C_exit ?_
      refine E_then_exit ?_
      refine E_then_exit ?_
      refine E_block_hit ?_
      refine E_then (C_fr [(3, .slice Ar4 (slotsS (a0.take i)).length cr4)] rfl ?_)
      refine C_seq ?_
      refine C_region ?_
      refine W_cons rfl (by decide) (Sv_val rfl (R_move rfl rfl) ?_)
      refine W_cons rfl (by decide) (Sv_val rfl (R_assign rfl rfl) ?_)
      refine W_nil ?_
      refine E_then ?_
      refine C_ret ?_
      refine E_ret1 rfl rfl ?_
      have hq24 : slotsS (a0.take i) = slotsS a0 := by rw [List.take_of_length_le (by omega)]
      exact ⟨Ar4, cr4, Lret1 (Lslice hq24), (hq24 ▸ hOr4), hC⟩

set_option maxHeartbeats 400000 in
set_option maxRecDepth 20000 in
theorem rstarts_calls (Aa0 : Option Addr) (ca0 : Nat) (a0 : List Int) (z : Z) (w : World) (hz : Sub z w) (hra0 : Rd (kint .i64) z Aa0 a0) (hca0 : Cap Aa0 a0.length ca0) (p0 : a0.length ≤ 1000000) :
    Calls Try.prog 15 #[.slice Aa0 a0.length ca0] w fun e w' => ∃ AR0 cR0, e = .returned (.slice AR0 (startsS a0).length cR0) ∧ Own (kint .i64) 3 w.heap.size zE w' AR0 cR0 (startsS a0) ∧ Chg [] w w' := by
  have hla0 := hca0.le
  have hma0 := hca0.mx
  have hC := Chg.refl [] w
  refine Calls_of (vs := [.slice Aa0 a0.length ca0]) (N := 36) Try.func15 rfl rfl (Nat.le_of_ble_eq_true rfl) ?_
  refine C_seq ?_
  refine C_region ?_
  refine W_cons rfl (by decide) (Sv_val rfl (R_assign rfl rfl) ?_)
  refine W_nil ?_
  refine E_then ?_
  refine C_seq ?_
  refine C_region ?_
  refine W_cons rfl (by decide) (Sv_val rfl (R_assign rfl rfl) ?_)
  refine W_nil ?_
  refine E_then ?_
  refine C_seq ?_
  refine C_region ?_
  refine W_cons rfl (by decide) (Sv_val rfl (R_move rfl rfl) ?_)
  refine W_cons rfl (by decide) (Sv_call rfl rfl rfl ent16 ?_)
  refine (rslots_calls Aa0 ca0 a0 _ _ hz hra0 hca0 (by omega)).mono ?_
  rintro e_ w1 ⟨Ar3, cr3, rfl, hOr3, hc2⟩
  refine ⟨_, rfl, ?_⟩
  have hZr3 : ∀ k ∈ blk Ar3, z k = none := fresh_z hz hOr3.base
  have hNr3 : ∀ k ∈ blk Ar3, w.heap.size ≤ k := newC hOr3.base hC.size
  have hOr3 := hOr3.lower hC.size
  have hz := hz.chg0 hc2
  have hC := hC.then hc2 (by simp)
  have hmr3 := hOr3.cap.mx
  have hlr3 := hOr3.cap.le
  obtain ⟨z4, hz, hler3, hrr3, hnr3⟩ := (hOr3.mono (zle_E _)).freeze hz hZr3
  have hcpr3 := hOr3.cap
  have hra0 := hra0.mono hler3
  refine W_cons rfl (by decide) (Sv_val rfl (R_assign rfl rfl) ?_)
  refine W_nil ?_
  refine E_then ?_
  refine C_seq ?_
  refine C_seq ?_
  refine C_region ?_
  refine W_cons rfl (by decide) (Sv_val rfl (R_assign rfl rfl) ?_)
  refine W_nil ?_
  refine E_then ?_
  refine C_block ?_
  refine C_fr [(3, .slice none 0 0), (4, .slice Ar3 (slotsS a0).length cr3), (5, .int .i64 1)] rfl ?_
  refine C_loop (fun m_ f_ w_ => ∃ (i : Nat) (Ar6 : Option Addr) (cr6 : Nat), f_ = [(3, .slice Ar6 (scanN (slotsS a0) i).length cr6), (4, .slice Ar3 (slotsS a0).length cr3), (5, .int .i64 (i : Int))] ∧ 1 ≤ i ∧ i ≤ (slotsS a0).length ∧ m_ = (slotsS a0).length - i ∧ Sub z4 w_ ∧ Chg [] w w_ ∧ Own (kint .i64) 3 w.heap.size zE w_ Ar6 cr6 (scanN (slotsS a0) i) ∧ (∀ b_ ∈ blk Ar6, z4 b_ = none)) ((slotsS a0).length - 1) ?_ ?_
  · exact ⟨1, none, 0, rfl, (by omega), (by exact (slots_last a0).2), rfl, hz, hC, Own.nil _ _ _ _ _, (by simp [blk])⟩
  · rintro m_ f_ w5 ⟨i, Ar6, cr6, rfl, hI0_0, hI0_1, rfl, hz, hC, hOr6, hZr6⟩
    have hNr6 := hOr6.base
    have hmr6 := hOr6.cap.mx
    have hlr6 := hOr6.cap.le
    have hsl := slots_len a0
    have hsc := scan_len (slotsS a0) i
    refine C_seq ?_
    refine C_seq ?_
    refine C_region ?_
    refine W_cons rfl (by decide) (Sv_val rfl (R_move rfl rfl) ?_)
    refine W_cons rfl (by decide) (Sv_val rfl (R_move rfl rfl) ?_)
    refine W_cons rfl (by decide) (Sv_val rfl (R_len rfl rfl Try.underlying22) ?_)
    refine W_cons rfl (by decide) (Sv_val rfl (R_bin rfl rfl rfl rfl rfl) ?_)
    refine W_nil ?_
    refine E_then ?_
    refine C_ite rfl (fun hC0 => ?_) (fun hC0 => ?_)
    · have _hC0 := trivial
      have hC0p : (i : Int) < ((slotsS a0).length : Int) := by simpa using hC0
      refine C_skip ?_
      refine E_then ?_
      refine C_seq ?_
      refine C_block ?_
      refine C_seq ?_
      refine C_region ?_
      refine W_cons rfl (by decide) (Sv_val rfl (R_move rfl rfl) ?_)
      refine W_cons rfl (by decide) (Sv_val rfl (R_move rfl rfl) ?_)
      refine W_cons rfl (by decide) (Sv_val rfl (R_sub64 rfl rfl rfl (by omega) (by omega)) ?_)
      obtain ⟨q7, csq7, hAq7, rfl, hcq7⟩ := hrr3.at_ (0 : Int) (i := ((i : Int) - 1)) (by omega) (by omega)
      refine W_cons rfl (by decide) (Sv_val rfl (R_idx rfl rfl hAq7 rfl Try.underlying22 size3 (by omega) (by omega)) ?_)
      refine W_cons rfl (by decide) (Sv_val rfl (R_load1 rfl rfl agg3 (hz.cell (hcq7 0 _ rfl))) ?_)
      refine W_cons rfl (by decide) (Sv_val rfl (R_bin rfl rfl rfl rfl rfl) ?_)
      refine W_cons rfl (by decide) (Sv_val rfl (R_move rfl rfl) ?_)
      refine W_split (t := 20) rfl (fun hg8 => ?_) (fun hg8 => ?_)
      · have _hg8 := trivial
        have hg8p : ((slotsS a0).getD ((i : Int) - 1).toNat (0 : Int)) < 0 := by simpa using hg8
        refine W_cons rfl (by decide) (Sv_gt rfl rfl rfl hg8 (Sv_val rfl (R_move rfl rfl) ?_))
        refine W_cons rfl (by decide) (Sv_gt rfl rfl rfl hg8 (Sv_val rfl (R_move rfl rfl) ?_))
        obtain ⟨q9, csq9, hAq9, rfl, hcq9⟩ := hrr3.at_ (0 : Int) (i := (i : Int)) (by omega) (by omega)
        have hcq9 : ∀ (j_ : Nat) (u_ : Value), ([.int .i64 ((slotsS a0).getD i (0 : Int))] : List Value)[j_]? = some u_ → cz z4 (q9.add (i * 1 + j_)) = some u_ := hcq9
        refine W_cons rfl (by decide) (Sv_gt rfl rfl rfl hg8 (Sv_val rfl (R_idx rfl rfl hAq9 rfl Try.underlying22 size3 (by omega) (by omega)) ?_))
        refine W_cons rfl (by decide) (Sv_gt rfl rfl rfl hg8 (Sv_val rfl (R_load1 rfl rfl agg3 (hz.cell (hcq9 0 _ rfl))) ?_))
        refine W_cons rfl (by decide) (Sv_gt rfl rfl rfl hg8 (Sv_val rfl (R_bin rfl rfl rfl rfl rfl) ?_))
        refine W_cons rfl (by decide) (Sv_val rfl (R_pick_t rfl rfl hg8 rfl) ?_)
        refine W_nil ?_
        refine E_then (C_fr [(3, .slice Ar6 (scanN (slotsS a0) i).length cr6), (4, .slice Ar3 (slotsS a0).length cr3), (5, .int .i64 (i : Int)), (21, .slice Ar3 (slotsS a0).length cr3), (22, .int .i64 (i : Int)), (23, .pointer (some (q9.add (i * 1)))), (24, .int .i64 ((slotsS a0).getD i (0 : Int))), (25, .bool (decide (((slotsS a0).getD i (0 : Int)) ≥ 0))), (26, .bool (decide (((slotsS a0).getD i (0 : Int)) ≥ 0)))] rfl ?_)
        refine C_ite rfl (fun hC1 => ?_) (fun hC1 => ?_)
        · have _hC1 := trivial
          have hC1p : ((slotsS a0).getD i (0 : Int)) ≥ 0 := by simpa using hC1
          refine C_region ?_
          refine W_cons rfl (by decide) (Sv_val rfl (R_move rfl rfl) ?_)
          refine W_cons rfl (by decide) (Sv_val rfl (R_move rfl rfl) ?_)
          refine W_cons rfl (by decide) (Sv_row (d := (kint .i64)) (z := zE) ([(i : Int)] : List Int) rfl (R_buildSlice (ps := [(0, (.tmp 28))]) (vs := [.int .i64 (i : Int)]) (w' := w5.alloc (.cells [.int .i64 (i : Int)].toArray 3)) (r := .slice (some ⟨w5.heap.size, 0, none⟩) 1 1) rfl rfl rfl (by kernel_rfl)) (by simp [Reps, flat, kint]) rfl (by decide) (fun g10 w11 hcg10 hng10 hOg10 => ?_))
          have hOg10 := hOg10.lower hng10
          have hDr6_g10 : ∀ k ∈ blk Ar6, k ∉ blk (some ⟨g10, 0, none⟩) := disj_new hOr6.lt hOg10.base
          have hZg10 : ∀ k ∈ blk (some ⟨g10, 0, none⟩), z4 k = none := fresh_z hz hOg10.base
          have hNg10 : ∀ k ∈ blk (some ⟨g10, 0, none⟩), w.heap.size ≤ k := newC hOg10.base hC.size
          have hOg10 := hOg10.lower hC.size
          have hz := hz.chg0 hcg10
          have hOr6 := hOr6.chg0 hcg10
          have hC := hC.then hcg10 (by simp)
          have hmg10 := hOg10.cap.mx
          have hlg10 := hOg10.cap.le
          obtain ⟨nw14, hpnw14, hqnw14⟩ := hOg10.cells
          refine W_cons rfl (by decide) (Sv_append rfl rfl elem22 rfl hOr6 rfl hOg10.cap.nil hpnw14 hqnw14 (by (try simp only [List.length_cons, List.length_nil, maxLen]); omega) (by (try simp only [List.length_cons, List.length_nil, maxLen]); omega) hC.size (fun Ar12 cr12 w13 hOr12 hcr12 hkr12 => ?_))
          have hZr12 := grown_z hz hZr6 hkr12
          have hDg10_r12 : ∀ k ∈ blk (some ⟨g10, 0, none⟩), k ∉ blk Ar12 := disj_grown (disj_sym hDr6_g10) hOg10.lt hkr12
          have hz := hz.chg hcr12 hZr6
          have hOg10 := hOg10.chg hcr12 (disj_sym hDr6_g10)
          have hC := hC.then hcr12 (fun i hi => .inr (hNr6 i hi))
          have hNr12 := hOr12.base
          have hmr12 := hOr12.cap.mx
          have hlr12 := hOr12.cap.le
          refine W_cons rfl (by decide) (Sv_val rfl (R_assign rfl rfl) ?_)
          refine W_nil ?_
          refine E_block_normal ?_
          refine E_then (C_fr [(3, .slice Ar12 ((scanN (slotsS a0) i) ++ ([(i : Int)] : List Int)).length cr12), (4, .slice Ar3 (slotsS a0).length cr3), (5, .int .i64 (i : Int)), (21, .slice Ar3 (slotsS a0).length cr3), (22, .int .i64 (i : Int)), (23, .pointer (some (q9.add (i * 1)))), (24, .int .i64 ((slotsS a0).getD i (0 : Int))), (25, .bool (decide (((slotsS a0).getD i (0 : Int)) ≥ 0)))] rfl ?_)
          refine C_region ?_
          refine W_cons rfl (by decide) (Sv_val rfl (R_move rfl rfl) ?_)
          refine W_cons rfl (by decide) (Sv_val rfl (R_add64 rfl rfl rfl (by omega) (by omega)) ?_)
          refine W_cons rfl (by decide) (Sv_val rfl (R_assign rfl rfl) ?_)
          refine W_nil ?_
          have hs15 : (scanN (slotsS a0) i) ++ ([(i : Int)] : List Int) = scanN (slotsS a0) (i + 1 : Nat) := by exact scan_yes' (by omega) (by assumption) (by assumption)
          rw [hs15] at hOr12
          refine E_round [3, 4, 5] ?_ ⟨(i + 1), Ar12, cr12, (by rw [← hs15]; rfl), (by omega), (by omega), rfl, hz, hC, hOr12, hZr12⟩
          omega
        · have _hC1 := trivial
          have hC1p : ¬ (((slotsS a0).getD i (0 : Int)) ≥ 0) := by simpa using hC1
          refine C_skip ?_
          refine E_block_normal ?_
          refine E_then ?_
          refine C_region ?_
          refine W_cons rfl (by decide) (Sv_val rfl (R_move rfl rfl) ?_)
          refine W_cons rfl (by decide) (Sv_val rfl (R_add64 rfl rfl rfl (by omega) (by omega)) ?_)
          refine W_cons rfl (by decide) (Sv_val rfl (R_assign rfl rfl) ?_)
          refine W_nil ?_
          have hs16 : scanN (slotsS a0) i = scanN (slotsS a0) (i + 1 : Nat) := by exact scan_no' (.inr (by assumption))
          rw [hs16] at hOr6
          refine E_round [3, 4, 5] ?_ ⟨(i + 1), Ar6, cr6, (by rw [← hs16]; rfl), (by omega), (by omega), rfl, hz, hC, hOr6, hZr6⟩
          omega
      · have _hg8 := trivial
        have hg8p : ¬ (((slotsS a0).getD ((i : Int) - 1).toNat (0 : Int)) < 0) := by simpa using hg8
        refine W_cons rfl (by decide) (Sv_off rfl rfl rfl (by rw [hg8]; rfl) ?_)
        refine W_cons rfl (by decide) (Sv_off rfl rfl rfl (by rw [hg8]; rfl) ?_)
        refine W_cons rfl (by decide) (Sv_off rfl rfl rfl (by rw [hg8]; rfl) ?_)
        refine W_cons rfl (by decide) (Sv_off rfl rfl rfl (by rw [hg8]; rfl) ?_)
        refine W_cons rfl (by decide) (Sv_off rfl rfl rfl (by rw [hg8]; rfl) ?_)
        refine W_cons rfl (by decide) (Sv_val rfl (R_pick_f rfl rfl hg8 rfl) ?_)
        refine W_nil ?_
        refine E_then (C_fr [(3, .slice Ar6 (scanN (slotsS a0) i).length cr6), (4, .slice Ar3 (slotsS a0).length cr3), (5, .int .i64 (i : Int)), (21, undef), (22, undef), (23, undef), (24, undef), (25, undef), (26, .bool false)] rfl ?_)
        refine C_else rfl rfl ?_
        refine C_skip ?_
        refine E_block_normal ?_
        refine E_then ?_
        refine C_region ?_
        refine W_cons rfl (by decide) (Sv_val rfl (R_move rfl rfl) ?_)
        refine W_cons rfl (by decide) (Sv_val rfl (R_add64 rfl rfl rfl (by omega) (by omega)) ?_)
        refine W_cons rfl (by decide) (Sv_val rfl (R_assign rfl rfl) ?_)
        refine W_nil ?_
        have hs17 : scanN (slotsS a0) i = scanN (slotsS a0) (i + 1 : Nat) := by exact scan_no' (.inl (by assumption))
        rw [hs17] at hOr6
        refine E_round [3, 4, 5] ?_ ⟨(i + 1), Ar6, cr6, (by rw [← hs17]; rfl), (by omega), (by omega), rfl, hz, hC, hOr6, hZr6⟩
        omega
    · have _hC0 := trivial
      have hC0p : ¬ ((i : Int) < ((slotsS a0).length : Int)) := by simpa using hC0
      refine C_exit ?_
      refine E_then_exit ?_
      refine E_then_exit ?_
      refine E_block_hit ?_
      refine E_then (C_fr [(3, .slice Ar6 (scanN (slotsS a0) i).length cr6), (4, .slice Ar3 (slotsS a0).length cr3)] rfl ?_)
      refine C_seq ?_
      refine C_region ?_
      refine W_cons rfl (by decide) (Sv_val rfl (R_move rfl rfl) ?_)
      refine W_cons rfl (by decide) (Sv_val rfl (R_move rfl rfl) ?_)
      refine W_cons rfl (by decide) (Sv_val rfl (R_len rfl rfl Try.underlying22) ?_)
      refine W_cons rfl (by decide) (Sv_row (d := (kint .i64)) (z := zE) ([((slotsS a0).length : Int)] : List Int) rfl (R_buildSlice (ps := [(0, (.tmp 33))]) (vs := [.int .i64 ((slotsS a0).length : Int)]) (w' := w5.alloc (.cells [.int .i64 ((slotsS a0).length : Int)].toArray 3)) (r := .slice (some ⟨w5.heap.size, 0, none⟩) 1 1) rfl rfl rfl (by kernel_rfl)) (by simp [Reps, flat, kint]) rfl (by decide) (fun g18 w19 hcg18 hng18 hOg18 => ?_))
      have hOg18 := hOg18.lower hng18
      have hDr6_g18 : ∀ k ∈ blk Ar6, k ∉ blk (some ⟨g18, 0, none⟩) := disj_new hOr6.lt hOg18.base
      have hZg18 : ∀ k ∈ blk (some ⟨g18, 0, none⟩), z4 k = none := fresh_z hz hOg18.base
      have hNg18 : ∀ k ∈ blk (some ⟨g18, 0, none⟩), w.heap.size ≤ k := newC hOg18.base hC.size
      have hOg18 := hOg18.lower hC.size
      have hz := hz.chg0 hcg18
      have hOr6 := hOr6.chg0 hcg18
      have hC := hC.then hcg18 (by simp)
      have hmg18 := hOg18.cap.mx
      have hlg18 := hOg18.cap.le
      obtain ⟨nw22, hpnw22, hqnw22⟩ := hOg18.cells
      refine W_cons rfl (by decide) (Sv_append rfl rfl elem22 rfl hOr6 rfl hOg18.cap.nil hpnw22 hqnw22 (by (try simp only [List.length_cons, List.length_nil, maxLen]); omega) (by (try simp only [List.length_cons, List.length_nil, maxLen]); omega) hC.size (fun Ar20 cr20 w21 hOr20 hcr20 hkr20 => ?_))
      have hZr20 := grown_z hz hZr6 hkr20
      have hDg18_r20 : ∀ k ∈ blk (some ⟨g18, 0, none⟩), k ∉ blk Ar20 := disj_grown (disj_sym hDr6_g18) hOg18.lt hkr20
      have hz := hz.chg hcr20 hZr6
      have hOg18 := hOg18.chg hcr20 (disj_sym hDr6_g18)
      have hC := hC.then hcr20 (fun i hi => .inr (hNr6 i hi))
      have hNr20 := hOr20.base
      have hmr20 := hOr20.cap.mx
      have hlr20 := hOr20.cap.le
      refine W_cons rfl (by decide) (Sv_val rfl (R_assign rfl rfl) ?_)
      refine W_nil ?_
      refine E_then (C_fr [(2, .slice Ar20 ((scanN (slotsS a0) i) ++ ([((slotsS a0).length : Int)] : List Int)).length cr20)] rfl ?_)
      refine C_ret ?_
      refine E_ret1 rfl rfl ?_
      have hq23 : (scanN (slotsS a0) i) ++ ([((slotsS a0).length : Int)] : List Int) = startsS a0 := by exact scan_done a0 i (by omega)
      exact ⟨Ar20, cr20, Lret1 (Lslice hq23), (hq23 ▸ hOr20), hC⟩

set_option maxHeartbeats 400000 in
set_option maxRecDepth 20000 in
theorem cisnan_calls (a0 : Int) (w : World)   :
    Calls Try.prog 52 #[.int .i64 a0] w fun e w' => e = .returned (.bool false) ∧ Chg [] w w' := by
  have hC := Chg.refl [] w
  refine Calls_of (vs := [.int .i64 a0]) (N := 6) Try.func52 rfl rfl (Nat.le_of_ble_eq_true rfl) ?_
  refine C_seq ?_
  refine C_region ?_
  refine W_cons rfl (by decide) (Sv_val rfl (R_assign rfl rfl) ?_)
  refine W_nil ?_
  refine E_then ?_
  refine C_seq ?_
  refine C_region ?_
  refine W_cons rfl (by decide) (Sv_val rfl (R_move rfl rfl) ?_)
  refine W_cons rfl (by decide) (Sv_val rfl (R_move rfl rfl) ?_)
  refine W_cons rfl (by decide) (Sv_val rfl (R_bin rfl rfl rfl rfl rfl) ?_)
  refine W_cons rfl (by decide) (Sv_val rfl (R_assign rfl rfl) ?_)
  refine W_nil ?_
  refine E_then ?_
  refine C_ret ?_
  refine E_ret1 rfl rfl ?_
  exact ⟨Lret1 (Lbool (show (a0 != a0) = false by simp)), hC⟩

set_option maxHeartbeats 400000 in
set_option maxRecDepth 20000 in
theorem isnan_calls (a0 : Int) (w : World)   :
    Calls Try.prog 50 #[.int .i64 a0] w fun e w' => e = .returned (.bool false) ∧ Chg [] w w' := by
  have hC := Chg.refl [] w
  refine Calls_of (vs := [.int .i64 a0]) (N := 6) Try.func50 rfl rfl (Nat.le_of_ble_eq_true rfl) ?_
  refine C_seq ?_
  refine C_region ?_
  refine W_cons rfl (by decide) (Sv_val rfl (R_assign rfl rfl) ?_)
  refine W_nil ?_
  refine E_then ?_
  refine C_seq ?_
  refine C_region ?_
  refine W_cons rfl (by decide) (Sv_val rfl (R_move rfl rfl) ?_)
  refine W_cons rfl (by decide) (Sv_val rfl (R_move rfl rfl) ?_)
  refine W_cons rfl (by decide) (Sv_val rfl (R_bin rfl rfl rfl rfl rfl) ?_)
  refine W_cons rfl (by decide) (Sv_val rfl (R_assign rfl rfl) ?_)
  refine W_nil ?_
  refine E_then ?_
  refine C_ret ?_
  refine E_ret1 rfl rfl ?_
  exact ⟨Lret1 (Lbool (show (a0 != a0) = false by simp)), hC⟩

set_option maxHeartbeats 400000 in
set_option maxRecDepth 20000 in
theorem less_calls (a0 : Int) (a1 : Int) (w : World)   :
    Calls Try.prog 49 #[.int .i64 a0, .int .i64 a1] w fun e w' => e = .returned (.bool (decide (a0 < a1))) ∧ Chg [] w w' := by
  have hC := Chg.refl [] w
  refine Calls_of (vs := [.int .i64 a0, .int .i64 a1]) (N := 17) Try.func49 rfl rfl (Nat.le_of_ble_eq_true rfl) ?_
  refine C_seq ?_
  refine C_region ?_
  refine W_cons rfl (by decide) (Sv_val rfl (R_assign rfl rfl) ?_)
  refine W_nil ?_
  refine E_then ?_
  refine C_seq ?_
  refine C_region ?_
  refine W_cons rfl (by decide) (Sv_val rfl (R_move rfl rfl) ?_)
  refine W_cons rfl (by decide) (Sv_call rfl rfl rfl ent52 ?_)
  refine (cisnan_calls a0  _   ).mono ?_
  rintro e_ w1 ⟨rfl, hc2⟩
  refine ⟨_, rfl, ?_⟩
  have hC := hC.then hc2 (by simp)
  refine W_cons rfl (by decide) (Sv_val rfl (R_move rfl rfl) ?_)
  refine W_cons rfl (by decide) (Sv_off rfl rfl rfl rfl ?_)
  refine W_cons rfl (by decide) (Sv_off rfl rfl rfl rfl ?_)
  refine W_cons rfl (by decide) (Sv_off rfl rfl rfl rfl ?_)
  refine W_cons rfl (by decide) (Sv_val rfl (R_pick_f rfl rfl rfl rfl) ?_)
  refine W_cons rfl (by decide) (Sv_val rfl (R_move rfl rfl) ?_)
  refine W_cons rfl (by decide) (Sv_gt rfl rfl rfl rfl (Sv_val rfl (R_move rfl rfl) ?_))
  refine W_cons rfl (by decide) (Sv_gt rfl rfl rfl rfl (Sv_val rfl (R_move rfl rfl) ?_))
  refine W_cons rfl (by decide) (Sv_gt rfl rfl rfl rfl (Sv_val rfl (R_bin rfl rfl rfl rfl rfl) ?_))
  refine W_cons rfl (by decide) (Sv_val rfl (R_pick_f rfl rfl rfl rfl) ?_)
  refine W_cons rfl (by decide) (Sv_val rfl (R_assign rfl rfl) ?_)
  refine W_nil ?_
  refine E_then (C_fr [(4, .bool (decide (a0 < a1)))] rfl ?_)
  refine C_ret ?_
  refine E_ret1 rfl rfl ?_
  exact ⟨Lret1 (Lbool (show decide (a0 < a1) = decide (a0 < a1) by rfl)), hC⟩

set_option maxHeartbeats 400000 in
set_option maxRecDepth 20000 in
theorem rfind_calls (Aa0 : Option Addr) (ca0 : Nat) (a0 : List Int) (a1 : Int) (z : Z) (w : World) (hz : Sub z w) (hra0 : Rd (kint .i64) z Aa0 a0) (hca0 : Cap Aa0 a0.length ca0) (p0 : a0.length ≤ 1000000) (p1 : -9223372036854775808 ≤ a1) :
    Calls Try.prog 18 #[.slice Aa0 a0.length ca0, .int .i64 a1] w fun e w' => e = .returned (.tuple #[.int .i64 ((rfindS a0 a1).1), .int .i64 ((rfindS a0 a1).2)]) ∧ Chg [] w w' := by
  have hla0 := hca0.le
  have hma0 := hca0.mx
  have hC := Chg.refl [] w
  refine Calls_of (vs := [.slice Aa0 a0.length ca0, .int .i64 a1]) (N := 45) Try.func18 rfl rfl (Nat.le_of_ble_eq_true rfl) ?_
  refine C_seq ?_
  refine C_region ?_
  refine W_cons rfl (by decide) (Sv_val rfl (R_assign rfl rfl) ?_)
  refine W_cons rfl (by decide) (Sv_val rfl (R_assign rfl rfl) ?_)
  refine W_nil ?_
  refine E_then ?_
  refine C_seq ?_
  refine C_region ?_
  refine W_cons rfl (by decide) (Sv_val rfl (R_move rfl rfl) ?_)
  refine W_cons rfl (by decide) (Sv_call rfl rfl rfl ent16 ?_)
  refine (rslots_calls Aa0 ca0 a0 _ _ hz hra0 hca0 (by omega)).mono ?_
  rintro e_ w1 ⟨Ar3, cr3, rfl, hOr3, hc2⟩
  refine ⟨_, rfl, ?_⟩
  have hZr3 : ∀ k ∈ blk Ar3, z k = none := fresh_z hz hOr3.base
  have hNr3 : ∀ k ∈ blk Ar3, w.heap.size ≤ k := newC hOr3.base hC.size
  have hOr3 := hOr3.lower hC.size
  have hz := hz.chg0 hc2
  have hC := hC.then hc2 (by simp)
  have hmr3 := hOr3.cap.mx
  have hlr3 := hOr3.cap.le
  obtain ⟨z4, hz, hler3, hrr3, hnr3⟩ := (hOr3.mono (zle_E _)).freeze hz hZr3
  have hcpr3 := hOr3.cap
  have hra0 := hra0.mono hler3
  refine W_cons rfl (by decide) (Sv_val rfl (R_assign rfl rfl) ?_)
  refine W_nil ?_
  refine E_then (C_fr [(1, .int .i64 a1), (6, .slice Ar3 (slotsS a0).length cr3)] rfl ?_)
  refine C_seq ?_
  refine C_seq ?_
  refine C_region ?_
  refine W_cons rfl (by decide) (Sv_val rfl (R_move rfl rfl) ?_)
  refine W_cons rfl (by decide) (Sv_val rfl (R_bin rfl rfl rfl rfl rfl) ?_)
  refine W_cons rfl (by decide) (Sv_val rfl (R_move rfl rfl) ?_)
  refine W_split (t := 14) rfl (fun hg5 => ?_) (fun hg5 => ?_)
  · have _hg5 := trivial
    have hg5p : a1 < 0 := by simpa using hg5
    refine W_cons rfl (by decide) (Sv_off rfl rfl rfl (by rw [hg5]; rfl) ?_)
    refine W_cons rfl (by decide) (Sv_off rfl rfl rfl (by rw [hg5]; rfl) ?_)
    refine W_cons rfl (by decide) (Sv_off rfl rfl rfl (by rw [hg5]; rfl) ?_)
    refine W_cons rfl (by decide) (Sv_off rfl rfl rfl (by rw [hg5]; rfl) ?_)
    refine W_cons rfl (by decide) (Sv_val rfl (R_pick_t rfl rfl hg5 rfl) ?_)
    refine W_nil ?_
    refine E_then (C_fr [(1, .int .i64 a1), (6, .slice Ar3 (slotsS a0).length cr3), (19, .bool true)] rfl ?_)
    refine C_if rfl rfl ?_
    refine C_seq ?_
    refine C_region ?_
    refine W_cons rfl (by decide) (Sv_val rfl (R_assign rfl rfl) ?_)
    refine W_cons rfl (by decide) (Sv_val rfl (R_assign rfl rfl) ?_)
    refine W_nil ?_
    refine E_then ?_
    refine C_ret ?_
    refine E_then_ret ?_
    refine E_ret2 rfl rfl rfl ?_
    exact ⟨Lret2 (Lint (show (-1) = (rfindS a0 a1).1 by unfold rfindS; first | (rw [if_pos (by omega)]) | (rw [if_neg (by omega), if_pos (by assumption), show a1.toNat = i from by omega]) | (rw [if_neg (by omega), if_neg (by assumption), show a1.toNat = i from by omega]) | (rw [if_neg (by omega), if_pos (by assumption)]) | (rw [if_neg (by omega), if_neg (by assumption)]))) (Lint (show (-1) = (rfindS a0 a1).2 by unfold rfindS; first | (rw [if_pos (by omega)]) | (rw [if_neg (by omega), if_pos (by assumption), show a1.toNat = i from by omega]) | (rw [if_neg (by omega), if_neg (by assumption), show a1.toNat = i from by omega]) | (rw [if_neg (by omega), if_pos (by assumption)]) | (rw [if_neg (by omega), if_neg (by assumption)]))), hC⟩
  · have _hg5 := trivial
    have hg5p : ¬ (a1 < 0) := by simpa using hg5
    refine W_cons rfl (by decide) (Sv_gt rfl rfl rfl hg5 (Sv_val rfl (R_move rfl rfl) ?_))
    refine W_cons rfl (by decide) (Sv_gt rfl rfl rfl hg5 (Sv_val rfl (R_move rfl rfl) ?_))
    refine W_cons rfl (by decide) (Sv_gt rfl rfl rfl hg5 (Sv_val rfl (R_len rfl rfl Try.underlying22) ?_))
    refine W_cons rfl (by decide) (Sv_gt rfl rfl rfl hg5 (Sv_val rfl (R_bin rfl rfl rfl rfl rfl) ?_))
    refine W_cons rfl (by decide) (Sv_val rfl (R_pick_f rfl rfl hg5 rfl) ?_)
    refine W_nil ?_
    refine E_then (C_fr [(1, .int .i64 a1), (6, .slice Ar3 (slotsS a0).length cr3), (19, .bool (decide (a1 ≥ ((slotsS a0).length : Int))))] rfl ?_)
    refine C_ite rfl (fun hC0 => ?_) (fun hC0 => ?_)
    · have _hC0 := trivial
      have hC0p : a1 ≥ ((slotsS a0).length : Int) := by simpa using hC0
      refine C_seq ?_
      refine C_region ?_
      refine W_cons rfl (by decide) (Sv_val rfl (R_assign rfl rfl) ?_)
      refine W_cons rfl (by decide) (Sv_val rfl (R_assign rfl rfl) ?_)
      refine W_nil ?_
      refine E_then ?_
      refine C_ret ?_
      refine E_then_ret ?_
      refine E_ret2 rfl rfl rfl ?_
      exact ⟨Lret2 (Lint (show (-1) = (rfindS a0 a1).1 by unfold rfindS; first | (rw [if_pos (by omega)]) | (rw [if_neg (by omega), if_pos (by assumption), show a1.toNat = i from by omega]) | (rw [if_neg (by omega), if_neg (by assumption), show a1.toNat = i from by omega]) | (rw [if_neg (by omega), if_pos (by assumption)]) | (rw [if_neg (by omega), if_neg (by assumption)]))) (Lint (show (-1) = (rfindS a0 a1).2 by unfold rfindS; first | (rw [if_pos (by omega)]) | (rw [if_neg (by omega), if_pos (by assumption), show a1.toNat = i from by omega]) | (rw [if_neg (by omega), if_neg (by assumption), show a1.toNat = i from by omega]) | (rw [if_neg (by omega), if_pos (by assumption)]) | (rw [if_neg (by omega), if_neg (by assumption)]))), hC⟩
    · have _hC0 := trivial
      have hC0p : ¬ (a1 ≥ ((slotsS a0).length : Int)) := by simpa using hC0
      refine C_skip ?_
      refine E_then ?_
      refine C_seq ?_
      refine C_region ?_
      refine W_cons rfl (by decide) (Sv_val rfl (R_assign rfl rfl) ?_)
      refine W_cons rfl (by decide) (Sv_val rfl (R_assign rfl rfl) ?_)
      refine W_nil ?_
      refine E_then ?_
      refine C_seq ?_
      refine C_seq ?_
      refine C_region ?_
      refine W_cons rfl (by decide) (Sv_val rfl (R_assign rfl rfl) ?_)
      refine W_nil ?_
      refine E_then ?_
      refine C_block ?_
      refine C_fr [(1, .int .i64 a1), (6, .slice Ar3 (slotsS a0).length cr3), (7, .int .i64 0), (8, .int .i64 0), (9, .int .i64 0)] rfl ?_
      refine C_loop (fun m_ f_ w_ => ∃ (i : Nat), f_ = [(1, .int .i64 a1), (6, .slice Ar3 (slotsS a0).length cr3), (7, .int .i64 ((bst (slotsS a0) i).1)), (8, .int .i64 ((bst (slotsS a0) i).2)), (9, .int .i64 (i : Int))] ∧ (i : Int) ≤ a1 ∧ m_ = a1.toNat - i ∧ Sub z4 w_ ∧ Chg [] w w_) (a1.toNat - 0) ?_ ?_
      · exact ⟨0, rfl, (by omega), rfl, hz, hC⟩
      · rintro m_ f_ w6 ⟨i, rfl, hI0_0, rfl, hz, hC⟩
        have hsl := slots_len a0
        have hbb := bst_bd (slotsS a0) i
        refine C_seq ?_
        refine C_seq ?_
        refine C_region ?_
        refine W_cons rfl (by decide) (Sv_val rfl (R_move rfl rfl) ?_)
        refine W_cons rfl (by decide) (Sv_val rfl (R_move rfl rfl) ?_)
        refine W_cons rfl (by decide) (Sv_val rfl (R_bin rfl rfl rfl rfl rfl) ?_)
        refine W_nil ?_
        refine E_then ?_
        refine C_ite rfl (fun hC1 => ?_) (fun hC1 => ?_)
        · have _hC1 := trivial
          have hC1p : (i : Int) < a1 := by simpa using hC1
          refine C_skip ?_
          refine E_then ?_
          refine C_seq ?_
          refine C_block ?_
          refine C_seq ?_
          refine C_region ?_
          refine W_cons rfl (by decide) (Sv_val rfl (R_move rfl rfl) ?_)
          refine W_cons rfl (by decide) (Sv_val rfl (R_add64 rfl rfl rfl (by omega) (by omega)) ?_)
          refine W_cons rfl (by decide) (Sv_val rfl (R_assign rfl rfl) ?_)
          refine W_nil ?_
          refine E_then (C_fr [(1, .int .i64 a1), (6, .slice Ar3 (slotsS a0).length cr3), (7, .int .i64 ((bst (slotsS a0) i).1)), (8, .int .i64 (((bst (slotsS a0) i).2) + 1)), (9, .int .i64 (i : Int))] rfl ?_)
          refine C_seq ?_
          refine C_region ?_
          refine W_cons rfl (by decide) (Sv_val rfl (R_move rfl rfl) ?_)
          refine W_cons rfl (by decide) (Sv_val rfl (R_move rfl rfl) ?_)
          obtain ⟨q7, csq7, hAq7, rfl, hcq7⟩ := hrr3.at_ (0 : Int) (i := (i : Int)) (by omega) (by omega)
          have hcq7 : ∀ (j_ : Nat) (u_ : Value), ([.int .i64 ((slotsS a0).getD i (0 : Int))] : List Value)[j_]? = some u_ → cz z4 (q7.add (i * 1 + j_)) = some u_ := hcq7
          refine W_cons rfl (by decide) (Sv_val rfl (R_idx rfl rfl hAq7 rfl Try.underlying22 size3 (by omega) (by omega)) ?_)
          refine W_cons rfl (by decide) (Sv_val rfl (R_load1 rfl rfl agg3 (hz.cell (hcq7 0 _ rfl))) ?_)
          refine W_cons rfl (by decide) (Sv_val rfl (R_bin rfl rfl rfl rfl rfl) ?_)
          refine W_nil ?_
          refine E_then ?_
          refine C_ite rfl (fun hC2 => ?_) (fun hC2 => ?_)
          · have _hC2 := trivial
            have hC2p : ((slotsS a0).getD i (0 : Int)) < 0 := by simpa using hC2
            refine C_seq ?_
            refine C_region ?_
            refine W_cons rfl (by decide) (Sv_val rfl (R_move rfl rfl) ?_)
            refine W_cons rfl (by decide) (Sv_val rfl (R_add64 rfl rfl rfl (by omega) (by omega)) ?_)
            refine W_cons rfl (by decide) (Sv_val rfl (R_assign rfl rfl) ?_)
            refine W_nil ?_
            refine E_then (C_fr [(1, .int .i64 a1), (6, .slice Ar3 (slotsS a0).length cr3), (7, .int .i64 (((bst (slotsS a0) i).1) + 1)), (9, .int .i64 (i : Int))] rfl ?_)
            refine C_region ?_
            refine W_cons rfl (by decide) (Sv_val rfl (R_assign rfl rfl) ?_)
            refine W_nil ?_
            refine E_block_normal ?_
            refine E_then ?_
            refine C_region ?_
            refine W_cons rfl (by decide) (Sv_val rfl (R_move rfl rfl) ?_)
            refine W_cons rfl (by decide) (Sv_val rfl (R_add64 rfl rfl rfl (by omega) (by omega)) ?_)
            refine W_cons rfl (by decide) (Sv_val rfl (R_assign rfl rfl) ?_)
            refine W_nil ?_
            have hs8 : ((bst (slotsS a0) i).1) + 1 = (bst (slotsS a0) (i + 1 : Nat)).1 := by rw [bst_neg (by assumption)]
            have hs9 : 0 = (bst (slotsS a0) (i + 1 : Nat)).2 := by rw [bst_neg (by assumption)]
            refine E_round [1, 6, 7, 8, 9] ?_ ⟨(i + 1), (by rw [← hs8, ← hs9]; rfl), (by omega), rfl, hz, hC⟩
            omega
          · have _hC2 := trivial
            have hC2p : ¬ (((slotsS a0).getD i (0 : Int)) < 0) := by simpa using hC2
            refine C_skip ?_
            refine E_block_normal ?_
            refine E_then (C_fr [(1, .int .i64 a1), (6, .slice Ar3 (slotsS a0).length cr3), (7, .int .i64 ((bst (slotsS a0) i).1)), (8, .int .i64 (((bst (slotsS a0) i).2) + 1)), (9, .int .i64 (i : Int))] rfl ?_)
            refine C_region ?_
            refine W_cons rfl (by decide) (Sv_val rfl (R_move rfl rfl) ?_)
            refine W_cons rfl (by decide) (Sv_val rfl (R_add64 rfl rfl rfl (by omega) (by omega)) ?_)
            refine W_cons rfl (by decide) (Sv_val rfl (R_assign rfl rfl) ?_)
            refine W_nil ?_
            have hs10 : (bst (slotsS a0) i).1 = (bst (slotsS a0) (i + 1 : Nat)).1 := by rw [bst_pos (by assumption)]
            have hs11 : ((bst (slotsS a0) i).2) + 1 = (bst (slotsS a0) (i + 1 : Nat)).2 := by rw [bst_pos (by assumption)]
            refine E_round [1, 6, 7, 8, 9] ?_ ⟨(i + 1), (by rw [← hs10, ← hs11]; rfl), (by omega), rfl, hz, hC⟩
            omega
        · have _hC1 := trivial
          have hC1p : ¬ ((i : Int) < a1) := by simpa using hC1
          refine C_exit ?_
          refine E_then_exit ?_
          refine E_then_exit ?_
          refine E_block_hit ?_
          refine E_then ?_
          refine C_seq ?_
          refine C_seq ?_
          refine C_region ?_
          refine W_cons rfl (by decide) (Sv_val rfl (R_move rfl rfl) ?_)
          refine W_cons rfl (by decide) (Sv_val rfl (R_move rfl rfl) ?_)
          obtain ⟨q12, csq12, hAq12, rfl, hcq12⟩ := hrr3.at_ (0 : Int) (i := a1) (by omega) (by omega)
          refine W_cons rfl (by decide) (Sv_val rfl (R_idx rfl rfl hAq12 rfl Try.underlying22 size3 (by omega) (by omega)) ?_)
          refine W_cons rfl (by decide) (Sv_val rfl (R_load1 rfl rfl agg3 (hz.cell (hcq12 0 _ rfl))) ?_)
          refine W_cons rfl (by decide) (Sv_val rfl (R_bin rfl rfl rfl rfl rfl) ?_)
          refine W_nil ?_
          refine E_then (C_fr [(1, .int .i64 a1), (6, .slice Ar3 (slotsS a0).length cr3), (7, .int .i64 ((bst (slotsS a0) i).1)), (8, .int .i64 ((bst (slotsS a0) i).2)), (38, .bool (decide (((slotsS a0).getD a1.toNat (0 : Int)) < 0)))] rfl ?_)
          refine C_ite rfl (fun hC3 => ?_) (fun hC3 => ?_)
          · have _hC3 := trivial
            have hC3p : ((slotsS a0).getD a1.toNat (0 : Int)) < 0 := by simpa using hC3
            refine C_seq ?_
            refine C_region ?_
            refine W_cons rfl (by decide) (Sv_val rfl (R_move rfl rfl) ?_)
            refine W_cons rfl (by decide) (Sv_val rfl (R_assign rfl rfl) ?_)
            refine W_cons rfl (by decide) (Sv_val rfl (R_assign rfl rfl) ?_)
            refine W_nil ?_
            refine E_then (C_fr [(4, .int .i64 ((bst (slotsS a0) i).1)), (5, .int .i64 (-1))] rfl ?_)
            refine C_ret ?_
            refine E_then_ret ?_
            refine E_ret2 rfl rfl rfl ?_
            exact ⟨Lret2 (Lint (show (bst (slotsS a0) i).1 = (rfindS a0 a1).1 by unfold rfindS; first | (rw [if_pos (by omega)]) | (rw [if_neg (by omega), if_pos (by assumption), show a1.toNat = i from by omega]) | (rw [if_neg (by omega), if_neg (by assumption), show a1.toNat = i from by omega]) | (rw [if_neg (by omega), if_pos (by assumption)]) | (rw [if_neg (by omega), if_neg (by assumption)]))) (Lint (show (-1) = (rfindS a0 a1).2 by unfold rfindS; first | (rw [if_pos (by omega)]) | (rw [if_neg (by omega), if_pos (by assumption), show a1.toNat = i from by omega]) | (rw [if_neg (by omega), if_neg (by assumption), show a1.toNat = i from by omega]) | (rw [if_neg (by omega), if_pos (by assumption)]) | (rw [if_neg (by omega), if_neg (by assumption)]))), hC⟩
          · have _hC3 := trivial
            have hC3p : ¬ (((slotsS a0).getD a1.toNat (0 : Int)) < 0) := by simpa using hC3
            refine C_skip ?_
            refine E_then ?_
            refine C_seq ?_
            refine C_region ?_
            refine W_cons rfl (by decide) (Sv_val rfl (R_move rfl rfl) ?_)
            refine W_cons rfl (by decide) (Sv_val rfl (R_move rfl rfl) ?_)
            obtain ⟨q13, csq13, hAq13, rfl, hcq13⟩ := hrr3.at_ (0 : Int) (i := a1) (by omega) (by omega)
            refine W_cons rfl (by decide) (Sv_val rfl (R_idx rfl rfl hAq13 rfl Try.underlying22 size3 (by omega) (by omega)) ?_)
            refine W_cons rfl (by decide) (Sv_val rfl (R_load1 rfl rfl agg3 (hz.cell (hcq13 0 _ rfl))) ?_)
            refine W_cons rfl (by decide) (Sv_val rfl (R_move rfl rfl) ?_)
            refine W_cons rfl (by decide) (Sv_val rfl (R_assign rfl rfl) ?_)
            refine W_cons rfl (by decide) (Sv_val rfl (R_assign rfl rfl) ?_)
            refine W_nil ?_
            refine E_then (C_fr [(4, .int .i64 ((slotsS a0).getD a1.toNat (0 : Int))), (5, .int .i64 ((bst (slotsS a0) i).2))] rfl ?_)
            refine C_ret ?_
            refine E_ret2 rfl rfl rfl ?_
            exact ⟨Lret2 (Lint (show ((slotsS a0).getD a1.toNat (0 : Int)) = (rfindS a0 a1).1 by unfold rfindS; first | (rw [if_pos (by omega)]) | (rw [if_neg (by omega), if_pos (by assumption), show a1.toNat = i from by omega]) | (rw [if_neg (by omega), if_neg (by assumption), show a1.toNat = i from by omega]) | (rw [if_neg (by omega), if_pos (by assumption)]) | (rw [if_neg (by omega), if_neg (by assumption)]))) (Lint (show (bst (slotsS a0) i).2 = (rfindS a0 a1).2 by unfold rfindS; first | (rw [if_pos (by omega)]) | (rw [if_neg (by omega), if_pos (by assumption), show a1.toNat = i from by omega]) | (rw [if_neg (by omega), if_neg (by assumption), show a1.toNat = i from by omega]) | (rw [if_neg (by omega), if_pos (by assumption)]) | (rw [if_neg (by omega), if_neg (by assumption)]))), hC⟩

set_option maxHeartbeats 400000 in
set_option maxRecDepth 20000 in
theorem bs_calls (Aa0 : Option Addr) (ca0 : Nat) (a0 : List Int) (a1 : Int) (z : Z) (w : World) (hz : Sub z w) (hra0 : Rd (kint .i64) z Aa0 a0) (hca0 : Cap Aa0 a0.length ca0) (p0 : a0.length ≤ 10000000) (p1 : ∀ p q, p ≤ q → q < a0.length → a0.getD p 0 ≤ a0.getD q 0) :
    Calls Try.prog 40 #[.slice Aa0 a0.length ca0, .int .i64 a1] w fun e w' => e = .returned (.tuple #[.int .i64 (bsS a0 a1 : Int), .bool (decide (bsS a0 a1 < a0.length ∧ a0.getD (bsS a0 a1) 0 = a1))]) ∧ Chg [] w w' := by
  have hla0 := hca0.le
  have hma0 := hca0.mx
  have hC := Chg.refl [] w
  refine Calls_of (vs := [.slice Aa0 a0.length ca0, .int .i64 a1]) (N := 54) Try.func40 rfl rfl (Nat.le_of_ble_eq_true rfl) ?_
  refine C_seq ?_
  refine C_region ?_
  refine W_cons rfl (by decide) (Sv_val rfl (R_assign rfl rfl) ?_)
  refine W_cons rfl (by decide) (Sv_val rfl (R_assign rfl rfl) ?_)
  refine W_nil ?_
  refine E_then ?_
  refine C_seq ?_
  refine C_region ?_
  refine W_cons rfl (by decide) (Sv_val rfl (R_move rfl rfl) ?_)
  refine W_cons rfl (by decide) (Sv_val rfl (R_len rfl rfl Try.underlying22) ?_)
  refine W_cons rfl (by decide) (Sv_val rfl (R_assign rfl rfl) ?_)
  refine W_nil ?_
  refine E_then ?_
  refine C_seq ?_
  refine C_region ?_
  refine W_cons rfl (by decide) (Sv_val rfl (R_move rfl rfl) ?_)
  refine W_cons rfl (by decide) (Sv_val rfl (R_assign rfl rfl) ?_)
  refine W_cons rfl (by decide) (Sv_val rfl (R_assign rfl rfl) ?_)
  refine W_nil ?_
  refine E_then (C_fr [(0, .slice Aa0 a0.length ca0), (1, .int .i64 a1), (6, .int .i64 (a0.length : Int)), (7, .int .i64 0), (8, .int .i64 (a0.length : Int))] rfl ?_)
  refine C_seq ?_
  refine C_block ?_
  refine C_fr [(0, .slice Aa0 a0.length ca0), (1, .int .i64 a1), (6, .int .i64 (a0.length : Int)), (7, .int .i64 0), (8, .int .i64 (a0.length : Int))] rfl ?_
  refine C_loop (fun m_ f_ w_ => ∃ (i : Nat) (j : Nat), f_ = [(0, .slice Aa0 a0.length ca0), (1, .int .i64 a1), (6, .int .i64 (a0.length : Int)), (7, .int .i64 (i : Int)), (8, .int .i64 (j : Int))] ∧ i ≤ j ∧ j ≤ a0.length ∧ (∀ q, q < i → a0.getD q 0 < a1) ∧ (∀ q, j ≤ q → q < a0.length → a1 ≤ a0.getD q 0) ∧ m_ = j - i ∧ Sub z w_ ∧ Chg [] w w_) (a0.length - 0) ?_ ?_
  · exact ⟨0, a0.length, rfl, (by omega), (by omega), (by intro q hq; omega), (by intro q h1 h2; omega), rfl, hz, hC⟩
  · rintro m_ f_ w1 ⟨i, j, rfl, hI0_0, hI0_1, hI0_2, hI0_3, rfl, hz, hC⟩
    refine C_seq ?_
    refine C_seq ?_
    refine C_region ?_
    refine W_cons rfl (by decide) (Sv_val rfl (R_move rfl rfl) ?_)
    refine W_cons rfl (by decide) (Sv_val rfl (R_move rfl rfl) ?_)
    refine W_cons rfl (by decide) (Sv_val rfl (R_bin rfl rfl rfl rfl rfl) ?_)
    refine W_nil ?_
    refine E_then ?_
    refine C_ite rfl (fun hC0 => ?_) (fun hC0 => ?_)
    · have _hC0 := trivial
      have hC0p : (i : Int) < (j : Int) := by simpa using hC0
      refine C_skip ?_
      refine E_then ?_
      refine C_block ?_
      refine C_seq ?_
      refine C_region ?_
      refine W_cons rfl (by decide) (Sv_val rfl (R_move rfl rfl) ?_)
      refine W_cons rfl (by decide) (Sv_val rfl (R_move rfl rfl) ?_)
      refine W_cons rfl (by decide) (Sv_val rfl (R_add64 rfl rfl rfl (by omega) (by omega)) ?_)
      refine W_cons rfl (by decide) (Sv_val rfl (R_convi rfl rfl Try.underlying3 Try.underlying66 (by exact wrap_u64 (by omega) (by omega))) ?_)
      refine W_cons rfl (by decide) (Sv_val rfl ((show Runs _ _ _ _ (.int .u64 (((i : Int) + (j : Int)) / 2)) _ from R_shr (n := 1) rfl rfl rfl (by omega) (by decide))) ?_)
      refine W_cons rfl (by decide) (Sv_val rfl (R_convi rfl rfl Try.underlying66 Try.underlying3 (by exact wrap_id (by omega) (by omega))) ?_)
      refine W_cons rfl (by decide) (Sv_val rfl (R_assign rfl rfl) ?_)
      refine W_nil ?_
      refine E_then (C_fr [(0, .slice Aa0 a0.length ca0), (1, .int .i64 a1), (6, .int .i64 (a0.length : Int)), (7, .int .i64 (i : Int)), (8, .int .i64 (j : Int)), (9, .int .i64 (((i : Int) + (j : Int)) / 2))] rfl ?_)
      refine C_seq ?_
      refine C_region ?_
      refine W_cons rfl (by decide) (Sv_val rfl (R_move rfl rfl) ?_)
      refine W_cons rfl (by decide) (Sv_val rfl (R_move rfl rfl) ?_)
      obtain ⟨q2, csq2, hAq2, rfl, hcq2⟩ := hra0.at_ (0 : Int) (i := (((i : Int) + (j : Int)) / 2)) (by omega) (by omega)
      refine W_cons rfl (by decide) (Sv_val rfl (R_idx rfl rfl hAq2 rfl Try.underlying22 size3 (by omega) (by omega)) ?_)
      refine W_cons rfl (by decide) (Sv_val rfl (R_load1 rfl rfl agg3 (hz.cell (hcq2 0 _ rfl))) ?_)
      refine W_cons rfl (by decide) (Sv_val rfl (R_move rfl rfl) ?_)
      refine W_cons rfl (by decide) (Sv_call rfl rfl rfl ent49 ?_)
      refine (less_calls (a0.getD (((i : Int) + (j : Int)) / 2).toNat (0 : Int)) a1  _   ).mono ?_
      rintro e_ w3 ⟨rfl, hc4⟩
      refine ⟨_, rfl, ?_⟩
      have hz := hz.chg0 hc4
      have hC := hC.then hc4 (by simp)
      refine W_nil ?_
      refine E_then (C_fr [(0, .slice Aa0 a0.length ca0), (1, .int .i64 a1), (6, .int .i64 (a0.length : Int)), (7, .int .i64 (i : Int)), (8, .int .i64 (j : Int)), (9, .int .i64 (((i : Int) + (j : Int)) / 2)), (27, .bool (decide ((a0.getD (((i : Int) + (j : Int)) / 2).toNat (0 : Int)) < a1)))] rfl ?_)
      refine C_ite rfl (fun hC1 => ?_) (fun hC1 => ?_)
      · have _hC1 := trivial
        refine C_region ?_
        refine W_cons rfl (by decide) (Sv_val rfl (R_move rfl rfl) ?_)
        refine W_cons rfl (by decide) (Sv_val rfl (R_add64 rfl rfl rfl (by omega) (by omega)) ?_)
        refine W_cons rfl (by decide) (Sv_val rfl (R_assign rfl rfl) ?_)
        refine W_nil ?_
        refine E_block_normal ?_
        have hs5 : (((i : Int) + (j : Int)) / 2) + 1 = (((i + j) / 2 + 1 : Nat) : Int) := by omega
        refine E_round [0, 1, 6, 7, 8] ?_ ⟨((i + j) / 2 + 1), j, (by rw [← hs5]; rfl), (by omega), (by omega), (by intro q hq; have h1 := p1 q ((i + j) / 2) (by omega) (by omega); have h2 : (((i : Int) + (j : Int)) / 2).toNat = (i + j) / 2 := (by omega); have h4 := of_decide_eq_true hC1; rw [h2] at h4; omega), (by exact hI0_3), rfl, hz, hC⟩
        omega
      · have _hC1 := trivial
        refine C_region ?_
        refine W_cons rfl (by decide) (Sv_val rfl (R_move rfl rfl) ?_)
        refine W_cons rfl (by decide) (Sv_val rfl (R_assign rfl rfl) ?_)
        refine W_nil ?_
        refine E_block_normal ?_
        have hs6 : ((i : Int) + (j : Int)) / 2 = (((i + j) / 2 : Nat) : Int) := by omega
        refine E_round [0, 1, 6, 7, 8] ?_ ⟨i, ((i + j) / 2), (by rw [← hs6]; rfl), (by omega), (by omega), (by exact hI0_2), (by intro q h1 h3; have h1 := p1 ((i + j) / 2) q (by omega) (by omega); have h2 : (((i : Int) + (j : Int)) / 2).toNat = (i + j) / 2 := (by omega); have h4 := of_decide_eq_false hC1; rw [h2] at h4; omega), rfl, hz, hC⟩
        omega
    · have _hC0 := trivial
      have hC0p : ¬ ((i : Int) < (j : Int)) := by simpa using hC0
      refine C_exit ?_
      refine E_then_exit ?_
      refine E_then_exit ?_
      refine E_block_hit ?_
      refine E_then ?_
      refine C_seq ?_
      refine C_region ?_
      refine W_cons rfl (by decide) (Sv_val rfl (R_move rfl rfl) ?_)
      refine W_cons rfl (by decide) (Sv_val rfl (R_move rfl rfl) ?_)
      refine W_cons rfl (by decide) (Sv_val rfl (R_move rfl rfl) ?_)
      refine W_cons rfl (by decide) (Sv_val rfl (R_bin rfl rfl rfl rfl rfl) ?_)
      refine W_cons rfl (by decide) (Sv_val rfl (R_move rfl rfl) ?_)
      refine W_split (t := 35) rfl (fun hg7 => ?_) (fun hg7 => ?_)
      · have _hg7 := trivial
        have hg7p : (i : Int) < (a0.length : Int) := by simpa using hg7
        refine W_cons rfl (by decide) (Sv_gt rfl rfl rfl hg7 (Sv_val rfl (R_move rfl rfl) ?_))
        refine W_cons rfl (by decide) (Sv_gt rfl rfl rfl hg7 (Sv_val rfl (R_move rfl rfl) ?_))
        obtain ⟨q8, csq8, hAq8, rfl, hcq8⟩ := hra0.at_ (0 : Int) (i := (i : Int)) (by omega) (by omega)
        have hcq8 : ∀ (j_ : Nat) (u_ : Value), ([.int .i64 (a0.getD i (0 : Int))] : List Value)[j_]? = some u_ → cz z (q8.add (i * 1 + j_)) = some u_ := hcq8
        refine W_cons rfl (by decide) (Sv_gt rfl rfl rfl hg7 (Sv_val rfl (R_idx rfl rfl hAq8 rfl Try.underlying22 size3 (by omega) (by omega)) ?_))
        refine W_cons rfl (by decide) (Sv_gt rfl rfl rfl hg7 (Sv_val rfl (R_load1 rfl rfl agg3 (hz.cell (hcq8 0 _ rfl))) ?_))
        refine W_cons rfl (by decide) (Sv_gt rfl rfl rfl hg7 (Sv_val rfl (R_move rfl rfl) ?_))
        refine W_cons rfl (by decide) (Sv_gt rfl rfl rfl hg7 (Sv_val rfl (R_bin rfl rfl rfl rfl rfl) ?_))
        refine W_cons rfl (by decide) (Sv_gt rfl rfl rfl hg7 (Sv_val rfl (R_move rfl rfl) ?_))
        refine W_split (t := 42) rfl (fun hg9 => ?_) (fun hg9 => ?_)
        · have _hg9 := trivial
          have hg9p : (a0.getD i (0 : Int)) = a1 := by simpa using hg9
          refine W_cons rfl (by decide) (Sv_off rfl rfl rfl (by rw [hg9]; rfl) ?_)
          refine W_cons rfl (by decide) (Sv_off rfl rfl rfl (by rw [hg9]; rfl) ?_)
          refine W_cons rfl (by decide) (Sv_off rfl rfl rfl (by rw [hg9]; rfl) ?_)
          refine W_cons rfl (by decide) (Sv_off rfl rfl rfl (by rw [hg9]; rfl) ?_)
          refine W_cons rfl (by decide) (Sv_off rfl rfl rfl (by rw [hg9]; rfl) ?_)
          refine W_cons rfl (by decide) (Sv_off rfl rfl rfl (by rw [hg9]; rfl) ?_)
          refine W_cons rfl (by decide) (Sv_offu rfl rfl rfl ?_)
          refine W_cons rfl (by decide) (Sv_offu rfl rfl rfl ?_)
          refine W_cons rfl (by decide) (Sv_off rfl rfl rfl (by rw [hg9]; rfl) ?_)
          refine W_cons rfl (by decide) (Sv_gt rfl rfl rfl hg7 (Sv_val rfl (R_pick_t rfl rfl hg9 rfl) ?_))
          refine W_cons rfl (by decide) (Sv_val rfl (R_pick_t rfl rfl hg7 rfl) ?_)
          refine W_cons rfl (by decide) (Sv_val rfl (R_assign rfl rfl) ?_)
          refine W_cons rfl (by decide) (Sv_val rfl (R_assign rfl rfl) ?_)
          refine W_nil ?_
          refine E_then (C_fr [(4, .int .i64 (i : Int)), (5, .bool true)] rfl ?_)
          refine C_ret ?_
          refine E_ret2 rfl rfl rfl ?_
          exact ⟨Lret2 (Lint (show (i : Int) = (bsS a0 a1 : Int) by rw [show bsS a0 a1 = i from bs_of (by omega) hI0_2 (fun h => hI0_3 i (by omega) h)]; try (first | (rw [eq_comm, decide_eq_true_eq]; omega) | (rw [eq_comm, decide_eq_false_iff_not]; omega) | (rw [Bool.eq_iff_iff]; simp; omega)))) (Lbool (show true = decide (bsS a0 a1 < a0.length ∧ a0.getD (bsS a0 a1) 0 = a1) by rw [show bsS a0 a1 = i from bs_of (by omega) hI0_2 (fun h => hI0_3 i (by omega) h)]; try (first | (rw [eq_comm, decide_eq_true_eq]; omega) | (rw [eq_comm, decide_eq_false_iff_not]; omega) | (rw [Bool.eq_iff_iff]; simp; omega)))), hC⟩
        · have _hg9 := trivial
          have hg9p : ¬ ((a0.getD i (0 : Int)) = a1) := by simpa using hg9
          refine W_cons rfl (by decide) (Sv_gt rfl rfl rfl hg9 (Sv_val rfl (R_move rfl rfl) ?_))
          refine W_cons rfl (by decide) (Sv_gt rfl rfl rfl hg9 (Sv_val rfl (R_move rfl rfl) ?_))
          obtain ⟨q10, csq10, hAq10, rfl, hcq10⟩ := hra0.at_ (0 : Int) (i := (i : Int)) (by omega) (by omega)
          have hcq10 : ∀ (j_ : Nat) (u_ : Value), ([.int .i64 (a0.getD i (0 : Int))] : List Value)[j_]? = some u_ → cz z (q10.add (i * 1 + j_)) = some u_ := hcq10
          refine W_cons rfl (by decide) (Sv_gt rfl rfl rfl hg9 (Sv_val rfl (R_idx rfl rfl hAq10 rfl Try.underlying22 size3 (by omega) (by omega)) ?_))
          refine W_cons rfl (by decide) (Sv_gt rfl rfl rfl hg9 (Sv_val rfl (R_load1 rfl rfl agg3 (hz.cell (hcq10 0 _ rfl))) ?_))
          refine W_cons rfl (by decide) (Sv_gt rfl rfl rfl hg9 (Sv_call rfl rfl rfl ent50 ?_))
          refine (isnan_calls (a0.getD i (0 : Int))  _   ).mono ?_
          rintro e_ w11 ⟨rfl, hc12⟩
          refine ⟨_, rfl, ?_⟩
          have hz := hz.chg0 hc12
          have hC := hC.then hc12 (by simp)
          refine W_cons rfl (by decide) (Sv_gt rfl rfl rfl hg9 (Sv_val rfl (R_move rfl rfl) ?_))
          refine W_cons rfl (by decide) (Sv_off rfl rfl rfl rfl ?_)
          refine W_cons rfl (by decide) (Sv_off rfl rfl rfl rfl ?_)
          refine W_cons rfl (by decide) (Sv_gt rfl rfl rfl hg9 (Sv_val rfl (R_pick_f rfl rfl rfl rfl) ?_))
          refine W_cons rfl (by decide) (Sv_gt rfl rfl rfl hg7 (Sv_val rfl (R_pick_f rfl rfl hg9 rfl) ?_))
          refine W_cons rfl (by decide) (Sv_val rfl (R_pick_t rfl rfl hg7 rfl) ?_)
          refine W_cons rfl (by decide) (Sv_val rfl (R_assign rfl rfl) ?_)
          refine W_cons rfl (by decide) (Sv_val rfl (R_assign rfl rfl) ?_)
          refine W_nil ?_
          refine E_then (C_fr [(4, .int .i64 (i : Int)), (5, .bool false)] rfl ?_)
          refine C_ret ?_
          refine E_ret2 rfl rfl rfl ?_
          exact ⟨Lret2 (Lint (show (i : Int) = (bsS a0 a1 : Int) by rw [show bsS a0 a1 = i from bs_of (by omega) hI0_2 (fun h => hI0_3 i (by omega) h)]; try (first | (rw [eq_comm, decide_eq_true_eq]; omega) | (rw [eq_comm, decide_eq_false_iff_not]; omega) | (rw [Bool.eq_iff_iff]; simp; omega)))) (Lbool (show false = decide (bsS a0 a1 < a0.length ∧ a0.getD (bsS a0 a1) 0 = a1) by rw [show bsS a0 a1 = i from bs_of (by omega) hI0_2 (fun h => hI0_3 i (by omega) h)]; try (first | (rw [eq_comm, decide_eq_true_eq]; omega) | (rw [eq_comm, decide_eq_false_iff_not]; omega) | (rw [Bool.eq_iff_iff]; simp; omega)))), hC⟩
      · have _hg7 := trivial
        have hg7p : ¬ ((i : Int) < (a0.length : Int)) := by simpa using hg7
        refine W_cons rfl (by decide) (Sv_off rfl rfl rfl (by rw [hg7]; rfl) ?_)
        refine W_cons rfl (by decide) (Sv_off rfl rfl rfl (by rw [hg7]; rfl) ?_)
        refine W_cons rfl (by decide) (Sv_off rfl rfl rfl (by rw [hg7]; rfl) ?_)
        refine W_cons rfl (by decide) (Sv_off rfl rfl rfl (by rw [hg7]; rfl) ?_)
        refine W_cons rfl (by decide) (Sv_off rfl rfl rfl (by rw [hg7]; rfl) ?_)
        refine W_cons rfl (by decide) (Sv_off rfl rfl rfl (by rw [hg7]; rfl) ?_)
        refine W_cons rfl (by decide) (Sv_off rfl rfl rfl (by rw [hg7]; rfl) ?_)
        refine W_cons rfl (by decide) (Sv_offu rfl rfl rfl ?_)
        refine W_cons rfl (by decide) (Sv_offu rfl rfl rfl ?_)
        refine W_cons rfl (by decide) (Sv_offu rfl rfl rfl ?_)
        refine W_cons rfl (by decide) (Sv_offu rfl rfl rfl ?_)
        refine W_cons rfl (by decide) (Sv_offu rfl rfl rfl ?_)
        refine W_cons rfl (by decide) (Sv_offu rfl rfl rfl ?_)
        refine W_cons rfl (by decide) (Sv_offu rfl rfl rfl ?_)
        refine W_cons rfl (by decide) (Sv_offu rfl rfl rfl ?_)
        refine W_cons rfl (by decide) (Sv_offu rfl rfl rfl ?_)
        refine W_cons rfl (by decide) (Sv_off rfl rfl rfl (by rw [hg7]; rfl) ?_)
        refine W_cons rfl (by decide) (Sv_val rfl (R_pick_f rfl rfl hg7 rfl) ?_)
        refine W_cons rfl (by decide) (Sv_val rfl (R_assign rfl rfl) ?_)
        refine W_cons rfl (by decide) (Sv_val rfl (R_assign rfl rfl) ?_)
        refine W_nil ?_
        refine E_then (C_fr [(4, .int .i64 (i : Int)), (5, .bool false)] rfl ?_)
        refine C_ret ?_
        refine E_ret2 rfl rfl rfl ?_
        exact ⟨Lret2 (Lint (show (i : Int) = (bsS a0 a1 : Int) by rw [show bsS a0 a1 = i from bs_of (by omega) hI0_2 (fun h => hI0_3 i (by omega) h)]; try (first | (rw [eq_comm, decide_eq_true_eq]; omega) | (rw [eq_comm, decide_eq_false_iff_not]; omega) | (rw [Bool.eq_iff_iff]; simp; omega)))) (Lbool (show false = decide (bsS a0 a1 < a0.length ∧ a0.getD (bsS a0 a1) 0 = a1) by rw [show bsS a0 a1 = i from bs_of (by omega) hI0_2 (fun h => hI0_3 i (by omega) h)]; try (first | (rw [eq_comm, decide_eq_true_eq]; omega) | (rw [eq_comm, decide_eq_false_iff_not]; omega) | (rw [Bool.eq_iff_iff]; simp; omega)))), hC⟩

set_option maxHeartbeats 400000 in
set_option maxRecDepth 20000 in
theorem find_calls (Aa0 : Option Addr) (ca0 : Nat) (a0 : List Int) (a1 : Int) (z : Z) (w : World) (hz : Sub z w) (hra0 : Rd (kint .i64) z Aa0 a0) (hca0 : Cap Aa0 a0.length ca0) (p0 : a0.length ≤ 1000000) (p1 : -9223372036854775808 ≤ a1) :
    Calls Try.prog 17 #[.slice Aa0 a0.length ca0, .int .i64 a1] w fun e w' => e = .returned (.tuple #[.int .i64 ((findS a0 a1).1), .int .i64 ((findS a0 a1).2)]) ∧ Chg [] w w' := by
  have hsl := starts_len a0
  have hsb := starts_bd a0 a0.length (Nat.le_refl _)
  have hla0 := hca0.le
  have hma0 := hca0.mx
  have hC := Chg.refl [] w
  refine Calls_of (vs := [.slice Aa0 a0.length ca0, .int .i64 a1]) (N := 47) Try.func17 rfl rfl (Nat.le_of_ble_eq_true rfl) ?_
  refine C_seq ?_
  refine C_region ?_
  refine W_cons rfl (by decide) (Sv_val rfl (R_assign rfl rfl) ?_)
  refine W_cons rfl (by decide) (Sv_val rfl (R_assign rfl rfl) ?_)
  refine W_nil ?_
  refine E_then ?_
  refine C_seq ?_
  refine C_region ?_
  refine W_cons rfl (by decide) (Sv_val rfl (R_move rfl rfl) ?_)
  refine W_cons rfl (by decide) (Sv_call rfl rfl rfl ent14 ?_)
  refine (starts_calls Aa0 ca0 a0 _ _ hz hra0 hca0 (by omega)).mono ?_
  rintro e_ w1 ⟨Ar3, cr3, rfl, hOr3, hc2⟩
  refine ⟨_, rfl, ?_⟩
  have hZr3 : ∀ k ∈ blk Ar3, z k = none := fresh_z hz hOr3.base
  have hNr3 : ∀ k ∈ blk Ar3, w.heap.size ≤ k := newC hOr3.base hC.size
  have hOr3 := hOr3.lower hC.size
  have hz := hz.chg0 hc2
  have hC := hC.then hc2 (by simp)
  have hmr3 := hOr3.cap.mx
  have hlr3 := hOr3.cap.le
  obtain ⟨z4, hz, hler3, hrr3, hnr3⟩ := (hOr3.mono (zle_E _)).freeze hz hZr3
  have hcpr3 := hOr3.cap
  have hra0 := hra0.mono hler3
  refine W_cons rfl (by decide) (Sv_val rfl (R_assign rfl rfl) ?_)
  refine W_nil ?_
  refine E_then ?_
  refine C_seq ?_
  refine C_seq ?_
  refine C_region ?_
  refine W_cons rfl (by decide) (Sv_val rfl (R_move rfl rfl) ?_)
  refine W_cons rfl (by decide) (Sv_val rfl (R_bin rfl rfl rfl rfl rfl) ?_)
  refine W_cons rfl (by decide) (Sv_val rfl (R_move rfl rfl) ?_)
  refine W_split (t := 13) rfl (fun hg5 => ?_) (fun hg5 => ?_)
  · have _hg5 := trivial
    have hg5p : a1 < 0 := by simpa using hg5
    refine W_cons rfl (by decide) (Sv_off rfl rfl rfl (by rw [hg5]; rfl) ?_)
    refine W_cons rfl (by decide) (Sv_off rfl rfl rfl (by rw [hg5]; rfl) ?_)
    refine W_cons rfl (by decide) (Sv_off rfl rfl rfl (by rw [hg5]; rfl) ?_)
    refine W_cons rfl (by decide) (Sv_off rfl rfl rfl (by rw [hg5]; rfl) ?_)
    refine W_cons rfl (by decide) (Sv_off rfl rfl rfl (by rw [hg5]; rfl) ?_)
    refine W_cons rfl (by decide) (Sv_off rfl rfl rfl (by rw [hg5]; rfl) ?_)
    refine W_cons rfl (by decide) (Sv_off rfl rfl rfl (by rw [hg5]; rfl) ?_)
    refine W_cons rfl (by decide) (Sv_val rfl (R_pick_t rfl rfl hg5 rfl) ?_)
    refine W_nil ?_
    refine E_then (C_fr [(1, .int .i64 a1), (6, .slice Ar3 (startsS a0).length cr3), (21, .bool true)] rfl ?_)
    refine C_if rfl rfl ?_
    refine C_seq ?_
    refine C_region ?_
    refine W_cons rfl (by decide) (Sv_val rfl (R_assign rfl rfl) ?_)
    refine W_cons rfl (by decide) (Sv_val rfl (R_assign rfl rfl) ?_)
    refine W_nil ?_
    refine E_then ?_
    refine C_ret ?_
    refine E_then_ret ?_
    refine E_ret2 rfl rfl rfl ?_
    exact ⟨Lret2 (Lint (show (-1) = (findS a0 a1).1 by have hn : 1 ≤ bsS (startsS a0) (a1 + 1) → ((bsS (startsS a0) (a1 + 1) : Int) - 1).toNat = bsS (startsS a0) (a1 + 1) - 1 := (by omega); unfold findS; first | (rw [if_pos (by omega)]) | (rw [if_neg (by omega), if_pos (by assumption)]) | (rw [if_neg (by omega), if_neg (by assumption)]; try rw [hn (by omega)]))) (Lint (show (-1) = (findS a0 a1).2 by have hn : 1 ≤ bsS (startsS a0) (a1 + 1) → ((bsS (startsS a0) (a1 + 1) : Int) - 1).toNat = bsS (startsS a0) (a1 + 1) - 1 := (by omega); unfold findS; first | (rw [if_pos (by omega)]) | (rw [if_neg (by omega), if_pos (by assumption)]) | (rw [if_neg (by omega), if_neg (by assumption)]; try rw [hn (by omega)]))), hC⟩
  · have _hg5 := trivial
    have hg5p : ¬ (a1 < 0) := by simpa using hg5
    refine W_cons rfl (by decide) (Sv_gt rfl rfl rfl hg5 (Sv_val rfl (R_move rfl rfl) ?_))
    refine W_cons rfl (by decide) (Sv_gt rfl rfl rfl hg5 (Sv_val rfl (R_move rfl rfl) ?_))
    refine W_cons rfl (by decide) (Sv_gt rfl rfl rfl hg5 (Sv_val rfl (R_move rfl rfl) ?_))
    refine W_cons rfl (by decide) (Sv_gt rfl rfl rfl hg5 (Sv_val rfl (R_len rfl rfl Try.underlying22) ?_))
    obtain ⟨q6, csq6, hAq6, rfl, hcq6⟩ := hrr3.at_ (0 : Int) (i := (a0.length : Int)) (by omega) (by omega)
    have hcq6 : ∀ (j_ : Nat) (u_ : Value), ([.int .i64 ((startsS a0).getD a0.length (0 : Int))] : List Value)[j_]? = some u_ → cz z4 (q6.add (a0.length * 1 + j_)) = some u_ := hcq6
    refine W_cons rfl (by decide) (Sv_gt rfl rfl rfl hg5 (Sv_val rfl (R_idx rfl rfl hAq6 rfl Try.underlying22 size3 (by omega) (by omega)) ?_))
    refine W_cons rfl (by decide) (Sv_gt rfl rfl rfl hg5 (Sv_val rfl (R_load1 rfl rfl agg3 (hz.cell (hcq6 0 _ rfl))) ?_))
    refine W_cons rfl (by decide) (Sv_gt rfl rfl rfl hg5 (Sv_val rfl (R_bin rfl rfl rfl rfl rfl) ?_))
    refine W_cons rfl (by decide) (Sv_val rfl (R_pick_f rfl rfl hg5 rfl) ?_)
    refine W_nil ?_
    refine E_then (C_fr [(1, .int .i64 a1), (6, .slice Ar3 (startsS a0).length cr3), (21, .bool (decide (a1 ≥ ((startsS a0).getD a0.length (0 : Int)))))] rfl ?_)
    refine C_ite rfl (fun hC0 => ?_) (fun hC0 => ?_)
    · have _hC0 := trivial
      have hC0p : a1 ≥ ((startsS a0).getD a0.length (0 : Int)) := by simpa using hC0
      refine C_seq ?_
      refine C_region ?_
      refine W_cons rfl (by decide) (Sv_val rfl (R_assign rfl rfl) ?_)
      refine W_cons rfl (by decide) (Sv_val rfl (R_assign rfl rfl) ?_)
      refine W_nil ?_
      refine E_then ?_
      refine C_ret ?_
      refine E_then_ret ?_
      refine E_ret2 rfl rfl rfl ?_
      exact ⟨Lret2 (Lint (show (-1) = (findS a0 a1).1 by have hn : 1 ≤ bsS (startsS a0) (a1 + 1) → ((bsS (startsS a0) (a1 + 1) : Int) - 1).toNat = bsS (startsS a0) (a1 + 1) - 1 := (by omega); unfold findS; first | (rw [if_pos (by omega)]) | (rw [if_neg (by omega), if_pos (by assumption)]) | (rw [if_neg (by omega), if_neg (by assumption)]; try rw [hn (by omega)]))) (Lint (show (-1) = (findS a0 a1).2 by have hn : 1 ≤ bsS (startsS a0) (a1 + 1) → ((bsS (startsS a0) (a1 + 1) : Int) - 1).toNat = bsS (startsS a0) (a1 + 1) - 1 := (by omega); unfold findS; first | (rw [if_pos (by omega)]) | (rw [if_neg (by omega), if_pos (by assumption)]) | (rw [if_neg (by omega), if_neg (by assumption)]; try rw [hn (by omega)]))), hC⟩
    · have _hC0 := trivial
      have hC0p : ¬ (a1 ≥ ((startsS a0).getD a0.length (0 : Int))) := by simpa using hC0
      have hfm := find_mid (l := a0) (a := a1) (by omega) (by omega)
      refine C_skip ?_
      refine E_then ?_
      refine C_seq ?_
      refine C_region ?_
      refine W_cons rfl (by decide) (Sv_val rfl (R_move rfl rfl) ?_)
      refine W_cons rfl (by decide) (Sv_val rfl (R_move rfl rfl) ?_)
      refine W_cons rfl (by decide) (Sv_val rfl (R_add64 rfl rfl rfl (by omega) (by omega)) ?_)
      refine W_cons rfl (by decide) (Sv_call rfl rfl rfl ent40 ?_)
      refine (bs_calls Ar3 cr3 (startsS a0) (a1 + 1) _ _ hz hrr3 hcpr3 (by have := starts_len a0; omega) (by exact starts_sorted a0)).mono ?_
      rintro e_ w7 ⟨rfl, hc8⟩
      refine ⟨_, rfl, ?_⟩
      have hz := hz.chg0 hc8
      have hC := hC.then hc8 (by simp)
      refine W_cons rfl (by decide) (Sv_val rfl (R_move rfl rfl) ?_)
      refine W_cons rfl (by decide) (Sv_val rfl (R_extract rfl rfl rfl) ?_)
      refine W_cons rfl (by decide) (Sv_val rfl (R_extract rfl rfl rfl) ?_)
      refine W_cons rfl (by decide) (Sv_val rfl (R_assign rfl rfl) ?_)
      refine W_cons rfl (by decide) (Sv_val rfl (R_assign rfl rfl) ?_)
      refine W_nil ?_
      refine E_then (C_fr [(1, .int .i64 a1), (6, .slice Ar3 (startsS a0).length cr3), (7, .int .i64 (bsS (startsS a0) (a1 + 1) : Int))] rfl ?_)
      refine C_block ?_
      refine C_seq ?_
      refine C_region ?_
      refine W_cons rfl (by decide) (Sv_val rfl (R_move rfl rfl) ?_)
      refine W_cons rfl (by decide) (Sv_val rfl (R_move rfl rfl) ?_)
      obtain ⟨q9, csq9, hAq9, rfl, hcq9⟩ := hrr3.at_ (0 : Int) (i := (bsS (startsS a0) (a1 + 1) : Int)) (by omega) (by omega)
      have hcq9 : ∀ (j_ : Nat) (u_ : Value), ([.int .i64 ((startsS a0).getD (bsS (startsS a0) (a1 + 1)) (0 : Int))] : List Value)[j_]? = some u_ → cz z4 (q9.add ((bsS (startsS a0) (a1 + 1)) * 1 + j_)) = some u_ := hcq9
      refine W_cons rfl (by decide) (Sv_val rfl (R_idx rfl rfl hAq9 rfl Try.underlying22 size3 (by omega) (by omega)) ?_)
      refine W_cons rfl (by decide) (Sv_val rfl (R_load1 rfl rfl agg3 (hz.cell (hcq9 0 _ rfl))) ?_)
      refine W_cons rfl (by decide) (Sv_val rfl (R_move rfl rfl) ?_)
      refine W_cons rfl (by decide) (Sv_val rfl (R_add64 rfl rfl rfl (by omega) (by omega)) ?_)
      refine W_cons rfl (by decide) (Sv_val rfl (R_bin rfl rfl rfl rfl rfl) ?_)
      refine W_cons rfl (by decide) (Sv_val rfl (R_assign rfl rfl) ?_)
      refine W_nil ?_
      refine E_then (C_fr [(1, .int .i64 a1), (6, .slice Ar3 (startsS a0).length cr3), (7, .int .i64 (bsS (startsS a0) (a1 + 1) : Int)), (38, .bool (((startsS a0).getD (bsS (startsS a0) (a1 + 1)) (0 : Int)) == (a1 + 1)))] rfl ?_)
      refine C_ite rfl (fun hC1 => ?_) (fun hC1 => ?_)
      · have _hC1 := trivial
        have hC1p : ((startsS a0).getD (bsS (startsS a0) (a1 + 1)) (0 : Int)) = (a1 + 1) := by simpa using hC1
        refine C_seq ?_
        refine C_region ?_
        refine W_cons rfl (by decide) (Sv_val rfl (R_move rfl rfl) ?_)
        refine W_cons rfl (by decide) (Sv_val rfl (R_assign rfl rfl) ?_)
        refine W_cons rfl (by decide) (Sv_val rfl (R_assign rfl rfl) ?_)
        refine W_nil ?_
        refine E_then (C_fr [(4, .int .i64 (bsS (startsS a0) (a1 + 1) : Int)), (5, .int .i64 (-1))] rfl ?_)
        refine C_ret ?_
        refine E_block_ret ?_
        refine E_ret2 rfl rfl rfl ?_
        exact ⟨Lret2 (Lint (show (bsS (startsS a0) (a1 + 1) : Int) = (findS a0 a1).1 by have hn : 1 ≤ bsS (startsS a0) (a1 + 1) → ((bsS (startsS a0) (a1 + 1) : Int) - 1).toNat = bsS (startsS a0) (a1 + 1) - 1 := (by omega); unfold findS; first | (rw [if_pos (by omega)]) | (rw [if_neg (by omega), if_pos (by assumption)]) | (rw [if_neg (by omega), if_neg (by assumption)]; try rw [hn (by omega)]))) (Lint (show (-1) = (findS a0 a1).2 by have hn : 1 ≤ bsS (startsS a0) (a1 + 1) → ((bsS (startsS a0) (a1 + 1) : Int) - 1).toNat = bsS (startsS a0) (a1 + 1) - 1 := (by omega); unfold findS; first | (rw [if_pos (by omega)]) | (rw [if_neg (by omega), if_pos (by assumption)]) | (rw [if_neg (by omega), if_neg (by assumption)]; try rw [hn (by omega)]))), hC⟩
      · have _hC1 := trivial
        have hC1p : ¬ (((startsS a0).getD (bsS (startsS a0) (a1 + 1)) (0 : Int)) = (a1 + 1)) := by simpa using hC1
        have hf1 := hfm.2 hC1p
        have hsb1 := starts_bd a0 (bsS (startsS a0) (a1 + 1) - 1) (by omega)
        have hn : ((bsS (startsS a0) (a1 + 1) : Int) - 1).toNat = bsS (startsS a0) (a1 + 1) - 1 := by omega
        rw [← hn] at hsb1
        refine C_seq ?_
        refine C_fr [(1, .int .i64 a1), (6, .slice Ar3 (startsS a0).length cr3), (7, .int .i64 (bsS (startsS a0) (a1 + 1) : Int))] rfl ?_
        obtain ⟨q10, csq10, hAq10, rfl, hcq10⟩ := hrr3.at_ (0 : Int) (i := ((bsS (startsS a0) (a1 + 1) : Int) - 1)) (by omega) (by omega)
        refine C_drawnX 11 [[], [0], [], [], [], [4], [3, 5], [6], [2, 7], [1, 0, 1], [8, 9, 0, 1, 2, 3, 4, 5, 6, 7, 8, 9]] [some 29, some 30, some 31, some 32, some 33, some 34, some 35, some 36, some 37, some 4, some 5] [1, 6, 7] [[], [], [], [], [], [], [], [], [], [], []] [11, 11, 11, 11, 11, 11, 11, 11, 11, 11, 11] [false, false, false, false, false, false, false, false, false, false, false] rfl (by kernel_rfl) (by decide +kernel) [fun v _ => v = .int .i64 (bsS (startsS a0) (a1 + 1) : Int), fun v _ => v = .int .i64 ((bsS (startsS a0) (a1 + 1) : Int) - 1), fun v _ => v = .int .i64 a1, fun v _ => v = .slice Ar3 (startsS a0).length cr3, fun v _ => v = .int .i64 (bsS (startsS a0) (a1 + 1) : Int), fun v _ => v = .int .i64 ((bsS (startsS a0) (a1 + 1) : Int) - 1), fun v _ => v = .pointer (some (q10.add (((bsS (startsS a0) (a1 + 1) : Int) - 1).toNat * 1))), fun v _ => v = .int .i64 ((startsS a0).getD ((bsS (startsS a0) (a1 + 1) : Int) - 1).toNat (0 : Int)), fun v _ => v = .int .i64 (a1 - ((startsS a0).getD ((bsS (startsS a0) (a1 + 1) : Int) - 1).toNat (0 : Int))), fun v _ => v = .int .i64 ((bsS (startsS a0) (a1 + 1) : Int) - 1), fun v _ => v = .int .i64 (a1 - ((startsS a0).getD ((bsS (startsS a0) (a1 + 1) : Int) - 1).toNat (0 : Int)))] ?_ ?_ ?_
        · exact ⟨fun _ _ _ h _ => h, fun _ _ _ h _ => h, fun _ _ _ h _ => h, fun _ _ _ h _ => h, fun _ _ _ h _ => h, fun _ _ _ h _ => h, fun _ _ _ h _ => h, fun _ _ _ h _ => h, fun _ _ _ h _ => h, fun _ _ _ h _ => h, fun _ _ _ h _ => h, trivial⟩
        · refine ⟨fun w11 hc12 => ?_, ?_⟩
          · have _w11 := trivial
            have hc12 : Chg [] w7 w11 := hc12
            have hz := hz.chg0 hc12
            have hC := hC.then hc12 (by simp)
            exact Sv_val rfl (R_move rfl rfl) ⟨Chg.refl _ _, rfl, trivial⟩
          refine ⟨fun w13 hc14 => ?_, ?_⟩
          · have _w13 := trivial
            have hc14 : Chg [] w7 w13 := hc14
            have hz := hz.chg0 hc14
            have hC := hC.then hc14 (by simp)
            rintro _ rfl
            exact Sv_val rfl (R_sub64 rfl rfl rfl (by omega) (by omega)) ⟨Chg.refl _ _, rfl, trivial⟩
          refine ⟨fun w15 hc16 => ?_, ?_⟩
          · have _w15 := trivial
            have hc16 : Chg [] w7 w15 := hc16
            have hz := hz.chg0 hc16
            have hC := hC.then hc16 (by simp)
            exact Sv_val rfl (R_move rfl rfl) ⟨Chg.refl _ _, rfl, trivial⟩
          refine ⟨fun w17 hc18 => ?_, ?_⟩
          · have _w17 := trivial
            have hc18 : Chg [] w7 w17 := hc18
            have hz := hz.chg0 hc18
            have hC := hC.then hc18 (by simp)
            exact Sv_val rfl (R_move rfl rfl) ⟨Chg.refl _ _, rfl, trivial⟩
          refine ⟨fun w19 hc20 => ?_, ?_⟩
          · have _w19 := trivial
            have hc20 : Chg [] w7 w19 := hc20
            have hz := hz.chg0 hc20
            have hC := hC.then hc20 (by simp)
            exact Sv_val rfl (R_move rfl rfl) ⟨Chg.refl _ _, rfl, trivial⟩
          refine ⟨fun w21 hc22 => ?_, ?_⟩
          · have _w21 := trivial
            have hc22 : Chg [] w7 w21 := hc22
            have hz := hz.chg0 hc22
            have hC := hC.then hc22 (by simp)
            rintro _ rfl
            exact Sv_val rfl (R_sub64 rfl rfl rfl (by omega) (by omega)) ⟨Chg.refl _ _, rfl, trivial⟩
          refine ⟨fun w23 hc24 => ?_, ?_⟩
          · have _w23 := trivial
            have hc24 : Chg [] w7 w23 := hc24
            have hz := hz.chg0 hc24
            have hC := hC.then hc24 (by simp)
            rintro _ rfl _ rfl
            exact Sv_val rfl (R_idx rfl rfl hAq10 rfl Try.underlying22 size3 (by omega) (by omega)) ⟨Chg.refl _ _, rfl, trivial⟩
          refine ⟨fun w25 hc26 => ?_, ?_⟩
          · have _w25 := trivial
            have hc26 : Chg [] w7 w25 := hc26
            have hz := hz.chg0 hc26
            have hC := hC.then hc26 (by simp)
            rintro _ rfl
            exact Sv_val rfl (R_load1 rfl rfl agg3 (hz.cell (hcq10 0 _ rfl))) ⟨Chg.refl _ _, rfl, trivial⟩
          refine ⟨fun w27 hc28 => ?_, ?_⟩
          · have _w27 := trivial
            have hc28 : Chg [] w7 w27 := hc28
            have hz := hz.chg0 hc28
            have hC := hC.then hc28 (by simp)
            rintro _ rfl _ rfl
            exact Sv_val rfl (R_sub64 rfl rfl rfl (by omega) (by omega)) ⟨Chg.refl _ _, rfl, trivial⟩
          refine ⟨fun w29 hc30 => ?_, ?_⟩
          · have _w29 := trivial
            have hc30 : Chg [] w7 w29 := hc30
            have hz := hz.chg0 hc30
            have hC := hC.then hc30 (by simp)
            rintro _ rfl _ rfl _ rfl
            exact Sv_val rfl (R_assign rfl rfl) ⟨Chg.refl _ _, rfl, trivial⟩
          refine ⟨fun w31 hc32 => ?_, ?_⟩
          · have _w31 := trivial
            have hc32 : Chg [] w7 w31 := hc32
            have hz := hz.chg0 hc32
            have hC := hC.then hc32 (by simp)
            rintro _ rfl _ rfl _ rfl _ rfl _ rfl _ rfl _ rfl _ rfl _ rfl _ rfl _ rfl _ rfl
            exact Sv_val rfl (R_assign rfl rfl) ⟨Chg.refl _ _, rfl, trivial⟩
          exact trivial
        · intro w33 hc34
          have hc34 : Chg [] w7 w33 := hc34
          have hz := hz.chg0 hc34
          have hC := hC.then hc34 (by simp)
          rintro _ rfl _ rfl _ rfl _ rfl _ rfl _ rfl _ rfl _ rfl _ rfl _ rfl _ rfl _
          refine An_fr [(1, .int .i64 a1), (4, .int .i64 ((bsS (startsS a0) (a1 + 1) : Int) - 1)), (5, .int .i64 (a1 - ((startsS a0).getD ((bsS (startsS a0) (a1 + 1) : Int) - 1).toNat (0 : Int)))), (6, .slice Ar3 (startsS a0).length cr3), (7, .int .i64 (bsS (startsS a0) (a1 + 1) : Int))] rfl ?_
          refine An_done (by decide +kernel) ?_
          refine E_then ?_
          refine C_ret ?_
          refine E_block_ret ?_
          refine E_ret2 rfl rfl rfl ?_
          exact ⟨Lret2 (Lint (show (bsS (startsS a0) (a1 + 1) : Int) - 1 = (findS a0 a1).1 by have hn : 1 ≤ bsS (startsS a0) (a1 + 1) → ((bsS (startsS a0) (a1 + 1) : Int) - 1).toNat = bsS (startsS a0) (a1 + 1) - 1 := (by omega); unfold findS; first | (rw [if_pos (by omega)]) | (rw [if_neg (by omega), if_pos (by assumption)]) | (rw [if_neg (by omega), if_neg (by assumption)]; try rw [hn (by omega)]))) (Lint (show a1 - ((startsS a0).getD ((bsS (startsS a0) (a1 + 1) : Int) - 1).toNat (0 : Int)) = (findS a0 a1).2 by have hn : 1 ≤ bsS (startsS a0) (a1 + 1) → ((bsS (startsS a0) (a1 + 1) : Int) - 1).toNat = bsS (startsS a0) (a1 + 1) - 1 := (by omega); unfold findS; first | (rw [if_pos (by omega)]) | (rw [if_neg (by omega), if_pos (by assumption)]) | (rw [if_neg (by omega), if_neg (by assumption)]; try rw [hn (by omega)]))), hC⟩

end Go.Proofs.YtibniimdfahiiaaG
