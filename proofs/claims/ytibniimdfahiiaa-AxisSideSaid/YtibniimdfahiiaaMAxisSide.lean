/- The walk of the law AxisSide: it returns true. -/
import Derived.Test.YtibniimdfahiiaaX2
set_option linter.all false
namespace Go.Proofs.YtibniimdfahiiaaG
open Go Go.RowKit
set_option maxHeartbeats 8000000 in
set_option maxRecDepth 20000 in
theorem axisSide_calls (Aa0 : Option Addr) (ca0 : Nat) (a0 : List Int) (Aa1 : Option Addr) (ca1 : Nat) (a1 : List Int) (a2 : TRect) (a3 : Int) (a4 : Bool) (z : Z) (w : World) (hz : Sub z w) (hra0 : Rd (kint .i64) z Aa0 a0) (hca0 : Cap Aa0 a0.length ca0) (hra1 : Rd (kint .i64) z Aa1 a1) (hca1 : Cap Aa1 a1.length ca1)  :
    Calls Try.prog 6 #[.slice Aa0 a0.length ca0, .slice Aa1 a1.length ca1, .agg #[.int .i64 a2.Row, .int .i64 a2.Col, .int .i64 a2.Rows, .int .i64 a2.Cols], .int .i64 a3, .bool a4] w fun e w' => e = .returned (.bool true) ∧ Chg [] w w' := by
  have hla0 := hca0.le
  have hma0 := hca0.mx
  have hla1 := hca1.le
  have hma1 := hca1.mx
  have hC := Chg.refl [] w
  refine Calls_of (vs := [.slice Aa0 a0.length ca0, .slice Aa1 a1.length ca1, .agg #[.int .i64 a2.Row, .int .i64 a2.Col, .int .i64 a2.Rows, .int .i64 a2.Cols], .int .i64 a3, .bool a4]) (N := 192) Try.func6 rfl rfl (Nat.le_of_ble_eq_true rfl) ?_
  refine C_seq ?_
  refine C_region ?_
  refine W_cons rfl (by decide) (Sv_box rfl (R_box (cs := [.int .i64 a2.Row, .int .i64 a2.Col, .int .i64 a2.Rows, .int .i64 a2.Cols]) rfl rfl rfl) (fun b1 w2 hcb1 hnb1 hBb1 => ?_))
  have hZb1 : ∀ k ∈ [b1], z k = none := fresh_z hz (boxbase hnb1)
  have hNb1 : ∀ k ∈ [b1], w.heap.size ≤ k := newC (boxbase hnb1) hC.size
  have hz := hz.chg0 hcb1
  have hC := hC.then hcb1 (by simp)
  refine W_cons rfl (by decide) (Sv_val rfl (R_assign rfl rfl) ?_)
  refine W_nil ?_
  refine E_then ?_
  refine C_seq ?_
  refine C_seq ?_
  refine C_region ?_
  refine W_cons rfl (by decide) (Sv_val rfl (R_move rfl rfl) ?_)
  refine W_cons rfl (by decide) (Sv_val rfl (R_len rfl rfl Try.underlying22) ?_)
  refine W_cons rfl (by decide) (Sv_val rfl (R_bin rfl rfl rfl rfl rfl) ?_)
  refine W_cons rfl (by decide) (Sv_val rfl (R_move rfl rfl) ?_)
  refine W_split (t := 29) rfl (fun hg3 => ?_) (fun hg3 => ?_)
  · have _hg3 := trivial
    have hg3p : (a0.length : Int) > 40 := by simpa using hg3
    refine W_cons rfl (by decide) (Sv_off rfl rfl rfl (by rw [hg3]; rfl) ?_)
    refine W_cons rfl (by decide) (Sv_off rfl rfl rfl (by rw [hg3]; rfl) ?_)
    refine W_cons rfl (by decide) (Sv_off rfl rfl rfl (by rw [hg3]; rfl) ?_)
    refine W_cons rfl (by decide) (Sv_val rfl (R_pick_t rfl rfl hg3 rfl) ?_)
    refine W_nil ?_
    refine E_then (C_fr [(0, .slice Aa0 a0.length ca0), (1, .slice Aa1 a1.length ca1), (3, .int .i64 a3), (4, .bool a4), (7, .pointer (some ⟨b1, 0, none⟩)), (33, .bool true)] rfl ?_)
    refine C_if rfl rfl ?_
    refine C_seq ?_
    refine C_region ?_
    refine W_cons rfl (by decide) (Sv_call rfl rfl rfl ent12 ?_)
    refine (awake_calls   _   ).mono ?_
    rintro e_ w4 ⟨rfl, hc5⟩
    refine ⟨_, rfl, ?_⟩
    have hz := hz.chg0 hc5
    have hC := hC.then hc5 (by simp)
    refine W_cons rfl (by decide) (Sv_val rfl (R_assign rfl rfl) ?_)
    refine W_nil ?_
    refine E_then (C_fr [(10, .bool true)] rfl ?_)
    refine C_ret ?_
    refine E_then_ret ?_
    refine E_ret1 rfl rfl ?_
    exact ⟨Lret1 (Lbool (show true = true by rfl)), hC⟩
  · have _hg3 := trivial
    have hg3p : ¬ ((a0.length : Int) > 40) := by simpa using hg3
    refine W_cons rfl (by decide) (Sv_gt rfl rfl rfl hg3 (Sv_val rfl (R_move rfl rfl) ?_))
    refine W_cons rfl (by decide) (Sv_gt rfl rfl rfl hg3 (Sv_val rfl (R_len rfl rfl Try.underlying22) ?_))
    refine W_cons rfl (by decide) (Sv_gt rfl rfl rfl hg3 (Sv_val rfl (R_bin rfl rfl rfl rfl rfl) ?_))
    refine W_cons rfl (by decide) (Sv_val rfl (R_pick_f rfl rfl hg3 rfl) ?_)
    refine W_nil ?_
    refine E_then (C_fr [(0, .slice Aa0 a0.length ca0), (1, .slice Aa1 a1.length ca1), (3, .int .i64 a3), (4, .bool a4), (7, .pointer (some ⟨b1, 0, none⟩)), (33, .bool (decide ((a1.length : Int) > 40)))] rfl ?_)
    refine C_ite rfl (fun hC0 => ?_) (fun hC0 => ?_)
    · have _hC0 := trivial
      have hC0p : (a1.length : Int) > 40 := by simpa using hC0
      refine C_seq ?_
      refine C_region ?_
      refine W_cons rfl (by decide) (Sv_call rfl rfl rfl ent12 ?_)
      refine (awake_calls   _   ).mono ?_
      rintro e_ w6 ⟨rfl, hc7⟩
      refine ⟨_, rfl, ?_⟩
      have hz := hz.chg0 hc7
      have hC := hC.then hc7 (by simp)
      refine W_cons rfl (by decide) (Sv_val rfl (R_assign rfl rfl) ?_)
      refine W_nil ?_
      refine E_then (C_fr [(10, .bool true)] rfl ?_)
      refine C_ret ?_
      refine E_then_ret ?_
      refine E_ret1 rfl rfl ?_
      exact ⟨Lret1 (Lbool (show true = true by rfl)), hC⟩
    · have _hC0 := trivial
      have hC0p : ¬ ((a1.length : Int) > 40) := by simpa using hC0
      refine C_skip ?_
      refine E_then ?_
      refine C_seq ?_
      refine C_region ?_
      refine W_cons rfl (by decide) (Sv_val rfl (R_move rfl rfl) ?_)
      refine W_cons rfl (by decide) (Sv_val rfl (R_move rfl rfl) ?_)
      refine W_cons rfl (by decide) (Sv_val rfl (R_loadN (cs := [.int .i64 a2.Row, .int .i64 a2.Col, .int .i64 a2.Rows, .int .i64 a2.Cols]) rfl rfl agg30 size30 rfl (boxcells hBb1 0 rfl)) ?_)
      refine W_cons rfl (by decide) (Sv_call rfl rfl rfl ent20 ?_)
      refine (size_calls Aa0 ca0 a0 Aa1 ca1 a1 a2 _ _ hz hra0 hca0 hra1 hca1 (by first | omega | (simp only [size_in hA, size_in hB, size_in hin, corner_in hA, corner_in hB, corner_in hin, hT, cpt, Cx.add, Cx.sub, Fl.add, Fl.sub, Fl.opp, Fl.ofInt, Fl.ok] <;> omega)) (by first | omega | (simp only [size_in hA, size_in hB, size_in hin, corner_in hA, corner_in hB, corner_in hin, hT, cpt, Cx.add, Cx.sub, Fl.add, Fl.sub, Fl.opp, Fl.ofInt, Fl.ok] <;> omega))).mono ?_
      rintro e_ w8 ⟨rfl, hc9⟩
      refine ⟨_, rfl, ?_⟩
      have hz := hz.chg0 hc9
      have hBb1 := hBb1.chg0 hc9
      have hC := hC.then hc9 (by simp)
      refine W_cons rfl (by decide) (Sv_val rfl (R_move rfl rfl) ?_)
      refine W_cons rfl (by decide) (Sv_val rfl (R_extract rfl rfl rfl) ?_)
      refine W_cons rfl (by decide) (Sv_val rfl (R_extract rfl rfl rfl) ?_)
      refine W_cons rfl (by decide) (Sv_val rfl (R_assign rfl rfl) ?_)
      refine W_cons rfl (by decide) (Sv_val rfl (R_assign rfl rfl) ?_)
      refine W_nil ?_
      refine E_then (C_fr [(0, .slice Aa0 a0.length ca0), (1, .slice Aa1 a1.length ca1), (3, .int .i64 a3), (4, .bool a4), (7, .pointer (some ⟨b1, 0, none⟩)), (11, .complex .f64 (((sizeS a0 a1 a2).1).re).bits (((sizeS a0 a1 a2).1).im).bits), (12, .int .i64 ((sizeS a0 a1 a2).2))] rfl ?_)
      refine C_seq ?_
      refine C_region ?_
      refine W_cons rfl (by decide) (Sv_val rfl (R_fld rfl rfl fld30_3) ?_)
      refine W_cons rfl (by decide) (Sv_val rfl (R_load1 rfl rfl agg3 (hBb1.cell rfl)) ?_)
      refine W_cons rfl (by decide) (Sv_val rfl (R_assign rfl rfl) ?_)
      refine W_nil ?_
      refine E_then ?_
      refine C_seq ?_
      refine C_seq ?_
      refine C_region ?_
      refine W_cons rfl (by decide) (Sv_val rfl (R_move rfl rfl) ?_)
      refine W_nil ?_
      refine E_then ?_
      refine C_ite rfl (fun hC1 => ?_) (fun hC1 => ?_)
      · have _hC1 := trivial
        refine C_region ?_
        refine W_cons rfl (by decide) (Sv_val rfl (R_fld rfl rfl fld30_2) ?_)
        refine W_cons rfl (by decide) (Sv_val rfl (R_load1 rfl rfl agg3 (hBb1.cell rfl)) ?_)
        refine W_cons rfl (by decide) (Sv_val rfl (R_assign rfl rfl) ?_)
        refine W_nil ?_
        refine E_then (C_fr [(0, .slice Aa0 a0.length ca0), (1, .slice Aa1 a1.length ca1), (3, .int .i64 a3), (4, .bool a4), (7, .pointer (some ⟨b1, 0, none⟩)), (11, .complex .f64 (((sizeS a0 a1 a2).1).re).bits (((sizeS a0 a1 a2).1).im).bits), (12, .int .i64 ((sizeS a0 a1 a2).2)), (13, .int .i64 a2.Rows)] rfl ?_)
        refine C_seq ?_
        refine C_seq ?_
        refine C_region ?_
        refine W_cons rfl (by decide) (Sv_val rfl (R_move rfl rfl) ?_)
        refine W_cons rfl (by decide) (Sv_val rfl (R_bin rfl rfl rfl rfl rfl) ?_)
        refine W_cons rfl (by decide) (Sv_val rfl (R_move rfl rfl) ?_)
        refine W_split (t := 49) rfl (fun hg10 => ?_) (fun hg10 => ?_)
        · have _hg10 := trivial
          have hg10p : ¬ ((sizeS a0 a1 a2).2) = 0 := by simpa using hg10
          refine W_cons rfl (by decide) (Sv_off rfl rfl rfl (by rw [hg10]; rfl) ?_)
          refine W_cons rfl (by decide) (Sv_off rfl rfl rfl (by rw [hg10]; rfl) ?_)
          refine W_cons rfl (by decide) (Sv_val rfl (R_pick_t rfl rfl hg10 rfl) ?_)
          refine W_nil ?_
          refine E_then (C_fr [(0, .slice Aa0 a0.length ca0), (1, .slice Aa1 a1.length ca1), (3, .int .i64 a3), (4, .bool a4), (7, .pointer (some ⟨b1, 0, none⟩)), (11, .complex .f64 (((sizeS a0 a1 a2).1).re).bits (((sizeS a0 a1 a2).1).im).bits), (13, .int .i64 a2.Rows), (52, .bool true)] rfl ?_)
          refine C_if rfl rfl ?_
          refine C_seq ?_
          refine C_region ?_
          refine W_cons rfl (by decide) (Sv_call rfl rfl rfl ent12 ?_)
          refine (awake_calls   _   ).mono ?_
          rintro e_ w11 ⟨rfl, hc12⟩
          refine ⟨_, rfl, ?_⟩
          have hz := hz.chg0 hc12
          have hC := hC.then hc12 (by simp)
          refine W_cons rfl (by decide) (Sv_val rfl (R_assign rfl rfl) ?_)
          refine W_nil ?_
          refine E_then (C_fr [(10, .bool true)] rfl ?_)
          refine C_ret ?_
          refine E_then_ret ?_
          refine E_ret1 rfl rfl ?_
          exact ⟨Lret1 (Lbool (show true = true by rfl)), hC⟩
        · have _hg10 := trivial
          have hg10p : ((sizeS a0 a1 a2).2) = 0 := by simpa using hg10
          refine W_cons rfl (by decide) (Sv_gt rfl rfl rfl hg10 (Sv_val rfl (R_move rfl rfl) ?_))
          refine W_cons rfl (by decide) (Sv_gt rfl rfl rfl hg10 (Sv_val rfl (R_bin rfl rfl rfl rfl rfl) ?_))
          refine W_cons rfl (by decide) (Sv_val rfl (R_pick_f rfl rfl hg10 rfl) ?_)
          refine W_nil ?_
          refine E_then (C_fr [(0, .slice Aa0 a0.length ca0), (1, .slice Aa1 a1.length ca1), (3, .int .i64 a3), (4, .bool a4), (7, .pointer (some ⟨b1, 0, none⟩)), (11, .complex .f64 (((sizeS a0 a1 a2).1).re).bits (((sizeS a0 a1 a2).1).im).bits), (13, .int .i64 a2.Rows), (52, .bool (decide (a2.Rows < 2)))] rfl ?_)
          refine C_ite rfl (fun hC2 => ?_) (fun hC2 => ?_)
          · have _hC2 := trivial
            have hC2p : a2.Rows < 2 := by simpa using hC2
            refine C_seq ?_
            refine C_region ?_
            refine W_cons rfl (by decide) (Sv_call rfl rfl rfl ent12 ?_)
            refine (awake_calls   _   ).mono ?_
            rintro e_ w13 ⟨rfl, hc14⟩
            refine ⟨_, rfl, ?_⟩
            have hz := hz.chg0 hc14
            have hC := hC.then hc14 (by simp)
            refine W_cons rfl (by decide) (Sv_val rfl (R_assign rfl rfl) ?_)
            refine W_nil ?_
            refine E_then (C_fr [(10, .bool true)] rfl ?_)
            refine C_ret ?_
            refine E_then_ret ?_
            refine E_ret1 rfl rfl ?_
            exact ⟨Lret1 (Lbool (show true = true by rfl)), hC⟩
          · have _hC2 := trivial
            have hC2p : ¬ (a2.Rows < 2) := by simpa using hC2
            have hin := size_ok (ws := a0) (hs := a1) (r := a2) (by assumption)
            have hi := inside_of hin
            have hk0 : 0 ≤ a3 % 65536 % (a2.Rows - 1) := Int.emod_nonneg _ (by omega)
            have hk1 : a3 % 65536 % (a2.Rows - 1) < a2.Rows - 1 := Int.emod_lt_of_pos _ (by omega)
            have hA : insideS a0.length a1.length ⟨a2.Row, a2.Col, 1 + a3 % 65536 % (a2.Rows - 1), a2.Cols⟩ = true := inside_mk (by omega)
            have hB : insideS a0.length a1.length ⟨a2.Row + (1 + a3 % 65536 % (a2.Rows - 1)), a2.Col, a2.Rows - (1 + a3 % 65536 % (a2.Rows - 1)), a2.Cols⟩ = true := inside_mk (by omega)
            have hT : (a2.Row + (1 + a3 % 65536 % (a2.Rows - 1)) + (a2.Rows - (1 + a3 % 65536 % (a2.Rows - 1)))).toNat = (a2.Row + a2.Rows).toNat := by omega
            have sb0 := starts_bd a0 a2.Col.toNat (by omega)
            have sb1 := starts_bd a1 a2.Row.toNat (by omega)
            have sb2 := starts_bd a0 (a2.Col + a2.Cols).toNat (by omega)
            have sb3 := starts_bd a1 (a2.Row + a2.Rows).toNat (by omega)
            have sb4 := starts_bd a1 (a2.Row + (1 + a3 % 65536 % (a2.Rows - 1))).toNat (by omega)
            refine C_skip ?_
            refine E_then ?_
            refine C_seq ?_
            refine C_region ?_
            refine W_cons rfl (by decide) (Sv_val rfl (R_move rfl rfl) ?_)
            refine W_cons rfl (by decide) (Sv_val rfl (R_and64 16 65536 rfl rfl rfl (by decide) (by decide) (by decide)) ?_)
            refine W_cons rfl (by decide) (Sv_val rfl (R_move rfl rfl) ?_)
            refine W_cons rfl (by decide) (Sv_val rfl (R_sub64 rfl rfl rfl (by omega) (by omega)) ?_)
            refine W_cons rfl (by decide) (Sv_val rfl (R_rem64 rfl rfl rfl (by omega) (by omega) (by omega)) ?_)
            refine W_cons rfl (by decide) (Sv_val rfl (R_add64 rfl rfl rfl (by omega) (by omega)) ?_)
            refine W_cons rfl (by decide) (Sv_val rfl (R_assign rfl rfl) ?_)
            refine W_nil ?_
            refine E_then (C_fr [(0, .slice Aa0 a0.length ca0), (1, .slice Aa1 a1.length ca1), (4, .bool a4), (7, .pointer (some ⟨b1, 0, none⟩)), (11, .complex .f64 (((sizeS a0 a1 a2).1).re).bits (((sizeS a0 a1 a2).1).im).bits), (13, .int .i64 a2.Rows), (14, .int .i64 (1 + ((a3 % 65536) % (a2.Rows - 1))))] rfl ?_)
            refine C_seq ?_
            refine C_fr [(0, .slice Aa0 a0.length ca0), (1, .slice Aa1 a1.length ca1), (4, .bool a4), (7, .pointer (some ⟨b1, 0, none⟩)), (11, .complex .f64 (((sizeS a0 a1 a2).1).re).bits (((sizeS a0 a1 a2).1).im).bits), (13, .int .i64 a2.Rows), (14, .int .i64 (1 + ((a3 % 65536) % (a2.Rows - 1))))] rfl ?_
            refine C_any 6 (by kernel_rfl) rfl (fun w15 hc16 => ?_)
            have hz := hz.chg0 hc16
            have hBb1 := hBb1.chg0 hc16
            have hC := hC.then hc16 (by simp)
            refine An_let ?_
            intro A_w15
            have hI10_x17_0 : ∀ (w34 : World) (bn210_x17 : Nat) (bn310_x17 : Nat) (hz : Sub z w34) (hC : Chg [] w w34) (hBb1 : Box w34 b1 30 [.int .i64 a2.Row, .int .i64 a2.Col, .int .i64 a2.Rows, .int .i64 a2.Cols]) (hBbn210_x17 : Box w34 bn210_x17 30 [.int .i64 a2.Row, .int .i64 a2.Col, .int .i64 a2.Rows, .int .i64 a2.Cols]) (hBbn310_x17 : Box w34 bn310_x17 30 [.int .i64 a2.Row, .int .i64 a2.Col, .int .i64 a2.Rows, .int .i64 a2.Cols]) (hNbn210_x17 : ∀ k ∈ [bn210_x17], w.heap.size ≤ k) (hZbn210_x17 : ∀ k ∈ [bn210_x17], z k = none) (hNbn310_x17 : ∀ k ∈ [bn310_x17], w.heap.size ≤ k) (hZbn310_x17 : ∀ k ∈ [bn310_x17], z k = none) (hDb1_bn210_x17 : ∀ k ∈ [b1], k ∉ [bn210_x17]) (hDb1_bn310_x17 : ∀ k ∈ [b1], k ∉ [bn310_x17]) (hDbn210_x17_bn310_x17 : ∀ k ∈ [bn210_x17], k ∉ [bn310_x17]), A_w15 0 #[true, true, true, true, true, true] [(0, .slice Aa0 a0.length ca0), (1, .slice Aa1 a1.length ca1), (4, .bool a4), (7, .pointer (some ⟨b1, 0, none⟩)), (11, .complex .f64 (((sizeS a0 a1 a2).1).re).bits (((sizeS a0 a1 a2).1).im).bits), (13, .int .i64 a2.Rows), (14, .int .i64 (1 + ((a3 % 65536) % (a2.Rows - 1)))), (15, .pointer (some ⟨bn210_x17, 0, none⟩)), (16, .pointer (some ⟨bn310_x17, 0, none⟩)), (60, .agg #[.int .i64 a2.Row, .int .i64 a2.Col, .int .i64 a2.Rows, .int .i64 a2.Cols]), (61, .agg #[.int .i64 a2.Row, .int .i64 a2.Col, .int .i64 a2.Rows, .int .i64 a2.Cols])] w34 := by
              intro w34 bn210_x17 bn310_x17 hz hC hBb1 hBbn210_x17 hBbn310_x17 hNbn210_x17 hZbn210_x17 hNbn310_x17 hZbn310_x17 hDb1_bn210_x17 hDb1_bn310_x17 hDbn210_x17_bn310_x17
              refine An_done (by decide +kernel) ?_
              refine E_then ?_
              refine C_seq ?_
              refine C_region ?_
              refine W_cons rfl (by decide) (Sv_call rfl rfl rfl ent24 ?_)
              refine (lpoint_calls 1 0  _   (by first | omega | (simp only [size_in hA, size_in hB, size_in hin, corner_in hA, corner_in hB, corner_in hin, hT, cpt, Cx.add, Cx.sub, Fl.add, Fl.sub, Fl.opp, Fl.ofInt, Fl.ok] <;> omega)) (by first | omega | (simp only [size_in hA, size_in hB, size_in hin, corner_in hA, corner_in hB, corner_in hin, hT, cpt, Cx.add, Cx.sub, Fl.add, Fl.sub, Fl.opp, Fl.ofInt, Fl.ok] <;> omega))).mono ?_
              rintro e_ w18 ⟨rfl, hc19⟩
              refine ⟨_, rfl, ?_⟩
              have hz := hz.chg0 hc19
              have hBb1 := hBb1.chg0 hc19
              have hBbn210_x17 := hBbn210_x17.chg0 hc19
              have hBbn310_x17 := hBbn310_x17.chg0 hc19
              have hC := hC.then hc19 (by simp)
              refine W_cons rfl (by decide) (Sv_val rfl (R_assign rfl rfl) ?_)
              refine W_nil ?_
              refine E_then ?_
              refine C_seq ?_
              refine C_seq ?_
              refine C_region ?_
              refine W_cons rfl (by decide) (Sv_val rfl (R_move rfl rfl) ?_)
              refine W_nil ?_
              refine E_then ?_
              refine C_if rfl hC1 ?_
              refine C_seq ?_
              refine C_fr [(0, .slice Aa0 a0.length ca0), (1, .slice Aa1 a1.length ca1), (4, .bool a4), (7, .pointer (some ⟨b1, 0, none⟩)), (11, .complex .f64 (((sizeS a0 a1 a2).1).re).bits (((sizeS a0 a1 a2).1).im).bits), (13, .int .i64 a2.Rows), (14, .int .i64 (1 + ((a3 % 65536) % (a2.Rows - 1)))), (15, .pointer (some ⟨bn210_x17, 0, none⟩)), (16, .pointer (some ⟨bn310_x17, 0, none⟩))] rfl ?_
              refine C_drawnX 14 [[], [], [], [1, 2], [], [4], [], [5, 6], [0], [8, 0, 0], [0, 1, 2, 3, 8, 9], [10, 3, 9, 0, 1, 2, 3, 8, 9]] [some 64, some 65, some 66, some 67, some 68, some 69, some 70, some 71, some 72, none, some 73, none] [0, 1, 4, 7, 11, 13, 14, 15, 16] [[], [], [], [], [], [], [], [], [], [bn210_x17], [], [bn310_x17]] [12, 12, 12, 12, 12, 12, 12, 12, 12, 12, 12, 12] [false, false, false, false, false, false, false, false, false, false, false, false] rfl (by kernel_rfl) (by decide +kernel) [fun v _ => v = .int .i64 (1 + ((a3 % 65536) % (a2.Rows - 1))), fun v _ => v = .int .i64 a2.Rows, fun v _ => v = .int .i64 (1 + ((a3 % 65536) % (a2.Rows - 1))), fun v _ => v = .int .i64 (a2.Rows - (1 + ((a3 % 65536) % (a2.Rows - 1)))), fun v _ => v = .pointer (some ⟨b1, 0, none⟩), fun v _ => v = .int .i64 a2.Row, fun v _ => v = .int .i64 (1 + ((a3 % 65536) % (a2.Rows - 1))), fun v _ => v = .int .i64 (a2.Row + (1 + ((a3 % 65536) % (a2.Rows - 1)))), fun v _ => v = .pointer (some ⟨bn210_x17, 2, none⟩), fun _ w_ => Box w_ bn210_x17 30 [.int .i64 a2.Row, .int .i64 a2.Col, .int .i64 (1 + ((a3 % 65536) % (a2.Rows - 1))), .int .i64 a2.Cols], fun v _ => v = .pointer (some ⟨bn310_x17, 2, none⟩), fun _ w_ => Box w_ bn310_x17 30 [.int .i64 a2.Row, .int .i64 a2.Col, .int .i64 (a2.Rows - (1 + ((a3 % 65536) % (a2.Rows - 1)))), .int .i64 a2.Cols]] ?_ ?_ ?_
              · exact ⟨fun _ _ _ h _ => h, fun _ _ _ h _ => h, fun _ _ _ h _ => h, fun _ _ _ h _ => h, fun _ _ _ h _ => h, fun _ _ _ h _ => h, fun _ _ _ h _ => h, fun _ _ _ h _ => h, fun _ _ _ h _ => h, fun _ _ _ h hc => Box.chg h hc ((notin_cons hDbn210_x17_bn310_x17 notin_nil) _ (List.mem_singleton_self _)), fun _ _ _ h _ => h, fun _ _ _ h hc => Box.chg0 h hc, trivial⟩
              · refine ⟨fun w20 hc21 => ?_, ?_⟩
                · have _w20 := trivial
                  have hc21 : Chg [] w18 w20 := hc21
                  have hz := hz.chg0 hc21
                  have hBb1 := hBb1.chg0 hc21
                  have hBbn210_x17 := hBbn210_x17.chg0 hc21
                  have hBbn310_x17 := hBbn310_x17.chg0 hc21
                  have hC := hC.then hc21 (by simp)
                  exact Sv_val rfl (R_move rfl rfl) ⟨Chg.refl _ _, rfl, trivial⟩
                refine ⟨fun w22 hc23 => ?_, ?_⟩
                · have _w22 := trivial
                  have hc23 : Chg [bn210_x17] w18 w22 := hc23
                  have hz := hz.chg hc23 (cons_all hZbn210_x17 nil_all)
                  have hBb1 := hBb1.chg hc23 ((notin_cons hDb1_bn210_x17 notin_nil) _ (List.mem_singleton_self _))
                  have hBbn310_x17 := hBbn310_x17.chg hc23 ((notin_cons (disj_sym hDbn210_x17_bn310_x17) notin_nil) _ (List.mem_singleton_self _))
                  have hC := hC.then hc23 (fun i_ hi_ => .inr ((cons_all hNbn210_x17 nil_all) i_ hi_))
                  exact Sv_val rfl (R_move rfl rfl) ⟨Chg.refl _ _, rfl, trivial⟩
                refine ⟨fun w24 hc25 => ?_, ?_⟩
                · have _w24 := trivial
                  have hc25 : Chg [bn210_x17] w18 w24 := hc25
                  have hz := hz.chg hc25 (cons_all hZbn210_x17 nil_all)
                  have hBb1 := hBb1.chg hc25 ((notin_cons hDb1_bn210_x17 notin_nil) _ (List.mem_singleton_self _))
                  have hBbn310_x17 := hBbn310_x17.chg hc25 ((notin_cons (disj_sym hDbn210_x17_bn310_x17) notin_nil) _ (List.mem_singleton_self _))
                  have hC := hC.then hc25 (fun i_ hi_ => .inr ((cons_all hNbn210_x17 nil_all) i_ hi_))
                  exact Sv_val rfl (R_move rfl rfl) ⟨Chg.refl _ _, rfl, trivial⟩
                refine ⟨fun w26 hc27 => ?_, ?_⟩
                · have _w26 := trivial
                  have hc27 : Chg [bn210_x17] w18 w26 := hc27
                  have hz := hz.chg hc27 (cons_all hZbn210_x17 nil_all)
                  have hBb1 := hBb1.chg hc27 ((notin_cons hDb1_bn210_x17 notin_nil) _ (List.mem_singleton_self _))
                  have hBbn310_x17 := hBbn310_x17.chg hc27 ((notin_cons (disj_sym hDbn210_x17_bn310_x17) notin_nil) _ (List.mem_singleton_self _))
                  have hC := hC.then hc27 (fun i_ hi_ => .inr ((cons_all hNbn210_x17 nil_all) i_ hi_))
                  rintro _ rfl _ rfl
                  exact Sv_val rfl (R_sub64 rfl rfl rfl (by omega) (by omega)) ⟨Chg.refl _ _, rfl, trivial⟩
                refine ⟨fun w28 hc29 => ?_, ?_⟩
                · have _w28 := trivial
                  have hc29 : Chg [bn210_x17, bn310_x17] w18 w28 := hc29
                  have hz := hz.chg hc29 (cons_all hZbn210_x17 (cons_all hZbn310_x17 nil_all))
                  have hBb1 := hBb1.chg hc29 ((notin_cons hDb1_bn210_x17 (notin_cons hDb1_bn310_x17 notin_nil)) _ (List.mem_singleton_self _))
                  have hC := hC.then hc29 (fun i_ hi_ => .inr ((cons_all hNbn210_x17 (cons_all hNbn310_x17 nil_all)) i_ hi_))
                  exact Sv_val rfl (R_fld rfl rfl fld30_0) ⟨Chg.refl _ _, rfl, trivial⟩
                refine ⟨fun w30 hc31 => ?_, ?_⟩
                · have _w30 := trivial
                  have hc31 : Chg [bn210_x17, bn310_x17] w18 w30 := hc31
                  have hz := hz.chg hc31 (cons_all hZbn210_x17 (cons_all hZbn310_x17 nil_all))
                  have hBb1 := hBb1.chg hc31 ((notin_cons hDb1_bn210_x17 (notin_cons hDb1_bn310_x17 notin_nil)) _ (List.mem_singleton_self _))
                  have hC := hC.then hc31 (fun i_ hi_ => .inr ((cons_all hNbn210_x17 (cons_all hNbn310_x17 nil_all)) i_ hi_))
                  rintro _ rfl
                  exact Sv_val rfl (R_load1 rfl rfl agg3 (hBb1.cell rfl)) ⟨Chg.refl _ _, rfl, trivial⟩
                refine ⟨fun w32 hc33 => ?_, ?_⟩
                · have _w32 := trivial
                  have hc33 : Chg [bn210_x17, bn310_x17] w18 w32 := hc33
                  have hz := hz.chg hc33 (cons_all hZbn210_x17 (cons_all hZbn310_x17 nil_all))
                  have hBb1 := hBb1.chg hc33 ((notin_cons hDb1_bn210_x17 (notin_cons hDb1_bn310_x17 notin_nil)) _ (List.mem_singleton_self _))
                  have hC := hC.then hc33 (fun i_ hi_ => .inr ((cons_all hNbn210_x17 (cons_all hNbn310_x17 nil_all)) i_ hi_))
                  exact Sv_val rfl (R_move rfl rfl) ⟨Chg.refl _ _, rfl, trivial⟩
                refine ⟨fun w34 hc35 => ?_, ?_⟩
                · have _w34 := trivial
                  have hc35 : Chg [bn210_x17, bn310_x17] w18 w34 := hc35
                  have hz := hz.chg hc35 (cons_all hZbn210_x17 (cons_all hZbn310_x17 nil_all))
                  have hBb1 := hBb1.chg hc35 ((notin_cons hDb1_bn210_x17 (notin_cons hDb1_bn310_x17 notin_nil)) _ (List.mem_singleton_self _))
                  have hC := hC.then hc35 (fun i_ hi_ => .inr ((cons_all hNbn210_x17 (cons_all hNbn310_x17 nil_all)) i_ hi_))
                  rintro _ rfl _ rfl
                  exact Sv_val rfl (R_add64 rfl rfl rfl (by omega) (by omega)) ⟨Chg.refl _ _, rfl, trivial⟩
                refine ⟨fun w36 hc37 => ?_, ?_⟩
                · have _w36 := trivial
                  have hc37 : Chg [] w18 w36 := hc37
                  have hz := hz.chg0 hc37
                  have hBb1 := hBb1.chg0 hc37
                  have hBbn210_x17 := hBbn210_x17.chg0 hc37
                  have hBbn310_x17 := hBbn310_x17.chg0 hc37
                  have hC := hC.then hc37 (by simp)
                  rintro _ rfl
                  exact Sv_val rfl (R_fld rfl rfl fld30_2) ⟨Chg.refl _ _, rfl, trivial⟩
                refine ⟨fun w38 hc39 => ?_, ?_⟩
                · have _w38 := trivial
                  have hc39 : Chg [] w18 w38 := hc39
                  have hz := hz.chg0 hc39
                  have hBb1 := hBb1.chg0 hc39
                  have hBbn210_x17 := hBbn210_x17.chg0 hc39
                  have hBbn310_x17 := hBbn310_x17.chg0 hc39
                  have hC := hC.then hc39 (by simp)
                  rintro _ rfl _ rfl _ rfl
                  exact Sv_store rfl rfl rfl rfl size3 (one1 rfl) hBbn210_x17 (Nat.le_of_ble_eq_true rfl) (fun w_ hc_ hB_ => ⟨hc_, hB_, trivial⟩)
                refine ⟨fun w40 hc41 => ?_, ?_⟩
                · have _w40 := trivial
                  have hc41 : Chg [bn210_x17] w18 w40 := hc41
                  have hz := hz.chg hc41 (cons_all hZbn210_x17 nil_all)
                  have hBb1 := hBb1.chg hc41 ((notin_cons hDb1_bn210_x17 notin_nil) _ (List.mem_singleton_self _))
                  have hBbn310_x17 := hBbn310_x17.chg hc41 ((notin_cons (disj_sym hDbn210_x17_bn310_x17) notin_nil) _ (List.mem_singleton_self _))
                  have hC := hC.then hc41 (fun i_ hi_ => .inr ((cons_all hNbn210_x17 nil_all) i_ hi_))
                  rintro _ rfl _ rfl _ rfl _ rfl _ rfl _ hBbn210_x17
                  exact Sv_val rfl (R_fld rfl rfl fld30_2) ⟨Chg.refl _ _, rfl, trivial⟩
                refine ⟨fun w42 hc43 => ?_, ?_⟩
                · have _w42 := trivial
                  have hc43 : Chg [bn210_x17] w18 w42 := hc43
                  have hz := hz.chg hc43 (cons_all hZbn210_x17 nil_all)
                  have hBb1 := hBb1.chg hc43 ((notin_cons hDb1_bn210_x17 notin_nil) _ (List.mem_singleton_self _))
                  have hBbn310_x17 := hBbn310_x17.chg hc43 ((notin_cons (disj_sym hDbn210_x17_bn310_x17) notin_nil) _ (List.mem_singleton_self _))
                  have hC := hC.then hc43 (fun i_ hi_ => .inr ((cons_all hNbn210_x17 nil_all) i_ hi_))
                  rintro _ rfl _ rfl _ hBbn210_x17 _ rfl _ rfl _ rfl _ rfl _ rfl _ hBbn210_x17
                  exact Sv_store rfl rfl rfl rfl size3 (one1 rfl) hBbn310_x17 (Nat.le_of_ble_eq_true rfl) (fun w_ hc_ hB_ => ⟨hc_, hB_, trivial⟩)
                exact trivial
              · intro w44 hc45
                have hc45 : Chg [bn210_x17, bn310_x17] w18 w44 := hc45
                have hltb1 := (boxlt hBb1)
                have hltbn210_x17 := (boxlt hBbn210_x17)
                have hltbn310_x17 := (boxlt hBbn310_x17)
                have hz := hz.chg hc45 (cons_all hZbn210_x17 (cons_all hZbn310_x17 nil_all))
                have hBb1 := hBb1.chg hc45 ((notin_cons hDb1_bn210_x17 (notin_cons hDb1_bn310_x17 notin_nil)) _ (List.mem_singleton_self _))
                have hC := hC.then hc45 (fun i_ hi_ => .inr ((cons_all hNbn210_x17 (cons_all hNbn310_x17 nil_all)) i_ hi_))
                rintro _ rfl _ rfl _ rfl _ rfl _ rfl _ rfl _ rfl _ rfl _ rfl _ hBbn210_x17 _ rfl _ hBbn310_x17 _
                refine An_fr [(0, .slice Aa0 a0.length ca0), (1, .slice Aa1 a1.length ca1), (4, .bool a4), (7, .pointer (some ⟨b1, 0, none⟩)), (11, .complex .f64 (((sizeS a0 a1 a2).1).re).bits (((sizeS a0 a1 a2).1).im).bits), (13, .int .i64 a2.Rows), (14, .int .i64 (1 + ((a3 % 65536) % (a2.Rows - 1)))), (15, .pointer (some ⟨bn210_x17, 0, none⟩)), (16, .pointer (some ⟨bn310_x17, 0, none⟩)), (71, .int .i64 (a2.Row + (1 + ((a3 % 65536) % (a2.Rows - 1)))))] rfl ?_
                refine An_one (i := 12) (by decide +kernel) rfl rfl (by decide) (Sv_val rfl (R_fld rfl rfl fld30_0) ?_)
                refine An_one0 (i := 13) (by decide +kernel) rfl rfl (Sv_store rfl rfl rfl rfl size3 (one1 rfl) hBbn310_x17 (Nat.le_of_ble_eq_true rfl) (fun w46 hc47 hB_ => ?_))
                have hz := hz.chg hc47 hZbn310_x17
                have hBb1 := hBb1.chg hc47 (hDb1_bn310_x17 _ (List.mem_singleton_self _))
                have hBbn210_x17 := hBbn210_x17.chg hc47 (hDbn210_x17_bn310_x17 _ (List.mem_singleton_self _))
                have hC := hC.then hc47 (fun i hi => .inr (hNbn310_x17 i hi))
                have hBbn310_x17 := hB_
                refine An_done (by decide +kernel) ?_
                refine E_then (C_fr [(0, .slice Aa0 a0.length ca0), (1, .slice Aa1 a1.length ca1), (4, .bool a4), (11, .complex .f64 (((sizeS a0 a1 a2).1).re).bits (((sizeS a0 a1 a2).1).im).bits), (15, .pointer (some ⟨bn210_x17, 0, none⟩)), (16, .pointer (some ⟨bn310_x17, 0, none⟩))] rfl ?_)
                refine C_region ?_
                refine W_cons rfl (by decide) (Sv_call rfl rfl rfl ent24 ?_)
                refine (lpoint_calls 0 1  _   (by first | omega | (simp only [size_in hA, size_in hB, size_in hin, corner_in hA, corner_in hB, corner_in hin, hT, cpt, Cx.add, Cx.sub, Fl.add, Fl.sub, Fl.opp, Fl.ofInt, Fl.ok] <;> omega)) (by first | omega | (simp only [size_in hA, size_in hB, size_in hin, corner_in hA, corner_in hB, corner_in hin, hT, cpt, Cx.add, Cx.sub, Fl.add, Fl.sub, Fl.opp, Fl.ofInt, Fl.ok] <;> omega))).mono ?_
                rintro e_ w48 ⟨rfl, hc49⟩
                refine ⟨_, rfl, ?_⟩
                have hz := hz.chg0 hc49
                have hBbn210_x17 := hBbn210_x17.chg0 hc49
                have hBbn310_x17 := hBbn310_x17.chg0 hc49
                have hC := hC.then hc49 (by simp)
                refine W_cons rfl (by decide) (Sv_val rfl (R_assign rfl rfl) ?_)
                refine W_nil ?_
                refine E_then ?_
                refine C_seq ?_
                refine C_region ?_
                refine W_cons rfl (by decide) (Sv_val rfl (R_move rfl rfl) ?_)
                refine W_cons rfl (by decide) (Sv_val rfl (R_move rfl rfl) ?_)
                refine W_cons rfl (by decide) (Sv_val rfl (R_loadN (cs := [.int .i64 a2.Row, .int .i64 a2.Col, .int .i64 (1 + ((a3 % 65536) % (a2.Rows - 1))), .int .i64 a2.Cols]) rfl rfl agg30 size30 rfl (boxcells hBbn210_x17 0 rfl)) ?_)
                refine W_cons rfl (by decide) (Sv_call rfl rfl rfl ent20 ?_)
                refine (size_calls Aa0 ca0 a0 Aa1 ca1 a1 (⟨a2.Row, a2.Col, 1 + ((a3 % 65536) % (a2.Rows - 1)), a2.Cols⟩ : TRect) _ _ hz hra0 hca0 hra1 hca1 (by first | omega | (simp only [size_in hA, size_in hB, size_in hin, corner_in hA, corner_in hB, corner_in hin, hT, cpt, Cx.add, Cx.sub, Fl.add, Fl.sub, Fl.opp, Fl.ofInt, Fl.ok] <;> omega)) (by first | omega | (simp only [size_in hA, size_in hB, size_in hin, corner_in hA, corner_in hB, corner_in hin, hT, cpt, Cx.add, Cx.sub, Fl.add, Fl.sub, Fl.opp, Fl.ofInt, Fl.ok] <;> omega))).mono ?_
                rintro e_ w50 ⟨rfl, hc51⟩
                refine ⟨_, rfl, ?_⟩
                have hz := hz.chg0 hc51
                have hBbn210_x17 := hBbn210_x17.chg0 hc51
                have hBbn310_x17 := hBbn310_x17.chg0 hc51
                have hC := hC.then hc51 (by simp)
                refine W_cons rfl (by decide) (Sv_val rfl (R_move rfl rfl) ?_)
                refine W_cons rfl (by decide) (Sv_val rfl (R_extract rfl rfl rfl) ?_)
                refine W_cons rfl (by decide) (Sv_val rfl (R_extract rfl rfl rfl) ?_)
                refine W_cons rfl (by decide) (Sv_val rfl (R_assign rfl rfl) ?_)
                refine W_cons rfl (by decide) (Sv_val rfl (R_assign rfl rfl) ?_)
                refine W_nil ?_
                refine E_then (C_fr [(0, .slice Aa0 a0.length ca0), (1, .slice Aa1 a1.length ca1), (4, .bool a4), (11, .complex .f64 (((sizeS a0 a1 a2).1).re).bits (((sizeS a0 a1 a2).1).im).bits), (15, .pointer (some ⟨bn210_x17, 0, none⟩)), (16, .pointer (some ⟨bn310_x17, 0, none⟩)), (17, .complex .f64 ((cpt 0 1).re).bits ((cpt 0 1).im).bits), (18, .complex .f64 (((sizeS a0 a1 (⟨a2.Row, a2.Col, 1 + ((a3 % 65536) % (a2.Rows - 1)), a2.Cols⟩ : TRect)).1).re).bits (((sizeS a0 a1 (⟨a2.Row, a2.Col, 1 + ((a3 % 65536) % (a2.Rows - 1)), a2.Cols⟩ : TRect)).1).im).bits), (19, .int .i64 ((sizeS a0 a1 (⟨a2.Row, a2.Col, 1 + ((a3 % 65536) % (a2.Rows - 1)), a2.Cols⟩ : TRect)).2))] rfl ?_)
                refine C_seq ?_
                refine C_region ?_
                refine W_cons rfl (by decide) (Sv_val rfl (R_move rfl rfl) ?_)
                refine W_cons rfl (by decide) (Sv_val rfl (R_move rfl rfl) ?_)
                refine W_cons rfl (by decide) (Sv_val rfl (R_loadN (cs := [.int .i64 (a2.Row + (1 + ((a3 % 65536) % (a2.Rows - 1)))), .int .i64 a2.Col, .int .i64 (a2.Rows - (1 + ((a3 % 65536) % (a2.Rows - 1)))), .int .i64 a2.Cols]) rfl rfl agg30 size30 rfl (boxcells hBbn310_x17 0 rfl)) ?_)
                refine W_cons rfl (by decide) (Sv_call rfl rfl rfl ent20 ?_)
                refine (size_calls Aa0 ca0 a0 Aa1 ca1 a1 (⟨a2.Row + (1 + ((a3 % 65536) % (a2.Rows - 1))), a2.Col, a2.Rows - (1 + ((a3 % 65536) % (a2.Rows - 1))), a2.Cols⟩ : TRect) _ _ hz hra0 hca0 hra1 hca1 (by first | omega | (simp only [size_in hA, size_in hB, size_in hin, corner_in hA, corner_in hB, corner_in hin, hT, cpt, Cx.add, Cx.sub, Fl.add, Fl.sub, Fl.opp, Fl.ofInt, Fl.ok] <;> omega)) (by first | omega | (simp only [size_in hA, size_in hB, size_in hin, corner_in hA, corner_in hB, corner_in hin, hT, cpt, Cx.add, Cx.sub, Fl.add, Fl.sub, Fl.opp, Fl.ofInt, Fl.ok] <;> omega))).mono ?_
                rintro e_ w52 ⟨rfl, hc53⟩
                refine ⟨_, rfl, ?_⟩
                have hz := hz.chg0 hc53
                have hBbn210_x17 := hBbn210_x17.chg0 hc53
                have hBbn310_x17 := hBbn310_x17.chg0 hc53
                have hC := hC.then hc53 (by simp)
                refine W_cons rfl (by decide) (Sv_val rfl (R_move rfl rfl) ?_)
                refine W_cons rfl (by decide) (Sv_val rfl (R_extract rfl rfl rfl) ?_)
                refine W_cons rfl (by decide) (Sv_val rfl (R_extract rfl rfl rfl) ?_)
                refine W_cons rfl (by decide) (Sv_val rfl (R_assign rfl rfl) ?_)
                refine W_cons rfl (by decide) (Sv_val rfl (R_assign rfl rfl) ?_)
                refine W_nil ?_
                refine E_then (C_fr [(0, .slice Aa0 a0.length ca0), (1, .slice Aa1 a1.length ca1), (4, .bool a4), (11, .complex .f64 (((sizeS a0 a1 a2).1).re).bits (((sizeS a0 a1 a2).1).im).bits), (15, .pointer (some ⟨bn210_x17, 0, none⟩)), (16, .pointer (some ⟨bn310_x17, 0, none⟩)), (17, .complex .f64 ((cpt 0 1).re).bits ((cpt 0 1).im).bits), (18, .complex .f64 (((sizeS a0 a1 (⟨a2.Row, a2.Col, 1 + ((a3 % 65536) % (a2.Rows - 1)), a2.Cols⟩ : TRect)).1).re).bits (((sizeS a0 a1 (⟨a2.Row, a2.Col, 1 + ((a3 % 65536) % (a2.Rows - 1)), a2.Cols⟩ : TRect)).1).im).bits), (19, .int .i64 ((sizeS a0 a1 (⟨a2.Row, a2.Col, 1 + ((a3 % 65536) % (a2.Rows - 1)), a2.Cols⟩ : TRect)).2)), (20, .complex .f64 (((sizeS a0 a1 (⟨a2.Row + (1 + ((a3 % 65536) % (a2.Rows - 1))), a2.Col, a2.Rows - (1 + ((a3 % 65536) % (a2.Rows - 1))), a2.Cols⟩ : TRect)).1).re).bits (((sizeS a0 a1 (⟨a2.Row + (1 + ((a3 % 65536) % (a2.Rows - 1))), a2.Col, a2.Rows - (1 + ((a3 % 65536) % (a2.Rows - 1))), a2.Cols⟩ : TRect)).1).im).bits), (21, .int .i64 ((sizeS a0 a1 (⟨a2.Row + (1 + ((a3 % 65536) % (a2.Rows - 1))), a2.Col, a2.Rows - (1 + ((a3 % 65536) % (a2.Rows - 1))), a2.Cols⟩ : TRect)).2))] rfl ?_)
                refine C_seq ?_
                refine C_region ?_
                refine W_cons rfl (by decide) (Sv_val rfl (R_move rfl rfl) ?_)
                refine W_cons rfl (by decide) (Sv_val rfl (R_move rfl rfl) ?_)
                refine W_cons rfl (by decide) (Sv_val rfl (R_loadN (cs := [.int .i64 a2.Row, .int .i64 a2.Col, .int .i64 (1 + ((a3 % 65536) % (a2.Rows - 1))), .int .i64 a2.Cols]) rfl rfl agg30 size30 rfl (boxcells hBbn210_x17 0 rfl)) ?_)
                refine W_cons rfl (by decide) (Sv_call rfl rfl rfl ent19 ?_)
                refine (corner_calls Aa0 ca0 a0 Aa1 ca1 a1 (⟨a2.Row, a2.Col, 1 + ((a3 % 65536) % (a2.Rows - 1)), a2.Cols⟩ : TRect) _ _ hz hra0 hca0 hra1 hca1 (by first | omega | (simp only [size_in hA, size_in hB, size_in hin, corner_in hA, corner_in hB, corner_in hin, hT, cpt, Cx.add, Cx.sub, Fl.add, Fl.sub, Fl.opp, Fl.ofInt, Fl.ok] <;> omega)) (by first | omega | (simp only [size_in hA, size_in hB, size_in hin, corner_in hA, corner_in hB, corner_in hin, hT, cpt, Cx.add, Cx.sub, Fl.add, Fl.sub, Fl.opp, Fl.ofInt, Fl.ok] <;> omega))).mono ?_
                rintro e_ w54 ⟨rfl, hc55⟩
                refine ⟨_, rfl, ?_⟩
                have hz := hz.chg0 hc55
                have hBbn310_x17 := hBbn310_x17.chg0 hc55
                have hC := hC.then hc55 (by simp)
                refine W_cons rfl (by decide) (Sv_val rfl (R_move rfl rfl) ?_)
                refine W_cons rfl (by decide) (Sv_val rfl (R_extract rfl rfl rfl) ?_)
                refine W_cons rfl (by decide) (Sv_val rfl (R_extract rfl rfl rfl) ?_)
                refine W_cons rfl (by decide) (Sv_val rfl (R_assign rfl rfl) ?_)
                refine W_cons rfl (by decide) (Sv_val rfl (R_assign rfl rfl) ?_)
                refine W_nil ?_
                refine E_then (C_fr [(0, .slice Aa0 a0.length ca0), (1, .slice Aa1 a1.length ca1), (4, .bool a4), (11, .complex .f64 (((sizeS a0 a1 a2).1).re).bits (((sizeS a0 a1 a2).1).im).bits), (16, .pointer (some ⟨bn310_x17, 0, none⟩)), (17, .complex .f64 ((cpt 0 1).re).bits ((cpt 0 1).im).bits), (18, .complex .f64 (((sizeS a0 a1 (⟨a2.Row, a2.Col, 1 + ((a3 % 65536) % (a2.Rows - 1)), a2.Cols⟩ : TRect)).1).re).bits (((sizeS a0 a1 (⟨a2.Row, a2.Col, 1 + ((a3 % 65536) % (a2.Rows - 1)), a2.Cols⟩ : TRect)).1).im).bits), (19, .int .i64 ((sizeS a0 a1 (⟨a2.Row, a2.Col, 1 + ((a3 % 65536) % (a2.Rows - 1)), a2.Cols⟩ : TRect)).2)), (20, .complex .f64 (((sizeS a0 a1 (⟨a2.Row + (1 + ((a3 % 65536) % (a2.Rows - 1))), a2.Col, a2.Rows - (1 + ((a3 % 65536) % (a2.Rows - 1))), a2.Cols⟩ : TRect)).1).re).bits (((sizeS a0 a1 (⟨a2.Row + (1 + ((a3 % 65536) % (a2.Rows - 1))), a2.Col, a2.Rows - (1 + ((a3 % 65536) % (a2.Rows - 1))), a2.Cols⟩ : TRect)).1).im).bits), (21, .int .i64 ((sizeS a0 a1 (⟨a2.Row + (1 + ((a3 % 65536) % (a2.Rows - 1))), a2.Col, a2.Rows - (1 + ((a3 % 65536) % (a2.Rows - 1))), a2.Cols⟩ : TRect)).2)), (22, .complex .f64 (((cornerS a0 a1 (⟨a2.Row, a2.Col, 1 + ((a3 % 65536) % (a2.Rows - 1)), a2.Cols⟩ : TRect)).1).re).bits (((cornerS a0 a1 (⟨a2.Row, a2.Col, 1 + ((a3 % 65536) % (a2.Rows - 1)), a2.Cols⟩ : TRect)).1).im).bits), (23, .int .i64 ((cornerS a0 a1 (⟨a2.Row, a2.Col, 1 + ((a3 % 65536) % (a2.Rows - 1)), a2.Cols⟩ : TRect)).2))] rfl ?_)
                refine C_seq ?_
                refine C_region ?_
                refine W_cons rfl (by decide) (Sv_val rfl (R_move rfl rfl) ?_)
                refine W_cons rfl (by decide) (Sv_val rfl (R_move rfl rfl) ?_)
                refine W_cons rfl (by decide) (Sv_val rfl (R_loadN (cs := [.int .i64 (a2.Row + (1 + ((a3 % 65536) % (a2.Rows - 1)))), .int .i64 a2.Col, .int .i64 (a2.Rows - (1 + ((a3 % 65536) % (a2.Rows - 1)))), .int .i64 a2.Cols]) rfl rfl agg30 size30 rfl (boxcells hBbn310_x17 0 rfl)) ?_)
                refine W_cons rfl (by decide) (Sv_call rfl rfl rfl ent19 ?_)
                refine (corner_calls Aa0 ca0 a0 Aa1 ca1 a1 (⟨a2.Row + (1 + ((a3 % 65536) % (a2.Rows - 1))), a2.Col, a2.Rows - (1 + ((a3 % 65536) % (a2.Rows - 1))), a2.Cols⟩ : TRect) _ _ hz hra0 hca0 hra1 hca1 (by first | omega | (simp only [size_in hA, size_in hB, size_in hin, corner_in hA, corner_in hB, corner_in hin, hT, cpt, Cx.add, Cx.sub, Fl.add, Fl.sub, Fl.opp, Fl.ofInt, Fl.ok] <;> omega)) (by first | omega | (simp only [size_in hA, size_in hB, size_in hin, corner_in hA, corner_in hB, corner_in hin, hT, cpt, Cx.add, Cx.sub, Fl.add, Fl.sub, Fl.opp, Fl.ofInt, Fl.ok] <;> omega))).mono ?_
                rintro e_ w56 ⟨rfl, hc57⟩
                refine ⟨_, rfl, ?_⟩
                have hz := hz.chg0 hc57
                have hC := hC.then hc57 (by simp)
                refine W_cons rfl (by decide) (Sv_val rfl (R_move rfl rfl) ?_)
                refine W_cons rfl (by decide) (Sv_val rfl (R_extract rfl rfl rfl) ?_)
                refine W_cons rfl (by decide) (Sv_val rfl (R_extract rfl rfl rfl) ?_)
                refine W_cons rfl (by decide) (Sv_val rfl (R_assign rfl rfl) ?_)
                refine W_cons rfl (by decide) (Sv_val rfl (R_assign rfl rfl) ?_)
                refine W_nil ?_
                refine E_then (C_fr [(4, .bool a4), (11, .complex .f64 (((sizeS a0 a1 a2).1).re).bits (((sizeS a0 a1 a2).1).im).bits), (17, .complex .f64 ((cpt 0 1).re).bits ((cpt 0 1).im).bits), (18, .complex .f64 (((sizeS a0 a1 (⟨a2.Row, a2.Col, 1 + ((a3 % 65536) % (a2.Rows - 1)), a2.Cols⟩ : TRect)).1).re).bits (((sizeS a0 a1 (⟨a2.Row, a2.Col, 1 + ((a3 % 65536) % (a2.Rows - 1)), a2.Cols⟩ : TRect)).1).im).bits), (19, .int .i64 ((sizeS a0 a1 (⟨a2.Row, a2.Col, 1 + ((a3 % 65536) % (a2.Rows - 1)), a2.Cols⟩ : TRect)).2)), (20, .complex .f64 (((sizeS a0 a1 (⟨a2.Row + (1 + ((a3 % 65536) % (a2.Rows - 1))), a2.Col, a2.Rows - (1 + ((a3 % 65536) % (a2.Rows - 1))), a2.Cols⟩ : TRect)).1).re).bits (((sizeS a0 a1 (⟨a2.Row + (1 + ((a3 % 65536) % (a2.Rows - 1))), a2.Col, a2.Rows - (1 + ((a3 % 65536) % (a2.Rows - 1))), a2.Cols⟩ : TRect)).1).im).bits), (21, .int .i64 ((sizeS a0 a1 (⟨a2.Row + (1 + ((a3 % 65536) % (a2.Rows - 1))), a2.Col, a2.Rows - (1 + ((a3 % 65536) % (a2.Rows - 1))), a2.Cols⟩ : TRect)).2)), (22, .complex .f64 (((cornerS a0 a1 (⟨a2.Row, a2.Col, 1 + ((a3 % 65536) % (a2.Rows - 1)), a2.Cols⟩ : TRect)).1).re).bits (((cornerS a0 a1 (⟨a2.Row, a2.Col, 1 + ((a3 % 65536) % (a2.Rows - 1)), a2.Cols⟩ : TRect)).1).im).bits), (23, .int .i64 ((cornerS a0 a1 (⟨a2.Row, a2.Col, 1 + ((a3 % 65536) % (a2.Rows - 1)), a2.Cols⟩ : TRect)).2)), (24, .complex .f64 (((cornerS a0 a1 (⟨a2.Row + (1 + ((a3 % 65536) % (a2.Rows - 1))), a2.Col, a2.Rows - (1 + ((a3 % 65536) % (a2.Rows - 1))), a2.Cols⟩ : TRect)).1).re).bits (((cornerS a0 a1 (⟨a2.Row + (1 + ((a3 % 65536) % (a2.Rows - 1))), a2.Col, a2.Rows - (1 + ((a3 % 65536) % (a2.Rows - 1))), a2.Cols⟩ : TRect)).1).im).bits), (25, .int .i64 ((cornerS a0 a1 (⟨a2.Row + (1 + ((a3 % 65536) % (a2.Rows - 1))), a2.Col, a2.Rows - (1 + ((a3 % 65536) % (a2.Rows - 1))), a2.Cols⟩ : TRect)).2))] rfl ?_)
                refine C_seq ?_
                refine C_seq ?_
                refine C_region ?_
                refine W_cons rfl (by decide) (Sv_val rfl (R_move rfl rfl) ?_)
                refine W_cons rfl (by decide) (Sv_val rfl (R_bin rfl rfl rfl rfl rfl) ?_)
                refine W_cons rfl (by decide) (Sv_val rfl (R_move rfl rfl) ?_)
                have hk58 : ((((sizeS a0 a1 (⟨a2.Row, a2.Col, 1 + ((a3 % 65536) % (a2.Rows - 1)), a2.Cols⟩ : TRect)).2) != 0)) = false := by first | (rw [size_in hA]; rfl) | (rw [size_in hB]; rfl) | (rw [corner_in hA]; rfl) | (rw [corner_in hB]; rfl)
                have hk58p : ((sizeS a0 a1 (⟨a2.Row, a2.Col, 1 + ((a3 % 65536) % (a2.Rows - 1)), a2.Cols⟩ : TRect)).2) = 0 := by simpa using hk58
                refine W_cons rfl (by decide) (Sv_gt rfl rfl rfl hk58 (Sv_val rfl (R_move rfl rfl) ?_))
                refine W_cons rfl (by decide) (Sv_gt rfl rfl rfl hk58 (Sv_val rfl (R_bin rfl rfl rfl rfl rfl) ?_))
                refine W_cons rfl (by decide) (Sv_val rfl (R_pick_f rfl rfl hk58 rfl) ?_)
                refine W_cons rfl (by decide) (Sv_val rfl (R_move rfl rfl) ?_)
                have hk59 : ((((sizeS a0 a1 (⟨a2.Row + (1 + ((a3 % 65536) % (a2.Rows - 1))), a2.Col, a2.Rows - (1 + ((a3 % 65536) % (a2.Rows - 1))), a2.Cols⟩ : TRect)).2) != 0)) = false := by first | (rw [size_in hA]; rfl) | (rw [size_in hB]; rfl) | (rw [corner_in hA]; rfl) | (rw [corner_in hB]; rfl)
                have hk59p : ((sizeS a0 a1 (⟨a2.Row + (1 + ((a3 % 65536) % (a2.Rows - 1))), a2.Col, a2.Rows - (1 + ((a3 % 65536) % (a2.Rows - 1))), a2.Cols⟩ : TRect)).2) = 0 := by simpa using hk59
                refine W_cons rfl (by decide) (Sv_gt rfl rfl rfl hk59 (Sv_val rfl (R_move rfl rfl) ?_))
                refine W_cons rfl (by decide) (Sv_gt rfl rfl rfl hk59 (Sv_val rfl (R_bin rfl rfl rfl rfl rfl) ?_))
                refine W_cons rfl (by decide) (Sv_val rfl (R_pick_f rfl rfl hk59 rfl) ?_)
                refine W_cons rfl (by decide) (Sv_val rfl (R_move rfl rfl) ?_)
                have hk60 : ((((cornerS a0 a1 (⟨a2.Row, a2.Col, 1 + ((a3 % 65536) % (a2.Rows - 1)), a2.Cols⟩ : TRect)).2) != 0)) = false := by first | (rw [size_in hA]; rfl) | (rw [size_in hB]; rfl) | (rw [corner_in hA]; rfl) | (rw [corner_in hB]; rfl)
                have hk60p : ((cornerS a0 a1 (⟨a2.Row, a2.Col, 1 + ((a3 % 65536) % (a2.Rows - 1)), a2.Cols⟩ : TRect)).2) = 0 := by simpa using hk60
                refine W_cons rfl (by decide) (Sv_gt rfl rfl rfl hk60 (Sv_val rfl (R_move rfl rfl) ?_))
                refine W_cons rfl (by decide) (Sv_gt rfl rfl rfl hk60 (Sv_val rfl (R_bin rfl rfl rfl rfl rfl) ?_))
                refine W_cons rfl (by decide) (Sv_val rfl (R_pick_f rfl rfl hk60 rfl) ?_)
                refine W_nil ?_
                refine E_then (C_fr [(4, .bool a4), (11, .complex .f64 (((sizeS a0 a1 a2).1).re).bits (((sizeS a0 a1 a2).1).im).bits), (17, .complex .f64 ((cpt 0 1).re).bits ((cpt 0 1).im).bits), (18, .complex .f64 (((sizeS a0 a1 (⟨a2.Row, a2.Col, 1 + ((a3 % 65536) % (a2.Rows - 1)), a2.Cols⟩ : TRect)).1).re).bits (((sizeS a0 a1 (⟨a2.Row, a2.Col, 1 + ((a3 % 65536) % (a2.Rows - 1)), a2.Cols⟩ : TRect)).1).im).bits), (20, .complex .f64 (((sizeS a0 a1 (⟨a2.Row + (1 + ((a3 % 65536) % (a2.Rows - 1))), a2.Col, a2.Rows - (1 + ((a3 % 65536) % (a2.Rows - 1))), a2.Cols⟩ : TRect)).1).re).bits (((sizeS a0 a1 (⟨a2.Row + (1 + ((a3 % 65536) % (a2.Rows - 1))), a2.Col, a2.Rows - (1 + ((a3 % 65536) % (a2.Rows - 1))), a2.Cols⟩ : TRect)).1).im).bits), (22, .complex .f64 (((cornerS a0 a1 (⟨a2.Row, a2.Col, 1 + ((a3 % 65536) % (a2.Rows - 1)), a2.Cols⟩ : TRect)).1).re).bits (((cornerS a0 a1 (⟨a2.Row, a2.Col, 1 + ((a3 % 65536) % (a2.Rows - 1)), a2.Cols⟩ : TRect)).1).im).bits), (24, .complex .f64 (((cornerS a0 a1 (⟨a2.Row + (1 + ((a3 % 65536) % (a2.Rows - 1))), a2.Col, a2.Rows - (1 + ((a3 % 65536) % (a2.Rows - 1))), a2.Cols⟩ : TRect)).1).re).bits (((cornerS a0 a1 (⟨a2.Row + (1 + ((a3 % 65536) % (a2.Rows - 1))), a2.Col, a2.Rows - (1 + ((a3 % 65536) % (a2.Rows - 1))), a2.Cols⟩ : TRect)).1).im).bits), (128, .bool (((cornerS a0 a1 (⟨a2.Row + (1 + ((a3 % 65536) % (a2.Rows - 1))), a2.Col, a2.Rows - (1 + ((a3 % 65536) % (a2.Rows - 1))), a2.Cols⟩ : TRect)).2) != 0))] rfl ?_)
                have hk61 : ((((cornerS a0 a1 (⟨a2.Row + (1 + ((a3 % 65536) % (a2.Rows - 1))), a2.Col, a2.Rows - (1 + ((a3 % 65536) % (a2.Rows - 1))), a2.Cols⟩ : TRect)).2) != 0)) = false := by first | (rw [size_in hA]; rfl) | (rw [size_in hB]; rfl) | (rw [corner_in hA]; rfl) | (rw [corner_in hB]; rfl)
                have hk61p : ((cornerS a0 a1 (⟨a2.Row + (1 + ((a3 % 65536) % (a2.Rows - 1))), a2.Col, a2.Rows - (1 + ((a3 % 65536) % (a2.Rows - 1))), a2.Cols⟩ : TRect)).2) = 0 := by simpa using hk61
                refine C_else rfl hk61 ?_
                refine C_skip ?_
                refine E_then ?_
                refine C_seq ?_
                refine C_seq ?_
                refine C_region ?_
                refine W_cons rfl (by decide) (Sv_val rfl (R_move rfl rfl) ?_)
                refine W_nil ?_
                refine E_then ?_
                refine C_if rfl hC1 ?_
                refine C_seq ?_
                refine C_region ?_
                refine W_cons rfl (by decide) (Sv_val rfl (R_move rfl rfl) ?_)
                refine W_cons rfl (by decide) (Sv_val rfl (R_real rfl rfl) ?_)
                refine W_cons rfl (by decide) (Sv_val rfl (R_move rfl rfl) ?_)
                refine W_cons rfl (by decide) (Sv_val rfl (R_real rfl rfl) ?_)
                refine W_cons rfl (by decide) (Sv_val rfl (R_fleql (a := (((sizeS a0 a1 (⟨a2.Row, a2.Col, 1 + ((a3 % 65536) % (a2.Rows - 1)), a2.Cols⟩ : TRect)).1).re)) (c := (((sizeS a0 a1 (⟨a2.Row + (1 + ((a3 % 65536) % (a2.Rows - 1))), a2.Col, a2.Rows - (1 + ((a3 % 65536) % (a2.Rows - 1))), a2.Cols⟩ : TRect)).1).re)) rfl rfl rfl (by simp only [size_in hA, size_in hB, size_in hin, corner_in hA, corner_in hB, corner_in hin, hT, cpt, Cx.add, Cx.sub, Fl.add, Fl.sub, Fl.opp, Fl.ofInt, Fl.ok] <;> omega)) ?_)
                refine W_cons rfl (by decide) (Sv_val rfl (R_move rfl rfl) ?_)
                have hk62 : (((((sizeS a0 a1 (⟨a2.Row, a2.Col, 1 + ((a3 % 65536) % (a2.Rows - 1)), a2.Cols⟩ : TRect)).1).re).n == (((sizeS a0 a1 (⟨a2.Row + (1 + ((a3 % 65536) % (a2.Rows - 1))), a2.Col, a2.Rows - (1 + ((a3 % 65536) % (a2.Rows - 1))), a2.Cols⟩ : TRect)).1).re).n)) = true := by simp only [size_in hA, size_in hB, size_in hin, corner_in hA, corner_in hB, corner_in hin, hT, cpt, Cx.add, Cx.sub, Fl.add, Fl.sub, Fl.opp, Fl.ofInt] <;> simp [-List.getD_eq_getElem?_getD] <;> omega
                have hk62p : (((sizeS a0 a1 (⟨a2.Row, a2.Col, 1 + ((a3 % 65536) % (a2.Rows - 1)), a2.Cols⟩ : TRect)).1).re).n = (((sizeS a0 a1 (⟨a2.Row + (1 + ((a3 % 65536) % (a2.Rows - 1))), a2.Col, a2.Rows - (1 + ((a3 % 65536) % (a2.Rows - 1))), a2.Cols⟩ : TRect)).1).re).n := by simpa using hk62
                refine W_cons rfl (by decide) (Sv_gt rfl rfl rfl hk62 (Sv_val rfl (R_move rfl rfl) ?_))
                refine W_cons rfl (by decide) (Sv_gt rfl rfl rfl hk62 (Sv_val rfl (R_move rfl rfl) ?_))
                refine W_cons rfl (by decide) (Sv_gt rfl rfl rfl hk62 (Sv_val rfl (R_cxsub (a := ((cornerS a0 a1 (⟨a2.Row + (1 + ((a3 % 65536) % (a2.Rows - 1))), a2.Col, a2.Rows - (1 + ((a3 % 65536) % (a2.Rows - 1))), a2.Cols⟩ : TRect)).1).re) (b := ((cornerS a0 a1 (⟨a2.Row + (1 + ((a3 % 65536) % (a2.Rows - 1))), a2.Col, a2.Rows - (1 + ((a3 % 65536) % (a2.Rows - 1))), a2.Cols⟩ : TRect)).1).im) (c := ((cornerS a0 a1 (⟨a2.Row, a2.Col, 1 + ((a3 % 65536) % (a2.Rows - 1)), a2.Cols⟩ : TRect)).1).re) (d := ((cornerS a0 a1 (⟨a2.Row, a2.Col, 1 + ((a3 % 65536) % (a2.Rows - 1)), a2.Cols⟩ : TRect)).1).im) rfl rfl rfl (by simp only [size_in hA, size_in hB, size_in hin, corner_in hA, corner_in hB, corner_in hin, hT, cpt, Cx.add, Cx.sub, Fl.add, Fl.sub, Fl.opp, Fl.ofInt, Fl.ok] <;> omega) (by simp only [size_in hA, size_in hB, size_in hin, corner_in hA, corner_in hB, corner_in hin, hT, cpt, Cx.add, Cx.sub, Fl.add, Fl.sub, Fl.opp, Fl.ofInt, Fl.ok] <;> omega)) ?_))
                refine W_cons rfl (by decide) (Sv_gt rfl rfl rfl hk62 (Sv_val rfl (R_move rfl rfl) ?_))
                refine W_cons rfl (by decide) (Sv_gt rfl rfl rfl hk62 (Sv_val rfl (R_imag rfl rfl) ?_))
                refine W_cons rfl (by decide) (Sv_gt rfl rfl rfl hk62 (Sv_val rfl (R_convfi rfl rfl Try.underlying40 Try.underlying3 (by simp only [size_in hA, size_in hB, size_in hin, corner_in hA, corner_in hB, corner_in hin, hT, cpt, Cx.add, Cx.sub, Fl.add, Fl.sub, Fl.opp, Fl.ofInt, Fl.ok] <;> omega)) ?_))
                refine W_cons rfl (by decide) (Sv_gt rfl rfl rfl hk62 (Sv_call rfl rfl rfl ent24 ?_))
                refine (lpoint_calls 0 ((((sizeS a0 a1 (⟨a2.Row, a2.Col, 1 + ((a3 % 65536) % (a2.Rows - 1)), a2.Cols⟩ : TRect)).1).im).n)  _   (by first | omega | (simp only [size_in hA, size_in hB, size_in hin, corner_in hA, corner_in hB, corner_in hin, hT, cpt, Cx.add, Cx.sub, Fl.add, Fl.sub, Fl.opp, Fl.ofInt, Fl.ok] <;> omega)) (by first | omega | (simp only [size_in hA, size_in hB, size_in hin, corner_in hA, corner_in hB, corner_in hin, hT, cpt, Cx.add, Cx.sub, Fl.add, Fl.sub, Fl.opp, Fl.ofInt, Fl.ok] <;> omega))).mono ?_
                rintro e_ w63 ⟨rfl, hc64⟩
                refine ⟨_, rfl, ?_⟩
                have hz := hz.chg0 hc64
                have hC := hC.then hc64 (by simp)
                refine W_cons rfl (by decide) (Sv_gt rfl rfl rfl hk62 (Sv_val rfl (R_move rfl rfl) ?_))
                refine W_cons rfl (by decide) (Sv_gt rfl rfl rfl hk62 (Sv_val rfl (R_cxadd (a := (cpt 0 ((((sizeS a0 a1 (⟨a2.Row, a2.Col, 1 + ((a3 % 65536) % (a2.Rows - 1)), a2.Cols⟩ : TRect)).1).im).n)).re) (b := (cpt 0 ((((sizeS a0 a1 (⟨a2.Row, a2.Col, 1 + ((a3 % 65536) % (a2.Rows - 1)), a2.Cols⟩ : TRect)).1).im).n)).im) (c := (cpt 0 1).re) (d := (cpt 0 1).im) rfl rfl rfl (by simp only [size_in hA, size_in hB, size_in hin, corner_in hA, corner_in hB, corner_in hin, hT, cpt, Cx.add, Cx.sub, Fl.add, Fl.sub, Fl.opp, Fl.ofInt, Fl.ok] <;> omega) (by simp only [size_in hA, size_in hB, size_in hin, corner_in hA, corner_in hB, corner_in hin, hT, cpt, Cx.add, Cx.sub, Fl.add, Fl.sub, Fl.opp, Fl.ofInt, Fl.ok] <;> omega)) ?_))
                refine W_cons rfl (by decide) (Sv_gt rfl rfl rfl hk62 (Sv_val rfl (R_cxeql (a := (((cornerS a0 a1 (⟨a2.Row + (1 + ((a3 % 65536) % (a2.Rows - 1))), a2.Col, a2.Rows - (1 + ((a3 % 65536) % (a2.Rows - 1))), a2.Cols⟩ : TRect)).1).re).sub (((cornerS a0 a1 (⟨a2.Row, a2.Col, 1 + ((a3 % 65536) % (a2.Rows - 1)), a2.Cols⟩ : TRect)).1).re)) (b := (((cornerS a0 a1 (⟨a2.Row + (1 + ((a3 % 65536) % (a2.Rows - 1))), a2.Col, a2.Rows - (1 + ((a3 % 65536) % (a2.Rows - 1))), a2.Cols⟩ : TRect)).1).im).sub (((cornerS a0 a1 (⟨a2.Row, a2.Col, 1 + ((a3 % 65536) % (a2.Rows - 1)), a2.Cols⟩ : TRect)).1).im)) (c := ((cpt 0 ((((sizeS a0 a1 (⟨a2.Row, a2.Col, 1 + ((a3 % 65536) % (a2.Rows - 1)), a2.Cols⟩ : TRect)).1).im).n)).re).add ((cpt 0 1).re)) (d := ((cpt 0 ((((sizeS a0 a1 (⟨a2.Row, a2.Col, 1 + ((a3 % 65536) % (a2.Rows - 1)), a2.Cols⟩ : TRect)).1).im).n)).im).add ((cpt 0 1).im)) rfl rfl rfl (by simp only [size_in hA, size_in hB, size_in hin, corner_in hA, corner_in hB, corner_in hin, hT, cpt, Cx.add, Cx.sub, Fl.add, Fl.sub, Fl.opp, Fl.ofInt, Fl.ok] <;> omega)) ?_))
                refine W_cons rfl (by decide) (Sv_val rfl (R_pick_t rfl rfl hk62 rfl) ?_)
                refine W_cons rfl (by decide) (Sv_val rfl (R_move rfl rfl) ?_)
                have hk65 : (((((((cornerS a0 a1 (⟨a2.Row + (1 + ((a3 % 65536) % (a2.Rows - 1))), a2.Col, a2.Rows - (1 + ((a3 % 65536) % (a2.Rows - 1))), a2.Cols⟩ : TRect)).1).re).sub (((cornerS a0 a1 (⟨a2.Row, a2.Col, 1 + ((a3 % 65536) % (a2.Rows - 1)), a2.Cols⟩ : TRect)).1).re)).n == (((cpt 0 ((((sizeS a0 a1 (⟨a2.Row, a2.Col, 1 + ((a3 % 65536) % (a2.Rows - 1)), a2.Cols⟩ : TRect)).1).im).n)).re).add ((cpt 0 1).re)).n) && (((((cornerS a0 a1 (⟨a2.Row + (1 + ((a3 % 65536) % (a2.Rows - 1))), a2.Col, a2.Rows - (1 + ((a3 % 65536) % (a2.Rows - 1))), a2.Cols⟩ : TRect)).1).im).sub (((cornerS a0 a1 (⟨a2.Row, a2.Col, 1 + ((a3 % 65536) % (a2.Rows - 1)), a2.Cols⟩ : TRect)).1).im)).n == (((cpt 0 ((((sizeS a0 a1 (⟨a2.Row, a2.Col, 1 + ((a3 % 65536) % (a2.Rows - 1)), a2.Cols⟩ : TRect)).1).im).n)).im).add ((cpt 0 1).im)).n))) = true := by simp only [size_in hA, size_in hB, size_in hin, corner_in hA, corner_in hB, corner_in hin, hT, cpt, Cx.add, Cx.sub, Fl.add, Fl.sub, Fl.opp, Fl.ofInt] <;> simp [-List.getD_eq_getElem?_getD] <;> omega
                have hk65p : (((((cornerS a0 a1 (⟨a2.Row + (1 + ((a3 % 65536) % (a2.Rows - 1))), a2.Col, a2.Rows - (1 + ((a3 % 65536) % (a2.Rows - 1))), a2.Cols⟩ : TRect)).1).re).sub (((cornerS a0 a1 (⟨a2.Row, a2.Col, 1 + ((a3 % 65536) % (a2.Rows - 1)), a2.Cols⟩ : TRect)).1).re)).n = (((cpt 0 ((((sizeS a0 a1 (⟨a2.Row, a2.Col, 1 + ((a3 % 65536) % (a2.Rows - 1)), a2.Cols⟩ : TRect)).1).im).n)).re).add ((cpt 0 1).re)).n ∧ ((((cornerS a0 a1 (⟨a2.Row + (1 + ((a3 % 65536) % (a2.Rows - 1))), a2.Col, a2.Rows - (1 + ((a3 % 65536) % (a2.Rows - 1))), a2.Cols⟩ : TRect)).1).im).sub (((cornerS a0 a1 (⟨a2.Row, a2.Col, 1 + ((a3 % 65536) % (a2.Rows - 1)), a2.Cols⟩ : TRect)).1).im)).n = (((cpt 0 ((((sizeS a0 a1 (⟨a2.Row, a2.Col, 1 + ((a3 % 65536) % (a2.Rows - 1)), a2.Cols⟩ : TRect)).1).im).n)).im).add ((cpt 0 1).im)).n) := by simpa using hk65
                refine W_cons rfl (by decide) (Sv_gt rfl rfl rfl hk65 (Sv_val rfl (R_move rfl rfl) ?_))
                refine W_cons rfl (by decide) (Sv_gt rfl rfl rfl hk65 (Sv_val rfl (R_imag rfl rfl) ?_))
                refine W_cons rfl (by decide) (Sv_gt rfl rfl rfl hk65 (Sv_val rfl (R_move rfl rfl) ?_))
                refine W_cons rfl (by decide) (Sv_gt rfl rfl rfl hk65 (Sv_val rfl (R_imag rfl rfl) ?_))
                refine W_cons rfl (by decide) (Sv_gt rfl rfl rfl hk65 (Sv_val rfl (R_move rfl rfl) ?_))
                refine W_cons rfl (by decide) (Sv_gt rfl rfl rfl hk65 (Sv_val rfl (R_imag rfl rfl) ?_))
                refine W_cons rfl (by decide) (Sv_gt rfl rfl rfl hk65 (Sv_val rfl (R_fladd (a := (((sizeS a0 a1 (⟨a2.Row, a2.Col, 1 + ((a3 % 65536) % (a2.Rows - 1)), a2.Cols⟩ : TRect)).1).im)) (c := (((sizeS a0 a1 (⟨a2.Row + (1 + ((a3 % 65536) % (a2.Rows - 1))), a2.Col, a2.Rows - (1 + ((a3 % 65536) % (a2.Rows - 1))), a2.Cols⟩ : TRect)).1).im)) rfl rfl rfl (by simp only [size_in hA, size_in hB, size_in hin, corner_in hA, corner_in hB, corner_in hin, hT, cpt, Cx.add, Cx.sub, Fl.add, Fl.sub, Fl.opp, Fl.ofInt, Fl.ok] <;> omega)) ?_))
                refine W_cons rfl (by decide) (Sv_gt rfl rfl rfl hk65 (Sv_val rfl (R_fladd (a := ((((sizeS a0 a1 (⟨a2.Row, a2.Col, 1 + ((a3 % 65536) % (a2.Rows - 1)), a2.Cols⟩ : TRect)).1).im).add (((sizeS a0 a1 (⟨a2.Row + (1 + ((a3 % 65536) % (a2.Rows - 1))), a2.Col, a2.Rows - (1 + ((a3 % 65536) % (a2.Rows - 1))), a2.Cols⟩ : TRect)).1).im))) (c := (Fl.ofInt 1)) rfl rfl (by kernel_rfl) (by simp only [size_in hA, size_in hB, size_in hin, corner_in hA, corner_in hB, corner_in hin, hT, cpt, Cx.add, Cx.sub, Fl.add, Fl.sub, Fl.opp, Fl.ofInt, Fl.ok] <;> omega)) ?_))
                refine W_cons rfl (by decide) (Sv_gt rfl rfl rfl hk65 (Sv_val rfl (R_fleql (a := (((sizeS a0 a1 a2).1).im)) (c := (((((sizeS a0 a1 (⟨a2.Row, a2.Col, 1 + ((a3 % 65536) % (a2.Rows - 1)), a2.Cols⟩ : TRect)).1).im).add (((sizeS a0 a1 (⟨a2.Row + (1 + ((a3 % 65536) % (a2.Rows - 1))), a2.Col, a2.Rows - (1 + ((a3 % 65536) % (a2.Rows - 1))), a2.Cols⟩ : TRect)).1).im)).add (Fl.ofInt 1))) rfl rfl rfl (by simp only [size_in hA, size_in hB, size_in hin, corner_in hA, corner_in hB, corner_in hin, hT, cpt, Cx.add, Cx.sub, Fl.add, Fl.sub, Fl.opp, Fl.ofInt, Fl.ok] <;> omega)) ?_))
                refine W_cons rfl (by decide) (Sv_val rfl (R_pick_t rfl rfl hk65 rfl) ?_)
                refine W_cons rfl (by decide) (Sv_val rfl (R_move rfl rfl) ?_)
                have hk66 : (((((sizeS a0 a1 a2).1).im).n == (((((sizeS a0 a1 (⟨a2.Row, a2.Col, 1 + ((a3 % 65536) % (a2.Rows - 1)), a2.Cols⟩ : TRect)).1).im).add (((sizeS a0 a1 (⟨a2.Row + (1 + ((a3 % 65536) % (a2.Rows - 1))), a2.Col, a2.Rows - (1 + ((a3 % 65536) % (a2.Rows - 1))), a2.Cols⟩ : TRect)).1).im)).add (Fl.ofInt 1)).n)) = true := by simp only [size_in hA, size_in hB, size_in hin, corner_in hA, corner_in hB, corner_in hin, hT, cpt, Cx.add, Cx.sub, Fl.add, Fl.sub, Fl.opp, Fl.ofInt] <;> simp [-List.getD_eq_getElem?_getD] <;> omega
                have hk66p : (((sizeS a0 a1 a2).1).im).n = (((((sizeS a0 a1 (⟨a2.Row, a2.Col, 1 + ((a3 % 65536) % (a2.Rows - 1)), a2.Cols⟩ : TRect)).1).im).add (((sizeS a0 a1 (⟨a2.Row + (1 + ((a3 % 65536) % (a2.Rows - 1))), a2.Col, a2.Rows - (1 + ((a3 % 65536) % (a2.Rows - 1))), a2.Cols⟩ : TRect)).1).im)).add (Fl.ofInt 1)).n := by simpa using hk66
                refine W_cons rfl (by decide) (Sv_gt rfl rfl rfl hk66 (Sv_call rfl rfl rfl ent12 ?_))
                refine (awake_calls   _   ).mono ?_
                rintro e_ w67 ⟨rfl, hc68⟩
                refine ⟨_, rfl, ?_⟩
                have hz := hz.chg0 hc68
                have hC := hC.then hc68 (by simp)
                refine W_cons rfl (by decide) (Sv_val rfl (R_pick_t rfl rfl hk66 rfl) ?_)
                refine W_cons rfl (by decide) (Sv_val rfl (R_assign rfl rfl) ?_)
                refine W_nil ?_
                refine E_then (C_fr [(10, .bool true)] rfl ?_)
                refine C_ret ?_
                refine E_then_ret ?_
                refine E_ret1 rfl rfl ?_
                exact ⟨Lret1 (Lbool (show true = true by rfl)), hC⟩
            have hI10_x17_1 : ∀ (w32 : World) (bn210_x17 : Nat) (bn310_x17 : Nat) (hz : Sub z w32) (hC : Chg [] w w32) (hBb1 : Box w32 b1 30 [.int .i64 a2.Row, .int .i64 a2.Col, .int .i64 a2.Rows, .int .i64 a2.Cols]) (hBbn210_x17 : Box w32 bn210_x17 30 [.int .i64 a2.Row, .int .i64 a2.Col, .int .i64 a2.Rows, .int .i64 a2.Cols]) (hBbn310_x17 : Box w32 bn310_x17 30 [.int .i64 0, .int .i64 0, .int .i64 0, .int .i64 0]) (hNbn210_x17 : ∀ k ∈ [bn210_x17], w.heap.size ≤ k) (hZbn210_x17 : ∀ k ∈ [bn210_x17], z k = none) (hNbn310_x17 : ∀ k ∈ [bn310_x17], w.heap.size ≤ k) (hZbn310_x17 : ∀ k ∈ [bn310_x17], z k = none) (hDb1_bn210_x17 : ∀ k ∈ [b1], k ∉ [bn210_x17]) (hDb1_bn310_x17 : ∀ k ∈ [b1], k ∉ [bn310_x17]) (hDbn210_x17_bn310_x17 : ∀ k ∈ [bn210_x17], k ∉ [bn310_x17]), A_w15 1 #[true, true, true, true, true, false] [(0, .slice Aa0 a0.length ca0), (1, .slice Aa1 a1.length ca1), (4, .bool a4), (7, .pointer (some ⟨b1, 0, none⟩)), (11, .complex .f64 (((sizeS a0 a1 a2).1).re).bits (((sizeS a0 a1 a2).1).im).bits), (13, .int .i64 a2.Rows), (14, .int .i64 (1 + ((a3 % 65536) % (a2.Rows - 1)))), (15, .pointer (some ⟨bn210_x17, 0, none⟩)), (16, .pointer (some ⟨bn310_x17, 0, none⟩)), (60, .agg #[.int .i64 a2.Row, .int .i64 a2.Col, .int .i64 a2.Rows, .int .i64 a2.Cols]), (61, .agg #[.int .i64 a2.Row, .int .i64 a2.Col, .int .i64 a2.Rows, .int .i64 a2.Cols])] w32 := by
              intro w32 bn210_x17 bn310_x17 hz hC hBb1 hBbn210_x17 hBbn310_x17 hNbn210_x17 hZbn210_x17 hNbn310_x17 hZbn310_x17 hDb1_bn210_x17 hDb1_bn310_x17 hDbn210_x17_bn310_x17
              refine An_any [5] (by decide +kernel) (by decide) (List.forall_mem_cons.2 ⟨?_, (fun _ h => by cases h)⟩)
              · refine ⟨_, rfl, by decide, ?_⟩
                refine Sv_store rfl rfl rfl rfl size30 (one_cons rfl (one_cons rfl (one_cons rfl (one_cons rfl one_nil)))) hBbn310_x17 (Nat.le_of_ble_eq_true rfl) (fun w69 hc70 hB_ => ?_)
                have hz := hz.chg hc70 hZbn310_x17
                have hBb1 := hBb1.chg hc70 (hDb1_bn310_x17 _ (List.mem_singleton_self _))
                have hBbn210_x17 := hBbn210_x17.chg hc70 (hDbn210_x17_bn310_x17 _ (List.mem_singleton_self _))
                have hC := hC.then hc70 (fun i hi => .inr (hNbn310_x17 i hi))
                have hBbn310_x17 := hB_
                exact An_fr [(0, .slice Aa0 a0.length ca0), (1, .slice Aa1 a1.length ca1), (4, .bool a4), (7, .pointer (some ⟨b1, 0, none⟩)), (11, .complex .f64 (((sizeS a0 a1 a2).1).re).bits (((sizeS a0 a1 a2).1).im).bits), (13, .int .i64 a2.Rows), (14, .int .i64 (1 + ((a3 % 65536) % (a2.Rows - 1)))), (15, .pointer (some ⟨bn210_x17, 0, none⟩)), (16, .pointer (some ⟨bn310_x17, 0, none⟩)), (60, .agg #[.int .i64 a2.Row, .int .i64 a2.Col, .int .i64 a2.Rows, .int .i64 a2.Cols]), (61, .agg #[.int .i64 a2.Row, .int .i64 a2.Col, .int .i64 a2.Rows, .int .i64 a2.Cols])] rfl (hI10_x17_0 w69 bn210_x17 bn310_x17 hz hC hBb1 hBbn210_x17 hBbn310_x17 hNbn210_x17 hZbn210_x17 hNbn310_x17 hZbn310_x17 hDb1_bn210_x17 hDb1_bn310_x17 hDbn210_x17_bn310_x17)
            have hI10_x17_2 : ∀ (w31 : World) (bn210_x17 : Nat) (bn310_x17 : Nat) (hz : Sub z w31) (hC : Chg [] w w31) (hBb1 : Box w31 b1 30 [.int .i64 a2.Row, .int .i64 a2.Col, .int .i64 a2.Rows, .int .i64 a2.Cols]) (hBbn210_x17 : Box w31 bn210_x17 30 [.int .i64 0, .int .i64 0, .int .i64 0, .int .i64 0]) (hBbn310_x17 : Box w31 bn310_x17 30 [.int .i64 0, .int .i64 0, .int .i64 0, .int .i64 0]) (hNbn210_x17 : ∀ k ∈ [bn210_x17], w.heap.size ≤ k) (hZbn210_x17 : ∀ k ∈ [bn210_x17], z k = none) (hNbn310_x17 : ∀ k ∈ [bn310_x17], w.heap.size ≤ k) (hZbn310_x17 : ∀ k ∈ [bn310_x17], z k = none) (hDb1_bn210_x17 : ∀ k ∈ [b1], k ∉ [bn210_x17]) (hDb1_bn310_x17 : ∀ k ∈ [b1], k ∉ [bn310_x17]) (hDbn210_x17_bn310_x17 : ∀ k ∈ [bn210_x17], k ∉ [bn310_x17]), A_w15 2 #[true, true, true, true, false, false] [(0, .slice Aa0 a0.length ca0), (1, .slice Aa1 a1.length ca1), (4, .bool a4), (7, .pointer (some ⟨b1, 0, none⟩)), (11, .complex .f64 (((sizeS a0 a1 a2).1).re).bits (((sizeS a0 a1 a2).1).im).bits), (13, .int .i64 a2.Rows), (14, .int .i64 (1 + ((a3 % 65536) % (a2.Rows - 1)))), (15, .pointer (some ⟨bn210_x17, 0, none⟩)), (16, .pointer (some ⟨bn310_x17, 0, none⟩)), (60, .agg #[.int .i64 a2.Row, .int .i64 a2.Col, .int .i64 a2.Rows, .int .i64 a2.Cols]), (61, .agg #[.int .i64 a2.Row, .int .i64 a2.Col, .int .i64 a2.Rows, .int .i64 a2.Cols])] w31 := by
              intro w31 bn210_x17 bn310_x17 hz hC hBb1 hBbn210_x17 hBbn310_x17 hNbn210_x17 hZbn210_x17 hNbn310_x17 hZbn310_x17 hDb1_bn210_x17 hDb1_bn310_x17 hDbn210_x17_bn310_x17
              refine An_any [4] (by decide +kernel) (by decide) (List.forall_mem_cons.2 ⟨?_, (fun _ h => by cases h)⟩)
              · refine ⟨_, rfl, by decide, ?_⟩
                refine Sv_store rfl rfl rfl rfl size30 (one_cons rfl (one_cons rfl (one_cons rfl (one_cons rfl one_nil)))) hBbn210_x17 (Nat.le_of_ble_eq_true rfl) (fun w71 hc72 hB_ => ?_)
                have hz := hz.chg hc72 hZbn210_x17
                have hBb1 := hBb1.chg hc72 (hDb1_bn210_x17 _ (List.mem_singleton_self _))
                have hBbn310_x17 := hBbn310_x17.chg hc72 ((disj_sym hDbn210_x17_bn310_x17) _ (List.mem_singleton_self _))
                have hC := hC.then hc72 (fun i hi => .inr (hNbn210_x17 i hi))
                have hBbn210_x17 := hB_
                exact An_fr [(0, .slice Aa0 a0.length ca0), (1, .slice Aa1 a1.length ca1), (4, .bool a4), (7, .pointer (some ⟨b1, 0, none⟩)), (11, .complex .f64 (((sizeS a0 a1 a2).1).re).bits (((sizeS a0 a1 a2).1).im).bits), (13, .int .i64 a2.Rows), (14, .int .i64 (1 + ((a3 % 65536) % (a2.Rows - 1)))), (15, .pointer (some ⟨bn210_x17, 0, none⟩)), (16, .pointer (some ⟨bn310_x17, 0, none⟩)), (60, .agg #[.int .i64 a2.Row, .int .i64 a2.Col, .int .i64 a2.Rows, .int .i64 a2.Cols]), (61, .agg #[.int .i64 a2.Row, .int .i64 a2.Col, .int .i64 a2.Rows, .int .i64 a2.Cols])] rfl (hI10_x17_1 w71 bn210_x17 bn310_x17 hz hC hBb1 hBbn210_x17 hBbn310_x17 hNbn210_x17 hZbn210_x17 hNbn310_x17 hZbn310_x17 hDb1_bn210_x17 hDb1_bn310_x17 hDbn210_x17_bn310_x17)
            have hI10_x17_3 : ∀ (w29 : World) (bn210_x17 : Nat) (bn310_x17 : Nat) (hz : Sub z w29) (hC : Chg [] w w29) (hBb1 : Box w29 b1 30 [.int .i64 a2.Row, .int .i64 a2.Col, .int .i64 a2.Rows, .int .i64 a2.Cols]) (hBbn210_x17 : Box w29 bn210_x17 30 [.int .i64 a2.Row, .int .i64 a2.Col, .int .i64 a2.Rows, .int .i64 a2.Cols]) (hBbn310_x17 : Box w29 bn310_x17 30 [.int .i64 0, .int .i64 0, .int .i64 0, .int .i64 0]) (hNbn210_x17 : ∀ k ∈ [bn210_x17], w.heap.size ≤ k) (hZbn210_x17 : ∀ k ∈ [bn210_x17], z k = none) (hNbn310_x17 : ∀ k ∈ [bn310_x17], w.heap.size ≤ k) (hZbn310_x17 : ∀ k ∈ [bn310_x17], z k = none) (hDb1_bn210_x17 : ∀ k ∈ [b1], k ∉ [bn210_x17]) (hDb1_bn310_x17 : ∀ k ∈ [b1], k ∉ [bn310_x17]) (hDbn210_x17_bn310_x17 : ∀ k ∈ [bn210_x17], k ∉ [bn310_x17]), A_w15 2 #[true, false, true, true, true, false] [(0, .slice Aa0 a0.length ca0), (1, .slice Aa1 a1.length ca1), (4, .bool a4), (7, .pointer (some ⟨b1, 0, none⟩)), (11, .complex .f64 (((sizeS a0 a1 a2).1).re).bits (((sizeS a0 a1 a2).1).im).bits), (13, .int .i64 a2.Rows), (14, .int .i64 (1 + ((a3 % 65536) % (a2.Rows - 1)))), (15, .pointer (some ⟨bn210_x17, 0, none⟩)), (16, .pointer (some ⟨bn310_x17, 0, none⟩)), (60, .agg #[.int .i64 a2.Row, .int .i64 a2.Col, .int .i64 a2.Rows, .int .i64 a2.Cols])] w29 := by
              intro w29 bn210_x17 bn310_x17 hz hC hBb1 hBbn210_x17 hBbn310_x17 hNbn210_x17 hZbn210_x17 hNbn310_x17 hZbn310_x17 hDb1_bn210_x17 hDb1_bn310_x17 hDbn210_x17_bn310_x17
              refine An_any [1] (by decide +kernel) (by decide) (List.forall_mem_cons.2 ⟨?_, (fun _ h => by cases h)⟩)
              · refine ⟨_, rfl, by decide, ?_⟩
                refine Sv_val rfl (R_loadN (cs := [.int .i64 a2.Row, .int .i64 a2.Col, .int .i64 a2.Rows, .int .i64 a2.Cols]) rfl rfl agg30 size30 rfl (boxcells hBb1 0 rfl)) ?_
                exact An_fr [(0, .slice Aa0 a0.length ca0), (1, .slice Aa1 a1.length ca1), (4, .bool a4), (7, .pointer (some ⟨b1, 0, none⟩)), (11, .complex .f64 (((sizeS a0 a1 a2).1).re).bits (((sizeS a0 a1 a2).1).im).bits), (13, .int .i64 a2.Rows), (14, .int .i64 (1 + ((a3 % 65536) % (a2.Rows - 1)))), (15, .pointer (some ⟨bn210_x17, 0, none⟩)), (16, .pointer (some ⟨bn310_x17, 0, none⟩)), (60, .agg #[.int .i64 a2.Row, .int .i64 a2.Col, .int .i64 a2.Rows, .int .i64 a2.Cols]), (61, .agg #[.int .i64 a2.Row, .int .i64 a2.Col, .int .i64 a2.Rows, .int .i64 a2.Cols])] rfl (hI10_x17_1 w29 bn210_x17 bn310_x17 hz hC hBb1 hBbn210_x17 hBbn310_x17 hNbn210_x17 hZbn210_x17 hNbn310_x17 hZbn310_x17 hDb1_bn210_x17 hDb1_bn310_x17 hDbn210_x17_bn310_x17)
            have hI10_x17_4 : ∀ (w27 : World) (bn210_x17 : Nat) (hz : Sub z w27) (hC : Chg [] w w27) (hBb1 : Box w27 b1 30 [.int .i64 a2.Row, .int .i64 a2.Col, .int .i64 a2.Rows, .int .i64 a2.Cols]) (hBbn210_x17 : Box w27 bn210_x17 30 [.int .i64 0, .int .i64 0, .int .i64 0, .int .i64 0]) (hNbn210_x17 : ∀ k ∈ [bn210_x17], w.heap.size ≤ k) (hZbn210_x17 : ∀ k ∈ [bn210_x17], z k = none) (hDb1_bn210_x17 : ∀ k ∈ [b1], k ∉ [bn210_x17]), A_w15 3 #[true, true, true, false, false, false] [(0, .slice Aa0 a0.length ca0), (1, .slice Aa1 a1.length ca1), (4, .bool a4), (7, .pointer (some ⟨b1, 0, none⟩)), (11, .complex .f64 (((sizeS a0 a1 a2).1).re).bits (((sizeS a0 a1 a2).1).im).bits), (13, .int .i64 a2.Rows), (14, .int .i64 (1 + ((a3 % 65536) % (a2.Rows - 1)))), (15, .pointer (some ⟨bn210_x17, 0, none⟩)), (60, .agg #[.int .i64 a2.Row, .int .i64 a2.Col, .int .i64 a2.Rows, .int .i64 a2.Cols]), (61, .agg #[.int .i64 a2.Row, .int .i64 a2.Col, .int .i64 a2.Rows, .int .i64 a2.Cols])] w27 := by
              intro w27 bn210_x17 hz hC hBb1 hBbn210_x17 hNbn210_x17 hZbn210_x17 hDb1_bn210_x17
              refine An_any [3] (by decide +kernel) (by decide) (List.forall_mem_cons.2 ⟨?_, (fun _ h => by cases h)⟩)
              · refine ⟨_, rfl, by decide, ?_⟩
                refine Sv_box rfl (R_alloc rfl alloc30) (fun bn310_x17 w73 hcbn310_x17 hnbn310_x17 hBbn310_x17 => ?_)
                have hDb1_bn310_x17 : ∀ k ∈ [b1], k ∉ [bn310_x17] := disj_new (boxlt hBb1) (boxbase hnbn310_x17)
                have hDbn210_x17_bn310_x17 : ∀ k ∈ [bn210_x17], k ∉ [bn310_x17] := disj_new (boxlt hBbn210_x17) (boxbase hnbn310_x17)
                have hZbn310_x17 : ∀ k ∈ [bn310_x17], z k = none := fresh_z hz (boxbase hnbn310_x17)
                have hNbn310_x17 : ∀ k ∈ [bn310_x17], w.heap.size ≤ k := newC (boxbase hnbn310_x17) hC.size
                have hz := hz.chg0 hcbn310_x17
                have hBb1 := hBb1.chg0 hcbn310_x17
                have hBbn210_x17 := hBbn210_x17.chg0 hcbn310_x17
                have hC := hC.then hcbn310_x17 (by simp)
                exact An_fr [(0, .slice Aa0 a0.length ca0), (1, .slice Aa1 a1.length ca1), (4, .bool a4), (7, .pointer (some ⟨b1, 0, none⟩)), (11, .complex .f64 (((sizeS a0 a1 a2).1).re).bits (((sizeS a0 a1 a2).1).im).bits), (13, .int .i64 a2.Rows), (14, .int .i64 (1 + ((a3 % 65536) % (a2.Rows - 1)))), (15, .pointer (some ⟨bn210_x17, 0, none⟩)), (16, .pointer (some ⟨bn310_x17, 0, none⟩)), (60, .agg #[.int .i64 a2.Row, .int .i64 a2.Col, .int .i64 a2.Rows, .int .i64 a2.Cols]), (61, .agg #[.int .i64 a2.Row, .int .i64 a2.Col, .int .i64 a2.Rows, .int .i64 a2.Cols])] rfl (hI10_x17_2 w73 bn210_x17 bn310_x17 hz hC hBb1 hBbn210_x17 hBbn310_x17 hNbn210_x17 hZbn210_x17 hNbn310_x17 hZbn310_x17 hDb1_bn210_x17 hDb1_bn310_x17 hDbn210_x17_bn310_x17)
            have hI10_x17_5 : ∀ (w28 : World) (bn310_x17 : Nat) (hz : Sub z w28) (hC : Chg [] w w28) (hBb1 : Box w28 b1 30 [.int .i64 a2.Row, .int .i64 a2.Col, .int .i64 a2.Rows, .int .i64 a2.Cols]) (hBbn310_x17 : Box w28 bn310_x17 30 [.int .i64 0, .int .i64 0, .int .i64 0, .int .i64 0]) (hNbn310_x17 : ∀ k ∈ [bn310_x17], w.heap.size ≤ k) (hZbn310_x17 : ∀ k ∈ [bn310_x17], z k = none) (hDb1_bn310_x17 : ∀ k ∈ [b1], k ∉ [bn310_x17]), A_w15 3 #[true, true, false, true, false, false] [(0, .slice Aa0 a0.length ca0), (1, .slice Aa1 a1.length ca1), (4, .bool a4), (7, .pointer (some ⟨b1, 0, none⟩)), (11, .complex .f64 (((sizeS a0 a1 a2).1).re).bits (((sizeS a0 a1 a2).1).im).bits), (13, .int .i64 a2.Rows), (14, .int .i64 (1 + ((a3 % 65536) % (a2.Rows - 1)))), (16, .pointer (some ⟨bn310_x17, 0, none⟩)), (60, .agg #[.int .i64 a2.Row, .int .i64 a2.Col, .int .i64 a2.Rows, .int .i64 a2.Cols]), (61, .agg #[.int .i64 a2.Row, .int .i64 a2.Col, .int .i64 a2.Rows, .int .i64 a2.Cols])] w28 := by
              intro w28 bn310_x17 hz hC hBb1 hBbn310_x17 hNbn310_x17 hZbn310_x17 hDb1_bn310_x17
              refine An_any [2] (by decide +kernel) (by decide) (List.forall_mem_cons.2 ⟨?_, (fun _ h => by cases h)⟩)
              · refine ⟨_, rfl, by decide, ?_⟩
                refine Sv_box rfl (R_alloc rfl alloc30) (fun bn210_x17 w74 hcbn210_x17 hnbn210_x17 hBbn210_x17 => ?_)
                have hDb1_bn210_x17 : ∀ k ∈ [b1], k ∉ [bn210_x17] := disj_new (boxlt hBb1) (boxbase hnbn210_x17)
                have hDbn310_x17_bn210_x17 : ∀ k ∈ [bn310_x17], k ∉ [bn210_x17] := disj_new (boxlt hBbn310_x17) (boxbase hnbn210_x17)
                have hZbn210_x17 : ∀ k ∈ [bn210_x17], z k = none := fresh_z hz (boxbase hnbn210_x17)
                have hNbn210_x17 : ∀ k ∈ [bn210_x17], w.heap.size ≤ k := newC (boxbase hnbn210_x17) hC.size
                have hz := hz.chg0 hcbn210_x17
                have hBb1 := hBb1.chg0 hcbn210_x17
                have hBbn310_x17 := hBbn310_x17.chg0 hcbn210_x17
                have hC := hC.then hcbn210_x17 (by simp)
                exact An_fr [(0, .slice Aa0 a0.length ca0), (1, .slice Aa1 a1.length ca1), (4, .bool a4), (7, .pointer (some ⟨b1, 0, none⟩)), (11, .complex .f64 (((sizeS a0 a1 a2).1).re).bits (((sizeS a0 a1 a2).1).im).bits), (13, .int .i64 a2.Rows), (14, .int .i64 (1 + ((a3 % 65536) % (a2.Rows - 1)))), (15, .pointer (some ⟨bn210_x17, 0, none⟩)), (16, .pointer (some ⟨bn310_x17, 0, none⟩)), (60, .agg #[.int .i64 a2.Row, .int .i64 a2.Col, .int .i64 a2.Rows, .int .i64 a2.Cols]), (61, .agg #[.int .i64 a2.Row, .int .i64 a2.Col, .int .i64 a2.Rows, .int .i64 a2.Cols])] rfl (hI10_x17_2 w74 bn210_x17 bn310_x17 hz hC hBb1 hBbn210_x17 hBbn310_x17 hNbn210_x17 hZbn210_x17 hNbn310_x17 hZbn310_x17 hDb1_bn210_x17 hDb1_bn310_x17 (disj_sym hDbn310_x17_bn210_x17))
            have hI10_x17_6 : ∀ (w25 : World) (bn210_x17 : Nat) (bn310_x17 : Nat) (hz : Sub z w25) (hC : Chg [] w w25) (hBb1 : Box w25 b1 30 [.int .i64 a2.Row, .int .i64 a2.Col, .int .i64 a2.Rows, .int .i64 a2.Cols]) (hBbn210_x17 : Box w25 bn210_x17 30 [.int .i64 0, .int .i64 0, .int .i64 0, .int .i64 0]) (hBbn310_x17 : Box w25 bn310_x17 30 [.int .i64 0, .int .i64 0, .int .i64 0, .int .i64 0]) (hNbn210_x17 : ∀ k ∈ [bn210_x17], w.heap.size ≤ k) (hZbn210_x17 : ∀ k ∈ [bn210_x17], z k = none) (hNbn310_x17 : ∀ k ∈ [bn310_x17], w.heap.size ≤ k) (hZbn310_x17 : ∀ k ∈ [bn310_x17], z k = none) (hDb1_bn210_x17 : ∀ k ∈ [b1], k ∉ [bn210_x17]) (hDb1_bn310_x17 : ∀ k ∈ [b1], k ∉ [bn310_x17]) (hDbn210_x17_bn310_x17 : ∀ k ∈ [bn210_x17], k ∉ [bn310_x17]), A_w15 3 #[true, false, true, true, false, false] [(0, .slice Aa0 a0.length ca0), (1, .slice Aa1 a1.length ca1), (4, .bool a4), (7, .pointer (some ⟨b1, 0, none⟩)), (11, .complex .f64 (((sizeS a0 a1 a2).1).re).bits (((sizeS a0 a1 a2).1).im).bits), (13, .int .i64 a2.Rows), (14, .int .i64 (1 + ((a3 % 65536) % (a2.Rows - 1)))), (15, .pointer (some ⟨bn210_x17, 0, none⟩)), (16, .pointer (some ⟨bn310_x17, 0, none⟩)), (60, .agg #[.int .i64 a2.Row, .int .i64 a2.Col, .int .i64 a2.Rows, .int .i64 a2.Cols])] w25 := by
              intro w25 bn210_x17 bn310_x17 hz hC hBb1 hBbn210_x17 hBbn310_x17 hNbn210_x17 hZbn210_x17 hNbn310_x17 hZbn310_x17 hDb1_bn210_x17 hDb1_bn310_x17 hDbn210_x17_bn310_x17
              refine An_any [1, 4] (by decide +kernel) (by decide) (List.forall_mem_cons.2 ⟨?_, (List.forall_mem_cons.2 ⟨?_, (fun _ h => by cases h)⟩)⟩)
              · refine ⟨_, rfl, by decide, ?_⟩
                refine Sv_val rfl (R_loadN (cs := [.int .i64 a2.Row, .int .i64 a2.Col, .int .i64 a2.Rows, .int .i64 a2.Cols]) rfl rfl agg30 size30 rfl (boxcells hBb1 0 rfl)) ?_
                exact An_fr [(0, .slice Aa0 a0.length ca0), (1, .slice Aa1 a1.length ca1), (4, .bool a4), (7, .pointer (some ⟨b1, 0, none⟩)), (11, .complex .f64 (((sizeS a0 a1 a2).1).re).bits (((sizeS a0 a1 a2).1).im).bits), (13, .int .i64 a2.Rows), (14, .int .i64 (1 + ((a3 % 65536) % (a2.Rows - 1)))), (15, .pointer (some ⟨bn210_x17, 0, none⟩)), (16, .pointer (some ⟨bn310_x17, 0, none⟩)), (60, .agg #[.int .i64 a2.Row, .int .i64 a2.Col, .int .i64 a2.Rows, .int .i64 a2.Cols]), (61, .agg #[.int .i64 a2.Row, .int .i64 a2.Col, .int .i64 a2.Rows, .int .i64 a2.Cols])] rfl (hI10_x17_2 w25 bn210_x17 bn310_x17 hz hC hBb1 hBbn210_x17 hBbn310_x17 hNbn210_x17 hZbn210_x17 hNbn310_x17 hZbn310_x17 hDb1_bn210_x17 hDb1_bn310_x17 hDbn210_x17_bn310_x17)
              · refine ⟨_, rfl, by decide, ?_⟩
                refine Sv_store rfl rfl rfl rfl size30 (one_cons rfl (one_cons rfl (one_cons rfl (one_cons rfl one_nil)))) hBbn210_x17 (Nat.le_of_ble_eq_true rfl) (fun w75 hc76 hB_ => ?_)
                have hz := hz.chg hc76 hZbn210_x17
                have hBb1 := hBb1.chg hc76 (hDb1_bn210_x17 _ (List.mem_singleton_self _))
                have hBbn310_x17 := hBbn310_x17.chg hc76 ((disj_sym hDbn210_x17_bn310_x17) _ (List.mem_singleton_self _))
                have hC := hC.then hc76 (fun i hi => .inr (hNbn210_x17 i hi))
                have hBbn210_x17 := hB_
                exact An_fr [(0, .slice Aa0 a0.length ca0), (1, .slice Aa1 a1.length ca1), (4, .bool a4), (7, .pointer (some ⟨b1, 0, none⟩)), (11, .complex .f64 (((sizeS a0 a1 a2).1).re).bits (((sizeS a0 a1 a2).1).im).bits), (13, .int .i64 a2.Rows), (14, .int .i64 (1 + ((a3 % 65536) % (a2.Rows - 1)))), (15, .pointer (some ⟨bn210_x17, 0, none⟩)), (16, .pointer (some ⟨bn310_x17, 0, none⟩)), (60, .agg #[.int .i64 a2.Row, .int .i64 a2.Col, .int .i64 a2.Rows, .int .i64 a2.Cols])] rfl (hI10_x17_3 w75 bn210_x17 bn310_x17 hz hC hBb1 hBbn210_x17 hBbn310_x17 hNbn210_x17 hZbn210_x17 hNbn310_x17 hZbn310_x17 hDb1_bn210_x17 hDb1_bn310_x17 hDbn210_x17_bn310_x17)
            have hI10_x17_7 : ∀ (w26 : World) (bn210_x17 : Nat) (bn310_x17 : Nat) (hz : Sub z w26) (hC : Chg [] w w26) (hBb1 : Box w26 b1 30 [.int .i64 a2.Row, .int .i64 a2.Col, .int .i64 a2.Rows, .int .i64 a2.Cols]) (hBbn210_x17 : Box w26 bn210_x17 30 [.int .i64 0, .int .i64 0, .int .i64 0, .int .i64 0]) (hBbn310_x17 : Box w26 bn310_x17 30 [.int .i64 0, .int .i64 0, .int .i64 0, .int .i64 0]) (hNbn210_x17 : ∀ k ∈ [bn210_x17], w.heap.size ≤ k) (hZbn210_x17 : ∀ k ∈ [bn210_x17], z k = none) (hNbn310_x17 : ∀ k ∈ [bn310_x17], w.heap.size ≤ k) (hZbn310_x17 : ∀ k ∈ [bn310_x17], z k = none) (hDb1_bn210_x17 : ∀ k ∈ [b1], k ∉ [bn210_x17]) (hDb1_bn310_x17 : ∀ k ∈ [b1], k ∉ [bn310_x17]) (hDbn210_x17_bn310_x17 : ∀ k ∈ [bn210_x17], k ∉ [bn310_x17]), A_w15 3 #[false, true, true, true, false, false] [(0, .slice Aa0 a0.length ca0), (1, .slice Aa1 a1.length ca1), (4, .bool a4), (7, .pointer (some ⟨b1, 0, none⟩)), (11, .complex .f64 (((sizeS a0 a1 a2).1).re).bits (((sizeS a0 a1 a2).1).im).bits), (13, .int .i64 a2.Rows), (14, .int .i64 (1 + ((a3 % 65536) % (a2.Rows - 1)))), (15, .pointer (some ⟨bn210_x17, 0, none⟩)), (16, .pointer (some ⟨bn310_x17, 0, none⟩)), (61, .agg #[.int .i64 a2.Row, .int .i64 a2.Col, .int .i64 a2.Rows, .int .i64 a2.Cols])] w26 := by
              intro w26 bn210_x17 bn310_x17 hz hC hBb1 hBbn210_x17 hBbn310_x17 hNbn210_x17 hZbn210_x17 hNbn310_x17 hZbn310_x17 hDb1_bn210_x17 hDb1_bn310_x17 hDbn210_x17_bn310_x17
              refine An_any [0] (by decide +kernel) (by decide) (List.forall_mem_cons.2 ⟨?_, (fun _ h => by cases h)⟩)
              · refine ⟨_, rfl, by decide, ?_⟩
                refine Sv_val rfl (R_loadN (cs := [.int .i64 a2.Row, .int .i64 a2.Col, .int .i64 a2.Rows, .int .i64 a2.Cols]) rfl rfl agg30 size30 rfl (boxcells hBb1 0 rfl)) ?_
                exact An_fr [(0, .slice Aa0 a0.length ca0), (1, .slice Aa1 a1.length ca1), (4, .bool a4), (7, .pointer (some ⟨b1, 0, none⟩)), (11, .complex .f64 (((sizeS a0 a1 a2).1).re).bits (((sizeS a0 a1 a2).1).im).bits), (13, .int .i64 a2.Rows), (14, .int .i64 (1 + ((a3 % 65536) % (a2.Rows - 1)))), (15, .pointer (some ⟨bn210_x17, 0, none⟩)), (16, .pointer (some ⟨bn310_x17, 0, none⟩)), (60, .agg #[.int .i64 a2.Row, .int .i64 a2.Col, .int .i64 a2.Rows, .int .i64 a2.Cols]), (61, .agg #[.int .i64 a2.Row, .int .i64 a2.Col, .int .i64 a2.Rows, .int .i64 a2.Cols])] rfl (hI10_x17_2 w26 bn210_x17 bn310_x17 hz hC hBb1 hBbn210_x17 hBbn310_x17 hNbn210_x17 hZbn210_x17 hNbn310_x17 hZbn310_x17 hDb1_bn210_x17 hDb1_bn310_x17 hDbn210_x17_bn310_x17)
            have hI10_x17_8 : ∀ (w15 : World) (hz : Sub z w15) (hC : Chg [] w w15) (hBb1 : Box w15 b1 30 [.int .i64 a2.Row, .int .i64 a2.Col, .int .i64 a2.Rows, .int .i64 a2.Cols]), A_w15 4 #[true, true, false, false, false, false] [(0, .slice Aa0 a0.length ca0), (1, .slice Aa1 a1.length ca1), (4, .bool a4), (7, .pointer (some ⟨b1, 0, none⟩)), (11, .complex .f64 (((sizeS a0 a1 a2).1).re).bits (((sizeS a0 a1 a2).1).im).bits), (13, .int .i64 a2.Rows), (14, .int .i64 (1 + ((a3 % 65536) % (a2.Rows - 1)))), (60, .agg #[.int .i64 a2.Row, .int .i64 a2.Col, .int .i64 a2.Rows, .int .i64 a2.Cols]), (61, .agg #[.int .i64 a2.Row, .int .i64 a2.Col, .int .i64 a2.Rows, .int .i64 a2.Cols])] w15 := by
              intro w15 hz hC hBb1
              refine An_any [2, 3] (by decide +kernel) (by decide) (List.forall_mem_cons.2 ⟨?_, (List.forall_mem_cons.2 ⟨?_, (fun _ h => by cases h)⟩)⟩)
              · refine ⟨_, rfl, by decide, ?_⟩
                refine Sv_box rfl (R_alloc rfl alloc30) (fun bn210_x17 w77 hcbn210_x17 hnbn210_x17 hBbn210_x17 => ?_)
                have hDb1_bn210_x17 : ∀ k ∈ [b1], k ∉ [bn210_x17] := disj_new (boxlt hBb1) (boxbase hnbn210_x17)
                have hZbn210_x17 : ∀ k ∈ [bn210_x17], z k = none := fresh_z hz (boxbase hnbn210_x17)
                have hNbn210_x17 : ∀ k ∈ [bn210_x17], w.heap.size ≤ k := newC (boxbase hnbn210_x17) hC.size
                have hz := hz.chg0 hcbn210_x17
                have hBb1 := hBb1.chg0 hcbn210_x17
                have hC := hC.then hcbn210_x17 (by simp)
                exact An_fr [(0, .slice Aa0 a0.length ca0), (1, .slice Aa1 a1.length ca1), (4, .bool a4), (7, .pointer (some ⟨b1, 0, none⟩)), (11, .complex .f64 (((sizeS a0 a1 a2).1).re).bits (((sizeS a0 a1 a2).1).im).bits), (13, .int .i64 a2.Rows), (14, .int .i64 (1 + ((a3 % 65536) % (a2.Rows - 1)))), (15, .pointer (some ⟨bn210_x17, 0, none⟩)), (60, .agg #[.int .i64 a2.Row, .int .i64 a2.Col, .int .i64 a2.Rows, .int .i64 a2.Cols]), (61, .agg #[.int .i64 a2.Row, .int .i64 a2.Col, .int .i64 a2.Rows, .int .i64 a2.Cols])] rfl (hI10_x17_4 w77 bn210_x17 hz hC hBb1 hBbn210_x17 hNbn210_x17 hZbn210_x17 hDb1_bn210_x17)
              · refine ⟨_, rfl, by decide, ?_⟩
                refine Sv_box rfl (R_alloc rfl alloc30) (fun bn310_x17 w78 hcbn310_x17 hnbn310_x17 hBbn310_x17 => ?_)
                have hDb1_bn310_x17 : ∀ k ∈ [b1], k ∉ [bn310_x17] := disj_new (boxlt hBb1) (boxbase hnbn310_x17)
                have hZbn310_x17 : ∀ k ∈ [bn310_x17], z k = none := fresh_z hz (boxbase hnbn310_x17)
                have hNbn310_x17 : ∀ k ∈ [bn310_x17], w.heap.size ≤ k := newC (boxbase hnbn310_x17) hC.size
                have hz := hz.chg0 hcbn310_x17
                have hBb1 := hBb1.chg0 hcbn310_x17
                have hC := hC.then hcbn310_x17 (by simp)
                exact An_fr [(0, .slice Aa0 a0.length ca0), (1, .slice Aa1 a1.length ca1), (4, .bool a4), (7, .pointer (some ⟨b1, 0, none⟩)), (11, .complex .f64 (((sizeS a0 a1 a2).1).re).bits (((sizeS a0 a1 a2).1).im).bits), (13, .int .i64 a2.Rows), (14, .int .i64 (1 + ((a3 % 65536) % (a2.Rows - 1)))), (16, .pointer (some ⟨bn310_x17, 0, none⟩)), (60, .agg #[.int .i64 a2.Row, .int .i64 a2.Col, .int .i64 a2.Rows, .int .i64 a2.Cols]), (61, .agg #[.int .i64 a2.Row, .int .i64 a2.Col, .int .i64 a2.Rows, .int .i64 a2.Cols])] rfl (hI10_x17_5 w78 bn310_x17 hz hC hBb1 hBbn310_x17 hNbn310_x17 hZbn310_x17 hDb1_bn310_x17)
            have hI10_x17_9 : ∀ (w22 : World) (bn210_x17 : Nat) (hz : Sub z w22) (hC : Chg [] w w22) (hBb1 : Box w22 b1 30 [.int .i64 a2.Row, .int .i64 a2.Col, .int .i64 a2.Rows, .int .i64 a2.Cols]) (hBbn210_x17 : Box w22 bn210_x17 30 [.int .i64 0, .int .i64 0, .int .i64 0, .int .i64 0]) (hNbn210_x17 : ∀ k ∈ [bn210_x17], w.heap.size ≤ k) (hZbn210_x17 : ∀ k ∈ [bn210_x17], z k = none) (hDb1_bn210_x17 : ∀ k ∈ [b1], k ∉ [bn210_x17]), A_w15 4 #[true, false, true, false, false, false] [(0, .slice Aa0 a0.length ca0), (1, .slice Aa1 a1.length ca1), (4, .bool a4), (7, .pointer (some ⟨b1, 0, none⟩)), (11, .complex .f64 (((sizeS a0 a1 a2).1).re).bits (((sizeS a0 a1 a2).1).im).bits), (13, .int .i64 a2.Rows), (14, .int .i64 (1 + ((a3 % 65536) % (a2.Rows - 1)))), (15, .pointer (some ⟨bn210_x17, 0, none⟩)), (60, .agg #[.int .i64 a2.Row, .int .i64 a2.Col, .int .i64 a2.Rows, .int .i64 a2.Cols])] w22 := by
              intro w22 bn210_x17 hz hC hBb1 hBbn210_x17 hNbn210_x17 hZbn210_x17 hDb1_bn210_x17
              refine An_any [1, 3] (by decide +kernel) (by decide) (List.forall_mem_cons.2 ⟨?_, (List.forall_mem_cons.2 ⟨?_, (fun _ h => by cases h)⟩)⟩)
              · refine ⟨_, rfl, by decide, ?_⟩
                refine Sv_val rfl (R_loadN (cs := [.int .i64 a2.Row, .int .i64 a2.Col, .int .i64 a2.Rows, .int .i64 a2.Cols]) rfl rfl agg30 size30 rfl (boxcells hBb1 0 rfl)) ?_
                exact An_fr [(0, .slice Aa0 a0.length ca0), (1, .slice Aa1 a1.length ca1), (4, .bool a4), (7, .pointer (some ⟨b1, 0, none⟩)), (11, .complex .f64 (((sizeS a0 a1 a2).1).re).bits (((sizeS a0 a1 a2).1).im).bits), (13, .int .i64 a2.Rows), (14, .int .i64 (1 + ((a3 % 65536) % (a2.Rows - 1)))), (15, .pointer (some ⟨bn210_x17, 0, none⟩)), (60, .agg #[.int .i64 a2.Row, .int .i64 a2.Col, .int .i64 a2.Rows, .int .i64 a2.Cols]), (61, .agg #[.int .i64 a2.Row, .int .i64 a2.Col, .int .i64 a2.Rows, .int .i64 a2.Cols])] rfl (hI10_x17_4 w22 bn210_x17 hz hC hBb1 hBbn210_x17 hNbn210_x17 hZbn210_x17 hDb1_bn210_x17)
              · refine ⟨_, rfl, by decide, ?_⟩
                refine Sv_box rfl (R_alloc rfl alloc30) (fun bn310_x17 w79 hcbn310_x17 hnbn310_x17 hBbn310_x17 => ?_)
                have hDb1_bn310_x17 : ∀ k ∈ [b1], k ∉ [bn310_x17] := disj_new (boxlt hBb1) (boxbase hnbn310_x17)
                have hDbn210_x17_bn310_x17 : ∀ k ∈ [bn210_x17], k ∉ [bn310_x17] := disj_new (boxlt hBbn210_x17) (boxbase hnbn310_x17)
                have hZbn310_x17 : ∀ k ∈ [bn310_x17], z k = none := fresh_z hz (boxbase hnbn310_x17)
                have hNbn310_x17 : ∀ k ∈ [bn310_x17], w.heap.size ≤ k := newC (boxbase hnbn310_x17) hC.size
                have hz := hz.chg0 hcbn310_x17
                have hBb1 := hBb1.chg0 hcbn310_x17
                have hBbn210_x17 := hBbn210_x17.chg0 hcbn310_x17
                have hC := hC.then hcbn310_x17 (by simp)
                exact An_fr [(0, .slice Aa0 a0.length ca0), (1, .slice Aa1 a1.length ca1), (4, .bool a4), (7, .pointer (some ⟨b1, 0, none⟩)), (11, .complex .f64 (((sizeS a0 a1 a2).1).re).bits (((sizeS a0 a1 a2).1).im).bits), (13, .int .i64 a2.Rows), (14, .int .i64 (1 + ((a3 % 65536) % (a2.Rows - 1)))), (15, .pointer (some ⟨bn210_x17, 0, none⟩)), (16, .pointer (some ⟨bn310_x17, 0, none⟩)), (60, .agg #[.int .i64 a2.Row, .int .i64 a2.Col, .int .i64 a2.Rows, .int .i64 a2.Cols])] rfl (hI10_x17_6 w79 bn210_x17 bn310_x17 hz hC hBb1 hBbn210_x17 hBbn310_x17 hNbn210_x17 hZbn210_x17 hNbn310_x17 hZbn310_x17 hDb1_bn210_x17 hDb1_bn310_x17 hDbn210_x17_bn310_x17)
            have hI10_x17_10 : ∀ (w21 : World) (bn310_x17 : Nat) (hz : Sub z w21) (hC : Chg [] w w21) (hBb1 : Box w21 b1 30 [.int .i64 a2.Row, .int .i64 a2.Col, .int .i64 a2.Rows, .int .i64 a2.Cols]) (hBbn310_x17 : Box w21 bn310_x17 30 [.int .i64 0, .int .i64 0, .int .i64 0, .int .i64 0]) (hNbn310_x17 : ∀ k ∈ [bn310_x17], w.heap.size ≤ k) (hZbn310_x17 : ∀ k ∈ [bn310_x17], z k = none) (hDb1_bn310_x17 : ∀ k ∈ [b1], k ∉ [bn310_x17]), A_w15 4 #[true, false, false, true, false, false] [(0, .slice Aa0 a0.length ca0), (1, .slice Aa1 a1.length ca1), (4, .bool a4), (7, .pointer (some ⟨b1, 0, none⟩)), (11, .complex .f64 (((sizeS a0 a1 a2).1).re).bits (((sizeS a0 a1 a2).1).im).bits), (13, .int .i64 a2.Rows), (14, .int .i64 (1 + ((a3 % 65536) % (a2.Rows - 1)))), (16, .pointer (some ⟨bn310_x17, 0, none⟩)), (60, .agg #[.int .i64 a2.Row, .int .i64 a2.Col, .int .i64 a2.Rows, .int .i64 a2.Cols])] w21 := by
              intro w21 bn310_x17 hz hC hBb1 hBbn310_x17 hNbn310_x17 hZbn310_x17 hDb1_bn310_x17
              refine An_any [1, 2] (by decide +kernel) (by decide) (List.forall_mem_cons.2 ⟨?_, (List.forall_mem_cons.2 ⟨?_, (fun _ h => by cases h)⟩)⟩)
              · refine ⟨_, rfl, by decide, ?_⟩
                refine Sv_val rfl (R_loadN (cs := [.int .i64 a2.Row, .int .i64 a2.Col, .int .i64 a2.Rows, .int .i64 a2.Cols]) rfl rfl agg30 size30 rfl (boxcells hBb1 0 rfl)) ?_
                exact An_fr [(0, .slice Aa0 a0.length ca0), (1, .slice Aa1 a1.length ca1), (4, .bool a4), (7, .pointer (some ⟨b1, 0, none⟩)), (11, .complex .f64 (((sizeS a0 a1 a2).1).re).bits (((sizeS a0 a1 a2).1).im).bits), (13, .int .i64 a2.Rows), (14, .int .i64 (1 + ((a3 % 65536) % (a2.Rows - 1)))), (16, .pointer (some ⟨bn310_x17, 0, none⟩)), (60, .agg #[.int .i64 a2.Row, .int .i64 a2.Col, .int .i64 a2.Rows, .int .i64 a2.Cols]), (61, .agg #[.int .i64 a2.Row, .int .i64 a2.Col, .int .i64 a2.Rows, .int .i64 a2.Cols])] rfl (hI10_x17_5 w21 bn310_x17 hz hC hBb1 hBbn310_x17 hNbn310_x17 hZbn310_x17 hDb1_bn310_x17)
              · refine ⟨_, rfl, by decide, ?_⟩
                refine Sv_box rfl (R_alloc rfl alloc30) (fun bn210_x17 w80 hcbn210_x17 hnbn210_x17 hBbn210_x17 => ?_)
                have hDb1_bn210_x17 : ∀ k ∈ [b1], k ∉ [bn210_x17] := disj_new (boxlt hBb1) (boxbase hnbn210_x17)
                have hDbn310_x17_bn210_x17 : ∀ k ∈ [bn310_x17], k ∉ [bn210_x17] := disj_new (boxlt hBbn310_x17) (boxbase hnbn210_x17)
                have hZbn210_x17 : ∀ k ∈ [bn210_x17], z k = none := fresh_z hz (boxbase hnbn210_x17)
                have hNbn210_x17 : ∀ k ∈ [bn210_x17], w.heap.size ≤ k := newC (boxbase hnbn210_x17) hC.size
                have hz := hz.chg0 hcbn210_x17
                have hBb1 := hBb1.chg0 hcbn210_x17
                have hBbn310_x17 := hBbn310_x17.chg0 hcbn210_x17
                have hC := hC.then hcbn210_x17 (by simp)
                exact An_fr [(0, .slice Aa0 a0.length ca0), (1, .slice Aa1 a1.length ca1), (4, .bool a4), (7, .pointer (some ⟨b1, 0, none⟩)), (11, .complex .f64 (((sizeS a0 a1 a2).1).re).bits (((sizeS a0 a1 a2).1).im).bits), (13, .int .i64 a2.Rows), (14, .int .i64 (1 + ((a3 % 65536) % (a2.Rows - 1)))), (15, .pointer (some ⟨bn210_x17, 0, none⟩)), (16, .pointer (some ⟨bn310_x17, 0, none⟩)), (60, .agg #[.int .i64 a2.Row, .int .i64 a2.Col, .int .i64 a2.Rows, .int .i64 a2.Cols])] rfl (hI10_x17_6 w80 bn210_x17 bn310_x17 hz hC hBb1 hBbn210_x17 hBbn310_x17 hNbn210_x17 hZbn210_x17 hNbn310_x17 hZbn310_x17 hDb1_bn210_x17 hDb1_bn310_x17 (disj_sym hDbn310_x17_bn210_x17))
            have hI10_x17_11 : ∀ (w24 : World) (bn210_x17 : Nat) (hz : Sub z w24) (hC : Chg [] w w24) (hBb1 : Box w24 b1 30 [.int .i64 a2.Row, .int .i64 a2.Col, .int .i64 a2.Rows, .int .i64 a2.Cols]) (hBbn210_x17 : Box w24 bn210_x17 30 [.int .i64 0, .int .i64 0, .int .i64 0, .int .i64 0]) (hNbn210_x17 : ∀ k ∈ [bn210_x17], w.heap.size ≤ k) (hZbn210_x17 : ∀ k ∈ [bn210_x17], z k = none) (hDb1_bn210_x17 : ∀ k ∈ [b1], k ∉ [bn210_x17]), A_w15 4 #[false, true, true, false, false, false] [(0, .slice Aa0 a0.length ca0), (1, .slice Aa1 a1.length ca1), (4, .bool a4), (7, .pointer (some ⟨b1, 0, none⟩)), (11, .complex .f64 (((sizeS a0 a1 a2).1).re).bits (((sizeS a0 a1 a2).1).im).bits), (13, .int .i64 a2.Rows), (14, .int .i64 (1 + ((a3 % 65536) % (a2.Rows - 1)))), (15, .pointer (some ⟨bn210_x17, 0, none⟩)), (61, .agg #[.int .i64 a2.Row, .int .i64 a2.Col, .int .i64 a2.Rows, .int .i64 a2.Cols])] w24 := by
              intro w24 bn210_x17 hz hC hBb1 hBbn210_x17 hNbn210_x17 hZbn210_x17 hDb1_bn210_x17
              refine An_any [0, 3] (by decide +kernel) (by decide) (List.forall_mem_cons.2 ⟨?_, (List.forall_mem_cons.2 ⟨?_, (fun _ h => by cases h)⟩)⟩)
              · refine ⟨_, rfl, by decide, ?_⟩
                refine Sv_val rfl (R_loadN (cs := [.int .i64 a2.Row, .int .i64 a2.Col, .int .i64 a2.Rows, .int .i64 a2.Cols]) rfl rfl agg30 size30 rfl (boxcells hBb1 0 rfl)) ?_
                exact An_fr [(0, .slice Aa0 a0.length ca0), (1, .slice Aa1 a1.length ca1), (4, .bool a4), (7, .pointer (some ⟨b1, 0, none⟩)), (11, .complex .f64 (((sizeS a0 a1 a2).1).re).bits (((sizeS a0 a1 a2).1).im).bits), (13, .int .i64 a2.Rows), (14, .int .i64 (1 + ((a3 % 65536) % (a2.Rows - 1)))), (15, .pointer (some ⟨bn210_x17, 0, none⟩)), (60, .agg #[.int .i64 a2.Row, .int .i64 a2.Col, .int .i64 a2.Rows, .int .i64 a2.Cols]), (61, .agg #[.int .i64 a2.Row, .int .i64 a2.Col, .int .i64 a2.Rows, .int .i64 a2.Cols])] rfl (hI10_x17_4 w24 bn210_x17 hz hC hBb1 hBbn210_x17 hNbn210_x17 hZbn210_x17 hDb1_bn210_x17)
              · refine ⟨_, rfl, by decide, ?_⟩
                refine Sv_box rfl (R_alloc rfl alloc30) (fun bn310_x17 w81 hcbn310_x17 hnbn310_x17 hBbn310_x17 => ?_)
                have hDb1_bn310_x17 : ∀ k ∈ [b1], k ∉ [bn310_x17] := disj_new (boxlt hBb1) (boxbase hnbn310_x17)
                have hDbn210_x17_bn310_x17 : ∀ k ∈ [bn210_x17], k ∉ [bn310_x17] := disj_new (boxlt hBbn210_x17) (boxbase hnbn310_x17)
                have hZbn310_x17 : ∀ k ∈ [bn310_x17], z k = none := fresh_z hz (boxbase hnbn310_x17)
                have hNbn310_x17 : ∀ k ∈ [bn310_x17], w.heap.size ≤ k := newC (boxbase hnbn310_x17) hC.size
                have hz := hz.chg0 hcbn310_x17
                have hBb1 := hBb1.chg0 hcbn310_x17
                have hBbn210_x17 := hBbn210_x17.chg0 hcbn310_x17
                have hC := hC.then hcbn310_x17 (by simp)
                exact An_fr [(0, .slice Aa0 a0.length ca0), (1, .slice Aa1 a1.length ca1), (4, .bool a4), (7, .pointer (some ⟨b1, 0, none⟩)), (11, .complex .f64 (((sizeS a0 a1 a2).1).re).bits (((sizeS a0 a1 a2).1).im).bits), (13, .int .i64 a2.Rows), (14, .int .i64 (1 + ((a3 % 65536) % (a2.Rows - 1)))), (15, .pointer (some ⟨bn210_x17, 0, none⟩)), (16, .pointer (some ⟨bn310_x17, 0, none⟩)), (61, .agg #[.int .i64 a2.Row, .int .i64 a2.Col, .int .i64 a2.Rows, .int .i64 a2.Cols])] rfl (hI10_x17_7 w81 bn210_x17 bn310_x17 hz hC hBb1 hBbn210_x17 hBbn310_x17 hNbn210_x17 hZbn210_x17 hNbn310_x17 hZbn310_x17 hDb1_bn210_x17 hDb1_bn310_x17 hDbn210_x17_bn310_x17)
            have hI10_x17_12 : ∀ (w23 : World) (bn310_x17 : Nat) (hz : Sub z w23) (hC : Chg [] w w23) (hBb1 : Box w23 b1 30 [.int .i64 a2.Row, .int .i64 a2.Col, .int .i64 a2.Rows, .int .i64 a2.Cols]) (hBbn310_x17 : Box w23 bn310_x17 30 [.int .i64 0, .int .i64 0, .int .i64 0, .int .i64 0]) (hNbn310_x17 : ∀ k ∈ [bn310_x17], w.heap.size ≤ k) (hZbn310_x17 : ∀ k ∈ [bn310_x17], z k = none) (hDb1_bn310_x17 : ∀ k ∈ [b1], k ∉ [bn310_x17]), A_w15 4 #[false, true, false, true, false, false] [(0, .slice Aa0 a0.length ca0), (1, .slice Aa1 a1.length ca1), (4, .bool a4), (7, .pointer (some ⟨b1, 0, none⟩)), (11, .complex .f64 (((sizeS a0 a1 a2).1).re).bits (((sizeS a0 a1 a2).1).im).bits), (13, .int .i64 a2.Rows), (14, .int .i64 (1 + ((a3 % 65536) % (a2.Rows - 1)))), (16, .pointer (some ⟨bn310_x17, 0, none⟩)), (61, .agg #[.int .i64 a2.Row, .int .i64 a2.Col, .int .i64 a2.Rows, .int .i64 a2.Cols])] w23 := by
              intro w23 bn310_x17 hz hC hBb1 hBbn310_x17 hNbn310_x17 hZbn310_x17 hDb1_bn310_x17
              refine An_any [0, 2] (by decide +kernel) (by decide) (List.forall_mem_cons.2 ⟨?_, (List.forall_mem_cons.2 ⟨?_, (fun _ h => by cases h)⟩)⟩)
              · refine ⟨_, rfl, by decide, ?_⟩
                refine Sv_val rfl (R_loadN (cs := [.int .i64 a2.Row, .int .i64 a2.Col, .int .i64 a2.Rows, .int .i64 a2.Cols]) rfl rfl agg30 size30 rfl (boxcells hBb1 0 rfl)) ?_
                exact An_fr [(0, .slice Aa0 a0.length ca0), (1, .slice Aa1 a1.length ca1), (4, .bool a4), (7, .pointer (some ⟨b1, 0, none⟩)), (11, .complex .f64 (((sizeS a0 a1 a2).1).re).bits (((sizeS a0 a1 a2).1).im).bits), (13, .int .i64 a2.Rows), (14, .int .i64 (1 + ((a3 % 65536) % (a2.Rows - 1)))), (16, .pointer (some ⟨bn310_x17, 0, none⟩)), (60, .agg #[.int .i64 a2.Row, .int .i64 a2.Col, .int .i64 a2.Rows, .int .i64 a2.Cols]), (61, .agg #[.int .i64 a2.Row, .int .i64 a2.Col, .int .i64 a2.Rows, .int .i64 a2.Cols])] rfl (hI10_x17_5 w23 bn310_x17 hz hC hBb1 hBbn310_x17 hNbn310_x17 hZbn310_x17 hDb1_bn310_x17)
              · refine ⟨_, rfl, by decide, ?_⟩
                refine Sv_box rfl (R_alloc rfl alloc30) (fun bn210_x17 w82 hcbn210_x17 hnbn210_x17 hBbn210_x17 => ?_)
                have hDb1_bn210_x17 : ∀ k ∈ [b1], k ∉ [bn210_x17] := disj_new (boxlt hBb1) (boxbase hnbn210_x17)
                have hDbn310_x17_bn210_x17 : ∀ k ∈ [bn310_x17], k ∉ [bn210_x17] := disj_new (boxlt hBbn310_x17) (boxbase hnbn210_x17)
                have hZbn210_x17 : ∀ k ∈ [bn210_x17], z k = none := fresh_z hz (boxbase hnbn210_x17)
                have hNbn210_x17 : ∀ k ∈ [bn210_x17], w.heap.size ≤ k := newC (boxbase hnbn210_x17) hC.size
                have hz := hz.chg0 hcbn210_x17
                have hBb1 := hBb1.chg0 hcbn210_x17
                have hBbn310_x17 := hBbn310_x17.chg0 hcbn210_x17
                have hC := hC.then hcbn210_x17 (by simp)
                exact An_fr [(0, .slice Aa0 a0.length ca0), (1, .slice Aa1 a1.length ca1), (4, .bool a4), (7, .pointer (some ⟨b1, 0, none⟩)), (11, .complex .f64 (((sizeS a0 a1 a2).1).re).bits (((sizeS a0 a1 a2).1).im).bits), (13, .int .i64 a2.Rows), (14, .int .i64 (1 + ((a3 % 65536) % (a2.Rows - 1)))), (15, .pointer (some ⟨bn210_x17, 0, none⟩)), (16, .pointer (some ⟨bn310_x17, 0, none⟩)), (61, .agg #[.int .i64 a2.Row, .int .i64 a2.Col, .int .i64 a2.Rows, .int .i64 a2.Cols])] rfl (hI10_x17_7 w82 bn210_x17 bn310_x17 hz hC hBb1 hBbn210_x17 hBbn310_x17 hNbn210_x17 hZbn210_x17 hNbn310_x17 hZbn310_x17 hDb1_bn210_x17 hDb1_bn310_x17 (disj_sym hDbn310_x17_bn210_x17))
            have hI10_x17_13 : ∀ (w20 : World) (bn210_x17 : Nat) (bn310_x17 : Nat) (hz : Sub z w20) (hC : Chg [] w w20) (hBb1 : Box w20 b1 30 [.int .i64 a2.Row, .int .i64 a2.Col, .int .i64 a2.Rows, .int .i64 a2.Cols]) (hBbn210_x17 : Box w20 bn210_x17 30 [.int .i64 0, .int .i64 0, .int .i64 0, .int .i64 0]) (hBbn310_x17 : Box w20 bn310_x17 30 [.int .i64 0, .int .i64 0, .int .i64 0, .int .i64 0]) (hNbn210_x17 : ∀ k ∈ [bn210_x17], w.heap.size ≤ k) (hZbn210_x17 : ∀ k ∈ [bn210_x17], z k = none) (hNbn310_x17 : ∀ k ∈ [bn310_x17], w.heap.size ≤ k) (hZbn310_x17 : ∀ k ∈ [bn310_x17], z k = none) (hDb1_bn210_x17 : ∀ k ∈ [b1], k ∉ [bn210_x17]) (hDb1_bn310_x17 : ∀ k ∈ [b1], k ∉ [bn310_x17]) (hDbn210_x17_bn310_x17 : ∀ k ∈ [bn210_x17], k ∉ [bn310_x17]), A_w15 4 #[false, false, true, true, false, false] [(0, .slice Aa0 a0.length ca0), (1, .slice Aa1 a1.length ca1), (4, .bool a4), (7, .pointer (some ⟨b1, 0, none⟩)), (11, .complex .f64 (((sizeS a0 a1 a2).1).re).bits (((sizeS a0 a1 a2).1).im).bits), (13, .int .i64 a2.Rows), (14, .int .i64 (1 + ((a3 % 65536) % (a2.Rows - 1)))), (15, .pointer (some ⟨bn210_x17, 0, none⟩)), (16, .pointer (some ⟨bn310_x17, 0, none⟩))] w20 := by
              intro w20 bn210_x17 bn310_x17 hz hC hBb1 hBbn210_x17 hBbn310_x17 hNbn210_x17 hZbn210_x17 hNbn310_x17 hZbn310_x17 hDb1_bn210_x17 hDb1_bn310_x17 hDbn210_x17_bn310_x17
              refine An_any [0, 1] (by decide +kernel) (by decide) (List.forall_mem_cons.2 ⟨?_, (List.forall_mem_cons.2 ⟨?_, (fun _ h => by cases h)⟩)⟩)
              · refine ⟨_, rfl, by decide, ?_⟩
                refine Sv_val rfl (R_loadN (cs := [.int .i64 a2.Row, .int .i64 a2.Col, .int .i64 a2.Rows, .int .i64 a2.Cols]) rfl rfl agg30 size30 rfl (boxcells hBb1 0 rfl)) ?_
                exact An_fr [(0, .slice Aa0 a0.length ca0), (1, .slice Aa1 a1.length ca1), (4, .bool a4), (7, .pointer (some ⟨b1, 0, none⟩)), (11, .complex .f64 (((sizeS a0 a1 a2).1).re).bits (((sizeS a0 a1 a2).1).im).bits), (13, .int .i64 a2.Rows), (14, .int .i64 (1 + ((a3 % 65536) % (a2.Rows - 1)))), (15, .pointer (some ⟨bn210_x17, 0, none⟩)), (16, .pointer (some ⟨bn310_x17, 0, none⟩)), (60, .agg #[.int .i64 a2.Row, .int .i64 a2.Col, .int .i64 a2.Rows, .int .i64 a2.Cols])] rfl (hI10_x17_6 w20 bn210_x17 bn310_x17 hz hC hBb1 hBbn210_x17 hBbn310_x17 hNbn210_x17 hZbn210_x17 hNbn310_x17 hZbn310_x17 hDb1_bn210_x17 hDb1_bn310_x17 hDbn210_x17_bn310_x17)
              · refine ⟨_, rfl, by decide, ?_⟩
                refine Sv_val rfl (R_loadN (cs := [.int .i64 a2.Row, .int .i64 a2.Col, .int .i64 a2.Rows, .int .i64 a2.Cols]) rfl rfl agg30 size30 rfl (boxcells hBb1 0 rfl)) ?_
                exact An_fr [(0, .slice Aa0 a0.length ca0), (1, .slice Aa1 a1.length ca1), (4, .bool a4), (7, .pointer (some ⟨b1, 0, none⟩)), (11, .complex .f64 (((sizeS a0 a1 a2).1).re).bits (((sizeS a0 a1 a2).1).im).bits), (13, .int .i64 a2.Rows), (14, .int .i64 (1 + ((a3 % 65536) % (a2.Rows - 1)))), (15, .pointer (some ⟨bn210_x17, 0, none⟩)), (16, .pointer (some ⟨bn310_x17, 0, none⟩)), (61, .agg #[.int .i64 a2.Row, .int .i64 a2.Col, .int .i64 a2.Rows, .int .i64 a2.Cols])] rfl (hI10_x17_7 w20 bn210_x17 bn310_x17 hz hC hBb1 hBbn210_x17 hBbn310_x17 hNbn210_x17 hZbn210_x17 hNbn310_x17 hZbn310_x17 hDb1_bn210_x17 hDb1_bn310_x17 hDbn210_x17_bn310_x17)
            have hI10_x17_14 : ∀ (w15 : World) (hz : Sub z w15) (hC : Chg [] w w15) (hBb1 : Box w15 b1 30 [.int .i64 a2.Row, .int .i64 a2.Col, .int .i64 a2.Rows, .int .i64 a2.Cols]), A_w15 5 #[true, false, false, false, false, false] [(0, .slice Aa0 a0.length ca0), (1, .slice Aa1 a1.length ca1), (4, .bool a4), (7, .pointer (some ⟨b1, 0, none⟩)), (11, .complex .f64 (((sizeS a0 a1 a2).1).re).bits (((sizeS a0 a1 a2).1).im).bits), (13, .int .i64 a2.Rows), (14, .int .i64 (1 + ((a3 % 65536) % (a2.Rows - 1)))), (60, .agg #[.int .i64 a2.Row, .int .i64 a2.Col, .int .i64 a2.Rows, .int .i64 a2.Cols])] w15 := by
              intro w15 hz hC hBb1
              refine An_any [1, 2, 3] (by decide +kernel) (by decide) (List.forall_mem_cons.2 ⟨?_, (List.forall_mem_cons.2 ⟨?_, (List.forall_mem_cons.2 ⟨?_, (fun _ h => by cases h)⟩)⟩)⟩)
              · refine ⟨_, rfl, by decide, ?_⟩
                refine Sv_val rfl (R_loadN (cs := [.int .i64 a2.Row, .int .i64 a2.Col, .int .i64 a2.Rows, .int .i64 a2.Cols]) rfl rfl agg30 size30 rfl (boxcells hBb1 0 rfl)) ?_
                exact An_fr [(0, .slice Aa0 a0.length ca0), (1, .slice Aa1 a1.length ca1), (4, .bool a4), (7, .pointer (some ⟨b1, 0, none⟩)), (11, .complex .f64 (((sizeS a0 a1 a2).1).re).bits (((sizeS a0 a1 a2).1).im).bits), (13, .int .i64 a2.Rows), (14, .int .i64 (1 + ((a3 % 65536) % (a2.Rows - 1)))), (60, .agg #[.int .i64 a2.Row, .int .i64 a2.Col, .int .i64 a2.Rows, .int .i64 a2.Cols]), (61, .agg #[.int .i64 a2.Row, .int .i64 a2.Col, .int .i64 a2.Rows, .int .i64 a2.Cols])] rfl (hI10_x17_8 w15 hz hC hBb1)
              · refine ⟨_, rfl, by decide, ?_⟩
                refine Sv_box rfl (R_alloc rfl alloc30) (fun bn210_x17 w83 hcbn210_x17 hnbn210_x17 hBbn210_x17 => ?_)
                have hDb1_bn210_x17 : ∀ k ∈ [b1], k ∉ [bn210_x17] := disj_new (boxlt hBb1) (boxbase hnbn210_x17)
                have hZbn210_x17 : ∀ k ∈ [bn210_x17], z k = none := fresh_z hz (boxbase hnbn210_x17)
                have hNbn210_x17 : ∀ k ∈ [bn210_x17], w.heap.size ≤ k := newC (boxbase hnbn210_x17) hC.size
                have hz := hz.chg0 hcbn210_x17
                have hBb1 := hBb1.chg0 hcbn210_x17
                have hC := hC.then hcbn210_x17 (by simp)
                exact An_fr [(0, .slice Aa0 a0.length ca0), (1, .slice Aa1 a1.length ca1), (4, .bool a4), (7, .pointer (some ⟨b1, 0, none⟩)), (11, .complex .f64 (((sizeS a0 a1 a2).1).re).bits (((sizeS a0 a1 a2).1).im).bits), (13, .int .i64 a2.Rows), (14, .int .i64 (1 + ((a3 % 65536) % (a2.Rows - 1)))), (15, .pointer (some ⟨bn210_x17, 0, none⟩)), (60, .agg #[.int .i64 a2.Row, .int .i64 a2.Col, .int .i64 a2.Rows, .int .i64 a2.Cols])] rfl (hI10_x17_9 w83 bn210_x17 hz hC hBb1 hBbn210_x17 hNbn210_x17 hZbn210_x17 hDb1_bn210_x17)
              · refine ⟨_, rfl, by decide, ?_⟩
                refine Sv_box rfl (R_alloc rfl alloc30) (fun bn310_x17 w84 hcbn310_x17 hnbn310_x17 hBbn310_x17 => ?_)
                have hDb1_bn310_x17 : ∀ k ∈ [b1], k ∉ [bn310_x17] := disj_new (boxlt hBb1) (boxbase hnbn310_x17)
                have hZbn310_x17 : ∀ k ∈ [bn310_x17], z k = none := fresh_z hz (boxbase hnbn310_x17)
                have hNbn310_x17 : ∀ k ∈ [bn310_x17], w.heap.size ≤ k := newC (boxbase hnbn310_x17) hC.size
                have hz := hz.chg0 hcbn310_x17
                have hBb1 := hBb1.chg0 hcbn310_x17
                have hC := hC.then hcbn310_x17 (by simp)
                exact An_fr [(0, .slice Aa0 a0.length ca0), (1, .slice Aa1 a1.length ca1), (4, .bool a4), (7, .pointer (some ⟨b1, 0, none⟩)), (11, .complex .f64 (((sizeS a0 a1 a2).1).re).bits (((sizeS a0 a1 a2).1).im).bits), (13, .int .i64 a2.Rows), (14, .int .i64 (1 + ((a3 % 65536) % (a2.Rows - 1)))), (16, .pointer (some ⟨bn310_x17, 0, none⟩)), (60, .agg #[.int .i64 a2.Row, .int .i64 a2.Col, .int .i64 a2.Rows, .int .i64 a2.Cols])] rfl (hI10_x17_10 w84 bn310_x17 hz hC hBb1 hBbn310_x17 hNbn310_x17 hZbn310_x17 hDb1_bn310_x17)
            have hI10_x17_15 : ∀ (w15 : World) (hz : Sub z w15) (hC : Chg [] w w15) (hBb1 : Box w15 b1 30 [.int .i64 a2.Row, .int .i64 a2.Col, .int .i64 a2.Rows, .int .i64 a2.Cols]), A_w15 5 #[false, true, false, false, false, false] [(0, .slice Aa0 a0.length ca0), (1, .slice Aa1 a1.length ca1), (4, .bool a4), (7, .pointer (some ⟨b1, 0, none⟩)), (11, .complex .f64 (((sizeS a0 a1 a2).1).re).bits (((sizeS a0 a1 a2).1).im).bits), (13, .int .i64 a2.Rows), (14, .int .i64 (1 + ((a3 % 65536) % (a2.Rows - 1)))), (61, .agg #[.int .i64 a2.Row, .int .i64 a2.Col, .int .i64 a2.Rows, .int .i64 a2.Cols])] w15 := by
              intro w15 hz hC hBb1
              refine An_any [0, 2, 3] (by decide +kernel) (by decide) (List.forall_mem_cons.2 ⟨?_, (List.forall_mem_cons.2 ⟨?_, (List.forall_mem_cons.2 ⟨?_, (fun _ h => by cases h)⟩)⟩)⟩)
              · refine ⟨_, rfl, by decide, ?_⟩
                refine Sv_val rfl (R_loadN (cs := [.int .i64 a2.Row, .int .i64 a2.Col, .int .i64 a2.Rows, .int .i64 a2.Cols]) rfl rfl agg30 size30 rfl (boxcells hBb1 0 rfl)) ?_
                exact An_fr [(0, .slice Aa0 a0.length ca0), (1, .slice Aa1 a1.length ca1), (4, .bool a4), (7, .pointer (some ⟨b1, 0, none⟩)), (11, .complex .f64 (((sizeS a0 a1 a2).1).re).bits (((sizeS a0 a1 a2).1).im).bits), (13, .int .i64 a2.Rows), (14, .int .i64 (1 + ((a3 % 65536) % (a2.Rows - 1)))), (60, .agg #[.int .i64 a2.Row, .int .i64 a2.Col, .int .i64 a2.Rows, .int .i64 a2.Cols]), (61, .agg #[.int .i64 a2.Row, .int .i64 a2.Col, .int .i64 a2.Rows, .int .i64 a2.Cols])] rfl (hI10_x17_8 w15 hz hC hBb1)
              · refine ⟨_, rfl, by decide, ?_⟩
                refine Sv_box rfl (R_alloc rfl alloc30) (fun bn210_x17 w85 hcbn210_x17 hnbn210_x17 hBbn210_x17 => ?_)
                have hDb1_bn210_x17 : ∀ k ∈ [b1], k ∉ [bn210_x17] := disj_new (boxlt hBb1) (boxbase hnbn210_x17)
                have hZbn210_x17 : ∀ k ∈ [bn210_x17], z k = none := fresh_z hz (boxbase hnbn210_x17)
                have hNbn210_x17 : ∀ k ∈ [bn210_x17], w.heap.size ≤ k := newC (boxbase hnbn210_x17) hC.size
                have hz := hz.chg0 hcbn210_x17
                have hBb1 := hBb1.chg0 hcbn210_x17
                have hC := hC.then hcbn210_x17 (by simp)
                exact An_fr [(0, .slice Aa0 a0.length ca0), (1, .slice Aa1 a1.length ca1), (4, .bool a4), (7, .pointer (some ⟨b1, 0, none⟩)), (11, .complex .f64 (((sizeS a0 a1 a2).1).re).bits (((sizeS a0 a1 a2).1).im).bits), (13, .int .i64 a2.Rows), (14, .int .i64 (1 + ((a3 % 65536) % (a2.Rows - 1)))), (15, .pointer (some ⟨bn210_x17, 0, none⟩)), (61, .agg #[.int .i64 a2.Row, .int .i64 a2.Col, .int .i64 a2.Rows, .int .i64 a2.Cols])] rfl (hI10_x17_11 w85 bn210_x17 hz hC hBb1 hBbn210_x17 hNbn210_x17 hZbn210_x17 hDb1_bn210_x17)
              · refine ⟨_, rfl, by decide, ?_⟩
                refine Sv_box rfl (R_alloc rfl alloc30) (fun bn310_x17 w86 hcbn310_x17 hnbn310_x17 hBbn310_x17 => ?_)
                have hDb1_bn310_x17 : ∀ k ∈ [b1], k ∉ [bn310_x17] := disj_new (boxlt hBb1) (boxbase hnbn310_x17)
                have hZbn310_x17 : ∀ k ∈ [bn310_x17], z k = none := fresh_z hz (boxbase hnbn310_x17)
                have hNbn310_x17 : ∀ k ∈ [bn310_x17], w.heap.size ≤ k := newC (boxbase hnbn310_x17) hC.size
                have hz := hz.chg0 hcbn310_x17
                have hBb1 := hBb1.chg0 hcbn310_x17
                have hC := hC.then hcbn310_x17 (by simp)
                exact An_fr [(0, .slice Aa0 a0.length ca0), (1, .slice Aa1 a1.length ca1), (4, .bool a4), (7, .pointer (some ⟨b1, 0, none⟩)), (11, .complex .f64 (((sizeS a0 a1 a2).1).re).bits (((sizeS a0 a1 a2).1).im).bits), (13, .int .i64 a2.Rows), (14, .int .i64 (1 + ((a3 % 65536) % (a2.Rows - 1)))), (16, .pointer (some ⟨bn310_x17, 0, none⟩)), (61, .agg #[.int .i64 a2.Row, .int .i64 a2.Col, .int .i64 a2.Rows, .int .i64 a2.Cols])] rfl (hI10_x17_12 w86 bn310_x17 hz hC hBb1 hBbn310_x17 hNbn310_x17 hZbn310_x17 hDb1_bn310_x17)
            have hI10_x17_16 : ∀ (w18 : World) (bn210_x17 : Nat) (hz : Sub z w18) (hC : Chg [] w w18) (hBb1 : Box w18 b1 30 [.int .i64 a2.Row, .int .i64 a2.Col, .int .i64 a2.Rows, .int .i64 a2.Cols]) (hBbn210_x17 : Box w18 bn210_x17 30 [.int .i64 0, .int .i64 0, .int .i64 0, .int .i64 0]) (hNbn210_x17 : ∀ k ∈ [bn210_x17], w.heap.size ≤ k) (hZbn210_x17 : ∀ k ∈ [bn210_x17], z k = none) (hDb1_bn210_x17 : ∀ k ∈ [b1], k ∉ [bn210_x17]), A_w15 5 #[false, false, true, false, false, false] [(0, .slice Aa0 a0.length ca0), (1, .slice Aa1 a1.length ca1), (4, .bool a4), (7, .pointer (some ⟨b1, 0, none⟩)), (11, .complex .f64 (((sizeS a0 a1 a2).1).re).bits (((sizeS a0 a1 a2).1).im).bits), (13, .int .i64 a2.Rows), (14, .int .i64 (1 + ((a3 % 65536) % (a2.Rows - 1)))), (15, .pointer (some ⟨bn210_x17, 0, none⟩))] w18 := by
              intro w18 bn210_x17 hz hC hBb1 hBbn210_x17 hNbn210_x17 hZbn210_x17 hDb1_bn210_x17
              refine An_any [0, 1, 3] (by decide +kernel) (by decide) (List.forall_mem_cons.2 ⟨?_, (List.forall_mem_cons.2 ⟨?_, (List.forall_mem_cons.2 ⟨?_, (fun _ h => by cases h)⟩)⟩)⟩)
              · refine ⟨_, rfl, by decide, ?_⟩
                refine Sv_val rfl (R_loadN (cs := [.int .i64 a2.Row, .int .i64 a2.Col, .int .i64 a2.Rows, .int .i64 a2.Cols]) rfl rfl agg30 size30 rfl (boxcells hBb1 0 rfl)) ?_
                exact An_fr [(0, .slice Aa0 a0.length ca0), (1, .slice Aa1 a1.length ca1), (4, .bool a4), (7, .pointer (some ⟨b1, 0, none⟩)), (11, .complex .f64 (((sizeS a0 a1 a2).1).re).bits (((sizeS a0 a1 a2).1).im).bits), (13, .int .i64 a2.Rows), (14, .int .i64 (1 + ((a3 % 65536) % (a2.Rows - 1)))), (15, .pointer (some ⟨bn210_x17, 0, none⟩)), (60, .agg #[.int .i64 a2.Row, .int .i64 a2.Col, .int .i64 a2.Rows, .int .i64 a2.Cols])] rfl (hI10_x17_9 w18 bn210_x17 hz hC hBb1 hBbn210_x17 hNbn210_x17 hZbn210_x17 hDb1_bn210_x17)
              · refine ⟨_, rfl, by decide, ?_⟩
                refine Sv_val rfl (R_loadN (cs := [.int .i64 a2.Row, .int .i64 a2.Col, .int .i64 a2.Rows, .int .i64 a2.Cols]) rfl rfl agg30 size30 rfl (boxcells hBb1 0 rfl)) ?_
                exact An_fr [(0, .slice Aa0 a0.length ca0), (1, .slice Aa1 a1.length ca1), (4, .bool a4), (7, .pointer (some ⟨b1, 0, none⟩)), (11, .complex .f64 (((sizeS a0 a1 a2).1).re).bits (((sizeS a0 a1 a2).1).im).bits), (13, .int .i64 a2.Rows), (14, .int .i64 (1 + ((a3 % 65536) % (a2.Rows - 1)))), (15, .pointer (some ⟨bn210_x17, 0, none⟩)), (61, .agg #[.int .i64 a2.Row, .int .i64 a2.Col, .int .i64 a2.Rows, .int .i64 a2.Cols])] rfl (hI10_x17_11 w18 bn210_x17 hz hC hBb1 hBbn210_x17 hNbn210_x17 hZbn210_x17 hDb1_bn210_x17)
              · refine ⟨_, rfl, by decide, ?_⟩
                refine Sv_box rfl (R_alloc rfl alloc30) (fun bn310_x17 w87 hcbn310_x17 hnbn310_x17 hBbn310_x17 => ?_)
                have hDb1_bn310_x17 : ∀ k ∈ [b1], k ∉ [bn310_x17] := disj_new (boxlt hBb1) (boxbase hnbn310_x17)
                have hDbn210_x17_bn310_x17 : ∀ k ∈ [bn210_x17], k ∉ [bn310_x17] := disj_new (boxlt hBbn210_x17) (boxbase hnbn310_x17)
                have hZbn310_x17 : ∀ k ∈ [bn310_x17], z k = none := fresh_z hz (boxbase hnbn310_x17)
                have hNbn310_x17 : ∀ k ∈ [bn310_x17], w.heap.size ≤ k := newC (boxbase hnbn310_x17) hC.size
                have hz := hz.chg0 hcbn310_x17
                have hBb1 := hBb1.chg0 hcbn310_x17
                have hBbn210_x17 := hBbn210_x17.chg0 hcbn310_x17
                have hC := hC.then hcbn310_x17 (by simp)
                exact An_fr [(0, .slice Aa0 a0.length ca0), (1, .slice Aa1 a1.length ca1), (4, .bool a4), (7, .pointer (some ⟨b1, 0, none⟩)), (11, .complex .f64 (((sizeS a0 a1 a2).1).re).bits (((sizeS a0 a1 a2).1).im).bits), (13, .int .i64 a2.Rows), (14, .int .i64 (1 + ((a3 % 65536) % (a2.Rows - 1)))), (15, .pointer (some ⟨bn210_x17, 0, none⟩)), (16, .pointer (some ⟨bn310_x17, 0, none⟩))] rfl (hI10_x17_13 w87 bn210_x17 bn310_x17 hz hC hBb1 hBbn210_x17 hBbn310_x17 hNbn210_x17 hZbn210_x17 hNbn310_x17 hZbn310_x17 hDb1_bn210_x17 hDb1_bn310_x17 hDbn210_x17_bn310_x17)
            have hI10_x17_17 : ∀ (w19 : World) (bn310_x17 : Nat) (hz : Sub z w19) (hC : Chg [] w w19) (hBb1 : Box w19 b1 30 [.int .i64 a2.Row, .int .i64 a2.Col, .int .i64 a2.Rows, .int .i64 a2.Cols]) (hBbn310_x17 : Box w19 bn310_x17 30 [.int .i64 0, .int .i64 0, .int .i64 0, .int .i64 0]) (hNbn310_x17 : ∀ k ∈ [bn310_x17], w.heap.size ≤ k) (hZbn310_x17 : ∀ k ∈ [bn310_x17], z k = none) (hDb1_bn310_x17 : ∀ k ∈ [b1], k ∉ [bn310_x17]), A_w15 5 #[false, false, false, true, false, false] [(0, .slice Aa0 a0.length ca0), (1, .slice Aa1 a1.length ca1), (4, .bool a4), (7, .pointer (some ⟨b1, 0, none⟩)), (11, .complex .f64 (((sizeS a0 a1 a2).1).re).bits (((sizeS a0 a1 a2).1).im).bits), (13, .int .i64 a2.Rows), (14, .int .i64 (1 + ((a3 % 65536) % (a2.Rows - 1)))), (16, .pointer (some ⟨bn310_x17, 0, none⟩))] w19 := by
              intro w19 bn310_x17 hz hC hBb1 hBbn310_x17 hNbn310_x17 hZbn310_x17 hDb1_bn310_x17
              refine An_any [0, 1, 2] (by decide +kernel) (by decide) (List.forall_mem_cons.2 ⟨?_, (List.forall_mem_cons.2 ⟨?_, (List.forall_mem_cons.2 ⟨?_, (fun _ h => by cases h)⟩)⟩)⟩)
              · refine ⟨_, rfl, by decide, ?_⟩
                refine Sv_val rfl (R_loadN (cs := [.int .i64 a2.Row, .int .i64 a2.Col, .int .i64 a2.Rows, .int .i64 a2.Cols]) rfl rfl agg30 size30 rfl (boxcells hBb1 0 rfl)) ?_
                exact An_fr [(0, .slice Aa0 a0.length ca0), (1, .slice Aa1 a1.length ca1), (4, .bool a4), (7, .pointer (some ⟨b1, 0, none⟩)), (11, .complex .f64 (((sizeS a0 a1 a2).1).re).bits (((sizeS a0 a1 a2).1).im).bits), (13, .int .i64 a2.Rows), (14, .int .i64 (1 + ((a3 % 65536) % (a2.Rows - 1)))), (16, .pointer (some ⟨bn310_x17, 0, none⟩)), (60, .agg #[.int .i64 a2.Row, .int .i64 a2.Col, .int .i64 a2.Rows, .int .i64 a2.Cols])] rfl (hI10_x17_10 w19 bn310_x17 hz hC hBb1 hBbn310_x17 hNbn310_x17 hZbn310_x17 hDb1_bn310_x17)
              · refine ⟨_, rfl, by decide, ?_⟩
                refine Sv_val rfl (R_loadN (cs := [.int .i64 a2.Row, .int .i64 a2.Col, .int .i64 a2.Rows, .int .i64 a2.Cols]) rfl rfl agg30 size30 rfl (boxcells hBb1 0 rfl)) ?_
                exact An_fr [(0, .slice Aa0 a0.length ca0), (1, .slice Aa1 a1.length ca1), (4, .bool a4), (7, .pointer (some ⟨b1, 0, none⟩)), (11, .complex .f64 (((sizeS a0 a1 a2).1).re).bits (((sizeS a0 a1 a2).1).im).bits), (13, .int .i64 a2.Rows), (14, .int .i64 (1 + ((a3 % 65536) % (a2.Rows - 1)))), (16, .pointer (some ⟨bn310_x17, 0, none⟩)), (61, .agg #[.int .i64 a2.Row, .int .i64 a2.Col, .int .i64 a2.Rows, .int .i64 a2.Cols])] rfl (hI10_x17_12 w19 bn310_x17 hz hC hBb1 hBbn310_x17 hNbn310_x17 hZbn310_x17 hDb1_bn310_x17)
              · refine ⟨_, rfl, by decide, ?_⟩
                refine Sv_box rfl (R_alloc rfl alloc30) (fun bn210_x17 w88 hcbn210_x17 hnbn210_x17 hBbn210_x17 => ?_)
                have hDb1_bn210_x17 : ∀ k ∈ [b1], k ∉ [bn210_x17] := disj_new (boxlt hBb1) (boxbase hnbn210_x17)
                have hDbn310_x17_bn210_x17 : ∀ k ∈ [bn310_x17], k ∉ [bn210_x17] := disj_new (boxlt hBbn310_x17) (boxbase hnbn210_x17)
                have hZbn210_x17 : ∀ k ∈ [bn210_x17], z k = none := fresh_z hz (boxbase hnbn210_x17)
                have hNbn210_x17 : ∀ k ∈ [bn210_x17], w.heap.size ≤ k := newC (boxbase hnbn210_x17) hC.size
                have hz := hz.chg0 hcbn210_x17
                have hBb1 := hBb1.chg0 hcbn210_x17
                have hBbn310_x17 := hBbn310_x17.chg0 hcbn210_x17
                have hC := hC.then hcbn210_x17 (by simp)
                exact An_fr [(0, .slice Aa0 a0.length ca0), (1, .slice Aa1 a1.length ca1), (4, .bool a4), (7, .pointer (some ⟨b1, 0, none⟩)), (11, .complex .f64 (((sizeS a0 a1 a2).1).re).bits (((sizeS a0 a1 a2).1).im).bits), (13, .int .i64 a2.Rows), (14, .int .i64 (1 + ((a3 % 65536) % (a2.Rows - 1)))), (15, .pointer (some ⟨bn210_x17, 0, none⟩)), (16, .pointer (some ⟨bn310_x17, 0, none⟩))] rfl (hI10_x17_13 w88 bn210_x17 bn310_x17 hz hC hBb1 hBbn210_x17 hBbn310_x17 hNbn210_x17 hZbn210_x17 hNbn310_x17 hZbn310_x17 hDb1_bn210_x17 hDb1_bn310_x17 (disj_sym hDbn310_x17_bn210_x17))
            refine An_any [0, 1, 2, 3] (by decide +kernel) (by decide) (List.forall_mem_cons.2 ⟨?_, (List.forall_mem_cons.2 ⟨?_, (List.forall_mem_cons.2 ⟨?_, (List.forall_mem_cons.2 ⟨?_, (fun _ h => by cases h)⟩)⟩)⟩)⟩)
            · refine ⟨_, rfl, by decide, ?_⟩
              refine Sv_val rfl (R_loadN (cs := [.int .i64 a2.Row, .int .i64 a2.Col, .int .i64 a2.Rows, .int .i64 a2.Cols]) rfl rfl agg30 size30 rfl (boxcells hBb1 0 rfl)) ?_
              exact An_fr [(0, .slice Aa0 a0.length ca0), (1, .slice Aa1 a1.length ca1), (4, .bool a4), (7, .pointer (some ⟨b1, 0, none⟩)), (11, .complex .f64 (((sizeS a0 a1 a2).1).re).bits (((sizeS a0 a1 a2).1).im).bits), (13, .int .i64 a2.Rows), (14, .int .i64 (1 + ((a3 % 65536) % (a2.Rows - 1)))), (60, .agg #[.int .i64 a2.Row, .int .i64 a2.Col, .int .i64 a2.Rows, .int .i64 a2.Cols])] rfl (hI10_x17_14 w15 hz hC hBb1)
            · refine ⟨_, rfl, by decide, ?_⟩
              refine Sv_val rfl (R_loadN (cs := [.int .i64 a2.Row, .int .i64 a2.Col, .int .i64 a2.Rows, .int .i64 a2.Cols]) rfl rfl agg30 size30 rfl (boxcells hBb1 0 rfl)) ?_
              exact An_fr [(0, .slice Aa0 a0.length ca0), (1, .slice Aa1 a1.length ca1), (4, .bool a4), (7, .pointer (some ⟨b1, 0, none⟩)), (11, .complex .f64 (((sizeS a0 a1 a2).1).re).bits (((sizeS a0 a1 a2).1).im).bits), (13, .int .i64 a2.Rows), (14, .int .i64 (1 + ((a3 % 65536) % (a2.Rows - 1)))), (61, .agg #[.int .i64 a2.Row, .int .i64 a2.Col, .int .i64 a2.Rows, .int .i64 a2.Cols])] rfl (hI10_x17_15 w15 hz hC hBb1)
            · refine ⟨_, rfl, by decide, ?_⟩
              refine Sv_box rfl (R_alloc rfl alloc30) (fun bn210_x17 w89 hcbn210_x17 hnbn210_x17 hBbn210_x17 => ?_)
              have hDb1_bn210_x17 : ∀ k ∈ [b1], k ∉ [bn210_x17] := disj_new (boxlt hBb1) (boxbase hnbn210_x17)
              have hZbn210_x17 : ∀ k ∈ [bn210_x17], z k = none := fresh_z hz (boxbase hnbn210_x17)
              have hNbn210_x17 : ∀ k ∈ [bn210_x17], w.heap.size ≤ k := newC (boxbase hnbn210_x17) hC.size
              have hz := hz.chg0 hcbn210_x17
              have hBb1 := hBb1.chg0 hcbn210_x17
              have hC := hC.then hcbn210_x17 (by simp)
              exact An_fr [(0, .slice Aa0 a0.length ca0), (1, .slice Aa1 a1.length ca1), (4, .bool a4), (7, .pointer (some ⟨b1, 0, none⟩)), (11, .complex .f64 (((sizeS a0 a1 a2).1).re).bits (((sizeS a0 a1 a2).1).im).bits), (13, .int .i64 a2.Rows), (14, .int .i64 (1 + ((a3 % 65536) % (a2.Rows - 1)))), (15, .pointer (some ⟨bn210_x17, 0, none⟩))] rfl (hI10_x17_16 w89 bn210_x17 hz hC hBb1 hBbn210_x17 hNbn210_x17 hZbn210_x17 hDb1_bn210_x17)
            · refine ⟨_, rfl, by decide, ?_⟩
              refine Sv_box rfl (R_alloc rfl alloc30) (fun bn310_x17 w90 hcbn310_x17 hnbn310_x17 hBbn310_x17 => ?_)
              have hDb1_bn310_x17 : ∀ k ∈ [b1], k ∉ [bn310_x17] := disj_new (boxlt hBb1) (boxbase hnbn310_x17)
              have hZbn310_x17 : ∀ k ∈ [bn310_x17], z k = none := fresh_z hz (boxbase hnbn310_x17)
              have hNbn310_x17 : ∀ k ∈ [bn310_x17], w.heap.size ≤ k := newC (boxbase hnbn310_x17) hC.size
              have hz := hz.chg0 hcbn310_x17
              have hBb1 := hBb1.chg0 hcbn310_x17
              have hC := hC.then hcbn310_x17 (by simp)
              exact An_fr [(0, .slice Aa0 a0.length ca0), (1, .slice Aa1 a1.length ca1), (4, .bool a4), (7, .pointer (some ⟨b1, 0, none⟩)), (11, .complex .f64 (((sizeS a0 a1 a2).1).re).bits (((sizeS a0 a1 a2).1).im).bits), (13, .int .i64 a2.Rows), (14, .int .i64 (1 + ((a3 % 65536) % (a2.Rows - 1)))), (16, .pointer (some ⟨bn310_x17, 0, none⟩))] rfl (hI10_x17_17 w90 bn310_x17 hz hC hBb1 hBbn310_x17 hNbn310_x17 hZbn310_x17 hDb1_bn310_x17)
      · have _hC1 := trivial
        refine C_skip ?_
        refine E_then ?_
        refine C_seq ?_
        refine C_seq ?_
        refine C_region ?_
        refine W_cons rfl (by decide) (Sv_val rfl (R_move rfl rfl) ?_)
        refine W_cons rfl (by decide) (Sv_val rfl (R_bin rfl rfl rfl rfl rfl) ?_)
        refine W_cons rfl (by decide) (Sv_val rfl (R_move rfl rfl) ?_)
        refine W_split (t := 49) rfl (fun hg91 => ?_) (fun hg91 => ?_)
        · have _hg91 := trivial
          have hg91p : ¬ ((sizeS a0 a1 a2).2) = 0 := by simpa using hg91
          refine W_cons rfl (by decide) (Sv_off rfl rfl rfl (by rw [hg91]; rfl) ?_)
          refine W_cons rfl (by decide) (Sv_off rfl rfl rfl (by rw [hg91]; rfl) ?_)
          refine W_cons rfl (by decide) (Sv_val rfl (R_pick_t rfl rfl hg91 rfl) ?_)
          refine W_nil ?_
          refine E_then (C_fr [(0, .slice Aa0 a0.length ca0), (1, .slice Aa1 a1.length ca1), (3, .int .i64 a3), (4, .bool a4), (7, .pointer (some ⟨b1, 0, none⟩)), (11, .complex .f64 (((sizeS a0 a1 a2).1).re).bits (((sizeS a0 a1 a2).1).im).bits), (13, .int .i64 a2.Cols), (52, .bool true)] rfl ?_)
          refine C_if rfl rfl ?_
          refine C_seq ?_
          refine C_region ?_
          refine W_cons rfl (by decide) (Sv_call rfl rfl rfl ent12 ?_)
          refine (awake_calls   _   ).mono ?_
          rintro e_ w92 ⟨rfl, hc93⟩
          refine ⟨_, rfl, ?_⟩
          have hz := hz.chg0 hc93
          have hC := hC.then hc93 (by simp)
          refine W_cons rfl (by decide) (Sv_val rfl (R_assign rfl rfl) ?_)
          refine W_nil ?_
          refine E_then (C_fr [(10, .bool true)] rfl ?_)
          refine C_ret ?_
          refine E_then_ret ?_
          refine E_ret1 rfl rfl ?_
          exact ⟨Lret1 (Lbool (show true = true by rfl)), hC⟩
        · have _hg91 := trivial
          have hg91p : ((sizeS a0 a1 a2).2) = 0 := by simpa using hg91
          refine W_cons rfl (by decide) (Sv_gt rfl rfl rfl hg91 (Sv_val rfl (R_move rfl rfl) ?_))
          refine W_cons rfl (by decide) (Sv_gt rfl rfl rfl hg91 (Sv_val rfl (R_bin rfl rfl rfl rfl rfl) ?_))
          refine W_cons rfl (by decide) (Sv_val rfl (R_pick_f rfl rfl hg91 rfl) ?_)
          refine W_nil ?_
          refine E_then (C_fr [(0, .slice Aa0 a0.length ca0), (1, .slice Aa1 a1.length ca1), (3, .int .i64 a3), (4, .bool a4), (7, .pointer (some ⟨b1, 0, none⟩)), (11, .complex .f64 (((sizeS a0 a1 a2).1).re).bits (((sizeS a0 a1 a2).1).im).bits), (13, .int .i64 a2.Cols), (52, .bool (decide (a2.Cols < 2)))] rfl ?_)
          refine C_ite rfl (fun hC2 => ?_) (fun hC2 => ?_)
          · have _hC2 := trivial
            have hC2p : a2.Cols < 2 := by simpa using hC2
            refine C_seq ?_
            refine C_region ?_
            refine W_cons rfl (by decide) (Sv_call rfl rfl rfl ent12 ?_)
            refine (awake_calls   _   ).mono ?_
            rintro e_ w94 ⟨rfl, hc95⟩
            refine ⟨_, rfl, ?_⟩
            have hz := hz.chg0 hc95
            have hC := hC.then hc95 (by simp)
            refine W_cons rfl (by decide) (Sv_val rfl (R_assign rfl rfl) ?_)
            refine W_nil ?_
            refine E_then (C_fr [(10, .bool true)] rfl ?_)
            refine C_ret ?_
            refine E_then_ret ?_
            refine E_ret1 rfl rfl ?_
            exact ⟨Lret1 (Lbool (show true = true by rfl)), hC⟩
          · have _hC2 := trivial
            have hC2p : ¬ (a2.Cols < 2) := by simpa using hC2
            have hin := size_ok (ws := a0) (hs := a1) (r := a2) (by assumption)
            have hi := inside_of hin
            have hk0 : 0 ≤ a3 % 65536 % (a2.Cols - 1) := Int.emod_nonneg _ (by omega)
            have hk1 : a3 % 65536 % (a2.Cols - 1) < a2.Cols - 1 := Int.emod_lt_of_pos _ (by omega)
            have hA : insideS a0.length a1.length ⟨a2.Row, a2.Col, a2.Rows, 1 + a3 % 65536 % (a2.Cols - 1)⟩ = true := inside_mk (by omega)
            have hB : insideS a0.length a1.length ⟨a2.Row, a2.Col + (1 + a3 % 65536 % (a2.Cols - 1)), a2.Rows, a2.Cols - (1 + a3 % 65536 % (a2.Cols - 1))⟩ = true := inside_mk (by omega)
            have hT : (a2.Col + (1 + a3 % 65536 % (a2.Cols - 1)) + (a2.Cols - (1 + a3 % 65536 % (a2.Cols - 1)))).toNat = (a2.Col + a2.Cols).toNat := by omega
            have sb0 := starts_bd a0 a2.Col.toNat (by omega)
            have sb1 := starts_bd a1 a2.Row.toNat (by omega)
            have sb2 := starts_bd a0 (a2.Col + a2.Cols).toNat (by omega)
            have sb3 := starts_bd a1 (a2.Row + a2.Rows).toNat (by omega)
            have sb4 := starts_bd a0 (a2.Col + (1 + a3 % 65536 % (a2.Cols - 1))).toNat (by omega)
            refine C_skip ?_
            refine E_then ?_
            refine C_seq ?_
            refine C_region ?_
            refine W_cons rfl (by decide) (Sv_val rfl (R_move rfl rfl) ?_)
            refine W_cons rfl (by decide) (Sv_val rfl (R_and64 16 65536 rfl rfl rfl (by decide) (by decide) (by decide)) ?_)
            refine W_cons rfl (by decide) (Sv_val rfl (R_move rfl rfl) ?_)
            refine W_cons rfl (by decide) (Sv_val rfl (R_sub64 rfl rfl rfl (by omega) (by omega)) ?_)
            refine W_cons rfl (by decide) (Sv_val rfl (R_rem64 rfl rfl rfl (by omega) (by omega) (by omega)) ?_)
            refine W_cons rfl (by decide) (Sv_val rfl (R_add64 rfl rfl rfl (by omega) (by omega)) ?_)
            refine W_cons rfl (by decide) (Sv_val rfl (R_assign rfl rfl) ?_)
            refine W_nil ?_
            refine E_then (C_fr [(0, .slice Aa0 a0.length ca0), (1, .slice Aa1 a1.length ca1), (4, .bool a4), (7, .pointer (some ⟨b1, 0, none⟩)), (11, .complex .f64 (((sizeS a0 a1 a2).1).re).bits (((sizeS a0 a1 a2).1).im).bits), (13, .int .i64 a2.Cols), (14, .int .i64 (1 + ((a3 % 65536) % (a2.Cols - 1))))] rfl ?_)
            refine C_seq ?_
            refine C_fr [(0, .slice Aa0 a0.length ca0), (1, .slice Aa1 a1.length ca1), (4, .bool a4), (7, .pointer (some ⟨b1, 0, none⟩)), (11, .complex .f64 (((sizeS a0 a1 a2).1).re).bits (((sizeS a0 a1 a2).1).im).bits), (13, .int .i64 a2.Cols), (14, .int .i64 (1 + ((a3 % 65536) % (a2.Cols - 1))))] rfl ?_
            refine C_any 6 (by kernel_rfl) rfl (fun w96 hc97 => ?_)
            have hz := hz.chg0 hc97
            have hBb1 := hBb1.chg0 hc97
            have hC := hC.then hc97 (by simp)
            refine An_let ?_
            intro A_w96
            have hI10_x98_0 : ∀ (w115 : World) (bn210_x98 : Nat) (bn310_x98 : Nat) (hz : Sub z w115) (hC : Chg [] w w115) (hBb1 : Box w115 b1 30 [.int .i64 a2.Row, .int .i64 a2.Col, .int .i64 a2.Rows, .int .i64 a2.Cols]) (hBbn210_x98 : Box w115 bn210_x98 30 [.int .i64 a2.Row, .int .i64 a2.Col, .int .i64 a2.Rows, .int .i64 a2.Cols]) (hBbn310_x98 : Box w115 bn310_x98 30 [.int .i64 a2.Row, .int .i64 a2.Col, .int .i64 a2.Rows, .int .i64 a2.Cols]) (hNbn210_x98 : ∀ k ∈ [bn210_x98], w.heap.size ≤ k) (hZbn210_x98 : ∀ k ∈ [bn210_x98], z k = none) (hNbn310_x98 : ∀ k ∈ [bn310_x98], w.heap.size ≤ k) (hZbn310_x98 : ∀ k ∈ [bn310_x98], z k = none) (hDb1_bn210_x98 : ∀ k ∈ [b1], k ∉ [bn210_x98]) (hDb1_bn310_x98 : ∀ k ∈ [b1], k ∉ [bn310_x98]) (hDbn210_x98_bn310_x98 : ∀ k ∈ [bn210_x98], k ∉ [bn310_x98]), A_w96 0 #[true, true, true, true, true, true] [(0, .slice Aa0 a0.length ca0), (1, .slice Aa1 a1.length ca1), (4, .bool a4), (7, .pointer (some ⟨b1, 0, none⟩)), (11, .complex .f64 (((sizeS a0 a1 a2).1).re).bits (((sizeS a0 a1 a2).1).im).bits), (13, .int .i64 a2.Cols), (14, .int .i64 (1 + ((a3 % 65536) % (a2.Cols - 1)))), (15, .pointer (some ⟨bn210_x98, 0, none⟩)), (16, .pointer (some ⟨bn310_x98, 0, none⟩)), (60, .agg #[.int .i64 a2.Row, .int .i64 a2.Col, .int .i64 a2.Rows, .int .i64 a2.Cols]), (61, .agg #[.int .i64 a2.Row, .int .i64 a2.Col, .int .i64 a2.Rows, .int .i64 a2.Cols])] w115 := by
              intro w115 bn210_x98 bn310_x98 hz hC hBb1 hBbn210_x98 hBbn310_x98 hNbn210_x98 hZbn210_x98 hNbn310_x98 hZbn310_x98 hDb1_bn210_x98 hDb1_bn310_x98 hDbn210_x98_bn310_x98
              refine An_done (by decide +kernel) ?_
              refine E_then ?_
              refine C_seq ?_
              refine C_region ?_
              refine W_cons rfl (by decide) (Sv_call rfl rfl rfl ent24 ?_)
              refine (lpoint_calls 1 0  _   (by first | omega | (simp only [size_in hA, size_in hB, size_in hin, corner_in hA, corner_in hB, corner_in hin, hT, cpt, Cx.add, Cx.sub, Fl.add, Fl.sub, Fl.opp, Fl.ofInt, Fl.ok] <;> omega)) (by first | omega | (simp only [size_in hA, size_in hB, size_in hin, corner_in hA, corner_in hB, corner_in hin, hT, cpt, Cx.add, Cx.sub, Fl.add, Fl.sub, Fl.opp, Fl.ofInt, Fl.ok] <;> omega))).mono ?_
              rintro e_ w99 ⟨rfl, hc100⟩
              refine ⟨_, rfl, ?_⟩
              have hz := hz.chg0 hc100
              have hBb1 := hBb1.chg0 hc100
              have hBbn210_x98 := hBbn210_x98.chg0 hc100
              have hBbn310_x98 := hBbn310_x98.chg0 hc100
              have hC := hC.then hc100 (by simp)
              refine W_cons rfl (by decide) (Sv_val rfl (R_assign rfl rfl) ?_)
              refine W_nil ?_
              refine E_then ?_
              refine C_seq ?_
              refine C_seq ?_
              refine C_region ?_
              refine W_cons rfl (by decide) (Sv_val rfl (R_move rfl rfl) ?_)
              refine W_nil ?_
              refine E_then ?_
              refine C_else rfl hC1 ?_
              refine C_fr [(0, .slice Aa0 a0.length ca0), (1, .slice Aa1 a1.length ca1), (4, .bool a4), (7, .pointer (some ⟨b1, 0, none⟩)), (11, .complex .f64 (((sizeS a0 a1 a2).1).re).bits (((sizeS a0 a1 a2).1).im).bits), (13, .int .i64 a2.Cols), (14, .int .i64 (1 + ((a3 % 65536) % (a2.Cols - 1)))), (15, .pointer (some ⟨bn210_x98, 0, none⟩)), (16, .pointer (some ⟨bn310_x98, 0, none⟩)), (17, .complex .f64 ((cpt 1 0).re).bits ((cpt 1 0).im).bits)] rfl ?_
              refine C_drawnX 14 [[], [], [], [1, 2], [], [4], [], [5, 6], [0], [8, 0, 0], [0, 1, 2, 3, 8, 9], [10, 3, 9, 0, 1, 2, 3, 8, 9]] [some 76, some 77, some 78, some 79, some 80, some 81, some 82, some 83, some 84, none, some 85, none] [0, 1, 4, 7, 11, 13, 14, 15, 16, 17] [[], [], [], [], [], [], [], [], [], [bn210_x98], [], [bn310_x98]] [12, 12, 12, 12, 12, 12, 12, 12, 12, 12, 12, 12] [false, false, false, false, false, false, false, false, false, false, false, false] rfl (by kernel_rfl) (by decide +kernel) [fun v _ => v = .int .i64 (1 + ((a3 % 65536) % (a2.Cols - 1))), fun v _ => v = .int .i64 a2.Cols, fun v _ => v = .int .i64 (1 + ((a3 % 65536) % (a2.Cols - 1))), fun v _ => v = .int .i64 (a2.Cols - (1 + ((a3 % 65536) % (a2.Cols - 1)))), fun v _ => v = .pointer (some ⟨b1, 1, none⟩), fun v _ => v = .int .i64 a2.Col, fun v _ => v = .int .i64 (1 + ((a3 % 65536) % (a2.Cols - 1))), fun v _ => v = .int .i64 (a2.Col + (1 + ((a3 % 65536) % (a2.Cols - 1)))), fun v _ => v = .pointer (some ⟨bn210_x98, 3, none⟩), fun _ w_ => Box w_ bn210_x98 30 [.int .i64 a2.Row, .int .i64 a2.Col, .int .i64 a2.Rows, .int .i64 (1 + ((a3 % 65536) % (a2.Cols - 1)))], fun v _ => v = .pointer (some ⟨bn310_x98, 3, none⟩), fun _ w_ => Box w_ bn310_x98 30 [.int .i64 a2.Row, .int .i64 a2.Col, .int .i64 a2.Rows, .int .i64 (a2.Cols - (1 + ((a3 % 65536) % (a2.Cols - 1))))]] ?_ ?_ ?_
              · exact ⟨fun _ _ _ h _ => h, fun _ _ _ h _ => h, fun _ _ _ h _ => h, fun _ _ _ h _ => h, fun _ _ _ h _ => h, fun _ _ _ h _ => h, fun _ _ _ h _ => h, fun _ _ _ h _ => h, fun _ _ _ h _ => h, fun _ _ _ h hc => Box.chg h hc ((notin_cons hDbn210_x98_bn310_x98 notin_nil) _ (List.mem_singleton_self _)), fun _ _ _ h _ => h, fun _ _ _ h hc => Box.chg0 h hc, trivial⟩
              · refine ⟨fun w101 hc102 => ?_, ?_⟩
                · have _w101 := trivial
                  have hc102 : Chg [] w99 w101 := hc102
                  have hz := hz.chg0 hc102
                  have hBb1 := hBb1.chg0 hc102
                  have hBbn210_x98 := hBbn210_x98.chg0 hc102
                  have hBbn310_x98 := hBbn310_x98.chg0 hc102
                  have hC := hC.then hc102 (by simp)
                  exact Sv_val rfl (R_move rfl rfl) ⟨Chg.refl _ _, rfl, trivial⟩
                refine ⟨fun w103 hc104 => ?_, ?_⟩
                · have _w103 := trivial
                  have hc104 : Chg [bn210_x98] w99 w103 := hc104
                  have hz := hz.chg hc104 (cons_all hZbn210_x98 nil_all)
                  have hBb1 := hBb1.chg hc104 ((notin_cons hDb1_bn210_x98 notin_nil) _ (List.mem_singleton_self _))
                  have hBbn310_x98 := hBbn310_x98.chg hc104 ((notin_cons (disj_sym hDbn210_x98_bn310_x98) notin_nil) _ (List.mem_singleton_self _))
                  have hC := hC.then hc104 (fun i_ hi_ => .inr ((cons_all hNbn210_x98 nil_all) i_ hi_))
                  exact Sv_val rfl (R_move rfl rfl) ⟨Chg.refl _ _, rfl, trivial⟩
                refine ⟨fun w105 hc106 => ?_, ?_⟩
                · have _w105 := trivial
                  have hc106 : Chg [bn210_x98] w99 w105 := hc106
                  have hz := hz.chg hc106 (cons_all hZbn210_x98 nil_all)
                  have hBb1 := hBb1.chg hc106 ((notin_cons hDb1_bn210_x98 notin_nil) _ (List.mem_singleton_self _))
                  have hBbn310_x98 := hBbn310_x98.chg hc106 ((notin_cons (disj_sym hDbn210_x98_bn310_x98) notin_nil) _ (List.mem_singleton_self _))
                  have hC := hC.then hc106 (fun i_ hi_ => .inr ((cons_all hNbn210_x98 nil_all) i_ hi_))
                  exact Sv_val rfl (R_move rfl rfl) ⟨Chg.refl _ _, rfl, trivial⟩
                refine ⟨fun w107 hc108 => ?_, ?_⟩
                · have _w107 := trivial
                  have hc108 : Chg [bn210_x98] w99 w107 := hc108
                  have hz := hz.chg hc108 (cons_all hZbn210_x98 nil_all)
                  have hBb1 := hBb1.chg hc108 ((notin_cons hDb1_bn210_x98 notin_nil) _ (List.mem_singleton_self _))
                  have hBbn310_x98 := hBbn310_x98.chg hc108 ((notin_cons (disj_sym hDbn210_x98_bn310_x98) notin_nil) _ (List.mem_singleton_self _))
                  have hC := hC.then hc108 (fun i_ hi_ => .inr ((cons_all hNbn210_x98 nil_all) i_ hi_))
                  rintro _ rfl _ rfl
                  exact Sv_val rfl (R_sub64 rfl rfl rfl (by omega) (by omega)) ⟨Chg.refl _ _, rfl, trivial⟩
                refine ⟨fun w109 hc110 => ?_, ?_⟩
                · have _w109 := trivial
                  have hc110 : Chg [bn210_x98, bn310_x98] w99 w109 := hc110
                  have hz := hz.chg hc110 (cons_all hZbn210_x98 (cons_all hZbn310_x98 nil_all))
                  have hBb1 := hBb1.chg hc110 ((notin_cons hDb1_bn210_x98 (notin_cons hDb1_bn310_x98 notin_nil)) _ (List.mem_singleton_self _))
                  have hC := hC.then hc110 (fun i_ hi_ => .inr ((cons_all hNbn210_x98 (cons_all hNbn310_x98 nil_all)) i_ hi_))
                  exact Sv_val rfl (R_fld rfl rfl fld30_1) ⟨Chg.refl _ _, rfl, trivial⟩
                refine ⟨fun w111 hc112 => ?_, ?_⟩
                · have _w111 := trivial
                  have hc112 : Chg [bn210_x98, bn310_x98] w99 w111 := hc112
                  have hz := hz.chg hc112 (cons_all hZbn210_x98 (cons_all hZbn310_x98 nil_all))
                  have hBb1 := hBb1.chg hc112 ((notin_cons hDb1_bn210_x98 (notin_cons hDb1_bn310_x98 notin_nil)) _ (List.mem_singleton_self _))
                  have hC := hC.then hc112 (fun i_ hi_ => .inr ((cons_all hNbn210_x98 (cons_all hNbn310_x98 nil_all)) i_ hi_))
                  rintro _ rfl
                  exact Sv_val rfl (R_load1 rfl rfl agg3 (hBb1.cell rfl)) ⟨Chg.refl _ _, rfl, trivial⟩
                refine ⟨fun w113 hc114 => ?_, ?_⟩
                · have _w113 := trivial
                  have hc114 : Chg [bn210_x98, bn310_x98] w99 w113 := hc114
                  have hz := hz.chg hc114 (cons_all hZbn210_x98 (cons_all hZbn310_x98 nil_all))
                  have hBb1 := hBb1.chg hc114 ((notin_cons hDb1_bn210_x98 (notin_cons hDb1_bn310_x98 notin_nil)) _ (List.mem_singleton_self _))
                  have hC := hC.then hc114 (fun i_ hi_ => .inr ((cons_all hNbn210_x98 (cons_all hNbn310_x98 nil_all)) i_ hi_))
                  exact Sv_val rfl (R_move rfl rfl) ⟨Chg.refl _ _, rfl, trivial⟩
                refine ⟨fun w115 hc116 => ?_, ?_⟩
                · have _w115 := trivial
                  have hc116 : Chg [bn210_x98, bn310_x98] w99 w115 := hc116
                  have hz := hz.chg hc116 (cons_all hZbn210_x98 (cons_all hZbn310_x98 nil_all))
                  have hBb1 := hBb1.chg hc116 ((notin_cons hDb1_bn210_x98 (notin_cons hDb1_bn310_x98 notin_nil)) _ (List.mem_singleton_self _))
                  have hC := hC.then hc116 (fun i_ hi_ => .inr ((cons_all hNbn210_x98 (cons_all hNbn310_x98 nil_all)) i_ hi_))
                  rintro _ rfl _ rfl
                  exact Sv_val rfl (R_add64 rfl rfl rfl (by omega) (by omega)) ⟨Chg.refl _ _, rfl, trivial⟩
                refine ⟨fun w117 hc118 => ?_, ?_⟩
                · have _w117 := trivial
                  have hc118 : Chg [] w99 w117 := hc118
                  have hz := hz.chg0 hc118
                  have hBb1 := hBb1.chg0 hc118
                  have hBbn210_x98 := hBbn210_x98.chg0 hc118
                  have hBbn310_x98 := hBbn310_x98.chg0 hc118
                  have hC := hC.then hc118 (by simp)
                  rintro _ rfl
                  exact Sv_val rfl (R_fld rfl rfl fld30_3) ⟨Chg.refl _ _, rfl, trivial⟩
                refine ⟨fun w119 hc120 => ?_, ?_⟩
                · have _w119 := trivial
                  have hc120 : Chg [] w99 w119 := hc120
                  have hz := hz.chg0 hc120
                  have hBb1 := hBb1.chg0 hc120
                  have hBbn210_x98 := hBbn210_x98.chg0 hc120
                  have hBbn310_x98 := hBbn310_x98.chg0 hc120
                  have hC := hC.then hc120 (by simp)
                  rintro _ rfl _ rfl _ rfl
                  exact Sv_store rfl rfl rfl rfl size3 (one1 rfl) hBbn210_x98 (Nat.le_of_ble_eq_true rfl) (fun w_ hc_ hB_ => ⟨hc_, hB_, trivial⟩)
                refine ⟨fun w121 hc122 => ?_, ?_⟩
                · have _w121 := trivial
                  have hc122 : Chg [bn210_x98] w99 w121 := hc122
                  have hz := hz.chg hc122 (cons_all hZbn210_x98 nil_all)
                  have hBb1 := hBb1.chg hc122 ((notin_cons hDb1_bn210_x98 notin_nil) _ (List.mem_singleton_self _))
                  have hBbn310_x98 := hBbn310_x98.chg hc122 ((notin_cons (disj_sym hDbn210_x98_bn310_x98) notin_nil) _ (List.mem_singleton_self _))
                  have hC := hC.then hc122 (fun i_ hi_ => .inr ((cons_all hNbn210_x98 nil_all) i_ hi_))
                  rintro _ rfl _ rfl _ rfl _ rfl _ rfl _ hBbn210_x98
                  exact Sv_val rfl (R_fld rfl rfl fld30_3) ⟨Chg.refl _ _, rfl, trivial⟩
                refine ⟨fun w123 hc124 => ?_, ?_⟩
                · have _w123 := trivial
                  have hc124 : Chg [bn210_x98] w99 w123 := hc124
                  have hz := hz.chg hc124 (cons_all hZbn210_x98 nil_all)
                  have hBb1 := hBb1.chg hc124 ((notin_cons hDb1_bn210_x98 notin_nil) _ (List.mem_singleton_self _))
                  have hBbn310_x98 := hBbn310_x98.chg hc124 ((notin_cons (disj_sym hDbn210_x98_bn310_x98) notin_nil) _ (List.mem_singleton_self _))
                  have hC := hC.then hc124 (fun i_ hi_ => .inr ((cons_all hNbn210_x98 nil_all) i_ hi_))
                  rintro _ rfl _ rfl _ hBbn210_x98 _ rfl _ rfl _ rfl _ rfl _ rfl _ hBbn210_x98
                  exact Sv_store rfl rfl rfl rfl size3 (one1 rfl) hBbn310_x98 (Nat.le_of_ble_eq_true rfl) (fun w_ hc_ hB_ => ⟨hc_, hB_, trivial⟩)
                exact trivial
              · intro w125 hc126
                have hc126 : Chg [bn210_x98, bn310_x98] w99 w125 := hc126
                have hltb1 := (boxlt hBb1)
                have hltbn210_x98 := (boxlt hBbn210_x98)
                have hltbn310_x98 := (boxlt hBbn310_x98)
                have hz := hz.chg hc126 (cons_all hZbn210_x98 (cons_all hZbn310_x98 nil_all))
                have hBb1 := hBb1.chg hc126 ((notin_cons hDb1_bn210_x98 (notin_cons hDb1_bn310_x98 notin_nil)) _ (List.mem_singleton_self _))
                have hC := hC.then hc126 (fun i_ hi_ => .inr ((cons_all hNbn210_x98 (cons_all hNbn310_x98 nil_all)) i_ hi_))
                rintro _ rfl _ rfl _ rfl _ rfl _ rfl _ rfl _ rfl _ rfl _ rfl _ hBbn210_x98 _ rfl _ hBbn310_x98 _
                refine An_fr [(0, .slice Aa0 a0.length ca0), (1, .slice Aa1 a1.length ca1), (4, .bool a4), (7, .pointer (some ⟨b1, 0, none⟩)), (11, .complex .f64 (((sizeS a0 a1 a2).1).re).bits (((sizeS a0 a1 a2).1).im).bits), (13, .int .i64 a2.Cols), (14, .int .i64 (1 + ((a3 % 65536) % (a2.Cols - 1)))), (15, .pointer (some ⟨bn210_x98, 0, none⟩)), (16, .pointer (some ⟨bn310_x98, 0, none⟩)), (17, .complex .f64 ((cpt 1 0).re).bits ((cpt 1 0).im).bits), (83, .int .i64 (a2.Col + (1 + ((a3 % 65536) % (a2.Cols - 1)))))] rfl ?_
                refine An_one (i := 12) (by decide +kernel) rfl rfl (by decide) (Sv_val rfl (R_fld rfl rfl fld30_1) ?_)
                refine An_one0 (i := 13) (by decide +kernel) rfl rfl (Sv_store rfl rfl rfl rfl size3 (one1 rfl) hBbn310_x98 (Nat.le_of_ble_eq_true rfl) (fun w127 hc128 hB_ => ?_))
                have hz := hz.chg hc128 hZbn310_x98
                have hBb1 := hBb1.chg hc128 (hDb1_bn310_x98 _ (List.mem_singleton_self _))
                have hBbn210_x98 := hBbn210_x98.chg hc128 (hDbn210_x98_bn310_x98 _ (List.mem_singleton_self _))
                have hC := hC.then hc128 (fun i hi => .inr (hNbn310_x98 i hi))
                have hBbn310_x98 := hB_
                refine An_done (by decide +kernel) ?_
                refine E_then (C_fr [(0, .slice Aa0 a0.length ca0), (1, .slice Aa1 a1.length ca1), (4, .bool a4), (11, .complex .f64 (((sizeS a0 a1 a2).1).re).bits (((sizeS a0 a1 a2).1).im).bits), (15, .pointer (some ⟨bn210_x98, 0, none⟩)), (16, .pointer (some ⟨bn310_x98, 0, none⟩)), (17, .complex .f64 ((cpt 1 0).re).bits ((cpt 1 0).im).bits)] rfl ?_)
                refine C_seq ?_
                refine C_region ?_
                refine W_cons rfl (by decide) (Sv_val rfl (R_move rfl rfl) ?_)
                refine W_cons rfl (by decide) (Sv_val rfl (R_move rfl rfl) ?_)
                refine W_cons rfl (by decide) (Sv_val rfl (R_loadN (cs := [.int .i64 a2.Row, .int .i64 a2.Col, .int .i64 a2.Rows, .int .i64 (1 + ((a3 % 65536) % (a2.Cols - 1)))]) rfl rfl agg30 size30 rfl (boxcells hBbn210_x98 0 rfl)) ?_)
                refine W_cons rfl (by decide) (Sv_call rfl rfl rfl ent20 ?_)
                refine (size_calls Aa0 ca0 a0 Aa1 ca1 a1 (⟨a2.Row, a2.Col, a2.Rows, 1 + ((a3 % 65536) % (a2.Cols - 1))⟩ : TRect) _ _ hz hra0 hca0 hra1 hca1 (by first | omega | (simp only [size_in hA, size_in hB, size_in hin, corner_in hA, corner_in hB, corner_in hin, hT, cpt, Cx.add, Cx.sub, Fl.add, Fl.sub, Fl.opp, Fl.ofInt, Fl.ok] <;> omega)) (by first | omega | (simp only [size_in hA, size_in hB, size_in hin, corner_in hA, corner_in hB, corner_in hin, hT, cpt, Cx.add, Cx.sub, Fl.add, Fl.sub, Fl.opp, Fl.ofInt, Fl.ok] <;> omega))).mono ?_
                rintro e_ w129 ⟨rfl, hc130⟩
                refine ⟨_, rfl, ?_⟩
                have hz := hz.chg0 hc130
                have hBbn210_x98 := hBbn210_x98.chg0 hc130
                have hBbn310_x98 := hBbn310_x98.chg0 hc130
                have hC := hC.then hc130 (by simp)
                refine W_cons rfl (by decide) (Sv_val rfl (R_move rfl rfl) ?_)
                refine W_cons rfl (by decide) (Sv_val rfl (R_extract rfl rfl rfl) ?_)
                refine W_cons rfl (by decide) (Sv_val rfl (R_extract rfl rfl rfl) ?_)
                refine W_cons rfl (by decide) (Sv_val rfl (R_assign rfl rfl) ?_)
                refine W_cons rfl (by decide) (Sv_val rfl (R_assign rfl rfl) ?_)
                refine W_nil ?_
                refine E_then (C_fr [(0, .slice Aa0 a0.length ca0), (1, .slice Aa1 a1.length ca1), (4, .bool a4), (11, .complex .f64 (((sizeS a0 a1 a2).1).re).bits (((sizeS a0 a1 a2).1).im).bits), (15, .pointer (some ⟨bn210_x98, 0, none⟩)), (16, .pointer (some ⟨bn310_x98, 0, none⟩)), (17, .complex .f64 ((cpt 1 0).re).bits ((cpt 1 0).im).bits), (18, .complex .f64 (((sizeS a0 a1 (⟨a2.Row, a2.Col, a2.Rows, 1 + ((a3 % 65536) % (a2.Cols - 1))⟩ : TRect)).1).re).bits (((sizeS a0 a1 (⟨a2.Row, a2.Col, a2.Rows, 1 + ((a3 % 65536) % (a2.Cols - 1))⟩ : TRect)).1).im).bits), (19, .int .i64 ((sizeS a0 a1 (⟨a2.Row, a2.Col, a2.Rows, 1 + ((a3 % 65536) % (a2.Cols - 1))⟩ : TRect)).2))] rfl ?_)
                refine C_seq ?_
                refine C_region ?_
                refine W_cons rfl (by decide) (Sv_val rfl (R_move rfl rfl) ?_)
                refine W_cons rfl (by decide) (Sv_val rfl (R_move rfl rfl) ?_)
                refine W_cons rfl (by decide) (Sv_val rfl (R_loadN (cs := [.int .i64 a2.Row, .int .i64 (a2.Col + (1 + ((a3 % 65536) % (a2.Cols - 1)))), .int .i64 a2.Rows, .int .i64 (a2.Cols - (1 + ((a3 % 65536) % (a2.Cols - 1))))]) rfl rfl agg30 size30 rfl (boxcells hBbn310_x98 0 rfl)) ?_)
                refine W_cons rfl (by decide) (Sv_call rfl rfl rfl ent20 ?_)
                refine (size_calls Aa0 ca0 a0 Aa1 ca1 a1 (⟨a2.Row, a2.Col + (1 + ((a3 % 65536) % (a2.Cols - 1))), a2.Rows, a2.Cols - (1 + ((a3 % 65536) % (a2.Cols - 1)))⟩ : TRect) _ _ hz hra0 hca0 hra1 hca1 (by first | omega | (simp only [size_in hA, size_in hB, size_in hin, corner_in hA, corner_in hB, corner_in hin, hT, cpt, Cx.add, Cx.sub, Fl.add, Fl.sub, Fl.opp, Fl.ofInt, Fl.ok] <;> omega)) (by first | omega | (simp only [size_in hA, size_in hB, size_in hin, corner_in hA, corner_in hB, corner_in hin, hT, cpt, Cx.add, Cx.sub, Fl.add, Fl.sub, Fl.opp, Fl.ofInt, Fl.ok] <;> omega))).mono ?_
                rintro e_ w131 ⟨rfl, hc132⟩
                refine ⟨_, rfl, ?_⟩
                have hz := hz.chg0 hc132
                have hBbn210_x98 := hBbn210_x98.chg0 hc132
                have hBbn310_x98 := hBbn310_x98.chg0 hc132
                have hC := hC.then hc132 (by simp)
                refine W_cons rfl (by decide) (Sv_val rfl (R_move rfl rfl) ?_)
                refine W_cons rfl (by decide) (Sv_val rfl (R_extract rfl rfl rfl) ?_)
                refine W_cons rfl (by decide) (Sv_val rfl (R_extract rfl rfl rfl) ?_)
                refine W_cons rfl (by decide) (Sv_val rfl (R_assign rfl rfl) ?_)
                refine W_cons rfl (by decide) (Sv_val rfl (R_assign rfl rfl) ?_)
                refine W_nil ?_
                refine E_then (C_fr [(0, .slice Aa0 a0.length ca0), (1, .slice Aa1 a1.length ca1), (4, .bool a4), (11, .complex .f64 (((sizeS a0 a1 a2).1).re).bits (((sizeS a0 a1 a2).1).im).bits), (15, .pointer (some ⟨bn210_x98, 0, none⟩)), (16, .pointer (some ⟨bn310_x98, 0, none⟩)), (17, .complex .f64 ((cpt 1 0).re).bits ((cpt 1 0).im).bits), (18, .complex .f64 (((sizeS a0 a1 (⟨a2.Row, a2.Col, a2.Rows, 1 + ((a3 % 65536) % (a2.Cols - 1))⟩ : TRect)).1).re).bits (((sizeS a0 a1 (⟨a2.Row, a2.Col, a2.Rows, 1 + ((a3 % 65536) % (a2.Cols - 1))⟩ : TRect)).1).im).bits), (19, .int .i64 ((sizeS a0 a1 (⟨a2.Row, a2.Col, a2.Rows, 1 + ((a3 % 65536) % (a2.Cols - 1))⟩ : TRect)).2)), (20, .complex .f64 (((sizeS a0 a1 (⟨a2.Row, a2.Col + (1 + ((a3 % 65536) % (a2.Cols - 1))), a2.Rows, a2.Cols - (1 + ((a3 % 65536) % (a2.Cols - 1)))⟩ : TRect)).1).re).bits (((sizeS a0 a1 (⟨a2.Row, a2.Col + (1 + ((a3 % 65536) % (a2.Cols - 1))), a2.Rows, a2.Cols - (1 + ((a3 % 65536) % (a2.Cols - 1)))⟩ : TRect)).1).im).bits), (21, .int .i64 ((sizeS a0 a1 (⟨a2.Row, a2.Col + (1 + ((a3 % 65536) % (a2.Cols - 1))), a2.Rows, a2.Cols - (1 + ((a3 % 65536) % (a2.Cols - 1)))⟩ : TRect)).2))] rfl ?_)
                refine C_seq ?_
                refine C_region ?_
                refine W_cons rfl (by decide) (Sv_val rfl (R_move rfl rfl) ?_)
                refine W_cons rfl (by decide) (Sv_val rfl (R_move rfl rfl) ?_)
                refine W_cons rfl (by decide) (Sv_val rfl (R_loadN (cs := [.int .i64 a2.Row, .int .i64 a2.Col, .int .i64 a2.Rows, .int .i64 (1 + ((a3 % 65536) % (a2.Cols - 1)))]) rfl rfl agg30 size30 rfl (boxcells hBbn210_x98 0 rfl)) ?_)
                refine W_cons rfl (by decide) (Sv_call rfl rfl rfl ent19 ?_)
                refine (corner_calls Aa0 ca0 a0 Aa1 ca1 a1 (⟨a2.Row, a2.Col, a2.Rows, 1 + ((a3 % 65536) % (a2.Cols - 1))⟩ : TRect) _ _ hz hra0 hca0 hra1 hca1 (by first | omega | (simp only [size_in hA, size_in hB, size_in hin, corner_in hA, corner_in hB, corner_in hin, hT, cpt, Cx.add, Cx.sub, Fl.add, Fl.sub, Fl.opp, Fl.ofInt, Fl.ok] <;> omega)) (by first | omega | (simp only [size_in hA, size_in hB, size_in hin, corner_in hA, corner_in hB, corner_in hin, hT, cpt, Cx.add, Cx.sub, Fl.add, Fl.sub, Fl.opp, Fl.ofInt, Fl.ok] <;> omega))).mono ?_
                rintro e_ w133 ⟨rfl, hc134⟩
                refine ⟨_, rfl, ?_⟩
                have hz := hz.chg0 hc134
                have hBbn310_x98 := hBbn310_x98.chg0 hc134
                have hC := hC.then hc134 (by simp)
                refine W_cons rfl (by decide) (Sv_val rfl (R_move rfl rfl) ?_)
                refine W_cons rfl (by decide) (Sv_val rfl (R_extract rfl rfl rfl) ?_)
                refine W_cons rfl (by decide) (Sv_val rfl (R_extract rfl rfl rfl) ?_)
                refine W_cons rfl (by decide) (Sv_val rfl (R_assign rfl rfl) ?_)
                refine W_cons rfl (by decide) (Sv_val rfl (R_assign rfl rfl) ?_)
                refine W_nil ?_
                refine E_then (C_fr [(0, .slice Aa0 a0.length ca0), (1, .slice Aa1 a1.length ca1), (4, .bool a4), (11, .complex .f64 (((sizeS a0 a1 a2).1).re).bits (((sizeS a0 a1 a2).1).im).bits), (16, .pointer (some ⟨bn310_x98, 0, none⟩)), (17, .complex .f64 ((cpt 1 0).re).bits ((cpt 1 0).im).bits), (18, .complex .f64 (((sizeS a0 a1 (⟨a2.Row, a2.Col, a2.Rows, 1 + ((a3 % 65536) % (a2.Cols - 1))⟩ : TRect)).1).re).bits (((sizeS a0 a1 (⟨a2.Row, a2.Col, a2.Rows, 1 + ((a3 % 65536) % (a2.Cols - 1))⟩ : TRect)).1).im).bits), (19, .int .i64 ((sizeS a0 a1 (⟨a2.Row, a2.Col, a2.Rows, 1 + ((a3 % 65536) % (a2.Cols - 1))⟩ : TRect)).2)), (20, .complex .f64 (((sizeS a0 a1 (⟨a2.Row, a2.Col + (1 + ((a3 % 65536) % (a2.Cols - 1))), a2.Rows, a2.Cols - (1 + ((a3 % 65536) % (a2.Cols - 1)))⟩ : TRect)).1).re).bits (((sizeS a0 a1 (⟨a2.Row, a2.Col + (1 + ((a3 % 65536) % (a2.Cols - 1))), a2.Rows, a2.Cols - (1 + ((a3 % 65536) % (a2.Cols - 1)))⟩ : TRect)).1).im).bits), (21, .int .i64 ((sizeS a0 a1 (⟨a2.Row, a2.Col + (1 + ((a3 % 65536) % (a2.Cols - 1))), a2.Rows, a2.Cols - (1 + ((a3 % 65536) % (a2.Cols - 1)))⟩ : TRect)).2)), (22, .complex .f64 (((cornerS a0 a1 (⟨a2.Row, a2.Col, a2.Rows, 1 + ((a3 % 65536) % (a2.Cols - 1))⟩ : TRect)).1).re).bits (((cornerS a0 a1 (⟨a2.Row, a2.Col, a2.Rows, 1 + ((a3 % 65536) % (a2.Cols - 1))⟩ : TRect)).1).im).bits), (23, .int .i64 ((cornerS a0 a1 (⟨a2.Row, a2.Col, a2.Rows, 1 + ((a3 % 65536) % (a2.Cols - 1))⟩ : TRect)).2))] rfl ?_)
                refine C_seq ?_
                refine C_region ?_
                refine W_cons rfl (by decide) (Sv_val rfl (R_move rfl rfl) ?_)
                refine W_cons rfl (by decide) (Sv_val rfl (R_move rfl rfl) ?_)
                refine W_cons rfl (by decide) (Sv_val rfl (R_loadN (cs := [.int .i64 a2.Row, .int .i64 (a2.Col + (1 + ((a3 % 65536) % (a2.Cols - 1)))), .int .i64 a2.Rows, .int .i64 (a2.Cols - (1 + ((a3 % 65536) % (a2.Cols - 1))))]) rfl rfl agg30 size30 rfl (boxcells hBbn310_x98 0 rfl)) ?_)
                refine W_cons rfl (by decide) (Sv_call rfl rfl rfl ent19 ?_)
                refine (corner_calls Aa0 ca0 a0 Aa1 ca1 a1 (⟨a2.Row, a2.Col + (1 + ((a3 % 65536) % (a2.Cols - 1))), a2.Rows, a2.Cols - (1 + ((a3 % 65536) % (a2.Cols - 1)))⟩ : TRect) _ _ hz hra0 hca0 hra1 hca1 (by first | omega | (simp only [size_in hA, size_in hB, size_in hin, corner_in hA, corner_in hB, corner_in hin, hT, cpt, Cx.add, Cx.sub, Fl.add, Fl.sub, Fl.opp, Fl.ofInt, Fl.ok] <;> omega)) (by first | omega | (simp only [size_in hA, size_in hB, size_in hin, corner_in hA, corner_in hB, corner_in hin, hT, cpt, Cx.add, Cx.sub, Fl.add, Fl.sub, Fl.opp, Fl.ofInt, Fl.ok] <;> omega))).mono ?_
                rintro e_ w135 ⟨rfl, hc136⟩
                refine ⟨_, rfl, ?_⟩
                have hz := hz.chg0 hc136
                have hC := hC.then hc136 (by simp)
                refine W_cons rfl (by decide) (Sv_val rfl (R_move rfl rfl) ?_)
                refine W_cons rfl (by decide) (Sv_val rfl (R_extract rfl rfl rfl) ?_)
                refine W_cons rfl (by decide) (Sv_val rfl (R_extract rfl rfl rfl) ?_)
                refine W_cons rfl (by decide) (Sv_val rfl (R_assign rfl rfl) ?_)
                refine W_cons rfl (by decide) (Sv_val rfl (R_assign rfl rfl) ?_)
                refine W_nil ?_
                refine E_then (C_fr [(4, .bool a4), (11, .complex .f64 (((sizeS a0 a1 a2).1).re).bits (((sizeS a0 a1 a2).1).im).bits), (17, .complex .f64 ((cpt 1 0).re).bits ((cpt 1 0).im).bits), (18, .complex .f64 (((sizeS a0 a1 (⟨a2.Row, a2.Col, a2.Rows, 1 + ((a3 % 65536) % (a2.Cols - 1))⟩ : TRect)).1).re).bits (((sizeS a0 a1 (⟨a2.Row, a2.Col, a2.Rows, 1 + ((a3 % 65536) % (a2.Cols - 1))⟩ : TRect)).1).im).bits), (19, .int .i64 ((sizeS a0 a1 (⟨a2.Row, a2.Col, a2.Rows, 1 + ((a3 % 65536) % (a2.Cols - 1))⟩ : TRect)).2)), (20, .complex .f64 (((sizeS a0 a1 (⟨a2.Row, a2.Col + (1 + ((a3 % 65536) % (a2.Cols - 1))), a2.Rows, a2.Cols - (1 + ((a3 % 65536) % (a2.Cols - 1)))⟩ : TRect)).1).re).bits (((sizeS a0 a1 (⟨a2.Row, a2.Col + (1 + ((a3 % 65536) % (a2.Cols - 1))), a2.Rows, a2.Cols - (1 + ((a3 % 65536) % (a2.Cols - 1)))⟩ : TRect)).1).im).bits), (21, .int .i64 ((sizeS a0 a1 (⟨a2.Row, a2.Col + (1 + ((a3 % 65536) % (a2.Cols - 1))), a2.Rows, a2.Cols - (1 + ((a3 % 65536) % (a2.Cols - 1)))⟩ : TRect)).2)), (22, .complex .f64 (((cornerS a0 a1 (⟨a2.Row, a2.Col, a2.Rows, 1 + ((a3 % 65536) % (a2.Cols - 1))⟩ : TRect)).1).re).bits (((cornerS a0 a1 (⟨a2.Row, a2.Col, a2.Rows, 1 + ((a3 % 65536) % (a2.Cols - 1))⟩ : TRect)).1).im).bits), (23, .int .i64 ((cornerS a0 a1 (⟨a2.Row, a2.Col, a2.Rows, 1 + ((a3 % 65536) % (a2.Cols - 1))⟩ : TRect)).2)), (24, .complex .f64 (((cornerS a0 a1 (⟨a2.Row, a2.Col + (1 + ((a3 % 65536) % (a2.Cols - 1))), a2.Rows, a2.Cols - (1 + ((a3 % 65536) % (a2.Cols - 1)))⟩ : TRect)).1).re).bits (((cornerS a0 a1 (⟨a2.Row, a2.Col + (1 + ((a3 % 65536) % (a2.Cols - 1))), a2.Rows, a2.Cols - (1 + ((a3 % 65536) % (a2.Cols - 1)))⟩ : TRect)).1).im).bits), (25, .int .i64 ((cornerS a0 a1 (⟨a2.Row, a2.Col + (1 + ((a3 % 65536) % (a2.Cols - 1))), a2.Rows, a2.Cols - (1 + ((a3 % 65536) % (a2.Cols - 1)))⟩ : TRect)).2))] rfl ?_)
                refine C_seq ?_
                refine C_seq ?_
                refine C_region ?_
                refine W_cons rfl (by decide) (Sv_val rfl (R_move rfl rfl) ?_)
                refine W_cons rfl (by decide) (Sv_val rfl (R_bin rfl rfl rfl rfl rfl) ?_)
                refine W_cons rfl (by decide) (Sv_val rfl (R_move rfl rfl) ?_)
                have hk137 : ((((sizeS a0 a1 (⟨a2.Row, a2.Col, a2.Rows, 1 + ((a3 % 65536) % (a2.Cols - 1))⟩ : TRect)).2) != 0)) = false := by first | (rw [size_in hA]; rfl) | (rw [size_in hB]; rfl) | (rw [corner_in hA]; rfl) | (rw [corner_in hB]; rfl)
                have hk137p : ((sizeS a0 a1 (⟨a2.Row, a2.Col, a2.Rows, 1 + ((a3 % 65536) % (a2.Cols - 1))⟩ : TRect)).2) = 0 := by simpa using hk137
                refine W_cons rfl (by decide) (Sv_gt rfl rfl rfl hk137 (Sv_val rfl (R_move rfl rfl) ?_))
                refine W_cons rfl (by decide) (Sv_gt rfl rfl rfl hk137 (Sv_val rfl (R_bin rfl rfl rfl rfl rfl) ?_))
                refine W_cons rfl (by decide) (Sv_val rfl (R_pick_f rfl rfl hk137 rfl) ?_)
                refine W_cons rfl (by decide) (Sv_val rfl (R_move rfl rfl) ?_)
                have hk138 : ((((sizeS a0 a1 (⟨a2.Row, a2.Col + (1 + ((a3 % 65536) % (a2.Cols - 1))), a2.Rows, a2.Cols - (1 + ((a3 % 65536) % (a2.Cols - 1)))⟩ : TRect)).2) != 0)) = false := by first | (rw [size_in hA]; rfl) | (rw [size_in hB]; rfl) | (rw [corner_in hA]; rfl) | (rw [corner_in hB]; rfl)
                have hk138p : ((sizeS a0 a1 (⟨a2.Row, a2.Col + (1 + ((a3 % 65536) % (a2.Cols - 1))), a2.Rows, a2.Cols - (1 + ((a3 % 65536) % (a2.Cols - 1)))⟩ : TRect)).2) = 0 := by simpa using hk138
                refine W_cons rfl (by decide) (Sv_gt rfl rfl rfl hk138 (Sv_val rfl (R_move rfl rfl) ?_))
                refine W_cons rfl (by decide) (Sv_gt rfl rfl rfl hk138 (Sv_val rfl (R_bin rfl rfl rfl rfl rfl) ?_))
                refine W_cons rfl (by decide) (Sv_val rfl (R_pick_f rfl rfl hk138 rfl) ?_)
                refine W_cons rfl (by decide) (Sv_val rfl (R_move rfl rfl) ?_)
                have hk139 : ((((cornerS a0 a1 (⟨a2.Row, a2.Col, a2.Rows, 1 + ((a3 % 65536) % (a2.Cols - 1))⟩ : TRect)).2) != 0)) = false := by first | (rw [size_in hA]; rfl) | (rw [size_in hB]; rfl) | (rw [corner_in hA]; rfl) | (rw [corner_in hB]; rfl)
                have hk139p : ((cornerS a0 a1 (⟨a2.Row, a2.Col, a2.Rows, 1 + ((a3 % 65536) % (a2.Cols - 1))⟩ : TRect)).2) = 0 := by simpa using hk139
                refine W_cons rfl (by decide) (Sv_gt rfl rfl rfl hk139 (Sv_val rfl (R_move rfl rfl) ?_))
                refine W_cons rfl (by decide) (Sv_gt rfl rfl rfl hk139 (Sv_val rfl (R_bin rfl rfl rfl rfl rfl) ?_))
                refine W_cons rfl (by decide) (Sv_val rfl (R_pick_f rfl rfl hk139 rfl) ?_)
                refine W_nil ?_
                refine E_then (C_fr [(4, .bool a4), (11, .complex .f64 (((sizeS a0 a1 a2).1).re).bits (((sizeS a0 a1 a2).1).im).bits), (17, .complex .f64 ((cpt 1 0).re).bits ((cpt 1 0).im).bits), (18, .complex .f64 (((sizeS a0 a1 (⟨a2.Row, a2.Col, a2.Rows, 1 + ((a3 % 65536) % (a2.Cols - 1))⟩ : TRect)).1).re).bits (((sizeS a0 a1 (⟨a2.Row, a2.Col, a2.Rows, 1 + ((a3 % 65536) % (a2.Cols - 1))⟩ : TRect)).1).im).bits), (20, .complex .f64 (((sizeS a0 a1 (⟨a2.Row, a2.Col + (1 + ((a3 % 65536) % (a2.Cols - 1))), a2.Rows, a2.Cols - (1 + ((a3 % 65536) % (a2.Cols - 1)))⟩ : TRect)).1).re).bits (((sizeS a0 a1 (⟨a2.Row, a2.Col + (1 + ((a3 % 65536) % (a2.Cols - 1))), a2.Rows, a2.Cols - (1 + ((a3 % 65536) % (a2.Cols - 1)))⟩ : TRect)).1).im).bits), (22, .complex .f64 (((cornerS a0 a1 (⟨a2.Row, a2.Col, a2.Rows, 1 + ((a3 % 65536) % (a2.Cols - 1))⟩ : TRect)).1).re).bits (((cornerS a0 a1 (⟨a2.Row, a2.Col, a2.Rows, 1 + ((a3 % 65536) % (a2.Cols - 1))⟩ : TRect)).1).im).bits), (24, .complex .f64 (((cornerS a0 a1 (⟨a2.Row, a2.Col + (1 + ((a3 % 65536) % (a2.Cols - 1))), a2.Rows, a2.Cols - (1 + ((a3 % 65536) % (a2.Cols - 1)))⟩ : TRect)).1).re).bits (((cornerS a0 a1 (⟨a2.Row, a2.Col + (1 + ((a3 % 65536) % (a2.Cols - 1))), a2.Rows, a2.Cols - (1 + ((a3 % 65536) % (a2.Cols - 1)))⟩ : TRect)).1).im).bits), (128, .bool (((cornerS a0 a1 (⟨a2.Row, a2.Col + (1 + ((a3 % 65536) % (a2.Cols - 1))), a2.Rows, a2.Cols - (1 + ((a3 % 65536) % (a2.Cols - 1)))⟩ : TRect)).2) != 0))] rfl ?_)
                have hk140 : ((((cornerS a0 a1 (⟨a2.Row, a2.Col + (1 + ((a3 % 65536) % (a2.Cols - 1))), a2.Rows, a2.Cols - (1 + ((a3 % 65536) % (a2.Cols - 1)))⟩ : TRect)).2) != 0)) = false := by first | (rw [size_in hA]; rfl) | (rw [size_in hB]; rfl) | (rw [corner_in hA]; rfl) | (rw [corner_in hB]; rfl)
                have hk140p : ((cornerS a0 a1 (⟨a2.Row, a2.Col + (1 + ((a3 % 65536) % (a2.Cols - 1))), a2.Rows, a2.Cols - (1 + ((a3 % 65536) % (a2.Cols - 1)))⟩ : TRect)).2) = 0 := by simpa using hk140
                refine C_else rfl hk140 ?_
                refine C_skip ?_
                refine E_then ?_
                refine C_seq ?_
                refine C_seq ?_
                refine C_region ?_
                refine W_cons rfl (by decide) (Sv_val rfl (R_move rfl rfl) ?_)
                refine W_nil ?_
                refine E_then ?_
                refine C_else rfl hC1 ?_
                refine C_skip ?_
                refine E_then ?_
                refine C_seq ?_
                refine C_region ?_
                refine W_cons rfl (by decide) (Sv_val rfl (R_move rfl rfl) ?_)
                refine W_cons rfl (by decide) (Sv_val rfl (R_imag rfl rfl) ?_)
                refine W_cons rfl (by decide) (Sv_val rfl (R_move rfl rfl) ?_)
                refine W_cons rfl (by decide) (Sv_val rfl (R_imag rfl rfl) ?_)
                refine W_cons rfl (by decide) (Sv_val rfl (R_fleql (a := (((sizeS a0 a1 (⟨a2.Row, a2.Col, a2.Rows, 1 + ((a3 % 65536) % (a2.Cols - 1))⟩ : TRect)).1).im)) (c := (((sizeS a0 a1 (⟨a2.Row, a2.Col + (1 + ((a3 % 65536) % (a2.Cols - 1))), a2.Rows, a2.Cols - (1 + ((a3 % 65536) % (a2.Cols - 1)))⟩ : TRect)).1).im)) rfl rfl rfl (by simp only [size_in hA, size_in hB, size_in hin, corner_in hA, corner_in hB, corner_in hin, hT, cpt, Cx.add, Cx.sub, Fl.add, Fl.sub, Fl.opp, Fl.ofInt, Fl.ok] <;> omega)) ?_)
                refine W_cons rfl (by decide) (Sv_val rfl (R_move rfl rfl) ?_)
                have hk141 : (((((sizeS a0 a1 (⟨a2.Row, a2.Col, a2.Rows, 1 + ((a3 % 65536) % (a2.Cols - 1))⟩ : TRect)).1).im).n == (((sizeS a0 a1 (⟨a2.Row, a2.Col + (1 + ((a3 % 65536) % (a2.Cols - 1))), a2.Rows, a2.Cols - (1 + ((a3 % 65536) % (a2.Cols - 1)))⟩ : TRect)).1).im).n)) = true := by simp only [size_in hA, size_in hB, size_in hin, corner_in hA, corner_in hB, corner_in hin, hT, cpt, Cx.add, Cx.sub, Fl.add, Fl.sub, Fl.opp, Fl.ofInt] <;> simp [-List.getD_eq_getElem?_getD] <;> omega
                have hk141p : (((sizeS a0 a1 (⟨a2.Row, a2.Col, a2.Rows, 1 + ((a3 % 65536) % (a2.Cols - 1))⟩ : TRect)).1).im).n = (((sizeS a0 a1 (⟨a2.Row, a2.Col + (1 + ((a3 % 65536) % (a2.Cols - 1))), a2.Rows, a2.Cols - (1 + ((a3 % 65536) % (a2.Cols - 1)))⟩ : TRect)).1).im).n := by simpa using hk141
                refine W_cons rfl (by decide) (Sv_gt rfl rfl rfl hk141 (Sv_val rfl (R_move rfl rfl) ?_))
                refine W_cons rfl (by decide) (Sv_gt rfl rfl rfl hk141 (Sv_val rfl (R_move rfl rfl) ?_))
                refine W_cons rfl (by decide) (Sv_gt rfl rfl rfl hk141 (Sv_val rfl (R_cxsub (a := ((cornerS a0 a1 (⟨a2.Row, a2.Col + (1 + ((a3 % 65536) % (a2.Cols - 1))), a2.Rows, a2.Cols - (1 + ((a3 % 65536) % (a2.Cols - 1)))⟩ : TRect)).1).re) (b := ((cornerS a0 a1 (⟨a2.Row, a2.Col + (1 + ((a3 % 65536) % (a2.Cols - 1))), a2.Rows, a2.Cols - (1 + ((a3 % 65536) % (a2.Cols - 1)))⟩ : TRect)).1).im) (c := ((cornerS a0 a1 (⟨a2.Row, a2.Col, a2.Rows, 1 + ((a3 % 65536) % (a2.Cols - 1))⟩ : TRect)).1).re) (d := ((cornerS a0 a1 (⟨a2.Row, a2.Col, a2.Rows, 1 + ((a3 % 65536) % (a2.Cols - 1))⟩ : TRect)).1).im) rfl rfl rfl (by simp only [size_in hA, size_in hB, size_in hin, corner_in hA, corner_in hB, corner_in hin, hT, cpt, Cx.add, Cx.sub, Fl.add, Fl.sub, Fl.opp, Fl.ofInt, Fl.ok] <;> omega) (by simp only [size_in hA, size_in hB, size_in hin, corner_in hA, corner_in hB, corner_in hin, hT, cpt, Cx.add, Cx.sub, Fl.add, Fl.sub, Fl.opp, Fl.ofInt, Fl.ok] <;> omega)) ?_))
                refine W_cons rfl (by decide) (Sv_gt rfl rfl rfl hk141 (Sv_val rfl (R_move rfl rfl) ?_))
                refine W_cons rfl (by decide) (Sv_gt rfl rfl rfl hk141 (Sv_val rfl (R_real rfl rfl) ?_))
                refine W_cons rfl (by decide) (Sv_gt rfl rfl rfl hk141 (Sv_val rfl (R_convfi rfl rfl Try.underlying40 Try.underlying3 (by simp only [size_in hA, size_in hB, size_in hin, corner_in hA, corner_in hB, corner_in hin, hT, cpt, Cx.add, Cx.sub, Fl.add, Fl.sub, Fl.opp, Fl.ofInt, Fl.ok] <;> omega)) ?_))
                refine W_cons rfl (by decide) (Sv_gt rfl rfl rfl hk141 (Sv_call rfl rfl rfl ent24 ?_))
                refine (lpoint_calls ((((sizeS a0 a1 (⟨a2.Row, a2.Col, a2.Rows, 1 + ((a3 % 65536) % (a2.Cols - 1))⟩ : TRect)).1).re).n) 0  _   (by first | omega | (simp only [size_in hA, size_in hB, size_in hin, corner_in hA, corner_in hB, corner_in hin, hT, cpt, Cx.add, Cx.sub, Fl.add, Fl.sub, Fl.opp, Fl.ofInt, Fl.ok] <;> omega)) (by first | omega | (simp only [size_in hA, size_in hB, size_in hin, corner_in hA, corner_in hB, corner_in hin, hT, cpt, Cx.add, Cx.sub, Fl.add, Fl.sub, Fl.opp, Fl.ofInt, Fl.ok] <;> omega))).mono ?_
                rintro e_ w142 ⟨rfl, hc143⟩
                refine ⟨_, rfl, ?_⟩
                have hz := hz.chg0 hc143
                have hC := hC.then hc143 (by simp)
                refine W_cons rfl (by decide) (Sv_gt rfl rfl rfl hk141 (Sv_val rfl (R_move rfl rfl) ?_))
                refine W_cons rfl (by decide) (Sv_gt rfl rfl rfl hk141 (Sv_val rfl (R_cxadd (a := (cpt ((((sizeS a0 a1 (⟨a2.Row, a2.Col, a2.Rows, 1 + ((a3 % 65536) % (a2.Cols - 1))⟩ : TRect)).1).re).n) 0).re) (b := (cpt ((((sizeS a0 a1 (⟨a2.Row, a2.Col, a2.Rows, 1 + ((a3 % 65536) % (a2.Cols - 1))⟩ : TRect)).1).re).n) 0).im) (c := (cpt 1 0).re) (d := (cpt 1 0).im) rfl rfl rfl (by simp only [size_in hA, size_in hB, size_in hin, corner_in hA, corner_in hB, corner_in hin, hT, cpt, Cx.add, Cx.sub, Fl.add, Fl.sub, Fl.opp, Fl.ofInt, Fl.ok] <;> omega) (by simp only [size_in hA, size_in hB, size_in hin, corner_in hA, corner_in hB, corner_in hin, hT, cpt, Cx.add, Cx.sub, Fl.add, Fl.sub, Fl.opp, Fl.ofInt, Fl.ok] <;> omega)) ?_))
                refine W_cons rfl (by decide) (Sv_gt rfl rfl rfl hk141 (Sv_val rfl (R_cxeql (a := (((cornerS a0 a1 (⟨a2.Row, a2.Col + (1 + ((a3 % 65536) % (a2.Cols - 1))), a2.Rows, a2.Cols - (1 + ((a3 % 65536) % (a2.Cols - 1)))⟩ : TRect)).1).re).sub (((cornerS a0 a1 (⟨a2.Row, a2.Col, a2.Rows, 1 + ((a3 % 65536) % (a2.Cols - 1))⟩ : TRect)).1).re)) (b := (((cornerS a0 a1 (⟨a2.Row, a2.Col + (1 + ((a3 % 65536) % (a2.Cols - 1))), a2.Rows, a2.Cols - (1 + ((a3 % 65536) % (a2.Cols - 1)))⟩ : TRect)).1).im).sub (((cornerS a0 a1 (⟨a2.Row, a2.Col, a2.Rows, 1 + ((a3 % 65536) % (a2.Cols - 1))⟩ : TRect)).1).im)) (c := ((cpt ((((sizeS a0 a1 (⟨a2.Row, a2.Col, a2.Rows, 1 + ((a3 % 65536) % (a2.Cols - 1))⟩ : TRect)).1).re).n) 0).re).add ((cpt 1 0).re)) (d := ((cpt ((((sizeS a0 a1 (⟨a2.Row, a2.Col, a2.Rows, 1 + ((a3 % 65536) % (a2.Cols - 1))⟩ : TRect)).1).re).n) 0).im).add ((cpt 1 0).im)) rfl rfl rfl (by simp only [size_in hA, size_in hB, size_in hin, corner_in hA, corner_in hB, corner_in hin, hT, cpt, Cx.add, Cx.sub, Fl.add, Fl.sub, Fl.opp, Fl.ofInt, Fl.ok] <;> omega)) ?_))
                refine W_cons rfl (by decide) (Sv_val rfl (R_pick_t rfl rfl hk141 rfl) ?_)
                refine W_cons rfl (by decide) (Sv_val rfl (R_move rfl rfl) ?_)
                have hk144 : (((((((cornerS a0 a1 (⟨a2.Row, a2.Col + (1 + ((a3 % 65536) % (a2.Cols - 1))), a2.Rows, a2.Cols - (1 + ((a3 % 65536) % (a2.Cols - 1)))⟩ : TRect)).1).re).sub (((cornerS a0 a1 (⟨a2.Row, a2.Col, a2.Rows, 1 + ((a3 % 65536) % (a2.Cols - 1))⟩ : TRect)).1).re)).n == (((cpt ((((sizeS a0 a1 (⟨a2.Row, a2.Col, a2.Rows, 1 + ((a3 % 65536) % (a2.Cols - 1))⟩ : TRect)).1).re).n) 0).re).add ((cpt 1 0).re)).n) && (((((cornerS a0 a1 (⟨a2.Row, a2.Col + (1 + ((a3 % 65536) % (a2.Cols - 1))), a2.Rows, a2.Cols - (1 + ((a3 % 65536) % (a2.Cols - 1)))⟩ : TRect)).1).im).sub (((cornerS a0 a1 (⟨a2.Row, a2.Col, a2.Rows, 1 + ((a3 % 65536) % (a2.Cols - 1))⟩ : TRect)).1).im)).n == (((cpt ((((sizeS a0 a1 (⟨a2.Row, a2.Col, a2.Rows, 1 + ((a3 % 65536) % (a2.Cols - 1))⟩ : TRect)).1).re).n) 0).im).add ((cpt 1 0).im)).n))) = true := by simp only [size_in hA, size_in hB, size_in hin, corner_in hA, corner_in hB, corner_in hin, hT, cpt, Cx.add, Cx.sub, Fl.add, Fl.sub, Fl.opp, Fl.ofInt] <;> simp [-List.getD_eq_getElem?_getD] <;> omega
                have hk144p : (((((cornerS a0 a1 (⟨a2.Row, a2.Col + (1 + ((a3 % 65536) % (a2.Cols - 1))), a2.Rows, a2.Cols - (1 + ((a3 % 65536) % (a2.Cols - 1)))⟩ : TRect)).1).re).sub (((cornerS a0 a1 (⟨a2.Row, a2.Col, a2.Rows, 1 + ((a3 % 65536) % (a2.Cols - 1))⟩ : TRect)).1).re)).n = (((cpt ((((sizeS a0 a1 (⟨a2.Row, a2.Col, a2.Rows, 1 + ((a3 % 65536) % (a2.Cols - 1))⟩ : TRect)).1).re).n) 0).re).add ((cpt 1 0).re)).n ∧ ((((cornerS a0 a1 (⟨a2.Row, a2.Col + (1 + ((a3 % 65536) % (a2.Cols - 1))), a2.Rows, a2.Cols - (1 + ((a3 % 65536) % (a2.Cols - 1)))⟩ : TRect)).1).im).sub (((cornerS a0 a1 (⟨a2.Row, a2.Col, a2.Rows, 1 + ((a3 % 65536) % (a2.Cols - 1))⟩ : TRect)).1).im)).n = (((cpt ((((sizeS a0 a1 (⟨a2.Row, a2.Col, a2.Rows, 1 + ((a3 % 65536) % (a2.Cols - 1))⟩ : TRect)).1).re).n) 0).im).add ((cpt 1 0).im)).n) := by simpa using hk144
                refine W_cons rfl (by decide) (Sv_gt rfl rfl rfl hk144 (Sv_val rfl (R_move rfl rfl) ?_))
                refine W_cons rfl (by decide) (Sv_gt rfl rfl rfl hk144 (Sv_val rfl (R_real rfl rfl) ?_))
                refine W_cons rfl (by decide) (Sv_gt rfl rfl rfl hk144 (Sv_val rfl (R_move rfl rfl) ?_))
                refine W_cons rfl (by decide) (Sv_gt rfl rfl rfl hk144 (Sv_val rfl (R_real rfl rfl) ?_))
                refine W_cons rfl (by decide) (Sv_gt rfl rfl rfl hk144 (Sv_val rfl (R_move rfl rfl) ?_))
                refine W_cons rfl (by decide) (Sv_gt rfl rfl rfl hk144 (Sv_val rfl (R_real rfl rfl) ?_))
                refine W_cons rfl (by decide) (Sv_gt rfl rfl rfl hk144 (Sv_val rfl (R_fladd (a := (((sizeS a0 a1 (⟨a2.Row, a2.Col, a2.Rows, 1 + ((a3 % 65536) % (a2.Cols - 1))⟩ : TRect)).1).re)) (c := (((sizeS a0 a1 (⟨a2.Row, a2.Col + (1 + ((a3 % 65536) % (a2.Cols - 1))), a2.Rows, a2.Cols - (1 + ((a3 % 65536) % (a2.Cols - 1)))⟩ : TRect)).1).re)) rfl rfl rfl (by simp only [size_in hA, size_in hB, size_in hin, corner_in hA, corner_in hB, corner_in hin, hT, cpt, Cx.add, Cx.sub, Fl.add, Fl.sub, Fl.opp, Fl.ofInt, Fl.ok] <;> omega)) ?_))
                refine W_cons rfl (by decide) (Sv_gt rfl rfl rfl hk144 (Sv_val rfl (R_fladd (a := ((((sizeS a0 a1 (⟨a2.Row, a2.Col, a2.Rows, 1 + ((a3 % 65536) % (a2.Cols - 1))⟩ : TRect)).1).re).add (((sizeS a0 a1 (⟨a2.Row, a2.Col + (1 + ((a3 % 65536) % (a2.Cols - 1))), a2.Rows, a2.Cols - (1 + ((a3 % 65536) % (a2.Cols - 1)))⟩ : TRect)).1).re))) (c := (Fl.ofInt 1)) rfl rfl (by kernel_rfl) (by simp only [size_in hA, size_in hB, size_in hin, corner_in hA, corner_in hB, corner_in hin, hT, cpt, Cx.add, Cx.sub, Fl.add, Fl.sub, Fl.opp, Fl.ofInt, Fl.ok] <;> omega)) ?_))
                refine W_cons rfl (by decide) (Sv_gt rfl rfl rfl hk144 (Sv_val rfl (R_fleql (a := (((sizeS a0 a1 a2).1).re)) (c := (((((sizeS a0 a1 (⟨a2.Row, a2.Col, a2.Rows, 1 + ((a3 % 65536) % (a2.Cols - 1))⟩ : TRect)).1).re).add (((sizeS a0 a1 (⟨a2.Row, a2.Col + (1 + ((a3 % 65536) % (a2.Cols - 1))), a2.Rows, a2.Cols - (1 + ((a3 % 65536) % (a2.Cols - 1)))⟩ : TRect)).1).re)).add (Fl.ofInt 1))) rfl rfl rfl (by simp only [size_in hA, size_in hB, size_in hin, corner_in hA, corner_in hB, corner_in hin, hT, cpt, Cx.add, Cx.sub, Fl.add, Fl.sub, Fl.opp, Fl.ofInt, Fl.ok] <;> omega)) ?_))
                refine W_cons rfl (by decide) (Sv_val rfl (R_pick_t rfl rfl hk144 rfl) ?_)
                refine W_cons rfl (by decide) (Sv_val rfl (R_move rfl rfl) ?_)
                have hk145 : (((((sizeS a0 a1 a2).1).re).n == (((((sizeS a0 a1 (⟨a2.Row, a2.Col, a2.Rows, 1 + ((a3 % 65536) % (a2.Cols - 1))⟩ : TRect)).1).re).add (((sizeS a0 a1 (⟨a2.Row, a2.Col + (1 + ((a3 % 65536) % (a2.Cols - 1))), a2.Rows, a2.Cols - (1 + ((a3 % 65536) % (a2.Cols - 1)))⟩ : TRect)).1).re)).add (Fl.ofInt 1)).n)) = true := by simp only [size_in hA, size_in hB, size_in hin, corner_in hA, corner_in hB, corner_in hin, hT, cpt, Cx.add, Cx.sub, Fl.add, Fl.sub, Fl.opp, Fl.ofInt] <;> simp [-List.getD_eq_getElem?_getD] <;> omega
                have hk145p : (((sizeS a0 a1 a2).1).re).n = (((((sizeS a0 a1 (⟨a2.Row, a2.Col, a2.Rows, 1 + ((a3 % 65536) % (a2.Cols - 1))⟩ : TRect)).1).re).add (((sizeS a0 a1 (⟨a2.Row, a2.Col + (1 + ((a3 % 65536) % (a2.Cols - 1))), a2.Rows, a2.Cols - (1 + ((a3 % 65536) % (a2.Cols - 1)))⟩ : TRect)).1).re)).add (Fl.ofInt 1)).n := by simpa using hk145
                refine W_cons rfl (by decide) (Sv_gt rfl rfl rfl hk145 (Sv_call rfl rfl rfl ent12 ?_))
                refine (awake_calls   _   ).mono ?_
                rintro e_ w146 ⟨rfl, hc147⟩
                refine ⟨_, rfl, ?_⟩
                have hz := hz.chg0 hc147
                have hC := hC.then hc147 (by simp)
                refine W_cons rfl (by decide) (Sv_val rfl (R_pick_t rfl rfl hk145 rfl) ?_)
                refine W_cons rfl (by decide) (Sv_val rfl (R_assign rfl rfl) ?_)
                refine W_nil ?_
                refine E_then (C_fr [(10, .bool true)] rfl ?_)
                refine C_ret ?_
                refine E_ret1 rfl rfl ?_
                exact ⟨Lret1 (Lbool (show true = true by rfl)), hC⟩
            have hI10_x98_1 : ∀ (w113 : World) (bn210_x98 : Nat) (bn310_x98 : Nat) (hz : Sub z w113) (hC : Chg [] w w113) (hBb1 : Box w113 b1 30 [.int .i64 a2.Row, .int .i64 a2.Col, .int .i64 a2.Rows, .int .i64 a2.Cols]) (hBbn210_x98 : Box w113 bn210_x98 30 [.int .i64 a2.Row, .int .i64 a2.Col, .int .i64 a2.Rows, .int .i64 a2.Cols]) (hBbn310_x98 : Box w113 bn310_x98 30 [.int .i64 0, .int .i64 0, .int .i64 0, .int .i64 0]) (hNbn210_x98 : ∀ k ∈ [bn210_x98], w.heap.size ≤ k) (hZbn210_x98 : ∀ k ∈ [bn210_x98], z k = none) (hNbn310_x98 : ∀ k ∈ [bn310_x98], w.heap.size ≤ k) (hZbn310_x98 : ∀ k ∈ [bn310_x98], z k = none) (hDb1_bn210_x98 : ∀ k ∈ [b1], k ∉ [bn210_x98]) (hDb1_bn310_x98 : ∀ k ∈ [b1], k ∉ [bn310_x98]) (hDbn210_x98_bn310_x98 : ∀ k ∈ [bn210_x98], k ∉ [bn310_x98]), A_w96 1 #[true, true, true, true, true, false] [(0, .slice Aa0 a0.length ca0), (1, .slice Aa1 a1.length ca1), (4, .bool a4), (7, .pointer (some ⟨b1, 0, none⟩)), (11, .complex .f64 (((sizeS a0 a1 a2).1).re).bits (((sizeS a0 a1 a2).1).im).bits), (13, .int .i64 a2.Cols), (14, .int .i64 (1 + ((a3 % 65536) % (a2.Cols - 1)))), (15, .pointer (some ⟨bn210_x98, 0, none⟩)), (16, .pointer (some ⟨bn310_x98, 0, none⟩)), (60, .agg #[.int .i64 a2.Row, .int .i64 a2.Col, .int .i64 a2.Rows, .int .i64 a2.Cols]), (61, .agg #[.int .i64 a2.Row, .int .i64 a2.Col, .int .i64 a2.Rows, .int .i64 a2.Cols])] w113 := by
              intro w113 bn210_x98 bn310_x98 hz hC hBb1 hBbn210_x98 hBbn310_x98 hNbn210_x98 hZbn210_x98 hNbn310_x98 hZbn310_x98 hDb1_bn210_x98 hDb1_bn310_x98 hDbn210_x98_bn310_x98
              refine An_any [5] (by decide +kernel) (by decide) (List.forall_mem_cons.2 ⟨?_, (fun _ h => by cases h)⟩)
              · refine ⟨_, rfl, by decide, ?_⟩
                refine Sv_store rfl rfl rfl rfl size30 (one_cons rfl (one_cons rfl (one_cons rfl (one_cons rfl one_nil)))) hBbn310_x98 (Nat.le_of_ble_eq_true rfl) (fun w148 hc149 hB_ => ?_)
                have hz := hz.chg hc149 hZbn310_x98
                have hBb1 := hBb1.chg hc149 (hDb1_bn310_x98 _ (List.mem_singleton_self _))
                have hBbn210_x98 := hBbn210_x98.chg hc149 (hDbn210_x98_bn310_x98 _ (List.mem_singleton_self _))
                have hC := hC.then hc149 (fun i hi => .inr (hNbn310_x98 i hi))
                have hBbn310_x98 := hB_
                exact An_fr [(0, .slice Aa0 a0.length ca0), (1, .slice Aa1 a1.length ca1), (4, .bool a4), (7, .pointer (some ⟨b1, 0, none⟩)), (11, .complex .f64 (((sizeS a0 a1 a2).1).re).bits (((sizeS a0 a1 a2).1).im).bits), (13, .int .i64 a2.Cols), (14, .int .i64 (1 + ((a3 % 65536) % (a2.Cols - 1)))), (15, .pointer (some ⟨bn210_x98, 0, none⟩)), (16, .pointer (some ⟨bn310_x98, 0, none⟩)), (60, .agg #[.int .i64 a2.Row, .int .i64 a2.Col, .int .i64 a2.Rows, .int .i64 a2.Cols]), (61, .agg #[.int .i64 a2.Row, .int .i64 a2.Col, .int .i64 a2.Rows, .int .i64 a2.Cols])] rfl (hI10_x98_0 w148 bn210_x98 bn310_x98 hz hC hBb1 hBbn210_x98 hBbn310_x98 hNbn210_x98 hZbn210_x98 hNbn310_x98 hZbn310_x98 hDb1_bn210_x98 hDb1_bn310_x98 hDbn210_x98_bn310_x98)
            have hI10_x98_2 : ∀ (w112 : World) (bn210_x98 : Nat) (bn310_x98 : Nat) (hz : Sub z w112) (hC : Chg [] w w112) (hBb1 : Box w112 b1 30 [.int .i64 a2.Row, .int .i64 a2.Col, .int .i64 a2.Rows, .int .i64 a2.Cols]) (hBbn210_x98 : Box w112 bn210_x98 30 [.int .i64 0, .int .i64 0, .int .i64 0, .int .i64 0]) (hBbn310_x98 : Box w112 bn310_x98 30 [.int .i64 0, .int .i64 0, .int .i64 0, .int .i64 0]) (hNbn210_x98 : ∀ k ∈ [bn210_x98], w.heap.size ≤ k) (hZbn210_x98 : ∀ k ∈ [bn210_x98], z k = none) (hNbn310_x98 : ∀ k ∈ [bn310_x98], w.heap.size ≤ k) (hZbn310_x98 : ∀ k ∈ [bn310_x98], z k = none) (hDb1_bn210_x98 : ∀ k ∈ [b1], k ∉ [bn210_x98]) (hDb1_bn310_x98 : ∀ k ∈ [b1], k ∉ [bn310_x98]) (hDbn210_x98_bn310_x98 : ∀ k ∈ [bn210_x98], k ∉ [bn310_x98]), A_w96 2 #[true, true, true, true, false, false] [(0, .slice Aa0 a0.length ca0), (1, .slice Aa1 a1.length ca1), (4, .bool a4), (7, .pointer (some ⟨b1, 0, none⟩)), (11, .complex .f64 (((sizeS a0 a1 a2).1).re).bits (((sizeS a0 a1 a2).1).im).bits), (13, .int .i64 a2.Cols), (14, .int .i64 (1 + ((a3 % 65536) % (a2.Cols - 1)))), (15, .pointer (some ⟨bn210_x98, 0, none⟩)), (16, .pointer (some ⟨bn310_x98, 0, none⟩)), (60, .agg #[.int .i64 a2.Row, .int .i64 a2.Col, .int .i64 a2.Rows, .int .i64 a2.Cols]), (61, .agg #[.int .i64 a2.Row, .int .i64 a2.Col, .int .i64 a2.Rows, .int .i64 a2.Cols])] w112 := by
              intro w112 bn210_x98 bn310_x98 hz hC hBb1 hBbn210_x98 hBbn310_x98 hNbn210_x98 hZbn210_x98 hNbn310_x98 hZbn310_x98 hDb1_bn210_x98 hDb1_bn310_x98 hDbn210_x98_bn310_x98
              refine An_any [4] (by decide +kernel) (by decide) (List.forall_mem_cons.2 ⟨?_, (fun _ h => by cases h)⟩)
              · refine ⟨_, rfl, by decide, ?_⟩
                refine Sv_store rfl rfl rfl rfl size30 (one_cons rfl (one_cons rfl (one_cons rfl (one_cons rfl one_nil)))) hBbn210_x98 (Nat.le_of_ble_eq_true rfl) (fun w150 hc151 hB_ => ?_)
                have hz := hz.chg hc151 hZbn210_x98
                have hBb1 := hBb1.chg hc151 (hDb1_bn210_x98 _ (List.mem_singleton_self _))
                have hBbn310_x98 := hBbn310_x98.chg hc151 ((disj_sym hDbn210_x98_bn310_x98) _ (List.mem_singleton_self _))
                have hC := hC.then hc151 (fun i hi => .inr (hNbn210_x98 i hi))
                have hBbn210_x98 := hB_
                exact An_fr [(0, .slice Aa0 a0.length ca0), (1, .slice Aa1 a1.length ca1), (4, .bool a4), (7, .pointer (some ⟨b1, 0, none⟩)), (11, .complex .f64 (((sizeS a0 a1 a2).1).re).bits (((sizeS a0 a1 a2).1).im).bits), (13, .int .i64 a2.Cols), (14, .int .i64 (1 + ((a3 % 65536) % (a2.Cols - 1)))), (15, .pointer (some ⟨bn210_x98, 0, none⟩)), (16, .pointer (some ⟨bn310_x98, 0, none⟩)), (60, .agg #[.int .i64 a2.Row, .int .i64 a2.Col, .int .i64 a2.Rows, .int .i64 a2.Cols]), (61, .agg #[.int .i64 a2.Row, .int .i64 a2.Col, .int .i64 a2.Rows, .int .i64 a2.Cols])] rfl (hI10_x98_1 w150 bn210_x98 bn310_x98 hz hC hBb1 hBbn210_x98 hBbn310_x98 hNbn210_x98 hZbn210_x98 hNbn310_x98 hZbn310_x98 hDb1_bn210_x98 hDb1_bn310_x98 hDbn210_x98_bn310_x98)
            have hI10_x98_3 : ∀ (w110 : World) (bn210_x98 : Nat) (bn310_x98 : Nat) (hz : Sub z w110) (hC : Chg [] w w110) (hBb1 : Box w110 b1 30 [.int .i64 a2.Row, .int .i64 a2.Col, .int .i64 a2.Rows, .int .i64 a2.Cols]) (hBbn210_x98 : Box w110 bn210_x98 30 [.int .i64 a2.Row, .int .i64 a2.Col, .int .i64 a2.Rows, .int .i64 a2.Cols]) (hBbn310_x98 : Box w110 bn310_x98 30 [.int .i64 0, .int .i64 0, .int .i64 0, .int .i64 0]) (hNbn210_x98 : ∀ k ∈ [bn210_x98], w.heap.size ≤ k) (hZbn210_x98 : ∀ k ∈ [bn210_x98], z k = none) (hNbn310_x98 : ∀ k ∈ [bn310_x98], w.heap.size ≤ k) (hZbn310_x98 : ∀ k ∈ [bn310_x98], z k = none) (hDb1_bn210_x98 : ∀ k ∈ [b1], k ∉ [bn210_x98]) (hDb1_bn310_x98 : ∀ k ∈ [b1], k ∉ [bn310_x98]) (hDbn210_x98_bn310_x98 : ∀ k ∈ [bn210_x98], k ∉ [bn310_x98]), A_w96 2 #[true, false, true, true, true, false] [(0, .slice Aa0 a0.length ca0), (1, .slice Aa1 a1.length ca1), (4, .bool a4), (7, .pointer (some ⟨b1, 0, none⟩)), (11, .complex .f64 (((sizeS a0 a1 a2).1).re).bits (((sizeS a0 a1 a2).1).im).bits), (13, .int .i64 a2.Cols), (14, .int .i64 (1 + ((a3 % 65536) % (a2.Cols - 1)))), (15, .pointer (some ⟨bn210_x98, 0, none⟩)), (16, .pointer (some ⟨bn310_x98, 0, none⟩)), (60, .agg #[.int .i64 a2.Row, .int .i64 a2.Col, .int .i64 a2.Rows, .int .i64 a2.Cols])] w110 := by
              intro w110 bn210_x98 bn310_x98 hz hC hBb1 hBbn210_x98 hBbn310_x98 hNbn210_x98 hZbn210_x98 hNbn310_x98 hZbn310_x98 hDb1_bn210_x98 hDb1_bn310_x98 hDbn210_x98_bn310_x98
              refine An_any [1] (by decide +kernel) (by decide) (List.forall_mem_cons.2 ⟨?_, (fun _ h => by cases h)⟩)
              · refine ⟨_, rfl, by decide, ?_⟩
                refine Sv_val rfl (R_loadN (cs := [.int .i64 a2.Row, .int .i64 a2.Col, .int .i64 a2.Rows, .int .i64 a2.Cols]) rfl rfl agg30 size30 rfl (boxcells hBb1 0 rfl)) ?_
                exact An_fr [(0, .slice Aa0 a0.length ca0), (1, .slice Aa1 a1.length ca1), (4, .bool a4), (7, .pointer (some ⟨b1, 0, none⟩)), (11, .complex .f64 (((sizeS a0 a1 a2).1).re).bits (((sizeS a0 a1 a2).1).im).bits), (13, .int .i64 a2.Cols), (14, .int .i64 (1 + ((a3 % 65536) % (a2.Cols - 1)))), (15, .pointer (some ⟨bn210_x98, 0, none⟩)), (16, .pointer (some ⟨bn310_x98, 0, none⟩)), (60, .agg #[.int .i64 a2.Row, .int .i64 a2.Col, .int .i64 a2.Rows, .int .i64 a2.Cols]), (61, .agg #[.int .i64 a2.Row, .int .i64 a2.Col, .int .i64 a2.Rows, .int .i64 a2.Cols])] rfl (hI10_x98_1 w110 bn210_x98 bn310_x98 hz hC hBb1 hBbn210_x98 hBbn310_x98 hNbn210_x98 hZbn210_x98 hNbn310_x98 hZbn310_x98 hDb1_bn210_x98 hDb1_bn310_x98 hDbn210_x98_bn310_x98)
            have hI10_x98_4 : ∀ (w108 : World) (bn210_x98 : Nat) (hz : Sub z w108) (hC : Chg [] w w108) (hBb1 : Box w108 b1 30 [.int .i64 a2.Row, .int .i64 a2.Col, .int .i64 a2.Rows, .int .i64 a2.Cols]) (hBbn210_x98 : Box w108 bn210_x98 30 [.int .i64 0, .int .i64 0, .int .i64 0, .int .i64 0]) (hNbn210_x98 : ∀ k ∈ [bn210_x98], w.heap.size ≤ k) (hZbn210_x98 : ∀ k ∈ [bn210_x98], z k = none) (hDb1_bn210_x98 : ∀ k ∈ [b1], k ∉ [bn210_x98]), A_w96 3 #[true, true, true, false, false, false] [(0, .slice Aa0 a0.length ca0), (1, .slice Aa1 a1.length ca1), (4, .bool a4), (7, .pointer (some ⟨b1, 0, none⟩)), (11, .complex .f64 (((sizeS a0 a1 a2).1).re).bits (((sizeS a0 a1 a2).1).im).bits), (13, .int .i64 a2.Cols), (14, .int .i64 (1 + ((a3 % 65536) % (a2.Cols - 1)))), (15, .pointer (some ⟨bn210_x98, 0, none⟩)), (60, .agg #[.int .i64 a2.Row, .int .i64 a2.Col, .int .i64 a2.Rows, .int .i64 a2.Cols]), (61, .agg #[.int .i64 a2.Row, .int .i64 a2.Col, .int .i64 a2.Rows, .int .i64 a2.Cols])] w108 := by
              intro w108 bn210_x98 hz hC hBb1 hBbn210_x98 hNbn210_x98 hZbn210_x98 hDb1_bn210_x98
              refine An_any [3] (by decide +kernel) (by decide) (List.forall_mem_cons.2 ⟨?_, (fun _ h => by cases h)⟩)
              · refine ⟨_, rfl, by decide, ?_⟩
                refine Sv_box rfl (R_alloc rfl alloc30) (fun bn310_x98 w152 hcbn310_x98 hnbn310_x98 hBbn310_x98 => ?_)
                have hDb1_bn310_x98 : ∀ k ∈ [b1], k ∉ [bn310_x98] := disj_new (boxlt hBb1) (boxbase hnbn310_x98)
                have hDbn210_x98_bn310_x98 : ∀ k ∈ [bn210_x98], k ∉ [bn310_x98] := disj_new (boxlt hBbn210_x98) (boxbase hnbn310_x98)
                have hZbn310_x98 : ∀ k ∈ [bn310_x98], z k = none := fresh_z hz (boxbase hnbn310_x98)
                have hNbn310_x98 : ∀ k ∈ [bn310_x98], w.heap.size ≤ k := newC (boxbase hnbn310_x98) hC.size
                have hz := hz.chg0 hcbn310_x98
                have hBb1 := hBb1.chg0 hcbn310_x98
                have hBbn210_x98 := hBbn210_x98.chg0 hcbn310_x98
                have hC := hC.then hcbn310_x98 (by simp)
                exact An_fr [(0, .slice Aa0 a0.length ca0), (1, .slice Aa1 a1.length ca1), (4, .bool a4), (7, .pointer (some ⟨b1, 0, none⟩)), (11, .complex .f64 (((sizeS a0 a1 a2).1).re).bits (((sizeS a0 a1 a2).1).im).bits), (13, .int .i64 a2.Cols), (14, .int .i64 (1 + ((a3 % 65536) % (a2.Cols - 1)))), (15, .pointer (some ⟨bn210_x98, 0, none⟩)), (16, .pointer (some ⟨bn310_x98, 0, none⟩)), (60, .agg #[.int .i64 a2.Row, .int .i64 a2.Col, .int .i64 a2.Rows, .int .i64 a2.Cols]), (61, .agg #[.int .i64 a2.Row, .int .i64 a2.Col, .int .i64 a2.Rows, .int .i64 a2.Cols])] rfl (hI10_x98_2 w152 bn210_x98 bn310_x98 hz hC hBb1 hBbn210_x98 hBbn310_x98 hNbn210_x98 hZbn210_x98 hNbn310_x98 hZbn310_x98 hDb1_bn210_x98 hDb1_bn310_x98 hDbn210_x98_bn310_x98)
            have hI10_x98_5 : ∀ (w109 : World) (bn310_x98 : Nat) (hz : Sub z w109) (hC : Chg [] w w109) (hBb1 : Box w109 b1 30 [.int .i64 a2.Row, .int .i64 a2.Col, .int .i64 a2.Rows, .int .i64 a2.Cols]) (hBbn310_x98 : Box w109 bn310_x98 30 [.int .i64 0, .int .i64 0, .int .i64 0, .int .i64 0]) (hNbn310_x98 : ∀ k ∈ [bn310_x98], w.heap.size ≤ k) (hZbn310_x98 : ∀ k ∈ [bn310_x98], z k = none) (hDb1_bn310_x98 : ∀ k ∈ [b1], k ∉ [bn310_x98]), A_w96 3 #[true, true, false, true, false, false] [(0, .slice Aa0 a0.length ca0), (1, .slice Aa1 a1.length ca1), (4, .bool a4), (7, .pointer (some ⟨b1, 0, none⟩)), (11, .complex .f64 (((sizeS a0 a1 a2).1).re).bits (((sizeS a0 a1 a2).1).im).bits), (13, .int .i64 a2.Cols), (14, .int .i64 (1 + ((a3 % 65536) % (a2.Cols - 1)))), (16, .pointer (some ⟨bn310_x98, 0, none⟩)), (60, .agg #[.int .i64 a2.Row, .int .i64 a2.Col, .int .i64 a2.Rows, .int .i64 a2.Cols]), (61, .agg #[.int .i64 a2.Row, .int .i64 a2.Col, .int .i64 a2.Rows, .int .i64 a2.Cols])] w109 := by
              intro w109 bn310_x98 hz hC hBb1 hBbn310_x98 hNbn310_x98 hZbn310_x98 hDb1_bn310_x98
              refine An_any [2] (by decide +kernel) (by decide) (List.forall_mem_cons.2 ⟨?_, (fun _ h => by cases h)⟩)
              · refine ⟨_, rfl, by decide, ?_⟩
                refine Sv_box rfl (R_alloc rfl alloc30) (fun bn210_x98 w153 hcbn210_x98 hnbn210_x98 hBbn210_x98 => ?_)
                have hDb1_bn210_x98 : ∀ k ∈ [b1], k ∉ [bn210_x98] := disj_new (boxlt hBb1) (boxbase hnbn210_x98)
                have hDbn310_x98_bn210_x98 : ∀ k ∈ [bn310_x98], k ∉ [bn210_x98] := disj_new (boxlt hBbn310_x98) (boxbase hnbn210_x98)
                have hZbn210_x98 : ∀ k ∈ [bn210_x98], z k = none := fresh_z hz (boxbase hnbn210_x98)
                have hNbn210_x98 : ∀ k ∈ [bn210_x98], w.heap.size ≤ k := newC (boxbase hnbn210_x98) hC.size
                have hz := hz.chg0 hcbn210_x98
                have hBb1 := hBb1.chg0 hcbn210_x98
                have hBbn310_x98 := hBbn310_x98.chg0 hcbn210_x98
                have hC := hC.then hcbn210_x98 (by simp)
                exact An_fr [(0, .slice Aa0 a0.length ca0), (1, .slice Aa1 a1.length ca1), (4, .bool a4), (7, .pointer (some ⟨b1, 0, none⟩)), (11, .complex .f64 (((sizeS a0 a1 a2).1).re).bits (((sizeS a0 a1 a2).1).im).bits), (13, .int .i64 a2.Cols), (14, .int .i64 (1 + ((a3 % 65536) % (a2.Cols - 1)))), (15, .pointer (some ⟨bn210_x98, 0, none⟩)), (16, .pointer (some ⟨bn310_x98, 0, none⟩)), (60, .agg #[.int .i64 a2.Row, .int .i64 a2.Col, .int .i64 a2.Rows, .int .i64 a2.Cols]), (61, .agg #[.int .i64 a2.Row, .int .i64 a2.Col, .int .i64 a2.Rows, .int .i64 a2.Cols])] rfl (hI10_x98_2 w153 bn210_x98 bn310_x98 hz hC hBb1 hBbn210_x98 hBbn310_x98 hNbn210_x98 hZbn210_x98 hNbn310_x98 hZbn310_x98 hDb1_bn210_x98 hDb1_bn310_x98 (disj_sym hDbn310_x98_bn210_x98))
            have hI10_x98_6 : ∀ (w106 : World) (bn210_x98 : Nat) (bn310_x98 : Nat) (hz : Sub z w106) (hC : Chg [] w w106) (hBb1 : Box w106 b1 30 [.int .i64 a2.Row, .int .i64 a2.Col, .int .i64 a2.Rows, .int .i64 a2.Cols]) (hBbn210_x98 : Box w106 bn210_x98 30 [.int .i64 0, .int .i64 0, .int .i64 0, .int .i64 0]) (hBbn310_x98 : Box w106 bn310_x98 30 [.int .i64 0, .int .i64 0, .int .i64 0, .int .i64 0]) (hNbn210_x98 : ∀ k ∈ [bn210_x98], w.heap.size ≤ k) (hZbn210_x98 : ∀ k ∈ [bn210_x98], z k = none) (hNbn310_x98 : ∀ k ∈ [bn310_x98], w.heap.size ≤ k) (hZbn310_x98 : ∀ k ∈ [bn310_x98], z k = none) (hDb1_bn210_x98 : ∀ k ∈ [b1], k ∉ [bn210_x98]) (hDb1_bn310_x98 : ∀ k ∈ [b1], k ∉ [bn310_x98]) (hDbn210_x98_bn310_x98 : ∀ k ∈ [bn210_x98], k ∉ [bn310_x98]), A_w96 3 #[true, false, true, true, false, false] [(0, .slice Aa0 a0.length ca0), (1, .slice Aa1 a1.length ca1), (4, .bool a4), (7, .pointer (some ⟨b1, 0, none⟩)), (11, .complex .f64 (((sizeS a0 a1 a2).1).re).bits (((sizeS a0 a1 a2).1).im).bits), (13, .int .i64 a2.Cols), (14, .int .i64 (1 + ((a3 % 65536) % (a2.Cols - 1)))), (15, .pointer (some ⟨bn210_x98, 0, none⟩)), (16, .pointer (some ⟨bn310_x98, 0, none⟩)), (60, .agg #[.int .i64 a2.Row, .int .i64 a2.Col, .int .i64 a2.Rows, .int .i64 a2.Cols])] w106 := by
              intro w106 bn210_x98 bn310_x98 hz hC hBb1 hBbn210_x98 hBbn310_x98 hNbn210_x98 hZbn210_x98 hNbn310_x98 hZbn310_x98 hDb1_bn210_x98 hDb1_bn310_x98 hDbn210_x98_bn310_x98
              refine An_any [1, 4] (by decide +kernel) (by decide) (List.forall_mem_cons.2 ⟨?_, (List.forall_mem_cons.2 ⟨?_, (fun _ h => by cases h)⟩)⟩)
              · refine ⟨_, rfl, by decide, ?_⟩
                refine Sv_val rfl (R_loadN (cs := [.int .i64 a2.Row, .int .i64 a2.Col, .int .i64 a2.Rows, .int .i64 a2.Cols]) rfl rfl agg30 size30 rfl (boxcells hBb1 0 rfl)) ?_
                exact An_fr [(0, .slice Aa0 a0.length ca0), (1, .slice Aa1 a1.length ca1), (4, .bool a4), (7, .pointer (some ⟨b1, 0, none⟩)), (11, .complex .f64 (((sizeS a0 a1 a2).1).re).bits (((sizeS a0 a1 a2).1).im).bits), (13, .int .i64 a2.Cols), (14, .int .i64 (1 + ((a3 % 65536) % (a2.Cols - 1)))), (15, .pointer (some ⟨bn210_x98, 0, none⟩)), (16, .pointer (some ⟨bn310_x98, 0, none⟩)), (60, .agg #[.int .i64 a2.Row, .int .i64 a2.Col, .int .i64 a2.Rows, .int .i64 a2.Cols]), (61, .agg #[.int .i64 a2.Row, .int .i64 a2.Col, .int .i64 a2.Rows, .int .i64 a2.Cols])] rfl (hI10_x98_2 w106 bn210_x98 bn310_x98 hz hC hBb1 hBbn210_x98 hBbn310_x98 hNbn210_x98 hZbn210_x98 hNbn310_x98 hZbn310_x98 hDb1_bn210_x98 hDb1_bn310_x98 hDbn210_x98_bn310_x98)
              · refine ⟨_, rfl, by decide, ?_⟩
                refine Sv_store rfl rfl rfl rfl size30 (one_cons rfl (one_cons rfl (one_cons rfl (one_cons rfl one_nil)))) hBbn210_x98 (Nat.le_of_ble_eq_true rfl) (fun w154 hc155 hB_ => ?_)
                have hz := hz.chg hc155 hZbn210_x98
                have hBb1 := hBb1.chg hc155 (hDb1_bn210_x98 _ (List.mem_singleton_self _))
                have hBbn310_x98 := hBbn310_x98.chg hc155 ((disj_sym hDbn210_x98_bn310_x98) _ (List.mem_singleton_self _))
                have hC := hC.then hc155 (fun i hi => .inr (hNbn210_x98 i hi))
                have hBbn210_x98 := hB_
                exact An_fr [(0, .slice Aa0 a0.length ca0), (1, .slice Aa1 a1.length ca1), (4, .bool a4), (7, .pointer (some ⟨b1, 0, none⟩)), (11, .complex .f64 (((sizeS a0 a1 a2).1).re).bits (((sizeS a0 a1 a2).1).im).bits), (13, .int .i64 a2.Cols), (14, .int .i64 (1 + ((a3 % 65536) % (a2.Cols - 1)))), (15, .pointer (some ⟨bn210_x98, 0, none⟩)), (16, .pointer (some ⟨bn310_x98, 0, none⟩)), (60, .agg #[.int .i64 a2.Row, .int .i64 a2.Col, .int .i64 a2.Rows, .int .i64 a2.Cols])] rfl (hI10_x98_3 w154 bn210_x98 bn310_x98 hz hC hBb1 hBbn210_x98 hBbn310_x98 hNbn210_x98 hZbn210_x98 hNbn310_x98 hZbn310_x98 hDb1_bn210_x98 hDb1_bn310_x98 hDbn210_x98_bn310_x98)
            have hI10_x98_7 : ∀ (w107 : World) (bn210_x98 : Nat) (bn310_x98 : Nat) (hz : Sub z w107) (hC : Chg [] w w107) (hBb1 : Box w107 b1 30 [.int .i64 a2.Row, .int .i64 a2.Col, .int .i64 a2.Rows, .int .i64 a2.Cols]) (hBbn210_x98 : Box w107 bn210_x98 30 [.int .i64 0, .int .i64 0, .int .i64 0, .int .i64 0]) (hBbn310_x98 : Box w107 bn310_x98 30 [.int .i64 0, .int .i64 0, .int .i64 0, .int .i64 0]) (hNbn210_x98 : ∀ k ∈ [bn210_x98], w.heap.size ≤ k) (hZbn210_x98 : ∀ k ∈ [bn210_x98], z k = none) (hNbn310_x98 : ∀ k ∈ [bn310_x98], w.heap.size ≤ k) (hZbn310_x98 : ∀ k ∈ [bn310_x98], z k = none) (hDb1_bn210_x98 : ∀ k ∈ [b1], k ∉ [bn210_x98]) (hDb1_bn310_x98 : ∀ k ∈ [b1], k ∉ [bn310_x98]) (hDbn210_x98_bn310_x98 : ∀ k ∈ [bn210_x98], k ∉ [bn310_x98]), A_w96 3 #[false, true, true, true, false, false] [(0, .slice Aa0 a0.length ca0), (1, .slice Aa1 a1.length ca1), (4, .bool a4), (7, .pointer (some ⟨b1, 0, none⟩)), (11, .complex .f64 (((sizeS a0 a1 a2).1).re).bits (((sizeS a0 a1 a2).1).im).bits), (13, .int .i64 a2.Cols), (14, .int .i64 (1 + ((a3 % 65536) % (a2.Cols - 1)))), (15, .pointer (some ⟨bn210_x98, 0, none⟩)), (16, .pointer (some ⟨bn310_x98, 0, none⟩)), (61, .agg #[.int .i64 a2.Row, .int .i64 a2.Col, .int .i64 a2.Rows, .int .i64 a2.Cols])] w107 := by
              intro w107 bn210_x98 bn310_x98 hz hC hBb1 hBbn210_x98 hBbn310_x98 hNbn210_x98 hZbn210_x98 hNbn310_x98 hZbn310_x98 hDb1_bn210_x98 hDb1_bn310_x98 hDbn210_x98_bn310_x98
              refine An_any [0] (by decide +kernel) (by decide) (List.forall_mem_cons.2 ⟨?_, (fun _ h => by cases h)⟩)
              · refine ⟨_, rfl, by decide, ?_⟩
                refine Sv_val rfl (R_loadN (cs := [.int .i64 a2.Row, .int .i64 a2.Col, .int .i64 a2.Rows, .int .i64 a2.Cols]) rfl rfl agg30 size30 rfl (boxcells hBb1 0 rfl)) ?_
                exact An_fr [(0, .slice Aa0 a0.length ca0), (1, .slice Aa1 a1.length ca1), (4, .bool a4), (7, .pointer (some ⟨b1, 0, none⟩)), (11, .complex .f64 (((sizeS a0 a1 a2).1).re).bits (((sizeS a0 a1 a2).1).im).bits), (13, .int .i64 a2.Cols), (14, .int .i64 (1 + ((a3 % 65536) % (a2.Cols - 1)))), (15, .pointer (some ⟨bn210_x98, 0, none⟩)), (16, .pointer (some ⟨bn310_x98, 0, none⟩)), (60, .agg #[.int .i64 a2.Row, .int .i64 a2.Col, .int .i64 a2.Rows, .int .i64 a2.Cols]), (61, .agg #[.int .i64 a2.Row, .int .i64 a2.Col, .int .i64 a2.Rows, .int .i64 a2.Cols])] rfl (hI10_x98_2 w107 bn210_x98 bn310_x98 hz hC hBb1 hBbn210_x98 hBbn310_x98 hNbn210_x98 hZbn210_x98 hNbn310_x98 hZbn310_x98 hDb1_bn210_x98 hDb1_bn310_x98 hDbn210_x98_bn310_x98)
            have hI10_x98_8 : ∀ (w96 : World) (hz : Sub z w96) (hC : Chg [] w w96) (hBb1 : Box w96 b1 30 [.int .i64 a2.Row, .int .i64 a2.Col, .int .i64 a2.Rows, .int .i64 a2.Cols]), A_w96 4 #[true, true, false, false, false, false] [(0, .slice Aa0 a0.length ca0), (1, .slice Aa1 a1.length ca1), (4, .bool a4), (7, .pointer (some ⟨b1, 0, none⟩)), (11, .complex .f64 (((sizeS a0 a1 a2).1).re).bits (((sizeS a0 a1 a2).1).im).bits), (13, .int .i64 a2.Cols), (14, .int .i64 (1 + ((a3 % 65536) % (a2.Cols - 1)))), (60, .agg #[.int .i64 a2.Row, .int .i64 a2.Col, .int .i64 a2.Rows, .int .i64 a2.Cols]), (61, .agg #[.int .i64 a2.Row, .int .i64 a2.Col, .int .i64 a2.Rows, .int .i64 a2.Cols])] w96 := by
              intro w96 hz hC hBb1
              refine An_any [2, 3] (by decide +kernel) (by decide) (List.forall_mem_cons.2 ⟨?_, (List.forall_mem_cons.2 ⟨?_, (fun _ h => by cases h)⟩)⟩)
              · refine ⟨_, rfl, by decide, ?_⟩
                refine Sv_box rfl (R_alloc rfl alloc30) (fun bn210_x98 w156 hcbn210_x98 hnbn210_x98 hBbn210_x98 => ?_)
                have hDb1_bn210_x98 : ∀ k ∈ [b1], k ∉ [bn210_x98] := disj_new (boxlt hBb1) (boxbase hnbn210_x98)
                have hZbn210_x98 : ∀ k ∈ [bn210_x98], z k = none := fresh_z hz (boxbase hnbn210_x98)
                have hNbn210_x98 : ∀ k ∈ [bn210_x98], w.heap.size ≤ k := newC (boxbase hnbn210_x98) hC.size
                have hz := hz.chg0 hcbn210_x98
                have hBb1 := hBb1.chg0 hcbn210_x98
                have hC := hC.then hcbn210_x98 (by simp)
                exact An_fr [(0, .slice Aa0 a0.length ca0), (1, .slice Aa1 a1.length ca1), (4, .bool a4), (7, .pointer (some ⟨b1, 0, none⟩)), (11, .complex .f64 (((sizeS a0 a1 a2).1).re).bits (((sizeS a0 a1 a2).1).im).bits), (13, .int .i64 a2.Cols), (14, .int .i64 (1 + ((a3 % 65536) % (a2.Cols - 1)))), (15, .pointer (some ⟨bn210_x98, 0, none⟩)), (60, .agg #[.int .i64 a2.Row, .int .i64 a2.Col, .int .i64 a2.Rows, .int .i64 a2.Cols]), (61, .agg #[.int .i64 a2.Row, .int .i64 a2.Col, .int .i64 a2.Rows, .int .i64 a2.Cols])] rfl (hI10_x98_4 w156 bn210_x98 hz hC hBb1 hBbn210_x98 hNbn210_x98 hZbn210_x98 hDb1_bn210_x98)
              · refine ⟨_, rfl, by decide, ?_⟩
                refine Sv_box rfl (R_alloc rfl alloc30) (fun bn310_x98 w157 hcbn310_x98 hnbn310_x98 hBbn310_x98 => ?_)
                have hDb1_bn310_x98 : ∀ k ∈ [b1], k ∉ [bn310_x98] := disj_new (boxlt hBb1) (boxbase hnbn310_x98)
                have hZbn310_x98 : ∀ k ∈ [bn310_x98], z k = none := fresh_z hz (boxbase hnbn310_x98)
                have hNbn310_x98 : ∀ k ∈ [bn310_x98], w.heap.size ≤ k := newC (boxbase hnbn310_x98) hC.size
                have hz := hz.chg0 hcbn310_x98
                have hBb1 := hBb1.chg0 hcbn310_x98
                have hC := hC.then hcbn310_x98 (by simp)
                exact An_fr [(0, .slice Aa0 a0.length ca0), (1, .slice Aa1 a1.length ca1), (4, .bool a4), (7, .pointer (some ⟨b1, 0, none⟩)), (11, .complex .f64 (((sizeS a0 a1 a2).1).re).bits (((sizeS a0 a1 a2).1).im).bits), (13, .int .i64 a2.Cols), (14, .int .i64 (1 + ((a3 % 65536) % (a2.Cols - 1)))), (16, .pointer (some ⟨bn310_x98, 0, none⟩)), (60, .agg #[.int .i64 a2.Row, .int .i64 a2.Col, .int .i64 a2.Rows, .int .i64 a2.Cols]), (61, .agg #[.int .i64 a2.Row, .int .i64 a2.Col, .int .i64 a2.Rows, .int .i64 a2.Cols])] rfl (hI10_x98_5 w157 bn310_x98 hz hC hBb1 hBbn310_x98 hNbn310_x98 hZbn310_x98 hDb1_bn310_x98)
            have hI10_x98_9 : ∀ (w103 : World) (bn210_x98 : Nat) (hz : Sub z w103) (hC : Chg [] w w103) (hBb1 : Box w103 b1 30 [.int .i64 a2.Row, .int .i64 a2.Col, .int .i64 a2.Rows, .int .i64 a2.Cols]) (hBbn210_x98 : Box w103 bn210_x98 30 [.int .i64 0, .int .i64 0, .int .i64 0, .int .i64 0]) (hNbn210_x98 : ∀ k ∈ [bn210_x98], w.heap.size ≤ k) (hZbn210_x98 : ∀ k ∈ [bn210_x98], z k = none) (hDb1_bn210_x98 : ∀ k ∈ [b1], k ∉ [bn210_x98]), A_w96 4 #[true, false, true, false, false, false] [(0, .slice Aa0 a0.length ca0), (1, .slice Aa1 a1.length ca1), (4, .bool a4), (7, .pointer (some ⟨b1, 0, none⟩)), (11, .complex .f64 (((sizeS a0 a1 a2).1).re).bits (((sizeS a0 a1 a2).1).im).bits), (13, .int .i64 a2.Cols), (14, .int .i64 (1 + ((a3 % 65536) % (a2.Cols - 1)))), (15, .pointer (some ⟨bn210_x98, 0, none⟩)), (60, .agg #[.int .i64 a2.Row, .int .i64 a2.Col, .int .i64 a2.Rows, .int .i64 a2.Cols])] w103 := by
              intro w103 bn210_x98 hz hC hBb1 hBbn210_x98 hNbn210_x98 hZbn210_x98 hDb1_bn210_x98
              refine An_any [1, 3] (by decide +kernel) (by decide) (List.forall_mem_cons.2 ⟨?_, (List.forall_mem_cons.2 ⟨?_, (fun _ h => by cases h)⟩)⟩)
              · refine ⟨_, rfl, by decide, ?_⟩
                refine Sv_val rfl (R_loadN (cs := [.int .i64 a2.Row, .int .i64 a2.Col, .int .i64 a2.Rows, .int .i64 a2.Cols]) rfl rfl agg30 size30 rfl (boxcells hBb1 0 rfl)) ?_
                exact An_fr [(0, .slice Aa0 a0.length ca0), (1, .slice Aa1 a1.length ca1), (4, .bool a4), (7, .pointer (some ⟨b1, 0, none⟩)), (11, .complex .f64 (((sizeS a0 a1 a2).1).re).bits (((sizeS a0 a1 a2).1).im).bits), (13, .int .i64 a2.Cols), (14, .int .i64 (1 + ((a3 % 65536) % (a2.Cols - 1)))), (15, .pointer (some ⟨bn210_x98, 0, none⟩)), (60, .agg #[.int .i64 a2.Row, .int .i64 a2.Col, .int .i64 a2.Rows, .int .i64 a2.Cols]), (61, .agg #[.int .i64 a2.Row, .int .i64 a2.Col, .int .i64 a2.Rows, .int .i64 a2.Cols])] rfl (hI10_x98_4 w103 bn210_x98 hz hC hBb1 hBbn210_x98 hNbn210_x98 hZbn210_x98 hDb1_bn210_x98)
              · refine ⟨_, rfl, by decide, ?_⟩
                refine Sv_box rfl (R_alloc rfl alloc30) (fun bn310_x98 w158 hcbn310_x98 hnbn310_x98 hBbn310_x98 => ?_)
                have hDb1_bn310_x98 : ∀ k ∈ [b1], k ∉ [bn310_x98] := disj_new (boxlt hBb1) (boxbase hnbn310_x98)
                have hDbn210_x98_bn310_x98 : ∀ k ∈ [bn210_x98], k ∉ [bn310_x98] := disj_new (boxlt hBbn210_x98) (boxbase hnbn310_x98)
                have hZbn310_x98 : ∀ k ∈ [bn310_x98], z k = none := fresh_z hz (boxbase hnbn310_x98)
                have hNbn310_x98 : ∀ k ∈ [bn310_x98], w.heap.size ≤ k := newC (boxbase hnbn310_x98) hC.size
                have hz := hz.chg0 hcbn310_x98
                have hBb1 := hBb1.chg0 hcbn310_x98
                have hBbn210_x98 := hBbn210_x98.chg0 hcbn310_x98
                have hC := hC.then hcbn310_x98 (by simp)
                exact An_fr [(0, .slice Aa0 a0.length ca0), (1, .slice Aa1 a1.length ca1), (4, .bool a4), (7, .pointer (some ⟨b1, 0, none⟩)), (11, .complex .f64 (((sizeS a0 a1 a2).1).re).bits (((sizeS a0 a1 a2).1).im).bits), (13, .int .i64 a2.Cols), (14, .int .i64 (1 + ((a3 % 65536) % (a2.Cols - 1)))), (15, .pointer (some ⟨bn210_x98, 0, none⟩)), (16, .pointer (some ⟨bn310_x98, 0, none⟩)), (60, .agg #[.int .i64 a2.Row, .int .i64 a2.Col, .int .i64 a2.Rows, .int .i64 a2.Cols])] rfl (hI10_x98_6 w158 bn210_x98 bn310_x98 hz hC hBb1 hBbn210_x98 hBbn310_x98 hNbn210_x98 hZbn210_x98 hNbn310_x98 hZbn310_x98 hDb1_bn210_x98 hDb1_bn310_x98 hDbn210_x98_bn310_x98)
            have hI10_x98_10 : ∀ (w102 : World) (bn310_x98 : Nat) (hz : Sub z w102) (hC : Chg [] w w102) (hBb1 : Box w102 b1 30 [.int .i64 a2.Row, .int .i64 a2.Col, .int .i64 a2.Rows, .int .i64 a2.Cols]) (hBbn310_x98 : Box w102 bn310_x98 30 [.int .i64 0, .int .i64 0, .int .i64 0, .int .i64 0]) (hNbn310_x98 : ∀ k ∈ [bn310_x98], w.heap.size ≤ k) (hZbn310_x98 : ∀ k ∈ [bn310_x98], z k = none) (hDb1_bn310_x98 : ∀ k ∈ [b1], k ∉ [bn310_x98]), A_w96 4 #[true, false, false, true, false, false] [(0, .slice Aa0 a0.length ca0), (1, .slice Aa1 a1.length ca1), (4, .bool a4), (7, .pointer (some ⟨b1, 0, none⟩)), (11, .complex .f64 (((sizeS a0 a1 a2).1).re).bits (((sizeS a0 a1 a2).1).im).bits), (13, .int .i64 a2.Cols), (14, .int .i64 (1 + ((a3 % 65536) % (a2.Cols - 1)))), (16, .pointer (some ⟨bn310_x98, 0, none⟩)), (60, .agg #[.int .i64 a2.Row, .int .i64 a2.Col, .int .i64 a2.Rows, .int .i64 a2.Cols])] w102 := by
              intro w102 bn310_x98 hz hC hBb1 hBbn310_x98 hNbn310_x98 hZbn310_x98 hDb1_bn310_x98
              refine An_any [1, 2] (by decide +kernel) (by decide) (List.forall_mem_cons.2 ⟨?_, (List.forall_mem_cons.2 ⟨?_, (fun _ h => by cases h)⟩)⟩)
              · refine ⟨_, rfl, by decide, ?_⟩
                refine Sv_val rfl (R_loadN (cs := [.int .i64 a2.Row, .int .i64 a2.Col, .int .i64 a2.Rows, .int .i64 a2.Cols]) rfl rfl agg30 size30 rfl (boxcells hBb1 0 rfl)) ?_
                exact An_fr [(0, .slice Aa0 a0.length ca0), (1, .slice Aa1 a1.length ca1), (4, .bool a4), (7, .pointer (some ⟨b1, 0, none⟩)), (11, .complex .f64 (((sizeS a0 a1 a2).1).re).bits (((sizeS a0 a1 a2).1).im).bits), (13, .int .i64 a2.Cols), (14, .int .i64 (1 + ((a3 % 65536) % (a2.Cols - 1)))), (16, .pointer (some ⟨bn310_x98, 0, none⟩)), (60, .agg #[.int .i64 a2.Row, .int .i64 a2.Col, .int .i64 a2.Rows, .int .i64 a2.Cols]), (61, .agg #[.int .i64 a2.Row, .int .i64 a2.Col, .int .i64 a2.Rows, .int .i64 a2.Cols])] rfl (hI10_x98_5 w102 bn310_x98 hz hC hBb1 hBbn310_x98 hNbn310_x98 hZbn310_x98 hDb1_bn310_x98)
              · refine ⟨_, rfl, by decide, ?_⟩
                refine Sv_box rfl (R_alloc rfl alloc30) (fun bn210_x98 w159 hcbn210_x98 hnbn210_x98 hBbn210_x98 => ?_)
                have hDb1_bn210_x98 : ∀ k ∈ [b1], k ∉ [bn210_x98] := disj_new (boxlt hBb1) (boxbase hnbn210_x98)
                have hDbn310_x98_bn210_x98 : ∀ k ∈ [bn310_x98], k ∉ [bn210_x98] := disj_new (boxlt hBbn310_x98) (boxbase hnbn210_x98)
                have hZbn210_x98 : ∀ k ∈ [bn210_x98], z k = none := fresh_z hz (boxbase hnbn210_x98)
                have hNbn210_x98 : ∀ k ∈ [bn210_x98], w.heap.size ≤ k := newC (boxbase hnbn210_x98) hC.size
                have hz := hz.chg0 hcbn210_x98
                have hBb1 := hBb1.chg0 hcbn210_x98
                have hBbn310_x98 := hBbn310_x98.chg0 hcbn210_x98
                have hC := hC.then hcbn210_x98 (by simp)
                exact An_fr [(0, .slice Aa0 a0.length ca0), (1, .slice Aa1 a1.length ca1), (4, .bool a4), (7, .pointer (some ⟨b1, 0, none⟩)), (11, .complex .f64 (((sizeS a0 a1 a2).1).re).bits (((sizeS a0 a1 a2).1).im).bits), (13, .int .i64 a2.Cols), (14, .int .i64 (1 + ((a3 % 65536) % (a2.Cols - 1)))), (15, .pointer (some ⟨bn210_x98, 0, none⟩)), (16, .pointer (some ⟨bn310_x98, 0, none⟩)), (60, .agg #[.int .i64 a2.Row, .int .i64 a2.Col, .int .i64 a2.Rows, .int .i64 a2.Cols])] rfl (hI10_x98_6 w159 bn210_x98 bn310_x98 hz hC hBb1 hBbn210_x98 hBbn310_x98 hNbn210_x98 hZbn210_x98 hNbn310_x98 hZbn310_x98 hDb1_bn210_x98 hDb1_bn310_x98 (disj_sym hDbn310_x98_bn210_x98))
            have hI10_x98_11 : ∀ (w105 : World) (bn210_x98 : Nat) (hz : Sub z w105) (hC : Chg [] w w105) (hBb1 : Box w105 b1 30 [.int .i64 a2.Row, .int .i64 a2.Col, .int .i64 a2.Rows, .int .i64 a2.Cols]) (hBbn210_x98 : Box w105 bn210_x98 30 [.int .i64 0, .int .i64 0, .int .i64 0, .int .i64 0]) (hNbn210_x98 : ∀ k ∈ [bn210_x98], w.heap.size ≤ k) (hZbn210_x98 : ∀ k ∈ [bn210_x98], z k = none) (hDb1_bn210_x98 : ∀ k ∈ [b1], k ∉ [bn210_x98]), A_w96 4 #[false, true, true, false, false, false] [(0, .slice Aa0 a0.length ca0), (1, .slice Aa1 a1.length ca1), (4, .bool a4), (7, .pointer (some ⟨b1, 0, none⟩)), (11, .complex .f64 (((sizeS a0 a1 a2).1).re).bits (((sizeS a0 a1 a2).1).im).bits), (13, .int .i64 a2.Cols), (14, .int .i64 (1 + ((a3 % 65536) % (a2.Cols - 1)))), (15, .pointer (some ⟨bn210_x98, 0, none⟩)), (61, .agg #[.int .i64 a2.Row, .int .i64 a2.Col, .int .i64 a2.Rows, .int .i64 a2.Cols])] w105 := by
              intro w105 bn210_x98 hz hC hBb1 hBbn210_x98 hNbn210_x98 hZbn210_x98 hDb1_bn210_x98
              refine An_any [0, 3] (by decide +kernel) (by decide) (List.forall_mem_cons.2 ⟨?_, (List.forall_mem_cons.2 ⟨?_, (fun _ h => by cases h)⟩)⟩)
              · refine ⟨_, rfl, by decide, ?_⟩
                refine Sv_val rfl (R_loadN (cs := [.int .i64 a2.Row, .int .i64 a2.Col, .int .i64 a2.Rows, .int .i64 a2.Cols]) rfl rfl agg30 size30 rfl (boxcells hBb1 0 rfl)) ?_
                exact An_fr [(0, .slice Aa0 a0.length ca0), (1, .slice Aa1 a1.length ca1), (4, .bool a4), (7, .pointer (some ⟨b1, 0, none⟩)), (11, .complex .f64 (((sizeS a0 a1 a2).1).re).bits (((sizeS a0 a1 a2).1).im).bits), (13, .int .i64 a2.Cols), (14, .int .i64 (1 + ((a3 % 65536) % (a2.Cols - 1)))), (15, .pointer (some ⟨bn210_x98, 0, none⟩)), (60, .agg #[.int .i64 a2.Row, .int .i64 a2.Col, .int .i64 a2.Rows, .int .i64 a2.Cols]), (61, .agg #[.int .i64 a2.Row, .int .i64 a2.Col, .int .i64 a2.Rows, .int .i64 a2.Cols])] rfl (hI10_x98_4 w105 bn210_x98 hz hC hBb1 hBbn210_x98 hNbn210_x98 hZbn210_x98 hDb1_bn210_x98)
              · refine ⟨_, rfl, by decide, ?_⟩
                refine Sv_box rfl (R_alloc rfl alloc30) (fun bn310_x98 w160 hcbn310_x98 hnbn310_x98 hBbn310_x98 => ?_)
                have hDb1_bn310_x98 : ∀ k ∈ [b1], k ∉ [bn310_x98] := disj_new (boxlt hBb1) (boxbase hnbn310_x98)
                have hDbn210_x98_bn310_x98 : ∀ k ∈ [bn210_x98], k ∉ [bn310_x98] := disj_new (boxlt hBbn210_x98) (boxbase hnbn310_x98)
                have hZbn310_x98 : ∀ k ∈ [bn310_x98], z k = none := fresh_z hz (boxbase hnbn310_x98)
                have hNbn310_x98 : ∀ k ∈ [bn310_x98], w.heap.size ≤ k := newC (boxbase hnbn310_x98) hC.size
                have hz := hz.chg0 hcbn310_x98
                have hBb1 := hBb1.chg0 hcbn310_x98
                have hBbn210_x98 := hBbn210_x98.chg0 hcbn310_x98
                have hC := hC.then hcbn310_x98 (by simp)
                exact An_fr [(0, .slice Aa0 a0.length ca0), (1, .slice Aa1 a1.length ca1), (4, .bool a4), (7, .pointer (some ⟨b1, 0, none⟩)), (11, .complex .f64 (((sizeS a0 a1 a2).1).re).bits (((sizeS a0 a1 a2).1).im).bits), (13, .int .i64 a2.Cols), (14, .int .i64 (1 + ((a3 % 65536) % (a2.Cols - 1)))), (15, .pointer (some ⟨bn210_x98, 0, none⟩)), (16, .pointer (some ⟨bn310_x98, 0, none⟩)), (61, .agg #[.int .i64 a2.Row, .int .i64 a2.Col, .int .i64 a2.Rows, .int .i64 a2.Cols])] rfl (hI10_x98_7 w160 bn210_x98 bn310_x98 hz hC hBb1 hBbn210_x98 hBbn310_x98 hNbn210_x98 hZbn210_x98 hNbn310_x98 hZbn310_x98 hDb1_bn210_x98 hDb1_bn310_x98 hDbn210_x98_bn310_x98)
            have hI10_x98_12 : ∀ (w104 : World) (bn310_x98 : Nat) (hz : Sub z w104) (hC : Chg [] w w104) (hBb1 : Box w104 b1 30 [.int .i64 a2.Row, .int .i64 a2.Col, .int .i64 a2.Rows, .int .i64 a2.Cols]) (hBbn310_x98 : Box w104 bn310_x98 30 [.int .i64 0, .int .i64 0, .int .i64 0, .int .i64 0]) (hNbn310_x98 : ∀ k ∈ [bn310_x98], w.heap.size ≤ k) (hZbn310_x98 : ∀ k ∈ [bn310_x98], z k = none) (hDb1_bn310_x98 : ∀ k ∈ [b1], k ∉ [bn310_x98]), A_w96 4 #[false, true, false, true, false, false] [(0, .slice Aa0 a0.length ca0), (1, .slice Aa1 a1.length ca1), (4, .bool a4), (7, .pointer (some ⟨b1, 0, none⟩)), (11, .complex .f64 (((sizeS a0 a1 a2).1).re).bits (((sizeS a0 a1 a2).1).im).bits), (13, .int .i64 a2.Cols), (14, .int .i64 (1 + ((a3 % 65536) % (a2.Cols - 1)))), (16, .pointer (some ⟨bn310_x98, 0, none⟩)), (61, .agg #[.int .i64 a2.Row, .int .i64 a2.Col, .int .i64 a2.Rows, .int .i64 a2.Cols])] w104 := by
              intro w104 bn310_x98 hz hC hBb1 hBbn310_x98 hNbn310_x98 hZbn310_x98 hDb1_bn310_x98
              refine An_any [0, 2] (by decide +kernel) (by decide) (List.forall_mem_cons.2 ⟨?_, (List.forall_mem_cons.2 ⟨?_, (fun _ h => by cases h)⟩)⟩)
              · refine ⟨_, rfl, by decide, ?_⟩
                refine Sv_val rfl (R_loadN (cs := [.int .i64 a2.Row, .int .i64 a2.Col, .int .i64 a2.Rows, .int .i64 a2.Cols]) rfl rfl agg30 size30 rfl (boxcells hBb1 0 rfl)) ?_
                exact An_fr [(0, .slice Aa0 a0.length ca0), (1, .slice Aa1 a1.length ca1), (4, .bool a4), (7, .pointer (some ⟨b1, 0, none⟩)), (11, .complex .f64 (((sizeS a0 a1 a2).1).re).bits (((sizeS a0 a1 a2).1).im).bits), (13, .int .i64 a2.Cols), (14, .int .i64 (1 + ((a3 % 65536) % (a2.Cols - 1)))), (16, .pointer (some ⟨bn310_x98, 0, none⟩)), (60, .agg #[.int .i64 a2.Row, .int .i64 a2.Col, .int .i64 a2.Rows, .int .i64 a2.Cols]), (61, .agg #[.int .i64 a2.Row, .int .i64 a2.Col, .int .i64 a2.Rows, .int .i64 a2.Cols])] rfl (hI10_x98_5 w104 bn310_x98 hz hC hBb1 hBbn310_x98 hNbn310_x98 hZbn310_x98 hDb1_bn310_x98)
              · refine ⟨_, rfl, by decide, ?_⟩
                refine Sv_box rfl (R_alloc rfl alloc30) (fun bn210_x98 w161 hcbn210_x98 hnbn210_x98 hBbn210_x98 => ?_)
                have hDb1_bn210_x98 : ∀ k ∈ [b1], k ∉ [bn210_x98] := disj_new (boxlt hBb1) (boxbase hnbn210_x98)
                have hDbn310_x98_bn210_x98 : ∀ k ∈ [bn310_x98], k ∉ [bn210_x98] := disj_new (boxlt hBbn310_x98) (boxbase hnbn210_x98)
                have hZbn210_x98 : ∀ k ∈ [bn210_x98], z k = none := fresh_z hz (boxbase hnbn210_x98)
                have hNbn210_x98 : ∀ k ∈ [bn210_x98], w.heap.size ≤ k := newC (boxbase hnbn210_x98) hC.size
                have hz := hz.chg0 hcbn210_x98
                have hBb1 := hBb1.chg0 hcbn210_x98
                have hBbn310_x98 := hBbn310_x98.chg0 hcbn210_x98
                have hC := hC.then hcbn210_x98 (by simp)
                exact An_fr [(0, .slice Aa0 a0.length ca0), (1, .slice Aa1 a1.length ca1), (4, .bool a4), (7, .pointer (some ⟨b1, 0, none⟩)), (11, .complex .f64 (((sizeS a0 a1 a2).1).re).bits (((sizeS a0 a1 a2).1).im).bits), (13, .int .i64 a2.Cols), (14, .int .i64 (1 + ((a3 % 65536) % (a2.Cols - 1)))), (15, .pointer (some ⟨bn210_x98, 0, none⟩)), (16, .pointer (some ⟨bn310_x98, 0, none⟩)), (61, .agg #[.int .i64 a2.Row, .int .i64 a2.Col, .int .i64 a2.Rows, .int .i64 a2.Cols])] rfl (hI10_x98_7 w161 bn210_x98 bn310_x98 hz hC hBb1 hBbn210_x98 hBbn310_x98 hNbn210_x98 hZbn210_x98 hNbn310_x98 hZbn310_x98 hDb1_bn210_x98 hDb1_bn310_x98 (disj_sym hDbn310_x98_bn210_x98))
            have hI10_x98_13 : ∀ (w101 : World) (bn210_x98 : Nat) (bn310_x98 : Nat) (hz : Sub z w101) (hC : Chg [] w w101) (hBb1 : Box w101 b1 30 [.int .i64 a2.Row, .int .i64 a2.Col, .int .i64 a2.Rows, .int .i64 a2.Cols]) (hBbn210_x98 : Box w101 bn210_x98 30 [.int .i64 0, .int .i64 0, .int .i64 0, .int .i64 0]) (hBbn310_x98 : Box w101 bn310_x98 30 [.int .i64 0, .int .i64 0, .int .i64 0, .int .i64 0]) (hNbn210_x98 : ∀ k ∈ [bn210_x98], w.heap.size ≤ k) (hZbn210_x98 : ∀ k ∈ [bn210_x98], z k = none) (hNbn310_x98 : ∀ k ∈ [bn310_x98], w.heap.size ≤ k) (hZbn310_x98 : ∀ k ∈ [bn310_x98], z k = none) (hDb1_bn210_x98 : ∀ k ∈ [b1], k ∉ [bn210_x98]) (hDb1_bn310_x98 : ∀ k ∈ [b1], k ∉ [bn310_x98]) (hDbn210_x98_bn310_x98 : ∀ k ∈ [bn210_x98], k ∉ [bn310_x98]), A_w96 4 #[false, false, true, true, false, false] [(0, .slice Aa0 a0.length ca0), (1, .slice Aa1 a1.length ca1), (4, .bool a4), (7, .pointer (some ⟨b1, 0, none⟩)), (11, .complex .f64 (((sizeS a0 a1 a2).1).re).bits (((sizeS a0 a1 a2).1).im).bits), (13, .int .i64 a2.Cols), (14, .int .i64 (1 + ((a3 % 65536) % (a2.Cols - 1)))), (15, .pointer (some ⟨bn210_x98, 0, none⟩)), (16, .pointer (some ⟨bn310_x98, 0, none⟩))] w101 := by
              intro w101 bn210_x98 bn310_x98 hz hC hBb1 hBbn210_x98 hBbn310_x98 hNbn210_x98 hZbn210_x98 hNbn310_x98 hZbn310_x98 hDb1_bn210_x98 hDb1_bn310_x98 hDbn210_x98_bn310_x98
              refine An_any [0, 1] (by decide +kernel) (by decide) (List.forall_mem_cons.2 ⟨?_, (List.forall_mem_cons.2 ⟨?_, (fun _ h => by cases h)⟩)⟩)
              · refine ⟨_, rfl, by decide, ?_⟩
                refine Sv_val rfl (R_loadN (cs := [.int .i64 a2.Row, .int .i64 a2.Col, .int .i64 a2.Rows, .int .i64 a2.Cols]) rfl rfl agg30 size30 rfl (boxcells hBb1 0 rfl)) ?_
                exact An_fr [(0, .slice Aa0 a0.length ca0), (1, .slice Aa1 a1.length ca1), (4, .bool a4), (7, .pointer (some ⟨b1, 0, none⟩)), (11, .complex .f64 (((sizeS a0 a1 a2).1).re).bits (((sizeS a0 a1 a2).1).im).bits), (13, .int .i64 a2.Cols), (14, .int .i64 (1 + ((a3 % 65536) % (a2.Cols - 1)))), (15, .pointer (some ⟨bn210_x98, 0, none⟩)), (16, .pointer (some ⟨bn310_x98, 0, none⟩)), (60, .agg #[.int .i64 a2.Row, .int .i64 a2.Col, .int .i64 a2.Rows, .int .i64 a2.Cols])] rfl (hI10_x98_6 w101 bn210_x98 bn310_x98 hz hC hBb1 hBbn210_x98 hBbn310_x98 hNbn210_x98 hZbn210_x98 hNbn310_x98 hZbn310_x98 hDb1_bn210_x98 hDb1_bn310_x98 hDbn210_x98_bn310_x98)
              · refine ⟨_, rfl, by decide, ?_⟩
                refine Sv_val rfl (R_loadN (cs := [.int .i64 a2.Row, .int .i64 a2.Col, .int .i64 a2.Rows, .int .i64 a2.Cols]) rfl rfl agg30 size30 rfl (boxcells hBb1 0 rfl)) ?_
                exact An_fr [(0, .slice Aa0 a0.length ca0), (1, .slice Aa1 a1.length ca1), (4, .bool a4), (7, .pointer (some ⟨b1, 0, none⟩)), (11, .complex .f64 (((sizeS a0 a1 a2).1).re).bits (((sizeS a0 a1 a2).1).im).bits), (13, .int .i64 a2.Cols), (14, .int .i64 (1 + ((a3 % 65536) % (a2.Cols - 1)))), (15, .pointer (some ⟨bn210_x98, 0, none⟩)), (16, .pointer (some ⟨bn310_x98, 0, none⟩)), (61, .agg #[.int .i64 a2.Row, .int .i64 a2.Col, .int .i64 a2.Rows, .int .i64 a2.Cols])] rfl (hI10_x98_7 w101 bn210_x98 bn310_x98 hz hC hBb1 hBbn210_x98 hBbn310_x98 hNbn210_x98 hZbn210_x98 hNbn310_x98 hZbn310_x98 hDb1_bn210_x98 hDb1_bn310_x98 hDbn210_x98_bn310_x98)
            have hI10_x98_14 : ∀ (w96 : World) (hz : Sub z w96) (hC : Chg [] w w96) (hBb1 : Box w96 b1 30 [.int .i64 a2.Row, .int .i64 a2.Col, .int .i64 a2.Rows, .int .i64 a2.Cols]), A_w96 5 #[true, false, false, false, false, false] [(0, .slice Aa0 a0.length ca0), (1, .slice Aa1 a1.length ca1), (4, .bool a4), (7, .pointer (some ⟨b1, 0, none⟩)), (11, .complex .f64 (((sizeS a0 a1 a2).1).re).bits (((sizeS a0 a1 a2).1).im).bits), (13, .int .i64 a2.Cols), (14, .int .i64 (1 + ((a3 % 65536) % (a2.Cols - 1)))), (60, .agg #[.int .i64 a2.Row, .int .i64 a2.Col, .int .i64 a2.Rows, .int .i64 a2.Cols])] w96 := by
              intro w96 hz hC hBb1
              refine An_any [1, 2, 3] (by decide +kernel) (by decide) (List.forall_mem_cons.2 ⟨?_, (List.forall_mem_cons.2 ⟨?_, (List.forall_mem_cons.2 ⟨?_, (fun _ h => by cases h)⟩)⟩)⟩)
              · refine ⟨_, rfl, by decide, ?_⟩
                refine Sv_val rfl (R_loadN (cs := [.int .i64 a2.Row, .int .i64 a2.Col, .int .i64 a2.Rows, .int .i64 a2.Cols]) rfl rfl agg30 size30 rfl (boxcells hBb1 0 rfl)) ?_
                exact An_fr [(0, .slice Aa0 a0.length ca0), (1, .slice Aa1 a1.length ca1), (4, .bool a4), (7, .pointer (some ⟨b1, 0, none⟩)), (11, .complex .f64 (((sizeS a0 a1 a2).1).re).bits (((sizeS a0 a1 a2).1).im).bits), (13, .int .i64 a2.Cols), (14, .int .i64 (1 + ((a3 % 65536) % (a2.Cols - 1)))), (60, .agg #[.int .i64 a2.Row, .int .i64 a2.Col, .int .i64 a2.Rows, .int .i64 a2.Cols]), (61, .agg #[.int .i64 a2.Row, .int .i64 a2.Col, .int .i64 a2.Rows, .int .i64 a2.Cols])] rfl (hI10_x98_8 w96 hz hC hBb1)
              · refine ⟨_, rfl, by decide, ?_⟩
                refine Sv_box rfl (R_alloc rfl alloc30) (fun bn210_x98 w162 hcbn210_x98 hnbn210_x98 hBbn210_x98 => ?_)
                have hDb1_bn210_x98 : ∀ k ∈ [b1], k ∉ [bn210_x98] := disj_new (boxlt hBb1) (boxbase hnbn210_x98)
                have hZbn210_x98 : ∀ k ∈ [bn210_x98], z k = none := fresh_z hz (boxbase hnbn210_x98)
                have hNbn210_x98 : ∀ k ∈ [bn210_x98], w.heap.size ≤ k := newC (boxbase hnbn210_x98) hC.size
                have hz := hz.chg0 hcbn210_x98
                have hBb1 := hBb1.chg0 hcbn210_x98
                have hC := hC.then hcbn210_x98 (by simp)
                exact An_fr [(0, .slice Aa0 a0.length ca0), (1, .slice Aa1 a1.length ca1), (4, .bool a4), (7, .pointer (some ⟨b1, 0, none⟩)), (11, .complex .f64 (((sizeS a0 a1 a2).1).re).bits (((sizeS a0 a1 a2).1).im).bits), (13, .int .i64 a2.Cols), (14, .int .i64 (1 + ((a3 % 65536) % (a2.Cols - 1)))), (15, .pointer (some ⟨bn210_x98, 0, none⟩)), (60, .agg #[.int .i64 a2.Row, .int .i64 a2.Col, .int .i64 a2.Rows, .int .i64 a2.Cols])] rfl (hI10_x98_9 w162 bn210_x98 hz hC hBb1 hBbn210_x98 hNbn210_x98 hZbn210_x98 hDb1_bn210_x98)
              · refine ⟨_, rfl, by decide, ?_⟩
                refine Sv_box rfl (R_alloc rfl alloc30) (fun bn310_x98 w163 hcbn310_x98 hnbn310_x98 hBbn310_x98 => ?_)
                have hDb1_bn310_x98 : ∀ k ∈ [b1], k ∉ [bn310_x98] := disj_new (boxlt hBb1) (boxbase hnbn310_x98)
                have hZbn310_x98 : ∀ k ∈ [bn310_x98], z k = none := fresh_z hz (boxbase hnbn310_x98)
                have hNbn310_x98 : ∀ k ∈ [bn310_x98], w.heap.size ≤ k := newC (boxbase hnbn310_x98) hC.size
                have hz := hz.chg0 hcbn310_x98
                have hBb1 := hBb1.chg0 hcbn310_x98
                have hC := hC.then hcbn310_x98 (by simp)
                exact An_fr [(0, .slice Aa0 a0.length ca0), (1, .slice Aa1 a1.length ca1), (4, .bool a4), (7, .pointer (some ⟨b1, 0, none⟩)), (11, .complex .f64 (((sizeS a0 a1 a2).1).re).bits (((sizeS a0 a1 a2).1).im).bits), (13, .int .i64 a2.Cols), (14, .int .i64 (1 + ((a3 % 65536) % (a2.Cols - 1)))), (16, .pointer (some ⟨bn310_x98, 0, none⟩)), (60, .agg #[.int .i64 a2.Row, .int .i64 a2.Col, .int .i64 a2.Rows, .int .i64 a2.Cols])] rfl (hI10_x98_10 w163 bn310_x98 hz hC hBb1 hBbn310_x98 hNbn310_x98 hZbn310_x98 hDb1_bn310_x98)
            have hI10_x98_15 : ∀ (w96 : World) (hz : Sub z w96) (hC : Chg [] w w96) (hBb1 : Box w96 b1 30 [.int .i64 a2.Row, .int .i64 a2.Col, .int .i64 a2.Rows, .int .i64 a2.Cols]), A_w96 5 #[false, true, false, false, false, false] [(0, .slice Aa0 a0.length ca0), (1, .slice Aa1 a1.length ca1), (4, .bool a4), (7, .pointer (some ⟨b1, 0, none⟩)), (11, .complex .f64 (((sizeS a0 a1 a2).1).re).bits (((sizeS a0 a1 a2).1).im).bits), (13, .int .i64 a2.Cols), (14, .int .i64 (1 + ((a3 % 65536) % (a2.Cols - 1)))), (61, .agg #[.int .i64 a2.Row, .int .i64 a2.Col, .int .i64 a2.Rows, .int .i64 a2.Cols])] w96 := by
              intro w96 hz hC hBb1
              refine An_any [0, 2, 3] (by decide +kernel) (by decide) (List.forall_mem_cons.2 ⟨?_, (List.forall_mem_cons.2 ⟨?_, (List.forall_mem_cons.2 ⟨?_, (fun _ h => by cases h)⟩)⟩)⟩)
              · refine ⟨_, rfl, by decide, ?_⟩
                refine Sv_val rfl (R_loadN (cs := [.int .i64 a2.Row, .int .i64 a2.Col, .int .i64 a2.Rows, .int .i64 a2.Cols]) rfl rfl agg30 size30 rfl (boxcells hBb1 0 rfl)) ?_
                exact An_fr [(0, .slice Aa0 a0.length ca0), (1, .slice Aa1 a1.length ca1), (4, .bool a4), (7, .pointer (some ⟨b1, 0, none⟩)), (11, .complex .f64 (((sizeS a0 a1 a2).1).re).bits (((sizeS a0 a1 a2).1).im).bits), (13, .int .i64 a2.Cols), (14, .int .i64 (1 + ((a3 % 65536) % (a2.Cols - 1)))), (60, .agg #[.int .i64 a2.Row, .int .i64 a2.Col, .int .i64 a2.Rows, .int .i64 a2.Cols]), (61, .agg #[.int .i64 a2.Row, .int .i64 a2.Col, .int .i64 a2.Rows, .int .i64 a2.Cols])] rfl (hI10_x98_8 w96 hz hC hBb1)
              · refine ⟨_, rfl, by decide, ?_⟩
                refine Sv_box rfl (R_alloc rfl alloc30) (fun bn210_x98 w164 hcbn210_x98 hnbn210_x98 hBbn210_x98 => ?_)
                have hDb1_bn210_x98 : ∀ k ∈ [b1], k ∉ [bn210_x98] := disj_new (boxlt hBb1) (boxbase hnbn210_x98)
                have hZbn210_x98 : ∀ k ∈ [bn210_x98], z k = none := fresh_z hz (boxbase hnbn210_x98)
                have hNbn210_x98 : ∀ k ∈ [bn210_x98], w.heap.size ≤ k := newC (boxbase hnbn210_x98) hC.size
                have hz := hz.chg0 hcbn210_x98
                have hBb1 := hBb1.chg0 hcbn210_x98
                have hC := hC.then hcbn210_x98 (by simp)
                exact An_fr [(0, .slice Aa0 a0.length ca0), (1, .slice Aa1 a1.length ca1), (4, .bool a4), (7, .pointer (some ⟨b1, 0, none⟩)), (11, .complex .f64 (((sizeS a0 a1 a2).1).re).bits (((sizeS a0 a1 a2).1).im).bits), (13, .int .i64 a2.Cols), (14, .int .i64 (1 + ((a3 % 65536) % (a2.Cols - 1)))), (15, .pointer (some ⟨bn210_x98, 0, none⟩)), (61, .agg #[.int .i64 a2.Row, .int .i64 a2.Col, .int .i64 a2.Rows, .int .i64 a2.Cols])] rfl (hI10_x98_11 w164 bn210_x98 hz hC hBb1 hBbn210_x98 hNbn210_x98 hZbn210_x98 hDb1_bn210_x98)
              · refine ⟨_, rfl, by decide, ?_⟩
                refine Sv_box rfl (R_alloc rfl alloc30) (fun bn310_x98 w165 hcbn310_x98 hnbn310_x98 hBbn310_x98 => ?_)
                have hDb1_bn310_x98 : ∀ k ∈ [b1], k ∉ [bn310_x98] := disj_new (boxlt hBb1) (boxbase hnbn310_x98)
                have hZbn310_x98 : ∀ k ∈ [bn310_x98], z k = none := fresh_z hz (boxbase hnbn310_x98)
                have hNbn310_x98 : ∀ k ∈ [bn310_x98], w.heap.size ≤ k := newC (boxbase hnbn310_x98) hC.size
                have hz := hz.chg0 hcbn310_x98
                have hBb1 := hBb1.chg0 hcbn310_x98
                have hC := hC.then hcbn310_x98 (by simp)
                exact An_fr [(0, .slice Aa0 a0.length ca0), (1, .slice Aa1 a1.length ca1), (4, .bool a4), (7, .pointer (some ⟨b1, 0, none⟩)), (11, .complex .f64 (((sizeS a0 a1 a2).1).re).bits (((sizeS a0 a1 a2).1).im).bits), (13, .int .i64 a2.Cols), (14, .int .i64 (1 + ((a3 % 65536) % (a2.Cols - 1)))), (16, .pointer (some ⟨bn310_x98, 0, none⟩)), (61, .agg #[.int .i64 a2.Row, .int .i64 a2.Col, .int .i64 a2.Rows, .int .i64 a2.Cols])] rfl (hI10_x98_12 w165 bn310_x98 hz hC hBb1 hBbn310_x98 hNbn310_x98 hZbn310_x98 hDb1_bn310_x98)
            have hI10_x98_16 : ∀ (w99 : World) (bn210_x98 : Nat) (hz : Sub z w99) (hC : Chg [] w w99) (hBb1 : Box w99 b1 30 [.int .i64 a2.Row, .int .i64 a2.Col, .int .i64 a2.Rows, .int .i64 a2.Cols]) (hBbn210_x98 : Box w99 bn210_x98 30 [.int .i64 0, .int .i64 0, .int .i64 0, .int .i64 0]) (hNbn210_x98 : ∀ k ∈ [bn210_x98], w.heap.size ≤ k) (hZbn210_x98 : ∀ k ∈ [bn210_x98], z k = none) (hDb1_bn210_x98 : ∀ k ∈ [b1], k ∉ [bn210_x98]), A_w96 5 #[false, false, true, false, false, false] [(0, .slice Aa0 a0.length ca0), (1, .slice Aa1 a1.length ca1), (4, .bool a4), (7, .pointer (some ⟨b1, 0, none⟩)), (11, .complex .f64 (((sizeS a0 a1 a2).1).re).bits (((sizeS a0 a1 a2).1).im).bits), (13, .int .i64 a2.Cols), (14, .int .i64 (1 + ((a3 % 65536) % (a2.Cols - 1)))), (15, .pointer (some ⟨bn210_x98, 0, none⟩))] w99 := by
              intro w99 bn210_x98 hz hC hBb1 hBbn210_x98 hNbn210_x98 hZbn210_x98 hDb1_bn210_x98
              refine An_any [0, 1, 3] (by decide +kernel) (by decide) (List.forall_mem_cons.2 ⟨?_, (List.forall_mem_cons.2 ⟨?_, (List.forall_mem_cons.2 ⟨?_, (fun _ h => by cases h)⟩)⟩)⟩)
              · refine ⟨_, rfl, by decide, ?_⟩
                refine Sv_val rfl (R_loadN (cs := [.int .i64 a2.Row, .int .i64 a2.Col, .int .i64 a2.Rows, .int .i64 a2.Cols]) rfl rfl agg30 size30 rfl (boxcells hBb1 0 rfl)) ?_
                exact An_fr [(0, .slice Aa0 a0.length ca0), (1, .slice Aa1 a1.length ca1), (4, .bool a4), (7, .pointer (some ⟨b1, 0, none⟩)), (11, .complex .f64 (((sizeS a0 a1 a2).1).re).bits (((sizeS a0 a1 a2).1).im).bits), (13, .int .i64 a2.Cols), (14, .int .i64 (1 + ((a3 % 65536) % (a2.Cols - 1)))), (15, .pointer (some ⟨bn210_x98, 0, none⟩)), (60, .agg #[.int .i64 a2.Row, .int .i64 a2.Col, .int .i64 a2.Rows, .int .i64 a2.Cols])] rfl (hI10_x98_9 w99 bn210_x98 hz hC hBb1 hBbn210_x98 hNbn210_x98 hZbn210_x98 hDb1_bn210_x98)
              · refine ⟨_, rfl, by decide, ?_⟩
                refine Sv_val rfl (R_loadN (cs := [.int .i64 a2.Row, .int .i64 a2.Col, .int .i64 a2.Rows, .int .i64 a2.Cols]) rfl rfl agg30 size30 rfl (boxcells hBb1 0 rfl)) ?_
                exact An_fr [(0, .slice Aa0 a0.length ca0), (1, .slice Aa1 a1.length ca1), (4, .bool a4), (7, .pointer (some ⟨b1, 0, none⟩)), (11, .complex .f64 (((sizeS a0 a1 a2).1).re).bits (((sizeS a0 a1 a2).1).im).bits), (13, .int .i64 a2.Cols), (14, .int .i64 (1 + ((a3 % 65536) % (a2.Cols - 1)))), (15, .pointer (some ⟨bn210_x98, 0, none⟩)), (61, .agg #[.int .i64 a2.Row, .int .i64 a2.Col, .int .i64 a2.Rows, .int .i64 a2.Cols])] rfl (hI10_x98_11 w99 bn210_x98 hz hC hBb1 hBbn210_x98 hNbn210_x98 hZbn210_x98 hDb1_bn210_x98)
              · refine ⟨_, rfl, by decide, ?_⟩
                refine Sv_box rfl (R_alloc rfl alloc30) (fun bn310_x98 w166 hcbn310_x98 hnbn310_x98 hBbn310_x98 => ?_)
                have hDb1_bn310_x98 : ∀ k ∈ [b1], k ∉ [bn310_x98] := disj_new (boxlt hBb1) (boxbase hnbn310_x98)
                have hDbn210_x98_bn310_x98 : ∀ k ∈ [bn210_x98], k ∉ [bn310_x98] := disj_new (boxlt hBbn210_x98) (boxbase hnbn310_x98)
                have hZbn310_x98 : ∀ k ∈ [bn310_x98], z k = none := fresh_z hz (boxbase hnbn310_x98)
                have hNbn310_x98 : ∀ k ∈ [bn310_x98], w.heap.size ≤ k := newC (boxbase hnbn310_x98) hC.size
                have hz := hz.chg0 hcbn310_x98
                have hBb1 := hBb1.chg0 hcbn310_x98
                have hBbn210_x98 := hBbn210_x98.chg0 hcbn310_x98
                have hC := hC.then hcbn310_x98 (by simp)
                exact An_fr [(0, .slice Aa0 a0.length ca0), (1, .slice Aa1 a1.length ca1), (4, .bool a4), (7, .pointer (some ⟨b1, 0, none⟩)), (11, .complex .f64 (((sizeS a0 a1 a2).1).re).bits (((sizeS a0 a1 a2).1).im).bits), (13, .int .i64 a2.Cols), (14, .int .i64 (1 + ((a3 % 65536) % (a2.Cols - 1)))), (15, .pointer (some ⟨bn210_x98, 0, none⟩)), (16, .pointer (some ⟨bn310_x98, 0, none⟩))] rfl (hI10_x98_13 w166 bn210_x98 bn310_x98 hz hC hBb1 hBbn210_x98 hBbn310_x98 hNbn210_x98 hZbn210_x98 hNbn310_x98 hZbn310_x98 hDb1_bn210_x98 hDb1_bn310_x98 hDbn210_x98_bn310_x98)
            have hI10_x98_17 : ∀ (w100 : World) (bn310_x98 : Nat) (hz : Sub z w100) (hC : Chg [] w w100) (hBb1 : Box w100 b1 30 [.int .i64 a2.Row, .int .i64 a2.Col, .int .i64 a2.Rows, .int .i64 a2.Cols]) (hBbn310_x98 : Box w100 bn310_x98 30 [.int .i64 0, .int .i64 0, .int .i64 0, .int .i64 0]) (hNbn310_x98 : ∀ k ∈ [bn310_x98], w.heap.size ≤ k) (hZbn310_x98 : ∀ k ∈ [bn310_x98], z k = none) (hDb1_bn310_x98 : ∀ k ∈ [b1], k ∉ [bn310_x98]), A_w96 5 #[false, false, false, true, false, false] [(0, .slice Aa0 a0.length ca0), (1, .slice Aa1 a1.length ca1), (4, .bool a4), (7, .pointer (some ⟨b1, 0, none⟩)), (11, .complex .f64 (((sizeS a0 a1 a2).1).re).bits (((sizeS a0 a1 a2).1).im).bits), (13, .int .i64 a2.Cols), (14, .int .i64 (1 + ((a3 % 65536) % (a2.Cols - 1)))), (16, .pointer (some ⟨bn310_x98, 0, none⟩))] w100 := by
              intro w100 bn310_x98 hz hC hBb1 hBbn310_x98 hNbn310_x98 hZbn310_x98 hDb1_bn310_x98
              refine An_any [0, 1, 2] (by decide +kernel) (by decide) (List.forall_mem_cons.2 ⟨?_, (List.forall_mem_cons.2 ⟨?_, (List.forall_mem_cons.2 ⟨?_, (fun _ h => by cases h)⟩)⟩)⟩)
              · refine ⟨_, rfl, by decide, ?_⟩
                refine Sv_val rfl (R_loadN (cs := [.int .i64 a2.Row, .int .i64 a2.Col, .int .i64 a2.Rows, .int .i64 a2.Cols]) rfl rfl agg30 size30 rfl (boxcells hBb1 0 rfl)) ?_
                exact An_fr [(0, .slice Aa0 a0.length ca0), (1, .slice Aa1 a1.length ca1), (4, .bool a4), (7, .pointer (some ⟨b1, 0, none⟩)), (11, .complex .f64 (((sizeS a0 a1 a2).1).re).bits (((sizeS a0 a1 a2).1).im).bits), (13, .int .i64 a2.Cols), (14, .int .i64 (1 + ((a3 % 65536) % (a2.Cols - 1)))), (16, .pointer (some ⟨bn310_x98, 0, none⟩)), (60, .agg #[.int .i64 a2.Row, .int .i64 a2.Col, .int .i64 a2.Rows, .int .i64 a2.Cols])] rfl (hI10_x98_10 w100 bn310_x98 hz hC hBb1 hBbn310_x98 hNbn310_x98 hZbn310_x98 hDb1_bn310_x98)
              · refine ⟨_, rfl, by decide, ?_⟩
                refine Sv_val rfl (R_loadN (cs := [.int .i64 a2.Row, .int .i64 a2.Col, .int .i64 a2.Rows, .int .i64 a2.Cols]) rfl rfl agg30 size30 rfl (boxcells hBb1 0 rfl)) ?_
                exact An_fr [(0, .slice Aa0 a0.length ca0), (1, .slice Aa1 a1.length ca1), (4, .bool a4), (7, .pointer (some ⟨b1, 0, none⟩)), (11, .complex .f64 (((sizeS a0 a1 a2).1).re).bits (((sizeS a0 a1 a2).1).im).bits), (13, .int .i64 a2.Cols), (14, .int .i64 (1 + ((a3 % 65536) % (a2.Cols - 1)))), (16, .pointer (some ⟨bn310_x98, 0, none⟩)), (61, .agg #[.int .i64 a2.Row, .int .i64 a2.Col, .int .i64 a2.Rows, .int .i64 a2.Cols])] rfl (hI10_x98_12 w100 bn310_x98 hz hC hBb1 hBbn310_x98 hNbn310_x98 hZbn310_x98 hDb1_bn310_x98)
              · refine ⟨_, rfl, by decide, ?_⟩
                refine Sv_box rfl (R_alloc rfl alloc30) (fun bn210_x98 w167 hcbn210_x98 hnbn210_x98 hBbn210_x98 => ?_)
                have hDb1_bn210_x98 : ∀ k ∈ [b1], k ∉ [bn210_x98] := disj_new (boxlt hBb1) (boxbase hnbn210_x98)
                have hDbn310_x98_bn210_x98 : ∀ k ∈ [bn310_x98], k ∉ [bn210_x98] := disj_new (boxlt hBbn310_x98) (boxbase hnbn210_x98)
                have hZbn210_x98 : ∀ k ∈ [bn210_x98], z k = none := fresh_z hz (boxbase hnbn210_x98)
                have hNbn210_x98 : ∀ k ∈ [bn210_x98], w.heap.size ≤ k := newC (boxbase hnbn210_x98) hC.size
                have hz := hz.chg0 hcbn210_x98
                have hBb1 := hBb1.chg0 hcbn210_x98
                have hBbn310_x98 := hBbn310_x98.chg0 hcbn210_x98
                have hC := hC.then hcbn210_x98 (by simp)
                exact An_fr [(0, .slice Aa0 a0.length ca0), (1, .slice Aa1 a1.length ca1), (4, .bool a4), (7, .pointer (some ⟨b1, 0, none⟩)), (11, .complex .f64 (((sizeS a0 a1 a2).1).re).bits (((sizeS a0 a1 a2).1).im).bits), (13, .int .i64 a2.Cols), (14, .int .i64 (1 + ((a3 % 65536) % (a2.Cols - 1)))), (15, .pointer (some ⟨bn210_x98, 0, none⟩)), (16, .pointer (some ⟨bn310_x98, 0, none⟩))] rfl (hI10_x98_13 w167 bn210_x98 bn310_x98 hz hC hBb1 hBbn210_x98 hBbn310_x98 hNbn210_x98 hZbn210_x98 hNbn310_x98 hZbn310_x98 hDb1_bn210_x98 hDb1_bn310_x98 (disj_sym hDbn310_x98_bn210_x98))
            refine An_any [0, 1, 2, 3] (by decide +kernel) (by decide) (List.forall_mem_cons.2 ⟨?_, (List.forall_mem_cons.2 ⟨?_, (List.forall_mem_cons.2 ⟨?_, (List.forall_mem_cons.2 ⟨?_, (fun _ h => by cases h)⟩)⟩)⟩)⟩)
            · refine ⟨_, rfl, by decide, ?_⟩
              refine Sv_val rfl (R_loadN (cs := [.int .i64 a2.Row, .int .i64 a2.Col, .int .i64 a2.Rows, .int .i64 a2.Cols]) rfl rfl agg30 size30 rfl (boxcells hBb1 0 rfl)) ?_
              exact An_fr [(0, .slice Aa0 a0.length ca0), (1, .slice Aa1 a1.length ca1), (4, .bool a4), (7, .pointer (some ⟨b1, 0, none⟩)), (11, .complex .f64 (((sizeS a0 a1 a2).1).re).bits (((sizeS a0 a1 a2).1).im).bits), (13, .int .i64 a2.Cols), (14, .int .i64 (1 + ((a3 % 65536) % (a2.Cols - 1)))), (60, .agg #[.int .i64 a2.Row, .int .i64 a2.Col, .int .i64 a2.Rows, .int .i64 a2.Cols])] rfl (hI10_x98_14 w96 hz hC hBb1)
            · refine ⟨_, rfl, by decide, ?_⟩
              refine Sv_val rfl (R_loadN (cs := [.int .i64 a2.Row, .int .i64 a2.Col, .int .i64 a2.Rows, .int .i64 a2.Cols]) rfl rfl agg30 size30 rfl (boxcells hBb1 0 rfl)) ?_
              exact An_fr [(0, .slice Aa0 a0.length ca0), (1, .slice Aa1 a1.length ca1), (4, .bool a4), (7, .pointer (some ⟨b1, 0, none⟩)), (11, .complex .f64 (((sizeS a0 a1 a2).1).re).bits (((sizeS a0 a1 a2).1).im).bits), (13, .int .i64 a2.Cols), (14, .int .i64 (1 + ((a3 % 65536) % (a2.Cols - 1)))), (61, .agg #[.int .i64 a2.Row, .int .i64 a2.Col, .int .i64 a2.Rows, .int .i64 a2.Cols])] rfl (hI10_x98_15 w96 hz hC hBb1)
            · refine ⟨_, rfl, by decide, ?_⟩
              refine Sv_box rfl (R_alloc rfl alloc30) (fun bn210_x98 w168 hcbn210_x98 hnbn210_x98 hBbn210_x98 => ?_)
              have hDb1_bn210_x98 : ∀ k ∈ [b1], k ∉ [bn210_x98] := disj_new (boxlt hBb1) (boxbase hnbn210_x98)
              have hZbn210_x98 : ∀ k ∈ [bn210_x98], z k = none := fresh_z hz (boxbase hnbn210_x98)
              have hNbn210_x98 : ∀ k ∈ [bn210_x98], w.heap.size ≤ k := newC (boxbase hnbn210_x98) hC.size
              have hz := hz.chg0 hcbn210_x98
              have hBb1 := hBb1.chg0 hcbn210_x98
              have hC := hC.then hcbn210_x98 (by simp)
              exact An_fr [(0, .slice Aa0 a0.length ca0), (1, .slice Aa1 a1.length ca1), (4, .bool a4), (7, .pointer (some ⟨b1, 0, none⟩)), (11, .complex .f64 (((sizeS a0 a1 a2).1).re).bits (((sizeS a0 a1 a2).1).im).bits), (13, .int .i64 a2.Cols), (14, .int .i64 (1 + ((a3 % 65536) % (a2.Cols - 1)))), (15, .pointer (some ⟨bn210_x98, 0, none⟩))] rfl (hI10_x98_16 w168 bn210_x98 hz hC hBb1 hBbn210_x98 hNbn210_x98 hZbn210_x98 hDb1_bn210_x98)
            · refine ⟨_, rfl, by decide, ?_⟩
              refine Sv_box rfl (R_alloc rfl alloc30) (fun bn310_x98 w169 hcbn310_x98 hnbn310_x98 hBbn310_x98 => ?_)
              have hDb1_bn310_x98 : ∀ k ∈ [b1], k ∉ [bn310_x98] := disj_new (boxlt hBb1) (boxbase hnbn310_x98)
              have hZbn310_x98 : ∀ k ∈ [bn310_x98], z k = none := fresh_z hz (boxbase hnbn310_x98)
              have hNbn310_x98 : ∀ k ∈ [bn310_x98], w.heap.size ≤ k := newC (boxbase hnbn310_x98) hC.size
              have hz := hz.chg0 hcbn310_x98
              have hBb1 := hBb1.chg0 hcbn310_x98
              have hC := hC.then hcbn310_x98 (by simp)
              exact An_fr [(0, .slice Aa0 a0.length ca0), (1, .slice Aa1 a1.length ca1), (4, .bool a4), (7, .pointer (some ⟨b1, 0, none⟩)), (11, .complex .f64 (((sizeS a0 a1 a2).1).re).bits (((sizeS a0 a1 a2).1).im).bits), (13, .int .i64 a2.Cols), (14, .int .i64 (1 + ((a3 % 65536) % (a2.Cols - 1)))), (16, .pointer (some ⟨bn310_x98, 0, none⟩))] rfl (hI10_x98_17 w169 bn310_x98 hz hC hBb1 hBbn310_x98 hNbn310_x98 hZbn310_x98 hDb1_bn310_x98)

end Go.Proofs.YtibniimdfahiiaaG
