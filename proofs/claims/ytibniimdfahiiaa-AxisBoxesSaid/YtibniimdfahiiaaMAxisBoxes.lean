/- The walk of the law AxisBoxes: it returns true. -/
import Derived.Test.YtibniimdfahiiaaX2
set_option linter.all false
namespace Go.Proofs.YtibniimdfahiiaaG
open Go Go.RowKit
set_option maxHeartbeats 4000000 in
set_option maxRecDepth 20000 in
theorem axisBoxes_calls (Aa0 : Option Addr) (ca0 : Nat) (a0 : List Int) (Aa1 : Option Addr) (ca1 : Nat) (a1 : List Int) (a2 : TRect) (z : Z) (w : World) (hz : Sub z w) (hra0 : Rd (kint .i64) z Aa0 a0) (hca0 : Cap Aa0 a0.length ca0) (hra1 : Rd (kint .i64) z Aa1 a1) (hca1 : Cap Aa1 a1.length ca1)  :
    Calls Try.prog 4 #[.slice Aa0 a0.length ca0, .slice Aa1 a1.length ca1, .agg #[.int .i64 a2.Row, .int .i64 a2.Col, .int .i64 a2.Rows, .int .i64 a2.Cols]] w fun e w' => e = .returned (.bool true) ∧ Chg [] w w' := by
  have hla0 := hca0.le
  have hma0 := hca0.mx
  have hla1 := hca1.le
  have hma1 := hca1.mx
  have hC := Chg.refl [] w
  refine Calls_of (vs := [.slice Aa0 a0.length ca0, .slice Aa1 a1.length ca1, .agg #[.int .i64 a2.Row, .int .i64 a2.Col, .int .i64 a2.Rows, .int .i64 a2.Cols]]) (N := 117) Try.func4 rfl rfl (Nat.le_of_ble_eq_true rfl) ?_
  refine C_seq ?_
  refine C_region ?_
  refine W_cons rfl (by decide) (Sv_box rfl (R_box (cs := [.int .i64 a2.Row, .int .i64 a2.Col, .int .i64 a2.Rows, .int .i64 a2.Cols]) rfl rfl rfl) (fun b1 w2 hcb1 hnb1 hBb1 => ?_))
  have hZb1 : ∀ k ∈ [b1], z k = none := fresh_z hz (boxbase hnb1)
  have hNb1 : ∀ k ∈ [b1], w.heap.size ≤ k := newC (boxbase hnb1) hC.size
  have hz := hz.chg0 hcb1
  have hC := hC.then hcb1 (by simp)
  refine W_cons rfl (by decide) (Sv_val rfl (R_assign rfl rfl) ?_)
  refine W_nil ?_
  refine E_then ?_
  refine C_seq ?_
  refine C_seq ?_
  refine C_region ?_
  refine W_cons rfl (by decide) (Sv_val rfl (R_move rfl rfl) ?_)
  refine W_cons rfl (by decide) (Sv_val rfl (R_len rfl rfl Try.underlying22) ?_)
  refine W_cons rfl (by decide) (Sv_val rfl (R_bin rfl rfl rfl rfl rfl) ?_)
  refine W_cons rfl (by decide) (Sv_val rfl (R_move rfl rfl) ?_)
  refine W_split (t := 20) rfl (fun hg3 => ?_) (fun hg3 => ?_)
  · have _hg3 := trivial
    have hg3p : (a0.length : Int) > 40 := by simpa using hg3
    refine W_cons rfl (by decide) (Sv_off rfl rfl rfl (by rw [hg3]; rfl) ?_)
    refine W_cons rfl (by decide) (Sv_off rfl rfl rfl (by rw [hg3]; rfl) ?_)
    refine W_cons rfl (by decide) (Sv_off rfl rfl rfl (by rw [hg3]; rfl) ?_)
    refine W_cons rfl (by decide) (Sv_val rfl (R_pick_t rfl rfl hg3 rfl) ?_)
    refine W_nil ?_
    refine E_then (C_fr [(0, .slice Aa0 a0.length ca0), (1, .slice Aa1 a1.length ca1), (5, .pointer (some ⟨b1, 0, none⟩)), (24, .bool true)] rfl ?_)
    refine C_if rfl rfl ?_
    refine C_seq ?_
    refine C_region ?_
    refine W_cons rfl (by decide) (Sv_call rfl rfl rfl ent12 ?_)
    refine (awake_calls   _   ).mono ?_
    rintro e_ w4 ⟨rfl, hc5⟩
    refine ⟨_, rfl, ?_⟩
    have hz := hz.chg0 hc5
    have hC := hC.then hc5 (by simp)
    refine W_cons rfl (by decide) (Sv_val rfl (R_assign rfl rfl) ?_)
    refine W_nil ?_
    refine E_then (C_fr [(6, .bool true)] rfl ?_)
    refine C_ret ?_
    refine E_then_ret ?_
    refine E_ret1 rfl rfl ?_
    exact ⟨Lret1 (Lbool (show true = true by rfl)), hC⟩
  · have _hg3 := trivial
    have hg3p : ¬ ((a0.length : Int) > 40) := by simpa using hg3
    refine W_cons rfl (by decide) (Sv_gt rfl rfl rfl hg3 (Sv_val rfl (R_move rfl rfl) ?_))
    refine W_cons rfl (by decide) (Sv_gt rfl rfl rfl hg3 (Sv_val rfl (R_len rfl rfl Try.underlying22) ?_))
    refine W_cons rfl (by decide) (Sv_gt rfl rfl rfl hg3 (Sv_val rfl (R_bin rfl rfl rfl rfl rfl) ?_))
    refine W_cons rfl (by decide) (Sv_val rfl (R_pick_f rfl rfl hg3 rfl) ?_)
    refine W_nil ?_
    refine E_then (C_fr [(0, .slice Aa0 a0.length ca0), (1, .slice Aa1 a1.length ca1), (5, .pointer (some ⟨b1, 0, none⟩)), (24, .bool (decide ((a1.length : Int) > 40)))] rfl ?_)
    refine C_ite rfl (fun hC0 => ?_) (fun hC0 => ?_)
    · have _hC0 := trivial
      have hC0p : (a1.length : Int) > 40 := by simpa using hC0
      refine C_seq ?_
      refine C_region ?_
      refine W_cons rfl (by decide) (Sv_call rfl rfl rfl ent12 ?_)
      refine (awake_calls   _   ).mono ?_
      rintro e_ w6 ⟨rfl, hc7⟩
      refine ⟨_, rfl, ?_⟩
      have hz := hz.chg0 hc7
      have hC := hC.then hc7 (by simp)
      refine W_cons rfl (by decide) (Sv_val rfl (R_assign rfl rfl) ?_)
      refine W_nil ?_
      refine E_then (C_fr [(6, .bool true)] rfl ?_)
      refine C_ret ?_
      refine E_then_ret ?_
      refine E_ret1 rfl rfl ?_
      exact ⟨Lret1 (Lbool (show true = true by rfl)), hC⟩
    · have _hC0 := trivial
      have hC0p : ¬ ((a1.length : Int) > 40) := by simpa using hC0
      refine C_skip ?_
      refine E_then ?_
      refine C_seq ?_
      refine C_region ?_
      refine W_cons rfl (by decide) (Sv_row (d := (kint .i64)) (z := zE) ([] : List Int) rfl (R_buildSlice (ps := []) (vs := []) (w' := w2.alloc (.cells [].toArray 3)) (r := .slice (some ⟨w2.heap.size, 0, none⟩) 0 0) rfl rfl rfl (by kernel_rfl)) (by simp [Reps, flat, kint]) rfl (by decide) (fun g8 w9 hcg8 hng8 hOg8 => ?_))
      have hOg8 := hOg8.lower hng8
      have hDb1_g8 : ∀ k ∈ [b1], k ∉ blk (some ⟨g8, 0, none⟩) := disj_new (boxlt hBb1) hOg8.base
      have hZg8 : ∀ k ∈ blk (some ⟨g8, 0, none⟩), z k = none := fresh_z hz hOg8.base
      have hNg8 : ∀ k ∈ blk (some ⟨g8, 0, none⟩), w.heap.size ≤ k := newC hOg8.base hC.size
      have hOg8 := hOg8.lower hC.size
      have hz := hz.chg0 hcg8
      have hBb1 := hBb1.chg0 hcg8
      have hC := hC.then hcg8 (by simp)
      have hmg8 := hOg8.cap.mx
      have hlg8 := hOg8.cap.le
      refine W_cons rfl (by decide) (Sv_val rfl (R_move rfl rfl) ?_)
      obtain ⟨nw12, hpnw12, hqnw12⟩ := hra0.cells hz
      refine W_cons rfl (by decide) (Sv_append rfl rfl elem22 rfl hOg8 rfl hca0.nil (Reps.to (z := z) (z' := zE) (fun _ _ h => h) hpnw12) hqnw12 (by (try simp only [List.length_cons, List.length_nil, maxLen]); omega) (by (try simp only [List.length_cons, List.length_nil, maxLen]); omega) hC.size (fun Ar10 cr10 w11 hOr10 hcr10 hkr10 => ?_))
      have hOr10 : Own (kint .i64) 3 w.heap.size zE w11 Ar10 cr10 a0 := hOr10
      have hZr10 := grown_z hz hZg8 hkr10
      have hDb1_r10 : ∀ k ∈ [b1], k ∉ blk Ar10 := disj_grown hDb1_g8 (boxlt hBb1) hkr10
      have hz := hz.chg hcr10 hZg8
      have hBb1 := hBb1.chg hcr10 (hDb1_g8 _ (List.mem_singleton_self _))
      have hC := hC.then hcr10 (fun i hi => .inr (hNg8 i hi))
      have hNr10 := hOr10.base
      have hmr10 := hOr10.cap.mx
      have hlr10 := hOr10.cap.le
      obtain ⟨z13, hz, hler10, hrr10, hnr10⟩ := (hOr10.mono (zle_E _)).freeze hz hZr10
      have hcpr10 := hOr10.cap
      have hZb1 : ∀ k ∈ [b1], z13 k = none := frozen_z hZb1 hDb1_r10 hnr10
      have hra0 := hra0.mono hler10
      have hra1 := hra1.mono hler10
      refine W_cons rfl (by decide) (Sv_row (d := (kint .i64)) (z := zE) ([] : List Int) rfl (R_buildSlice (ps := []) (vs := []) (w' := w11.alloc (.cells [].toArray 3)) (r := .slice (some ⟨w11.heap.size, 0, none⟩) 0 0) rfl rfl rfl (by kernel_rfl)) (by simp [Reps, flat, kint]) rfl (by decide) (fun g14 w15 hcg14 hng14 hOg14 => ?_))
      have hOg14 := hOg14.lower hng14
      have hDb1_g14 : ∀ k ∈ [b1], k ∉ blk (some ⟨g14, 0, none⟩) := disj_new (boxlt hBb1) hOg14.base
      have hZg14 : ∀ k ∈ blk (some ⟨g14, 0, none⟩), z13 k = none := fresh_z hz hOg14.base
      have hNg14 : ∀ k ∈ blk (some ⟨g14, 0, none⟩), w.heap.size ≤ k := newC hOg14.base hC.size
      have hOg14 := hOg14.lower hC.size
      have hz := hz.chg0 hcg14
      have hBb1 := hBb1.chg0 hcg14
      have hC := hC.then hcg14 (by simp)
      have hmg14 := hOg14.cap.mx
      have hlg14 := hOg14.cap.le
      refine W_cons rfl (by decide) (Sv_val rfl (R_move rfl rfl) ?_)
      obtain ⟨nw18, hpnw18, hqnw18⟩ := hra1.cells hz
      refine W_cons rfl (by decide) (Sv_append rfl rfl elem22 rfl hOg14 rfl hca1.nil (Reps.to (z := z13) (z' := zE) (fun _ _ h => h) hpnw18) hqnw18 (by (try simp only [List.length_cons, List.length_nil, maxLen]); omega) (by (try simp only [List.length_cons, List.length_nil, maxLen]); omega) hC.size (fun Ar16 cr16 w17 hOr16 hcr16 hkr16 => ?_))
      have hOr16 : Own (kint .i64) 3 w.heap.size zE w17 Ar16 cr16 a1 := hOr16
      have hZr16 := grown_z hz hZg14 hkr16
      have hDb1_r16 : ∀ k ∈ [b1], k ∉ blk Ar16 := disj_grown hDb1_g14 (boxlt hBb1) hkr16
      have hz := hz.chg hcr16 hZg14
      have hBb1 := hBb1.chg hcr16 (hDb1_g14 _ (List.mem_singleton_self _))
      have hC := hC.then hcr16 (fun i hi => .inr (hNg14 i hi))
      have hNr16 := hOr16.base
      have hmr16 := hOr16.cap.mx
      have hlr16 := hOr16.cap.le
      obtain ⟨z19, hz, hler16, hrr16, hnr16⟩ := (hOr16.mono (zle_E _)).freeze hz hZr16
      have hcpr16 := hOr16.cap
      have hZb1 : ∀ k ∈ [b1], z19 k = none := frozen_z hZb1 hDb1_r16 hnr16
      have hra0 := hra0.mono hler16
      have hra1 := hra1.mono hler16
      have hrr10 := hrr10.mono hler16
      refine W_cons rfl (by decide) (Sv_val rfl (R_assign rfl rfl) ?_)
      refine W_cons rfl (by decide) (Sv_val rfl (R_assign rfl rfl) ?_)
      refine W_nil ?_
      refine E_then (C_fr [(0, .slice Aa0 a0.length ca0), (1, .slice Aa1 a1.length ca1), (5, .pointer (some ⟨b1, 0, none⟩)), (7, .slice Ar10 a0.length cr10), (8, .slice Ar16 a1.length cr16)] rfl ?_)
      refine C_seq ?_
      refine C_region ?_
      refine W_cons rfl (by decide) (Sv_val rfl (R_move rfl rfl) ?_)
      refine W_cons rfl (by decide) (Sv_val rfl (R_move rfl rfl) ?_)
      refine W_cons rfl (by decide) (Sv_val rfl (R_loadN (cs := [.int .i64 a2.Row, .int .i64 a2.Col, .int .i64 a2.Rows, .int .i64 a2.Cols]) rfl rfl agg30 size30 rfl (boxcells hBb1 0 rfl)) ?_)
      refine W_cons rfl (by decide) (Sv_call rfl rfl rfl ent19 ?_)
      refine (corner_calls Ar10 cr10 a0 Ar16 cr16 a1 a2 _ _ hz hrr10 hcpr10 hrr16 hcpr16 (by first | omega | assumption) (by first | omega | assumption)).mono ?_
      rintro e_ w20 ⟨rfl, hc21⟩
      refine ⟨_, rfl, ?_⟩
      have hz := hz.chg0 hc21
      have hBb1 := hBb1.chg0 hc21
      have hC := hC.then hc21 (by simp)
      refine W_cons rfl (by decide) (Sv_val rfl (R_move rfl rfl) ?_)
      refine W_cons rfl (by decide) (Sv_val rfl (R_extract rfl rfl rfl) ?_)
      refine W_cons rfl (by decide) (Sv_val rfl (R_extract rfl rfl rfl) ?_)
      refine W_cons rfl (by decide) (Sv_val rfl (R_assign rfl rfl) ?_)
      refine W_cons rfl (by decide) (Sv_val rfl (R_assign rfl rfl) ?_)
      refine W_nil ?_
      refine E_then (C_fr [(0, .slice Aa0 a0.length ca0), (1, .slice Aa1 a1.length ca1), (5, .pointer (some ⟨b1, 0, none⟩)), (7, .slice Ar10 a0.length cr10), (8, .slice Ar16 a1.length cr16), (9, .complex .f64 (((cornerS a0 a1 a2).1).re).bits (((cornerS a0 a1 a2).1).im).bits), (10, .int .i64 ((cornerS a0 a1 a2).2))] rfl ?_)
      refine C_seq ?_
      refine C_region ?_
      refine W_cons rfl (by decide) (Sv_val rfl (R_move rfl rfl) ?_)
      refine W_cons rfl (by decide) (Sv_val rfl (R_move rfl rfl) ?_)
      refine W_cons rfl (by decide) (Sv_val rfl (R_loadN (cs := [.int .i64 a2.Row, .int .i64 a2.Col, .int .i64 a2.Rows, .int .i64 a2.Cols]) rfl rfl agg30 size30 rfl (boxcells hBb1 0 rfl)) ?_)
      refine W_cons rfl (by decide) (Sv_call rfl rfl rfl ent20 ?_)
      refine (size_calls Ar10 cr10 a0 Ar16 cr16 a1 a2 _ _ hz hrr10 hcpr10 hrr16 hcpr16 (by first | omega | assumption) (by first | omega | assumption)).mono ?_
      rintro e_ w22 ⟨rfl, hc23⟩
      refine ⟨_, rfl, ?_⟩
      have hz := hz.chg0 hc23
      have hBb1 := hBb1.chg0 hc23
      have hC := hC.then hc23 (by simp)
      refine W_cons rfl (by decide) (Sv_val rfl (R_move rfl rfl) ?_)
      refine W_cons rfl (by decide) (Sv_val rfl (R_extract rfl rfl rfl) ?_)
      refine W_cons rfl (by decide) (Sv_val rfl (R_extract rfl rfl rfl) ?_)
      refine W_cons rfl (by decide) (Sv_val rfl (R_assign rfl rfl) ?_)
      refine W_cons rfl (by decide) (Sv_val rfl (R_assign rfl rfl) ?_)
      refine W_nil ?_
      refine E_then (C_fr [(0, .slice Aa0 a0.length ca0), (1, .slice Aa1 a1.length ca1), (5, .pointer (some ⟨b1, 0, none⟩)), (7, .slice Ar10 a0.length cr10), (8, .slice Ar16 a1.length cr16), (9, .complex .f64 (((cornerS a0 a1 a2).1).re).bits (((cornerS a0 a1 a2).1).im).bits), (10, .int .i64 ((cornerS a0 a1 a2).2)), (11, .complex .f64 (((sizeS a0 a1 a2).1).re).bits (((sizeS a0 a1 a2).1).im).bits), (12, .int .i64 ((sizeS a0 a1 a2).2))] rfl ?_)
      refine C_seq ?_
      refine C_seq ?_
      refine C_region ?_
      refine W_cons rfl (by decide) (Sv_val rfl (R_move rfl rfl) ?_)
      refine W_cons rfl (by decide) (Sv_val rfl (R_len rfl rfl Try.underlying22) ?_)
      refine W_cons rfl (by decide) (Sv_val rfl (R_move rfl rfl) ?_)
      refine W_cons rfl (by decide) (Sv_val rfl (R_len rfl rfl Try.underlying22) ?_)
      refine W_cons rfl (by decide) (Sv_val rfl (R_loadN (cs := [.int .i64 a2.Row, .int .i64 a2.Col, .int .i64 a2.Rows, .int .i64 a2.Cols]) rfl rfl agg30 size30 rfl (boxcells hBb1 0 rfl)) ?_)
      refine W_cons rfl (by decide) (Sv_call rfl rfl rfl ent21 ?_)
      refine (rwithin_calls (a0.length : Int) (a1.length : Int) a2  _   (by first | omega | assumption) (by first | omega | assumption) (by first | omega | assumption) (by first | omega | assumption)).mono ?_
      rintro e_ w24 ⟨rfl, hc25⟩
      refine ⟨_, rfl, ?_⟩
      have hz := hz.chg0 hc25
      have hBb1 := hBb1.chg0 hc25
      have hC := hC.then hc25 (by simp)
      refine W_cons rfl (by decide) (Sv_val rfl (R_un rfl rfl rfl) ?_)
      refine W_nil ?_
      refine E_then (C_fr [(0, .slice Aa0 a0.length ca0), (1, .slice Aa1 a1.length ca1), (5, .pointer (some ⟨b1, 0, none⟩)), (7, .slice Ar10 a0.length cr10), (8, .slice Ar16 a1.length cr16), (9, .complex .f64 (((cornerS a0 a1 a2).1).re).bits (((cornerS a0 a1 a2).1).im).bits), (10, .int .i64 ((cornerS a0 a1 a2).2)), (11, .complex .f64 (((sizeS a0 a1 a2).1).re).bits (((sizeS a0 a1 a2).1).im).bits), (12, .int .i64 ((sizeS a0 a1 a2).2)), (52, .bool (!(insideS (a0.length : Int) (a1.length : Int) a2)))] rfl ?_)
      refine C_ite rfl (fun hC1 => ?_) (fun hC1 => ?_)
      · have _hC1 := trivial
        have hC1p : ¬ (insideS (a0.length : Int) (a1.length : Int) a2 = true) := by simpa using hC1
        have hin : insideS a0.length a1.length a2 = false := by simpa using hC1
        refine C_seq ?_
        refine C_region ?_
        refine W_cons rfl (by decide) (Sv_val rfl (R_move rfl rfl) ?_)
        refine W_cons rfl (by decide) (Sv_val rfl (R_bin rfl rfl rfl rfl rfl) ?_)
        refine W_cons rfl (by decide) (Sv_val rfl (R_move rfl rfl) ?_)
        have hk26 : ((((cornerS a0 a1 a2).2) == 4)) = true := by first | (rw [corner_out hin]; rfl) | (rw [size_out hin]; rfl) | (rw [corner_in hin]; rfl) | (rw [size_in hin]; rfl) | (rw [corner_in hin]; simp) | (rw [size_in hin, corner_in hin]; simp [-List.getD_eq_getElem?_getD, cpt, Cx.sub, Fl.add, Fl.sub, Fl.opp, Fl.ofInt]; omega) | (simp; done)
        have hk26p : ((cornerS a0 a1 a2).2) = 4 := by simpa using hk26
        refine W_cons rfl (by decide) (Sv_gt rfl rfl rfl hk26 (Sv_val rfl (R_move rfl rfl) ?_))
        refine W_cons rfl (by decide) (Sv_gt rfl rfl rfl hk26 (Sv_val rfl (R_bin rfl rfl rfl rfl rfl) ?_))
        refine W_cons rfl (by decide) (Sv_val rfl (R_pick_t rfl rfl hk26 rfl) ?_)
        refine W_cons rfl (by decide) (Sv_val rfl (R_move rfl rfl) ?_)
        have hk27 : ((((sizeS a0 a1 a2).2) == 4)) = true := by first | (rw [corner_out hin]; rfl) | (rw [size_out hin]; rfl) | (rw [corner_in hin]; rfl) | (rw [size_in hin]; rfl) | (rw [corner_in hin]; simp) | (rw [size_in hin, corner_in hin]; simp [-List.getD_eq_getElem?_getD, cpt, Cx.sub, Fl.add, Fl.sub, Fl.opp, Fl.ofInt]; omega) | (simp; done)
        have hk27p : ((sizeS a0 a1 a2).2) = 4 := by simpa using hk27
        refine W_cons rfl (by decide) (Sv_gt rfl rfl rfl hk27 (Sv_val rfl (R_move rfl rfl) ?_))
        refine W_cons rfl (by decide) (Sv_gt rfl rfl rfl hk27 (Sv_val rfl (R_cxeql (a := ((cornerS a0 a1 a2).1).re) (b := ((cornerS a0 a1 a2).1).im) (c := (Fl.ofInt 0)) (d := (Fl.ofInt 0)) rfl rfl rfl (by first | (rw [corner_out hin]; simp [cx0, Fl.ok, Fl.ofInt]; done) | (rw [size_out hin]; simp [cx0, Fl.ok, Fl.ofInt]; done) | (rw [corner_in hin]; simp [-List.getD_eq_getElem?_getD, cpt, Fl.ok, Fl.ofInt]; omega) | (rw [size_in hin, corner_in hin]; simp [-List.getD_eq_getElem?_getD, cpt, Cx.sub, Fl.ok, Fl.add, Fl.sub, Fl.opp, Fl.ofInt]; omega))) ?_))
        refine W_cons rfl (by decide) (Sv_val rfl (R_pick_t rfl rfl hk27 rfl) ?_)
        refine W_cons rfl (by decide) (Sv_val rfl (R_move rfl rfl) ?_)
        have hk28 : ((((((cornerS a0 a1 a2).1).re).n == (Fl.ofInt 0).n) && ((((cornerS a0 a1 a2).1).im).n == (Fl.ofInt 0).n))) = true := by first | (rw [corner_out hin]; rfl) | (rw [size_out hin]; rfl) | (rw [corner_in hin]; rfl) | (rw [size_in hin]; rfl) | (rw [corner_in hin]; simp) | (rw [size_in hin, corner_in hin]; simp [-List.getD_eq_getElem?_getD, cpt, Cx.sub, Fl.add, Fl.sub, Fl.opp, Fl.ofInt]; omega) | (simp; done)
        have hk28p : ((((cornerS a0 a1 a2).1).re).n = (Fl.ofInt 0).n ∧ (((cornerS a0 a1 a2).1).im).n = (Fl.ofInt 0).n) := by simpa using hk28
        refine W_cons rfl (by decide) (Sv_gt rfl rfl rfl hk28 (Sv_val rfl (R_move rfl rfl) ?_))
        refine W_cons rfl (by decide) (Sv_gt rfl rfl rfl hk28 (Sv_val rfl (R_cxeql (a := ((sizeS a0 a1 a2).1).re) (b := ((sizeS a0 a1 a2).1).im) (c := (Fl.ofInt 0)) (d := (Fl.ofInt 0)) rfl rfl rfl (by first | (rw [corner_out hin]; simp [cx0, Fl.ok, Fl.ofInt]; done) | (rw [size_out hin]; simp [cx0, Fl.ok, Fl.ofInt]; done) | (rw [corner_in hin]; simp [-List.getD_eq_getElem?_getD, cpt, Fl.ok, Fl.ofInt]; omega) | (rw [size_in hin, corner_in hin]; simp [-List.getD_eq_getElem?_getD, cpt, Cx.sub, Fl.ok, Fl.add, Fl.sub, Fl.opp, Fl.ofInt]; omega))) ?_))
        refine W_cons rfl (by decide) (Sv_val rfl (R_pick_t rfl rfl hk28 rfl) ?_)
        refine W_cons rfl (by decide) (Sv_val rfl (R_move rfl rfl) ?_)
        have hk29 : ((((((sizeS a0 a1 a2).1).re).n == (Fl.ofInt 0).n) && ((((sizeS a0 a1 a2).1).im).n == (Fl.ofInt 0).n))) = true := by first | (rw [corner_out hin]; rfl) | (rw [size_out hin]; rfl) | (rw [corner_in hin]; rfl) | (rw [size_in hin]; rfl) | (rw [corner_in hin]; simp) | (rw [size_in hin, corner_in hin]; simp [-List.getD_eq_getElem?_getD, cpt, Cx.sub, Fl.add, Fl.sub, Fl.opp, Fl.ofInt]; omega) | (simp; done)
        have hk29p : ((((sizeS a0 a1 a2).1).re).n = (Fl.ofInt 0).n ∧ (((sizeS a0 a1 a2).1).im).n = (Fl.ofInt 0).n) := by simpa using hk29
        refine W_cons rfl (by decide) (Sv_gt rfl rfl rfl hk29 (Sv_call rfl rfl rfl ent12 ?_))
        refine (awake_calls   _   ).mono ?_
        rintro e_ w30 ⟨rfl, hc31⟩
        refine ⟨_, rfl, ?_⟩
        have hz := hz.chg0 hc31
        have hC := hC.then hc31 (by simp)
        refine W_cons rfl (by decide) (Sv_val rfl (R_pick_t rfl rfl hk29 rfl) ?_)
        refine W_cons rfl (by decide) (Sv_val rfl (R_assign rfl rfl) ?_)
        refine W_nil ?_
        refine E_then (C_fr [(6, .bool true)] rfl ?_)
        refine C_ret ?_
        refine E_then_ret ?_
        refine E_ret1 rfl rfl ?_
        exact ⟨Lret1 (Lbool (show true = true by rfl)), hC⟩
      · have _hC1 := trivial
        have hC1p : (insideS (a0.length : Int) (a1.length : Int) a2 = true) := by simpa using hC1
        have hin : insideS a0.length a1.length a2 = true := by simpa using hC1
        have hi := inside_of hin
        have hb0 := starts_bd a0 a2.Col.toNat (by omega)
        have hb1 := starts_bd a1 a2.Row.toNat (by omega)
        have hb2 := sumC_bd a0 a2.Col.toNat a2.Cols.toNat
        have hb3 := sumC_bd a1 a2.Row.toNat a2.Rows.toNat
        have hs0 := sumC_starts a0 a2.Col.toNat a2.Cols.toNat (by omega)
        have hs1 := sumC_starts a1 a2.Row.toNat a2.Rows.toNat (by omega)
        rw [show a2.Col.toNat + a2.Cols.toNat = (a2.Col + a2.Cols).toNat from by omega] at hs0
        rw [show a2.Row.toNat + a2.Rows.toNat = (a2.Row + a2.Rows).toNat from by omega] at hs1
        refine C_skip ?_
        refine E_then ?_
        refine C_seq ?_
        refine C_region ?_
        refine W_cons rfl (by decide) (Sv_val rfl (R_move rfl rfl) ?_)
        refine W_cons rfl (by decide) (Sv_val rfl (R_move rfl rfl) ?_)
        refine W_cons rfl (by decide) (Sv_val rfl (R_loadN (cs := [.int .i64 a2.Row, .int .i64 a2.Col, .int .i64 a2.Rows, .int .i64 a2.Cols]) rfl rfl agg30 size30 rfl (boxcells hBb1 0 rfl)) ?_)
        refine W_cons rfl (by decide) (Sv_call rfl rfl rfl ent22 ?_)
        refine (rcorner_calls Aa0 ca0 a0 Aa1 ca1 a1 a2 _ _ hz hra0 hca0 hra1 hca1 (by first | omega | assumption) (by first | omega | assumption) (by first | omega | assumption)).mono ?_
        rintro e_ w32 ⟨rfl, hc33⟩
        refine ⟨_, rfl, ?_⟩
        have hz := hz.chg0 hc33
        have hBb1 := hBb1.chg0 hc33
        have hC := hC.then hc33 (by simp)
        refine W_cons rfl (by decide) (Sv_val rfl (R_move rfl rfl) ?_)
        refine W_cons rfl (by decide) (Sv_val rfl (R_extract rfl rfl rfl) ?_)
        refine W_cons rfl (by decide) (Sv_val rfl (R_extract rfl rfl rfl) ?_)
        refine W_cons rfl (by decide) (Sv_val rfl (R_assign rfl rfl) ?_)
        refine W_cons rfl (by decide) (Sv_val rfl (R_assign rfl rfl) ?_)
        refine W_nil ?_
        refine E_then (C_fr [(0, .slice Aa0 a0.length ca0), (1, .slice Aa1 a1.length ca1), (5, .pointer (some ⟨b1, 0, none⟩)), (7, .slice Ar10 a0.length cr10), (8, .slice Ar16 a1.length cr16), (9, .complex .f64 (((cornerS a0 a1 a2).1).re).bits (((cornerS a0 a1 a2).1).im).bits), (10, .int .i64 ((cornerS a0 a1 a2).2)), (11, .complex .f64 (((sizeS a0 a1 a2).1).re).bits (((sizeS a0 a1 a2).1).im).bits), (12, .int .i64 ((sizeS a0 a1 a2).2)), (13, .int .i64 ((startsS a0).getD a2.Col.toNat 0)), (14, .int .i64 ((startsS a1).getD a2.Row.toNat 0))] rfl ?_)
        refine C_seq ?_
        refine C_region ?_
        refine W_cons rfl (by decide) (Sv_val rfl (R_move rfl rfl) ?_)
        refine W_cons rfl (by decide) (Sv_val rfl (R_move rfl rfl) ?_)
        refine W_cons rfl (by decide) (Sv_val rfl (R_loadN (cs := [.int .i64 a2.Row, .int .i64 a2.Col, .int .i64 a2.Rows, .int .i64 a2.Cols]) rfl rfl agg30 size30 rfl (boxcells hBb1 0 rfl)) ?_)
        refine W_cons rfl (by decide) (Sv_call rfl rfl rfl ent23 ?_)
        refine (extent_calls Aa0 ca0 a0 Aa1 ca1 a1 a2 _ _ hz hra0 hca0 hra1 hca1 (by first | omega | assumption) (by first | omega | assumption) (by first | omega | assumption)).mono ?_
        rintro e_ w34 ⟨rfl, hc35⟩
        refine ⟨_, rfl, ?_⟩
        have hz := hz.chg0 hc35
        have hC := hC.then hc35 (by simp)
        refine W_cons rfl (by decide) (Sv_val rfl (R_move rfl rfl) ?_)
        refine W_cons rfl (by decide) (Sv_val rfl (R_extract rfl rfl rfl) ?_)
        refine W_cons rfl (by decide) (Sv_val rfl (R_extract rfl rfl rfl) ?_)
        refine W_cons rfl (by decide) (Sv_val rfl (R_assign rfl rfl) ?_)
        refine W_cons rfl (by decide) (Sv_val rfl (R_assign rfl rfl) ?_)
        refine W_nil ?_
        refine E_then (C_fr [(0, .slice Aa0 a0.length ca0), (1, .slice Aa1 a1.length ca1), (7, .slice Ar10 a0.length cr10), (8, .slice Ar16 a1.length cr16), (9, .complex .f64 (((cornerS a0 a1 a2).1).re).bits (((cornerS a0 a1 a2).1).im).bits), (10, .int .i64 ((cornerS a0 a1 a2).2)), (11, .complex .f64 (((sizeS a0 a1 a2).1).re).bits (((sizeS a0 a1 a2).1).im).bits), (12, .int .i64 ((sizeS a0 a1 a2).2)), (13, .int .i64 ((startsS a0).getD a2.Col.toNat 0)), (14, .int .i64 ((startsS a1).getD a2.Row.toNat 0)), (15, .int .i64 (a2.Cols - 1 + sumC a0 a2.Col.toNat a2.Cols.toNat)), (16, .int .i64 (a2.Rows - 1 + sumC a1 a2.Row.toNat a2.Rows.toNat))] rfl ?_)
        refine C_seq ?_
        refine C_region ?_
        refine W_cons rfl (by decide) (Sv_val rfl (R_move rfl rfl) ?_)
        refine W_cons rfl (by decide) (Sv_val rfl (R_bin rfl rfl rfl rfl rfl) ?_)
        refine W_cons rfl (by decide) (Sv_val rfl (R_move rfl rfl) ?_)
        have hk36 : ((((cornerS a0 a1 a2).2) == 0)) = true := by first | (rw [corner_out hin]; rfl) | (rw [size_out hin]; rfl) | (rw [corner_in hin]; rfl) | (rw [size_in hin]; rfl) | (rw [corner_in hin]; simp) | (rw [size_in hin, corner_in hin]; simp [-List.getD_eq_getElem?_getD, cpt, Cx.sub, Fl.add, Fl.sub, Fl.opp, Fl.ofInt]; omega) | (simp; done)
        have hk36p : ((cornerS a0 a1 a2).2) = 0 := by simpa using hk36
        refine W_cons rfl (by decide) (Sv_gt rfl rfl rfl hk36 (Sv_val rfl (R_move rfl rfl) ?_))
        refine W_cons rfl (by decide) (Sv_gt rfl rfl rfl hk36 (Sv_val rfl (R_bin rfl rfl rfl rfl rfl) ?_))
        refine W_cons rfl (by decide) (Sv_val rfl (R_pick_t rfl rfl hk36 rfl) ?_)
        refine W_cons rfl (by decide) (Sv_val rfl (R_move rfl rfl) ?_)
        have hk37 : ((((sizeS a0 a1 a2).2) == 0)) = true := by first | (rw [corner_out hin]; rfl) | (rw [size_out hin]; rfl) | (rw [corner_in hin]; rfl) | (rw [size_in hin]; rfl) | (rw [corner_in hin]; simp) | (rw [size_in hin, corner_in hin]; simp [-List.getD_eq_getElem?_getD, cpt, Cx.sub, Fl.add, Fl.sub, Fl.opp, Fl.ofInt]; omega) | (simp; done)
        have hk37p : ((sizeS a0 a1 a2).2) = 0 := by simpa using hk37
        refine W_cons rfl (by decide) (Sv_gt rfl rfl rfl hk37 (Sv_val rfl (R_move rfl rfl) ?_))
        refine W_cons rfl (by decide) (Sv_gt rfl rfl rfl hk37 (Sv_val rfl (R_move rfl rfl) ?_))
        refine W_cons rfl (by decide) (Sv_gt rfl rfl rfl hk37 (Sv_val rfl (R_move rfl rfl) ?_))
        refine W_cons rfl (by decide) (Sv_gt rfl rfl rfl hk37 (Sv_call rfl rfl rfl ent24 ?_))
        refine (lpoint_calls ((startsS a0).getD a2.Col.toNat 0) ((startsS a1).getD a2.Row.toNat 0)  _   (by first | omega | assumption) (by first | omega | assumption)).mono ?_
        rintro e_ w38 ⟨rfl, hc39⟩
        refine ⟨_, rfl, ?_⟩
        have hz := hz.chg0 hc39
        have hC := hC.then hc39 (by simp)
        refine W_cons rfl (by decide) (Sv_gt rfl rfl rfl hk37 (Sv_val rfl (R_cxeql (a := ((cornerS a0 a1 a2).1).re) (b := ((cornerS a0 a1 a2).1).im) (c := (cpt ((startsS a0).getD a2.Col.toNat 0) ((startsS a1).getD a2.Row.toNat 0)).re) (d := (cpt ((startsS a0).getD a2.Col.toNat 0) ((startsS a1).getD a2.Row.toNat 0)).im) rfl rfl rfl (by first | (rw [corner_out hin]; simp [cx0, Fl.ok, Fl.ofInt]; done) | (rw [size_out hin]; simp [cx0, Fl.ok, Fl.ofInt]; done) | (rw [corner_in hin]; simp [-List.getD_eq_getElem?_getD, cpt, Fl.ok, Fl.ofInt]; omega) | (rw [size_in hin, corner_in hin]; simp [-List.getD_eq_getElem?_getD, cpt, Cx.sub, Fl.ok, Fl.add, Fl.sub, Fl.opp, Fl.ofInt]; omega))) ?_))
        refine W_cons rfl (by decide) (Sv_val rfl (R_pick_t rfl rfl hk37 rfl) ?_)
        refine W_cons rfl (by decide) (Sv_val rfl (R_move rfl rfl) ?_)
        have hk40 : ((((((cornerS a0 a1 a2).1).re).n == ((cpt ((startsS a0).getD a2.Col.toNat 0) ((startsS a1).getD a2.Row.toNat 0)).re).n) && ((((cornerS a0 a1 a2).1).im).n == ((cpt ((startsS a0).getD a2.Col.toNat 0) ((startsS a1).getD a2.Row.toNat 0)).im).n))) = true := by first | (rw [corner_out hin]; rfl) | (rw [size_out hin]; rfl) | (rw [corner_in hin]; rfl) | (rw [size_in hin]; rfl) | (rw [corner_in hin]; simp) | (rw [size_in hin, corner_in hin]; simp [-List.getD_eq_getElem?_getD, cpt, Cx.sub, Fl.add, Fl.sub, Fl.opp, Fl.ofInt]; omega) | (simp; done)
        have hk40p : ((((cornerS a0 a1 a2).1).re).n = ((cpt ((startsS a0).getD a2.Col.toNat 0) ((startsS a1).getD a2.Row.toNat 0)).re).n ∧ (((cornerS a0 a1 a2).1).im).n = ((cpt ((startsS a0).getD a2.Col.toNat 0) ((startsS a1).getD a2.Row.toNat 0)).im).n) := by simpa using hk40
        refine W_cons rfl (by decide) (Sv_gt rfl rfl rfl hk40 (Sv_val rfl (R_move rfl rfl) ?_))
        refine W_cons rfl (by decide) (Sv_gt rfl rfl rfl hk40 (Sv_val rfl (R_move rfl rfl) ?_))
        refine W_cons rfl (by decide) (Sv_gt rfl rfl rfl hk40 (Sv_val rfl (R_move rfl rfl) ?_))
        refine W_cons rfl (by decide) (Sv_gt rfl rfl rfl hk40 (Sv_call rfl rfl rfl ent24 ?_))
        refine (lpoint_calls (a2.Cols - 1 + sumC a0 a2.Col.toNat a2.Cols.toNat) (a2.Rows - 1 + sumC a1 a2.Row.toNat a2.Rows.toNat)  _   (by first | omega | assumption) (by first | omega | assumption)).mono ?_
        rintro e_ w41 ⟨rfl, hc42⟩
        refine ⟨_, rfl, ?_⟩
        have hz := hz.chg0 hc42
        have hC := hC.then hc42 (by simp)
        refine W_cons rfl (by decide) (Sv_gt rfl rfl rfl hk40 (Sv_val rfl (R_cxeql (a := ((sizeS a0 a1 a2).1).re) (b := ((sizeS a0 a1 a2).1).im) (c := (cpt (a2.Cols - 1 + sumC a0 a2.Col.toNat a2.Cols.toNat) (a2.Rows - 1 + sumC a1 a2.Row.toNat a2.Rows.toNat)).re) (d := (cpt (a2.Cols - 1 + sumC a0 a2.Col.toNat a2.Cols.toNat) (a2.Rows - 1 + sumC a1 a2.Row.toNat a2.Rows.toNat)).im) rfl rfl rfl (by first | (rw [corner_out hin]; simp [cx0, Fl.ok, Fl.ofInt]; done) | (rw [size_out hin]; simp [cx0, Fl.ok, Fl.ofInt]; done) | (rw [corner_in hin]; simp [-List.getD_eq_getElem?_getD, cpt, Fl.ok, Fl.ofInt]; omega) | (rw [size_in hin, corner_in hin]; simp [-List.getD_eq_getElem?_getD, cpt, Cx.sub, Fl.ok, Fl.add, Fl.sub, Fl.opp, Fl.ofInt]; omega))) ?_))
        refine W_cons rfl (by decide) (Sv_val rfl (R_pick_t rfl rfl hk40 rfl) ?_)
        refine W_cons rfl (by decide) (Sv_val rfl (R_move rfl rfl) ?_)
        have hk43 : ((((((sizeS a0 a1 a2).1).re).n == ((cpt (a2.Cols - 1 + sumC a0 a2.Col.toNat a2.Cols.toNat) (a2.Rows - 1 + sumC a1 a2.Row.toNat a2.Rows.toNat)).re).n) && ((((sizeS a0 a1 a2).1).im).n == ((cpt (a2.Cols - 1 + sumC a0 a2.Col.toNat a2.Cols.toNat) (a2.Rows - 1 + sumC a1 a2.Row.toNat a2.Rows.toNat)).im).n))) = true := by first | (rw [corner_out hin]; rfl) | (rw [size_out hin]; rfl) | (rw [corner_in hin]; rfl) | (rw [size_in hin]; rfl) | (rw [corner_in hin]; simp) | (rw [size_in hin, corner_in hin]; simp [-List.getD_eq_getElem?_getD, cpt, Cx.sub, Fl.add, Fl.sub, Fl.opp, Fl.ofInt]; omega) | (simp; done)
        have hk43p : ((((sizeS a0 a1 a2).1).re).n = ((cpt (a2.Cols - 1 + sumC a0 a2.Col.toNat a2.Cols.toNat) (a2.Rows - 1 + sumC a1 a2.Row.toNat a2.Rows.toNat)).re).n ∧ (((sizeS a0 a1 a2).1).im).n = ((cpt (a2.Cols - 1 + sumC a0 a2.Col.toNat a2.Cols.toNat) (a2.Rows - 1 + sumC a1 a2.Row.toNat a2.Rows.toNat)).im).n) := by simpa using hk43
        refine W_cons rfl (by decide) (Sv_gt rfl rfl rfl hk43 (Sv_val rfl (R_move rfl rfl) ?_))
        refine W_cons rfl (by decide) (Sv_gt rfl rfl rfl hk43 (Sv_val rfl (R_move rfl rfl) ?_))
        refine W_cons rfl (by decide) (Sv_gt rfl rfl rfl hk43 (Sv_call rfl rfl rfl ent13 ?_))
        refine (same_calls Ar10 cr10 a0 Aa0 ca0 a0 _ _ hz hrr10 hcpr10 hra0 hca0 ).mono ?_
        rintro e_ w44 ⟨rfl, hc45⟩
        refine ⟨_, rfl, ?_⟩
        have hz := hz.chg0 hc45
        have hC := hC.then hc45 (by simp)
        refine W_cons rfl (by decide) (Sv_val rfl (R_pick_t rfl rfl hk43 rfl) ?_)
        refine W_cons rfl (by decide) (Sv_val rfl (R_move rfl rfl) ?_)
        have hk46 : (decide (a0 = a0)) = true := by simp
        refine W_cons rfl (by decide) (Sv_gt rfl rfl rfl hk46 (Sv_val rfl (R_move rfl rfl) ?_))
        refine W_cons rfl (by decide) (Sv_gt rfl rfl rfl hk46 (Sv_val rfl (R_move rfl rfl) ?_))
        refine W_cons rfl (by decide) (Sv_gt rfl rfl rfl hk46 (Sv_call rfl rfl rfl ent13 ?_))
        refine (same_calls Ar16 cr16 a1 Aa1 ca1 a1 _ _ hz hrr16 hcpr16 hra1 hca1 ).mono ?_
        rintro e_ w47 ⟨rfl, hc48⟩
        refine ⟨_, rfl, ?_⟩
        have hz := hz.chg0 hc48
        have hC := hC.then hc48 (by simp)
        refine W_cons rfl (by decide) (Sv_val rfl (R_pick_t rfl rfl hk46 rfl) ?_)
        refine W_cons rfl (by decide) (Sv_val rfl (R_move rfl rfl) ?_)
        have hk49 : (decide (a1 = a1)) = true := by simp
        refine W_cons rfl (by decide) (Sv_gt rfl rfl rfl hk49 (Sv_call rfl rfl rfl ent12 ?_))
        refine (awake_calls   _   ).mono ?_
        rintro e_ w50 ⟨rfl, hc51⟩
        refine ⟨_, rfl, ?_⟩
        have hz := hz.chg0 hc51
        have hC := hC.then hc51 (by simp)
        refine W_cons rfl (by decide) (Sv_val rfl (R_pick_t rfl rfl hk49 rfl) ?_)
        refine W_cons rfl (by decide) (Sv_val rfl (R_assign rfl rfl) ?_)
        refine W_nil ?_
        refine E_then (C_fr [(6, .bool true)] rfl ?_)
        refine C_ret ?_
        refine E_ret1 rfl rfl ?_
        exact ⟨Lret1 (Lbool (show true = true by rfl)), hC⟩

end Go.Proofs.YtibniimdfahiiaaG
