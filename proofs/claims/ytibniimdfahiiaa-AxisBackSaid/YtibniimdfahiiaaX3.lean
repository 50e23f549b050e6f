/- Walks, each function once: what it computes. -/
import Derived.Test.YtibniimdfahiiaaX2
set_option linter.all false
namespace Go.Proofs.YtibniimdfahiiaaG
open Go Go.RowKit
set_option maxHeartbeats 2000000 in
set_option maxRecDepth 20000 in
theorem axisStarts_calls (Aa0 : Option Addr) (ca0 : Nat) (a0 : List Int) (a1 : Int) (z : Z) (w : World) (hz : Sub z w) (hra0 : Rd (kint .i64) z Aa0 a0) (hca0 : Cap Aa0 a0.length ca0) (p0 : -9223372036854775808 ≤ a1) :
    Calls Try.prog 3 #[.slice Aa0 a0.length ca0, .int .i64 a1] w fun e w' => e = .returned (.bool true) ∧ Chg [] w w' := by
  have hsl := slots_len a0
  have hla0 := hca0.le
  have hma0 := hca0.mx
  have hC := Chg.refl [] w
  refine Calls_of (vs := [.slice Aa0 a0.length ca0, .int .i64 a1]) (N := 63) Try.func3 rfl rfl (Nat.le_of_ble_eq_true rfl) ?_
  refine C_seq ?_
  refine C_region ?_
  refine W_cons rfl (by decide) (Sv_val rfl (R_assign rfl rfl) ?_)
  refine W_nil ?_
  refine E_then ?_
  refine C_seq ?_
  refine C_seq ?_
  refine C_region ?_
  refine W_cons rfl (by decide) (Sv_val rfl (R_move rfl rfl) ?_)
  refine W_cons rfl (by decide) (Sv_val rfl (R_len rfl rfl Try.underlying22) ?_)
  refine W_cons rfl (by decide) (Sv_val rfl (R_bin rfl rfl rfl rfl rfl) ?_)
  refine W_nil ?_
  refine E_then ?_
  refine C_ite rfl (fun hC0 => ?_) (fun hC0 => ?_)
  · have _hC0 := trivial
    have hC0p : (a0.length : Int) > 40 := by simpa using hC0
    refine C_seq ?_
    refine C_region ?_
    refine W_cons rfl (by decide) (Sv_call rfl rfl rfl ent12 ?_)
    refine (awake_calls   _   ).mono ?_
    rintro e_ w1 ⟨rfl, hc2⟩
    refine ⟨_, rfl, ?_⟩
    have hz := hz.chg0 hc2
    have hC := hC.then hc2 (by simp)
    refine W_cons rfl (by decide) (Sv_val rfl (R_assign rfl rfl) ?_)
    refine W_nil ?_
    refine E_then (C_fr [(4, .bool true)] rfl ?_)
    refine C_ret ?_
    refine E_then_ret ?_
    refine E_ret1 rfl rfl ?_
    exact ⟨Lret1 (Lbool (show true = true by rfl)), hC⟩
  · have _hC0 := trivial
    have hC0p : ¬ ((a0.length : Int) > 40) := by simpa using hC0
    refine C_skip ?_
    refine E_then ?_
    refine C_seq ?_
    refine C_region ?_
    refine W_cons rfl (by decide) (Sv_row (d := (kint .i64)) (z := zE) ([] : List Int) rfl (R_buildSlice (ps := []) (vs := []) (w' := w.alloc (.cells [].toArray 3)) (r := .slice (some ⟨w.heap.size, 0, none⟩) 0 0) rfl rfl rfl (by kernel_rfl)) (by simp [Reps, flat, kint]) rfl (by decide) (fun g3 w4 hcg3 hng3 hOg3 => ?_))
    have hOg3 := hOg3.lower hng3
    have hZg3 : ∀ k ∈ blk (some ⟨g3, 0, none⟩), z k = none := fresh_z hz hOg3.base
    have hNg3 : ∀ k ∈ blk (some ⟨g3, 0, none⟩), w.heap.size ≤ k := newC hOg3.base hC.size
    have hOg3 := hOg3.lower hC.size
    have hz := hz.chg0 hcg3
    have hC := hC.then hcg3 (by simp)
    have hmg3 := hOg3.cap.mx
    have hlg3 := hOg3.cap.le
    refine W_cons rfl (by decide) (Sv_val rfl (R_move rfl rfl) ?_)
    obtain ⟨nw7, hpnw7, hqnw7⟩ := hra0.cells hz
    refine W_cons rfl (by decide) (Sv_append rfl rfl elem22 rfl hOg3 rfl hca0.nil (Reps.to (z := z) (z' := zE) (fun _ _ h => h) hpnw7) hqnw7 (by (try simp only [List.length_cons, List.length_nil, maxLen]); omega) (by (try simp only [List.length_cons, List.length_nil, maxLen]); omega) hC.size (fun Ar5 cr5 w6 hOr5 hcr5 hkr5 => ?_))
    have hOr5 : Own (kint .i64) 3 w.heap.size zE w6 Ar5 cr5 a0 := hOr5
    have hZr5 := grown_z hz hZg3 hkr5
    have hz := hz.chg hcr5 hZg3
    have hC := hC.then hcr5 (fun i hi => .inr (hNg3 i hi))
    have hNr5 := hOr5.base
    have hmr5 := hOr5.cap.mx
    have hlr5 := hOr5.cap.le
    obtain ⟨z8, hz, hler5, hrr5, hnr5⟩ := (hOr5.mono (zle_E _)).freeze hz hZr5
    have hcpr5 := hOr5.cap
    have hra0 := hra0.mono hler5
    refine W_cons rfl (by decide) (Sv_val rfl (R_assign rfl rfl) ?_)
    refine W_nil ?_
    refine E_then (C_fr [(0, .slice Aa0 a0.length ca0), (1, .int .i64 a1), (5, .slice Ar5 a0.length cr5)] rfl ?_)
    refine C_seq ?_
    refine C_seq ?_
    refine C_region ?_
    refine W_cons rfl (by decide) (Sv_val rfl (R_move rfl rfl) ?_)
    refine W_cons rfl (by decide) (Sv_call rfl rfl rfl ent14 ?_)
    refine (starts_calls Ar5 cr5 a0 _ _ hz hrr5 hcpr5 (by omega)).mono ?_
    rintro e_ w9 ⟨Ar11, cr11, rfl, hOr11, hc10⟩
    refine ⟨_, rfl, ?_⟩
    have hZr11 : ∀ k ∈ blk Ar11, z8 k = none := fresh_z hz hOr11.base
    have hNr11 : ∀ k ∈ blk Ar11, w.heap.size ≤ k := newC hOr11.base hC.size
    have hOr11 := hOr11.lower hC.size
    have hz := hz.chg0 hc10
    have hC := hC.then hc10 (by simp)
    have hmr11 := hOr11.cap.mx
    have hlr11 := hOr11.cap.le
    obtain ⟨z12, hz, hler11, hrr11, hnr11⟩ := (hOr11.mono (zle_E _)).freeze hz hZr11
    have hcpr11 := hOr11.cap
    have hra0 := hra0.mono hler11
    have hrr5 := hrr5.mono hler11
    refine W_cons rfl (by decide) (Sv_val rfl (R_move rfl rfl) ?_)
    refine W_cons rfl (by decide) (Sv_call rfl rfl rfl ent15 ?_)
    refine (rstarts_calls Aa0 ca0 a0 _ _ hz hra0 hca0 (by omega)).mono ?_
    rintro e_ w13 ⟨Ar15, cr15, rfl, hOr15, hc14⟩
    refine ⟨_, rfl, ?_⟩
    have hZr15 : ∀ k ∈ blk Ar15, z12 k = none := fresh_z hz hOr15.base
    have hNr15 : ∀ k ∈ blk Ar15, w.heap.size ≤ k := newC hOr15.base hC.size
    have hOr15 := hOr15.lower hC.size
    have hz := hz.chg0 hc14
    have hC := hC.then hc14 (by simp)
    have hmr15 := hOr15.cap.mx
    have hlr15 := hOr15.cap.le
    obtain ⟨z16, hz, hler15, hrr15, hnr15⟩ := (hOr15.mono (zle_E _)).freeze hz hZr15
    have hcpr15 := hOr15.cap
    have hra0 := hra0.mono hler15
    have hrr5 := hrr5.mono hler15
    have hrr11 := hrr11.mono hler15
    refine W_cons rfl (by decide) (Sv_call rfl rfl rfl ent13 ?_)
    refine (same_calls Ar11 cr11 (startsS a0) Ar15 cr15 (startsS a0) _ _ hz hrr11 hcpr11 hrr15 hcpr15 ).mono ?_
    rintro e_ w17 ⟨rfl, hc18⟩
    refine ⟨_, rfl, ?_⟩
    have hz := hz.chg0 hc18
    have hC := hC.then hc18 (by simp)
    refine W_cons rfl (by decide) (Sv_val rfl (R_un rfl rfl rfl) ?_)
    refine W_nil ?_
    refine E_then (C_fr [(0, .slice Aa0 a0.length ca0), (1, .int .i64 a1), (5, .slice Ar5 a0.length cr5), (24, .bool (!(decide ((startsS a0) = (startsS a0)))))] rfl ?_)
    have hk19 : (!(decide ((startsS a0) = (startsS a0)))) = false := by simp
    have hk19p : (decide ((startsS a0) = (startsS a0)) = true) := by simpa using hk19
    refine C_else rfl hk19 ?_
    refine C_skip ?_
    refine E_then ?_
    refine C_seq ?_
    refine C_seq ?_
    refine C_region ?_
    refine W_cons rfl (by decide) (Sv_val rfl (R_assign rfl rfl) ?_)
    refine W_nil ?_
    refine E_then ?_
    refine C_block ?_
    have hs21 : (-2) = ((0 : Nat) : Int) - 2 := by rfl
    refine C_fr [(0, .slice Aa0 a0.length ca0), (1, .int .i64 a1), (5, .slice Ar5 a0.length cr5), (6, .int .i64 (((0 : Nat) : Int) - 2))] (by rw [← hs21]; rfl) ?_
    refine C_loop (fun m_ f_ w_ => ∃ (i : Nat), f_ = [(0, .slice Aa0 a0.length ca0), (1, .int .i64 a1), (5, .slice Ar5 a0.length cr5), (6, .int .i64 ((i : Int) - 2))] ∧ i ≤ (slotsS a0).length + 4 ∧ m_ = (slotsS a0).length + 4 - i ∧ Sub z16 w_ ∧ Chg [] w w_) ((slotsS a0).length + 4 - 0) ?_ ?_
    · exact ⟨0, rfl, (by omega), rfl, hz, hC⟩
    · rintro m_ f_ w20 ⟨i, rfl, hI0_0, rfl, hz, hC⟩
      refine C_seq ?_
      refine C_seq ?_
      refine C_region ?_
      refine W_cons rfl (by decide) (Sv_val rfl (R_move rfl rfl) ?_)
      refine W_cons rfl (by decide) (Sv_val rfl (R_move rfl rfl) ?_)
      refine W_cons rfl (by decide) (Sv_call rfl rfl rfl ent16 ?_)
      refine (rslots_calls Aa0 ca0 a0 _ _ hz hra0 hca0 (by omega)).mono ?_
      rintro e_ w22 ⟨Ar24, cr24, rfl, hOr24, hc23⟩
      refine ⟨_, rfl, ?_⟩
      have hZr24 : ∀ k ∈ blk Ar24, z16 k = none := fresh_z hz hOr24.base
      have hNr24 : ∀ k ∈ blk Ar24, w.heap.size ≤ k := newC hOr24.base hC.size
      have hOr24 := hOr24.lower hC.size
      have hz := hz.chg0 hc23
      have hC := hC.then hc23 (by simp)
      have hmr24 := hOr24.cap.mx
      have hlr24 := hOr24.cap.le
      obtain ⟨z25, hz, hler24, hrr24, hnr24⟩ := (hOr24.mono (zle_E _)).freeze hz hZr24
      have hcpr24 := hOr24.cap
      have hra0 := hra0.mono hler24
      have hrr5 := hrr5.mono hler24
      refine W_cons rfl (by decide) (Sv_val rfl (R_len rfl rfl Try.underlying22) ?_)
      refine W_cons rfl (by decide) (Sv_val rfl (R_add64 rfl rfl rfl (by omega) (by omega)) ?_)
      refine W_cons rfl (by decide) (Sv_val rfl (R_bin rfl rfl rfl rfl rfl) ?_)
      refine W_nil ?_
      refine E_then (C_fr [(0, .slice Aa0 a0.length ca0), (1, .int .i64 a1), (5, .slice Ar5 a0.length cr5), (6, .int .i64 ((i : Int) - 2)), (30, .bool (decide (((i : Int) - 2) ≤ (((slotsS a0).length : Int) + 1))))] rfl ?_)
      refine C_ite rfl (fun hC2 => ?_) (fun hC2 => ?_)
      · have _hC2 := trivial
        have hC2p : ((i : Int) - 2) ≤ (((slotsS a0).length : Int) + 1) := by simpa using hC2
        refine C_skip ?_
        refine E_then ?_
        refine C_seq ?_
        refine C_block ?_
        refine C_seq ?_
        refine C_region ?_
        refine W_cons rfl (by decide) (Sv_val rfl (R_move rfl rfl) ?_)
        refine W_cons rfl (by decide) (Sv_val rfl (R_assign rfl rfl) ?_)
        refine W_nil ?_
        refine E_then ?_
        refine C_seq ?_
        refine C_seq ?_
        refine C_region ?_
        refine W_cons rfl (by decide) (Sv_val rfl (R_move rfl rfl) ?_)
        refine W_cons rfl (by decide) (Sv_val rfl (R_bin rfl rfl rfl rfl rfl) ?_)
        refine W_nil ?_
        refine E_then ?_
        refine C_ite rfl (fun hC3 => ?_) (fun hC3 => ?_)
        · have _hC3 := trivial
          have hC3p : ((i : Int) - 2) = (-2) := by simpa using hC3
          refine C_region ?_
          refine W_cons rfl (by decide) (Sv_val rfl (R_move rfl rfl) ?_)
          refine W_cons rfl (by decide) (Sv_val rfl (R_assign rfl rfl) ?_)
          refine W_nil ?_
          refine E_then (C_fr [(0, .slice Aa0 a0.length ca0), (1, .int .i64 a1), (5, .slice Ar5 a0.length cr5), (6, .int .i64 ((i : Int) - 2)), (7, .int .i64 a1)] rfl ?_)
          refine C_seq ?_
          refine C_region ?_
          refine W_cons rfl (by decide) (Sv_val rfl (R_move rfl rfl) ?_)
          refine W_cons rfl (by decide) (Sv_val rfl (R_move rfl rfl) ?_)
          refine W_cons rfl (by decide) (Sv_call rfl rfl rfl ent17 ?_)
          refine (find_calls Ar5 cr5 a0 a1 _ _ hz hrr5 hcpr5 (by omega) (by omega)).mono ?_
          rintro e_ w26 ⟨rfl, hc27⟩
          refine ⟨_, rfl, ?_⟩
          have hz := hz.chg0 hc27
          have hC := hC.then hc27 (by simp)
          refine W_cons rfl (by decide) (Sv_val rfl (R_move rfl rfl) ?_)
          refine W_cons rfl (by decide) (Sv_val rfl (R_extract rfl rfl rfl) ?_)
          refine W_cons rfl (by decide) (Sv_val rfl (R_extract rfl rfl rfl) ?_)
          refine W_cons rfl (by decide) (Sv_val rfl (R_assign rfl rfl) ?_)
          refine W_cons rfl (by decide) (Sv_val rfl (R_assign rfl rfl) ?_)
          refine W_nil ?_
          refine E_then (C_fr [(0, .slice Aa0 a0.length ca0), (1, .int .i64 a1), (5, .slice Ar5 a0.length cr5), (6, .int .i64 ((i : Int) - 2)), (7, .int .i64 a1), (8, .int .i64 ((findS a0 a1).1)), (9, .int .i64 ((findS a0 a1).2))] rfl ?_)
          refine C_seq ?_
          refine C_region ?_
          refine W_cons rfl (by decide) (Sv_val rfl (R_move rfl rfl) ?_)
          refine W_cons rfl (by decide) (Sv_val rfl (R_move rfl rfl) ?_)
          refine W_cons rfl (by decide) (Sv_call rfl rfl rfl ent18 ?_)
          refine (rfind_calls Aa0 ca0 a0 a1 _ _ hz hra0 hca0 (by omega) (by omega)).mono ?_
          rintro e_ w28 ⟨rfl, hc29⟩
          refine ⟨_, rfl, ?_⟩
          have hz := hz.chg0 hc29
          have hC := hC.then hc29 (by simp)
          refine W_cons rfl (by decide) (Sv_val rfl (R_move rfl rfl) ?_)
          refine W_cons rfl (by decide) (Sv_val rfl (R_extract rfl rfl rfl) ?_)
          refine W_cons rfl (by decide) (Sv_val rfl (R_extract rfl rfl rfl) ?_)
          refine W_cons rfl (by decide) (Sv_val rfl (R_assign rfl rfl) ?_)
          refine W_cons rfl (by decide) (Sv_val rfl (R_assign rfl rfl) ?_)
          refine W_nil ?_
          refine E_then (C_fr [(0, .slice Aa0 a0.length ca0), (1, .int .i64 a1), (5, .slice Ar5 a0.length cr5), (6, .int .i64 ((i : Int) - 2)), (8, .int .i64 ((findS a0 a1).1)), (9, .int .i64 ((findS a0 a1).2)), (10, .int .i64 ((rfindS a0 a1).1)), (11, .int .i64 ((rfindS a0 a1).2))] rfl ?_)
          refine C_seq ?_
          refine C_region ?_
          refine W_cons rfl (by decide) (Sv_val rfl (R_move rfl rfl) ?_)
          refine W_cons rfl (by decide) (Sv_val rfl (R_move rfl rfl) ?_)
          refine W_cons rfl (by decide) (Sv_val rfl (R_bin rfl rfl rfl rfl rfl) ?_)
          refine W_cons rfl (by decide) (Sv_val rfl (R_move rfl rfl) ?_)
          have hk30 : ((((findS a0 a1).1) != ((rfindS a0 a1).1))) = false := by simp [find_rfind]
          have hk30p : ((findS a0 a1).1) = ((rfindS a0 a1).1) := by simpa using hk30
          refine W_cons rfl (by decide) (Sv_gt rfl rfl rfl hk30 (Sv_val rfl (R_move rfl rfl) ?_))
          refine W_cons rfl (by decide) (Sv_gt rfl rfl rfl hk30 (Sv_val rfl (R_move rfl rfl) ?_))
          refine W_cons rfl (by decide) (Sv_gt rfl rfl rfl hk30 (Sv_val rfl (R_bin rfl rfl rfl rfl rfl) ?_))
          refine W_cons rfl (by decide) (Sv_val rfl (R_pick_f rfl rfl hk30 rfl) ?_)
          refine W_nil ?_
          refine E_then (C_fr [(0, .slice Aa0 a0.length ca0), (1, .int .i64 a1), (5, .slice Ar5 a0.length cr5), (6, .int .i64 ((i : Int) - 2)), (53, .int .i64 ((findS a0 a1).2)), (54, .int .i64 ((rfindS a0 a1).2)), (55, .bool (((findS a0 a1).2) != ((rfindS a0 a1).2))), (56, .bool (((findS a0 a1).2) != ((rfindS a0 a1).2)))] rfl ?_)
          have hk31 : ((((findS a0 a1).2) != ((rfindS a0 a1).2))) = false := by simp [find_rfind]
          have hk31p : ((findS a0 a1).2) = ((rfindS a0 a1).2) := by simpa using hk31
          refine C_else rfl hk31 ?_
          refine C_skip ?_
          refine E_block_normal ?_
          refine E_then ?_
          refine C_region ?_
          refine W_cons rfl (by decide) (Sv_val rfl (R_move rfl rfl) ?_)
          refine W_cons rfl (by decide) (Sv_val rfl (R_add64 rfl rfl rfl (by omega) (by omega)) ?_)
          refine W_cons rfl (by decide) (Sv_val rfl (R_assign rfl rfl) ?_)
          refine W_nil ?_
          have hs32 : ((i : Int) - 2) + 1 = ((i + 1 : Nat) : Int) - 2 := by omega
          refine E_round [0, 1, 5, 6] ?_ ⟨(i + 1), (by rw [← hs32]; rfl), (by omega), rfl, (hz.down hler24), hC⟩
          omega
        · have _hC3 := trivial
          have hC3p : ¬ (((i : Int) - 2) = (-2)) := by simpa using hC3
          refine C_skip ?_
          refine E_then ?_
          refine C_seq ?_
          refine C_region ?_
          refine W_cons rfl (by decide) (Sv_val rfl (R_move rfl rfl) ?_)
          refine W_cons rfl (by decide) (Sv_val rfl (R_move rfl rfl) ?_)
          refine W_cons rfl (by decide) (Sv_call rfl rfl rfl ent17 ?_)
          refine (find_calls Ar5 cr5 a0 ((i : Int) - 2) _ _ hz hrr5 hcpr5 (by omega) (by omega)).mono ?_
          rintro e_ w33 ⟨rfl, hc34⟩
          refine ⟨_, rfl, ?_⟩
          have hz := hz.chg0 hc34
          have hC := hC.then hc34 (by simp)
          refine W_cons rfl (by decide) (Sv_val rfl (R_move rfl rfl) ?_)
          refine W_cons rfl (by decide) (Sv_val rfl (R_extract rfl rfl rfl) ?_)
          refine W_cons rfl (by decide) (Sv_val rfl (R_extract rfl rfl rfl) ?_)
          refine W_cons rfl (by decide) (Sv_val rfl (R_assign rfl rfl) ?_)
          refine W_cons rfl (by decide) (Sv_val rfl (R_assign rfl rfl) ?_)
          refine W_nil ?_
          refine E_then (C_fr [(0, .slice Aa0 a0.length ca0), (1, .int .i64 a1), (5, .slice Ar5 a0.length cr5), (6, .int .i64 ((i : Int) - 2)), (7, .int .i64 ((i : Int) - 2)), (8, .int .i64 ((findS a0 ((i : Int) - 2)).1)), (9, .int .i64 ((findS a0 ((i : Int) - 2)).2))] rfl ?_)
          refine C_seq ?_
          refine C_region ?_
          refine W_cons rfl (by decide) (Sv_val rfl (R_move rfl rfl) ?_)
          refine W_cons rfl (by decide) (Sv_val rfl (R_move rfl rfl) ?_)
          refine W_cons rfl (by decide) (Sv_call rfl rfl rfl ent18 ?_)
          refine (rfind_calls Aa0 ca0 a0 ((i : Int) - 2) _ _ hz hra0 hca0 (by omega) (by omega)).mono ?_
          rintro e_ w35 ⟨rfl, hc36⟩
          refine ⟨_, rfl, ?_⟩
          have hz := hz.chg0 hc36
          have hC := hC.then hc36 (by simp)
          refine W_cons rfl (by decide) (Sv_val rfl (R_move rfl rfl) ?_)
          refine W_cons rfl (by decide) (Sv_val rfl (R_extract rfl rfl rfl) ?_)
          refine W_cons rfl (by decide) (Sv_val rfl (R_extract rfl rfl rfl) ?_)
          refine W_cons rfl (by decide) (Sv_val rfl (R_assign rfl rfl) ?_)
          refine W_cons rfl (by decide) (Sv_val rfl (R_assign rfl rfl) ?_)
          refine W_nil ?_
          refine E_then (C_fr [(0, .slice Aa0 a0.length ca0), (1, .int .i64 a1), (5, .slice Ar5 a0.length cr5), (6, .int .i64 ((i : Int) - 2)), (8, .int .i64 ((findS a0 ((i : Int) - 2)).1)), (9, .int .i64 ((findS a0 ((i : Int) - 2)).2)), (10, .int .i64 ((rfindS a0 ((i : Int) - 2)).1)), (11, .int .i64 ((rfindS a0 ((i : Int) - 2)).2))] rfl ?_)
          refine C_seq ?_
          refine C_region ?_
          refine W_cons rfl (by decide) (Sv_val rfl (R_move rfl rfl) ?_)
          refine W_cons rfl (by decide) (Sv_val rfl (R_move rfl rfl) ?_)
          refine W_cons rfl (by decide) (Sv_val rfl (R_bin rfl rfl rfl rfl rfl) ?_)
          refine W_cons rfl (by decide) (Sv_val rfl (R_move rfl rfl) ?_)
          have hk37 : ((((findS a0 ((i : Int) - 2)).1) != ((rfindS a0 ((i : Int) - 2)).1))) = false := by simp [find_rfind]
          have hk37p : ((findS a0 ((i : Int) - 2)).1) = ((rfindS a0 ((i : Int) - 2)).1) := by simpa using hk37
          refine W_cons rfl (by decide) (Sv_gt rfl rfl rfl hk37 (Sv_val rfl (R_move rfl rfl) ?_))
          refine W_cons rfl (by decide) (Sv_gt rfl rfl rfl hk37 (Sv_val rfl (R_move rfl rfl) ?_))
          refine W_cons rfl (by decide) (Sv_gt rfl rfl rfl hk37 (Sv_val rfl (R_bin rfl rfl rfl rfl rfl) ?_))
          refine W_cons rfl (by decide) (Sv_val rfl (R_pick_f rfl rfl hk37 rfl) ?_)
          refine W_nil ?_
          refine E_then (C_fr [(0, .slice Aa0 a0.length ca0), (1, .int .i64 a1), (5, .slice Ar5 a0.length cr5), (6, .int .i64 ((i : Int) - 2)), (53, .int .i64 ((findS a0 ((i : Int) - 2)).2)), (54, .int .i64 ((rfindS a0 ((i : Int) - 2)).2)), (55, .bool (((findS a0 ((i : Int) - 2)).2) != ((rfindS a0 ((i : Int) - 2)).2))), (56, .bool (((findS a0 ((i : Int) - 2)).2) != ((rfindS a0 ((i : Int) - 2)).2)))] rfl ?_)
          have hk38 : ((((findS a0 ((i : Int) - 2)).2) != ((rfindS a0 ((i : Int) - 2)).2))) = false := by simp [find_rfind]
          have hk38p : ((findS a0 ((i : Int) - 2)).2) = ((rfindS a0 ((i : Int) - 2)).2) := by simpa using hk38
          refine C_else rfl hk38 ?_
          refine C_skip ?_
          refine E_block_normal ?_
          refine E_then ?_
          refine C_region ?_
          refine W_cons rfl (by decide) (Sv_val rfl (R_move rfl rfl) ?_)
          refine W_cons rfl (by decide) (Sv_val rfl (R_add64 rfl rfl rfl (by omega) (by omega)) ?_)
          refine W_cons rfl (by decide) (Sv_val rfl (R_assign rfl rfl) ?_)
          refine W_nil ?_
          have hs39 : ((i : Int) - 2) + 1 = ((i + 1 : Nat) : Int) - 2 := by omega
          refine E_round [0, 1, 5, 6] ?_ ⟨(i + 1), (by rw [← hs39]; rfl), (by omega), rfl, (hz.down hler24), hC⟩
          omega
      · have _hC2 := trivial
        have hC2p : ¬ (((i : Int) - 2) ≤ (((slotsS a0).length : Int) + 1)) := by simpa using hC2
        refine C_exit ?_
        refine E_then_exit ?_
        refine E_then_exit ?_
        refine E_block_hit ?_
        refine E_then ?_
        refine C_seq ?_
        refine C_region ?_
        refine W_cons rfl (by decide) (Sv_val rfl (R_move rfl rfl) ?_)
        refine W_cons rfl (by decide) (Sv_val rfl (R_move rfl rfl) ?_)
        refine W_cons rfl (by decide) (Sv_call rfl rfl rfl ent13 ?_)
        refine (same_calls Ar5 cr5 a0 Aa0 ca0 a0 _ _ hz hrr5 hcpr5 hra0 hca0 ).mono ?_
        rintro e_ w40 ⟨rfl, hc41⟩
        refine ⟨_, rfl, ?_⟩
        have hz := hz.chg0 hc41
        have hC := hC.then hc41 (by simp)
        refine W_cons rfl (by decide) (Sv_val rfl (R_move rfl rfl) ?_)
        have hk42 : (decide (a0 = a0)) = true := by simp
        refine W_cons rfl (by decide) (Sv_gt rfl rfl rfl hk42 (Sv_call rfl rfl rfl ent12 ?_))
        refine (awake_calls   _   ).mono ?_
        rintro e_ w43 ⟨rfl, hc44⟩
        refine ⟨_, rfl, ?_⟩
        have hz := hz.chg0 hc44
        have hC := hC.then hc44 (by simp)
        refine W_cons rfl (by decide) (Sv_val rfl (R_pick_t rfl rfl hk42 rfl) ?_)
        refine W_cons rfl (by decide) (Sv_val rfl (R_assign rfl rfl) ?_)
        refine W_nil ?_
        refine E_then (C_fr [(4, .bool true)] rfl ?_)
        refine C_ret ?_
        refine E_ret1 rfl rfl ?_
        exact ⟨Lret1 (Lbool (show true = true by rfl)), hC⟩

end Go.Proofs.YtibniimdfahiiaaG
