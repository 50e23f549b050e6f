/- The walk of the law AxisEach: it returns true. -/
import Derived.Test.YtibniimdfahiiaaX2
set_option linter.all false
namespace Go.Proofs.YtibniimdfahiiaaG
open Go Go.RowKit
set_option maxHeartbeats 4000000 in
set_option maxRecDepth 20000 in
theorem axisEach_calls (Aa0 : Option Addr) (ca0 : Nat) (a0 : List Int) (z : Z) (w : World) (hz : Sub z w) (hra0 : Rd (kint .i64) z Aa0 a0) (hca0 : Cap Aa0 a0.length ca0)  :
    Calls Try.prog 5 #[.slice Aa0 a0.length ca0] w fun e w' => e = .returned (.bool true) ∧ Chg [] w w' := by
  have hsl := starts_len a0
  have hsb := starts_bd a0 a0.length (Nat.le_refl _)
  have hla0 := hca0.le
  have hma0 := hca0.mx
  have hC := Chg.refl [] w
  refine Calls_of (vs := [.slice Aa0 a0.length ca0]) (N := 120) Try.func5 rfl rfl (Nat.le_of_ble_eq_true rfl) ?_
  refine C_seq ?_
  refine C_region ?_
  refine W_cons rfl (by decide) (Sv_val rfl (R_assign rfl rfl) ?_)
  refine W_nil ?_
  refine E_then ?_
  refine C_seq ?_
  refine C_seq ?_
  refine C_region ?_
  refine W_cons rfl (by decide) (Sv_val rfl (R_move rfl rfl) ?_)
  refine W_cons rfl (by decide) (Sv_val rfl (R_len rfl rfl Try.underlying22) ?_)
  refine W_cons rfl (by decide) (Sv_val rfl (R_bin rfl rfl rfl rfl rfl) ?_)
  refine W_nil ?_
  refine E_then ?_
  refine C_ite rfl (fun hC0 => ?_) (fun hC0 => ?_)
  · have _hC0 := trivial
    have hC0p : (a0.length : Int) > 100 := by simpa using hC0
    refine C_seq ?_
    refine C_region ?_
    refine W_cons rfl (by decide) (Sv_call rfl rfl rfl ent12 ?_)
    refine (awake_calls   _   ).mono ?_
    rintro e_ w1 ⟨rfl, hc2⟩
    refine ⟨_, rfl, ?_⟩
    have hz := hz.chg0 hc2
    have hC := hC.then hc2 (by simp)
    refine W_cons rfl (by decide) (Sv_val rfl (R_assign rfl rfl) ?_)
    refine W_nil ?_
    refine E_then (C_fr [(2, .bool true)] rfl ?_)
    refine C_ret ?_
    refine E_then_ret ?_
    refine E_ret1 rfl rfl ?_
    exact ⟨Lret1 (Lbool (show true = true by rfl)), hC⟩
  · have _hC0 := trivial
    have hC0p : ¬ ((a0.length : Int) > 100) := by simpa using hC0
    refine C_skip ?_
    refine E_then ?_
    refine C_seq ?_
    refine C_region ?_
    refine W_cons rfl (by decide) (Sv_val rfl (R_move rfl rfl) ?_)
    refine W_cons rfl (by decide) (Sv_call rfl rfl rfl ent14 ?_)
    refine (starts_calls Aa0 ca0 a0 _ _ hz hra0 hca0 (by omega)).mono ?_
    rintro e_ w3 ⟨Ar5, cr5, rfl, hOr5, hc4⟩
    refine ⟨_, rfl, ?_⟩
    have hZr5 : ∀ k ∈ blk Ar5, z k = none := fresh_z hz hOr5.base
    have hNr5 : ∀ k ∈ blk Ar5, w.heap.size ≤ k := newC hOr5.base hC.size
    have hOr5 := hOr5.lower hC.size
    have hz := hz.chg0 hc4
    have hC := hC.then hc4 (by simp)
    have hmr5 := hOr5.cap.mx
    have hlr5 := hOr5.cap.le
    obtain ⟨z6, hz, hler5, hrr5, hnr5⟩ := (hOr5.mono (zle_E _)).freeze hz hZr5
    have hcpr5 := hOr5.cap
    have hra0 := hra0.mono hler5
    refine W_cons rfl (by decide) (Sv_val rfl (R_assign rfl rfl) ?_)
    refine W_nil ?_
    refine E_then (C_fr [(0, .slice Aa0 a0.length ca0), (3, .slice Ar5 (startsS a0).length cr5)] rfl ?_)
    refine C_seq ?_
    refine C_seq ?_
    refine C_region ?_
    refine W_cons rfl (by decide) (Sv_val rfl (R_move rfl rfl) ?_)
    refine W_cons rfl (by decide) (Sv_val rfl (R_len rfl rfl Try.underlying22) ?_)
    refine W_cons rfl (by decide) (Sv_val rfl (R_move rfl rfl) ?_)
    refine W_cons rfl (by decide) (Sv_val rfl (R_len rfl rfl Try.underlying22) ?_)
    refine W_cons rfl (by decide) (Sv_val rfl (R_add64 rfl rfl rfl (by omega) (by omega)) ?_)
    refine W_cons rfl (by decide) (Sv_val rfl (R_bin rfl rfl rfl rfl rfl) ?_)
    refine W_cons rfl (by decide) (Sv_val rfl (R_move rfl rfl) ?_)
    have hk7 : ((((startsS a0).length : Int) != ((a0.length : Int) + 1))) = false := by simp [starts_len]
    have hk7p : ((startsS a0).length : Int) = ((a0.length : Int) + 1) := by simpa using hk7
    refine W_cons rfl (by decide) (Sv_gt rfl rfl rfl hk7 (Sv_val rfl (R_move rfl rfl) ?_))
    obtain ⟨q8, csq8, hAq8, rfl, hcq8⟩ := hrr5.at_ (0 : Int) (i := 0) (by omega) (by omega)
    have hcq8 : ∀ (j_ : Nat) (u_ : Value), ([.int .i64 ((startsS a0).getD 0 (0 : Int))] : List Value)[j_]? = some u_ → cz z6 (q8.add (0 * 1 + j_)) = some u_ := hcq8
    refine W_cons rfl (by decide) (Sv_gt rfl rfl rfl hk7 (Sv_val rfl (R_idx rfl rfl hAq8 rfl Try.underlying22 size3 (by omega) (by omega)) ?_))
    refine W_cons rfl (by decide) (Sv_gt rfl rfl rfl hk7 (Sv_val rfl (R_load1 rfl rfl agg3 (hz.cell (hcq8 0 _ rfl))) ?_))
    refine W_cons rfl (by decide) (Sv_gt rfl rfl rfl hk7 (Sv_val rfl (R_bin rfl rfl rfl rfl rfl) ?_))
    refine W_cons rfl (by decide) (Sv_val rfl (R_pick_f rfl rfl hk7 rfl) ?_)
    refine W_nil ?_
    refine E_then (C_fr [(0, .slice Aa0 a0.length ca0), (3, .slice Ar5 (startsS a0).length cr5), (30, .bool (((startsS a0).getD 0 (0 : Int)) != 1))] rfl ?_)
    have hk9 : ((((startsS a0).getD 0 (0 : Int)) != 1)) = false := by rw [starts_head]; rfl
    have hk9p : ((startsS a0).getD 0 (0 : Int)) = 1 := by simpa using hk9
    refine C_else rfl hk9 ?_
    refine C_skip ?_
    refine E_then ?_
    refine C_seq ?_
    refine C_seq ?_
    refine C_region ?_
    refine W_cons rfl (by decide) (Sv_val rfl (R_assign rfl rfl) ?_)
    refine W_nil ?_
    refine E_then ?_
    refine C_block ?_
    refine C_fr [(0, .slice Aa0 a0.length ca0), (3, .slice Ar5 (startsS a0).length cr5), (4, .int .i64 0)] rfl ?_
    refine C_loop (fun m_ f_ w_ => ∃ (i : Nat), f_ = [(0, .slice Aa0 a0.length ca0), (3, .slice Ar5 (startsS a0).length cr5), (4, .int .i64 (i : Int))] ∧ i ≤ a0.length ∧ m_ = a0.length - i ∧ Sub z6 w_ ∧ Chg [] w w_) (a0.length - 0) ?_ ?_
    · exact ⟨0, rfl, (by omega), rfl, hz, hC⟩
    · rintro m_ f_ w10 ⟨i, rfl, hI0_0, rfl, hz, hC⟩
      have hsbi := starts_bd a0 i (by omega)
      refine C_seq ?_
      refine C_seq ?_
      refine C_region ?_
      refine W_cons rfl (by decide) (Sv_val rfl (R_move rfl rfl) ?_)
      refine W_cons rfl (by decide) (Sv_val rfl (R_move rfl rfl) ?_)
      refine W_cons rfl (by decide) (Sv_val rfl (R_len rfl rfl Try.underlying22) ?_)
      refine W_cons rfl (by decide) (Sv_val rfl (R_bin rfl rfl rfl rfl rfl) ?_)
      refine W_nil ?_
      refine E_then ?_
      refine C_ite rfl (fun hC2 => ?_) (fun hC2 => ?_)
      · have _hC2 := trivial
        have hC2p : (i : Int) < (a0.length : Int) := by simpa using hC2
        refine C_skip ?_
        refine E_then ?_
        refine C_seq ?_
        refine C_block ?_
        refine C_seq ?_
        refine C_region ?_
        refine W_cons rfl (by decide) (Sv_val rfl (R_move rfl rfl) ?_)
        refine W_cons rfl (by decide) (Sv_val rfl (R_move rfl rfl) ?_)
        obtain ⟨q11, csq11, hAq11, rfl, hcq11⟩ := hra0.at_ (0 : Int) (i := (i : Int)) (by omega) (by omega)
        have hcq11 : ∀ (j_ : Nat) (u_ : Value), ([.int .i64 (a0.getD i (0 : Int))] : List Value)[j_]? = some u_ → cz z6 (q11.add (i * 1 + j_)) = some u_ := hcq11
        refine W_cons rfl (by decide) (Sv_val rfl (R_idx rfl rfl hAq11 rfl Try.underlying22 size3 (by omega) (by omega)) ?_)
        refine W_cons rfl (by decide) (Sv_val rfl (R_load1 rfl rfl agg3 (hz.cell (hcq11 0 _ rfl))) ?_)
        refine W_cons rfl (by decide) (Sv_val rfl (R_max rfl rfl) ?_)
        refine W_cons rfl (by decide) (Sv_val rfl (R_min rfl rfl) ?_)
        refine W_cons rfl (by decide) (Sv_val rfl (R_assign rfl rfl) ?_)
        refine W_nil ?_
        refine E_then (C_fr [(0, .slice Aa0 a0.length ca0), (3, .slice Ar5 (startsS a0).length cr5), (4, .int .i64 (i : Int)), (5, .int .i64 (min (max (a0.getD i (0 : Int)) 1) 60))] rfl ?_)
        refine C_seq ?_
        refine C_seq ?_
        refine C_fr [(0, .slice Aa0 a0.length ca0), (3, .slice Ar5 (startsS a0).length cr5), (4, .int .i64 (i : Int)), (5, .int .i64 (min (max (a0.getD i (0 : Int)) 1) 60))] rfl ?_
        obtain ⟨q12, csq12, hAq12, rfl, hcq12⟩ := hrr5.at_ (0 : Int) (i := ((i : Int) + 1)) (by omega) (by omega)
        have hcq12 : ∀ (j_ : Nat) (u_ : Value), ([.int .i64 ((startsS a0).getD (i + 1) (0 : Int))] : List Value)[j_]? = some u_ → cz z6 (q12.add ((i + 1) * 1 + j_)) = some u_ := hcq12
        obtain ⟨q13, csq13, hAq13, rfl, hcq13⟩ := hrr5.at_ (0 : Int) (i := (i : Int)) (by omega) (by omega)
        have hcq13 : ∀ (j_ : Nat) (u_ : Value), ([.int .i64 ((startsS a0).getD i (0 : Int))] : List Value)[j_]? = some u_ → cz z6 (q13.add (i * 1 + j_)) = some u_ := hcq13
        refine C_drawn 13 [[], [], [1], [0, 2], [3], [], [], [5, 6], [7], [], [8, 9], [10], [4, 11]] [43, 44, 45, 46, 47, 48, 49, 50, 51, 52, 53, 54, 55] [0, 3, 4, 5] rfl (by kernel_rfl) (by decide +kernel) [fun v _ => v = .slice Ar5 (startsS a0).length cr5, fun v _ => v = .int .i64 (i : Int), fun v _ => v = .int .i64 ((i : Int) + 1), fun v _ => v = .pointer (some (q12.add ((i + 1) * 1))), fun v _ => v = .int .i64 ((startsS a0).getD (i + 1) (0 : Int)), fun v _ => v = .slice Ar5 (startsS a0).length cr5, fun v _ => v = .int .i64 (i : Int), fun v _ => v = .pointer (some (q13.add (i * 1))), fun v _ => v = .int .i64 ((startsS a0).getD i (0 : Int)), fun v _ => v = .int .i64 (min (max (a0.getD i (0 : Int)) 1) 60), fun v _ => v = .int .i64 (((startsS a0).getD i (0 : Int)) + (min (max (a0.getD i (0 : Int)) 1) 60)), fun v _ => v = .int .i64 ((((startsS a0).getD i (0 : Int)) + (min (max (a0.getD i (0 : Int)) 1) 60)) + 1), fun v _ => v = .bool (((startsS a0).getD (i + 1) (0 : Int)) != ((((startsS a0).getD i (0 : Int)) + (min (max (a0.getD i (0 : Int)) 1) 60)) + 1))] ⟨fun _ _ _ h _ => h, fun _ _ _ h _ => h, fun _ _ _ h _ => h, fun _ _ _ h _ => h, fun _ _ _ h _ => h, fun _ _ _ h _ => h, fun _ _ _ h _ => h, fun _ _ _ h _ => h, fun _ _ _ h _ => h, fun _ _ _ h _ => h, fun _ _ _ h _ => h, fun _ _ _ h _ => h, fun _ _ _ h _ => h, trivial⟩ ?_ ?_
        · refine ⟨fun w14 hc15 => ?_, ?_⟩
          · have _w14 := trivial
            have hz := hz.chg0 hc15
            have hC := hC.then hc15 (by simp)
            exact Sv_val rfl (R_move rfl rfl) ⟨Chg.refl _ _, rfl⟩
          refine ⟨fun w16 hc17 => ?_, ?_⟩
          · have _w16 := trivial
            have hz := hz.chg0 hc17
            have hC := hC.then hc17 (by simp)
            exact Sv_val rfl (R_move rfl rfl) ⟨Chg.refl _ _, rfl⟩
          refine ⟨fun w18 hc19 => ?_, ?_⟩
          · have _w18 := trivial
            have hz := hz.chg0 hc19
            have hC := hC.then hc19 (by simp)
            rintro _ rfl
            exact Sv_val rfl (R_add64 rfl rfl rfl (by omega) (by omega)) ⟨Chg.refl _ _, rfl⟩
          refine ⟨fun w20 hc21 => ?_, ?_⟩
          · have _w20 := trivial
            have hz := hz.chg0 hc21
            have hC := hC.then hc21 (by simp)
            rintro _ rfl _ rfl
            exact Sv_val rfl (R_idx rfl rfl hAq12 rfl Try.underlying22 size3 (by omega) (by omega)) ⟨Chg.refl _ _, rfl⟩
          refine ⟨fun w22 hc23 => ?_, ?_⟩
          · have _w22 := trivial
            have hz := hz.chg0 hc23
            have hC := hC.then hc23 (by simp)
            rintro _ rfl
            exact Sv_val rfl (R_load1 rfl rfl agg3 (hz.cell (hcq12 0 _ rfl))) ⟨Chg.refl _ _, rfl⟩
          refine ⟨fun w24 hc25 => ?_, ?_⟩
          · have _w24 := trivial
            have hz := hz.chg0 hc25
            have hC := hC.then hc25 (by simp)
            exact Sv_val rfl (R_move rfl rfl) ⟨Chg.refl _ _, rfl⟩
          refine ⟨fun w26 hc27 => ?_, ?_⟩
          · have _w26 := trivial
            have hz := hz.chg0 hc27
            have hC := hC.then hc27 (by simp)
            exact Sv_val rfl (R_move rfl rfl) ⟨Chg.refl _ _, rfl⟩
          refine ⟨fun w28 hc29 => ?_, ?_⟩
          · have _w28 := trivial
            have hz := hz.chg0 hc29
            have hC := hC.then hc29 (by simp)
            rintro _ rfl _ rfl
            exact Sv_val rfl (R_idx rfl rfl hAq13 rfl Try.underlying22 size3 (by omega) (by omega)) ⟨Chg.refl _ _, rfl⟩
          refine ⟨fun w30 hc31 => ?_, ?_⟩
          · have _w30 := trivial
            have hz := hz.chg0 hc31
            have hC := hC.then hc31 (by simp)
            rintro _ rfl
            exact Sv_val rfl (R_load1 rfl rfl agg3 (hz.cell (hcq13 0 _ rfl))) ⟨Chg.refl _ _, rfl⟩
          refine ⟨fun w32 hc33 => ?_, ?_⟩
          · have _w32 := trivial
            have hz := hz.chg0 hc33
            have hC := hC.then hc33 (by simp)
            exact Sv_val rfl (R_move rfl rfl) ⟨Chg.refl _ _, rfl⟩
          refine ⟨fun w34 hc35 => ?_, ?_⟩
          · have _w34 := trivial
            have hz := hz.chg0 hc35
            have hC := hC.then hc35 (by simp)
            rintro _ rfl _ rfl
            exact Sv_val rfl (R_add64 rfl rfl rfl (by omega) (by omega)) ⟨Chg.refl _ _, rfl⟩
          refine ⟨fun w36 hc37 => ?_, ?_⟩
          · have _w36 := trivial
            have hz := hz.chg0 hc37
            have hC := hC.then hc37 (by simp)
            rintro _ rfl
            exact Sv_val rfl (R_add64 rfl rfl rfl (by omega) (by omega)) ⟨Chg.refl _ _, rfl⟩
          refine ⟨fun w38 hc39 => ?_, ?_⟩
          · have _w38 := trivial
            have hz := hz.chg0 hc39
            have hC := hC.then hc39 (by simp)
            rintro _ rfl _ rfl
            exact Sv_val rfl (R_bin rfl rfl rfl rfl rfl) ⟨Chg.refl _ _, rfl⟩
          exact trivial
        · intro w40 hc41
          have hz := hz.chg0 hc41
          have hC := hC.then hc41 (by simp)
          rintro _ rfl _ rfl _ rfl _ rfl _ rfl _ rfl _ rfl _ rfl _ rfl _ rfl _ rfl _ rfl _ rfl
          refine An_fr [(0, .slice Aa0 a0.length ca0), (3, .slice Ar5 (startsS a0).length cr5), (4, .int .i64 (i : Int)), (5, .int .i64 (min (max (a0.getD i (0 : Int)) 1) 60)), (55, .bool (((startsS a0).getD (i + 1) (0 : Int)) != ((((startsS a0).getD i (0 : Int)) + (min (max (a0.getD i (0 : Int)) 1) 60)) + 1)))] rfl ?_
          refine An_done (by decide +kernel) ?_
          refine E_then ?_
          have hk42 : ((((startsS a0).getD (i + 1) (0 : Int)) != ((((startsS a0).getD i (0 : Int)) + (min (max (a0.getD i (0 : Int)) 1) 60)) + 1))) = false := by have h_ := starts_step a0 i (by omega); unfold cutS at h_; rw [h_]; simp
          have hk42p : ((startsS a0).getD (i + 1) (0 : Int)) = ((((startsS a0).getD i (0 : Int)) + (min (max (a0.getD i (0 : Int)) 1) 60)) + 1) := by simpa using hk42
          refine C_else rfl hk42 ?_
          refine C_skip ?_
          refine E_then ?_
          refine C_seq ?_
          refine C_region ?_
          refine W_cons rfl (by decide) (Sv_val rfl (R_assign rfl rfl) ?_)
          refine W_nil ?_
          refine E_then ?_
          refine C_block ?_
          have hs44 : (-1) = ((0 : Nat) : Int) - 1 := by rfl
          refine C_fr [(0, .slice Aa0 a0.length ca0), (3, .slice Ar5 (startsS a0).length cr5), (4, .int .i64 (i : Int)), (5, .int .i64 (min (max (a0.getD i (0 : Int)) 1) 60)), (6, .int .i64 (((0 : Nat) : Int) - 1))] (by rw [← hs44]; rfl) ?_
          refine C_loop (fun m_ f_ w_ => ∃ (k : Nat), f_ = [(0, .slice Aa0 a0.length ca0), (3, .slice Ar5 (startsS a0).length cr5), (4, .int .i64 (i : Int)), (5, .int .i64 (min (max (a0.getD i (0 : Int)) 1) 60)), (6, .int .i64 ((k : Int) - 1))] ∧ (k : Int) - 1 ≤ min (max (a0.getD i 0) 1) 60 ∧ m_ = (min (max (a0.getD i 0) 1) 60).toNat + 1 - k ∧ Sub z6 w_ ∧ Chg [] w w_) ((min (max (a0.getD i 0) 1) 60).toNat + 1 - 0) ?_ ?_
          · exact ⟨0, rfl, (by omega), rfl, hz, hC⟩
          · rintro m_ f_ w43 ⟨k, rfl, hI1_0, rfl, hz, hC⟩
            refine C_seq ?_
            refine C_seq ?_
            refine C_region ?_
            refine W_cons rfl (by decide) (Sv_val rfl (R_move rfl rfl) ?_)
            refine W_cons rfl (by decide) (Sv_val rfl (R_move rfl rfl) ?_)
            refine W_cons rfl (by decide) (Sv_val rfl (R_bin rfl rfl rfl rfl rfl) ?_)
            refine W_nil ?_
            refine E_then ?_
            refine C_ite rfl (fun hC4 => ?_) (fun hC4 => ?_)
            · have _hC4 := trivial
              have hC4p : ((k : Int) - 1) < (min (max (a0.getD i (0 : Int)) 1) 60) := by simpa using hC4
              refine C_skip ?_
              refine E_then ?_
              refine C_seq ?_
              refine C_block ?_
              refine C_seq ?_
              refine C_region ?_
              refine W_cons rfl (by decide) (Sv_val rfl (R_move rfl rfl) ?_)
              refine W_cons rfl (by decide) (Sv_val rfl (R_move rfl rfl) ?_)
              refine W_cons rfl (by decide) (Sv_val rfl (R_move rfl rfl) ?_)
              obtain ⟨q45, csq45, hAq45, rfl, hcq45⟩ := hrr5.at_ (0 : Int) (i := (i : Int)) (by omega) (by omega)
              have hcq45 : ∀ (j_ : Nat) (u_ : Value), ([.int .i64 ((startsS a0).getD i (0 : Int))] : List Value)[j_]? = some u_ → cz z6 (q45.add (i * 1 + j_)) = some u_ := hcq45
              refine W_cons rfl (by decide) (Sv_val rfl (R_idx rfl rfl hAq45 rfl Try.underlying22 size3 (by omega) (by omega)) ?_)
              refine W_cons rfl (by decide) (Sv_val rfl (R_load1 rfl rfl agg3 (hz.cell (hcq45 0 _ rfl))) ?_)
              refine W_cons rfl (by decide) (Sv_val rfl (R_move rfl rfl) ?_)
              refine W_cons rfl (by decide) (Sv_val rfl (R_add64 rfl rfl rfl (by omega) (by omega)) ?_)
              refine W_cons rfl (by decide) (Sv_call rfl rfl rfl ent17 ?_)
              refine (find_calls Aa0 ca0 a0 (((startsS a0).getD i (0 : Int)) + ((k : Int) - 1)) _ _ hz hra0 hca0 (by omega) (by omega)).mono ?_
              rintro e_ w46 ⟨rfl, hc47⟩
              refine ⟨_, rfl, ?_⟩
              have hz := hz.chg0 hc47
              have hC := hC.then hc47 (by simp)
              refine W_cons rfl (by decide) (Sv_val rfl (R_move rfl rfl) ?_)
              refine W_cons rfl (by decide) (Sv_val rfl (R_extract rfl rfl rfl) ?_)
              refine W_cons rfl (by decide) (Sv_val rfl (R_extract rfl rfl rfl) ?_)
              refine W_cons rfl (by decide) (Sv_val rfl (R_assign rfl rfl) ?_)
              refine W_cons rfl (by decide) (Sv_val rfl (R_assign rfl rfl) ?_)
              refine W_nil ?_
              refine E_then (C_fr [(0, .slice Aa0 a0.length ca0), (3, .slice Ar5 (startsS a0).length cr5), (4, .int .i64 (i : Int)), (5, .int .i64 (min (max (a0.getD i (0 : Int)) 1) 60)), (6, .int .i64 ((k : Int) - 1)), (7, .int .i64 ((findS a0 (((startsS a0).getD i (0 : Int)) + ((k : Int) - 1))).1)), (8, .int .i64 ((findS a0 (((startsS a0).getD i (0 : Int)) + ((k : Int) - 1))).2))] rfl ?_)
              refine C_seq ?_
              refine C_region ?_
              refine W_cons rfl (by decide) (Sv_val rfl (R_move rfl rfl) ?_)
              refine W_cons rfl (by decide) (Sv_val rfl (R_move rfl rfl) ?_)
              refine W_cons rfl (by decide) (Sv_val rfl (R_bin rfl rfl rfl rfl rfl) ?_)
              refine W_cons rfl (by decide) (Sv_val rfl (R_move rfl rfl) ?_)
              have hk48 : ((((findS a0 (((startsS a0).getD i (0 : Int)) + ((k : Int) - 1))).1) != (i : Int))) = false := by rw [find_at (by omega) (by omega) (by unfold cutS; omega)]; simp
              have hk48p : ((findS a0 (((startsS a0).getD i (0 : Int)) + ((k : Int) - 1))).1) = (i : Int) := by simpa using hk48
              refine W_cons rfl (by decide) (Sv_gt rfl rfl rfl hk48 (Sv_val rfl (R_move rfl rfl) ?_))
              refine W_cons rfl (by decide) (Sv_gt rfl rfl rfl hk48 (Sv_val rfl (R_move rfl rfl) ?_))
              refine W_cons rfl (by decide) (Sv_gt rfl rfl rfl hk48 (Sv_val rfl (R_bin rfl rfl rfl rfl rfl) ?_))
              refine W_cons rfl (by decide) (Sv_val rfl (R_pick_f rfl rfl hk48 rfl) ?_)
              refine W_nil ?_
              refine E_then (C_fr [(0, .slice Aa0 a0.length ca0), (3, .slice Ar5 (startsS a0).length cr5), (4, .int .i64 (i : Int)), (5, .int .i64 (min (max (a0.getD i (0 : Int)) 1) 60)), (6, .int .i64 ((k : Int) - 1)), (76, .int .i64 ((findS a0 (((startsS a0).getD i (0 : Int)) + ((k : Int) - 1))).2)), (77, .int .i64 ((k : Int) - 1)), (78, .bool (((findS a0 (((startsS a0).getD i (0 : Int)) + ((k : Int) - 1))).2) != ((k : Int) - 1))), (79, .bool (((findS a0 (((startsS a0).getD i (0 : Int)) + ((k : Int) - 1))).2) != ((k : Int) - 1)))] rfl ?_)
              have hk49 : ((((findS a0 (((startsS a0).getD i (0 : Int)) + ((k : Int) - 1))).2) != ((k : Int) - 1))) = false := by rw [find_at (by omega) (by omega) (by unfold cutS; omega)]; simp
              have hk49p : ((findS a0 (((startsS a0).getD i (0 : Int)) + ((k : Int) - 1))).2) = ((k : Int) - 1) := by simpa using hk49
              refine C_else rfl hk49 ?_
              refine C_skip ?_
              refine E_block_normal ?_
              refine E_then ?_
              refine C_region ?_
              refine W_cons rfl (by decide) (Sv_val rfl (R_move rfl rfl) ?_)
              refine W_cons rfl (by decide) (Sv_val rfl (R_add64 rfl rfl rfl (by omega) (by omega)) ?_)
              refine W_cons rfl (by decide) (Sv_val rfl (R_assign rfl rfl) ?_)
              refine W_nil ?_
              have hs50 : ((k : Int) - 1) + 1 = ((k + 1 : Nat) : Int) - 1 := by omega
              refine E_round [0, 3, 4, 5, 6] ?_ ⟨(k + 1), (by rw [← hs50]; rfl), (by omega), rfl, hz, hC⟩
              omega
            · have _hC4 := trivial
              have hC4p : ¬ (((k : Int) - 1) < (min (max (a0.getD i (0 : Int)) 1) 60)) := by simpa using hC4
              refine C_exit ?_
              refine E_then_exit ?_
              refine E_then_exit ?_
              refine E_block_hit ?_
              refine E_block_normal ?_
              refine E_then (C_fr [(0, .slice Aa0 a0.length ca0), (3, .slice Ar5 (startsS a0).length cr5), (4, .int .i64 (i : Int))] rfl ?_)
              refine C_region ?_
              refine W_cons rfl (by decide) (Sv_val rfl (R_move rfl rfl) ?_)
              refine W_cons rfl (by decide) (Sv_val rfl (R_add64 rfl rfl rfl (by omega) (by omega)) ?_)
              refine W_cons rfl (by decide) (Sv_val rfl (R_assign rfl rfl) ?_)
              refine W_nil ?_
              refine E_round [0, 3, 4] ?_ ⟨(i + 1), rfl, (by omega), rfl, hz, hC⟩
              omega
      · have _hC2 := trivial
        have hC2p : ¬ ((i : Int) < (a0.length : Int)) := by simpa using hC2
        refine C_exit ?_
        refine E_then_exit ?_
        refine E_then_exit ?_
        refine E_block_hit ?_
        refine E_then (C_fr [(0, .slice Aa0 a0.length ca0), (3, .slice Ar5 (startsS a0).length cr5)] rfl ?_)
        refine C_seq ?_
        refine C_region ?_
        refine W_cons rfl (by decide) (Sv_val rfl (R_move rfl rfl) ?_)
        refine W_cons rfl (by decide) (Sv_val rfl (R_move rfl rfl) ?_)
        refine W_cons rfl (by decide) (Sv_val rfl (R_move rfl rfl) ?_)
        refine W_cons rfl (by decide) (Sv_val rfl (R_len rfl rfl Try.underlying22) ?_)
        obtain ⟨q51, csq51, hAq51, rfl, hcq51⟩ := hrr5.at_ (0 : Int) (i := (a0.length : Int)) (by omega) (by omega)
        have hcq51 : ∀ (j_ : Nat) (u_ : Value), ([.int .i64 ((startsS a0).getD a0.length (0 : Int))] : List Value)[j_]? = some u_ → cz z6 (q51.add (a0.length * 1 + j_)) = some u_ := hcq51
        refine W_cons rfl (by decide) (Sv_val rfl (R_idx rfl rfl hAq51 rfl Try.underlying22 size3 (by omega) (by omega)) ?_)
        refine W_cons rfl (by decide) (Sv_val rfl (R_load1 rfl rfl agg3 (hz.cell (hcq51 0 _ rfl))) ?_)
        refine W_cons rfl (by decide) (Sv_val rfl (R_sub64 rfl rfl rfl (by omega) (by omega)) ?_)
        refine W_cons rfl (by decide) (Sv_call rfl rfl rfl ent17 ?_)
        refine (find_calls Aa0 ca0 a0 (((startsS a0).getD a0.length (0 : Int)) - 1) _ _ hz hra0 hca0 (by omega) (by omega)).mono ?_
        rintro e_ w52 ⟨rfl, hc53⟩
        refine ⟨_, rfl, ?_⟩
        have hz := hz.chg0 hc53
        have hC := hC.then hc53 (by simp)
        refine W_cons rfl (by decide) (Sv_val rfl (R_move rfl rfl) ?_)
        refine W_cons rfl (by decide) (Sv_val rfl (R_extract rfl rfl rfl) ?_)
        refine W_cons rfl (by decide) (Sv_val rfl (R_extract rfl rfl rfl) ?_)
        refine W_cons rfl (by decide) (Sv_val rfl (R_assign rfl rfl) ?_)
        refine W_cons rfl (by decide) (Sv_val rfl (R_assign rfl rfl) ?_)
        refine W_nil ?_
        refine E_then (C_fr [(0, .slice Aa0 a0.length ca0), (3, .slice Ar5 (startsS a0).length cr5), (9, .int .i64 ((findS a0 (((startsS a0).getD a0.length (0 : Int)) - 1)).1)), (10, .int .i64 ((findS a0 (((startsS a0).getD a0.length (0 : Int)) - 1)).2))] rfl ?_)
        refine C_seq ?_
        refine C_region ?_
        refine W_cons rfl (by decide) (Sv_val rfl (R_move rfl rfl) ?_)
        refine W_cons rfl (by decide) (Sv_val rfl (R_move rfl rfl) ?_)
        refine W_cons rfl (by decide) (Sv_val rfl (R_move rfl rfl) ?_)
        refine W_cons rfl (by decide) (Sv_val rfl (R_len rfl rfl Try.underlying22) ?_)
        obtain ⟨q54, csq54, hAq54, rfl, hcq54⟩ := hrr5.at_ (0 : Int) (i := (a0.length : Int)) (by omega) (by omega)
        have hcq54 : ∀ (j_ : Nat) (u_ : Value), ([.int .i64 ((startsS a0).getD a0.length (0 : Int))] : List Value)[j_]? = some u_ → cz z6 (q54.add (a0.length * 1 + j_)) = some u_ := hcq54
        refine W_cons rfl (by decide) (Sv_val rfl (R_idx rfl rfl hAq54 rfl Try.underlying22 size3 (by omega) (by omega)) ?_)
        refine W_cons rfl (by decide) (Sv_val rfl (R_load1 rfl rfl agg3 (hz.cell (hcq54 0 _ rfl))) ?_)
        refine W_cons rfl (by decide) (Sv_call rfl rfl rfl ent17 ?_)
        refine (find_calls Aa0 ca0 a0 ((startsS a0).getD a0.length (0 : Int)) _ _ hz hra0 hca0 (by omega) (by omega)).mono ?_
        rintro e_ w55 ⟨rfl, hc56⟩
        refine ⟨_, rfl, ?_⟩
        have hz := hz.chg0 hc56
        have hC := hC.then hc56 (by simp)
        refine W_cons rfl (by decide) (Sv_val rfl (R_move rfl rfl) ?_)
        refine W_cons rfl (by decide) (Sv_val rfl (R_extract rfl rfl rfl) ?_)
        refine W_cons rfl (by decide) (Sv_val rfl (R_extract rfl rfl rfl) ?_)
        refine W_cons rfl (by decide) (Sv_val rfl (R_assign rfl rfl) ?_)
        refine W_cons rfl (by decide) (Sv_val rfl (R_assign rfl rfl) ?_)
        refine W_nil ?_
        refine E_then (C_fr [(0, .slice Aa0 a0.length ca0), (9, .int .i64 ((findS a0 (((startsS a0).getD a0.length (0 : Int)) - 1)).1)), (10, .int .i64 ((findS a0 (((startsS a0).getD a0.length (0 : Int)) - 1)).2)), (11, .int .i64 ((findS a0 ((startsS a0).getD a0.length (0 : Int))).1)), (12, .int .i64 ((findS a0 ((startsS a0).getD a0.length (0 : Int))).2))] rfl ?_)
        refine C_seq ?_
        refine C_region ?_
        refine W_cons rfl (by decide) (Sv_val rfl (R_move rfl rfl) ?_)
        refine W_cons rfl (by decide) (Sv_val rfl (R_move rfl rfl) ?_)
        refine W_cons rfl (by decide) (Sv_val rfl (R_len rfl rfl Try.underlying22) ?_)
        refine W_cons rfl (by decide) (Sv_val rfl (R_bin rfl rfl rfl rfl rfl) ?_)
        refine W_cons rfl (by decide) (Sv_val rfl (R_move rfl rfl) ?_)
        have hk57 : ((((findS a0 (((startsS a0).getD a0.length (0 : Int)) - 1)).1) == (a0.length : Int))) = true := by rw [find_last]; simp
        have hk57p : ((findS a0 (((startsS a0).getD a0.length (0 : Int)) - 1)).1) = (a0.length : Int) := by simpa using hk57
        refine W_cons rfl (by decide) (Sv_gt rfl rfl rfl hk57 (Sv_val rfl (R_move rfl rfl) ?_))
        refine W_cons rfl (by decide) (Sv_gt rfl rfl rfl hk57 (Sv_val rfl (R_bin rfl rfl rfl rfl rfl) ?_))
        refine W_cons rfl (by decide) (Sv_val rfl (R_pick_t rfl rfl hk57 rfl) ?_)
        refine W_cons rfl (by decide) (Sv_val rfl (R_move rfl rfl) ?_)
        have hk58 : ((((findS a0 (((startsS a0).getD a0.length (0 : Int)) - 1)).2) == (-1))) = true := by rw [find_last]; simp
        have hk58p : ((findS a0 (((startsS a0).getD a0.length (0 : Int)) - 1)).2) = (-1) := by simpa using hk58
        refine W_cons rfl (by decide) (Sv_gt rfl rfl rfl hk58 (Sv_val rfl (R_move rfl rfl) ?_))
        refine W_cons rfl (by decide) (Sv_gt rfl rfl rfl hk58 (Sv_val rfl (R_bin rfl rfl rfl rfl rfl) ?_))
        refine W_cons rfl (by decide) (Sv_val rfl (R_pick_t rfl rfl hk58 rfl) ?_)
        refine W_cons rfl (by decide) (Sv_val rfl (R_move rfl rfl) ?_)
        have hk59 : ((((findS a0 ((startsS a0).getD a0.length (0 : Int))).1) == (-1))) = true := by rw [find_out]; rfl
        have hk59p : ((findS a0 ((startsS a0).getD a0.length (0 : Int))).1) = (-1) := by simpa using hk59
        refine W_cons rfl (by decide) (Sv_gt rfl rfl rfl hk59 (Sv_val rfl (R_move rfl rfl) ?_))
        refine W_cons rfl (by decide) (Sv_gt rfl rfl rfl hk59 (Sv_val rfl (R_bin rfl rfl rfl rfl rfl) ?_))
        refine W_cons rfl (by decide) (Sv_val rfl (R_pick_t rfl rfl hk59 rfl) ?_)
        refine W_cons rfl (by decide) (Sv_val rfl (R_move rfl rfl) ?_)
        have hk60 : ((((findS a0 ((startsS a0).getD a0.length (0 : Int))).2) == (-1))) = true := by rw [find_out]; rfl
        have hk60p : ((findS a0 ((startsS a0).getD a0.length (0 : Int))).2) = (-1) := by simpa using hk60
        refine W_cons rfl (by decide) (Sv_gt rfl rfl rfl hk60 (Sv_call rfl rfl rfl ent12 ?_))
        refine (awake_calls   _   ).mono ?_
        rintro e_ w61 ⟨rfl, hc62⟩
        refine ⟨_, rfl, ?_⟩
        have hz := hz.chg0 hc62
        have hC := hC.then hc62 (by simp)
        refine W_cons rfl (by decide) (Sv_val rfl (R_pick_t rfl rfl hk60 rfl) ?_)
        refine W_cons rfl (by decide) (Sv_val rfl (R_assign rfl rfl) ?_)
        refine W_nil ?_
        refine E_then (C_fr [(2, .bool true)] rfl ?_)
        refine C_ret ?_
        refine E_ret1 rfl rfl ?_
        exact ⟨Lret1 (Lbool (show true = true by rfl)), hC⟩

end Go.Proofs.YtibniimdfahiiaaG
