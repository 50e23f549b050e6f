/- Walks, each function once: what it computes. -/
import Derived.Test.YtibniimdfahiiaaX1
set_option linter.all false
namespace Go.Proofs.YtibniimdfahiiaaG
open Go Go.RowKit
set_option maxHeartbeats 4000000 in
set_option maxRecDepth 20000 in
theorem within_calls (Aa0 : Option Addr) (ca0 : Nat) (a0 : List Int) (Aa1 : Option Addr) (ca1 : Nat) (a1 : List Int) (a2 : TRect) (z : Z) (w : World) (hz : Sub z w) (hra0 : Rd (kint .i64) z Aa0 a0) (hca0 : Cap Aa0 a0.length ca0) (hra1 : Rd (kint .i64) z Aa1 a1) (hca1 : Cap Aa1 a1.length ca1) (p0 : a0.length ≤ 1000) (p1 : a1.length ≤ 1000) :
    Calls Try.prog 41 #[.slice Aa0 a0.length ca0, .slice Aa1 a1.length ca1, .agg #[.int .i64 a2.Row, .int .i64 a2.Col, .int .i64 a2.Rows, .int .i64 a2.Cols]] w fun e w' => e = .returned (.bool (insideS a0.length a1.length a2)) ∧ Chg [] w w' := by
  have hla0 := hca0.le
  have hma0 := hca0.mx
  have hla1 := hca1.le
  have hma1 := hca1.mx
  have hC := Chg.refl [] w
  refine Calls_of (vs := [.slice Aa0 a0.length ca0, .slice Aa1 a1.length ca1, .agg #[.int .i64 a2.Row, .int .i64 a2.Col, .int .i64 a2.Rows, .int .i64 a2.Cols]]) (N := 61) Try.func41 rfl rfl (Nat.le_of_ble_eq_true rfl) ?_
  refine C_seq ?_
  refine C_region ?_
  refine W_cons rfl (by decide) (Sv_box rfl (R_box (cs := [.int .i64 a2.Row, .int .i64 a2.Col, .int .i64 a2.Rows, .int .i64 a2.Cols]) rfl rfl rfl) (fun b1 w2 hcb1 hnb1 hBb1 => ?_))
  have hZb1 : ∀ k ∈ [b1], z k = none := fresh_z hz (boxbase hnb1)
  have hNb1 : ∀ k ∈ [b1], w.heap.size ≤ k := newC (boxbase hnb1) hC.size
  have hz := hz.chg0 hcb1
  have hC := hC.then hcb1 (by simp)
  refine W_cons rfl (by decide) (Sv_val rfl (R_assign rfl rfl) ?_)
  refine W_nil ?_
  refine E_then ?_
  refine C_seq ?_
  refine C_region ?_
  refine W_cons rfl (by decide) (Sv_val rfl (R_fld rfl rfl fld30_0) ?_)
  refine W_cons rfl (by decide) (Sv_val rfl (R_load1 rfl rfl agg3 (hBb1.cell rfl)) ?_)
  refine W_cons rfl (by decide) (Sv_val rfl (R_bin rfl rfl rfl rfl rfl) ?_)
  refine W_cons rfl (by decide) (Sv_val rfl (R_move rfl rfl) ?_)
  refine W_split (t := 11) rfl (fun hg3 => ?_) (fun hg3 => ?_)
  · have _hg3 := trivial
    have hg3p : a2.Row ≥ 0 := by simpa using hg3
    refine W_cons rfl (by decide) (Sv_gt rfl rfl rfl hg3 (Sv_val rfl (R_fld rfl rfl fld30_2) ?_))
    refine W_cons rfl (by decide) (Sv_gt rfl rfl rfl hg3 (Sv_val rfl (R_load1 rfl rfl agg3 (hBb1.cell rfl)) ?_))
    refine W_cons rfl (by decide) (Sv_gt rfl rfl rfl hg3 (Sv_val rfl (R_bin rfl rfl rfl rfl rfl) ?_))
    refine W_cons rfl (by decide) (Sv_val rfl (R_pick_t rfl rfl hg3 rfl) ?_)
    refine W_cons rfl (by decide) (Sv_val rfl (R_move rfl rfl) ?_)
    refine W_split (t := 16) rfl (fun hg4 => ?_) (fun hg4 => ?_)
    · have _hg4 := trivial
      have hg4p : a2.Rows ≥ 1 := by simpa using hg4
      refine W_cons rfl (by decide) (Sv_gt rfl rfl rfl hg4 (Sv_val rfl (R_fld rfl rfl fld30_0) ?_))
      refine W_cons rfl (by decide) (Sv_gt rfl rfl rfl hg4 (Sv_val rfl (R_load1 rfl rfl agg3 (hBb1.cell rfl)) ?_))
      refine W_cons rfl (by decide) (Sv_gt rfl rfl rfl hg4 (Sv_val rfl (R_move rfl rfl) ?_))
      refine W_cons rfl (by decide) (Sv_gt rfl rfl rfl hg4 (Sv_val rfl (R_len rfl rfl Try.underlying22) ?_))
      refine W_cons rfl (by decide) (Sv_gt rfl rfl rfl hg4 (Sv_val rfl (R_bin rfl rfl rfl rfl rfl) ?_))
      refine W_cons rfl (by decide) (Sv_val rfl (R_pick_t rfl rfl hg4 rfl) ?_)
      refine W_cons rfl (by decide) (Sv_val rfl (R_move rfl rfl) ?_)
      refine W_split (t := 23) rfl (fun hg5 => ?_) (fun hg5 => ?_)
      · have _hg5 := trivial
        have hg5p : a2.Row < (a1.length : Int) := by simpa using hg5
        refine W_cons rfl (by decide) (Sv_gt rfl rfl rfl hg5 (Sv_val rfl (R_fld rfl rfl fld30_2) ?_))
        refine W_cons rfl (by decide) (Sv_gt rfl rfl rfl hg5 (Sv_val rfl (R_load1 rfl rfl agg3 (hBb1.cell rfl)) ?_))
        refine W_cons rfl (by decide) (Sv_gt rfl rfl rfl hg5 (Sv_val rfl (R_move rfl rfl) ?_))
        refine W_cons rfl (by decide) (Sv_gt rfl rfl rfl hg5 (Sv_val rfl (R_len rfl rfl Try.underlying22) ?_))
        refine W_cons rfl (by decide) (Sv_gt rfl rfl rfl hg5 (Sv_val rfl (R_fld rfl rfl fld30_0) ?_))
        refine W_cons rfl (by decide) (Sv_gt rfl rfl rfl hg5 (Sv_val rfl (R_load1 rfl rfl agg3 (hBb1.cell rfl)) ?_))
        refine W_cons rfl (by decide) (Sv_gt rfl rfl rfl hg5 (Sv_val rfl (R_sub64 rfl rfl rfl (by omega) (by omega)) ?_))
        refine W_cons rfl (by decide) (Sv_gt rfl rfl rfl hg5 (Sv_val rfl (R_bin rfl rfl rfl rfl rfl) ?_))
        refine W_cons rfl (by decide) (Sv_val rfl (R_pick_t rfl rfl hg5 rfl) ?_)
        refine W_cons rfl (by decide) (Sv_val rfl (R_assign rfl rfl) ?_)
        refine W_nil ?_
        refine E_then (C_fr [(0, .slice Aa0 a0.length ca0), (5, .pointer (some ⟨b1, 0, none⟩)), (7, .bool (decide (a2.Rows ≤ ((a1.length : Int) - a2.Row))))] rfl ?_)
        refine C_seq ?_
        refine C_region ?_
        refine W_cons rfl (by decide) (Sv_val rfl (R_move rfl rfl) ?_)
        refine W_cons rfl (by decide) (Sv_val rfl (R_move rfl rfl) ?_)
        refine W_split (t := 34) rfl (fun hg6 => ?_) (fun hg6 => ?_)
        · have _hg6 := trivial
          have hg6p : a2.Rows ≤ ((a1.length : Int) - a2.Row) := by simpa using hg6
          refine W_cons rfl (by decide) (Sv_gt rfl rfl rfl hg6 (Sv_val rfl (R_fld rfl rfl fld30_1) ?_))
          refine W_cons rfl (by decide) (Sv_gt rfl rfl rfl hg6 (Sv_val rfl (R_load1 rfl rfl agg3 (hBb1.cell rfl)) ?_))
          refine W_cons rfl (by decide) (Sv_gt rfl rfl rfl hg6 (Sv_val rfl (R_bin rfl rfl rfl rfl rfl) ?_))
          refine W_cons rfl (by decide) (Sv_val rfl (R_pick_t rfl rfl hg6 rfl) ?_)
          refine W_cons rfl (by decide) (Sv_val rfl (R_move rfl rfl) ?_)
          refine W_split (t := 39) rfl (fun hg7 => ?_) (fun hg7 => ?_)
          · have _hg7 := trivial
            have hg7p : a2.Col ≥ 0 := by simpa using hg7
            refine W_cons rfl (by decide) (Sv_gt rfl rfl rfl hg7 (Sv_val rfl (R_fld rfl rfl fld30_3) ?_))
            refine W_cons rfl (by decide) (Sv_gt rfl rfl rfl hg7 (Sv_val rfl (R_load1 rfl rfl agg3 (hBb1.cell rfl)) ?_))
            refine W_cons rfl (by decide) (Sv_gt rfl rfl rfl hg7 (Sv_val rfl (R_bin rfl rfl rfl rfl rfl) ?_))
            refine W_cons rfl (by decide) (Sv_val rfl (R_pick_t rfl rfl hg7 rfl) ?_)
            refine W_cons rfl (by decide) (Sv_val rfl (R_move rfl rfl) ?_)
            refine W_split (t := 44) rfl (fun hg8 => ?_) (fun hg8 => ?_)
            · have _hg8 := trivial
              have hg8p : a2.Cols ≥ 1 := by simpa using hg8
              refine W_cons rfl (by decide) (Sv_gt rfl rfl rfl hg8 (Sv_val rfl (R_fld rfl rfl fld30_1) ?_))
              refine W_cons rfl (by decide) (Sv_gt rfl rfl rfl hg8 (Sv_val rfl (R_load1 rfl rfl agg3 (hBb1.cell rfl)) ?_))
              refine W_cons rfl (by decide) (Sv_gt rfl rfl rfl hg8 (Sv_val rfl (R_move rfl rfl) ?_))
              refine W_cons rfl (by decide) (Sv_gt rfl rfl rfl hg8 (Sv_val rfl (R_len rfl rfl Try.underlying22) ?_))
              refine W_cons rfl (by decide) (Sv_gt rfl rfl rfl hg8 (Sv_val rfl (R_bin rfl rfl rfl rfl rfl) ?_))
              refine W_cons rfl (by decide) (Sv_val rfl (R_pick_t rfl rfl hg8 rfl) ?_)
              refine W_cons rfl (by decide) (Sv_val rfl (R_move rfl rfl) ?_)
              refine W_split (t := 51) rfl (fun hg9 => ?_) (fun hg9 => ?_)
              · have _hg9 := trivial
                have hg9p : a2.Col < (a0.length : Int) := by simpa using hg9
                refine W_cons rfl (by decide) (Sv_gt rfl rfl rfl hg9 (Sv_val rfl (R_fld rfl rfl fld30_3) ?_))
                refine W_cons rfl (by decide) (Sv_gt rfl rfl rfl hg9 (Sv_val rfl (R_load1 rfl rfl agg3 (hBb1.cell rfl)) ?_))
                refine W_cons rfl (by decide) (Sv_gt rfl rfl rfl hg9 (Sv_val rfl (R_move rfl rfl) ?_))
                refine W_cons rfl (by decide) (Sv_gt rfl rfl rfl hg9 (Sv_val rfl (R_len rfl rfl Try.underlying22) ?_))
                refine W_cons rfl (by decide) (Sv_gt rfl rfl rfl hg9 (Sv_val rfl (R_fld rfl rfl fld30_1) ?_))
                refine W_cons rfl (by decide) (Sv_gt rfl rfl rfl hg9 (Sv_val rfl (R_load1 rfl rfl agg3 (hBb1.cell rfl)) ?_))
                refine W_cons rfl (by decide) (Sv_gt rfl rfl rfl hg9 (Sv_val rfl (R_sub64 rfl rfl rfl (by omega) (by omega)) ?_))
                refine W_cons rfl (by decide) (Sv_gt rfl rfl rfl hg9 (Sv_val rfl (R_bin rfl rfl rfl rfl rfl) ?_))
                refine W_cons rfl (by decide) (Sv_val rfl (R_pick_t rfl rfl hg9 rfl) ?_)
                refine W_cons rfl (by decide) (Sv_val rfl (R_assign rfl rfl) ?_)
                refine W_nil ?_
                refine E_then (C_fr [(6, .bool (decide (a2.Cols ≤ ((a0.length : Int) - a2.Col))))] rfl ?_)
                refine C_ret ?_
                refine E_ret1 rfl rfl ?_
                exact ⟨Lret1 (Lbool (show decide (a2.Cols ≤ ((a0.length : Int) - a2.Col)) = insideS a0.length a1.length a2 by unfold insideS; rw [Bool.eq_iff_iff]; simp; omega)), hC⟩
              · have _hg9 := trivial
                have hg9p : ¬ (a2.Col < (a0.length : Int)) := by simpa using hg9
                refine W_cons rfl (by decide) (Sv_off rfl rfl rfl (by rw [hg9]; rfl) ?_)
                refine W_cons rfl (by decide) (Sv_off rfl rfl rfl (by rw [hg9]; rfl) ?_)
                refine W_cons rfl (by decide) (Sv_off rfl rfl rfl (by rw [hg9]; rfl) ?_)
                refine W_cons rfl (by decide) (Sv_off rfl rfl rfl (by rw [hg9]; rfl) ?_)
                refine W_cons rfl (by decide) (Sv_off rfl rfl rfl (by rw [hg9]; rfl) ?_)
                refine W_cons rfl (by decide) (Sv_off rfl rfl rfl (by rw [hg9]; rfl) ?_)
                refine W_cons rfl (by decide) (Sv_off rfl rfl rfl (by rw [hg9]; rfl) ?_)
                refine W_cons rfl (by decide) (Sv_off rfl rfl rfl (by rw [hg9]; rfl) ?_)
                refine W_cons rfl (by decide) (Sv_val rfl (R_pick_f rfl rfl hg9 rfl) ?_)
                refine W_cons rfl (by decide) (Sv_val rfl (R_assign rfl rfl) ?_)
                refine W_nil ?_
                refine E_then (C_fr [(6, .bool false)] rfl ?_)
                refine C_ret ?_
                refine E_ret1 rfl rfl ?_
                exact ⟨Lret1 (Lbool (show false = insideS a0.length a1.length a2 by unfold insideS; rw [Bool.eq_iff_iff]; simp; omega)), hC⟩
            · have _hg8 := trivial
              have hg8p : ¬ (a2.Cols ≥ 1) := by simpa using hg8
              refine W_cons rfl (by decide) (Sv_off rfl rfl rfl (by rw [hg8]; rfl) ?_)
              refine W_cons rfl (by decide) (Sv_off rfl rfl rfl (by rw [hg8]; rfl) ?_)
              refine W_cons rfl (by decide) (Sv_off rfl rfl rfl (by rw [hg8]; rfl) ?_)
              refine W_cons rfl (by decide) (Sv_off rfl rfl rfl (by rw [hg8]; rfl) ?_)
              refine W_cons rfl (by decide) (Sv_off rfl rfl rfl (by rw [hg8]; rfl) ?_)
              refine W_cons rfl (by decide) (Sv_val rfl (R_pick_f rfl rfl hg8 rfl) ?_)
              refine W_cons rfl (by decide) (Sv_val rfl (R_move rfl rfl) ?_)
              refine W_cons rfl (by decide) (Sv_off rfl rfl rfl rfl ?_)
              refine W_cons rfl (by decide) (Sv_off rfl rfl rfl rfl ?_)
              refine W_cons rfl (by decide) (Sv_off rfl rfl rfl rfl ?_)
              refine W_cons rfl (by decide) (Sv_off rfl rfl rfl rfl ?_)
              refine W_cons rfl (by decide) (Sv_off rfl rfl rfl rfl ?_)
              refine W_cons rfl (by decide) (Sv_off rfl rfl rfl rfl ?_)
              refine W_cons rfl (by decide) (Sv_off rfl rfl rfl rfl ?_)
              refine W_cons rfl (by decide) (Sv_off rfl rfl rfl rfl ?_)
              refine W_cons rfl (by decide) (Sv_val rfl (R_pick_f rfl rfl rfl rfl) ?_)
              refine W_cons rfl (by decide) (Sv_val rfl (R_assign rfl rfl) ?_)
              refine W_nil ?_
              refine E_then (C_fr [(6, .bool false)] rfl ?_)
              refine C_ret ?_
              refine E_ret1 rfl rfl ?_
              exact ⟨Lret1 (Lbool (show false = insideS a0.length a1.length a2 by unfold insideS; rw [Bool.eq_iff_iff]; simp; omega)), hC⟩
          · have _hg7 := trivial
            have hg7p : ¬ (a2.Col ≥ 0) := by simpa using hg7
            refine W_cons rfl (by decide) (Sv_off rfl rfl rfl (by rw [hg7]; rfl) ?_)
            refine W_cons rfl (by decide) (Sv_off rfl rfl rfl (by rw [hg7]; rfl) ?_)
            refine W_cons rfl (by decide) (Sv_off rfl rfl rfl (by rw [hg7]; rfl) ?_)
            refine W_cons rfl (by decide) (Sv_val rfl (R_pick_f rfl rfl hg7 rfl) ?_)
            refine W_cons rfl (by decide) (Sv_val rfl (R_move rfl rfl) ?_)
            refine W_cons rfl (by decide) (Sv_off rfl rfl rfl rfl ?_)
            refine W_cons rfl (by decide) (Sv_off rfl rfl rfl rfl ?_)
            refine W_cons rfl (by decide) (Sv_off rfl rfl rfl rfl ?_)
            refine W_cons rfl (by decide) (Sv_off rfl rfl rfl rfl ?_)
            refine W_cons rfl (by decide) (Sv_off rfl rfl rfl rfl ?_)
            refine W_cons rfl (by decide) (Sv_val rfl (R_pick_f rfl rfl rfl rfl) ?_)
            refine W_cons rfl (by decide) (Sv_val rfl (R_move rfl rfl) ?_)
            refine W_cons rfl (by decide) (Sv_off rfl rfl rfl rfl ?_)
            refine W_cons rfl (by decide) (Sv_off rfl rfl rfl rfl ?_)
            refine W_cons rfl (by decide) (Sv_off rfl rfl rfl rfl ?_)
            refine W_cons rfl (by decide) (Sv_off rfl rfl rfl rfl ?_)
            refine W_cons rfl (by decide) (Sv_off rfl rfl rfl rfl ?_)
            refine W_cons rfl (by decide) (Sv_off rfl rfl rfl rfl ?_)
            refine W_cons rfl (by decide) (Sv_off rfl rfl rfl rfl ?_)
            refine W_cons rfl (by decide) (Sv_off rfl rfl rfl rfl ?_)
            refine W_cons rfl (by decide) (Sv_val rfl (R_pick_f rfl rfl rfl rfl) ?_)
            refine W_cons rfl (by decide) (Sv_val rfl (R_assign rfl rfl) ?_)
            refine W_nil ?_
            refine E_then (C_fr [(6, .bool false)] rfl ?_)
            refine C_ret ?_
            refine E_ret1 rfl rfl ?_
            exact ⟨Lret1 (Lbool (show false = insideS a0.length a1.length a2 by unfold insideS; rw [Bool.eq_iff_iff]; simp; omega)), hC⟩
        · have _hg6 := trivial
          have hg6p : ¬ (a2.Rows ≤ ((a1.length : Int) - a2.Row)) := by simpa using hg6
          refine W_cons rfl (by decide) (Sv_off rfl rfl rfl (by rw [hg6]; rfl) ?_)
          refine W_cons rfl (by decide) (Sv_off rfl rfl rfl (by rw [hg6]; rfl) ?_)
          refine W_cons rfl (by decide) (Sv_off rfl rfl rfl (by rw [hg6]; rfl) ?_)
          refine W_cons rfl (by decide) (Sv_val rfl (R_pick_f rfl rfl hg6 rfl) ?_)
          refine W_cons rfl (by decide) (Sv_val rfl (R_move rfl rfl) ?_)
          refine W_cons rfl (by decide) (Sv_off rfl rfl rfl rfl ?_)
          refine W_cons rfl (by decide) (Sv_off rfl rfl rfl rfl ?_)
          refine W_cons rfl (by decide) (Sv_off rfl rfl rfl rfl ?_)
          refine W_cons rfl (by decide) (Sv_val rfl (R_pick_f rfl rfl rfl rfl) ?_)
          refine W_cons rfl (by decide) (Sv_val rfl (R_move rfl rfl) ?_)
          refine W_cons rfl (by decide) (Sv_off rfl rfl rfl rfl ?_)
          refine W_cons rfl (by decide) (Sv_off rfl rfl rfl rfl ?_)
          refine W_cons rfl (by decide) (Sv_off rfl rfl rfl rfl ?_)
          refine W_cons rfl (by decide) (Sv_off rfl rfl rfl rfl ?_)
          refine W_cons rfl (by decide) (Sv_off rfl rfl rfl rfl ?_)
          refine W_cons rfl (by decide) (Sv_val rfl (R_pick_f rfl rfl rfl rfl) ?_)
          refine W_cons rfl (by decide) (Sv_val rfl (R_move rfl rfl) ?_)
          refine W_cons rfl (by decide) (Sv_off rfl rfl rfl rfl ?_)
          refine W_cons rfl (by decide) (Sv_off rfl rfl rfl rfl ?_)
          refine W_cons rfl (by decide) (Sv_off rfl rfl rfl rfl ?_)
          refine W_cons rfl (by decide) (Sv_off rfl rfl rfl rfl ?_)
          refine W_cons rfl (by decide) (Sv_off rfl rfl rfl rfl ?_)
          refine W_cons rfl (by decide) (Sv_off rfl rfl rfl rfl ?_)
          refine W_cons rfl (by decide) (Sv_off rfl rfl rfl rfl ?_)
          refine W_cons rfl (by decide) (Sv_off rfl rfl rfl rfl ?_)
          refine W_cons rfl (by decide) (Sv_val rfl (R_pick_f rfl rfl rfl rfl) ?_)
          refine W_cons rfl (by decide) (Sv_val rfl (R_assign rfl rfl) ?_)
          refine W_nil ?_
          refine E_then (C_fr [(6, .bool false)] rfl ?_)
          refine C_ret ?_
          refine E_ret1 rfl rfl ?_
          exact ⟨Lret1 (Lbool (show false = insideS a0.length a1.length a2 by unfold insideS; rw [Bool.eq_iff_iff]; simp; omega)), hC⟩
      · have _hg5 := trivial
        have hg5p : ¬ (a2.Row < (a1.length : Int)) := by simpa using hg5
        refine W_cons rfl (by decide) (Sv_off rfl rfl rfl (by rw [hg5]; rfl) ?_)
        refine W_cons rfl (by decide) (Sv_off rfl rfl rfl (by rw [hg5]; rfl) ?_)
        refine W_cons rfl (by decide) (Sv_off rfl rfl rfl (by rw [hg5]; rfl) ?_)
        refine W_cons rfl (by decide) (Sv_off rfl rfl rfl (by rw [hg5]; rfl) ?_)
        refine W_cons rfl (by decide) (Sv_off rfl rfl rfl (by rw [hg5]; rfl) ?_)
        refine W_cons rfl (by decide) (Sv_off rfl rfl rfl (by rw [hg5]; rfl) ?_)
        refine W_cons rfl (by decide) (Sv_off rfl rfl rfl (by rw [hg5]; rfl) ?_)
        refine W_cons rfl (by decide) (Sv_off rfl rfl rfl (by rw [hg5]; rfl) ?_)
        refine W_cons rfl (by decide) (Sv_val rfl (R_pick_f rfl rfl hg5 rfl) ?_)
        refine W_cons rfl (by decide) (Sv_val rfl (R_assign rfl rfl) ?_)
        refine W_nil ?_
        refine E_then (C_fr [(0, .slice Aa0 a0.length ca0), (5, .pointer (some ⟨b1, 0, none⟩)), (7, .bool false)] rfl ?_)
        refine C_seq ?_
        refine C_region ?_
        refine W_cons rfl (by decide) (Sv_val rfl (R_move rfl rfl) ?_)
        refine W_cons rfl (by decide) (Sv_val rfl (R_move rfl rfl) ?_)
        refine W_cons rfl (by decide) (Sv_off rfl rfl rfl rfl ?_)
        refine W_cons rfl (by decide) (Sv_off rfl rfl rfl rfl ?_)
        refine W_cons rfl (by decide) (Sv_off rfl rfl rfl rfl ?_)
        refine W_cons rfl (by decide) (Sv_val rfl (R_pick_f rfl rfl rfl rfl) ?_)
        refine W_cons rfl (by decide) (Sv_val rfl (R_move rfl rfl) ?_)
        refine W_cons rfl (by decide) (Sv_off rfl rfl rfl rfl ?_)
        refine W_cons rfl (by decide) (Sv_off rfl rfl rfl rfl ?_)
        refine W_cons rfl (by decide) (Sv_off rfl rfl rfl rfl ?_)
        refine W_cons rfl (by decide) (Sv_val rfl (R_pick_f rfl rfl rfl rfl) ?_)
        refine W_cons rfl (by decide) (Sv_val rfl (R_move rfl rfl) ?_)
        refine W_cons rfl (by decide) (Sv_off rfl rfl rfl rfl ?_)
        refine W_cons rfl (by decide) (Sv_off rfl rfl rfl rfl ?_)
        refine W_cons rfl (by decide) (Sv_off rfl rfl rfl rfl ?_)
        refine W_cons rfl (by decide) (Sv_off rfl rfl rfl rfl ?_)
        refine W_cons rfl (by decide) (Sv_off rfl rfl rfl rfl ?_)
        refine W_cons rfl (by decide) (Sv_val rfl (R_pick_f rfl rfl rfl rfl) ?_)
        refine W_cons rfl (by decide) (Sv_val rfl (R_move rfl rfl) ?_)
        refine W_cons rfl (by decide) (Sv_off rfl rfl rfl rfl ?_)
        refine W_cons rfl (by decide) (Sv_off rfl rfl rfl rfl ?_)
        refine W_cons rfl (by decide) (Sv_off rfl rfl rfl rfl ?_)
        refine W_cons rfl (by decide) (Sv_off rfl rfl rfl rfl ?_)
        refine W_cons rfl (by decide) (Sv_off rfl rfl rfl rfl ?_)
        refine W_cons rfl (by decide) (Sv_off rfl rfl rfl rfl ?_)
        refine W_cons rfl (by decide) (Sv_off rfl rfl rfl rfl ?_)
        refine W_cons rfl (by decide) (Sv_off rfl rfl rfl rfl ?_)
        refine W_cons rfl (by decide) (Sv_val rfl (R_pick_f rfl rfl rfl rfl) ?_)
        refine W_cons rfl (by decide) (Sv_val rfl (R_assign rfl rfl) ?_)
        refine W_nil ?_
        refine E_then (C_fr [(6, .bool false)] rfl ?_)
        refine C_ret ?_
        refine E_ret1 rfl rfl ?_
        exact ⟨Lret1 (Lbool (show false = insideS a0.length a1.length a2 by unfold insideS; rw [Bool.eq_iff_iff]; simp; omega)), hC⟩
    · have _hg4 := trivial
      have hg4p : ¬ (a2.Rows ≥ 1) := by simpa using hg4
      refine W_cons rfl (by decide) (Sv_off rfl rfl rfl (by rw [hg4]; rfl) ?_)
      refine W_cons rfl (by decide) (Sv_off rfl rfl rfl (by rw [hg4]; rfl) ?_)
      refine W_cons rfl (by decide) (Sv_off rfl rfl rfl (by rw [hg4]; rfl) ?_)
      refine W_cons rfl (by decide) (Sv_off rfl rfl rfl (by rw [hg4]; rfl) ?_)
      refine W_cons rfl (by decide) (Sv_off rfl rfl rfl (by rw [hg4]; rfl) ?_)
      refine W_cons rfl (by decide) (Sv_val rfl (R_pick_f rfl rfl hg4 rfl) ?_)
      refine W_cons rfl (by decide) (Sv_val rfl (R_move rfl rfl) ?_)
      refine W_cons rfl (by decide) (Sv_off rfl rfl rfl rfl ?_)
      refine W_cons rfl (by decide) (Sv_off rfl rfl rfl rfl ?_)
      refine W_cons rfl (by decide) (Sv_off rfl rfl rfl rfl ?_)
      refine W_cons rfl (by decide) (Sv_off rfl rfl rfl rfl ?_)
      refine W_cons rfl (by decide) (Sv_off rfl rfl rfl rfl ?_)
      refine W_cons rfl (by decide) (Sv_off rfl rfl rfl rfl ?_)
      refine W_cons rfl (by decide) (Sv_off rfl rfl rfl rfl ?_)
      refine W_cons rfl (by decide) (Sv_off rfl rfl rfl rfl ?_)
      refine W_cons rfl (by decide) (Sv_val rfl (R_pick_f rfl rfl rfl rfl) ?_)
      refine W_cons rfl (by decide) (Sv_val rfl (R_assign rfl rfl) ?_)
      refine W_nil ?_
      refine E_then (C_fr [(0, .slice Aa0 a0.length ca0), (5, .pointer (some ⟨b1, 0, none⟩)), (7, .bool false)] rfl ?_)
      refine C_seq ?_
      refine C_region ?_
      refine W_cons rfl (by decide) (Sv_val rfl (R_move rfl rfl) ?_)
      refine W_cons rfl (by decide) (Sv_val rfl (R_move rfl rfl) ?_)
      refine W_cons rfl (by decide) (Sv_off rfl rfl rfl rfl ?_)
      refine W_cons rfl (by decide) (Sv_off rfl rfl rfl rfl ?_)
      refine W_cons rfl (by decide) (Sv_off rfl rfl rfl rfl ?_)
      refine W_cons rfl (by decide) (Sv_val rfl (R_pick_f rfl rfl rfl rfl) ?_)
      refine W_cons rfl (by decide) (Sv_val rfl (R_move rfl rfl) ?_)
      refine W_cons rfl (by decide) (Sv_off rfl rfl rfl rfl ?_)
      refine W_cons rfl (by decide) (Sv_off rfl rfl rfl rfl ?_)
      refine W_cons rfl (by decide) (Sv_off rfl rfl rfl rfl ?_)
      refine W_cons rfl (by decide) (Sv_val rfl (R_pick_f rfl rfl rfl rfl) ?_)
      refine W_cons rfl (by decide) (Sv_val rfl (R_move rfl rfl) ?_)
      refine W_cons rfl (by decide) (Sv_off rfl rfl rfl rfl ?_)
      refine W_cons rfl (by decide) (Sv_off rfl rfl rfl rfl ?_)
      refine W_cons rfl (by decide) (Sv_off rfl rfl rfl rfl ?_)
      refine W_cons rfl (by decide) (Sv_off rfl rfl rfl rfl ?_)
      refine W_cons rfl (by decide) (Sv_off rfl rfl rfl rfl ?_)
      refine W_cons rfl (by decide) (Sv_val rfl (R_pick_f rfl rfl rfl rfl) ?_)
      refine W_cons rfl (by decide) (Sv_val rfl (R_move rfl rfl) ?_)
      refine W_cons rfl (by decide) (Sv_off rfl rfl rfl rfl ?_)
      refine W_cons rfl (by decide) (Sv_off rfl rfl rfl rfl ?_)
      refine W_cons rfl (by decide) (Sv_off rfl rfl rfl rfl ?_)
      refine W_cons rfl (by decide) (Sv_off rfl rfl rfl rfl ?_)
      refine W_cons rfl (by decide) (Sv_off rfl rfl rfl rfl ?_)
      refine W_cons rfl (by decide) (Sv_off rfl rfl rfl rfl ?_)
      refine W_cons rfl (by decide) (Sv_off rfl rfl rfl rfl ?_)
      refine W_cons rfl (by decide) (Sv_off rfl rfl rfl rfl ?_)
      refine W_cons rfl (by decide) (Sv_val rfl (R_pick_f rfl rfl rfl rfl) ?_)
      refine W_cons rfl (by decide) (Sv_val rfl (R_assign rfl rfl) ?_)
      refine W_nil ?_
      refine E_then (C_fr [(6, .bool false)] rfl ?_)
      refine C_ret ?_
      refine E_ret1 rfl rfl ?_
      exact ⟨Lret1 (Lbool (show false = insideS a0.length a1.length a2 by unfold insideS; rw [Bool.eq_iff_iff]; simp; omega)), hC⟩
  · have _hg3 := trivial
    have hg3p : ¬ (a2.Row ≥ 0) := by simpa using hg3
    refine W_cons rfl (by decide) (Sv_off rfl rfl rfl (by rw [hg3]; rfl) ?_)
    refine W_cons rfl (by decide) (Sv_off rfl rfl rfl (by rw [hg3]; rfl) ?_)
    refine W_cons rfl (by decide) (Sv_off rfl rfl rfl (by rw [hg3]; rfl) ?_)
    refine W_cons rfl (by decide) (Sv_val rfl (R_pick_f rfl rfl hg3 rfl) ?_)
    refine W_cons rfl (by decide) (Sv_val rfl (R_move rfl rfl) ?_)
    refine W_cons rfl (by decide) (Sv_off rfl rfl rfl rfl ?_)
    refine W_cons rfl (by decide) (Sv_off rfl rfl rfl rfl ?_)
    refine W_cons rfl (by decide) (Sv_off rfl rfl rfl rfl ?_)
    refine W_cons rfl (by decide) (Sv_off rfl rfl rfl rfl ?_)
    refine W_cons rfl (by decide) (Sv_off rfl rfl rfl rfl ?_)
    refine W_cons rfl (by decide) (Sv_val rfl (R_pick_f rfl rfl rfl rfl) ?_)
    refine W_cons rfl (by decide) (Sv_val rfl (R_move rfl rfl) ?_)
    refine W_cons rfl (by decide) (Sv_off rfl rfl rfl rfl ?_)
    refine W_cons rfl (by decide) (Sv_off rfl rfl rfl rfl ?_)
    refine W_cons rfl (by decide) (Sv_off rfl rfl rfl rfl ?_)
    refine W_cons rfl (by decide) (Sv_off rfl rfl rfl rfl ?_)
    refine W_cons rfl (by decide) (Sv_off rfl rfl rfl rfl ?_)
    refine W_cons rfl (by decide) (Sv_off rfl rfl rfl rfl ?_)
    refine W_cons rfl (by decide) (Sv_off rfl rfl rfl rfl ?_)
    refine W_cons rfl (by decide) (Sv_off rfl rfl rfl rfl ?_)
    refine W_cons rfl (by decide) (Sv_val rfl (R_pick_f rfl rfl rfl rfl) ?_)
    refine W_cons rfl (by decide) (Sv_val rfl (R_assign rfl rfl) ?_)
    refine W_nil ?_
    refine E_then (C_fr [(0, .slice Aa0 a0.length ca0), (5, .pointer (some ⟨b1, 0, none⟩)), (7, .bool false)] rfl ?_)
    refine C_seq ?_
    refine C_region ?_
    refine W_cons rfl (by decide) (Sv_val rfl (R_move rfl rfl) ?_)
    refine W_cons rfl (by decide) (Sv_val rfl (R_move rfl rfl) ?_)
    refine W_cons rfl (by decide) (Sv_off rfl rfl rfl rfl ?_)
    refine W_cons rfl (by decide) (Sv_off rfl rfl rfl rfl ?_)
    refine W_cons rfl (by decide) (Sv_off rfl rfl rfl rfl ?_)
    refine W_cons rfl (by decide) (Sv_val rfl (R_pick_f rfl rfl rfl rfl) ?_)
    refine W_cons rfl (by decide) (Sv_val rfl (R_move rfl rfl) ?_)
    refine W_cons rfl (by decide) (Sv_off rfl rfl rfl rfl ?_)
    refine W_cons rfl (by decide) (Sv_off rfl rfl rfl rfl ?_)
    refine W_cons rfl (by decide) (Sv_off rfl rfl rfl rfl ?_)
    refine W_cons rfl (by decide) (Sv_val rfl (R_pick_f rfl rfl rfl rfl) ?_)
    refine W_cons rfl (by decide) (Sv_val rfl (R_move rfl rfl) ?_)
    refine W_cons rfl (by decide) (Sv_off rfl rfl rfl rfl ?_)
    refine W_cons rfl (by decide) (Sv_off rfl rfl rfl rfl ?_)
    refine W_cons rfl (by decide) (Sv_off rfl rfl rfl rfl ?_)
    refine W_cons rfl (by decide) (Sv_off rfl rfl rfl rfl ?_)
    refine W_cons rfl (by decide) (Sv_off rfl rfl rfl rfl ?_)
    refine W_cons rfl (by decide) (Sv_val rfl (R_pick_f rfl rfl rfl rfl) ?_)
    refine W_cons rfl (by decide) (Sv_val rfl (R_move rfl rfl) ?_)
    refine W_cons rfl (by decide) (Sv_off rfl rfl rfl rfl ?_)
    refine W_cons rfl (by decide) (Sv_off rfl rfl rfl rfl ?_)
    refine W_cons rfl (by decide) (Sv_off rfl rfl rfl rfl ?_)
    refine W_cons rfl (by decide) (Sv_off rfl rfl rfl rfl ?_)
    refine W_cons rfl (by decide) (Sv_off rfl rfl rfl rfl ?_)
    refine W_cons rfl (by decide) (Sv_off rfl rfl rfl rfl ?_)
    refine W_cons rfl (by decide) (Sv_off rfl rfl rfl rfl ?_)
    refine W_cons rfl (by decide) (Sv_off rfl rfl rfl rfl ?_)
    refine W_cons rfl (by decide) (Sv_val rfl (R_pick_f rfl rfl rfl rfl) ?_)
    refine W_cons rfl (by decide) (Sv_val rfl (R_assign rfl rfl) ?_)
    refine W_nil ?_
    refine E_then (C_fr [(6, .bool false)] rfl ?_)
    refine C_ret ?_
    refine E_ret1 rfl rfl ?_
    exact ⟨Lret1 (Lbool (show false = insideS a0.length a1.length a2 by unfold insideS; rw [Bool.eq_iff_iff]; simp; omega)), hC⟩

set_option maxHeartbeats 400000 in
set_option maxRecDepth 20000 in
theorem corner_calls (Aa0 : Option Addr) (ca0 : Nat) (a0 : List Int) (Aa1 : Option Addr) (ca1 : Nat) (a1 : List Int) (a2 : TRect) (z : Z) (w : World) (hz : Sub z w) (hra0 : Rd (kint .i64) z Aa0 a0) (hca0 : Cap Aa0 a0.length ca0) (hra1 : Rd (kint .i64) z Aa1 a1) (hca1 : Cap Aa1 a1.length ca1) (p0 : a0.length ≤ 1000) (p1 : a1.length ≤ 1000) :
    Calls Try.prog 19 #[.slice Aa0 a0.length ca0, .slice Aa1 a1.length ca1, .agg #[.int .i64 a2.Row, .int .i64 a2.Col, .int .i64 a2.Rows, .int .i64 a2.Cols]] w fun e w' => e = .returned (.tuple #[.complex .f64 ((cornerS a0 a1 a2).1).re.bits ((cornerS a0 a1 a2).1).im.bits, .int .i64 ((cornerS a0 a1 a2).2)]) ∧ Chg [] w w' := by
  have hsl0 := starts_len a0
  have hsl1 := starts_len a1
  have hla0 := hca0.le
  have hma0 := hca0.mx
  have hla1 := hca1.le
  have hma1 := hca1.mx
  have hC := Chg.refl [] w
  refine Calls_of (vs := [.slice Aa0 a0.length ca0, .slice Aa1 a1.length ca1, .agg #[.int .i64 a2.Row, .int .i64 a2.Col, .int .i64 a2.Rows, .int .i64 a2.Cols]]) (N := 26) Try.func19 rfl rfl (Nat.le_of_ble_eq_true rfl) ?_
  refine C_seq ?_
  refine C_region ?_
  refine W_cons rfl (by decide) (Sv_box rfl (R_box (cs := [.int .i64 a2.Row, .int .i64 a2.Col, .int .i64 a2.Rows, .int .i64 a2.Cols]) rfl rfl rfl) (fun b1 w2 hcb1 hnb1 hBb1 => ?_))
  have hZb1 : ∀ k ∈ [b1], z k = none := fresh_z hz (boxbase hnb1)
  have hNb1 : ∀ k ∈ [b1], w.heap.size ≤ k := newC (boxbase hnb1) hC.size
  have hz := hz.chg0 hcb1
  have hC := hC.then hcb1 (by simp)
  refine W_cons rfl (by decide) (Sv_val rfl (R_assign rfl rfl) ?_)
  refine W_cons rfl (by decide) (Sv_val rfl (R_assign rfl rfl) ?_)
  refine W_nil ?_
  refine E_then ?_
  refine C_seq ?_
  refine C_seq ?_
  refine C_region ?_
  refine W_cons rfl (by decide) (Sv_val rfl (R_move rfl rfl) ?_)
  refine W_cons rfl (by decide) (Sv_val rfl (R_move rfl rfl) ?_)
  refine W_cons rfl (by decide) (Sv_val rfl (R_loadN (cs := [.int .i64 a2.Row, .int .i64 a2.Col, .int .i64 a2.Rows, .int .i64 a2.Cols]) rfl rfl agg30 size30 rfl (boxcells hBb1 0 rfl)) ?_)
  refine W_cons rfl (by decide) (Sv_call rfl rfl rfl ent41 ?_)
  refine (within_calls Aa0 ca0 a0 Aa1 ca1 a1 a2 _ _ hz hra0 hca0 hra1 hca1 (by omega) (by omega)).mono ?_
  rintro e_ w3 ⟨rfl, hc4⟩
  refine ⟨_, rfl, ?_⟩
  have hz := hz.chg0 hc4
  have hBb1 := hBb1.chg0 hc4
  have hC := hC.then hc4 (by simp)
  refine W_cons rfl (by decide) (Sv_val rfl (R_un rfl rfl rfl) ?_)
  refine W_nil ?_
  refine E_then (C_fr [(0, .slice Aa0 a0.length ca0), (1, .slice Aa1 a1.length ca1), (5, .pointer (some ⟨b1, 0, none⟩)), (12, .bool (!(insideS a0.length a1.length a2)))] rfl ?_)
  refine C_ite rfl (fun hC0 => ?_) (fun hC0 => ?_)
  · have _hC0 := trivial
    have hC0p : ¬ (insideS a0.length a1.length a2 = true) := by simpa using hC0
    have hin : insideS a0.length a1.length a2 = false := by simpa using hC0
    refine C_seq ?_
    refine C_region ?_
    refine W_cons rfl (by decide) (Sv_val rfl (R_assign rfl rfl) ?_)
    refine W_cons rfl (by decide) (Sv_val rfl (R_assign rfl rfl) ?_)
    refine W_nil ?_
    refine E_then ?_
    refine C_ret ?_
    refine E_then_ret ?_
    refine E_ret2 rfl rfl rfl ?_
    exact ⟨Lret2 (show (.complex .f64 (Fl.ofInt 0).bits (Fl.ofInt 0).bits : Value) = .complex .f64 ((cornerS a0 a1 a2).1).re.bits ((cornerS a0 a1 a2).1).im.bits by first | (rw [corner_in hin]; try rfl) | (rw [corner_out hin]; try rfl)) (Lint (show 4 = (cornerS a0 a1 a2).2 by first | (rw [corner_in hin]; try rfl) | (rw [corner_out hin]; try rfl))), hC⟩
  · have _hC0 := trivial
    have hC0p : (insideS a0.length a1.length a2 = true) := by simpa using hC0
    have hin : insideS a0.length a1.length a2 = true := by simpa using hC0
    have hi := inside_of hin
    have hb0 := starts_bd a0 a2.Col.toNat (by omega)
    have hb1 := starts_bd a1 a2.Row.toNat (by omega)
    refine C_skip ?_
    refine E_then ?_
    refine C_seq ?_
    refine C_fr [(0, .slice Aa0 a0.length ca0), (1, .slice Aa1 a1.length ca1), (5, .pointer (some ⟨b1, 0, none⟩))] rfl ?_
    refine C_drawnX 15 [[], [0], [], [2], [1, 3], [4], [], [6, 1], [], [8], [7, 9], [10], [5, 11, 7], [12, 12, 0, 1, 2, 3, 4, 5, 6, 7, 8, 9, 10, 11, 12], [13, 0, 1, 2, 3, 4, 5, 6, 7, 8, 9, 10, 11, 12, 13]] [some 13, some 14, some 15, some 16, some 17, some 18, some 19, some 20, some 21, some 22, some 23, some 24, some 25, some 6, some 7] [0, 1, 5] [[], [], [], [], [], [], [], [], [], [], [], [], [], [], []] [15, 15, 15, 15, 15, 15, 15, 15, 15, 15, 15, 15, 15, 15, 15] [false, true, false, false, false, false, false, true, false, false, false, false, false, false, false] rfl (by kernel_rfl) (by decide +kernel) [fun v _ => v = .slice Aa0 a0.length ca0, fun v w_ => ∃ Ar7 cr7, v = .slice Ar7 (startsS a0).length cr7 ∧ Own (kint .i64) 3 w.heap.size zE w_ Ar7 cr7 (startsS a0) ∧ (∀ k ∈ blk Ar7, z k = none) ∧ ∀ k ∈ blk Ar7, w3.heap.size ≤ k, fun v _ => v = .pointer (some ⟨b1, 1, none⟩), fun v _ => v = .int .i64 a2.Col, fun v w_ => ∃ a_, v = .pointer (some a_) ∧ ∀ j u, ([.int .i64 ((startsS a0).getD a2.Col.toNat (0 : Int))] : List Value)[j]? = some u → w_.cell? (a_.add j) = some u, fun v _ => v = .int .i64 ((startsS a0).getD a2.Col.toNat (0 : Int)), fun v _ => v = .slice Aa1 a1.length ca1, fun v w_ => ∃ Ar10 cr10, v = .slice Ar10 (startsS a1).length cr10 ∧ Own (kint .i64) 3 w.heap.size zE w_ Ar10 cr10 (startsS a1) ∧ (∀ k ∈ blk Ar10, z k = none) ∧ ∀ k ∈ blk Ar10, w3.heap.size ≤ k, fun v _ => v = .pointer (some ⟨b1, 0, none⟩), fun v _ => v = .int .i64 a2.Row, fun v w_ => ∃ a_, v = .pointer (some a_) ∧ ∀ j u, ([.int .i64 ((startsS a1).getD a2.Row.toNat (0 : Int))] : List Value)[j]? = some u → w_.cell? (a_.add j) = some u, fun v _ => v = .int .i64 ((startsS a1).getD a2.Row.toNat (0 : Int)), fun v _ => v = .complex .f64 ((cpt ((startsS a0).getD a2.Col.toNat (0 : Int)) ((startsS a1).getD a2.Row.toNat (0 : Int))).re).bits ((cpt ((startsS a0).getD a2.Col.toNat (0 : Int)) ((startsS a1).getD a2.Row.toNat (0 : Int))).im).bits, fun v _ => v = .complex .f64 ((cpt ((startsS a0).getD a2.Col.toNat (0 : Int)) ((startsS a1).getD a2.Row.toNat (0 : Int))).re).bits ((cpt ((startsS a0).getD a2.Col.toNat (0 : Int)) ((startsS a1).getD a2.Row.toNat (0 : Int))).im).bits, fun v _ => v = .int .i64 0] ?_ ?_ ?_
    · exact ⟨fun _ _ _ h _ => h, fun v_ _ _ h hc => by obtain ⟨A_, c_, rfl, hO_, hZ_⟩ := h; exact ⟨A_, c_, rfl, hO_.chg0 hc, hZ_⟩, fun _ _ _ h _ => h, fun _ _ _ h _ => h, fun v_ _ _ h hc => by obtain ⟨a_, rfl, hh⟩ := h; exact ⟨a_, rfl, fun j u hu => cell_chg0 (hh j u hu) hc⟩, fun _ _ _ h _ => h, fun _ _ _ h _ => h, fun v_ _ _ h hc => by obtain ⟨A_, c_, rfl, hO_, hZ_⟩ := h; exact ⟨A_, c_, rfl, hO_.chg0 hc, hZ_⟩, fun _ _ _ h _ => h, fun _ _ _ h _ => h, fun v_ _ _ h hc => by obtain ⟨a_, rfl, hh⟩ := h; exact ⟨a_, rfl, fun j u hu => cell_chg0 (hh j u hu) hc⟩, fun _ _ _ h _ => h, fun _ _ _ h _ => h, fun _ _ _ h _ => h, fun _ _ _ h _ => h, trivial⟩
    · refine ⟨fun w13 hc14 => ?_, ?_⟩
      · have _w13 := trivial
        have hc14 : Chg [] w3 w13 := hc14
        have hz := hz.chg0 hc14
        have hBb1 := hBb1.chg0 hc14
        have hC := hC.then hc14 (by simp)
        exact Sv_val rfl (R_move rfl rfl) ⟨Chg.refl _ _, rfl, trivial⟩
      refine ⟨fun w15 hc16 => ?_, ?_⟩
      · have _w15 := trivial
        have hc16 : Chg [] w3 w15 := hc16
        have hz := hz.chg0 hc16
        have hBb1 := hBb1.chg0 hc16
        have hC := hC.then hc16 (by simp)
        rintro _ rfl
        refine Sv_call rfl rfl rfl ent14 ?_
        refine (starts_calls Aa0 ca0 a0 _ _ hz hra0 hca0 (by omega)).mono ?_
        rintro e_ w5 ⟨Ar7, cr7, rfl, hOr7, hc6⟩
        exact ⟨_, rfl, hc6, ⟨Ar7, cr7, rfl, hOr7.lower hC.size, fresh_z hz hOr7.base, newC hOr7.base hc16.size⟩, fun k_ hk_ => ⟨hOr7.base k_ hk_, hOr7.lt k_ hk_⟩⟩
      refine ⟨fun w17 hc18 => ?_, ?_⟩
      · have _w17 := trivial
        have hc18 : Chg [] w3 w17 := hc18
        have hz := hz.chg0 hc18
        have hBb1 := hBb1.chg0 hc18
        have hC := hC.then hc18 (by simp)
        exact Sv_val rfl (R_fld rfl rfl fld30_1) ⟨Chg.refl _ _, rfl, trivial⟩
      refine ⟨fun w19 hc20 => ?_, ?_⟩
      · have _w19 := trivial
        have hc20 : Chg [] w3 w19 := hc20
        have hz := hz.chg0 hc20
        have hBb1 := hBb1.chg0 hc20
        have hC := hC.then hc20 (by simp)
        rintro _ rfl
        exact Sv_val rfl (R_load1 rfl rfl agg3 (hBb1.cell rfl)) ⟨Chg.refl _ _, rfl, trivial⟩
      refine ⟨fun w21 hc22 => ?_, ?_⟩
      · have _w21 := trivial
        have hc22 : Chg [] w3 w21 := hc22
        have hz := hz.chg0 hc22
        have hBb1 := hBb1.chg0 hc22
        have hC := hC.then hc22 (by simp)
        rintro _ ⟨Ar7, cr7, rfl, hOr7, hZr7, hBr7⟩ _ rfl
        obtain ⟨hzl, _, hrl⟩ := (hOr7.mono (zle_E _)).lend hz hZr7
        obtain ⟨p_, cs_, hA_, rfl, hc_⟩ := hrl.at_ (0 : Int) (i := a2.Col) (by omega) (by omega)
        exact Sv_val rfl (R_idx rfl rfl hA_ rfl Try.underlying22 size3 (by omega) (by omega)) ⟨Chg.refl _ _, ⟨_, rfl, fun j u hu => cell_add (hzl.cell (hc_ j u hu))⟩, trivial⟩
      refine ⟨fun w23 hc24 => ?_, ?_⟩
      · have _w23 := trivial
        have hc24 : Chg [] w3 w23 := hc24
        have hz := hz.chg0 hc24
        have hBb1 := hBb1.chg0 hc24
        have hC := hC.then hc24 (by simp)
        rintro _ ⟨p4, rfl, hp4⟩
        exact Sv_val rfl (R_load1 rfl rfl agg3 (cell0 (hp4 0 _ rfl))) ⟨Chg.refl _ _, rfl, trivial⟩
      refine ⟨fun w25 hc26 => ?_, ?_⟩
      · have _w25 := trivial
        have hc26 : Chg [] w3 w25 := hc26
        have hz := hz.chg0 hc26
        have hBb1 := hBb1.chg0 hc26
        have hC := hC.then hc26 (by simp)
        exact Sv_val rfl (R_move rfl rfl) ⟨Chg.refl _ _, rfl, trivial⟩
      refine ⟨fun w27 hc28 => ?_, ?_⟩
      · have _w27 := trivial
        have hc28 : Chg [] w3 w27 := hc28
        have hz := hz.chg0 hc28
        have hBb1 := hBb1.chg0 hc28
        have hC := hC.then hc28 (by simp)
        rintro _ rfl _ ⟨Ar7, cr7, rfl, hOr7, hZr7, hBr7⟩
        refine Sv_call rfl rfl rfl ent14 ?_
        refine (starts_calls Aa1 ca1 a1 _ _ hz hra1 hca1 (by omega)).mono ?_
        rintro e_ w8 ⟨Ar10, cr10, rfl, hOr10, hc9⟩
        exact ⟨_, rfl, hc9, ⟨Ar10, cr10, rfl, hOr10.lower hC.size, fresh_z hz hOr10.base, newC hOr10.base hc28.size⟩, fun k_ hk_ => ⟨hOr10.base k_ hk_, hOr10.lt k_ hk_⟩⟩
      refine ⟨fun w29 hc30 => ?_, ?_⟩
      · have _w29 := trivial
        have hc30 : Chg [] w3 w29 := hc30
        have hz := hz.chg0 hc30
        have hBb1 := hBb1.chg0 hc30
        have hC := hC.then hc30 (by simp)
        exact Sv_val rfl (R_fld rfl rfl fld30_0) ⟨Chg.refl _ _, rfl, trivial⟩
      refine ⟨fun w31 hc32 => ?_, ?_⟩
      · have _w31 := trivial
        have hc32 : Chg [] w3 w31 := hc32
        have hz := hz.chg0 hc32
        have hBb1 := hBb1.chg0 hc32
        have hC := hC.then hc32 (by simp)
        rintro _ rfl
        exact Sv_val rfl (R_load1 rfl rfl agg3 (hBb1.cell rfl)) ⟨Chg.refl _ _, rfl, trivial⟩
      refine ⟨fun w33 hc34 => ?_, ?_⟩
      · have _w33 := trivial
        have hc34 : Chg [] w3 w33 := hc34
        have hz := hz.chg0 hc34
        have hBb1 := hBb1.chg0 hc34
        have hC := hC.then hc34 (by simp)
        rintro _ ⟨Ar10, cr10, rfl, hOr10, hZr10, hBr10⟩ _ rfl
        obtain ⟨hzl, _, hrl⟩ := (hOr10.mono (zle_E _)).lend hz hZr10
        obtain ⟨p_, cs_, hA_, rfl, hc_⟩ := hrl.at_ (0 : Int) (i := a2.Row) (by omega) (by omega)
        exact Sv_val rfl (R_idx rfl rfl hA_ rfl Try.underlying22 size3 (by omega) (by omega)) ⟨Chg.refl _ _, ⟨_, rfl, fun j u hu => cell_add (hzl.cell (hc_ j u hu))⟩, trivial⟩
      refine ⟨fun w35 hc36 => ?_, ?_⟩
      · have _w35 := trivial
        have hc36 : Chg [] w3 w35 := hc36
        have hz := hz.chg0 hc36
        have hBb1 := hBb1.chg0 hc36
        have hC := hC.then hc36 (by simp)
        rintro _ ⟨p10, rfl, hp10⟩
        exact Sv_val rfl (R_load1 rfl rfl agg3 (cell0 (hp10 0 _ rfl))) ⟨Chg.refl _ _, rfl, trivial⟩
      refine ⟨fun w37 hc38 => ?_, ?_⟩
      · have _w37 := trivial
        have hc38 : Chg [] w3 w37 := hc38
        have hz := hz.chg0 hc38
        have hBb1 := hBb1.chg0 hc38
        have hC := hC.then hc38 (by simp)
        rintro _ rfl _ rfl _ ⟨Ar10, cr10, rfl, hOr10, hZr10, hBr10⟩
        refine Sv_call rfl rfl rfl ent42 ?_
        refine (point_calls ((startsS a0).getD a2.Col.toNat (0 : Int)) ((startsS a1).getD a2.Row.toNat (0 : Int))  _   (by omega) (by omega)).mono ?_
        rintro e_ w11 ⟨rfl, hc12⟩
        exact ⟨_, rfl, hc12, rfl, trivial⟩
      refine ⟨fun w39 hc40 => ?_, ?_⟩
      · have _w39 := trivial
        have hc40 : Chg [] w3 w39 := hc40
        have hz := hz.chg0 hc40
        have hBb1 := hBb1.chg0 hc40
        have hC := hC.then hc40 (by simp)
        rintro _ rfl _ rfl _ rfl _ ⟨Ar7, cr7, rfl, hOr7, hZr7, hBr7⟩ _ rfl _ rfl _ ⟨p4, rfl, hp4⟩ _ rfl _ rfl _ ⟨Ar10, cr10, rfl, hOr10, hZr10, hBr10⟩ _ rfl _ rfl _ ⟨p10, rfl, hp10⟩ _ rfl _ rfl
        exact Sv_val rfl (R_assign rfl rfl) ⟨Chg.refl _ _, rfl, trivial⟩
      refine ⟨fun w41 hc42 => ?_, ?_⟩
      · have _w41 := trivial
        have hc42 : Chg [] w3 w41 := hc42
        have hz := hz.chg0 hc42
        have hBb1 := hBb1.chg0 hc42
        have hC := hC.then hc42 (by simp)
        rintro _ rfl _ rfl _ ⟨Ar7, cr7, rfl, hOr7, hZr7, hBr7⟩ _ rfl _ rfl _ ⟨p4, rfl, hp4⟩ _ rfl _ rfl _ ⟨Ar10, cr10, rfl, hOr10, hZr10, hBr10⟩ _ rfl _ rfl _ ⟨p10, rfl, hp10⟩ _ rfl _ rfl _ rfl
        exact Sv_val rfl (R_assign rfl rfl) ⟨Chg.refl _ _, rfl, trivial⟩
      exact trivial
    · intro w43 hc44
      have hc44 : Chg [] w3 w43 := hc44
      have hltb1 := (boxlt hBb1)
      have hz := hz.chg0 hc44
      have hBb1 := hBb1.chg0 hc44
      have hC := hC.then hc44 (by simp)
      rintro _ rfl _ ⟨Ar7, cr7, rfl, hOr7, hZr7, hBr7⟩ _ rfl _ rfl _ ⟨p4, rfl, hp4⟩ _ rfl _ rfl _ ⟨Ar10, cr10, rfl, hOr10, hZr10, hBr10⟩ _ rfl _ rfl _ ⟨p10, rfl, hp10⟩ _ rfl _ rfl _ rfl _ rfl ⟨⟨hDr10_r7, _⟩, _⟩
      have hNr7 := hOr7.base
      have hmr7 := hOr7.cap.mx
      have hlr7 := hOr7.cap.le
      have hDb1_r7 : ∀ k ∈ [b1], k ∉ blk Ar7 := disj_new hltb1 hBr7
      have hNr10 := hOr10.base
      have hmr10 := hOr10.cap.mx
      have hlr10 := hOr10.cap.le
      have hDb1_r10 : ∀ k ∈ [b1], k ∉ blk Ar10 := disj_new hltb1 hBr10
      refine An_fr [(0, .slice Aa0 a0.length ca0), (1, .slice Aa1 a1.length ca1), (5, .pointer (some ⟨b1, 0, none⟩)), (6, .complex .f64 ((cpt ((startsS a0).getD a2.Col.toNat (0 : Int)) ((startsS a1).getD a2.Row.toNat (0 : Int))).re).bits ((cpt ((startsS a0).getD a2.Col.toNat (0 : Int)) ((startsS a1).getD a2.Row.toNat (0 : Int))).im).bits), (7, .int .i64 0)] rfl ?_
      refine An_done (by decide +kernel) ?_
      refine E_then ?_
      refine C_ret ?_
      refine E_ret2 rfl rfl rfl ?_
      exact ⟨Lret2 (show (.complex .f64 ((cpt ((startsS a0).getD a2.Col.toNat (0 : Int)) ((startsS a1).getD a2.Row.toNat (0 : Int))).re).bits ((cpt ((startsS a0).getD a2.Col.toNat (0 : Int)) ((startsS a1).getD a2.Row.toNat (0 : Int))).im).bits : Value) = .complex .f64 ((cornerS a0 a1 a2).1).re.bits ((cornerS a0 a1 a2).1).im.bits by first | (rw [corner_in hin]; try rfl) | (rw [corner_out hin]; try rfl)) (Lint (show 0 = (cornerS a0 a1 a2).2 by first | (rw [corner_in hin]; try rfl) | (rw [corner_out hin]; try rfl))), hC⟩

set_option maxHeartbeats 400000 in
set_option maxRecDepth 20000 in
theorem size_calls (Aa0 : Option Addr) (ca0 : Nat) (a0 : List Int) (Aa1 : Option Addr) (ca1 : Nat) (a1 : List Int) (a2 : TRect) (z : Z) (w : World) (hz : Sub z w) (hra0 : Rd (kint .i64) z Aa0 a0) (hca0 : Cap Aa0 a0.length ca0) (hra1 : Rd (kint .i64) z Aa1 a1) (hca1 : Cap Aa1 a1.length ca1) (p0 : a0.length ≤ 1000) (p1 : a1.length ≤ 1000) :
    Calls Try.prog 20 #[.slice Aa0 a0.length ca0, .slice Aa1 a1.length ca1, .agg #[.int .i64 a2.Row, .int .i64 a2.Col, .int .i64 a2.Rows, .int .i64 a2.Cols]] w fun e w' => e = .returned (.tuple #[.complex .f64 ((sizeS a0 a1 a2).1).re.bits ((sizeS a0 a1 a2).1).im.bits, .int .i64 ((sizeS a0 a1 a2).2)]) ∧ Chg [] w w' := by
  have hsl0 := starts_len a0
  have hsl1 := starts_len a1
  have hla0 := hca0.le
  have hma0 := hca0.mx
  have hla1 := hca1.le
  have hma1 := hca1.mx
  have hC := Chg.refl [] w
  refine Calls_of (vs := [.slice Aa0 a0.length ca0, .slice Aa1 a1.length ca1, .agg #[.int .i64 a2.Row, .int .i64 a2.Col, .int .i64 a2.Rows, .int .i64 a2.Cols]]) (N := 45) Try.func20 rfl rfl (Nat.le_of_ble_eq_true rfl) ?_
  refine C_seq ?_
  refine C_region ?_
  refine W_cons rfl (by decide) (Sv_box rfl (R_box (cs := [.int .i64 a2.Row, .int .i64 a2.Col, .int .i64 a2.Rows, .int .i64 a2.Cols]) rfl rfl rfl) (fun b1 w2 hcb1 hnb1 hBb1 => ?_))
  have hZb1 : ∀ k ∈ [b1], z k = none := fresh_z hz (boxbase hnb1)
  have hNb1 : ∀ k ∈ [b1], w.heap.size ≤ k := newC (boxbase hnb1) hC.size
  have hz := hz.chg0 hcb1
  have hC := hC.then hcb1 (by simp)
  refine W_cons rfl (by decide) (Sv_val rfl (R_assign rfl rfl) ?_)
  refine W_cons rfl (by decide) (Sv_val rfl (R_assign rfl rfl) ?_)
  refine W_nil ?_
  refine E_then ?_
  refine C_seq ?_
  refine C_region ?_
  refine W_cons rfl (by decide) (Sv_val rfl (R_move rfl rfl) ?_)
  refine W_cons rfl (by decide) (Sv_val rfl (R_move rfl rfl) ?_)
  refine W_cons rfl (by decide) (Sv_val rfl (R_loadN (cs := [.int .i64 a2.Row, .int .i64 a2.Col, .int .i64 a2.Rows, .int .i64 a2.Cols]) rfl rfl agg30 size30 rfl (boxcells hBb1 0 rfl)) ?_)
  refine W_cons rfl (by decide) (Sv_call rfl rfl rfl ent19 ?_)
  refine (corner_calls Aa0 ca0 a0 Aa1 ca1 a1 a2 _ _ hz hra0 hca0 hra1 hca1 (by omega) (by omega)).mono ?_
  rintro e_ w3 ⟨rfl, hc4⟩
  refine ⟨_, rfl, ?_⟩
  have hz := hz.chg0 hc4
  have hBb1 := hBb1.chg0 hc4
  have hC := hC.then hc4 (by simp)
  refine W_cons rfl (by decide) (Sv_val rfl (R_move rfl rfl) ?_)
  refine W_cons rfl (by decide) (Sv_val rfl (R_extract rfl rfl rfl) ?_)
  refine W_cons rfl (by decide) (Sv_val rfl (R_extract rfl rfl rfl) ?_)
  refine W_cons rfl (by decide) (Sv_val rfl (R_assign rfl rfl) ?_)
  refine W_cons rfl (by decide) (Sv_val rfl (R_assign rfl rfl) ?_)
  refine W_nil ?_
  refine E_then (C_fr [(0, .slice Aa0 a0.length ca0), (1, .slice Aa1 a1.length ca1), (5, .pointer (some ⟨b1, 0, none⟩)), (8, .complex .f64 (((cornerS a0 a1 a2).1).re).bits (((cornerS a0 a1 a2).1).im).bits), (9, .int .i64 ((cornerS a0 a1 a2).2))] rfl ?_)
  refine C_seq ?_
  refine C_seq ?_
  refine C_region ?_
  refine W_cons rfl (by decide) (Sv_val rfl (R_move rfl rfl) ?_)
  refine W_cons rfl (by decide) (Sv_val rfl (R_bin rfl rfl rfl rfl rfl) ?_)
  refine W_nil ?_
  refine E_then ?_
  refine C_ite rfl (fun hC0 => ?_) (fun hC0 => ?_)
  · have _hC0 := trivial
    have hC0p : ¬ ((cornerS a0 a1 a2).2) = 0 := by simpa using hC0
    have hin := corner_no hC0p
    refine C_seq ?_
    refine C_region ?_
    refine W_cons rfl (by decide) (Sv_val rfl (R_move rfl rfl) ?_)
    refine W_cons rfl (by decide) (Sv_val rfl (R_assign rfl rfl) ?_)
    refine W_cons rfl (by decide) (Sv_val rfl (R_assign rfl rfl) ?_)
    refine W_nil ?_
    refine E_then (C_fr [(6, .complex .f64 (Fl.ofInt 0).bits (Fl.ofInt 0).bits), (7, .int .i64 ((cornerS a0 a1 a2).2))] rfl ?_)
    refine C_ret ?_
    refine E_then_ret ?_
    refine E_ret2 rfl rfl rfl ?_
    exact ⟨Lret2 (show (.complex .f64 (Fl.ofInt 0).bits (Fl.ofInt 0).bits : Value) = .complex .f64 ((sizeS a0 a1 a2).1).re.bits ((sizeS a0 a1 a2).1).im.bits by first | (rw [size_in hin]; done) | (rw [size_in hin]; rfl) | (rw [size_out hin, corner_out hin]; done) | (rw [size_out hin]; rfl)) (Lint (show (cornerS a0 a1 a2).2 = (sizeS a0 a1 a2).2 by first | (rw [size_in hin]; done) | (rw [size_in hin]; rfl) | (rw [size_out hin, corner_out hin]; done) | (rw [size_out hin]; rfl))), hC⟩
  · have _hC0 := trivial
    have hC0p : ((cornerS a0 a1 a2).2) = 0 := by simpa using hC0
    have hin := corner_ok (by simpa using hC0)
    have hi := inside_of hin
    have hb0 := starts_bd a0 a2.Col.toNat (by omega)
    have hb1 := starts_bd a1 a2.Row.toNat (by omega)
    have hb2 := starts_bd a0 (a2.Col + a2.Cols).toNat (by omega)
    have hb3 := starts_bd a1 (a2.Row + a2.Rows).toNat (by omega)
    have hcr : (cornerS a0 a1 a2).1 = cpt ((startsS a0).getD a2.Col.toNat 0) ((startsS a1).getD a2.Row.toNat 0) := by rw [corner_in hin]
    refine C_skip ?_
    refine E_then ?_
    refine C_seq ?_
    refine C_fr [(0, .slice Aa0 a0.length ca0), (1, .slice Aa1 a1.length ca1), (5, .pointer (some ⟨b1, 0, none⟩)), (8, .complex .f64 (((cornerS a0 a1 a2).1).re).bits (((cornerS a0 a1 a2).1).im).bits)] rfl ?_
    refine C_drawnX 20 [[], [0], [], [2], [], [4], [3, 5], [1, 6], [7], [], [9, 1], [], [11], [], [13], [12, 14], [10, 15], [16], [8, 17, 10], [18, 18, 0, 1, 2, 3, 4, 5, 6, 7, 8, 9, 10, 11, 12, 13, 14, 15, 16, 17, 18]] [some 21, some 22, some 23, some 24, some 25, some 26, some 27, some 28, some 29, some 30, some 31, some 32, some 33, some 34, some 35, some 36, some 37, some 38, some 39, some 10] [0, 1, 5, 8] [[], [], [], [], [], [], [], [], [], [], [], [], [], [], [], [], [], [], [], []] [20, 20, 20, 20, 20, 20, 20, 20, 20, 20, 20, 20, 20, 20, 20, 20, 20, 20, 20, 20] [false, true, false, false, false, false, false, false, false, false, true, false, false, false, false, false, false, false, false, false] rfl (by kernel_rfl) (by decide +kernel) [fun v _ => v = .slice Aa0 a0.length ca0, fun v w_ => ∃ Ar7 cr7, v = .slice Ar7 (startsS a0).length cr7 ∧ Own (kint .i64) 3 w.heap.size zE w_ Ar7 cr7 (startsS a0) ∧ (∀ k ∈ blk Ar7, z k = none) ∧ ∀ k ∈ blk Ar7, w3.heap.size ≤ k, fun v _ => v = .pointer (some ⟨b1, 1, none⟩), fun v _ => v = .int .i64 a2.Col, fun v _ => v = .pointer (some ⟨b1, 3, none⟩), fun v _ => v = .int .i64 a2.Cols, fun v _ => v = .int .i64 (a2.Col + a2.Cols), fun v w_ => ∃ a_, v = .pointer (some a_) ∧ ∀ j u, ([.int .i64 ((startsS a0).getD (a2.Col + a2.Cols).toNat (0 : Int))] : List Value)[j]? = some u → w_.cell? (a_.add j) = some u, fun v _ => v = .int .i64 ((startsS a0).getD (a2.Col + a2.Cols).toNat (0 : Int)), fun v _ => v = .slice Aa1 a1.length ca1, fun v w_ => ∃ Ar10 cr10, v = .slice Ar10 (startsS a1).length cr10 ∧ Own (kint .i64) 3 w.heap.size zE w_ Ar10 cr10 (startsS a1) ∧ (∀ k ∈ blk Ar10, z k = none) ∧ ∀ k ∈ blk Ar10, w3.heap.size ≤ k, fun v _ => v = .pointer (some ⟨b1, 0, none⟩), fun v _ => v = .int .i64 a2.Row, fun v _ => v = .pointer (some ⟨b1, 2, none⟩), fun v _ => v = .int .i64 a2.Rows, fun v _ => v = .int .i64 (a2.Row + a2.Rows), fun v w_ => ∃ a_, v = .pointer (some a_) ∧ ∀ j u, ([.int .i64 ((startsS a1).getD (a2.Row + a2.Rows).toNat (0 : Int))] : List Value)[j]? = some u → w_.cell? (a_.add j) = some u, fun v _ => v = .int .i64 ((startsS a1).getD (a2.Row + a2.Rows).toNat (0 : Int)), fun v _ => v = .complex .f64 ((cpt ((startsS a0).getD (a2.Col + a2.Cols).toNat (0 : Int)) ((startsS a1).getD (a2.Row + a2.Rows).toNat (0 : Int))).re).bits ((cpt ((startsS a0).getD (a2.Col + a2.Cols).toNat (0 : Int)) ((startsS a1).getD (a2.Row + a2.Rows).toNat (0 : Int))).im).bits, fun v _ => v = .complex .f64 ((cpt ((startsS a0).getD (a2.Col + a2.Cols).toNat (0 : Int)) ((startsS a1).getD (a2.Row + a2.Rows).toNat (0 : Int))).re).bits ((cpt ((startsS a0).getD (a2.Col + a2.Cols).toNat (0 : Int)) ((startsS a1).getD (a2.Row + a2.Rows).toNat (0 : Int))).im).bits] ?_ ?_ ?_
    · exact ⟨fun _ _ _ h _ => h, fun v_ _ _ h hc => by obtain ⟨A_, c_, rfl, hO_, hZ_⟩ := h; exact ⟨A_, c_, rfl, hO_.chg0 hc, hZ_⟩, fun _ _ _ h _ => h, fun _ _ _ h _ => h, fun _ _ _ h _ => h, fun _ _ _ h _ => h, fun _ _ _ h _ => h, fun v_ _ _ h hc => by obtain ⟨a_, rfl, hh⟩ := h; exact ⟨a_, rfl, fun j u hu => cell_chg0 (hh j u hu) hc⟩, fun _ _ _ h _ => h, fun _ _ _ h _ => h, fun v_ _ _ h hc => by obtain ⟨A_, c_, rfl, hO_, hZ_⟩ := h; exact ⟨A_, c_, rfl, hO_.chg0 hc, hZ_⟩, fun _ _ _ h _ => h, fun _ _ _ h _ => h, fun _ _ _ h _ => h, fun _ _ _ h _ => h, fun _ _ _ h _ => h, fun v_ _ _ h hc => by obtain ⟨a_, rfl, hh⟩ := h; exact ⟨a_, rfl, fun j u hu => cell_chg0 (hh j u hu) hc⟩, fun _ _ _ h _ => h, fun _ _ _ h _ => h, fun _ _ _ h _ => h, trivial⟩
    · refine ⟨fun w13 hc14 => ?_, ?_⟩
      · have _w13 := trivial
        have hc14 : Chg [] w3 w13 := hc14
        have hz := hz.chg0 hc14
        have hBb1 := hBb1.chg0 hc14
        have hC := hC.then hc14 (by simp)
        exact Sv_val rfl (R_move rfl rfl) ⟨Chg.refl _ _, rfl, trivial⟩
      refine ⟨fun w15 hc16 => ?_, ?_⟩
      · have _w15 := trivial
        have hc16 : Chg [] w3 w15 := hc16
        have hz := hz.chg0 hc16
        have hBb1 := hBb1.chg0 hc16
        have hC := hC.then hc16 (by simp)
        rintro _ rfl
        refine Sv_call rfl rfl rfl ent14 ?_
        refine (starts_calls Aa0 ca0 a0 _ _ hz hra0 hca0 (by omega)).mono ?_
        rintro e_ w5 ⟨Ar7, cr7, rfl, hOr7, hc6⟩
        exact ⟨_, rfl, hc6, ⟨Ar7, cr7, rfl, hOr7.lower hC.size, fresh_z hz hOr7.base, newC hOr7.base hc16.size⟩, fun k_ hk_ => ⟨hOr7.base k_ hk_, hOr7.lt k_ hk_⟩⟩
      refine ⟨fun w17 hc18 => ?_, ?_⟩
      · have _w17 := trivial
        have hc18 : Chg [] w3 w17 := hc18
        have hz := hz.chg0 hc18
        have hBb1 := hBb1.chg0 hc18
        have hC := hC.then hc18 (by simp)
        exact Sv_val rfl (R_fld rfl rfl fld30_1) ⟨Chg.refl _ _, rfl, trivial⟩
      refine ⟨fun w19 hc20 => ?_, ?_⟩
      · have _w19 := trivial
        have hc20 : Chg [] w3 w19 := hc20
        have hz := hz.chg0 hc20
        have hBb1 := hBb1.chg0 hc20
        have hC := hC.then hc20 (by simp)
        rintro _ rfl
        exact Sv_val rfl (R_load1 rfl rfl agg3 (hBb1.cell rfl)) ⟨Chg.refl _ _, rfl, trivial⟩
      refine ⟨fun w21 hc22 => ?_, ?_⟩
      · have _w21 := trivial
        have hc22 : Chg [] w3 w21 := hc22
        have hz := hz.chg0 hc22
        have hBb1 := hBb1.chg0 hc22
        have hC := hC.then hc22 (by simp)
        exact Sv_val rfl (R_fld rfl rfl fld30_3) ⟨Chg.refl _ _, rfl, trivial⟩
      refine ⟨fun w23 hc24 => ?_, ?_⟩
      · have _w23 := trivial
        have hc24 : Chg [] w3 w23 := hc24
        have hz := hz.chg0 hc24
        have hBb1 := hBb1.chg0 hc24
        have hC := hC.then hc24 (by simp)
        rintro _ rfl
        exact Sv_val rfl (R_load1 rfl rfl agg3 (hBb1.cell rfl)) ⟨Chg.refl _ _, rfl, trivial⟩
      refine ⟨fun w25 hc26 => ?_, ?_⟩
      · have _w25 := trivial
        have hc26 : Chg [] w3 w25 := hc26
        have hz := hz.chg0 hc26
        have hBb1 := hBb1.chg0 hc26
        have hC := hC.then hc26 (by simp)
        rintro _ rfl _ rfl
        exact Sv_val rfl (R_add64 rfl rfl rfl (by omega) (by omega)) ⟨Chg.refl _ _, rfl, trivial⟩
      refine ⟨fun w27 hc28 => ?_, ?_⟩
      · have _w27 := trivial
        have hc28 : Chg [] w3 w27 := hc28
        have hz := hz.chg0 hc28
        have hBb1 := hBb1.chg0 hc28
        have hC := hC.then hc28 (by simp)
        rintro _ ⟨Ar7, cr7, rfl, hOr7, hZr7, hBr7⟩ _ rfl
        obtain ⟨hzl, _, hrl⟩ := (hOr7.mono (zle_E _)).lend hz hZr7
        obtain ⟨p_, cs_, hA_, rfl, hc_⟩ := hrl.at_ (0 : Int) (i := (a2.Col + a2.Cols)) (by omega) (by omega)
        exact Sv_val rfl (R_idx rfl rfl hA_ rfl Try.underlying22 size3 (by omega) (by omega)) ⟨Chg.refl _ _, ⟨_, rfl, fun j u hu => cell_add (hzl.cell (hc_ j u hu))⟩, trivial⟩
      refine ⟨fun w29 hc30 => ?_, ?_⟩
      · have _w29 := trivial
        have hc30 : Chg [] w3 w29 := hc30
        have hz := hz.chg0 hc30
        have hBb1 := hBb1.chg0 hc30
        have hC := hC.then hc30 (by simp)
        rintro _ ⟨p7, rfl, hp7⟩
        exact Sv_val rfl (R_load1 rfl rfl agg3 (cell0 (hp7 0 _ rfl))) ⟨Chg.refl _ _, rfl, trivial⟩
      refine ⟨fun w31 hc32 => ?_, ?_⟩
      · have _w31 := trivial
        have hc32 : Chg [] w3 w31 := hc32
        have hz := hz.chg0 hc32
        have hBb1 := hBb1.chg0 hc32
        have hC := hC.then hc32 (by simp)
        exact Sv_val rfl (R_move rfl rfl) ⟨Chg.refl _ _, rfl, trivial⟩
      refine ⟨fun w33 hc34 => ?_, ?_⟩
      · have _w33 := trivial
        have hc34 : Chg [] w3 w33 := hc34
        have hz := hz.chg0 hc34
        have hBb1 := hBb1.chg0 hc34
        have hC := hC.then hc34 (by simp)
        rintro _ rfl _ ⟨Ar7, cr7, rfl, hOr7, hZr7, hBr7⟩
        refine Sv_call rfl rfl rfl ent14 ?_
        refine (starts_calls Aa1 ca1 a1 _ _ hz hra1 hca1 (by omega)).mono ?_
        rintro e_ w8 ⟨Ar10, cr10, rfl, hOr10, hc9⟩
        exact ⟨_, rfl, hc9, ⟨Ar10, cr10, rfl, hOr10.lower hC.size, fresh_z hz hOr10.base, newC hOr10.base hc34.size⟩, fun k_ hk_ => ⟨hOr10.base k_ hk_, hOr10.lt k_ hk_⟩⟩
      refine ⟨fun w35 hc36 => ?_, ?_⟩
      · have _w35 := trivial
        have hc36 : Chg [] w3 w35 := hc36
        have hz := hz.chg0 hc36
        have hBb1 := hBb1.chg0 hc36
        have hC := hC.then hc36 (by simp)
        exact Sv_val rfl (R_fld rfl rfl fld30_0) ⟨Chg.refl _ _, rfl, trivial⟩
      refine ⟨fun w37 hc38 => ?_, ?_⟩
      · have _w37 := trivial
        have hc38 : Chg [] w3 w37 := hc38
        have hz := hz.chg0 hc38
        have hBb1 := hBb1.chg0 hc38
        have hC := hC.then hc38 (by simp)
        rintro _ rfl
        exact Sv_val rfl (R_load1 rfl rfl agg3 (hBb1.cell rfl)) ⟨Chg.refl _ _, rfl, trivial⟩
      refine ⟨fun w39 hc40 => ?_, ?_⟩
      · have _w39 := trivial
        have hc40 : Chg [] w3 w39 := hc40
        have hz := hz.chg0 hc40
        have hBb1 := hBb1.chg0 hc40
        have hC := hC.then hc40 (by simp)
        exact Sv_val rfl (R_fld rfl rfl fld30_2) ⟨Chg.refl _ _, rfl, trivial⟩
      refine ⟨fun w41 hc42 => ?_, ?_⟩
      · have _w41 := trivial
        have hc42 : Chg [] w3 w41 := hc42
        have hz := hz.chg0 hc42
        have hBb1 := hBb1.chg0 hc42
        have hC := hC.then hc42 (by simp)
        rintro _ rfl
        exact Sv_val rfl (R_load1 rfl rfl agg3 (hBb1.cell rfl)) ⟨Chg.refl _ _, rfl, trivial⟩
      refine ⟨fun w43 hc44 => ?_, ?_⟩
      · have _w43 := trivial
        have hc44 : Chg [] w3 w43 := hc44
        have hz := hz.chg0 hc44
        have hBb1 := hBb1.chg0 hc44
        have hC := hC.then hc44 (by simp)
        rintro _ rfl _ rfl
        exact Sv_val rfl (R_add64 rfl rfl rfl (by omega) (by omega)) ⟨Chg.refl _ _, rfl, trivial⟩
      refine ⟨fun w45 hc46 => ?_, ?_⟩
      · have _w45 := trivial
        have hc46 : Chg [] w3 w45 := hc46
        have hz := hz.chg0 hc46
        have hBb1 := hBb1.chg0 hc46
        have hC := hC.then hc46 (by simp)
        rintro _ ⟨Ar10, cr10, rfl, hOr10, hZr10, hBr10⟩ _ rfl
        obtain ⟨hzl, _, hrl⟩ := (hOr10.mono (zle_E _)).lend hz hZr10
        obtain ⟨p_, cs_, hA_, rfl, hc_⟩ := hrl.at_ (0 : Int) (i := (a2.Row + a2.Rows)) (by omega) (by omega)
        exact Sv_val rfl (R_idx rfl rfl hA_ rfl Try.underlying22 size3 (by omega) (by omega)) ⟨Chg.refl _ _, ⟨_, rfl, fun j u hu => cell_add (hzl.cell (hc_ j u hu))⟩, trivial⟩
      refine ⟨fun w47 hc48 => ?_, ?_⟩
      · have _w47 := trivial
        have hc48 : Chg [] w3 w47 := hc48
        have hz := hz.chg0 hc48
        have hBb1 := hBb1.chg0 hc48
        have hC := hC.then hc48 (by simp)
        rintro _ ⟨p16, rfl, hp16⟩
        exact Sv_val rfl (R_load1 rfl rfl agg3 (cell0 (hp16 0 _ rfl))) ⟨Chg.refl _ _, rfl, trivial⟩
      refine ⟨fun w49 hc50 => ?_, ?_⟩
      · have _w49 := trivial
        have hc50 : Chg [] w3 w49 := hc50
        have hz := hz.chg0 hc50
        have hBb1 := hBb1.chg0 hc50
        have hC := hC.then hc50 (by simp)
        rintro _ rfl _ rfl _ ⟨Ar10, cr10, rfl, hOr10, hZr10, hBr10⟩
        refine Sv_call rfl rfl rfl ent42 ?_
        refine (point_calls ((startsS a0).getD (a2.Col + a2.Cols).toNat (0 : Int)) ((startsS a1).getD (a2.Row + a2.Rows).toNat (0 : Int))  _   (by omega) (by omega)).mono ?_
        rintro e_ w11 ⟨rfl, hc12⟩
        exact ⟨_, rfl, hc12, rfl, trivial⟩
      refine ⟨fun w51 hc52 => ?_, ?_⟩
      · have _w51 := trivial
        have hc52 : Chg [] w3 w51 := hc52
        have hz := hz.chg0 hc52
        have hBb1 := hBb1.chg0 hc52
        have hC := hC.then hc52 (by simp)
        rintro _ rfl _ rfl _ rfl _ ⟨Ar7, cr7, rfl, hOr7, hZr7, hBr7⟩ _ rfl _ rfl _ rfl _ rfl _ rfl _ ⟨p7, rfl, hp7⟩ _ rfl _ rfl _ ⟨Ar10, cr10, rfl, hOr10, hZr10, hBr10⟩ _ rfl _ rfl _ rfl _ rfl _ rfl _ ⟨p16, rfl, hp16⟩ _ rfl _ rfl
        exact Sv_val rfl (R_assign rfl rfl) ⟨Chg.refl _ _, rfl, trivial⟩
      exact trivial
    · intro w53 hc54
      have hc54 : Chg [] w3 w53 := hc54
      have hltb1 := (boxlt hBb1)
      have hz := hz.chg0 hc54
      have hBb1 := hBb1.chg0 hc54
      have hC := hC.then hc54 (by simp)
      rintro _ rfl _ ⟨Ar7, cr7, rfl, hOr7, hZr7, hBr7⟩ _ rfl _ rfl _ rfl _ rfl _ rfl _ ⟨p7, rfl, hp7⟩ _ rfl _ rfl _ ⟨Ar10, cr10, rfl, hOr10, hZr10, hBr10⟩ _ rfl _ rfl _ rfl _ rfl _ rfl _ ⟨p16, rfl, hp16⟩ _ rfl _ rfl _ rfl ⟨⟨hDr10_r7, _⟩, _⟩
      have hNr7 := hOr7.base
      have hmr7 := hOr7.cap.mx
      have hlr7 := hOr7.cap.le
      have hDb1_r7 : ∀ k ∈ [b1], k ∉ blk Ar7 := disj_new hltb1 hBr7
      have hNr10 := hOr10.base
      have hmr10 := hOr10.cap.mx
      have hlr10 := hOr10.cap.le
      have hDb1_r10 : ∀ k ∈ [b1], k ∉ blk Ar10 := disj_new hltb1 hBr10
      refine An_fr [(0, .slice Aa0 a0.length ca0), (1, .slice Aa1 a1.length ca1), (5, .pointer (some ⟨b1, 0, none⟩)), (8, .complex .f64 (((cornerS a0 a1 a2).1).re).bits (((cornerS a0 a1 a2).1).im).bits), (10, .complex .f64 ((cpt ((startsS a0).getD (a2.Col + a2.Cols).toNat (0 : Int)) ((startsS a1).getD (a2.Row + a2.Rows).toNat (0 : Int))).re).bits ((cpt ((startsS a0).getD (a2.Col + a2.Cols).toNat (0 : Int)) ((startsS a1).getD (a2.Row + a2.Rows).toNat (0 : Int))).im).bits)] rfl ?_
      refine An_done (by decide +kernel) ?_
      refine E_then ?_
      refine C_seq ?_
      refine C_region ?_
      refine W_cons rfl (by decide) (Sv_val rfl (R_move rfl rfl) ?_)
      refine W_cons rfl (by decide) (Sv_val rfl (R_move rfl rfl) ?_)
      refine W_cons rfl (by decide) (Sv_val rfl (R_cxsub (a := (cpt ((startsS a0).getD (a2.Col + a2.Cols).toNat (0 : Int)) ((startsS a1).getD (a2.Row + a2.Rows).toNat (0 : Int))).re) (b := (cpt ((startsS a0).getD (a2.Col + a2.Cols).toNat (0 : Int)) ((startsS a1).getD (a2.Row + a2.Rows).toNat (0 : Int))).im) (c := ((cornerS a0 a1 a2).1).re) (d := ((cornerS a0 a1 a2).1).im) rfl rfl rfl (by simp [-List.getD_eq_getElem?_getD, hcr, cpt, Fl.ok, Fl.add, Fl.sub, Fl.opp, Fl.ofInt]; omega) (by simp [-List.getD_eq_getElem?_getD, hcr, cpt, Fl.ok, Fl.add, Fl.sub, Fl.opp, Fl.ofInt]; omega)) ?_)
      refine W_cons rfl (by decide) (Sv_call rfl rfl rfl ent42 ?_)
      refine (point_calls 1 1  _   (by omega) (by omega)).mono ?_
      rintro e_ w55 ⟨rfl, hc56⟩
      refine ⟨_, rfl, ?_⟩
      have hz := hz.chg0 hc56
      have hC := hC.then hc56 (by simp)
      refine W_cons rfl (by decide) (Sv_val rfl (R_cxsub (a := ((cpt ((startsS a0).getD (a2.Col + a2.Cols).toNat (0 : Int)) ((startsS a1).getD (a2.Row + a2.Rows).toNat (0 : Int))).re).sub (((cornerS a0 a1 a2).1).re)) (b := ((cpt ((startsS a0).getD (a2.Col + a2.Cols).toNat (0 : Int)) ((startsS a1).getD (a2.Row + a2.Rows).toNat (0 : Int))).im).sub (((cornerS a0 a1 a2).1).im)) (c := (cpt 1 1).re) (d := (cpt 1 1).im) rfl rfl rfl (by simp [-List.getD_eq_getElem?_getD, hcr, cpt, Fl.ok, Fl.add, Fl.sub, Fl.opp, Fl.ofInt]; omega) (by simp [-List.getD_eq_getElem?_getD, hcr, cpt, Fl.ok, Fl.add, Fl.sub, Fl.opp, Fl.ofInt]; omega)) ?_)
      refine W_cons rfl (by decide) (Sv_val rfl (R_assign rfl rfl) ?_)
      refine W_cons rfl (by decide) (Sv_val rfl (R_assign rfl rfl) ?_)
      refine W_nil ?_
      refine E_then (C_fr [(6, .complex .f64 ((((cpt ((startsS a0).getD (a2.Col + a2.Cols).toNat (0 : Int)) ((startsS a1).getD (a2.Row + a2.Rows).toNat (0 : Int))).re).sub (((cornerS a0 a1 a2).1).re)).sub ((cpt 1 1).re)).bits ((((cpt ((startsS a0).getD (a2.Col + a2.Cols).toNat (0 : Int)) ((startsS a1).getD (a2.Row + a2.Rows).toNat (0 : Int))).im).sub (((cornerS a0 a1 a2).1).im)).sub ((cpt 1 1).im)).bits), (7, .int .i64 0)] rfl ?_)
      refine C_ret ?_
      refine E_ret2 rfl rfl rfl ?_
      exact ⟨Lret2 (show (.complex .f64 ((((cpt ((startsS a0).getD (a2.Col + a2.Cols).toNat (0 : Int)) ((startsS a1).getD (a2.Row + a2.Rows).toNat (0 : Int))).re).sub (((cornerS a0 a1 a2).1).re)).sub ((cpt 1 1).re)).bits ((((cpt ((startsS a0).getD (a2.Col + a2.Cols).toNat (0 : Int)) ((startsS a1).getD (a2.Row + a2.Rows).toNat (0 : Int))).im).sub (((cornerS a0 a1 a2).1).im)).sub ((cpt 1 1).im)).bits : Value) = .complex .f64 ((sizeS a0 a1 a2).1).re.bits ((sizeS a0 a1 a2).1).im.bits by first | (rw [size_in hin]; done) | (rw [size_in hin]; rfl) | (rw [size_out hin, corner_out hin]; done) | (rw [size_out hin]; rfl)) (Lint (show 0 = (sizeS a0 a1 a2).2 by first | (rw [size_in hin]; done) | (rw [size_in hin]; rfl) | (rw [size_out hin, corner_out hin]; done) | (rw [size_out hin]; rfl))), hC⟩

set_option maxHeartbeats 400000 in
set_option maxRecDepth 20000 in
theorem rcorner_calls (Aa0 : Option Addr) (ca0 : Nat) (a0 : List Int) (Aa1 : Option Addr) (ca1 : Nat) (a1 : List Int) (a2 : TRect) (z : Z) (w : World) (hz : Sub z w) (hra0 : Rd (kint .i64) z Aa0 a0) (hca0 : Cap Aa0 a0.length ca0) (hra1 : Rd (kint .i64) z Aa1 a1) (hca1 : Cap Aa1 a1.length ca1) (p0 : a0.length ≤ 1000) (p1 : a1.length ≤ 1000) (p2 : insideS a0.length a1.length a2 = true) :
    Calls Try.prog 22 #[.slice Aa0 a0.length ca0, .slice Aa1 a1.length ca1, .agg #[.int .i64 a2.Row, .int .i64 a2.Col, .int .i64 a2.Rows, .int .i64 a2.Cols]] w fun e w' => e = .returned (.tuple #[.int .i64 ((startsS a0).getD a2.Col.toNat 0), .int .i64 ((startsS a1).getD a2.Row.toNat 0)]) ∧ Chg [] w w' := by
  have hsl0 := starts_len a0
  have hsl1 := starts_len a1
  have hi := inside_of p2
  have hla0 := hca0.le
  have hma0 := hca0.mx
  have hla1 := hca1.le
  have hma1 := hca1.mx
  have hC := Chg.refl [] w
  refine Calls_of (vs := [.slice Aa0 a0.length ca0, .slice Aa1 a1.length ca1, .agg #[.int .i64 a2.Row, .int .i64 a2.Col, .int .i64 a2.Rows, .int .i64 a2.Cols]]) (N := 20) Try.func22 rfl rfl (Nat.le_of_ble_eq_true rfl) ?_
  refine C_seq ?_
  refine C_region ?_
  refine W_cons rfl (by decide) (Sv_box rfl (R_box (cs := [.int .i64 a2.Row, .int .i64 a2.Col, .int .i64 a2.Rows, .int .i64 a2.Cols]) rfl rfl rfl) (fun b1 w2 hcb1 hnb1 hBb1 => ?_))
  have hZb1 : ∀ k ∈ [b1], z k = none := fresh_z hz (boxbase hnb1)
  have hNb1 : ∀ k ∈ [b1], w.heap.size ≤ k := newC (boxbase hnb1) hC.size
  have hz := hz.chg0 hcb1
  have hC := hC.then hcb1 (by simp)
  refine W_cons rfl (by decide) (Sv_val rfl (R_assign rfl rfl) ?_)
  refine W_cons rfl (by decide) (Sv_val rfl (R_assign rfl rfl) ?_)
  refine W_nil ?_
  refine E_then ?_
  refine C_seq ?_
  refine C_fr [(0, .slice Aa0 a0.length ca0), (1, .slice Aa1 a1.length ca1), (5, .pointer (some ⟨b1, 0, none⟩))] rfl ?_
  refine C_drawnX 14 [[], [0], [], [2], [1, 3], [4], [], [6, 1], [], [8], [7, 9], [10], [5, 7, 0, 1, 2, 3, 4, 5], [11, 12, 0, 1, 2, 3, 4, 5, 6, 7, 8, 9, 10, 11, 12]] [some 8, some 9, some 10, some 11, some 12, some 13, some 14, some 15, some 16, some 17, some 18, some 19, some 6, some 7] [0, 1, 5] [[], [], [], [], [], [], [], [], [], [], [], [], [], []] [14, 14, 14, 14, 14, 14, 14, 14, 14, 14, 14, 14, 14, 14] [false, true, false, false, false, false, false, true, false, false, false, false, false, false] rfl (by kernel_rfl) (by decide +kernel) [fun v _ => v = .slice Aa0 a0.length ca0, fun v w_ => ∃ Ar5 cr5, v = .slice Ar5 (startsS a0).length cr5 ∧ Own (kint .i64) 3 w.heap.size zE w_ Ar5 cr5 (startsS a0) ∧ (∀ k ∈ blk Ar5, z k = none) ∧ ∀ k ∈ blk Ar5, w2.heap.size ≤ k, fun v _ => v = .pointer (some ⟨b1, 1, none⟩), fun v _ => v = .int .i64 a2.Col, fun v w_ => ∃ a_, v = .pointer (some a_) ∧ ∀ j u, ([.int .i64 ((startsS a0).getD a2.Col.toNat (0 : Int))] : List Value)[j]? = some u → w_.cell? (a_.add j) = some u, fun v _ => v = .int .i64 ((startsS a0).getD a2.Col.toNat (0 : Int)), fun v _ => v = .slice Aa1 a1.length ca1, fun v w_ => ∃ Ar8 cr8, v = .slice Ar8 (startsS a1).length cr8 ∧ Own (kint .i64) 3 w.heap.size zE w_ Ar8 cr8 (startsS a1) ∧ (∀ k ∈ blk Ar8, z k = none) ∧ ∀ k ∈ blk Ar8, w2.heap.size ≤ k, fun v _ => v = .pointer (some ⟨b1, 0, none⟩), fun v _ => v = .int .i64 a2.Row, fun v w_ => ∃ a_, v = .pointer (some a_) ∧ ∀ j u, ([.int .i64 ((startsS a1).getD a2.Row.toNat (0 : Int))] : List Value)[j]? = some u → w_.cell? (a_.add j) = some u, fun v _ => v = .int .i64 ((startsS a1).getD a2.Row.toNat (0 : Int)), fun v _ => v = .int .i64 ((startsS a0).getD a2.Col.toNat (0 : Int)), fun v _ => v = .int .i64 ((startsS a1).getD a2.Row.toNat (0 : Int))] ?_ ?_ ?_
  · exact ⟨fun _ _ _ h _ => h, fun v_ _ _ h hc => by obtain ⟨A_, c_, rfl, hO_, hZ_⟩ := h; exact ⟨A_, c_, rfl, hO_.chg0 hc, hZ_⟩, fun _ _ _ h _ => h, fun _ _ _ h _ => h, fun v_ _ _ h hc => by obtain ⟨a_, rfl, hh⟩ := h; exact ⟨a_, rfl, fun j u hu => cell_chg0 (hh j u hu) hc⟩, fun _ _ _ h _ => h, fun _ _ _ h _ => h, fun v_ _ _ h hc => by obtain ⟨A_, c_, rfl, hO_, hZ_⟩ := h; exact ⟨A_, c_, rfl, hO_.chg0 hc, hZ_⟩, fun _ _ _ h _ => h, fun _ _ _ h _ => h, fun v_ _ _ h hc => by obtain ⟨a_, rfl, hh⟩ := h; exact ⟨a_, rfl, fun j u hu => cell_chg0 (hh j u hu) hc⟩, fun _ _ _ h _ => h, fun _ _ _ h _ => h, fun _ _ _ h _ => h, trivial⟩
  · refine ⟨fun w9 hc10 => ?_, ?_⟩
    · have _w9 := trivial
      have hc10 : Chg [] w2 w9 := hc10
      have hz := hz.chg0 hc10
      have hBb1 := hBb1.chg0 hc10
      have hC := hC.then hc10 (by simp)
      exact Sv_val rfl (R_move rfl rfl) ⟨Chg.refl _ _, rfl, trivial⟩
    refine ⟨fun w11 hc12 => ?_, ?_⟩
    · have _w11 := trivial
      have hc12 : Chg [] w2 w11 := hc12
      have hz := hz.chg0 hc12
      have hBb1 := hBb1.chg0 hc12
      have hC := hC.then hc12 (by simp)
      rintro _ rfl
      refine Sv_call rfl rfl rfl ent15 ?_
      refine (rstarts_calls Aa0 ca0 a0 _ _ hz hra0 hca0 (by omega)).mono ?_
      rintro e_ w3 ⟨Ar5, cr5, rfl, hOr5, hc4⟩
      exact ⟨_, rfl, hc4, ⟨Ar5, cr5, rfl, hOr5.lower hC.size, fresh_z hz hOr5.base, newC hOr5.base hc12.size⟩, fun k_ hk_ => ⟨hOr5.base k_ hk_, hOr5.lt k_ hk_⟩⟩
    refine ⟨fun w13 hc14 => ?_, ?_⟩
    · have _w13 := trivial
      have hc14 : Chg [] w2 w13 := hc14
      have hz := hz.chg0 hc14
      have hBb1 := hBb1.chg0 hc14
      have hC := hC.then hc14 (by simp)
      exact Sv_val rfl (R_fld rfl rfl fld30_1) ⟨Chg.refl _ _, rfl, trivial⟩
    refine ⟨fun w15 hc16 => ?_, ?_⟩
    · have _w15 := trivial
      have hc16 : Chg [] w2 w15 := hc16
      have hz := hz.chg0 hc16
      have hBb1 := hBb1.chg0 hc16
      have hC := hC.then hc16 (by simp)
      rintro _ rfl
      exact Sv_val rfl (R_load1 rfl rfl agg3 (hBb1.cell rfl)) ⟨Chg.refl _ _, rfl, trivial⟩
    refine ⟨fun w17 hc18 => ?_, ?_⟩
    · have _w17 := trivial
      have hc18 : Chg [] w2 w17 := hc18
      have hz := hz.chg0 hc18
      have hBb1 := hBb1.chg0 hc18
      have hC := hC.then hc18 (by simp)
      rintro _ ⟨Ar5, cr5, rfl, hOr5, hZr5, hBr5⟩ _ rfl
      obtain ⟨hzl, _, hrl⟩ := (hOr5.mono (zle_E _)).lend hz hZr5
      obtain ⟨p_, cs_, hA_, rfl, hc_⟩ := hrl.at_ (0 : Int) (i := a2.Col) (by omega) (by omega)
      exact Sv_val rfl (R_idx rfl rfl hA_ rfl Try.underlying22 size3 (by omega) (by omega)) ⟨Chg.refl _ _, ⟨_, rfl, fun j u hu => cell_add (hzl.cell (hc_ j u hu))⟩, trivial⟩
    refine ⟨fun w19 hc20 => ?_, ?_⟩
    · have _w19 := trivial
      have hc20 : Chg [] w2 w19 := hc20
      have hz := hz.chg0 hc20
      have hBb1 := hBb1.chg0 hc20
      have hC := hC.then hc20 (by simp)
      rintro _ ⟨p4, rfl, hp4⟩
      exact Sv_val rfl (R_load1 rfl rfl agg3 (cell0 (hp4 0 _ rfl))) ⟨Chg.refl _ _, rfl, trivial⟩
    refine ⟨fun w21 hc22 => ?_, ?_⟩
    · have _w21 := trivial
      have hc22 : Chg [] w2 w21 := hc22
      have hz := hz.chg0 hc22
      have hBb1 := hBb1.chg0 hc22
      have hC := hC.then hc22 (by simp)
      exact Sv_val rfl (R_move rfl rfl) ⟨Chg.refl _ _, rfl, trivial⟩
    refine ⟨fun w23 hc24 => ?_, ?_⟩
    · have _w23 := trivial
      have hc24 : Chg [] w2 w23 := hc24
      have hz := hz.chg0 hc24
      have hBb1 := hBb1.chg0 hc24
      have hC := hC.then hc24 (by simp)
      rintro _ rfl _ ⟨Ar5, cr5, rfl, hOr5, hZr5, hBr5⟩
      refine Sv_call rfl rfl rfl ent15 ?_
      refine (rstarts_calls Aa1 ca1 a1 _ _ hz hra1 hca1 (by omega)).mono ?_
      rintro e_ w6 ⟨Ar8, cr8, rfl, hOr8, hc7⟩
      exact ⟨_, rfl, hc7, ⟨Ar8, cr8, rfl, hOr8.lower hC.size, fresh_z hz hOr8.base, newC hOr8.base hc24.size⟩, fun k_ hk_ => ⟨hOr8.base k_ hk_, hOr8.lt k_ hk_⟩⟩
    refine ⟨fun w25 hc26 => ?_, ?_⟩
    · have _w25 := trivial
      have hc26 : Chg [] w2 w25 := hc26
      have hz := hz.chg0 hc26
      have hBb1 := hBb1.chg0 hc26
      have hC := hC.then hc26 (by simp)
      exact Sv_val rfl (R_fld rfl rfl fld30_0) ⟨Chg.refl _ _, rfl, trivial⟩
    refine ⟨fun w27 hc28 => ?_, ?_⟩
    · have _w27 := trivial
      have hc28 : Chg [] w2 w27 := hc28
      have hz := hz.chg0 hc28
      have hBb1 := hBb1.chg0 hc28
      have hC := hC.then hc28 (by simp)
      rintro _ rfl
      exact Sv_val rfl (R_load1 rfl rfl agg3 (hBb1.cell rfl)) ⟨Chg.refl _ _, rfl, trivial⟩
    refine ⟨fun w29 hc30 => ?_, ?_⟩
    · have _w29 := trivial
      have hc30 : Chg [] w2 w29 := hc30
      have hz := hz.chg0 hc30
      have hBb1 := hBb1.chg0 hc30
      have hC := hC.then hc30 (by simp)
      rintro _ ⟨Ar8, cr8, rfl, hOr8, hZr8, hBr8⟩ _ rfl
      obtain ⟨hzl, _, hrl⟩ := (hOr8.mono (zle_E _)).lend hz hZr8
      obtain ⟨p_, cs_, hA_, rfl, hc_⟩ := hrl.at_ (0 : Int) (i := a2.Row) (by omega) (by omega)
      exact Sv_val rfl (R_idx rfl rfl hA_ rfl Try.underlying22 size3 (by omega) (by omega)) ⟨Chg.refl _ _, ⟨_, rfl, fun j u hu => cell_add (hzl.cell (hc_ j u hu))⟩, trivial⟩
    refine ⟨fun w31 hc32 => ?_, ?_⟩
    · have _w31 := trivial
      have hc32 : Chg [] w2 w31 := hc32
      have hz := hz.chg0 hc32
      have hBb1 := hBb1.chg0 hc32
      have hC := hC.then hc32 (by simp)
      rintro _ ⟨p10, rfl, hp10⟩
      exact Sv_val rfl (R_load1 rfl rfl agg3 (cell0 (hp10 0 _ rfl))) ⟨Chg.refl _ _, rfl, trivial⟩
    refine ⟨fun w33 hc34 => ?_, ?_⟩
    · have _w33 := trivial
      have hc34 : Chg [] w2 w33 := hc34
      have hz := hz.chg0 hc34
      have hBb1 := hBb1.chg0 hc34
      have hC := hC.then hc34 (by simp)
      rintro _ rfl _ ⟨Ar8, cr8, rfl, hOr8, hZr8, hBr8⟩ _ rfl _ ⟨Ar5, cr5, rfl, hOr5, hZr5, hBr5⟩ _ rfl _ rfl _ ⟨p4, rfl, hp4⟩ _ rfl
      exact Sv_val rfl (R_assign rfl rfl) ⟨Chg.refl _ _, rfl, trivial⟩
    refine ⟨fun w35 hc36 => ?_, ?_⟩
    · have _w35 := trivial
      have hc36 : Chg [] w2 w35 := hc36
      have hz := hz.chg0 hc36
      have hBb1 := hBb1.chg0 hc36
      have hC := hC.then hc36 (by simp)
      rintro _ rfl _ rfl _ rfl _ ⟨Ar5, cr5, rfl, hOr5, hZr5, hBr5⟩ _ rfl _ rfl _ ⟨p4, rfl, hp4⟩ _ rfl _ rfl _ ⟨Ar8, cr8, rfl, hOr8, hZr8, hBr8⟩ _ rfl _ rfl _ ⟨p10, rfl, hp10⟩ _ rfl _ rfl
      exact Sv_val rfl (R_assign rfl rfl) ⟨Chg.refl _ _, rfl, trivial⟩
    exact trivial
  · intro w37 hc38
    have hc38 : Chg [] w2 w37 := hc38
    have hltb1 := (boxlt hBb1)
    have hz := hz.chg0 hc38
    have hBb1 := hBb1.chg0 hc38
    have hC := hC.then hc38 (by simp)
    rintro _ rfl _ ⟨Ar5, cr5, rfl, hOr5, hZr5, hBr5⟩ _ rfl _ rfl _ ⟨p4, rfl, hp4⟩ _ rfl _ rfl _ ⟨Ar8, cr8, rfl, hOr8, hZr8, hBr8⟩ _ rfl _ rfl _ ⟨p10, rfl, hp10⟩ _ rfl _ rfl _ rfl ⟨⟨hDr8_r5, _⟩, _⟩
    have hNr5 := hOr5.base
    have hmr5 := hOr5.cap.mx
    have hlr5 := hOr5.cap.le
    have hDb1_r5 : ∀ k ∈ [b1], k ∉ blk Ar5 := disj_new hltb1 hBr5
    have hNr8 := hOr8.base
    have hmr8 := hOr8.cap.mx
    have hlr8 := hOr8.cap.le
    have hDb1_r8 : ∀ k ∈ [b1], k ∉ blk Ar8 := disj_new hltb1 hBr8
    refine An_fr [(0, .slice Aa0 a0.length ca0), (1, .slice Aa1 a1.length ca1), (5, .pointer (some ⟨b1, 0, none⟩)), (6, .int .i64 ((startsS a0).getD a2.Col.toNat (0 : Int))), (7, .int .i64 ((startsS a1).getD a2.Row.toNat (0 : Int)))] rfl ?_
    refine An_done (by decide +kernel) ?_
    refine E_then ?_
    refine C_ret ?_
    refine E_ret2 rfl rfl rfl ?_
    exact ⟨Lret2 (Lint (show ((startsS a0).getD a2.Col.toNat (0 : Int)) = (startsS a0).getD a2.Col.toNat 0 by rfl)) (Lint (show ((startsS a1).getD a2.Row.toNat (0 : Int)) = (startsS a1).getD a2.Row.toNat 0 by rfl)), hC⟩

set_option maxHeartbeats 400000 in
set_option maxRecDepth 20000 in
theorem extent_calls (Aa0 : Option Addr) (ca0 : Nat) (a0 : List Int) (Aa1 : Option Addr) (ca1 : Nat) (a1 : List Int) (a2 : TRect) (z : Z) (w : World) (hz : Sub z w) (hra0 : Rd (kint .i64) z Aa0 a0) (hca0 : Cap Aa0 a0.length ca0) (hra1 : Rd (kint .i64) z Aa1 a1) (hca1 : Cap Aa1 a1.length ca1) (p0 : a0.length ≤ 1000) (p1 : a1.length ≤ 1000) (p2 : insideS a0.length a1.length a2 = true) :
    Calls Try.prog 23 #[.slice Aa0 a0.length ca0, .slice Aa1 a1.length ca1, .agg #[.int .i64 a2.Row, .int .i64 a2.Col, .int .i64 a2.Rows, .int .i64 a2.Cols]] w fun e w' => e = .returned (.tuple #[.int .i64 (a2.Cols - 1 + sumC a0 a2.Col.toNat a2.Cols.toNat), .int .i64 (a2.Rows - 1 + sumC a1 a2.Row.toNat a2.Rows.toNat)]) ∧ Chg [] w w' := by
  have hi := inside_of p2
  have hla0 := hca0.le
  have hma0 := hca0.mx
  have hla1 := hca1.le
  have hma1 := hca1.mx
  have hC := Chg.refl [] w
  refine Calls_of (vs := [.slice Aa0 a0.length ca0, .slice Aa1 a1.length ca1, .agg #[.int .i64 a2.Row, .int .i64 a2.Col, .int .i64 a2.Rows, .int .i64 a2.Cols]]) (N := 52) Try.func23 rfl rfl (Nat.le_of_ble_eq_true rfl) ?_
  refine C_seq ?_
  refine C_region ?_
  refine W_cons rfl (by decide) (Sv_box rfl (R_box (cs := [.int .i64 a2.Row, .int .i64 a2.Col, .int .i64 a2.Rows, .int .i64 a2.Cols]) rfl rfl rfl) (fun b1 w2 hcb1 hnb1 hBb1 => ?_))
  have hZb1 : ∀ k ∈ [b1], z k = none := fresh_z hz (boxbase hnb1)
  have hNb1 : ∀ k ∈ [b1], w.heap.size ≤ k := newC (boxbase hnb1) hC.size
  have hz := hz.chg0 hcb1
  have hC := hC.then hcb1 (by simp)
  refine W_cons rfl (by decide) (Sv_val rfl (R_assign rfl rfl) ?_)
  refine W_cons rfl (by decide) (Sv_val rfl (R_assign rfl rfl) ?_)
  refine W_nil ?_
  refine E_then ?_
  refine C_seq ?_
  refine C_fr [(0, .slice Aa0 a0.length ca0), (1, .slice Aa1 a1.length ca1), (5, .pointer (some ⟨b1, 0, none⟩))] rfl ?_
  refine C_drawnX 8 [[], [0], [1], [], [3], [4], [2, 0, 1, 2], [5, 6, 0, 1, 2, 3, 4, 5, 6]] [some 12, some 13, some 14, some 15, some 16, some 17, some 8, some 9] [0, 1, 5] [[], [], [], [], [], [], [], []] [8, 8, 8, 8, 8, 8, 8, 8] [false, false, false, false, false, false, false, false] rfl (by kernel_rfl) (by decide +kernel) [fun v _ => v = .pointer (some ⟨b1, 3, none⟩), fun v _ => v = .int .i64 a2.Cols, fun v _ => v = .int .i64 (a2.Cols - 1), fun v _ => v = .pointer (some ⟨b1, 2, none⟩), fun v _ => v = .int .i64 a2.Rows, fun v _ => v = .int .i64 (a2.Rows - 1), fun v _ => v = .int .i64 (a2.Cols - 1), fun v _ => v = .int .i64 (a2.Rows - 1)] ?_ ?_ ?_
  · exact ⟨fun _ _ _ h _ => h, fun _ _ _ h _ => h, fun _ _ _ h _ => h, fun _ _ _ h _ => h, fun _ _ _ h _ => h, fun _ _ _ h _ => h, fun _ _ _ h _ => h, fun _ _ _ h _ => h, trivial⟩
  · refine ⟨fun w3 hc4 => ?_, ?_⟩
    · have _w3 := trivial
      have hc4 : Chg [] w2 w3 := hc4
      have hz := hz.chg0 hc4
      have hBb1 := hBb1.chg0 hc4
      have hC := hC.then hc4 (by simp)
      exact Sv_val rfl (R_fld rfl rfl fld30_3) ⟨Chg.refl _ _, rfl, trivial⟩
    refine ⟨fun w5 hc6 => ?_, ?_⟩
    · have _w5 := trivial
      have hc6 : Chg [] w2 w5 := hc6
      have hz := hz.chg0 hc6
      have hBb1 := hBb1.chg0 hc6
      have hC := hC.then hc6 (by simp)
      rintro _ rfl
      exact Sv_val rfl (R_load1 rfl rfl agg3 (hBb1.cell rfl)) ⟨Chg.refl _ _, rfl, trivial⟩
    refine ⟨fun w7 hc8 => ?_, ?_⟩
    · have _w7 := trivial
      have hc8 : Chg [] w2 w7 := hc8
      have hz := hz.chg0 hc8
      have hBb1 := hBb1.chg0 hc8
      have hC := hC.then hc8 (by simp)
      rintro _ rfl
      exact Sv_val rfl (R_sub64 rfl rfl rfl (by omega) (by omega)) ⟨Chg.refl _ _, rfl, trivial⟩
    refine ⟨fun w9 hc10 => ?_, ?_⟩
    · have _w9 := trivial
      have hc10 : Chg [] w2 w9 := hc10
      have hz := hz.chg0 hc10
      have hBb1 := hBb1.chg0 hc10
      have hC := hC.then hc10 (by simp)
      exact Sv_val rfl (R_fld rfl rfl fld30_2) ⟨Chg.refl _ _, rfl, trivial⟩
    refine ⟨fun w11 hc12 => ?_, ?_⟩
    · have _w11 := trivial
      have hc12 : Chg [] w2 w11 := hc12
      have hz := hz.chg0 hc12
      have hBb1 := hBb1.chg0 hc12
      have hC := hC.then hc12 (by simp)
      rintro _ rfl
      exact Sv_val rfl (R_load1 rfl rfl agg3 (hBb1.cell rfl)) ⟨Chg.refl _ _, rfl, trivial⟩
    refine ⟨fun w13 hc14 => ?_, ?_⟩
    · have _w13 := trivial
      have hc14 : Chg [] w2 w13 := hc14
      have hz := hz.chg0 hc14
      have hBb1 := hBb1.chg0 hc14
      have hC := hC.then hc14 (by simp)
      rintro _ rfl
      exact Sv_val rfl (R_sub64 rfl rfl rfl (by omega) (by omega)) ⟨Chg.refl _ _, rfl, trivial⟩
    refine ⟨fun w15 hc16 => ?_, ?_⟩
    · have _w15 := trivial
      have hc16 : Chg [] w2 w15 := hc16
      have hz := hz.chg0 hc16
      have hBb1 := hBb1.chg0 hc16
      have hC := hC.then hc16 (by simp)
      rintro _ rfl _ rfl _ rfl _ rfl
      exact Sv_val rfl (R_assign rfl rfl) ⟨Chg.refl _ _, rfl, trivial⟩
    refine ⟨fun w17 hc18 => ?_, ?_⟩
    · have _w17 := trivial
      have hc18 : Chg [] w2 w17 := hc18
      have hz := hz.chg0 hc18
      have hBb1 := hBb1.chg0 hc18
      have hC := hC.then hc18 (by simp)
      rintro _ rfl _ rfl _ rfl _ rfl _ rfl _ rfl _ rfl _ rfl _ rfl
      exact Sv_val rfl (R_assign rfl rfl) ⟨Chg.refl _ _, rfl, trivial⟩
    exact trivial
  · intro w19 hc20
    have hc20 : Chg [] w2 w19 := hc20
    have hltb1 := (boxlt hBb1)
    have hz := hz.chg0 hc20
    have hBb1 := hBb1.chg0 hc20
    have hC := hC.then hc20 (by simp)
    rintro _ rfl _ rfl _ rfl _ rfl _ rfl _ rfl _ rfl _ rfl _
    refine An_fr [(0, .slice Aa0 a0.length ca0), (1, .slice Aa1 a1.length ca1), (5, .pointer (some ⟨b1, 0, none⟩)), (8, .int .i64 (a2.Cols - 1)), (9, .int .i64 (a2.Rows - 1))] rfl ?_
    refine An_done (by decide +kernel) ?_
    refine E_then ?_
    refine C_seq ?_
    refine C_seq ?_
    refine C_region ?_
    refine W_cons rfl (by decide) (Sv_val rfl (R_assign rfl rfl) ?_)
    refine W_nil ?_
    refine E_then ?_
    refine C_block ?_
    have hs22 : a2.Cols - 1 = a2.Cols - 1 + sumC a0 a2.Col.toNat (0 : Nat) := by simp [sumC]
    refine C_fr [(0, .slice Aa0 a0.length ca0), (1, .slice Aa1 a1.length ca1), (5, .pointer (some ⟨b1, 0, none⟩)), (8, .int .i64 (a2.Cols - 1 + sumC a0 a2.Col.toNat (0 : Nat))), (9, .int .i64 (a2.Rows - 1)), (10, .int .i64 0)] (by rw [← hs22]; rfl) ?_
    refine C_loop (fun m_ f_ w_ => ∃ (i : Nat), f_ = [(0, .slice Aa0 a0.length ca0), (1, .slice Aa1 a1.length ca1), (5, .pointer (some ⟨b1, 0, none⟩)), (8, .int .i64 (a2.Cols - 1 + sumC a0 a2.Col.toNat i)), (9, .int .i64 (a2.Rows - 1)), (10, .int .i64 (i : Int))] ∧ (i : Int) ≤ a2.Cols ∧ m_ = a2.Cols.toNat - i ∧ Sub z w_ ∧ Chg [] w w_ ∧ Box w_ b1 30 [.int .i64 a2.Row, .int .i64 a2.Col, .int .i64 a2.Rows, .int .i64 a2.Cols]) (a2.Cols.toNat - 0) ?_ ?_
    · exact ⟨0, rfl, (by omega), rfl, hz, hC, hBb1⟩
    · rintro m_ f_ w21 ⟨i, rfl, hI0_0, rfl, hz, hC, hBb1⟩
      have hsb := sumC_bd a0 a2.Col.toNat i
      have hcb := cut_bd (a0.getD (a2.Col + (i : Int)).toNat 0)
      refine C_seq ?_
      refine C_seq ?_
      refine C_region ?_
      refine W_cons rfl (by decide) (Sv_val rfl (R_move rfl rfl) ?_)
      refine W_cons rfl (by decide) (Sv_val rfl (R_fld rfl rfl fld30_3) ?_)
      refine W_cons rfl (by decide) (Sv_val rfl (R_load1 rfl rfl agg3 (hBb1.cell rfl)) ?_)
      refine W_cons rfl (by decide) (Sv_val rfl (R_bin rfl rfl rfl rfl rfl) ?_)
      refine W_nil ?_
      refine E_then ?_
      refine C_ite rfl (fun hC0 => ?_) (fun hC0 => ?_)
      · have _hC0 := trivial
        have hC0p : (i : Int) < a2.Cols := by simpa using hC0
        refine C_skip ?_
        refine E_then ?_
        refine C_seq ?_
        refine C_block ?_
        refine C_region ?_
        refine W_cons rfl (by decide) (Sv_val rfl (R_move rfl rfl) ?_)
        refine W_cons rfl (by decide) (Sv_val rfl (R_move rfl rfl) ?_)
        refine W_cons rfl (by decide) (Sv_val rfl (R_fld rfl rfl fld30_1) ?_)
        refine W_cons rfl (by decide) (Sv_val rfl (R_load1 rfl rfl agg3 (hBb1.cell rfl)) ?_)
        refine W_cons rfl (by decide) (Sv_val rfl (R_move rfl rfl) ?_)
        refine W_cons rfl (by decide) (Sv_val rfl (R_add64 rfl rfl rfl (by omega) (by omega)) ?_)
        obtain ⟨q23, csq23, hAq23, rfl, hcq23⟩ := hra0.at_ (0 : Int) (i := (a2.Col + (i : Int))) (by omega) (by omega)
        refine W_cons rfl (by decide) (Sv_val rfl (R_idx rfl rfl hAq23 rfl Try.underlying22 size3 (by omega) (by omega)) ?_)
        refine W_cons rfl (by decide) (Sv_val rfl (R_load1 rfl rfl agg3 (hz.cell (hcq23 0 _ rfl))) ?_)
        refine W_cons rfl (by decide) (Sv_call rfl rfl rfl ent39 ?_)
        refine (rsize_calls (a0.getD (a2.Col + (i : Int)).toNat (0 : Int))  _   ).mono ?_
        rintro e_ w24 ⟨rfl, hc25⟩
        refine ⟨_, rfl, ?_⟩
        have hz := hz.chg0 hc25
        have hBb1 := hBb1.chg0 hc25
        have hC := hC.then hc25 (by simp)
        refine W_cons rfl (by decide) (Sv_val rfl (R_add64 rfl rfl rfl (by omega) (by omega)) ?_)
        refine W_cons rfl (by decide) (Sv_val rfl (R_assign rfl rfl) ?_)
        refine W_nil ?_
        refine E_block_normal ?_
        refine E_then (C_fr [(0, .slice Aa0 a0.length ca0), (1, .slice Aa1 a1.length ca1), (5, .pointer (some ⟨b1, 0, none⟩)), (8, .int .i64 ((a2.Cols - 1 + sumC a0 a2.Col.toNat i) + (cutS (a0.getD (a2.Col + (i : Int)).toNat (0 : Int))))), (9, .int .i64 (a2.Rows - 1)), (10, .int .i64 (i : Int))] rfl ?_)
        refine C_region ?_
        refine W_cons rfl (by decide) (Sv_val rfl (R_move rfl rfl) ?_)
        refine W_cons rfl (by decide) (Sv_val rfl (R_add64 rfl rfl rfl (by omega) (by omega)) ?_)
        refine W_cons rfl (by decide) (Sv_val rfl (R_assign rfl rfl) ?_)
        refine W_nil ?_
        have hs26 : (a2.Cols - 1 + sumC a0 a2.Col.toNat i) + (cutS (a0.getD (a2.Col + (i : Int)).toNat (0 : Int))) = a2.Cols - 1 + sumC a0 a2.Col.toNat (i + 1 : Nat) := by rw [show (a2.Col + (i : Int)).toNat = a2.Col.toNat + i from by omega]; simp only [sumC]; omega
        refine E_round [0, 1, 5, 8, 9, 10] ?_ ⟨(i + 1), (by rw [← hs26]; rfl), (by omega), rfl, hz, hC, hBb1⟩
        omega
      · have _hC0 := trivial
        have hC0p : ¬ ((i : Int) < a2.Cols) := by simpa using hC0
        refine C_exit ?_
        refine E_then_exit ?_
        refine E_then_exit ?_
        refine E_block_hit ?_
        refine E_then (C_fr [(1, .slice Aa1 a1.length ca1), (5, .pointer (some ⟨b1, 0, none⟩)), (8, .int .i64 (a2.Cols - 1 + sumC a0 a2.Col.toNat i)), (9, .int .i64 (a2.Rows - 1))] rfl ?_)
        refine C_seq ?_
        refine C_seq ?_
        refine C_region ?_
        refine W_cons rfl (by decide) (Sv_val rfl (R_assign rfl rfl) ?_)
        refine W_nil ?_
        refine E_then ?_
        refine C_block ?_
        have hs28 : a2.Rows - 1 = a2.Rows - 1 + sumC a1 a2.Row.toNat (0 : Nat) := by simp [sumC]
        refine C_fr [(1, .slice Aa1 a1.length ca1), (5, .pointer (some ⟨b1, 0, none⟩)), (8, .int .i64 (a2.Cols - 1 + sumC a0 a2.Col.toNat i)), (9, .int .i64 (a2.Rows - 1 + sumC a1 a2.Row.toNat (0 : Nat))), (11, .int .i64 0)] (by rw [← hs28]; rfl) ?_
        refine C_loop (fun m_ f_ w_ => ∃ (j : Nat), f_ = [(1, .slice Aa1 a1.length ca1), (5, .pointer (some ⟨b1, 0, none⟩)), (8, .int .i64 (a2.Cols - 1 + sumC a0 a2.Col.toNat i)), (9, .int .i64 (a2.Rows - 1 + sumC a1 a2.Row.toNat j)), (11, .int .i64 (j : Int))] ∧ (j : Int) ≤ a2.Rows ∧ m_ = a2.Rows.toNat - j ∧ Sub z w_ ∧ Chg [] w w_ ∧ Box w_ b1 30 [.int .i64 a2.Row, .int .i64 a2.Col, .int .i64 a2.Rows, .int .i64 a2.Cols]) (a2.Rows.toNat - 0) ?_ ?_
        · exact ⟨0, rfl, (by omega), rfl, hz, hC, hBb1⟩
        · rintro m_ f_ w27 ⟨j, rfl, hI1_0, rfl, hz, hC, hBb1⟩
          have hsb := sumC_bd a1 a2.Row.toNat j
          have hcb := cut_bd (a1.getD (a2.Row + (j : Int)).toNat 0)
          refine C_seq ?_
          refine C_seq ?_
          refine C_region ?_
          refine W_cons rfl (by decide) (Sv_val rfl (R_move rfl rfl) ?_)
          refine W_cons rfl (by decide) (Sv_val rfl (R_fld rfl rfl fld30_2) ?_)
          refine W_cons rfl (by decide) (Sv_val rfl (R_load1 rfl rfl agg3 (hBb1.cell rfl)) ?_)
          refine W_cons rfl (by decide) (Sv_val rfl (R_bin rfl rfl rfl rfl rfl) ?_)
          refine W_nil ?_
          refine E_then ?_
          refine C_ite rfl (fun hC1 => ?_) (fun hC1 => ?_)
          · have _hC1 := trivial
            have hC1p : (j : Int) < a2.Rows := by simpa using hC1
            refine C_skip ?_
            refine E_then ?_
            refine C_seq ?_
            refine C_block ?_
            refine C_region ?_
            refine W_cons rfl (by decide) (Sv_val rfl (R_move rfl rfl) ?_)
            refine W_cons rfl (by decide) (Sv_val rfl (R_move rfl rfl) ?_)
            refine W_cons rfl (by decide) (Sv_val rfl (R_fld rfl rfl fld30_0) ?_)
            refine W_cons rfl (by decide) (Sv_val rfl (R_load1 rfl rfl agg3 (hBb1.cell rfl)) ?_)
            refine W_cons rfl (by decide) (Sv_val rfl (R_move rfl rfl) ?_)
            refine W_cons rfl (by decide) (Sv_val rfl (R_add64 rfl rfl rfl (by omega) (by omega)) ?_)
            obtain ⟨q29, csq29, hAq29, rfl, hcq29⟩ := hra1.at_ (0 : Int) (i := (a2.Row + (j : Int))) (by omega) (by omega)
            refine W_cons rfl (by decide) (Sv_val rfl (R_idx rfl rfl hAq29 rfl Try.underlying22 size3 (by omega) (by omega)) ?_)
            refine W_cons rfl (by decide) (Sv_val rfl (R_load1 rfl rfl agg3 (hz.cell (hcq29 0 _ rfl))) ?_)
            refine W_cons rfl (by decide) (Sv_call rfl rfl rfl ent39 ?_)
            refine (rsize_calls (a1.getD (a2.Row + (j : Int)).toNat (0 : Int))  _   ).mono ?_
            rintro e_ w30 ⟨rfl, hc31⟩
            refine ⟨_, rfl, ?_⟩
            have hz := hz.chg0 hc31
            have hBb1 := hBb1.chg0 hc31
            have hC := hC.then hc31 (by simp)
            refine W_cons rfl (by decide) (Sv_val rfl (R_add64 rfl rfl rfl (by omega) (by omega)) ?_)
            refine W_cons rfl (by decide) (Sv_val rfl (R_assign rfl rfl) ?_)
            refine W_nil ?_
            refine E_block_normal ?_
            refine E_then (C_fr [(1, .slice Aa1 a1.length ca1), (5, .pointer (some ⟨b1, 0, none⟩)), (8, .int .i64 (a2.Cols - 1 + sumC a0 a2.Col.toNat i)), (9, .int .i64 ((a2.Rows - 1 + sumC a1 a2.Row.toNat j) + (cutS (a1.getD (a2.Row + (j : Int)).toNat (0 : Int))))), (11, .int .i64 (j : Int))] rfl ?_)
            refine C_region ?_
            refine W_cons rfl (by decide) (Sv_val rfl (R_move rfl rfl) ?_)
            refine W_cons rfl (by decide) (Sv_val rfl (R_add64 rfl rfl rfl (by omega) (by omega)) ?_)
            refine W_cons rfl (by decide) (Sv_val rfl (R_assign rfl rfl) ?_)
            refine W_nil ?_
            have hs32 : (a2.Rows - 1 + sumC a1 a2.Row.toNat j) + (cutS (a1.getD (a2.Row + (j : Int)).toNat (0 : Int))) = a2.Rows - 1 + sumC a1 a2.Row.toNat (j + 1 : Nat) := by rw [show (a2.Row + (j : Int)).toNat = a2.Row.toNat + j from by omega]; simp only [sumC]; omega
            refine E_round [1, 5, 8, 9, 11] ?_ ⟨(j + 1), (by rw [← hs32]; rfl), (by omega), rfl, hz, hC, hBb1⟩
            omega
          · have _hC1 := trivial
            have hC1p : ¬ ((j : Int) < a2.Rows) := by simpa using hC1
            refine C_exit ?_
            refine E_then_exit ?_
            refine E_then_exit ?_
            refine E_block_hit ?_
            refine E_then (C_fr [(8, .int .i64 (a2.Cols - 1 + sumC a0 a2.Col.toNat i)), (9, .int .i64 (a2.Rows - 1 + sumC a1 a2.Row.toNat j))] rfl ?_)
            refine C_seq ?_
            refine C_region ?_
            refine W_cons rfl (by decide) (Sv_val rfl (R_move rfl rfl) ?_)
            refine W_cons rfl (by decide) (Sv_val rfl (R_move rfl rfl) ?_)
            refine W_cons rfl (by decide) (Sv_val rfl (R_assign rfl rfl) ?_)
            refine W_cons rfl (by decide) (Sv_val rfl (R_assign rfl rfl) ?_)
            refine W_nil ?_
            refine E_then ?_
            refine C_ret ?_
            refine E_ret2 rfl rfl rfl ?_
            exact ⟨Lret2 (Lint (show a2.Cols - 1 + sumC a0 a2.Col.toNat i = a2.Cols - 1 + sumC a0 a2.Col.toNat a2.Cols.toNat by rw [show a2.Cols.toNat = i from by omega])) (Lint (show a2.Rows - 1 + sumC a1 a2.Row.toNat j = a2.Rows - 1 + sumC a1 a2.Row.toNat a2.Rows.toNat by rw [show a2.Rows.toNat = j from by omega])), hC⟩

set_option maxHeartbeats 400000 in
set_option maxRecDepth 20000 in
theorem found_calls (a0 : Int) (a1 : Int) (a2 : Int) (Aa3 : Option Addr) (ca3 : Nat) (a3 : List Int) (z : Z) (w : World) (hz : Sub z w) (hra3 : Rd (kint .i64) z Aa3 a3) (hca3 : Cap Aa3 a3.length ca3) (p0 : a3.length ≤ 1000000) (p1 : -9223372036854775808 ≤ a0) :
    Calls Try.prog 37 #[.int .i64 a0, .int .i64 a1, .int .i64 a2, .slice Aa3 a3.length ca3] w fun e w' => e = .returned (.bool (decide ((findS a3 a0).1 = a1 ∧ (findS a3 a0).2 = a2))) ∧ Chg [] w w' := by
  have hla3 := hca3.le
  have hma3 := hca3.mx
  have hC := Chg.refl [] w
  refine Calls_of (vs := [.int .i64 a0, .int .i64 a1, .int .i64 a2, .slice Aa3 a3.length ca3]) (N := 25) Try.func37 rfl rfl (Nat.le_of_ble_eq_true rfl) ?_
  refine C_seq ?_
  refine C_region ?_
  refine W_cons rfl (by decide) (Sv_val rfl (R_assign rfl rfl) ?_)
  refine W_nil ?_
  refine E_then ?_
  refine C_seq ?_
  refine C_region ?_
  refine W_cons rfl (by decide) (Sv_val rfl (R_move rfl rfl) ?_)
  refine W_cons rfl (by decide) (Sv_val rfl (R_move rfl rfl) ?_)
  refine W_cons rfl (by decide) (Sv_call rfl rfl rfl ent17 ?_)
  refine (find_calls Aa3 ca3 a3 a0 _ _ hz hra3 hca3 (by omega) (by omega)).mono ?_
  rintro e_ w1 ⟨rfl, hc2⟩
  refine ⟨_, rfl, ?_⟩
  have hz := hz.chg0 hc2
  have hC := hC.then hc2 (by simp)
  refine W_cons rfl (by decide) (Sv_val rfl (R_move rfl rfl) ?_)
  refine W_cons rfl (by decide) (Sv_val rfl (R_extract rfl rfl rfl) ?_)
  refine W_cons rfl (by decide) (Sv_val rfl (R_extract rfl rfl rfl) ?_)
  refine W_cons rfl (by decide) (Sv_val rfl (R_assign rfl rfl) ?_)
  refine W_cons rfl (by decide) (Sv_val rfl (R_assign rfl rfl) ?_)
  refine W_nil ?_
  refine E_then (C_fr [(1, .int .i64 a1), (2, .int .i64 a2), (9, .int .i64 ((findS a3 a0).1)), (10, .int .i64 ((findS a3 a0).2))] rfl ?_)
  refine C_seq ?_
  refine C_region ?_
  refine W_cons rfl (by decide) (Sv_val rfl (R_move rfl rfl) ?_)
  refine W_cons rfl (by decide) (Sv_val rfl (R_move rfl rfl) ?_)
  refine W_cons rfl (by decide) (Sv_val rfl (R_bin rfl rfl rfl rfl rfl) ?_)
  refine W_cons rfl (by decide) (Sv_val rfl (R_move rfl rfl) ?_)
  refine W_split (t := 20) rfl (fun hg3 => ?_) (fun hg3 => ?_)
  · have _hg3 := trivial
    have hg3p : ((findS a3 a0).1) = a1 := by simpa using hg3
    refine W_cons rfl (by decide) (Sv_gt rfl rfl rfl hg3 (Sv_val rfl (R_move rfl rfl) ?_))
    refine W_cons rfl (by decide) (Sv_gt rfl rfl rfl hg3 (Sv_val rfl (R_move rfl rfl) ?_))
    refine W_cons rfl (by decide) (Sv_gt rfl rfl rfl hg3 (Sv_val rfl (R_bin rfl rfl rfl rfl rfl) ?_))
    refine W_cons rfl (by decide) (Sv_val rfl (R_pick_t rfl rfl hg3 rfl) ?_)
    refine W_cons rfl (by decide) (Sv_val rfl (R_assign rfl rfl) ?_)
    refine W_nil ?_
    refine E_then (C_fr [(8, .bool (((findS a3 a0).2) == a2))] rfl ?_)
    refine C_ret ?_
    refine E_ret1 rfl rfl ?_
    exact ⟨Lret1 (Lbool (show (((findS a3 a0).2) == a2) = decide ((findS a3 a0).1 = a1 ∧ (findS a3 a0).2 = a2) by rw [Bool.eq_iff_iff]; simp; omega)), hC⟩
  · have _hg3 := trivial
    have hg3p : ¬ (((findS a3 a0).1) = a1) := by simpa using hg3
    refine W_cons rfl (by decide) (Sv_off rfl rfl rfl (by rw [hg3]; rfl) ?_)
    refine W_cons rfl (by decide) (Sv_off rfl rfl rfl (by rw [hg3]; rfl) ?_)
    refine W_cons rfl (by decide) (Sv_off rfl rfl rfl (by rw [hg3]; rfl) ?_)
    refine W_cons rfl (by decide) (Sv_val rfl (R_pick_f rfl rfl hg3 rfl) ?_)
    refine W_cons rfl (by decide) (Sv_val rfl (R_assign rfl rfl) ?_)
    refine W_nil ?_
    refine E_then (C_fr [(8, .bool false)] rfl ?_)
    refine C_ret ?_
    refine E_ret1 rfl rfl ?_
    exact ⟨Lret1 (Lbool (show false = decide ((findS a3 a0).1 = a1 ∧ (findS a3 a0).2 = a2) by rw [Bool.eq_iff_iff]; simp; omega)), hC⟩

set_option maxHeartbeats 4000000 in
set_option maxRecDepth 20000 in
theorem awake_calls  (w : World)   :
    Calls Try.prog 12 #[] w fun e w' => e = .returned (.bool true) ∧ Chg [] w w' := by
  have hC := Chg.refl [] w
  refine Calls_of (vs := []) (N := 84) Try.func12 rfl rfl (Nat.le_of_ble_eq_true rfl) ?_
  refine C_seq ?_
  refine C_region ?_
  refine W_cons rfl (by decide) (Sv_val rfl (R_assign rfl rfl) ?_)
  refine W_nil ?_
  refine E_then ?_
  refine C_seq ?_
  refine C_region ?_
  refine W_cons rfl (by decide) (Sv_row (d := (kint .i64)) (z := zE) ([3, 2] : List Int) rfl (R_buildSlice (ps := [(0, (.const (.int .i64 3))), (1, (.const (.int .i64 2)))]) (vs := [.int .i64 3, .int .i64 2]) (w' := w.alloc (.cells [.int .i64 3, .int .i64 2].toArray 3)) (r := .slice (some ⟨w.heap.size, 0, none⟩) 2 2) rfl rfl rfl (by kernel_rfl)) (by simp [Reps, flat, kint]) rfl (by decide) (fun g1 w2 hcg1 hng1 hOg1 => ?_))
  have hOg1 := hOg1.lower hng1
  have hNg1 : ∀ k ∈ blk (some ⟨g1, 0, none⟩), w.heap.size ≤ k := newC hOg1.base hC.size
  have hOg1 := hOg1.lower hC.size
  have hC := hC.then hcg1 (by simp)
  have hmg1 := hOg1.cap.mx
  have hlg1 := hOg1.cap.le
  have hz := Sub.E w2
  have hZg1 : ∀ k ∈ blk (some ⟨g1, 0, none⟩), zE k = none := fun _ _ => rfl
  obtain ⟨z3, hz, hleg1, hrg1, hng1⟩ := (hOg1.mono (zle_E _)).freeze hz hZg1
  have hcpg1 := hOg1.cap
  refine W_cons rfl (by decide) (Sv_row (d := (kint .i64)) (z := zE) ([1, 1] : List Int) rfl (R_buildSlice (ps := [(0, (.const (.int .i64 1))), (1, (.const (.int .i64 1)))]) (vs := [.int .i64 1, .int .i64 1]) (w' := w2.alloc (.cells [.int .i64 1, .int .i64 1].toArray 3)) (r := .slice (some ⟨w2.heap.size, 0, none⟩) 2 2) rfl rfl rfl (by kernel_rfl)) (by simp [Reps, flat, kint]) rfl (by decide) (fun g4 w5 hcg4 hng4 hOg4 => ?_))
  have hOg4 := hOg4.lower hng4
  have hZg4 : ∀ k ∈ blk (some ⟨g4, 0, none⟩), z3 k = none := fresh_z hz hOg4.base
  have hNg4 : ∀ k ∈ blk (some ⟨g4, 0, none⟩), w.heap.size ≤ k := newC hOg4.base hC.size
  have hOg4 := hOg4.lower hC.size
  have hz := hz.chg0 hcg4
  have hC := hC.then hcg4 (by simp)
  have hmg4 := hOg4.cap.mx
  have hlg4 := hOg4.cap.le
  obtain ⟨z6, hz, hleg4, hrg4, hng4⟩ := (hOg4.mono (zle_E _)).freeze hz hZg4
  have hcpg4 := hOg4.cap
  have hrg1 := hrg1.mono hleg4
  refine W_cons rfl (by decide) (Sv_val rfl (R_assign rfl rfl) ?_)
  refine W_cons rfl (by decide) (Sv_val rfl (R_assign rfl rfl) ?_)
  refine W_nil ?_
  refine E_then ?_
  refine C_seq ?_
  refine C_region ?_
  refine W_cons rfl (by decide) (Sv_val rfl (R_move rfl rfl) ?_)
  refine W_cons rfl (by decide) (Sv_val rfl (R_move rfl rfl) ?_)
  refine W_cons rfl (by decide) (Sv_val rfl (R_build (w' := w5) (ps := [(0, (.const (.int .i64 1))), (1, (.const (.int .i64 1))), (2, (.const (.int .i64 1))), (3, (.const (.int .i64 1)))]) (vs := [.int .i64 1, .int .i64 1, .int .i64 1, .int .i64 1]) (r := .agg #[.int .i64 1, .int .i64 1, .int .i64 1, .int .i64 1]) rfl rfl rfl (by kernel_rfl)) ?_)
  refine W_cons rfl (by decide) (Sv_call rfl rfl rfl ent19 ?_)
  refine (corner_calls (some ⟨g1, 0, none⟩) 2 ([3, 2] : List Int) (some ⟨g4, 0, none⟩) 2 ([1, 1] : List Int) (⟨1, 1, 1, 1⟩ : TRect) _ _ hz hrg1 hcpg1 hrg4 hcpg4 (by decide +kernel) (by decide +kernel)).mono ?_
  rintro e_ w7 ⟨rfl, hc8⟩
  refine ⟨_, rfl, ?_⟩
  have hz := hz.chg0 hc8
  have hC := hC.then hc8 (by simp)
  refine W_cons rfl (by decide) (Sv_val rfl (R_move rfl rfl) ?_)
  refine W_cons rfl (by decide) (Sv_val rfl (R_extract rfl rfl rfl) ?_)
  refine W_cons rfl (by decide) (Sv_val rfl (R_extract rfl rfl rfl) ?_)
  refine W_cons rfl (by decide) (Sv_val rfl (R_assign rfl rfl) ?_)
  refine W_cons rfl (by decide) (Sv_val rfl (R_assign rfl rfl) ?_)
  refine W_nil ?_
  refine E_then (C_fr [(1, .slice (some ⟨g1, 0, none⟩) ([3, 2] : List Int).length 2), (2, .slice (some ⟨g4, 0, none⟩) ([1, 1] : List Int).length 2), (3, .complex .f64 (((cornerS ([3, 2] : List Int) ([1, 1] : List Int) (⟨1, 1, 1, 1⟩ : TRect)).1).re).bits (((cornerS ([3, 2] : List Int) ([1, 1] : List Int) (⟨1, 1, 1, 1⟩ : TRect)).1).im).bits), (4, .int .i64 ((cornerS ([3, 2] : List Int) ([1, 1] : List Int) (⟨1, 1, 1, 1⟩ : TRect)).2))] rfl ?_)
  refine C_seq ?_
  refine C_region ?_
  refine W_cons rfl (by decide) (Sv_val rfl (R_move rfl rfl) ?_)
  refine W_cons rfl (by decide) (Sv_val rfl (R_move rfl rfl) ?_)
  refine W_cons rfl (by decide) (Sv_val rfl (R_build (w' := w7) (ps := [(2, (.const (.int .i64 1))), (3, (.const (.int .i64 2)))]) (vs := [.int .i64 1, .int .i64 2]) (r := .agg #[.int .i64 0, .int .i64 0, .int .i64 1, .int .i64 2]) rfl rfl rfl (by kernel_rfl)) ?_)
  refine W_cons rfl (by decide) (Sv_call rfl rfl rfl ent20 ?_)
  refine (size_calls (some ⟨g1, 0, none⟩) 2 ([3, 2] : List Int) (some ⟨g4, 0, none⟩) 2 ([1, 1] : List Int) (⟨0, 0, 1, 2⟩ : TRect) _ _ hz hrg1 hcpg1 hrg4 hcpg4 (by decide +kernel) (by decide +kernel)).mono ?_
  rintro e_ w9 ⟨rfl, hc10⟩
  refine ⟨_, rfl, ?_⟩
  have hz := hz.chg0 hc10
  have hC := hC.then hc10 (by simp)
  refine W_cons rfl (by decide) (Sv_val rfl (R_move rfl rfl) ?_)
  refine W_cons rfl (by decide) (Sv_val rfl (R_extract rfl rfl rfl) ?_)
  refine W_cons rfl (by decide) (Sv_val rfl (R_extract rfl rfl rfl) ?_)
  refine W_cons rfl (by decide) (Sv_val rfl (R_assign rfl rfl) ?_)
  refine W_cons rfl (by decide) (Sv_val rfl (R_assign rfl rfl) ?_)
  refine W_nil ?_
  refine E_then (C_fr [(1, .slice (some ⟨g1, 0, none⟩) ([3, 2] : List Int).length 2), (3, .complex .f64 (((cornerS ([3, 2] : List Int) ([1, 1] : List Int) (⟨1, 1, 1, 1⟩ : TRect)).1).re).bits (((cornerS ([3, 2] : List Int) ([1, 1] : List Int) (⟨1, 1, 1, 1⟩ : TRect)).1).im).bits), (4, .int .i64 ((cornerS ([3, 2] : List Int) ([1, 1] : List Int) (⟨1, 1, 1, 1⟩ : TRect)).2)), (5, .complex .f64 (((sizeS ([3, 2] : List Int) ([1, 1] : List Int) (⟨0, 0, 1, 2⟩ : TRect)).1).re).bits (((sizeS ([3, 2] : List Int) ([1, 1] : List Int) (⟨0, 0, 1, 2⟩ : TRect)).1).im).bits), (6, .int .i64 ((sizeS ([3, 2] : List Int) ([1, 1] : List Int) (⟨0, 0, 1, 2⟩ : TRect)).2))] rfl ?_)
  refine C_seq ?_
  refine C_region ?_
  refine W_cons rfl (by decide) (Sv_val rfl (R_move rfl rfl) ?_)
  refine W_cons rfl (by decide) (Sv_call rfl rfl rfl ent14 ?_)
  refine (starts_calls (some ⟨g1, 0, none⟩) 2 ([3, 2] : List Int) _ _ hz hrg1 hcpg1 (by decide +kernel)).mono ?_
  rintro e_ w11 ⟨Ar13, cr13, rfl, hOr13, hc12⟩
  refine ⟨_, rfl, ?_⟩
  have hZr13 : ∀ k ∈ blk Ar13, z6 k = none := fresh_z hz hOr13.base
  have hNr13 : ∀ k ∈ blk Ar13, w.heap.size ≤ k := newC hOr13.base hC.size
  have hOr13 := hOr13.lower hC.size
  have hz := hz.chg0 hc12
  have hC := hC.then hc12 (by simp)
  have hmr13 := hOr13.cap.mx
  have hlr13 := hOr13.cap.le
  obtain ⟨z14, hz, hler13, hrr13, hnr13⟩ := (hOr13.mono (zle_E _)).freeze hz hZr13
  have hcpr13 := hOr13.cap
  have hrg1 := hrg1.mono hler13
  refine W_cons rfl (by decide) (Sv_row (d := (kint .i64)) (z := zE) ([1, 5, 8] : List Int) rfl (R_buildSlice (ps := [(0, (.const (.int .i64 1))), (1, (.const (.int .i64 5))), (2, (.const (.int .i64 8)))]) (vs := [.int .i64 1, .int .i64 5, .int .i64 8]) (w' := w11.alloc (.cells [.int .i64 1, .int .i64 5, .int .i64 8].toArray 3)) (r := .slice (some ⟨w11.heap.size, 0, none⟩) 3 3) rfl rfl rfl (by kernel_rfl)) (by simp [Reps, flat, kint]) rfl (by decide) (fun g15 w16 hcg15 hng15 hOg15 => ?_))
  have hOg15 := hOg15.lower hng15
  have hZg15 : ∀ k ∈ blk (some ⟨g15, 0, none⟩), z14 k = none := fresh_z hz hOg15.base
  have hNg15 : ∀ k ∈ blk (some ⟨g15, 0, none⟩), w.heap.size ≤ k := newC hOg15.base hC.size
  have hOg15 := hOg15.lower hC.size
  have hz := hz.chg0 hcg15
  have hC := hC.then hcg15 (by simp)
  have hmg15 := hOg15.cap.mx
  have hlg15 := hOg15.cap.le
  obtain ⟨z17, hz, hleg15, hrg15, hng15⟩ := (hOg15.mono (zle_E _)).freeze hz hZg15
  have hcpg15 := hOg15.cap
  have hrg1 := hrg1.mono hleg15
  have hrr13 := hrr13.mono hleg15
  refine W_cons rfl (by decide) (Sv_call rfl rfl rfl ent13 ?_)
  refine (same_calls Ar13 cr13 (startsS ([3, 2] : List Int)) (some ⟨g15, 0, none⟩) 3 ([1, 5, 8] : List Int) _ _ hz hrr13 hcpr13 hrg15 hcpg15 ).mono ?_
  rintro e_ w18 ⟨rfl, hc19⟩
  refine ⟨_, rfl, ?_⟩
  have hz := hz.chg0 hc19
  have hC := hC.then hc19 (by simp)
  refine W_cons rfl (by decide) (Sv_val rfl (R_move rfl rfl) ?_)
  have hk20 : (decide ((startsS ([3, 2] : List Int)) = ([1, 5, 8] : List Int))) = true := by decide +kernel
  refine W_cons rfl (by decide) (Sv_gt rfl rfl rfl hk20 (Sv_call rfl rfl rfl ent14 ?_))
  refine (starts_calls none 0 [] _ _ hz (Rd.nil _ _ _) Cap.nil_ (by decide +kernel)).mono ?_
  rintro e_ w21 ⟨Ar23, cr23, rfl, hOr23, hc22⟩
  refine ⟨_, rfl, ?_⟩
  have hZr23 : ∀ k ∈ blk Ar23, z17 k = none := fresh_z hz hOr23.base
  have hNr23 : ∀ k ∈ blk Ar23, w.heap.size ≤ k := newC hOr23.base hC.size
  have hOr23 := hOr23.lower hC.size
  have hz := hz.chg0 hc22
  have hC := hC.then hc22 (by simp)
  have hmr23 := hOr23.cap.mx
  have hlr23 := hOr23.cap.le
  obtain ⟨z24, hz, hler23, hrr23, hnr23⟩ := (hOr23.mono (zle_E _)).freeze hz hZr23
  have hcpr23 := hOr23.cap
  have hrg1 := hrg1.mono hler23
  have hrr13 := hrr13.mono hler23
  have hrg15 := hrg15.mono hler23
  refine W_cons rfl (by decide) (Sv_gt rfl rfl rfl hk20 (Sv_row (d := (kint .i64)) (z := zE) ([1] : List Int) rfl (R_buildSlice (ps := [(0, (.const (.int .i64 1)))]) (vs := [.int .i64 1]) (w' := w21.alloc (.cells [.int .i64 1].toArray 3)) (r := .slice (some ⟨w21.heap.size, 0, none⟩) 1 1) rfl rfl rfl (by kernel_rfl)) (by simp [Reps, flat, kint]) rfl (by decide) (fun g25 w26 hcg25 hng25 hOg25 => ?_)))
  have hOg25 := hOg25.lower hng25
  have hZg25 : ∀ k ∈ blk (some ⟨g25, 0, none⟩), z24 k = none := fresh_z hz hOg25.base
  have hNg25 : ∀ k ∈ blk (some ⟨g25, 0, none⟩), w.heap.size ≤ k := newC hOg25.base hC.size
  have hOg25 := hOg25.lower hC.size
  have hz := hz.chg0 hcg25
  have hC := hC.then hcg25 (by simp)
  have hmg25 := hOg25.cap.mx
  have hlg25 := hOg25.cap.le
  obtain ⟨z27, hz, hleg25, hrg25, hng25⟩ := (hOg25.mono (zle_E _)).freeze hz hZg25
  have hcpg25 := hOg25.cap
  have hrg1 := hrg1.mono hleg25
  have hrr13 := hrr13.mono hleg25
  have hrg15 := hrg15.mono hleg25
  have hrr23 := hrr23.mono hleg25
  refine W_cons rfl (by decide) (Sv_gt rfl rfl rfl hk20 (Sv_call rfl rfl rfl ent13 ?_))
  refine (same_calls Ar23 cr23 (startsS []) (some ⟨g25, 0, none⟩) 1 ([1] : List Int) _ _ hz hrr23 hcpr23 hrg25 hcpg25 ).mono ?_
  rintro e_ w28 ⟨rfl, hc29⟩
  refine ⟨_, rfl, ?_⟩
  have hz := hz.chg0 hc29
  have hC := hC.then hc29 (by simp)
  refine W_cons rfl (by decide) (Sv_val rfl (R_pick_t rfl rfl hk20 rfl) ?_)
  refine W_cons rfl (by decide) (Sv_val rfl (R_move rfl rfl) ?_)
  have hk30 : (decide ((startsS []) = ([1] : List Int))) = true := by decide +kernel
  refine W_cons rfl (by decide) (Sv_gt rfl rfl rfl hk30 (Sv_row (d := (kint .i64)) (z := zE) ([3, 2] : List Int) rfl (R_buildSlice (ps := [(0, (.const (.int .i64 3))), (1, (.const (.int .i64 2)))]) (vs := [.int .i64 3, .int .i64 2]) (w' := w28.alloc (.cells [.int .i64 3, .int .i64 2].toArray 3)) (r := .slice (some ⟨w28.heap.size, 0, none⟩) 2 2) rfl rfl rfl (by kernel_rfl)) (by simp [Reps, flat, kint]) rfl (by decide) (fun g31 w32 hcg31 hng31 hOg31 => ?_)))
  have hOg31 := hOg31.lower hng31
  have hZg31 : ∀ k ∈ blk (some ⟨g31, 0, none⟩), z27 k = none := fresh_z hz hOg31.base
  have hNg31 : ∀ k ∈ blk (some ⟨g31, 0, none⟩), w.heap.size ≤ k := newC hOg31.base hC.size
  have hOg31 := hOg31.lower hC.size
  have hz := hz.chg0 hcg31
  have hC := hC.then hcg31 (by simp)
  have hmg31 := hOg31.cap.mx
  have hlg31 := hOg31.cap.le
  obtain ⟨z33, hz, hleg31, hrg31, hng31⟩ := (hOg31.mono (zle_E _)).freeze hz hZg31
  have hcpg31 := hOg31.cap
  have hrg1 := hrg1.mono hleg31
  have hrr13 := hrr13.mono hleg31
  have hrg15 := hrg15.mono hleg31
  have hrr23 := hrr23.mono hleg31
  have hrg25 := hrg25.mono hleg31
  refine W_cons rfl (by decide) (Sv_gt rfl rfl rfl hk30 (Sv_call rfl rfl rfl ent37 ?_))
  refine (found_calls 0 0 (-1) (some ⟨g31, 0, none⟩) 2 ([3, 2] : List Int) _ _ hz hrg31 hcpg31 (by decide +kernel) (by decide +kernel)).mono ?_
  rintro e_ w34 ⟨rfl, hc35⟩
  refine ⟨_, rfl, ?_⟩
  have hz := hz.chg0 hc35
  have hC := hC.then hc35 (by simp)
  refine W_cons rfl (by decide) (Sv_val rfl (R_pick_t rfl rfl hk30 rfl) ?_)
  refine W_cons rfl (by decide) (Sv_val rfl (R_move rfl rfl) ?_)
  have hk36 : (decide ((findS ([3, 2] : List Int) 0).1 = 0 ∧ (findS ([3, 2] : List Int) 0).2 = (-1))) = true := by decide +kernel
  refine W_cons rfl (by decide) (Sv_gt rfl rfl rfl hk36 (Sv_row (d := (kint .i64)) (z := zE) ([3, 2] : List Int) rfl (R_buildSlice (ps := [(0, (.const (.int .i64 3))), (1, (.const (.int .i64 2)))]) (vs := [.int .i64 3, .int .i64 2]) (w' := w34.alloc (.cells [.int .i64 3, .int .i64 2].toArray 3)) (r := .slice (some ⟨w34.heap.size, 0, none⟩) 2 2) rfl rfl rfl (by kernel_rfl)) (by simp [Reps, flat, kint]) rfl (by decide) (fun g37 w38 hcg37 hng37 hOg37 => ?_)))
  have hOg37 := hOg37.lower hng37
  have hZg37 : ∀ k ∈ blk (some ⟨g37, 0, none⟩), z33 k = none := fresh_z hz hOg37.base
  have hNg37 : ∀ k ∈ blk (some ⟨g37, 0, none⟩), w.heap.size ≤ k := newC hOg37.base hC.size
  have hOg37 := hOg37.lower hC.size
  have hz := hz.chg0 hcg37
  have hC := hC.then hcg37 (by simp)
  have hmg37 := hOg37.cap.mx
  have hlg37 := hOg37.cap.le
  obtain ⟨z39, hz, hleg37, hrg37, hng37⟩ := (hOg37.mono (zle_E _)).freeze hz hZg37
  have hcpg37 := hOg37.cap
  have hrg1 := hrg1.mono hleg37
  have hrr13 := hrr13.mono hleg37
  have hrg15 := hrg15.mono hleg37
  have hrr23 := hrr23.mono hleg37
  have hrg25 := hrg25.mono hleg37
  have hrg31 := hrg31.mono hleg37
  refine W_cons rfl (by decide) (Sv_gt rfl rfl rfl hk36 (Sv_call rfl rfl rfl ent37 ?_))
  refine (found_calls 2 0 1 (some ⟨g37, 0, none⟩) 2 ([3, 2] : List Int) _ _ hz hrg37 hcpg37 (by decide +kernel) (by decide +kernel)).mono ?_
  rintro e_ w40 ⟨rfl, hc41⟩
  refine ⟨_, rfl, ?_⟩
  have hz := hz.chg0 hc41
  have hC := hC.then hc41 (by simp)
  refine W_cons rfl (by decide) (Sv_val rfl (R_pick_t rfl rfl hk36 rfl) ?_)
  refine W_cons rfl (by decide) (Sv_val rfl (R_move rfl rfl) ?_)
  have hk42 : (decide ((findS ([3, 2] : List Int) 2).1 = 0 ∧ (findS ([3, 2] : List Int) 2).2 = 1)) = true := by decide +kernel
  refine W_cons rfl (by decide) (Sv_gt rfl rfl rfl hk42 (Sv_row (d := (kint .i64)) (z := zE) ([3, 2] : List Int) rfl (R_buildSlice (ps := [(0, (.const (.int .i64 3))), (1, (.const (.int .i64 2)))]) (vs := [.int .i64 3, .int .i64 2]) (w' := w40.alloc (.cells [.int .i64 3, .int .i64 2].toArray 3)) (r := .slice (some ⟨w40.heap.size, 0, none⟩) 2 2) rfl rfl rfl (by kernel_rfl)) (by simp [Reps, flat, kint]) rfl (by decide) (fun g43 w44 hcg43 hng43 hOg43 => ?_)))
  have hOg43 := hOg43.lower hng43
  have hZg43 : ∀ k ∈ blk (some ⟨g43, 0, none⟩), z39 k = none := fresh_z hz hOg43.base
  have hNg43 : ∀ k ∈ blk (some ⟨g43, 0, none⟩), w.heap.size ≤ k := newC hOg43.base hC.size
  have hOg43 := hOg43.lower hC.size
  have hz := hz.chg0 hcg43
  have hC := hC.then hcg43 (by simp)
  have hmg43 := hOg43.cap.mx
  have hlg43 := hOg43.cap.le
  obtain ⟨z45, hz, hleg43, hrg43, hng43⟩ := (hOg43.mono (zle_E _)).freeze hz hZg43
  have hcpg43 := hOg43.cap
  have hrg1 := hrg1.mono hleg43
  have hrr13 := hrr13.mono hleg43
  have hrg15 := hrg15.mono hleg43
  have hrr23 := hrr23.mono hleg43
  have hrg25 := hrg25.mono hleg43
  have hrg31 := hrg31.mono hleg43
  have hrg37 := hrg37.mono hleg43
  refine W_cons rfl (by decide) (Sv_gt rfl rfl rfl hk42 (Sv_call rfl rfl rfl ent37 ?_))
  refine (found_calls 4 1 (-1) (some ⟨g43, 0, none⟩) 2 ([3, 2] : List Int) _ _ hz hrg43 hcpg43 (by decide +kernel) (by decide +kernel)).mono ?_
  rintro e_ w46 ⟨rfl, hc47⟩
  refine ⟨_, rfl, ?_⟩
  have hz := hz.chg0 hc47
  have hC := hC.then hc47 (by simp)
  refine W_cons rfl (by decide) (Sv_val rfl (R_pick_t rfl rfl hk42 rfl) ?_)
  refine W_cons rfl (by decide) (Sv_val rfl (R_move rfl rfl) ?_)
  have hk48 : (decide ((findS ([3, 2] : List Int) 4).1 = 1 ∧ (findS ([3, 2] : List Int) 4).2 = (-1))) = true := by decide +kernel
  refine W_cons rfl (by decide) (Sv_gt rfl rfl rfl hk48 (Sv_row (d := (kint .i64)) (z := zE) ([3, 2] : List Int) rfl (R_buildSlice (ps := [(0, (.const (.int .i64 3))), (1, (.const (.int .i64 2)))]) (vs := [.int .i64 3, .int .i64 2]) (w' := w46.alloc (.cells [.int .i64 3, .int .i64 2].toArray 3)) (r := .slice (some ⟨w46.heap.size, 0, none⟩) 2 2) rfl rfl rfl (by kernel_rfl)) (by simp [Reps, flat, kint]) rfl (by decide) (fun g49 w50 hcg49 hng49 hOg49 => ?_)))
  have hOg49 := hOg49.lower hng49
  have hZg49 : ∀ k ∈ blk (some ⟨g49, 0, none⟩), z45 k = none := fresh_z hz hOg49.base
  have hNg49 : ∀ k ∈ blk (some ⟨g49, 0, none⟩), w.heap.size ≤ k := newC hOg49.base hC.size
  have hOg49 := hOg49.lower hC.size
  have hz := hz.chg0 hcg49
  have hC := hC.then hcg49 (by simp)
  have hmg49 := hOg49.cap.mx
  have hlg49 := hOg49.cap.le
  obtain ⟨z51, hz, hleg49, hrg49, hng49⟩ := (hOg49.mono (zle_E _)).freeze hz hZg49
  have hcpg49 := hOg49.cap
  have hrg1 := hrg1.mono hleg49
  have hrr13 := hrr13.mono hleg49
  have hrg15 := hrg15.mono hleg49
  have hrr23 := hrr23.mono hleg49
  have hrg25 := hrg25.mono hleg49
  have hrg31 := hrg31.mono hleg49
  have hrg37 := hrg37.mono hleg49
  have hrg43 := hrg43.mono hleg49
  refine W_cons rfl (by decide) (Sv_gt rfl rfl rfl hk48 (Sv_call rfl rfl rfl ent37 ?_))
  refine (found_calls 7 2 (-1) (some ⟨g49, 0, none⟩) 2 ([3, 2] : List Int) _ _ hz hrg49 hcpg49 (by decide +kernel) (by decide +kernel)).mono ?_
  rintro e_ w52 ⟨rfl, hc53⟩
  refine ⟨_, rfl, ?_⟩
  have hz := hz.chg0 hc53
  have hC := hC.then hc53 (by simp)
  refine W_cons rfl (by decide) (Sv_val rfl (R_pick_t rfl rfl hk48 rfl) ?_)
  refine W_cons rfl (by decide) (Sv_val rfl (R_move rfl rfl) ?_)
  have hk54 : (decide ((findS ([3, 2] : List Int) 7).1 = 2 ∧ (findS ([3, 2] : List Int) 7).2 = (-1))) = true := by decide +kernel
  refine W_cons rfl (by decide) (Sv_gt rfl rfl rfl hk54 (Sv_row (d := (kint .i64)) (z := zE) ([3, 2] : List Int) rfl (R_buildSlice (ps := [(0, (.const (.int .i64 3))), (1, (.const (.int .i64 2)))]) (vs := [.int .i64 3, .int .i64 2]) (w' := w52.alloc (.cells [.int .i64 3, .int .i64 2].toArray 3)) (r := .slice (some ⟨w52.heap.size, 0, none⟩) 2 2) rfl rfl rfl (by kernel_rfl)) (by simp [Reps, flat, kint]) rfl (by decide) (fun g55 w56 hcg55 hng55 hOg55 => ?_)))
  have hOg55 := hOg55.lower hng55
  have hZg55 : ∀ k ∈ blk (some ⟨g55, 0, none⟩), z51 k = none := fresh_z hz hOg55.base
  have hNg55 : ∀ k ∈ blk (some ⟨g55, 0, none⟩), w.heap.size ≤ k := newC hOg55.base hC.size
  have hOg55 := hOg55.lower hC.size
  have hz := hz.chg0 hcg55
  have hC := hC.then hcg55 (by simp)
  have hmg55 := hOg55.cap.mx
  have hlg55 := hOg55.cap.le
  obtain ⟨z57, hz, hleg55, hrg55, hng55⟩ := (hOg55.mono (zle_E _)).freeze hz hZg55
  have hcpg55 := hOg55.cap
  have hrg1 := hrg1.mono hleg55
  have hrr13 := hrr13.mono hleg55
  have hrg15 := hrg15.mono hleg55
  have hrr23 := hrr23.mono hleg55
  have hrg25 := hrg25.mono hleg55
  have hrg31 := hrg31.mono hleg55
  have hrg37 := hrg37.mono hleg55
  have hrg43 := hrg43.mono hleg55
  have hrg49 := hrg49.mono hleg55
  refine W_cons rfl (by decide) (Sv_gt rfl rfl rfl hk54 (Sv_call rfl rfl rfl ent37 ?_))
  refine (found_calls 8 (-1) (-1) (some ⟨g55, 0, none⟩) 2 ([3, 2] : List Int) _ _ hz hrg55 hcpg55 (by decide +kernel) (by decide +kernel)).mono ?_
  rintro e_ w58 ⟨rfl, hc59⟩
  refine ⟨_, rfl, ?_⟩
  have hz := hz.chg0 hc59
  have hC := hC.then hc59 (by simp)
  refine W_cons rfl (by decide) (Sv_val rfl (R_pick_t rfl rfl hk54 rfl) ?_)
  refine W_cons rfl (by decide) (Sv_val rfl (R_move rfl rfl) ?_)
  have hk60 : (decide ((findS ([3, 2] : List Int) 8).1 = (-1) ∧ (findS ([3, 2] : List Int) 8).2 = (-1))) = true := by decide +kernel
  refine W_cons rfl (by decide) (Sv_gt rfl rfl rfl hk60 (Sv_val rfl (R_move rfl rfl) ?_))
  refine W_cons rfl (by decide) (Sv_gt rfl rfl rfl hk60 (Sv_call rfl rfl rfl ent24 ?_))
  refine (lpoint_calls 5 3  _   (by decide +kernel) (by decide +kernel)).mono ?_
  rintro e_ w61 ⟨rfl, hc62⟩
  refine ⟨_, rfl, ?_⟩
  have hz := hz.chg0 hc62
  have hC := hC.then hc62 (by simp)
  refine W_cons rfl (by decide) (Sv_gt rfl rfl rfl hk60 (Sv_val rfl (R_cxeql (a := ((cornerS ([3, 2] : List Int) ([1, 1] : List Int) (⟨1, 1, 1, 1⟩ : TRect)).1).re) (b := ((cornerS ([3, 2] : List Int) ([1, 1] : List Int) (⟨1, 1, 1, 1⟩ : TRect)).1).im) (c := (cpt 5 3).re) (d := (cpt 5 3).im) rfl rfl rfl (by (repeat apply And.intro) <;> (unfold Fl.ok; decide +kernel))) ?_))
  refine W_cons rfl (by decide) (Sv_val rfl (R_pick_t rfl rfl hk60 rfl) ?_)
  refine W_cons rfl (by decide) (Sv_val rfl (R_move rfl rfl) ?_)
  have hk63 : ((((((cornerS ([3, 2] : List Int) ([1, 1] : List Int) (⟨1, 1, 1, 1⟩ : TRect)).1).re).n == ((cpt 5 3).re).n) && ((((cornerS ([3, 2] : List Int) ([1, 1] : List Int) (⟨1, 1, 1, 1⟩ : TRect)).1).im).n == ((cpt 5 3).im).n))) = true := by decide +kernel
  have hk63p : ((((cornerS ([3, 2] : List Int) ([1, 1] : List Int) (⟨1, 1, 1, 1⟩ : TRect)).1).re).n = ((cpt 5 3).re).n ∧ (((cornerS ([3, 2] : List Int) ([1, 1] : List Int) (⟨1, 1, 1, 1⟩ : TRect)).1).im).n = ((cpt 5 3).im).n) := by simpa using hk63
  refine W_cons rfl (by decide) (Sv_gt rfl rfl rfl hk63 (Sv_val rfl (R_move rfl rfl) ?_))
  refine W_cons rfl (by decide) (Sv_gt rfl rfl rfl hk63 (Sv_val rfl (R_bin rfl rfl rfl rfl rfl) ?_))
  refine W_cons rfl (by decide) (Sv_val rfl (R_pick_t rfl rfl hk63 rfl) ?_)
  refine W_cons rfl (by decide) (Sv_val rfl (R_move rfl rfl) ?_)
  have hk64 : ((((cornerS ([3, 2] : List Int) ([1, 1] : List Int) (⟨1, 1, 1, 1⟩ : TRect)).2) == 0)) = true := by decide +kernel
  have hk64p : ((cornerS ([3, 2] : List Int) ([1, 1] : List Int) (⟨1, 1, 1, 1⟩ : TRect)).2) = 0 := by simpa using hk64
  refine W_cons rfl (by decide) (Sv_gt rfl rfl rfl hk64 (Sv_val rfl (R_move rfl rfl) ?_))
  refine W_cons rfl (by decide) (Sv_gt rfl rfl rfl hk64 (Sv_call rfl rfl rfl ent24 ?_))
  refine (lpoint_calls 6 1  _   (by decide +kernel) (by decide +kernel)).mono ?_
  rintro e_ w65 ⟨rfl, hc66⟩
  refine ⟨_, rfl, ?_⟩
  have hz := hz.chg0 hc66
  have hC := hC.then hc66 (by simp)
  refine W_cons rfl (by decide) (Sv_gt rfl rfl rfl hk64 (Sv_val rfl (R_cxeql (a := ((sizeS ([3, 2] : List Int) ([1, 1] : List Int) (⟨0, 0, 1, 2⟩ : TRect)).1).re) (b := ((sizeS ([3, 2] : List Int) ([1, 1] : List Int) (⟨0, 0, 1, 2⟩ : TRect)).1).im) (c := (cpt 6 1).re) (d := (cpt 6 1).im) rfl rfl rfl (by (repeat apply And.intro) <;> (unfold Fl.ok; decide +kernel))) ?_))
  refine W_cons rfl (by decide) (Sv_val rfl (R_pick_t rfl rfl hk64 rfl) ?_)
  refine W_cons rfl (by decide) (Sv_val rfl (R_move rfl rfl) ?_)
  have hk67 : ((((((sizeS ([3, 2] : List Int) ([1, 1] : List Int) (⟨0, 0, 1, 2⟩ : TRect)).1).re).n == ((cpt 6 1).re).n) && ((((sizeS ([3, 2] : List Int) ([1, 1] : List Int) (⟨0, 0, 1, 2⟩ : TRect)).1).im).n == ((cpt 6 1).im).n))) = true := by decide +kernel
  have hk67p : ((((sizeS ([3, 2] : List Int) ([1, 1] : List Int) (⟨0, 0, 1, 2⟩ : TRect)).1).re).n = ((cpt 6 1).re).n ∧ (((sizeS ([3, 2] : List Int) ([1, 1] : List Int) (⟨0, 0, 1, 2⟩ : TRect)).1).im).n = ((cpt 6 1).im).n) := by simpa using hk67
  refine W_cons rfl (by decide) (Sv_gt rfl rfl rfl hk67 (Sv_val rfl (R_move rfl rfl) ?_))
  refine W_cons rfl (by decide) (Sv_gt rfl rfl rfl hk67 (Sv_val rfl (R_bin rfl rfl rfl rfl rfl) ?_))
  refine W_cons rfl (by decide) (Sv_val rfl (R_pick_t rfl rfl hk67 rfl) ?_)
  refine W_cons rfl (by decide) (Sv_val rfl (R_move rfl rfl) ?_)
  have hk68 : ((((sizeS ([3, 2] : List Int) ([1, 1] : List Int) (⟨0, 0, 1, 2⟩ : TRect)).2) == 0)) = true := by decide +kernel
  have hk68p : ((sizeS ([3, 2] : List Int) ([1, 1] : List Int) (⟨0, 0, 1, 2⟩ : TRect)).2) = 0 := by simpa using hk68
  refine W_cons rfl (by decide) (Sv_gt rfl rfl rfl hk68 (Sv_call rfl rfl rfl ent24 ?_))
  refine (lpoint_calls 5 3  _   (by decide +kernel) (by decide +kernel)).mono ?_
  rintro e_ w69 ⟨rfl, hc70⟩
  refine ⟨_, rfl, ?_⟩
  have hz := hz.chg0 hc70
  have hC := hC.then hc70 (by simp)
  refine W_cons rfl (by decide) (Sv_gt rfl rfl rfl hk68 (Sv_call rfl rfl rfl ent24 ?_))
  refine (lpoint_calls 1 1  _   (by decide +kernel) (by decide +kernel)).mono ?_
  rintro e_ w71 ⟨rfl, hc72⟩
  refine ⟨_, rfl, ?_⟩
  have hz := hz.chg0 hc72
  have hC := hC.then hc72 (by simp)
  refine W_cons rfl (by decide) (Sv_gt rfl rfl rfl hk68 (Sv_call rfl rfl rfl ent31 ?_))
  refine (screen_calls (cpt 5 3) (cpt 1 1) 10 0  _   (by decide +kernel) (by decide +kernel) (by decide +kernel) (by decide +kernel) (by decide +kernel)).mono ?_
  rintro e_ w73 ⟨rfl, hc74⟩
  refine ⟨_, rfl, ?_⟩
  have hz := hz.chg0 hc74
  have hC := hC.then hc74 (by simp)
  refine W_cons rfl (by decide) (Sv_gt rfl rfl rfl hk68 (Sv_call rfl rfl rfl ent24 ?_))
  refine (lpoint_calls 4 2  _   (by decide +kernel) (by decide +kernel)).mono ?_
  rintro e_ w75 ⟨rfl, hc76⟩
  refine ⟨_, rfl, ?_⟩
  have hz := hz.chg0 hc76
  have hC := hC.then hc76 (by simp)
  refine W_cons rfl (by decide) (Sv_gt rfl rfl rfl hk68 (Sv_val rfl (R_cxeql (a := (scrC (cpt 5 3) (cpt 1 1) 10 0).re) (b := (scrC (cpt 5 3) (cpt 1 1) 10 0).im) (c := (cpt 4 2).re) (d := (cpt 4 2).im) rfl rfl rfl (by (repeat apply And.intro) <;> (unfold Fl.ok; decide +kernel))) ?_))
  refine W_cons rfl (by decide) (Sv_val rfl (R_pick_t rfl rfl hk68 rfl) ?_)
  refine W_cons rfl (by decide) (Sv_val rfl (R_move rfl rfl) ?_)
  have hk77 : (((((scrC (cpt 5 3) (cpt 1 1) 10 0).re).n == ((cpt 4 2).re).n) && (((scrC (cpt 5 3) (cpt 1 1) 10 0).im).n == ((cpt 4 2).im).n))) = true := by decide +kernel
  have hk77p : (((scrC (cpt 5 3) (cpt 1 1) 10 0).re).n = ((cpt 4 2).re).n ∧ ((scrC (cpt 5 3) (cpt 1 1) 10 0).im).n = ((cpt 4 2).im).n) := by simpa using hk77
  refine W_cons rfl (by decide) (Sv_gt rfl rfl rfl hk77 (Sv_call rfl rfl rfl ent24 ?_))
  refine (lpoint_calls 5 3  _   (by decide +kernel) (by decide +kernel)).mono ?_
  rintro e_ w78 ⟨rfl, hc79⟩
  refine ⟨_, rfl, ?_⟩
  have hz := hz.chg0 hc79
  have hC := hC.then hc79 (by simp)
  refine W_cons rfl (by decide) (Sv_gt rfl rfl rfl hk77 (Sv_call rfl rfl rfl ent24 ?_))
  refine (lpoint_calls 1 1  _   (by decide +kernel) (by decide +kernel)).mono ?_
  rintro e_ w80 ⟨rfl, hc81⟩
  refine ⟨_, rfl, ?_⟩
  have hz := hz.chg0 hc81
  have hC := hC.then hc81 (by simp)
  refine W_cons rfl (by decide) (Sv_gt rfl rfl rfl hk77 (Sv_call rfl rfl rfl ent31 ?_))
  refine (screen_calls (cpt 5 3) (cpt 1 1) 10 1  _   (by decide +kernel) (by decide +kernel) (by decide +kernel) (by decide +kernel) (by decide +kernel)).mono ?_
  rintro e_ w82 ⟨rfl, hc83⟩
  refine ⟨_, rfl, ?_⟩
  have hz := hz.chg0 hc83
  have hC := hC.then hc83 (by simp)
  refine W_cons rfl (by decide) (Sv_gt rfl rfl rfl hk77 (Sv_call rfl rfl rfl ent24 ?_))
  refine (lpoint_calls 5 2  _   (by decide +kernel) (by decide +kernel)).mono ?_
  rintro e_ w84 ⟨rfl, hc85⟩
  refine ⟨_, rfl, ?_⟩
  have hz := hz.chg0 hc85
  have hC := hC.then hc85 (by simp)
  refine W_cons rfl (by decide) (Sv_gt rfl rfl rfl hk77 (Sv_val rfl (R_cxeql (a := (scrC (cpt 5 3) (cpt 1 1) 10 1).re) (b := (scrC (cpt 5 3) (cpt 1 1) 10 1).im) (c := (cpt 5 2).re) (d := (cpt 5 2).im) rfl rfl rfl (by (repeat apply And.intro) <;> (unfold Fl.ok; decide +kernel))) ?_))
  refine W_cons rfl (by decide) (Sv_val rfl (R_pick_t rfl rfl hk77 rfl) ?_)
  refine W_cons rfl (by decide) (Sv_val rfl (R_assign rfl rfl) ?_)
  refine W_nil ?_
  refine E_then (C_fr [(0, .bool ((((scrC (cpt 5 3) (cpt 1 1) 10 1).re).n == ((cpt 5 2).re).n) && (((scrC (cpt 5 3) (cpt 1 1) 10 1).im).n == ((cpt 5 2).im).n)))] rfl ?_)
  refine C_ret ?_
  refine E_ret1 rfl rfl ?_
  exact ⟨Lret1 (Lbool (show ((((scrC (cpt 5 3) (cpt 1 1) 10 1).re).n == ((cpt 5 2).re).n) && (((scrC (cpt 5 3) (cpt 1 1) 10 1).im).n == ((cpt 5 2).im).n)) = true by rfl)), hC⟩

set_option maxHeartbeats 400000 in
set_option maxRecDepth 20000 in
theorem part_calls (a0 : Int) (w : World)   :
    Calls Try.prog 30 #[.int .i64 a0] w fun e w' => e = .returned (.int .i64 (partS a0)) ∧ Chg [] w w' := by
  have hC := Chg.refl [] w
  refine Calls_of (vs := [.int .i64 a0]) (N := 6) Try.func30 rfl rfl (Nat.le_of_ble_eq_true rfl) ?_
  refine C_seq ?_
  refine C_region ?_
  refine W_cons rfl (by decide) (Sv_val rfl (R_assign rfl rfl) ?_)
  refine W_nil ?_
  refine E_then ?_
  refine C_seq ?_
  refine C_region ?_
  refine W_cons rfl (by decide) (Sv_val rfl (R_move rfl rfl) ?_)
  refine W_cons rfl (by decide) (Sv_val rfl (R_and64 31 2147483648 rfl rfl rfl (by decide) (by decide) (by decide)) ?_)
  refine W_cons rfl (by decide) (Sv_val rfl (R_sub64 rfl rfl rfl (by first | omega | (have := part_bd a0; unfold partS at this; omega)) (by first | omega | (have := part_bd a0; unfold partS at this; omega))) ?_)
  refine W_cons rfl (by decide) (Sv_val rfl (R_assign rfl rfl) ?_)
  refine W_nil ?_
  refine E_then ?_
  refine C_ret ?_
  refine E_ret1 rfl rfl ?_
  exact ⟨Lret1 (Lint (show (a0 % 2147483648) - 1073741824 = partS a0 by rfl)), hC⟩

end Go.Proofs.YtibniimdfahiiaaG
