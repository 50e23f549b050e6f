/- Walks, each function once: what it computes. -/
import Derived.Test.YtcjaplaifmhajaaDoorK1
set_option linter.all false
namespace Go.Proofs.YtcjaplaifmhajaaDoorG
open Go Go.RowKit
set_option maxHeartbeats 4000000 in
set_option maxRecDepth 20000 in
theorem walk_calls (a0 : St) (ga1 : Nat) (ka1 : List Value) (γa1 : Type) (Ra1 : List (St × Bool) → γa1 → Res) (ya1 : γa1) (zca1 : Z) (z : Z) (w : World) (hI : In z w [Ra1 [] ya1]) (hfa1 : FV Tryd.prog zca1 ga1 ka1 (fun z_ (x_ : St × Bool) vs_ => vs_ = [vstr x_.1, .bool x_.2]) Ra1 (fun h_ _ => h_.length ≤ 100000) (fun h_ x_ => h_ ++ [x_]) (fun _ _ => .tuple #[])) (hza1 : zle zca1 z) (p0 : a0.length ≤ 70000) :
    Calls Tryd.prog 26 #[vstr a0, .func (.func ga1) #[] ka1.toArray] w fun e w' => ∃ (ya1' : γa1), e = .returned (.int .i64 (run .F a0 0 []).2) ∧ Sp (FF [Ra1 [] ya1]) w z w' [Ra1 (run .F a0 0 []).1 ya1'] := by
 have hS := hI.sp
 have hJ0_3 : Left a0 .F 0 [] [] := by simp [Left]
 refine Calls_of (vs := [vstr a0, .func (.func ga1) #[] ka1.toArray]) (N := 126) Tryd.func26 rfl rfl (Nat.le_of_ble_eq_true rfl) ?_
 refine C_seq ?_
 refine C_region ?_
 refine wv rfl rfl rfl (R_assign rfl rfl) ?_
 refine W_nil ?_
 refine E_then ?_
 refine C_scope [0, 3, 1, 4, 2] (fun l_ m_ f_ w_ => match l_ with | 0 => ∃ (n : Nat) (h : Tells) (t : St) (Ar1 : Option Addr) (cr1 : Nat) (Lr1 : List Nat) (y2 : γa1), f_ = [(0, vstr a0), (1, .func (.func ga1) #[] ka1.toArray), (5, .int .i64 (n : Int)), (6, .slice Ar1 (ub t).length cr1)] ∧ n ≤ a0.length ∧ t.length ≤ n ∧ h.length ≤ n ∧ Left a0 .F n [] h ∧ m_ = 2 * (a0.length - n) + 2 ∧ Sp (FF [Ra1 [] ya1]) w z w_ [oZ (kint .u8) 5 zE Ar1 cr1 (ub t) Lr1, Ra1 h y2] | 3 => ∃ (n : Nat) (h : Tells) (t : St) (Ar3 : Option Addr) (cr3 : Nat) (Lr3 : List Nat) (y4 : γa1), f_ = [(0, vstr a0), (1, .func (.func ga1) #[] ka1.toArray), (5, .int .i64 (n : Int)), (6, .slice Ar3 (ub t).length cr3)] ∧ n ≤ a0.length ∧ t.length ≤ n ∧ h.length ≤ n ∧ Left a0 .B n t h ∧ m_ = 2 * (a0.length - n) + 2 ∧ Sp (FF [Ra1 [] ya1]) w z w_ [oZ (kint .u8) 5 zE Ar3 cr3 (ub t) Lr3, Ra1 h y4] | 1 => ∃ (n : Nat) (h : Tells) (t : St) (Ar5 : Option Addr) (cr5 : Nat) (Lr5 : List Nat) (y6 : γa1), f_ = [(0, vstr a0), (1, .func (.func ga1) #[] ka1.toArray), (5, .int .i64 (n : Int)), (6, .slice Ar5 (ub t).length cr5)] ∧ n ≤ a0.length ∧ t.length ≤ n ∧ h.length ≤ n ∧ Left a0 .Q n t h ∧ m_ = 2 * (a0.length - n) + 2 ∧ Sp (FF [Ra1 [] ya1]) w z w_ [oZ (kint .u8) 5 zE Ar5 cr5 (ub t) Lr5, Ra1 h y6] | 4 => ∃ (n : Nat) (h : Tells) (t : St) (Ar7 : Option Addr) (cr7 : Nat) (Lr7 : List Nat) (y8 : γa1), f_ = [(0, vstr a0), (1, .func (.func ga1) #[] ka1.toArray), (5, .int .i64 (n : Int)), (6, .slice Ar7 (ub t).length cr7)] ∧ n ≤ a0.length ∧ t.length ≤ n ∧ h.length ≤ n ∧ Left a0 .P n t h ∧ (n < a0.length → ¬ a0.getD n 0 = 34) ∧ m_ = 2 * (a0.length - n) + 1 ∧ Sp (FF [Ra1 [] ya1]) w z w_ [oZ (kint .u8) 5 zE Ar7 cr7 (ub t) Lr7, Ra1 h y8] | 2 => ∃ (n : Nat) (h : Tells) (t : St) (Ar9 : Option Addr) (cr9 : Nat) (Lr9 : List Nat) (y10 : γa1), f_ = [(1, .func (.func ga1) #[] ka1.toArray), (6, .slice Ar9 (ub t).length cr9)] ∧ n ≤ a0.length ∧ t.length ≤ n ∧ h.length ≤ n ∧ (h ++ [(t, true)], (-1 : Int)) = run .F a0 0 [] ∧ m_ = 0 ∧ Sp (FF [Ra1 [] ya1]) w z w_ [oZ (kint .u8) 5 zE Ar9 cr9 (ub t) Lr9, Ra1 h y10] | _ => False) ?_ (List.forall_mem_cons.2 ⟨?_, (List.forall_mem_cons.2 ⟨?_, (List.forall_mem_cons.2 ⟨?_, (List.forall_mem_cons.2 ⟨?_, (List.forall_mem_cons.2 ⟨?_, (fun _ h => by cases h)⟩)⟩)⟩)⟩)⟩)
 ·have _s := trivial
  refine C_seq ?_
  refine C_region ?_
  refine wv rfl rfl rfl (R_assign rfl rfl) ?_
  refine W_nil ?_
  refine E_then ?_
  refine C_seq ?_
  refine C_region ?_
  refine wv rfl rfl rfl (R_assign rfl rfl) ?_
  refine W_nil ?_
  refine E_then ?_
  refine C_seq ?_
  refine C_label ?_
  refine E_then ?_
  refine C_seq ?_
  refine C_region ?_
  refine wv rfl rfl rfl (R_move rfl rfl) <| wv rfl rfl rfl (R_slice0 rfl rfl rfl rfl (by kernel_rfl) ⟨_, size5 _⟩) <| wv rfl rfl rfl (R_assign rfl rfl) ?_
  refine W_nil ?_
  refine E_then ?_
  refine C_seq ?_
  refine C_seq ?_
  refine C_region ?_
  refine wv rfl rfl rfl (R_move rfl rfl) <| wv rfl rfl rfl (R_move rfl rfl) <| wv rfl rfl rfl (R_strlen rfl rfl Tryd.underlying9) <| wv rfl rfl rfl (R_bin rfl rfl rfl rfl rfl) <| wv rfl rfl rfl (R_move rfl rfl) ?_
  refine W_split (t := 13) rfl (fun hg11 => ?_) (fun hg11 => ?_)
  ·have _hg11 := trivial
   have hg11p : 0 < (a0.length : Int) := by simpa using hg11
   refine W_cons rfl (by decide) (Sv_gt rfl rfl rfl hg11 (Sv_val rfl (R_move rfl rfl) ?_))
   refine W_cons rfl (by decide) (Sv_gt rfl rfl rfl hg11 (Sv_val rfl (R_move rfl rfl) ?_))
   refine W_cons rfl (by decide) (Sv_gt rfl rfl rfl hg11 (Sv_val rfl (R_stridx rfl rfl rfl Tryd.underlying9 (by omega) (by omega)) ?_))
   refine W_cons rfl (by decide) (Sv_gt rfl rfl rfl hg11 (Sv_val rfl (R_bin rfl rfl rfl rfl rfl) ?_))
   refine wv rfl rfl rfl (R_pick_t rfl rfl hg11 rfl) ?_
   refine W_nil ?_
   refine E_then (C_fr [(0, vstr a0), (1, .func (.func ga1) #[] ka1.toArray), (5, .int .i64 0), (6, .slice none ([] : List Int).length 0), (18, .bool (((a0.getD 0 0).toNat : Int) == 34))] rfl ?_)
   refine C_ite rfl (fun hC0 => ?_) (fun hC0 => ?_)
   ·have _hC0 := trivial
    have hC0p : ((a0.getD 0 0).toNat : Int) = 34 := by simpa using hC0
    refine C_seq ?_
    refine C_region ?_
    refine wv rfl rfl rfl (R_move rfl rfl) <| wv rfl rfl rfl (R_add64 rfl rfl rfl (by omega) (by omega)) <| wv rfl rfl rfl (R_assign rfl rfl) ?_
    refine W_nil ?_
    refine E_then ?_
    refine C_goto ?_
    refine E_then_goto ?_
    have hS := hS.zrow (kint .u8) 5 none
    have hs13 : ([] : List Int) = ub ([] : St) := by simp [ub]
    have hS := hS.reZ 0 rfl hs13
    have hs14 : 0 + 1 = ((0 + 1 : Nat) : Int) := by omega
    have hh15 : [] = ([] : Tells) := by simp
    have hS := hS.cbr Ra1 1 rfl hh15
    refine E_jump (m := 2 * (a0.length - (0 + 1 : Nat)) + 2) [0, 1, 5, 6] (by decide) (fun _ h_ => by cases h_) ⟨(0 + 1 : Nat), ([] : Tells), ([] : St), none, 0, [], ya1, (by rw [← hs13, ← hs14] <;> rfl), (by omega), (by first | (simp; done) | (simp at *; omega) | omega), (by first | (simp; done) | (simp at *; omega) | omega), (by exact Left.F_quote hJ0_3 (by omega) (u34.1 (by assumption))), rfl, hS.fin [0, 1] (by decide) rfl⟩
   ·have _hC0 := trivial
    have hC0p : ¬ (((a0.getD 0 0).toNat : Int) = 34) := by simpa using hC0
    refine C_skip ?_
    refine E_then ?_
    refine C_seq ?_
    refine C_label ?_
    refine E_then ?_
    refine C_seq ?_
    refine C_seq ?_
    refine C_region ?_
    refine wv rfl rfl rfl (R_move rfl rfl) <| wv rfl rfl rfl (R_move rfl rfl) <| wv rfl rfl rfl (R_strlen rfl rfl Tryd.underlying9) <| wv rfl rfl rfl (R_bin rfl rfl rfl rfl rfl) ?_
    refine W_nil ?_
    refine E_then ?_
    refine C_ite rfl (fun hC1 => ?_) (fun hC1 => ?_)
    ·have _hC1 := trivial
     have hC1p : 0 = (a0.length : Int) := by simpa using hC1
     refine C_goto ?_
     refine E_then_goto ?_
     have hS := hS.zrow (kint .u8) 5 none
     have hs17 : ([] : List Int) = ub ([] : St) := by simp [ub]
     have hS := hS.reZ 0 rfl hs17
     have hh18 : [] = ([] : Tells) := by simp
     have hS := hS.cbr Ra1 1 rfl hh18
     refine E_jump (m := 0) [1, 6] (by decide) (fun _ h_ => by cases h_) ⟨(0 : Nat), ([] : Tells), ([] : St), none, 0, [], ya1, (by rw [← hs17] <;> rfl), (by omega), (by first | (simp; done) | (simp at *; omega) | omega), (by first | (simp; done) | (simp at *; omega) | omega), (by exact Left.B_end (Left.F_bare hJ0_3 (by intro h_; first | exact mt u34.2 (by assumption) | omega)) (by omega)), rfl, hS.fin [0, 1] (by decide) rfl⟩
    ·have _hC1 := trivial
     have hC1p : ¬ (0 = (a0.length : Int)) := by simpa using hC1
     refine C_skip ?_
     refine E_then (C_fr [(0, vstr a0), (1, .func (.func ga1) #[] ka1.toArray), (5, .int .i64 0), (6, .slice none ([] : List Int).length 0)] rfl ?_)
     refine C_seq ?_
     refine C_seq ?_
     refine C_region ?_
     refine wv rfl rfl rfl (R_move rfl rfl) <| wv rfl rfl rfl (R_move rfl rfl) <| wv rfl rfl rfl (R_stridx rfl rfl rfl Tryd.underlying9 (by omega) (by omega)) ?_
     refine W_nil ?_
     refine E_then ?_
     refine C_block ?_
     refine C_seq ?_
     refine C_seq ?_
     refine C_region ?_
     refine wv rfl rfl rfl (R_bin rfl rfl rfl rfl rfl) <| wv rfl rfl rfl (R_assign rfl rfl) ?_
     refine W_nil ?_
     refine E_then ?_
     refine C_ite rfl (fun hC2 => ?_) (fun hC2 => ?_)
     ·have _hC2 := trivial
      have hC2p : ((a0.getD 0 0).toNat : Int) = 44 := by simpa using hC2
      refine C_skip ?_
      refine E_then ?_
      refine C_if rfl hC2 ?_
      refine C_goto ?_
      refine E_block_goto ?_
      refine E_then_goto ?_
      have hS := hS.zrow (kint .u8) 5 none
      have hs20 : ([] : List Int) = ub ([] : St) := by simp [ub]
      have hS := hS.reZ 0 rfl hs20
      have hs21 : 0 = ((0 : Nat) : Int) := by omega
      have hh22 : [] = ([] : Tells) := by simp
      have hS := hS.cbr Ra1 1 rfl hh22
      refine E_jump (m := 2 * (a0.length - (0 : Nat)) + 1) [0, 1, 5, 6] (by decide) (fun _ h_ => by cases h_) ⟨(0 : Nat), ([] : Tells), ([] : St), none, 0, [], ya1, (by rw [← hs20, ← hs21] <;> rfl), (by omega), (by first | (simp; done) | (simp at *; omega) | omega), (by first | (simp; done) | (simp at *; omega) | omega), (by exact Left.B_P (Left.F_bare hJ0_3 (by intro h_; first | exact mt u34.2 (by assumption) | omega)) (by omega) (.inl (u44.1 (by assumption)))), (by intro _; have h_ : a0.getD 0 0 = 44 := (u44.1 (by assumption)); rw [h_]; decide), rfl, hS.fin [0, 1] (by decide) rfl⟩
     ·have _hC2 := trivial
      have hC2p : ¬ (((a0.getD 0 0).toNat : Int) = 44) := by simpa using hC2
      refine C_region ?_
      refine wv rfl rfl rfl (R_bin rfl rfl rfl rfl rfl) <| wv rfl rfl rfl (R_assign rfl rfl) ?_
      refine W_nil ?_
      refine E_then ?_
      refine C_ite rfl (fun hC3 => ?_) (fun hC3 => ?_)
      ·have _hC3 := trivial
       have hC3p : ((a0.getD 0 0).toNat : Int) = 13 := by simpa using hC3
       refine C_goto ?_
       refine E_block_goto ?_
       refine E_then_goto ?_
       have hS := hS.zrow (kint .u8) 5 none
       have hs24 : ([] : List Int) = ub ([] : St) := by simp [ub]
       have hS := hS.reZ 0 rfl hs24
       have hs25 : 0 = ((0 : Nat) : Int) := by omega
       have hh26 : [] = ([] : Tells) := by simp
       have hS := hS.cbr Ra1 1 rfl hh26
       refine E_jump (m := 2 * (a0.length - (0 : Nat)) + 1) [0, 1, 5, 6] (by decide) (fun _ h_ => by cases h_) ⟨(0 : Nat), ([] : Tells), ([] : St), none, 0, [], ya1, (by rw [← hs24, ← hs25] <;> rfl), (by omega), (by first | (simp; done) | (simp at *; omega) | omega), (by first | (simp; done) | (simp at *; omega) | omega), (by exact Left.B_P (Left.F_bare hJ0_3 (by intro h_; first | exact mt u34.2 (by assumption) | omega)) (by omega) (.inr (u13.1 (by assumption)))), (by intro _; have h_ : a0.getD 0 0 = 13 := (u13.1 (by assumption)); rw [h_]; decide), rfl, hS.fin [0, 1] (by decide) rfl⟩
      ·have _hC3 := trivial
       have hC3p : ¬ (((a0.getD 0 0).toNat : Int) = 13) := by simpa using hC3
       refine C_seq ?_
       refine C_seq ?_
       refine C_region ?_
       refine wv rfl rfl rfl (R_bin rfl rfl rfl rfl rfl) <| wv rfl rfl rfl (R_assign rfl rfl) ?_
       refine W_nil ?_
       refine E_then (C_fr [(0, vstr a0), (1, .func (.func ga1) #[] ka1.toArray), (5, .int .i64 0), (6, .slice none ([] : List Int).length 0), (27, .int .u8 ((a0.getD 0 0).toNat : Int)), (31, .bool (((a0.getD 0 0).toNat : Int) == 10))] rfl ?_)
       refine C_ite rfl (fun hC4 => ?_) (fun hC4 => ?_)
       ·have _hC4 := trivial
        have hC4p : ((a0.getD 0 0).toNat : Int) = 10 := by simpa using hC4
        refine C_skip ?_
        refine E_then ?_
        refine C_if rfl hC4 ?_
        refine C_seq ?_
        refine C_region ?_
        refine wv rfl rfl rfl (R_move rfl rfl) <| wv rfl rfl rfl (R_assign rfl rfl) ?_
        refine W_nil ?_
        refine E_then (C_fr [(4, .int .i64 0)] rfl ?_)
        refine C_ret ?_
        refine E_block_ret ?_
        refine E_then_ret ?_
        refine E_scope_ret ?_
        have hh27 : [] = (run .F a0 0 []).1 := by first | (exact congrArg Prod.fst (Left.B_bad (Left.F_bare hJ0_3 (by intro h_; first | exact mt u34.2 (by assumption) | omega)) (by omega) (by first | exact .inl (u10.1 (by assumption)) | exact .inr (u34.1 (by assumption))))) | (exact congrArg Prod.fst (Left.B_bad hJ3_3 (by omega) (by first | exact .inl (u10.1 (by assumption)) | exact .inr (u34.1 (by assumption))))) | (exact congrArg Prod.fst (Left.Q_end hJ1_3 (by omega))) | (exact congrArg Prod.fst (hJ2_3)) | (exact congrArg Prod.fst (Left.P_bad (Left.Q_quote hJ1_3 (by omega) (u34.1 (by assumption))) (by omega) (by first | exact mt u34.2 (by assumption) | omega) (mt u44.2 (by assumption)) (mt u13.2 (by assumption)))) | (exact congrArg Prod.fst (Left.R_bad (Left.P_cr (Left.Q_quote hJ1_3 (by omega) (u34.1 (by assumption))) (by omega) (u13.1 (by assumption))) (by intro h_; first | exact mt u10.2 (by assumption) | omega))) | (exact congrArg Prod.fst (Left.R_end (Left.P_cr (Left.Q_quote hJ1_3 (by omega) (u34.1 (by assumption))) (by omega) (u13.1 (by assumption))) (by omega) (u10.1 (by assumption)))) | (exact congrArg Prod.fst (Left.P_bad hJ4_3 (by omega) (hJ4_4 (by omega)) (mt u44.2 (by assumption)) (mt u13.2 (by assumption)))) | (exact congrArg Prod.fst (Left.R_bad (Left.P_cr hJ4_3 (by omega) (u13.1 (by assumption))) (by intro h_; first | exact mt u10.2 (by assumption) | omega))) | (exact congrArg Prod.fst (Left.R_end (Left.P_cr hJ4_3 (by omega) (u13.1 (by assumption))) (by omega) (u10.1 (by assumption))))
        have hS := hS.cbr Ra1 0 rfl hh27
        refine E_ret1 rfl rfl ?_
        exact ⟨ya1, Lret1 (Lint (show 0 = (run .F a0 0 []).2 by first | (exact congrArg Prod.snd (Left.B_bad (Left.F_bare hJ0_3 (by intro h_; first | exact mt u34.2 (by assumption) | omega)) (by omega) (by first | exact .inl (u10.1 (by assumption)) | exact .inr (u34.1 (by assumption))))) | (exact congrArg Prod.snd (Left.B_bad hJ3_3 (by omega) (by first | exact .inl (u10.1 (by assumption)) | exact .inr (u34.1 (by assumption))))) | (exact congrArg Prod.snd (Left.Q_end hJ1_3 (by omega))) | (exact congrArg Prod.snd (hJ2_3)) | (exact congrArg Prod.snd (Left.P_bad (Left.Q_quote hJ1_3 (by omega) (u34.1 (by assumption))) (by omega) (by first | exact mt u34.2 (by assumption) | omega) (mt u44.2 (by assumption)) (mt u13.2 (by assumption)))) | (exact congrArg Prod.snd (Left.R_bad (Left.P_cr (Left.Q_quote hJ1_3 (by omega) (u34.1 (by assumption))) (by omega) (u13.1 (by assumption))) (by intro h_; first | exact mt u10.2 (by assumption) | omega))) | (exact congrArg Prod.snd (Left.R_end (Left.P_cr (Left.Q_quote hJ1_3 (by omega) (u34.1 (by assumption))) (by omega) (u13.1 (by assumption))) (by omega) (u10.1 (by assumption)))) | (exact congrArg Prod.snd (Left.P_bad hJ4_3 (by omega) (hJ4_4 (by omega)) (mt u44.2 (by assumption)) (mt u13.2 (by assumption)))) | (exact congrArg Prod.snd (Left.R_bad (Left.P_cr hJ4_3 (by omega) (u13.1 (by assumption))) (by intro h_; first | exact mt u10.2 (by assumption) | omega))) | (exact congrArg Prod.snd (Left.R_end (Left.P_cr hJ4_3 (by omega) (u13.1 (by assumption))) (by omega) (u10.1 (by assumption)))))), hS.fin [0] (by decide) rfl⟩
       ·have _hC4 := trivial
        have hC4p : ¬ (((a0.getD 0 0).toNat : Int) = 10) := by simpa using hC4
        refine C_region ?_
        refine wv rfl rfl rfl (R_bin rfl rfl rfl rfl rfl) <| wv rfl rfl rfl (R_assign rfl rfl) ?_
        refine W_nil ?_
        refine E_then ?_
        refine C_else rfl hC0 ?_
        refine C_skip ?_
        refine E_block_normal ?_
        refine E_then ?_
        refine C_seq ?_
        refine C_region ?_
        refine wv rfl rfl rfl (R_move rfl rfl) <| wv rfl rfl rfl (R_move rfl rfl) <| wv rfl rfl rfl (R_move rfl rfl) <| wv rfl rfl rfl (R_stridx rfl rfl rfl Tryd.underlying9 (by omega) (by omega)) ?_
        refine W_cons rfl (by decide) (S_row (d := (kint .u8)) (q := zE) hS ([((a0.getD 0 0).toNat : Int)] : List Int) rfl (R_buildSlice (ps := [(0, (.tmp 38))]) (vs := [.int .u8 ((a0.getD 0 0).toNat : Int)]) (w' := w.alloc (.cells [.int .u8 ((a0.getD 0 0).toNat : Int)].toArray 5)) (r := .slice (some ⟨w.heap.size, 0, none⟩) 1 1) rfl rfl rfl (by kernel_rfl)) (by simp [Reps, flat, kint]) rfl (by decide) (fun g29 w28 hS => ?_))
        refine W_cons rfl (by decide) (S_append0 zE hS rfl rfl elem44 rfl rfl (hS.sow 0 rfl (fun _ _ h => h)) (by simp) (by (try simp only [List.length_cons, List.length_nil, List.length_append, maxLen]); omega) (by (try simp only [List.length_cons, List.length_nil, List.length_append, maxLen]); omega) (fun Ar31 cr31 w30 hS => ?_))
        have hp32 := hS.cap 0 rfl
        have hlhp32 := hp32.le
        have hmhp32 := hp32.mx
        refine wv rfl rfl rfl (R_assign rfl rfl) ?_
        refine W_nil ?_
        refine E_then (C_fr [(0, vstr a0), (1, .func (.func ga1) #[] ka1.toArray), (5, .int .i64 0), (6, .slice Ar31 ([((a0.getD 0 0).toNat : Int)] : List Int).length cr31)] rfl ?_)
        refine C_seq ?_
        refine C_region ?_
        refine wv rfl rfl rfl (R_move rfl rfl) <| wv rfl rfl rfl (R_add64 rfl rfl rfl (by omega) (by omega)) <| wv rfl rfl rfl (R_assign rfl rfl) ?_
        refine W_nil ?_
        refine E_then ?_
        refine C_seq ?_
        refine C_goto ?_
        refine E_then_goto ?_
        have hS := hS.toZ 0 rfl
        have hs33 : ([((a0.getD 0 0).toNat : Int)] : List Int) = ub ([] ++ [a0.getD 0 0] : St) := by simp [ub]
        have hS := hS.reZ 0 rfl hs33
        have hs34 : 0 + 1 = ((0 + 1 : Nat) : Int) := by omega
        have hh35 : [] = ([] : Tells) := by simp
        have hS := hS.cbr Ra1 2 rfl hh35
        refine E_jump (m := 2 * (a0.length - (0 + 1 : Nat)) + 2) [0, 1, 5, 6] (by decide) (fun _ h_ => by cases h_) ⟨(0 + 1 : Nat), ([] : Tells), ([] ++ [a0.getD 0 0] : St), Ar31, cr31, (blk Ar31), ya1, (by rw [← hs33, ← hs34] <;> rfl), (by omega), (by first | (simp; done) | (simp at *; omega) | omega), (by first | (simp; done) | (simp at *; omega) | omega), (by exact Left.B_next (Left.F_bare hJ0_3 (by intro h_; first | exact mt u34.2 (by assumption) | omega)) (by omega) (mt u44.2 (by assumption)) (mt u13.2 (by assumption)) (mt u10.2 (by assumption)) (mt u34.2 (by assumption))), rfl, hS.fin [0, 2] (by decide) rfl⟩
  ·have _hg11 := trivial
   have hg11p : ¬ (0 < (a0.length : Int)) := by simpa using hg11
   refine W_cons rfl (by decide) (Sv_off rfl rfl rfl (by rw [hg11] <;> rfl) ?_)
   refine W_cons rfl (by decide) (Sv_off rfl rfl rfl (by rw [hg11] <;> rfl) ?_)
   refine W_cons rfl (by decide) (Sv_off rfl rfl rfl (by rw [hg11] <;> rfl) ?_)
   refine W_cons rfl (by decide) (Sv_off rfl rfl rfl (by rw [hg11] <;> rfl) ?_)
   refine wv rfl rfl rfl (R_pick_f rfl rfl hg11 rfl) ?_
   refine W_nil ?_
   refine E_then (C_fr [(0, vstr a0), (1, .func (.func ga1) #[] ka1.toArray), (5, .int .i64 0), (6, .slice none ([] : List Int).length 0), (18, .bool false)] rfl ?_)
   refine C_else rfl rfl ?_
   refine C_skip ?_
   refine E_then ?_
   refine C_seq ?_
   refine C_label ?_
   refine E_then ?_
   refine C_seq ?_
   refine C_seq ?_
   refine C_region ?_
   refine wv rfl rfl rfl (R_move rfl rfl) <| wv rfl rfl rfl (R_move rfl rfl) <| wv rfl rfl rfl (R_strlen rfl rfl Tryd.underlying9) <| wv rfl rfl rfl (R_bin rfl rfl rfl rfl rfl) ?_
   refine W_nil ?_
   refine E_then ?_
   refine C_ite rfl (fun hC1 => ?_) (fun hC1 => ?_)
   ·have _hC1 := trivial
    have hC1p : 0 = (a0.length : Int) := by simpa using hC1
    refine C_goto ?_
    refine E_then_goto ?_
    have hS := hS.zrow (kint .u8) 5 none
    have hs37 : ([] : List Int) = ub ([] : St) := by simp [ub]
    have hS := hS.reZ 0 rfl hs37
    have hh38 : [] = ([] : Tells) := by simp
    have hS := hS.cbr Ra1 1 rfl hh38
    refine E_jump (m := 0) [1, 6] (by decide) (fun _ h_ => by cases h_) ⟨(0 : Nat), ([] : Tells), ([] : St), none, 0, [], ya1, (by rw [← hs37] <;> rfl), (by omega), (by first | (simp; done) | (simp at *; omega) | omega), (by first | (simp; done) | (simp at *; omega) | omega), (by exact Left.B_end (Left.F_bare hJ0_3 (by intro h_; first | exact mt u34.2 (by assumption) | omega)) (by omega)), rfl, hS.fin [0, 1] (by decide) rfl⟩
   ·have _hC1 := trivial
    have hC1p : ¬ (0 = (a0.length : Int)) := by simpa using hC1
    refine C_skip ?_
    refine E_then (C_fr [(0, vstr a0), (1, .func (.func ga1) #[] ka1.toArray), (5, .int .i64 0), (6, .slice none ([] : List Int).length 0)] rfl ?_)
    refine C_seq ?_
    refine C_seq ?_
    refine C_region ?_
    refine wv rfl rfl rfl (R_move rfl rfl) <| wv rfl rfl rfl (R_move rfl rfl) <| wv rfl rfl rfl (R_stridx rfl rfl rfl Tryd.underlying9 (by omega) (by omega)) ?_
    refine W_nil ?_
    refine E_then ?_
    refine C_block ?_
    refine C_seq ?_
    refine C_seq ?_
    refine C_region ?_
    refine wv rfl rfl rfl (R_bin rfl rfl rfl rfl rfl) <| wv rfl rfl rfl (R_assign rfl rfl) ?_
    refine W_nil ?_
    refine E_then ?_
    refine C_ite rfl (fun hC2 => ?_) (fun hC2 => ?_)
    ·have _hC2 := trivial
     have hC2p : ((a0.getD 0 0).toNat : Int) = 44 := by simpa using hC2
     refine C_skip ?_
     refine E_then ?_
     refine C_if rfl hC2 ?_
     refine C_goto ?_
     refine E_block_goto ?_
     refine E_then_goto ?_
     have hS := hS.zrow (kint .u8) 5 none
     have hs40 : ([] : List Int) = ub ([] : St) := by simp [ub]
     have hS := hS.reZ 0 rfl hs40
     have hs41 : 0 = ((0 : Nat) : Int) := by omega
     have hh42 : [] = ([] : Tells) := by simp
     have hS := hS.cbr Ra1 1 rfl hh42
     refine E_jump (m := 2 * (a0.length - (0 : Nat)) + 1) [0, 1, 5, 6] (by decide) (fun _ h_ => by cases h_) ⟨(0 : Nat), ([] : Tells), ([] : St), none, 0, [], ya1, (by rw [← hs40, ← hs41] <;> rfl), (by omega), (by first | (simp; done) | (simp at *; omega) | omega), (by first | (simp; done) | (simp at *; omega) | omega), (by exact Left.B_P (Left.F_bare hJ0_3 (by intro h_; first | exact mt u34.2 (by assumption) | omega)) (by omega) (.inl (u44.1 (by assumption)))), (by intro _; have h_ : a0.getD 0 0 = 44 := (u44.1 (by assumption)); rw [h_]; decide), rfl, hS.fin [0, 1] (by decide) rfl⟩
    ·have _hC2 := trivial
     have hC2p : ¬ (((a0.getD 0 0).toNat : Int) = 44) := by simpa using hC2
     refine C_region ?_
     refine wv rfl rfl rfl (R_bin rfl rfl rfl rfl rfl) <| wv rfl rfl rfl (R_assign rfl rfl) ?_
     refine W_nil ?_
     refine E_then ?_
     refine C_ite rfl (fun hC3 => ?_) (fun hC3 => ?_)
     ·have _hC3 := trivial
      have hC3p : ((a0.getD 0 0).toNat : Int) = 13 := by simpa using hC3
      refine C_goto ?_
      refine E_block_goto ?_
      refine E_then_goto ?_
      have hS := hS.zrow (kint .u8) 5 none
      have hs44 : ([] : List Int) = ub ([] : St) := by simp [ub]
      have hS := hS.reZ 0 rfl hs44
      have hs45 : 0 = ((0 : Nat) : Int) := by omega
      have hh46 : [] = ([] : Tells) := by simp
      have hS := hS.cbr Ra1 1 rfl hh46
      refine E_jump (m := 2 * (a0.length - (0 : Nat)) + 1) [0, 1, 5, 6] (by decide) (fun _ h_ => by cases h_) ⟨(0 : Nat), ([] : Tells), ([] : St), none, 0, [], ya1, (by rw [← hs44, ← hs45] <;> rfl), (by omega), (by first | (simp; done) | (simp at *; omega) | omega), (by first | (simp; done) | (simp at *; omega) | omega), (by exact Left.B_P (Left.F_bare hJ0_3 (by intro h_; first | exact mt u34.2 (by assumption) | omega)) (by omega) (.inr (u13.1 (by assumption)))), (by intro _; have h_ : a0.getD 0 0 = 13 := (u13.1 (by assumption)); rw [h_]; decide), rfl, hS.fin [0, 1] (by decide) rfl⟩
     ·have _hC3 := trivial
      have hC3p : ¬ (((a0.getD 0 0).toNat : Int) = 13) := by simpa using hC3
      refine C_seq ?_
      refine C_seq ?_
      refine C_region ?_
      refine wv rfl rfl rfl (R_bin rfl rfl rfl rfl rfl) <| wv rfl rfl rfl (R_assign rfl rfl) ?_
      refine W_nil ?_
      refine E_then (C_fr [(0, vstr a0), (1, .func (.func ga1) #[] ka1.toArray), (5, .int .i64 0), (6, .slice none ([] : List Int).length 0), (27, .int .u8 ((a0.getD 0 0).toNat : Int)), (31, .bool (((a0.getD 0 0).toNat : Int) == 10))] rfl ?_)
      refine C_ite rfl (fun hC4 => ?_) (fun hC4 => ?_)
      ·have _hC4 := trivial
       have hC4p : ((a0.getD 0 0).toNat : Int) = 10 := by simpa using hC4
       refine C_skip ?_
       refine E_then ?_
       refine C_if rfl hC4 ?_
       refine C_seq ?_
       refine C_region ?_
       refine wv rfl rfl rfl (R_move rfl rfl) <| wv rfl rfl rfl (R_assign rfl rfl) ?_
       refine W_nil ?_
       refine E_then (C_fr [(4, .int .i64 0)] rfl ?_)
       refine C_ret ?_
       refine E_block_ret ?_
       refine E_then_ret ?_
       refine E_scope_ret ?_
       have hh47 : [] = (run .F a0 0 []).1 := by first | (exact congrArg Prod.fst (Left.B_bad (Left.F_bare hJ0_3 (by intro h_; first | exact mt u34.2 (by assumption) | omega)) (by omega) (by first | exact .inl (u10.1 (by assumption)) | exact .inr (u34.1 (by assumption))))) | (exact congrArg Prod.fst (Left.B_bad hJ3_3 (by omega) (by first | exact .inl (u10.1 (by assumption)) | exact .inr (u34.1 (by assumption))))) | (exact congrArg Prod.fst (Left.Q_end hJ1_3 (by omega))) | (exact congrArg Prod.fst (hJ2_3)) | (exact congrArg Prod.fst (Left.P_bad (Left.Q_quote hJ1_3 (by omega) (u34.1 (by assumption))) (by omega) (by first | exact mt u34.2 (by assumption) | omega) (mt u44.2 (by assumption)) (mt u13.2 (by assumption)))) | (exact congrArg Prod.fst (Left.R_bad (Left.P_cr (Left.Q_quote hJ1_3 (by omega) (u34.1 (by assumption))) (by omega) (u13.1 (by assumption))) (by intro h_; first | exact mt u10.2 (by assumption) | omega))) | (exact congrArg Prod.fst (Left.R_end (Left.P_cr (Left.Q_quote hJ1_3 (by omega) (u34.1 (by assumption))) (by omega) (u13.1 (by assumption))) (by omega) (u10.1 (by assumption)))) | (exact congrArg Prod.fst (Left.P_bad hJ4_3 (by omega) (hJ4_4 (by omega)) (mt u44.2 (by assumption)) (mt u13.2 (by assumption)))) | (exact congrArg Prod.fst (Left.R_bad (Left.P_cr hJ4_3 (by omega) (u13.1 (by assumption))) (by intro h_; first | exact mt u10.2 (by assumption) | omega))) | (exact congrArg Prod.fst (Left.R_end (Left.P_cr hJ4_3 (by omega) (u13.1 (by assumption))) (by omega) (u10.1 (by assumption))))
       have hS := hS.cbr Ra1 0 rfl hh47
       refine E_ret1 rfl rfl ?_
       exact ⟨ya1, Lret1 (Lint (show 0 = (run .F a0 0 []).2 by first | (exact congrArg Prod.snd (Left.B_bad (Left.F_bare hJ0_3 (by intro h_; first | exact mt u34.2 (by assumption) | omega)) (by omega) (by first | exact .inl (u10.1 (by assumption)) | exact .inr (u34.1 (by assumption))))) | (exact congrArg Prod.snd (Left.B_bad hJ3_3 (by omega) (by first | exact .inl (u10.1 (by assumption)) | exact .inr (u34.1 (by assumption))))) | (exact congrArg Prod.snd (Left.Q_end hJ1_3 (by omega))) | (exact congrArg Prod.snd (hJ2_3)) | (exact congrArg Prod.snd (Left.P_bad (Left.Q_quote hJ1_3 (by omega) (u34.1 (by assumption))) (by omega) (by first | exact mt u34.2 (by assumption) | omega) (mt u44.2 (by assumption)) (mt u13.2 (by assumption)))) | (exact congrArg Prod.snd (Left.R_bad (Left.P_cr (Left.Q_quote hJ1_3 (by omega) (u34.1 (by assumption))) (by omega) (u13.1 (by assumption))) (by intro h_; first | exact mt u10.2 (by assumption) | omega))) | (exact congrArg Prod.snd (Left.R_end (Left.P_cr (Left.Q_quote hJ1_3 (by omega) (u34.1 (by assumption))) (by omega) (u13.1 (by assumption))) (by omega) (u10.1 (by assumption)))) | (exact congrArg Prod.snd (Left.P_bad hJ4_3 (by omega) (hJ4_4 (by omega)) (mt u44.2 (by assumption)) (mt u13.2 (by assumption)))) | (exact congrArg Prod.snd (Left.R_bad (Left.P_cr hJ4_3 (by omega) (u13.1 (by assumption))) (by intro h_; first | exact mt u10.2 (by assumption) | omega))) | (exact congrArg Prod.snd (Left.R_end (Left.P_cr hJ4_3 (by omega) (u13.1 (by assumption))) (by omega) (u10.1 (by assumption)))))), hS.fin [0] (by decide) rfl⟩
      ·have _hC4 := trivial
       have hC4p : ¬ (((a0.getD 0 0).toNat : Int) = 10) := by simpa using hC4
       refine C_region ?_
       refine wv rfl rfl rfl (R_bin rfl rfl rfl rfl rfl) <| wv rfl rfl rfl (R_assign rfl rfl) ?_
       refine W_nil ?_
       refine E_then ?_
       refine C_ite rfl (fun hC5 => ?_) (fun hC5 => ?_)
       ·have _hC5 := trivial
        have hC5p : ((a0.getD 0 0).toNat : Int) = 34 := by simpa using hC5
        refine C_seq ?_
        refine C_region ?_
        refine wv rfl rfl rfl (R_move rfl rfl) <| wv rfl rfl rfl (R_assign rfl rfl) ?_
        refine W_nil ?_
        refine E_then (C_fr [(4, .int .i64 0)] rfl ?_)
        refine C_ret ?_
        refine E_block_ret ?_
        refine E_then_ret ?_
        refine E_scope_ret ?_
        have hh48 : [] = (run .F a0 0 []).1 := by first | (exact congrArg Prod.fst (Left.B_bad (Left.F_bare hJ0_3 (by intro h_; first | exact mt u34.2 (by assumption) | omega)) (by omega) (by first | exact .inl (u10.1 (by assumption)) | exact .inr (u34.1 (by assumption))))) | (exact congrArg Prod.fst (Left.B_bad hJ3_3 (by omega) (by first | exact .inl (u10.1 (by assumption)) | exact .inr (u34.1 (by assumption))))) | (exact congrArg Prod.fst (Left.Q_end hJ1_3 (by omega))) | (exact congrArg Prod.fst (hJ2_3)) | (exact congrArg Prod.fst (Left.P_bad (Left.Q_quote hJ1_3 (by omega) (u34.1 (by assumption))) (by omega) (by first | exact mt u34.2 (by assumption) | omega) (mt u44.2 (by assumption)) (mt u13.2 (by assumption)))) | (exact congrArg Prod.fst (Left.R_bad (Left.P_cr (Left.Q_quote hJ1_3 (by omega) (u34.1 (by assumption))) (by omega) (u13.1 (by assumption))) (by intro h_; first | exact mt u10.2 (by assumption) | omega))) | (exact congrArg Prod.fst (Left.R_end (Left.P_cr (Left.Q_quote hJ1_3 (by omega) (u34.1 (by assumption))) (by omega) (u13.1 (by assumption))) (by omega) (u10.1 (by assumption)))) | (exact congrArg Prod.fst (Left.P_bad hJ4_3 (by omega) (hJ4_4 (by omega)) (mt u44.2 (by assumption)) (mt u13.2 (by assumption)))) | (exact congrArg Prod.fst (Left.R_bad (Left.P_cr hJ4_3 (by omega) (u13.1 (by assumption))) (by intro h_; first | exact mt u10.2 (by assumption) | omega))) | (exact congrArg Prod.fst (Left.R_end (Left.P_cr hJ4_3 (by omega) (u13.1 (by assumption))) (by omega) (u10.1 (by assumption))))
        have hS := hS.cbr Ra1 0 rfl hh48
        refine E_ret1 rfl rfl ?_
        exact ⟨ya1, Lret1 (Lint (show 0 = (run .F a0 0 []).2 by first | (exact congrArg Prod.snd (Left.B_bad (Left.F_bare hJ0_3 (by intro h_; first | exact mt u34.2 (by assumption) | omega)) (by omega) (by first | exact .inl (u10.1 (by assumption)) | exact .inr (u34.1 (by assumption))))) | (exact congrArg Prod.snd (Left.B_bad hJ3_3 (by omega) (by first | exact .inl (u10.1 (by assumption)) | exact .inr (u34.1 (by assumption))))) | (exact congrArg Prod.snd (Left.Q_end hJ1_3 (by omega))) | (exact congrArg Prod.snd (hJ2_3)) | (exact congrArg Prod.snd (Left.P_bad (Left.Q_quote hJ1_3 (by omega) (u34.1 (by assumption))) (by omega) (by first | exact mt u34.2 (by assumption) | omega) (mt u44.2 (by assumption)) (mt u13.2 (by assumption)))) | (exact congrArg Prod.snd (Left.R_bad (Left.P_cr (Left.Q_quote hJ1_3 (by omega) (u34.1 (by assumption))) (by omega) (u13.1 (by assumption))) (by intro h_; first | exact mt u10.2 (by assumption) | omega))) | (exact congrArg Prod.snd (Left.R_end (Left.P_cr (Left.Q_quote hJ1_3 (by omega) (u34.1 (by assumption))) (by omega) (u13.1 (by assumption))) (by omega) (u10.1 (by assumption)))) | (exact congrArg Prod.snd (Left.P_bad hJ4_3 (by omega) (hJ4_4 (by omega)) (mt u44.2 (by assumption)) (mt u13.2 (by assumption)))) | (exact congrArg Prod.snd (Left.R_bad (Left.P_cr hJ4_3 (by omega) (u13.1 (by assumption))) (by intro h_; first | exact mt u10.2 (by assumption) | omega))) | (exact congrArg Prod.snd (Left.R_end (Left.P_cr hJ4_3 (by omega) (u13.1 (by assumption))) (by omega) (u10.1 (by assumption)))))), hS.fin [0] (by decide) rfl⟩
       ·have _hC5 := trivial
        have hC5p : ¬ (((a0.getD 0 0).toNat : Int) = 34) := by simpa using hC5
        refine C_skip ?_
        refine E_block_normal ?_
        refine E_then ?_
        refine C_seq ?_
        refine C_region ?_
        refine wv rfl rfl rfl (R_move rfl rfl) <| wv rfl rfl rfl (R_move rfl rfl) <| wv rfl rfl rfl (R_move rfl rfl) <| wv rfl rfl rfl (R_stridx rfl rfl rfl Tryd.underlying9 (by omega) (by omega)) ?_
        refine W_cons rfl (by decide) (S_row (d := (kint .u8)) (q := zE) hS ([((a0.getD 0 0).toNat : Int)] : List Int) rfl (R_buildSlice (ps := [(0, (.tmp 38))]) (vs := [.int .u8 ((a0.getD 0 0).toNat : Int)]) (w' := w.alloc (.cells [.int .u8 ((a0.getD 0 0).toNat : Int)].toArray 5)) (r := .slice (some ⟨w.heap.size, 0, none⟩) 1 1) rfl rfl rfl (by kernel_rfl)) (by simp [Reps, flat, kint]) rfl (by decide) (fun g50 w49 hS => ?_))
        refine W_cons rfl (by decide) (S_append0 zE hS rfl rfl elem44 rfl rfl (hS.sow 0 rfl (fun _ _ h => h)) (by simp) (by (try simp only [List.length_cons, List.length_nil, List.length_append, maxLen]); omega) (by (try simp only [List.length_cons, List.length_nil, List.length_append, maxLen]); omega) (fun Ar52 cr52 w51 hS => ?_))
        have hp53 := hS.cap 0 rfl
        have hlhp53 := hp53.le
        have hmhp53 := hp53.mx
        refine wv rfl rfl rfl (R_assign rfl rfl) ?_
        refine W_nil ?_
        refine E_then (C_fr [(0, vstr a0), (1, .func (.func ga1) #[] ka1.toArray), (5, .int .i64 0), (6, .slice Ar52 ([((a0.getD 0 0).toNat : Int)] : List Int).length cr52)] rfl ?_)
        refine C_seq ?_
        refine C_region ?_
        refine wv rfl rfl rfl (R_move rfl rfl) <| wv rfl rfl rfl (R_add64 rfl rfl rfl (by omega) (by omega)) <| wv rfl rfl rfl (R_assign rfl rfl) ?_
        refine W_nil ?_
        refine E_then ?_
        refine C_seq ?_
        refine C_goto ?_
        refine E_then_goto ?_
        have hS := hS.toZ 0 rfl
        have hs54 : ([((a0.getD 0 0).toNat : Int)] : List Int) = ub ([] ++ [a0.getD 0 0] : St) := by simp [ub]
        have hS := hS.reZ 0 rfl hs54
        have hs55 : 0 + 1 = ((0 + 1 : Nat) : Int) := by omega
        have hh56 : [] = ([] : Tells) := by simp
        have hS := hS.cbr Ra1 2 rfl hh56
        refine E_jump (m := 2 * (a0.length - (0 + 1 : Nat)) + 2) [0, 1, 5, 6] (by decide) (fun _ h_ => by cases h_) ⟨(0 + 1 : Nat), ([] : Tells), ([] ++ [a0.getD 0 0] : St), Ar52, cr52, (blk Ar52), ya1, (by rw [← hs54, ← hs55] <;> rfl), (by omega), (by first | (simp; done) | (simp at *; omega) | omega), (by first | (simp; done) | (simp at *; omega) | omega), (by exact Left.B_next (Left.F_bare hJ0_3 (by intro h_; first | exact mt u34.2 (by assumption) | omega)) (by omega) (mt u44.2 (by assumption)) (mt u13.2 (by assumption)) (mt u10.2 (by assumption)) (mt u34.2 (by assumption))), rfl, hS.fin [0, 2] (by decide) rfl⟩
 ·refine ⟨_, rfl, ?_⟩
  rintro m_ f_ w57 ⟨n, h, t, Ar1, cr1, Lr1, y2, rfl, hJ0_0, hJ0_1, hJ0_2, hJ0_3, rfl, hS⟩
  have hlr1 := (hS.lez 0 rfl).1
  have hmr1 := (hS.lez 0 rfl).2
  have hub := ub_len t
  refine C_seq ?_
  refine C_skip ?_
  refine E_then ?_
  refine C_seq ?_
  refine C_region ?_
  refine wv rfl rfl rfl (R_move rfl rfl) <| wv rfl rfl rfl (R_slice0 rfl rfl rfl rfl (by kernel_rfl) ⟨_, size5 _⟩) <| wv rfl rfl rfl (R_assign rfl rfl) ?_
  refine W_nil ?_
  refine E_then ?_
  refine C_seq ?_
  refine C_seq ?_
  refine C_region ?_
  refine wv rfl rfl rfl (R_move rfl rfl) <| wv rfl rfl rfl (R_move rfl rfl) <| wv rfl rfl rfl (R_strlen rfl rfl Tryd.underlying9) <| wv rfl rfl rfl (R_bin rfl rfl rfl rfl rfl) <| wv rfl rfl rfl (R_move rfl rfl) ?_
  refine W_split (t := 13) rfl (fun hg58 => ?_) (fun hg58 => ?_)
  ·have _hg58 := trivial
   have hg58p : (n : Int) < (a0.length : Int) := by simpa using hg58
   refine W_cons rfl (by decide) (Sv_gt rfl rfl rfl hg58 (Sv_val rfl (R_move rfl rfl) ?_))
   refine W_cons rfl (by decide) (Sv_gt rfl rfl rfl hg58 (Sv_val rfl (R_move rfl rfl) ?_))
   refine W_cons rfl (by decide) (Sv_gt rfl rfl rfl hg58 (Sv_val rfl (R_stridx rfl rfl rfl Tryd.underlying9 (by omega) (by omega)) ?_))
   refine W_cons rfl (by decide) (Sv_gt rfl rfl rfl hg58 (Sv_val rfl (R_bin rfl rfl rfl rfl rfl) ?_))
   refine wv rfl rfl rfl (R_pick_t rfl rfl hg58 rfl) ?_
   refine W_nil ?_
   refine E_then (C_fr [(0, vstr a0), (1, .func (.func ga1) #[] ka1.toArray), (5, .int .i64 (n : Int)), (6, .slice Ar1 ([] : List Int).length 0), (18, .bool (((a0.getD n 0).toNat : Int) == 34))] rfl ?_)
   refine C_ite rfl (fun hC0 => ?_) (fun hC0 => ?_)
   ·have _hC0 := trivial
    have hC0p : ((a0.getD n 0).toNat : Int) = 34 := by simpa using hC0
    refine C_seq ?_
    refine C_region ?_
    refine wv rfl rfl rfl (R_move rfl rfl) <| wv rfl rfl rfl (R_add64 rfl rfl rfl (by omega) (by omega)) <| wv rfl rfl rfl (R_assign rfl rfl) ?_
    refine W_nil ?_
    refine E_then ?_
    refine C_goto ?_
    refine E_then_goto ?_
    have hS := hS.zrow (kint .u8) 5 Ar1
    have hs60 : ([] : List Int) = ub ([] : St) := by simp [ub]
    have hS := hS.reZ 0 rfl hs60
    have hs61 : (n : Int) + 1 = ((n + 1 : Nat) : Int) := by omega
    have hh62 : h = (h : Tells) := by simp
    have hS := hS.cbr Ra1 2 rfl hh62
    refine E_jump (m := 2 * (a0.length - (n + 1 : Nat)) + 2) [0, 1, 5, 6] (by decide) (fun _ h_ => by cases h_; omega) ⟨(n + 1 : Nat), (h : Tells), ([] : St), Ar1, 0, [], y2, (by rw [← hs60, ← hs61] <;> rfl), (by omega), (by first | (simp; done) | (simp at *; omega) | omega), (by first | (simp; done) | (simp at *; omega) | omega), (by exact Left.F_quote hJ0_3 (by omega) (u34.1 (by assumption))), rfl, hS.fin [0, 2] (by decide) rfl⟩
   ·have _hC0 := trivial
    have hC0p : ¬ (((a0.getD n 0).toNat : Int) = 34) := by simpa using hC0
    refine C_skip ?_
    refine E_then ?_
    refine C_seq ?_
    refine C_label ?_
    refine E_then ?_
    refine C_seq ?_
    refine C_seq ?_
    refine C_region ?_
    refine wv rfl rfl rfl (R_move rfl rfl) <| wv rfl rfl rfl (R_move rfl rfl) <| wv rfl rfl rfl (R_strlen rfl rfl Tryd.underlying9) <| wv rfl rfl rfl (R_bin rfl rfl rfl rfl rfl) ?_
    refine W_nil ?_
    refine E_then ?_
    refine C_ite rfl (fun hC1 => ?_) (fun hC1 => ?_)
    ·have _hC1 := trivial
     have hC1p : (n : Int) = (a0.length : Int) := by simpa using hC1
     refine C_goto ?_
     refine E_then_goto ?_
     have hS := hS.zrow (kint .u8) 5 Ar1
     have hs64 : ([] : List Int) = ub ([] : St) := by simp [ub]
     have hS := hS.reZ 0 rfl hs64
     have hh65 : h = (h : Tells) := by simp
     have hS := hS.cbr Ra1 2 rfl hh65
     refine E_jump (m := 0) [1, 6] (by decide) (fun _ h_ => by cases h_; omega) ⟨(n : Nat), (h : Tells), ([] : St), Ar1, 0, [], y2, (by rw [← hs64] <;> rfl), (by omega), (by first | (simp; done) | (simp at *; omega) | omega), (by first | (simp; done) | (simp at *; omega) | omega), (by exact Left.B_end (Left.F_bare hJ0_3 (by intro h_; first | exact mt u34.2 (by assumption) | omega)) (by omega)), rfl, hS.fin [0, 2] (by decide) rfl⟩
    ·have _hC1 := trivial
     have hC1p : ¬ ((n : Int) = (a0.length : Int)) := by simpa using hC1
     refine C_skip ?_
     refine E_then (C_fr [(0, vstr a0), (1, .func (.func ga1) #[] ka1.toArray), (5, .int .i64 (n : Int)), (6, .slice Ar1 ([] : List Int).length 0)] rfl ?_)
     refine C_seq ?_
     refine C_seq ?_
     refine C_region ?_
     refine wv rfl rfl rfl (R_move rfl rfl) <| wv rfl rfl rfl (R_move rfl rfl) <| wv rfl rfl rfl (R_stridx rfl rfl rfl Tryd.underlying9 (by omega) (by omega)) ?_
     refine W_nil ?_
     refine E_then ?_
     refine C_block ?_
     refine C_seq ?_
     refine C_seq ?_
     refine C_region ?_
     refine wv rfl rfl rfl (R_bin rfl rfl rfl rfl rfl) <| wv rfl rfl rfl (R_assign rfl rfl) ?_
     refine W_nil ?_
     refine E_then ?_
     refine C_ite rfl (fun hC2 => ?_) (fun hC2 => ?_)
     ·have _hC2 := trivial
      have hC2p : ((a0.getD n 0).toNat : Int) = 44 := by simpa using hC2
      refine C_skip ?_
      refine E_then ?_
      refine C_if rfl hC2 ?_
      refine C_goto ?_
      refine E_block_goto ?_
      refine E_then_goto ?_
      have hS := hS.zrow (kint .u8) 5 Ar1
      have hs67 : ([] : List Int) = ub ([] : St) := by simp [ub]
      have hS := hS.reZ 0 rfl hs67
      have hs68 : (n : Int) = ((n : Nat) : Int) := by omega
      have hh69 : h = (h : Tells) := by simp
      have hS := hS.cbr Ra1 2 rfl hh69
      refine E_jump (m := 2 * (a0.length - (n : Nat)) + 1) [0, 1, 5, 6] (by decide) (fun _ h_ => by cases h_; omega) ⟨(n : Nat), (h : Tells), ([] : St), Ar1, 0, [], y2, (by rw [← hs67, ← hs68] <;> rfl), (by omega), (by first | (simp; done) | (simp at *; omega) | omega), (by first | (simp; done) | (simp at *; omega) | omega), (by exact Left.B_P (Left.F_bare hJ0_3 (by intro h_; first | exact mt u34.2 (by assumption) | omega)) (by omega) (.inl (u44.1 (by assumption)))), (by intro _; have h_ : a0.getD n 0 = 44 := (u44.1 (by assumption)); rw [h_]; decide), rfl, hS.fin [0, 2] (by decide) rfl⟩
     ·have _hC2 := trivial
      have hC2p : ¬ (((a0.getD n 0).toNat : Int) = 44) := by simpa using hC2
      refine C_region ?_
      refine wv rfl rfl rfl (R_bin rfl rfl rfl rfl rfl) <| wv rfl rfl rfl (R_assign rfl rfl) ?_
      refine W_nil ?_
      refine E_then ?_
      refine C_ite rfl (fun hC3 => ?_) (fun hC3 => ?_)
      ·have _hC3 := trivial
       have hC3p : ((a0.getD n 0).toNat : Int) = 13 := by simpa using hC3
       refine C_goto ?_
       refine E_block_goto ?_
       refine E_then_goto ?_
       have hS := hS.zrow (kint .u8) 5 Ar1
       have hs71 : ([] : List Int) = ub ([] : St) := by simp [ub]
       have hS := hS.reZ 0 rfl hs71
       have hs72 : (n : Int) = ((n : Nat) : Int) := by omega
       have hh73 : h = (h : Tells) := by simp
       have hS := hS.cbr Ra1 2 rfl hh73
       refine E_jump (m := 2 * (a0.length - (n : Nat)) + 1) [0, 1, 5, 6] (by decide) (fun _ h_ => by cases h_; omega) ⟨(n : Nat), (h : Tells), ([] : St), Ar1, 0, [], y2, (by rw [← hs71, ← hs72] <;> rfl), (by omega), (by first | (simp; done) | (simp at *; omega) | omega), (by first | (simp; done) | (simp at *; omega) | omega), (by exact Left.B_P (Left.F_bare hJ0_3 (by intro h_; first | exact mt u34.2 (by assumption) | omega)) (by omega) (.inr (u13.1 (by assumption)))), (by intro _; have h_ : a0.getD n 0 = 13 := (u13.1 (by assumption)); rw [h_]; decide), rfl, hS.fin [0, 2] (by decide) rfl⟩
      ·have _hC3 := trivial
       have hC3p : ¬ (((a0.getD n 0).toNat : Int) = 13) := by simpa using hC3
       refine C_seq ?_
       refine C_seq ?_
       refine C_region ?_
       refine wv rfl rfl rfl (R_bin rfl rfl rfl rfl rfl) <| wv rfl rfl rfl (R_assign rfl rfl) ?_
       refine W_nil ?_
       refine E_then (C_fr [(0, vstr a0), (1, .func (.func ga1) #[] ka1.toArray), (5, .int .i64 (n : Int)), (6, .slice Ar1 ([] : List Int).length 0), (27, .int .u8 ((a0.getD n 0).toNat : Int)), (31, .bool (((a0.getD n 0).toNat : Int) == 10))] rfl ?_)
       refine C_ite rfl (fun hC4 => ?_) (fun hC4 => ?_)
       ·have _hC4 := trivial
        have hC4p : ((a0.getD n 0).toNat : Int) = 10 := by simpa using hC4
        refine C_skip ?_
        refine E_then ?_
        refine C_if rfl hC4 ?_
        refine C_seq ?_
        refine C_region ?_
        refine wv rfl rfl rfl (R_move rfl rfl) <| wv rfl rfl rfl (R_assign rfl rfl) ?_
        refine W_nil ?_
        refine E_then (C_fr [(4, .int .i64 (n : Int))] rfl ?_)
        refine C_ret ?_
        refine E_block_ret ?_
        refine E_then_ret ?_
        refine E_scope_ret ?_
        have hh74 : h = (run .F a0 0 []).1 := by first | (exact congrArg Prod.fst (Left.B_bad (Left.F_bare hJ0_3 (by intro h_; first | exact mt u34.2 (by assumption) | omega)) (by omega) (by first | exact .inl (u10.1 (by assumption)) | exact .inr (u34.1 (by assumption))))) | (exact congrArg Prod.fst (Left.B_bad hJ3_3 (by omega) (by first | exact .inl (u10.1 (by assumption)) | exact .inr (u34.1 (by assumption))))) | (exact congrArg Prod.fst (Left.Q_end hJ1_3 (by omega))) | (exact congrArg Prod.fst (hJ2_3)) | (exact congrArg Prod.fst (Left.P_bad (Left.Q_quote hJ1_3 (by omega) (u34.1 (by assumption))) (by omega) (by first | exact mt u34.2 (by assumption) | omega) (mt u44.2 (by assumption)) (mt u13.2 (by assumption)))) | (exact congrArg Prod.fst (Left.R_bad (Left.P_cr (Left.Q_quote hJ1_3 (by omega) (u34.1 (by assumption))) (by omega) (u13.1 (by assumption))) (by intro h_; first | exact mt u10.2 (by assumption) | omega))) | (exact congrArg Prod.fst (Left.R_end (Left.P_cr (Left.Q_quote hJ1_3 (by omega) (u34.1 (by assumption))) (by omega) (u13.1 (by assumption))) (by omega) (u10.1 (by assumption)))) | (exact congrArg Prod.fst (Left.P_bad hJ4_3 (by omega) (hJ4_4 (by omega)) (mt u44.2 (by assumption)) (mt u13.2 (by assumption)))) | (exact congrArg Prod.fst (Left.R_bad (Left.P_cr hJ4_3 (by omega) (u13.1 (by assumption))) (by intro h_; first | exact mt u10.2 (by assumption) | omega))) | (exact congrArg Prod.fst (Left.R_end (Left.P_cr hJ4_3 (by omega) (u13.1 (by assumption))) (by omega) (u10.1 (by assumption))))
        have hS := hS.cbr Ra1 1 rfl hh74
        refine E_ret1 rfl rfl ?_
        exact ⟨y2, Lret1 (Lint (show (n : Int) = (run .F a0 0 []).2 by first | (exact congrArg Prod.snd (Left.B_bad (Left.F_bare hJ0_3 (by intro h_; first | exact mt u34.2 (by assumption) | omega)) (by omega) (by first | exact .inl (u10.1 (by assumption)) | exact .inr (u34.1 (by assumption))))) | (exact congrArg Prod.snd (Left.B_bad hJ3_3 (by omega) (by first | exact .inl (u10.1 (by assumption)) | exact .inr (u34.1 (by assumption))))) | (exact congrArg Prod.snd (Left.Q_end hJ1_3 (by omega))) | (exact congrArg Prod.snd (hJ2_3)) | (exact congrArg Prod.snd (Left.P_bad (Left.Q_quote hJ1_3 (by omega) (u34.1 (by assumption))) (by omega) (by first | exact mt u34.2 (by assumption) | omega) (mt u44.2 (by assumption)) (mt u13.2 (by assumption)))) | (exact congrArg Prod.snd (Left.R_bad (Left.P_cr (Left.Q_quote hJ1_3 (by omega) (u34.1 (by assumption))) (by omega) (u13.1 (by assumption))) (by intro h_; first | exact mt u10.2 (by assumption) | omega))) | (exact congrArg Prod.snd (Left.R_end (Left.P_cr (Left.Q_quote hJ1_3 (by omega) (u34.1 (by assumption))) (by omega) (u13.1 (by assumption))) (by omega) (u10.1 (by assumption)))) | (exact congrArg Prod.snd (Left.P_bad hJ4_3 (by omega) (hJ4_4 (by omega)) (mt u44.2 (by assumption)) (mt u13.2 (by assumption)))) | (exact congrArg Prod.snd (Left.R_bad (Left.P_cr hJ4_3 (by omega) (u13.1 (by assumption))) (by intro h_; first | exact mt u10.2 (by assumption) | omega))) | (exact congrArg Prod.snd (Left.R_end (Left.P_cr hJ4_3 (by omega) (u13.1 (by assumption))) (by omega) (u10.1 (by assumption)))))), hS.fin [1] (by decide) rfl⟩
       ·have _hC4 := trivial
        have hC4p : ¬ (((a0.getD n 0).toNat : Int) = 10) := by simpa using hC4
        refine C_region ?_
        refine wv rfl rfl rfl (R_bin rfl rfl rfl rfl rfl) <| wv rfl rfl rfl (R_assign rfl rfl) ?_
        refine W_nil ?_
        refine E_then ?_
        refine C_else rfl hC0 ?_
        refine C_skip ?_
        refine E_block_normal ?_
        refine E_then ?_
        refine C_seq ?_
        refine C_region ?_
        refine wv rfl rfl rfl (R_move rfl rfl) <| wv rfl rfl rfl (R_move rfl rfl) <| wv rfl rfl rfl (R_move rfl rfl) <| wv rfl rfl rfl (R_stridx rfl rfl rfl Tryd.underlying9 (by omega) (by omega)) ?_
        refine W_cons rfl (by decide) (S_row (d := (kint .u8)) (q := zE) hS ([((a0.getD n 0).toNat : Int)] : List Int) rfl (R_buildSlice (ps := [(0, (.tmp 38))]) (vs := [.int .u8 ((a0.getD n 0).toNat : Int)]) (w' := w57.alloc (.cells [.int .u8 ((a0.getD n 0).toNat : Int)].toArray 5)) (r := .slice (some ⟨w57.heap.size, 0, none⟩) 1 1) rfl rfl rfl (by kernel_rfl)) (by simp [Reps, flat, kint]) rfl (by decide) (fun g76 w75 hS => ?_))
        refine W_cons rfl (by decide) (S_append0 zE hS rfl rfl elem44 rfl rfl (hS.sow 0 rfl (fun _ _ h => h)) (by simp) (by (try simp only [List.length_cons, List.length_nil, List.length_append, maxLen]); omega) (by (try simp only [List.length_cons, List.length_nil, List.length_append, maxLen]); omega) (fun Ar78 cr78 w77 hS => ?_))
        have hp79 := hS.cap 0 rfl
        have hlhp79 := hp79.le
        have hmhp79 := hp79.mx
        refine wv rfl rfl rfl (R_assign rfl rfl) ?_
        refine W_nil ?_
        refine E_then (C_fr [(0, vstr a0), (1, .func (.func ga1) #[] ka1.toArray), (5, .int .i64 (n : Int)), (6, .slice Ar78 ([((a0.getD n 0).toNat : Int)] : List Int).length cr78)] rfl ?_)
        refine C_seq ?_
        refine C_region ?_
        refine wv rfl rfl rfl (R_move rfl rfl) <| wv rfl rfl rfl (R_add64 rfl rfl rfl (by omega) (by omega)) <| wv rfl rfl rfl (R_assign rfl rfl) ?_
        refine W_nil ?_
        refine E_then ?_
        refine C_seq ?_
        refine C_goto ?_
        refine E_then_goto ?_
        have hS := hS.toZ 0 rfl
        have hs80 : ([((a0.getD n 0).toNat : Int)] : List Int) = ub ([] ++ [a0.getD n 0] : St) := by simp [ub]
        have hS := hS.reZ 0 rfl hs80
        have hs81 : (n : Int) + 1 = ((n + 1 : Nat) : Int) := by omega
        have hh82 : h = (h : Tells) := by simp
        have hS := hS.cbr Ra1 3 rfl hh82
        refine E_jump (m := 2 * (a0.length - (n + 1 : Nat)) + 2) [0, 1, 5, 6] (by decide) (fun _ h_ => by cases h_; omega) ⟨(n + 1 : Nat), (h : Tells), ([] ++ [a0.getD n 0] : St), Ar78, cr78, (blk Ar78), y2, (by rw [← hs80, ← hs81] <;> rfl), (by omega), (by first | (simp; done) | (simp at *; omega) | omega), (by first | (simp; done) | (simp at *; omega) | omega), (by exact Left.B_next (Left.F_bare hJ0_3 (by intro h_; first | exact mt u34.2 (by assumption) | omega)) (by omega) (mt u44.2 (by assumption)) (mt u13.2 (by assumption)) (mt u10.2 (by assumption)) (mt u34.2 (by assumption))), rfl, hS.fin [0, 3] (by decide) rfl⟩
  ·have _hg58 := trivial
   have hg58p : ¬ ((n : Int) < (a0.length : Int)) := by simpa using hg58
   refine W_cons rfl (by decide) (Sv_off rfl rfl rfl (by rw [hg58] <;> rfl) ?_)
   refine W_cons rfl (by decide) (Sv_off rfl rfl rfl (by rw [hg58] <;> rfl) ?_)
   refine W_cons rfl (by decide) (Sv_off rfl rfl rfl (by rw [hg58] <;> rfl) ?_)
   refine W_cons rfl (by decide) (Sv_off rfl rfl rfl (by rw [hg58] <;> rfl) ?_)
   refine wv rfl rfl rfl (R_pick_f rfl rfl hg58 rfl) ?_
   refine W_nil ?_
   refine E_then (C_fr [(0, vstr a0), (1, .func (.func ga1) #[] ka1.toArray), (5, .int .i64 (n : Int)), (6, .slice Ar1 ([] : List Int).length 0), (18, .bool false)] rfl ?_)
   refine C_else rfl rfl ?_
   refine C_skip ?_
   refine E_then ?_
   refine C_seq ?_
   refine C_label ?_
   refine E_then ?_
   refine C_seq ?_
   refine C_seq ?_
   refine C_region ?_
   refine wv rfl rfl rfl (R_move rfl rfl) <| wv rfl rfl rfl (R_move rfl rfl) <| wv rfl rfl rfl (R_strlen rfl rfl Tryd.underlying9) <| wv rfl rfl rfl (R_bin rfl rfl rfl rfl rfl) ?_
   refine W_nil ?_
   refine E_then ?_
   refine C_ite rfl (fun hC1 => ?_) (fun hC1 => ?_)
   ·have _hC1 := trivial
    have hC1p : (n : Int) = (a0.length : Int) := by simpa using hC1
    refine C_goto ?_
    refine E_then_goto ?_
    have hS := hS.zrow (kint .u8) 5 Ar1
    have hs84 : ([] : List Int) = ub ([] : St) := by simp [ub]
    have hS := hS.reZ 0 rfl hs84
    have hh85 : h = (h : Tells) := by simp
    have hS := hS.cbr Ra1 2 rfl hh85
    refine E_jump (m := 0) [1, 6] (by decide) (fun _ h_ => by cases h_; omega) ⟨(n : Nat), (h : Tells), ([] : St), Ar1, 0, [], y2, (by rw [← hs84] <;> rfl), (by omega), (by first | (simp; done) | (simp at *; omega) | omega), (by first | (simp; done) | (simp at *; omega) | omega), (by exact Left.B_end (Left.F_bare hJ0_3 (by intro h_; first | exact mt u34.2 (by assumption) | omega)) (by omega)), rfl, hS.fin [0, 2] (by decide) rfl⟩
   ·have _hC1 := trivial
    have hC1p : ¬ ((n : Int) = (a0.length : Int)) := by simpa using hC1
    refine C_skip ?_
    refine E_then (C_fr [(0, vstr a0), (1, .func (.func ga1) #[] ka1.toArray), (5, .int .i64 (n : Int)), (6, .slice Ar1 ([] : List Int).length 0)] rfl ?_)
    refine C_seq ?_
    refine C_seq ?_
    refine C_region ?_
    refine wv rfl rfl rfl (R_move rfl rfl) <| wv rfl rfl rfl (R_move rfl rfl) <| wv rfl rfl rfl (R_stridx rfl rfl rfl Tryd.underlying9 (by omega) (by omega)) ?_
    refine W_nil ?_
    refine E_then ?_
    refine C_block ?_
    refine C_seq ?_
    refine C_seq ?_
    refine C_region ?_
    refine wv rfl rfl rfl (R_bin rfl rfl rfl rfl rfl) <| wv rfl rfl rfl (R_assign rfl rfl) ?_
    refine W_nil ?_
    refine E_then ?_
    refine C_ite rfl (fun hC2 => ?_) (fun hC2 => ?_)
    ·have _hC2 := trivial
     have hC2p : ((a0.getD n 0).toNat : Int) = 44 := by simpa using hC2
     refine C_skip ?_
     refine E_then ?_
     refine C_if rfl hC2 ?_
     refine C_goto ?_
     refine E_block_goto ?_
     refine E_then_goto ?_
     have hS := hS.zrow (kint .u8) 5 Ar1
     have hs87 : ([] : List Int) = ub ([] : St) := by simp [ub]
     have hS := hS.reZ 0 rfl hs87
     have hs88 : (n : Int) = ((n : Nat) : Int) := by omega
     have hh89 : h = (h : Tells) := by simp
     have hS := hS.cbr Ra1 2 rfl hh89
     refine E_jump (m := 2 * (a0.length - (n : Nat)) + 1) [0, 1, 5, 6] (by decide) (fun _ h_ => by cases h_; omega) ⟨(n : Nat), (h : Tells), ([] : St), Ar1, 0, [], y2, (by rw [← hs87, ← hs88] <;> rfl), (by omega), (by first | (simp; done) | (simp at *; omega) | omega), (by first | (simp; done) | (simp at *; omega) | omega), (by exact Left.B_P (Left.F_bare hJ0_3 (by intro h_; first | exact mt u34.2 (by assumption) | omega)) (by omega) (.inl (u44.1 (by assumption)))), (by intro _; have h_ : a0.getD n 0 = 44 := (u44.1 (by assumption)); rw [h_]; decide), rfl, hS.fin [0, 2] (by decide) rfl⟩
    ·have _hC2 := trivial
     have hC2p : ¬ (((a0.getD n 0).toNat : Int) = 44) := by simpa using hC2
     refine C_region ?_
     refine wv rfl rfl rfl (R_bin rfl rfl rfl rfl rfl) <| wv rfl rfl rfl (R_assign rfl rfl) ?_
     refine W_nil ?_
     refine E_then ?_
     refine C_ite rfl (fun hC3 => ?_) (fun hC3 => ?_)
     ·have _hC3 := trivial
      have hC3p : ((a0.getD n 0).toNat : Int) = 13 := by simpa using hC3
      refine C_goto ?_
      refine E_block_goto ?_
      refine E_then_goto ?_
      have hS := hS.zrow (kint .u8) 5 Ar1
      have hs91 : ([] : List Int) = ub ([] : St) := by simp [ub]
      have hS := hS.reZ 0 rfl hs91
      have hs92 : (n : Int) = ((n : Nat) : Int) := by omega
      have hh93 : h = (h : Tells) := by simp
      have hS := hS.cbr Ra1 2 rfl hh93
      refine E_jump (m := 2 * (a0.length - (n : Nat)) + 1) [0, 1, 5, 6] (by decide) (fun _ h_ => by cases h_; omega) ⟨(n : Nat), (h : Tells), ([] : St), Ar1, 0, [], y2, (by rw [← hs91, ← hs92] <;> rfl), (by omega), (by first | (simp; done) | (simp at *; omega) | omega), (by first | (simp; done) | (simp at *; omega) | omega), (by exact Left.B_P (Left.F_bare hJ0_3 (by intro h_; first | exact mt u34.2 (by assumption) | omega)) (by omega) (.inr (u13.1 (by assumption)))), (by intro _; have h_ : a0.getD n 0 = 13 := (u13.1 (by assumption)); rw [h_]; decide), rfl, hS.fin [0, 2] (by decide) rfl⟩
     ·have _hC3 := trivial
      have hC3p : ¬ (((a0.getD n 0).toNat : Int) = 13) := by simpa using hC3
      refine C_seq ?_
      refine C_seq ?_
      refine C_region ?_
      refine wv rfl rfl rfl (R_bin rfl rfl rfl rfl rfl) <| wv rfl rfl rfl (R_assign rfl rfl) ?_
      refine W_nil ?_
      refine E_then (C_fr [(0, vstr a0), (1, .func (.func ga1) #[] ka1.toArray), (5, .int .i64 (n : Int)), (6, .slice Ar1 ([] : List Int).length 0), (27, .int .u8 ((a0.getD n 0).toNat : Int)), (31, .bool (((a0.getD n 0).toNat : Int) == 10))] rfl ?_)
      refine C_ite rfl (fun hC4 => ?_) (fun hC4 => ?_)
      ·have _hC4 := trivial
       have hC4p : ((a0.getD n 0).toNat : Int) = 10 := by simpa using hC4
       refine C_skip ?_
       refine E_then ?_
       refine C_if rfl hC4 ?_
       refine C_seq ?_
       refine C_region ?_
       refine wv rfl rfl rfl (R_move rfl rfl) <| wv rfl rfl rfl (R_assign rfl rfl) ?_
       refine W_nil ?_
       refine E_then (C_fr [(4, .int .i64 (n : Int))] rfl ?_)
       refine C_ret ?_
       refine E_block_ret ?_
       refine E_then_ret ?_
       refine E_scope_ret ?_
       have hh94 : h = (run .F a0 0 []).1 := by first | (exact congrArg Prod.fst (Left.B_bad (Left.F_bare hJ0_3 (by intro h_; first | exact mt u34.2 (by assumption) | omega)) (by omega) (by first | exact .inl (u10.1 (by assumption)) | exact .inr (u34.1 (by assumption))))) | (exact congrArg Prod.fst (Left.B_bad hJ3_3 (by omega) (by first | exact .inl (u10.1 (by assumption)) | exact .inr (u34.1 (by assumption))))) | (exact congrArg Prod.fst (Left.Q_end hJ1_3 (by omega))) | (exact congrArg Prod.fst (hJ2_3)) | (exact congrArg Prod.fst (Left.P_bad (Left.Q_quote hJ1_3 (by omega) (u34.1 (by assumption))) (by omega) (by first | exact mt u34.2 (by assumption) | omega) (mt u44.2 (by assumption)) (mt u13.2 (by assumption)))) | (exact congrArg Prod.fst (Left.R_bad (Left.P_cr (Left.Q_quote hJ1_3 (by omega) (u34.1 (by assumption))) (by omega) (u13.1 (by assumption))) (by intro h_; first | exact mt u10.2 (by assumption) | omega))) | (exact congrArg Prod.fst (Left.R_end (Left.P_cr (Left.Q_quote hJ1_3 (by omega) (u34.1 (by assumption))) (by omega) (u13.1 (by assumption))) (by omega) (u10.1 (by assumption)))) | (exact congrArg Prod.fst (Left.P_bad hJ4_3 (by omega) (hJ4_4 (by omega)) (mt u44.2 (by assumption)) (mt u13.2 (by assumption)))) | (exact congrArg Prod.fst (Left.R_bad (Left.P_cr hJ4_3 (by omega) (u13.1 (by assumption))) (by intro h_; first | exact mt u10.2 (by assumption) | omega))) | (exact congrArg Prod.fst (Left.R_end (Left.P_cr hJ4_3 (by omega) (u13.1 (by assumption))) (by omega) (u10.1 (by assumption))))
       have hS := hS.cbr Ra1 1 rfl hh94
       refine E_ret1 rfl rfl ?_
       exact ⟨y2, Lret1 (Lint (show (n : Int) = (run .F a0 0 []).2 by first | (exact congrArg Prod.snd (Left.B_bad (Left.F_bare hJ0_3 (by intro h_; first | exact mt u34.2 (by assumption) | omega)) (by omega) (by first | exact .inl (u10.1 (by assumption)) | exact .inr (u34.1 (by assumption))))) | (exact congrArg Prod.snd (Left.B_bad hJ3_3 (by omega) (by first | exact .inl (u10.1 (by assumption)) | exact .inr (u34.1 (by assumption))))) | (exact congrArg Prod.snd (Left.Q_end hJ1_3 (by omega))) | (exact congrArg Prod.snd (hJ2_3)) | (exact congrArg Prod.snd (Left.P_bad (Left.Q_quote hJ1_3 (by omega) (u34.1 (by assumption))) (by omega) (by first | exact mt u34.2 (by assumption) | omega) (mt u44.2 (by assumption)) (mt u13.2 (by assumption)))) | (exact congrArg Prod.snd (Left.R_bad (Left.P_cr (Left.Q_quote hJ1_3 (by omega) (u34.1 (by assumption))) (by omega) (u13.1 (by assumption))) (by intro h_; first | exact mt u10.2 (by assumption) | omega))) | (exact congrArg Prod.snd (Left.R_end (Left.P_cr (Left.Q_quote hJ1_3 (by omega) (u34.1 (by assumption))) (by omega) (u13.1 (by assumption))) (by omega) (u10.1 (by assumption)))) | (exact congrArg Prod.snd (Left.P_bad hJ4_3 (by omega) (hJ4_4 (by omega)) (mt u44.2 (by assumption)) (mt u13.2 (by assumption)))) | (exact congrArg Prod.snd (Left.R_bad (Left.P_cr hJ4_3 (by omega) (u13.1 (by assumption))) (by intro h_; first | exact mt u10.2 (by assumption) | omega))) | (exact congrArg Prod.snd (Left.R_end (Left.P_cr hJ4_3 (by omega) (u13.1 (by assumption))) (by omega) (u10.1 (by assumption)))))), hS.fin [1] (by decide) rfl⟩
      ·have _hC4 := trivial
       have hC4p : ¬ (((a0.getD n 0).toNat : Int) = 10) := by simpa using hC4
       refine C_region ?_
       refine wv rfl rfl rfl (R_bin rfl rfl rfl rfl rfl) <| wv rfl rfl rfl (R_assign rfl rfl) ?_
       refine W_nil ?_
       refine E_then ?_
       refine C_ite rfl (fun hC5 => ?_) (fun hC5 => ?_)
       ·have _hC5 := trivial
        have hC5p : ((a0.getD n 0).toNat : Int) = 34 := by simpa using hC5
        refine C_seq ?_
        refine C_region ?_
        refine wv rfl rfl rfl (R_move rfl rfl) <| wv rfl rfl rfl (R_assign rfl rfl) ?_
        refine W_nil ?_
        refine E_then (C_fr [(4, .int .i64 (n : Int))] rfl ?_)
        refine C_ret ?_
        refine E_block_ret ?_
        refine E_then_ret ?_
        refine E_scope_ret ?_
        have hh95 : h = (run .F a0 0 []).1 := by first | (exact congrArg Prod.fst (Left.B_bad (Left.F_bare hJ0_3 (by intro h_; first | exact mt u34.2 (by assumption) | omega)) (by omega) (by first | exact .inl (u10.1 (by assumption)) | exact .inr (u34.1 (by assumption))))) | (exact congrArg Prod.fst (Left.B_bad hJ3_3 (by omega) (by first | exact .inl (u10.1 (by assumption)) | exact .inr (u34.1 (by assumption))))) | (exact congrArg Prod.fst (Left.Q_end hJ1_3 (by omega))) | (exact congrArg Prod.fst (hJ2_3)) | (exact congrArg Prod.fst (Left.P_bad (Left.Q_quote hJ1_3 (by omega) (u34.1 (by assumption))) (by omega) (by first | exact mt u34.2 (by assumption) | omega) (mt u44.2 (by assumption)) (mt u13.2 (by assumption)))) | (exact congrArg Prod.fst (Left.R_bad (Left.P_cr (Left.Q_quote hJ1_3 (by omega) (u34.1 (by assumption))) (by omega) (u13.1 (by assumption))) (by intro h_; first | exact mt u10.2 (by assumption) | omega))) | (exact congrArg Prod.fst (Left.R_end (Left.P_cr (Left.Q_quote hJ1_3 (by omega) (u34.1 (by assumption))) (by omega) (u13.1 (by assumption))) (by omega) (u10.1 (by assumption)))) | (exact congrArg Prod.fst (Left.P_bad hJ4_3 (by omega) (hJ4_4 (by omega)) (mt u44.2 (by assumption)) (mt u13.2 (by assumption)))) | (exact congrArg Prod.fst (Left.R_bad (Left.P_cr hJ4_3 (by omega) (u13.1 (by assumption))) (by intro h_; first | exact mt u10.2 (by assumption) | omega))) | (exact congrArg Prod.fst (Left.R_end (Left.P_cr hJ4_3 (by omega) (u13.1 (by assumption))) (by omega) (u10.1 (by assumption))))
        have hS := hS.cbr Ra1 1 rfl hh95
        refine E_ret1 rfl rfl ?_
        exact ⟨y2, Lret1 (Lint (show (n : Int) = (run .F a0 0 []).2 by first | (exact congrArg Prod.snd (Left.B_bad (Left.F_bare hJ0_3 (by intro h_; first | exact mt u34.2 (by assumption) | omega)) (by omega) (by first | exact .inl (u10.1 (by assumption)) | exact .inr (u34.1 (by assumption))))) | (exact congrArg Prod.snd (Left.B_bad hJ3_3 (by omega) (by first | exact .inl (u10.1 (by assumption)) | exact .inr (u34.1 (by assumption))))) | (exact congrArg Prod.snd (Left.Q_end hJ1_3 (by omega))) | (exact congrArg Prod.snd (hJ2_3)) | (exact congrArg Prod.snd (Left.P_bad (Left.Q_quote hJ1_3 (by omega) (u34.1 (by assumption))) (by omega) (by first | exact mt u34.2 (by assumption) | omega) (mt u44.2 (by assumption)) (mt u13.2 (by assumption)))) | (exact congrArg Prod.snd (Left.R_bad (Left.P_cr (Left.Q_quote hJ1_3 (by omega) (u34.1 (by assumption))) (by omega) (u13.1 (by assumption))) (by intro h_; first | exact mt u10.2 (by assumption) | omega))) | (exact congrArg Prod.snd (Left.R_end (Left.P_cr (Left.Q_quote hJ1_3 (by omega) (u34.1 (by assumption))) (by omega) (u13.1 (by assumption))) (by omega) (u10.1 (by assumption)))) | (exact congrArg Prod.snd (Left.P_bad hJ4_3 (by omega) (hJ4_4 (by omega)) (mt u44.2 (by assumption)) (mt u13.2 (by assumption)))) | (exact congrArg Prod.snd (Left.R_bad (Left.P_cr hJ4_3 (by omega) (u13.1 (by assumption))) (by intro h_; first | exact mt u10.2 (by assumption) | omega))) | (exact congrArg Prod.snd (Left.R_end (Left.P_cr hJ4_3 (by omega) (u13.1 (by assumption))) (by omega) (u10.1 (by assumption)))))), hS.fin [1] (by decide) rfl⟩
       ·have _hC5 := trivial
        have hC5p : ¬ (((a0.getD n 0).toNat : Int) = 34) := by simpa using hC5
        refine C_skip ?_
        refine E_block_normal ?_
        refine E_then ?_
        refine C_seq ?_
        refine C_region ?_
        refine wv rfl rfl rfl (R_move rfl rfl) <| wv rfl rfl rfl (R_move rfl rfl) <| wv rfl rfl rfl (R_move rfl rfl) <| wv rfl rfl rfl (R_stridx rfl rfl rfl Tryd.underlying9 (by omega) (by omega)) ?_
        refine W_cons rfl (by decide) (S_row (d := (kint .u8)) (q := zE) hS ([((a0.getD n 0).toNat : Int)] : List Int) rfl (R_buildSlice (ps := [(0, (.tmp 38))]) (vs := [.int .u8 ((a0.getD n 0).toNat : Int)]) (w' := w57.alloc (.cells [.int .u8 ((a0.getD n 0).toNat : Int)].toArray 5)) (r := .slice (some ⟨w57.heap.size, 0, none⟩) 1 1) rfl rfl rfl (by kernel_rfl)) (by simp [Reps, flat, kint]) rfl (by decide) (fun g97 w96 hS => ?_))
        refine W_cons rfl (by decide) (S_append0 zE hS rfl rfl elem44 rfl rfl (hS.sow 0 rfl (fun _ _ h => h)) (by simp) (by (try simp only [List.length_cons, List.length_nil, List.length_append, maxLen]); omega) (by (try simp only [List.length_cons, List.length_nil, List.length_append, maxLen]); omega) (fun Ar99 cr99 w98 hS => ?_))
        have hp100 := hS.cap 0 rfl
        have hlhp100 := hp100.le
        have hmhp100 := hp100.mx
        refine wv rfl rfl rfl (R_assign rfl rfl) ?_
        refine W_nil ?_
        refine E_then (C_fr [(0, vstr a0), (1, .func (.func ga1) #[] ka1.toArray), (5, .int .i64 (n : Int)), (6, .slice Ar99 ([((a0.getD n 0).toNat : Int)] : List Int).length cr99)] rfl ?_)
        refine C_seq ?_
        refine C_region ?_
        refine wv rfl rfl rfl (R_move rfl rfl) <| wv rfl rfl rfl (R_add64 rfl rfl rfl (by omega) (by omega)) <| wv rfl rfl rfl (R_assign rfl rfl) ?_
        refine W_nil ?_
        refine E_then ?_
        refine C_seq ?_
        refine C_goto ?_
        refine E_then_goto ?_
        have hS := hS.toZ 0 rfl
        have hs101 : ([((a0.getD n 0).toNat : Int)] : List Int) = ub ([] ++ [a0.getD n 0] : St) := by simp [ub]
        have hS := hS.reZ 0 rfl hs101
        have hs102 : (n : Int) + 1 = ((n + 1 : Nat) : Int) := by omega
        have hh103 : h = (h : Tells) := by simp
        have hS := hS.cbr Ra1 3 rfl hh103
        refine E_jump (m := 2 * (a0.length - (n + 1 : Nat)) + 2) [0, 1, 5, 6] (by decide) (fun _ h_ => by cases h_; omega) ⟨(n + 1 : Nat), (h : Tells), ([] ++ [a0.getD n 0] : St), Ar99, cr99, (blk Ar99), y2, (by rw [← hs101, ← hs102] <;> rfl), (by omega), (by first | (simp; done) | (simp at *; omega) | omega), (by first | (simp; done) | (simp at *; omega) | omega), (by exact Left.B_next (Left.F_bare hJ0_3 (by intro h_; first | exact mt u34.2 (by assumption) | omega)) (by omega) (mt u44.2 (by assumption)) (mt u13.2 (by assumption)) (mt u10.2 (by assumption)) (mt u34.2 (by assumption))), rfl, hS.fin [0, 3] (by decide) rfl⟩
 ·refine ⟨_, rfl, ?_⟩
  rintro m_ f_ w104 ⟨n, h, t, Ar3, cr3, Lr3, y4, rfl, hJ3_0, hJ3_1, hJ3_2, hJ3_3, rfl, hS⟩
  have hlr3 := (hS.lez 0 rfl).1
  have hmr3 := (hS.lez 0 rfl).2
  have hub := ub_len t
  refine C_seq ?_
  refine C_skip ?_
  refine E_then ?_
  refine C_seq ?_
  refine C_seq ?_
  refine C_region ?_
  refine wv rfl rfl rfl (R_move rfl rfl) <| wv rfl rfl rfl (R_move rfl rfl) <| wv rfl rfl rfl (R_strlen rfl rfl Tryd.underlying9) <| wv rfl rfl rfl (R_bin rfl rfl rfl rfl rfl) ?_
  refine W_nil ?_
  refine E_then ?_
  refine C_ite rfl (fun hC1 => ?_) (fun hC1 => ?_)
  ·have _hC1 := trivial
   have hC1p : (n : Int) = (a0.length : Int) := by simpa using hC1
   refine C_goto ?_
   refine E_then_goto ?_
   have hs105 : ub t = ub (t : St) := by simp [ub]
   have hS := hS.reZ 0 rfl hs105
   have hh106 : h = (h : Tells) := by simp
   have hS := hS.cbr Ra1 1 rfl hh106
   refine E_jump (m := 0) [1, 6] (by decide) (fun _ h_ => by cases h_; omega) ⟨(n : Nat), (h : Tells), (t : St), Ar3, cr3, Lr3, y4, (by rw [← hs105] <;> rfl), (by omega), (by first | (simp; done) | (simp at *; omega) | omega), (by first | (simp; done) | (simp at *; omega) | omega), (by exact Left.B_end hJ3_3 (by omega)), rfl, hS.fin [0, 1] (by decide) rfl⟩
  ·have _hC1 := trivial
   have hC1p : ¬ ((n : Int) = (a0.length : Int)) := by simpa using hC1
   refine C_skip ?_
   refine E_then ?_
   refine C_seq ?_
   refine C_seq ?_
   refine C_region ?_
   refine wv rfl rfl rfl (R_move rfl rfl) <| wv rfl rfl rfl (R_move rfl rfl) <| wv rfl rfl rfl (R_stridx rfl rfl rfl Tryd.underlying9 (by omega) (by omega)) ?_
   refine W_nil ?_
   refine E_then (C_fr [(0, vstr a0), (1, .func (.func ga1) #[] ka1.toArray), (5, .int .i64 (n : Int)), (6, .slice Ar3 (ub t).length cr3), (27, .int .u8 ((a0.getD n 0).toNat : Int))] rfl ?_)
   refine C_block ?_
   refine C_seq ?_
   refine C_seq ?_
   refine C_region ?_
   refine wv rfl rfl rfl (R_bin rfl rfl rfl rfl rfl) <| wv rfl rfl rfl (R_assign rfl rfl) ?_
   refine W_nil ?_
   refine E_then ?_
   refine C_ite rfl (fun hC2 => ?_) (fun hC2 => ?_)
   ·have _hC2 := trivial
    have hC2p : ((a0.getD n 0).toNat : Int) = 44 := by simpa using hC2
    refine C_skip ?_
    refine E_then ?_
    refine C_if rfl hC2 ?_
    refine C_goto ?_
    refine E_block_goto ?_
    refine E_then_goto ?_
    have hs107 : ub t = ub (t : St) := by simp [ub]
    have hS := hS.reZ 0 rfl hs107
    have hs108 : (n : Int) = ((n : Nat) : Int) := by omega
    have hh109 : h = (h : Tells) := by simp
    have hS := hS.cbr Ra1 1 rfl hh109
    refine E_jump (m := 2 * (a0.length - (n : Nat)) + 1) [0, 1, 5, 6] (by decide) (fun _ h_ => by cases h_; omega) ⟨(n : Nat), (h : Tells), (t : St), Ar3, cr3, Lr3, y4, (by rw [← hs107, ← hs108] <;> rfl), (by omega), (by first | (simp; done) | (simp at *; omega) | omega), (by first | (simp; done) | (simp at *; omega) | omega), (by exact Left.B_P hJ3_3 (by omega) (.inl (u44.1 (by assumption)))), (by intro _; have h_ : a0.getD n 0 = 44 := (u44.1 (by assumption)); rw [h_]; decide), rfl, hS.fin [0, 1] (by decide) rfl⟩
   ·have _hC2 := trivial
    have hC2p : ¬ (((a0.getD n 0).toNat : Int) = 44) := by simpa using hC2
    refine C_region ?_
    refine wv rfl rfl rfl (R_bin rfl rfl rfl rfl rfl) <| wv rfl rfl rfl (R_assign rfl rfl) ?_
    refine W_nil ?_
    refine E_then ?_
    refine C_ite rfl (fun hC3 => ?_) (fun hC3 => ?_)
    ·have _hC3 := trivial
     have hC3p : ((a0.getD n 0).toNat : Int) = 13 := by simpa using hC3
     refine C_goto ?_
     refine E_block_goto ?_
     refine E_then_goto ?_
     have hs110 : ub t = ub (t : St) := by simp [ub]
     have hS := hS.reZ 0 rfl hs110
     have hs111 : (n : Int) = ((n : Nat) : Int) := by omega
     have hh112 : h = (h : Tells) := by simp
     have hS := hS.cbr Ra1 1 rfl hh112
     refine E_jump (m := 2 * (a0.length - (n : Nat)) + 1) [0, 1, 5, 6] (by decide) (fun _ h_ => by cases h_; omega) ⟨(n : Nat), (h : Tells), (t : St), Ar3, cr3, Lr3, y4, (by rw [← hs110, ← hs111] <;> rfl), (by omega), (by first | (simp; done) | (simp at *; omega) | omega), (by first | (simp; done) | (simp at *; omega) | omega), (by exact Left.B_P hJ3_3 (by omega) (.inr (u13.1 (by assumption)))), (by intro _; have h_ : a0.getD n 0 = 13 := (u13.1 (by assumption)); rw [h_]; decide), rfl, hS.fin [0, 1] (by decide) rfl⟩
    ·have _hC3 := trivial
     have hC3p : ¬ (((a0.getD n 0).toNat : Int) = 13) := by simpa using hC3
     refine C_seq ?_
     refine C_seq ?_
     refine C_region ?_
     refine wv rfl rfl rfl (R_bin rfl rfl rfl rfl rfl) <| wv rfl rfl rfl (R_assign rfl rfl) ?_
     refine W_nil ?_
     refine E_then ?_
     refine C_ite rfl (fun hC4 => ?_) (fun hC4 => ?_)
     ·have _hC4 := trivial
      have hC4p : ((a0.getD n 0).toNat : Int) = 10 := by simpa using hC4
      refine C_skip ?_
      refine E_then (C_fr [(0, vstr a0), (1, .func (.func ga1) #[] ka1.toArray), (5, .int .i64 (n : Int)), (6, .slice Ar3 (ub t).length cr3), (31, .bool (((a0.getD n 0).toNat : Int) == 10))] rfl ?_)
      refine C_if rfl hC4 ?_
      refine C_seq ?_
      refine C_region ?_
      refine wv rfl rfl rfl (R_move rfl rfl) <| wv rfl rfl rfl (R_assign rfl rfl) ?_
      refine W_nil ?_
      refine E_then (C_fr [(4, .int .i64 (n : Int))] rfl ?_)
      refine C_ret ?_
      refine E_block_ret ?_
      refine E_then_ret ?_
      refine E_scope_ret ?_
      have hh113 : h = (run .F a0 0 []).1 := by first | (exact congrArg Prod.fst (Left.B_bad (Left.F_bare hJ0_3 (by intro h_; first | exact mt u34.2 (by assumption) | omega)) (by omega) (by first | exact .inl (u10.1 (by assumption)) | exact .inr (u34.1 (by assumption))))) | (exact congrArg Prod.fst (Left.B_bad hJ3_3 (by omega) (by first | exact .inl (u10.1 (by assumption)) | exact .inr (u34.1 (by assumption))))) | (exact congrArg Prod.fst (Left.Q_end hJ1_3 (by omega))) | (exact congrArg Prod.fst (hJ2_3)) | (exact congrArg Prod.fst (Left.P_bad (Left.Q_quote hJ1_3 (by omega) (u34.1 (by assumption))) (by omega) (by first | exact mt u34.2 (by assumption) | omega) (mt u44.2 (by assumption)) (mt u13.2 (by assumption)))) | (exact congrArg Prod.fst (Left.R_bad (Left.P_cr (Left.Q_quote hJ1_3 (by omega) (u34.1 (by assumption))) (by omega) (u13.1 (by assumption))) (by intro h_; first | exact mt u10.2 (by assumption) | omega))) | (exact congrArg Prod.fst (Left.R_end (Left.P_cr (Left.Q_quote hJ1_3 (by omega) (u34.1 (by assumption))) (by omega) (u13.1 (by assumption))) (by omega) (u10.1 (by assumption)))) | (exact congrArg Prod.fst (Left.P_bad hJ4_3 (by omega) (hJ4_4 (by omega)) (mt u44.2 (by assumption)) (mt u13.2 (by assumption)))) | (exact congrArg Prod.fst (Left.R_bad (Left.P_cr hJ4_3 (by omega) (u13.1 (by assumption))) (by intro h_; first | exact mt u10.2 (by assumption) | omega))) | (exact congrArg Prod.fst (Left.R_end (Left.P_cr hJ4_3 (by omega) (u13.1 (by assumption))) (by omega) (u10.1 (by assumption))))
      have hS := hS.cbr Ra1 1 rfl hh113
      refine E_ret1 rfl rfl ?_
      exact ⟨y4, Lret1 (Lint (show (n : Int) = (run .F a0 0 []).2 by first | (exact congrArg Prod.snd (Left.B_bad (Left.F_bare hJ0_3 (by intro h_; first | exact mt u34.2 (by assumption) | omega)) (by omega) (by first | exact .inl (u10.1 (by assumption)) | exact .inr (u34.1 (by assumption))))) | (exact congrArg Prod.snd (Left.B_bad hJ3_3 (by omega) (by first | exact .inl (u10.1 (by assumption)) | exact .inr (u34.1 (by assumption))))) | (exact congrArg Prod.snd (Left.Q_end hJ1_3 (by omega))) | (exact congrArg Prod.snd (hJ2_3)) | (exact congrArg Prod.snd (Left.P_bad (Left.Q_quote hJ1_3 (by omega) (u34.1 (by assumption))) (by omega) (by first | exact mt u34.2 (by assumption) | omega) (mt u44.2 (by assumption)) (mt u13.2 (by assumption)))) | (exact congrArg Prod.snd (Left.R_bad (Left.P_cr (Left.Q_quote hJ1_3 (by omega) (u34.1 (by assumption))) (by omega) (u13.1 (by assumption))) (by intro h_; first | exact mt u10.2 (by assumption) | omega))) | (exact congrArg Prod.snd (Left.R_end (Left.P_cr (Left.Q_quote hJ1_3 (by omega) (u34.1 (by assumption))) (by omega) (u13.1 (by assumption))) (by omega) (u10.1 (by assumption)))) | (exact congrArg Prod.snd (Left.P_bad hJ4_3 (by omega) (hJ4_4 (by omega)) (mt u44.2 (by assumption)) (mt u13.2 (by assumption)))) | (exact congrArg Prod.snd (Left.R_bad (Left.P_cr hJ4_3 (by omega) (u13.1 (by assumption))) (by intro h_; first | exact mt u10.2 (by assumption) | omega))) | (exact congrArg Prod.snd (Left.R_end (Left.P_cr hJ4_3 (by omega) (u13.1 (by assumption))) (by omega) (u10.1 (by assumption)))))), hS.fin [1] (by decide) rfl⟩
     ·have _hC4 := trivial
      have hC4p : ¬ (((a0.getD n 0).toNat : Int) = 10) := by simpa using hC4
      refine C_region ?_
      refine wv rfl rfl rfl (R_bin rfl rfl rfl rfl rfl) <| wv rfl rfl rfl (R_assign rfl rfl) ?_
      refine W_nil ?_
      refine E_then (C_fr [(0, vstr a0), (1, .func (.func ga1) #[] ka1.toArray), (5, .int .i64 (n : Int)), (6, .slice Ar3 (ub t).length cr3), (31, .bool (((a0.getD n 0).toNat : Int) == 34))] rfl ?_)
      refine C_ite rfl (fun hC5 => ?_) (fun hC5 => ?_)
      ·have _hC5 := trivial
       have hC5p : ((a0.getD n 0).toNat : Int) = 34 := by simpa using hC5
       refine C_seq ?_
       refine C_region ?_
       refine wv rfl rfl rfl (R_move rfl rfl) <| wv rfl rfl rfl (R_assign rfl rfl) ?_
       refine W_nil ?_
       refine E_then (C_fr [(4, .int .i64 (n : Int))] rfl ?_)
       refine C_ret ?_
       refine E_block_ret ?_
       refine E_then_ret ?_
       refine E_scope_ret ?_
       have hh114 : h = (run .F a0 0 []).1 := by first | (exact congrArg Prod.fst (Left.B_bad (Left.F_bare hJ0_3 (by intro h_; first | exact mt u34.2 (by assumption) | omega)) (by omega) (by first | exact .inl (u10.1 (by assumption)) | exact .inr (u34.1 (by assumption))))) | (exact congrArg Prod.fst (Left.B_bad hJ3_3 (by omega) (by first | exact .inl (u10.1 (by assumption)) | exact .inr (u34.1 (by assumption))))) | (exact congrArg Prod.fst (Left.Q_end hJ1_3 (by omega))) | (exact congrArg Prod.fst (hJ2_3)) | (exact congrArg Prod.fst (Left.P_bad (Left.Q_quote hJ1_3 (by omega) (u34.1 (by assumption))) (by omega) (by first | exact mt u34.2 (by assumption) | omega) (mt u44.2 (by assumption)) (mt u13.2 (by assumption)))) | (exact congrArg Prod.fst (Left.R_bad (Left.P_cr (Left.Q_quote hJ1_3 (by omega) (u34.1 (by assumption))) (by omega) (u13.1 (by assumption))) (by intro h_; first | exact mt u10.2 (by assumption) | omega))) | (exact congrArg Prod.fst (Left.R_end (Left.P_cr (Left.Q_quote hJ1_3 (by omega) (u34.1 (by assumption))) (by omega) (u13.1 (by assumption))) (by omega) (u10.1 (by assumption)))) | (exact congrArg Prod.fst (Left.P_bad hJ4_3 (by omega) (hJ4_4 (by omega)) (mt u44.2 (by assumption)) (mt u13.2 (by assumption)))) | (exact congrArg Prod.fst (Left.R_bad (Left.P_cr hJ4_3 (by omega) (u13.1 (by assumption))) (by intro h_; first | exact mt u10.2 (by assumption) | omega))) | (exact congrArg Prod.fst (Left.R_end (Left.P_cr hJ4_3 (by omega) (u13.1 (by assumption))) (by omega) (u10.1 (by assumption))))
       have hS := hS.cbr Ra1 1 rfl hh114
       refine E_ret1 rfl rfl ?_
       exact ⟨y4, Lret1 (Lint (show (n : Int) = (run .F a0 0 []).2 by first | (exact congrArg Prod.snd (Left.B_bad (Left.F_bare hJ0_3 (by intro h_; first | exact mt u34.2 (by assumption) | omega)) (by omega) (by first | exact .inl (u10.1 (by assumption)) | exact .inr (u34.1 (by assumption))))) | (exact congrArg Prod.snd (Left.B_bad hJ3_3 (by omega) (by first | exact .inl (u10.1 (by assumption)) | exact .inr (u34.1 (by assumption))))) | (exact congrArg Prod.snd (Left.Q_end hJ1_3 (by omega))) | (exact congrArg Prod.snd (hJ2_3)) | (exact congrArg Prod.snd (Left.P_bad (Left.Q_quote hJ1_3 (by omega) (u34.1 (by assumption))) (by omega) (by first | exact mt u34.2 (by assumption) | omega) (mt u44.2 (by assumption)) (mt u13.2 (by assumption)))) | (exact congrArg Prod.snd (Left.R_bad (Left.P_cr (Left.Q_quote hJ1_3 (by omega) (u34.1 (by assumption))) (by omega) (u13.1 (by assumption))) (by intro h_; first | exact mt u10.2 (by assumption) | omega))) | (exact congrArg Prod.snd (Left.R_end (Left.P_cr (Left.Q_quote hJ1_3 (by omega) (u34.1 (by assumption))) (by omega) (u13.1 (by assumption))) (by omega) (u10.1 (by assumption)))) | (exact congrArg Prod.snd (Left.P_bad hJ4_3 (by omega) (hJ4_4 (by omega)) (mt u44.2 (by assumption)) (mt u13.2 (by assumption)))) | (exact congrArg Prod.snd (Left.R_bad (Left.P_cr hJ4_3 (by omega) (u13.1 (by assumption))) (by intro h_; first | exact mt u10.2 (by assumption) | omega))) | (exact congrArg Prod.snd (Left.R_end (Left.P_cr hJ4_3 (by omega) (u13.1 (by assumption))) (by omega) (u10.1 (by assumption)))))), hS.fin [1] (by decide) rfl⟩
      ·have _hC5 := trivial
       have hC5p : ¬ (((a0.getD n 0).toNat : Int) = 34) := by simpa using hC5
       refine C_skip ?_
       refine E_block_normal ?_
       refine E_then ?_
       refine C_seq ?_
       refine C_region ?_
       refine wv rfl rfl rfl (R_move rfl rfl) <| wv rfl rfl rfl (R_move rfl rfl) <| wv rfl rfl rfl (R_move rfl rfl) <| wv rfl rfl rfl (R_stridx rfl rfl rfl Tryd.underlying9 (by omega) (by omega)) ?_
       refine W_cons rfl (by decide) (S_row (d := (kint .u8)) (q := zE) hS ([((a0.getD n 0).toNat : Int)] : List Int) rfl (R_buildSlice (ps := [(0, (.tmp 38))]) (vs := [.int .u8 ((a0.getD n 0).toNat : Int)]) (w' := w104.alloc (.cells [.int .u8 ((a0.getD n 0).toNat : Int)].toArray 5)) (r := .slice (some ⟨w104.heap.size, 0, none⟩) 1 1) rfl rfl rfl (by kernel_rfl)) (by simp [Reps, flat, kint]) rfl (by decide) (fun g116 w115 hS => ?_))
       refine W_cons rfl (by decide) (S_appendZ hS 1 rfl rfl rfl elem44 rfl rfl (hS.sow 0 rfl (fun _ _ h => h)) (by simp) (by (try simp only [List.length_cons, List.length_nil, List.length_append, maxLen]); omega) (by (try simp only [List.length_cons, List.length_nil, List.length_append, maxLen]); omega) (fun Ar118 cr118 w117 hS => ?_))
       have hp119 := hS.cap 1 rfl
       have hlhp119 := hp119.le
       have hmhp119 := hp119.mx
       refine wv rfl rfl rfl (R_assign rfl rfl) ?_
       refine W_nil ?_
       refine E_then (C_fr [(0, vstr a0), (1, .func (.func ga1) #[] ka1.toArray), (5, .int .i64 (n : Int)), (6, .slice Ar118 ((ub t) ++ ([((a0.getD n 0).toNat : Int)] : List Int)).length cr118)] rfl ?_)
       refine C_seq ?_
       refine C_region ?_
       refine wv rfl rfl rfl (R_move rfl rfl) <| wv rfl rfl rfl (R_add64 rfl rfl rfl (by omega) (by omega)) <| wv rfl rfl rfl (R_assign rfl rfl) ?_
       refine W_nil ?_
       refine E_then ?_
       refine C_seq ?_
       refine C_goto ?_
       refine E_then_goto ?_
       have hS := hS.toZ 1 rfl
       have hs120 : (ub t) ++ ([((a0.getD n 0).toNat : Int)] : List Int) = ub (t ++ [a0.getD n 0] : St) := by simp [ub]
       have hS := hS.reZ 1 rfl hs120
       have hs121 : (n : Int) + 1 = ((n + 1 : Nat) : Int) := by omega
       have hh122 : h = (h : Tells) := by simp
       have hS := hS.cbr Ra1 2 rfl hh122
       refine E_jump (m := 2 * (a0.length - (n + 1 : Nat)) + 2) [0, 1, 5, 6] (by decide) (fun _ h_ => by cases h_; omega) ⟨(n + 1 : Nat), (h : Tells), (t ++ [a0.getD n 0] : St), Ar118, cr118, (blk Ar118), y4, (by rw [← hs120, ← hs121] <;> rfl), (by omega), (by first | (simp; done) | (simp at *; omega) | omega), (by first | (simp; done) | (simp at *; omega) | omega), (by exact Left.B_next hJ3_3 (by omega) (mt u44.2 (by assumption)) (mt u13.2 (by assumption)) (mt u10.2 (by assumption)) (mt u34.2 (by assumption))), rfl, hS.fin [1, 2] (by decide) rfl⟩
 ·refine ⟨_, rfl, ?_⟩
  rintro m_ f_ w123 ⟨n, h, t, Ar5, cr5, Lr5, y6, rfl, hJ1_0, hJ1_1, hJ1_2, hJ1_3, rfl, hS⟩
  have hlr5 := (hS.lez 0 rfl).1
  have hmr5 := (hS.lez 0 rfl).2
  have hub := ub_len t
  refine C_seq ?_
  refine C_skip ?_
  refine E_then ?_
  refine C_seq ?_
  refine C_seq ?_
  refine C_region ?_
  refine wv rfl rfl rfl (R_move rfl rfl) <| wv rfl rfl rfl (R_move rfl rfl) <| wv rfl rfl rfl (R_strlen rfl rfl Tryd.underlying9) <| wv rfl rfl rfl (R_bin rfl rfl rfl rfl rfl) ?_
  refine W_nil ?_
  refine E_then ?_
  refine C_ite rfl (fun hC6 => ?_) (fun hC6 => ?_)
  ·have _hC6 := trivial
   have hC6p : (n : Int) = (a0.length : Int) := by simpa using hC6
   refine C_seq ?_
   refine C_region ?_
   refine wv rfl rfl rfl (R_move rfl rfl) <| wv rfl rfl rfl (R_assign rfl rfl) ?_
   refine W_nil ?_
   refine E_then (C_fr [(4, .int .i64 (n : Int))] rfl ?_)
   refine C_ret ?_
   refine E_then_ret ?_
   refine E_scope_ret ?_
   have hh124 : h = (run .F a0 0 []).1 := by first | (exact congrArg Prod.fst (Left.B_bad (Left.F_bare hJ0_3 (by intro h_; first | exact mt u34.2 (by assumption) | omega)) (by omega) (by first | exact .inl (u10.1 (by assumption)) | exact .inr (u34.1 (by assumption))))) | (exact congrArg Prod.fst (Left.B_bad hJ3_3 (by omega) (by first | exact .inl (u10.1 (by assumption)) | exact .inr (u34.1 (by assumption))))) | (exact congrArg Prod.fst (Left.Q_end hJ1_3 (by omega))) | (exact congrArg Prod.fst (hJ2_3)) | (exact congrArg Prod.fst (Left.P_bad (Left.Q_quote hJ1_3 (by omega) (u34.1 (by assumption))) (by omega) (by first | exact mt u34.2 (by assumption) | omega) (mt u44.2 (by assumption)) (mt u13.2 (by assumption)))) | (exact congrArg Prod.fst (Left.R_bad (Left.P_cr (Left.Q_quote hJ1_3 (by omega) (u34.1 (by assumption))) (by omega) (u13.1 (by assumption))) (by intro h_; first | exact mt u10.2 (by assumption) | omega))) | (exact congrArg Prod.fst (Left.R_end (Left.P_cr (Left.Q_quote hJ1_3 (by omega) (u34.1 (by assumption))) (by omega) (u13.1 (by assumption))) (by omega) (u10.1 (by assumption)))) | (exact congrArg Prod.fst (Left.P_bad hJ4_3 (by omega) (hJ4_4 (by omega)) (mt u44.2 (by assumption)) (mt u13.2 (by assumption)))) | (exact congrArg Prod.fst (Left.R_bad (Left.P_cr hJ4_3 (by omega) (u13.1 (by assumption))) (by intro h_; first | exact mt u10.2 (by assumption) | omega))) | (exact congrArg Prod.fst (Left.R_end (Left.P_cr hJ4_3 (by omega) (u13.1 (by assumption))) (by omega) (u10.1 (by assumption))))
   have hS := hS.cbr Ra1 1 rfl hh124
   refine E_ret1 rfl rfl ?_
   exact ⟨y6, Lret1 (Lint (show (n : Int) = (run .F a0 0 []).2 by first | (exact congrArg Prod.snd (Left.B_bad (Left.F_bare hJ0_3 (by intro h_; first | exact mt u34.2 (by assumption) | omega)) (by omega) (by first | exact .inl (u10.1 (by assumption)) | exact .inr (u34.1 (by assumption))))) | (exact congrArg Prod.snd (Left.B_bad hJ3_3 (by omega) (by first | exact .inl (u10.1 (by assumption)) | exact .inr (u34.1 (by assumption))))) | (exact congrArg Prod.snd (Left.Q_end hJ1_3 (by omega))) | (exact congrArg Prod.snd (hJ2_3)) | (exact congrArg Prod.snd (Left.P_bad (Left.Q_quote hJ1_3 (by omega) (u34.1 (by assumption))) (by omega) (by first | exact mt u34.2 (by assumption) | omega) (mt u44.2 (by assumption)) (mt u13.2 (by assumption)))) | (exact congrArg Prod.snd (Left.R_bad (Left.P_cr (Left.Q_quote hJ1_3 (by omega) (u34.1 (by assumption))) (by omega) (u13.1 (by assumption))) (by intro h_; first | exact mt u10.2 (by assumption) | omega))) | (exact congrArg Prod.snd (Left.R_end (Left.P_cr (Left.Q_quote hJ1_3 (by omega) (u34.1 (by assumption))) (by omega) (u13.1 (by assumption))) (by omega) (u10.1 (by assumption)))) | (exact congrArg Prod.snd (Left.P_bad hJ4_3 (by omega) (hJ4_4 (by omega)) (mt u44.2 (by assumption)) (mt u13.2 (by assumption)))) | (exact congrArg Prod.snd (Left.R_bad (Left.P_cr hJ4_3 (by omega) (u13.1 (by assumption))) (by intro h_; first | exact mt u10.2 (by assumption) | omega))) | (exact congrArg Prod.snd (Left.R_end (Left.P_cr hJ4_3 (by omega) (u13.1 (by assumption))) (by omega) (u10.1 (by assumption)))))), hS.fin [1] (by decide) rfl⟩
  ·have _hC6 := trivial
   have hC6p : ¬ ((n : Int) = (a0.length : Int)) := by simpa using hC6
   refine C_skip ?_
   refine E_then ?_
   refine C_seq ?_
   refine C_seq ?_
   refine C_region ?_
   refine wv rfl rfl rfl (R_move rfl rfl) <| wv rfl rfl rfl (R_move rfl rfl) <| wv rfl rfl rfl (R_stridx rfl rfl rfl Tryd.underlying9 (by omega) (by omega)) <| wv rfl rfl rfl (R_bin rfl rfl rfl rfl rfl) ?_
   refine W_nil ?_
   refine E_then (C_fr [(0, vstr a0), (1, .func (.func ga1) #[] ka1.toArray), (5, .int .i64 (n : Int)), (6, .slice Ar5 (ub t).length cr5), (51, .bool (((a0.getD n 0).toNat : Int) != 34))] rfl ?_)
   refine C_ite rfl (fun hC7 => ?_) (fun hC7 => ?_)
   ·have _hC7 := trivial
    have hC7p : ¬ ((a0.getD n 0).toNat : Int) = 34 := by simpa using hC7
    refine C_seq ?_
    refine C_region ?_
    refine wv rfl rfl rfl (R_move rfl rfl) <| wv rfl rfl rfl (R_move rfl rfl) <| wv rfl rfl rfl (R_move rfl rfl) <| wv rfl rfl rfl (R_stridx rfl rfl rfl Tryd.underlying9 (by omega) (by omega)) ?_
    refine W_cons rfl (by decide) (S_row (d := (kint .u8)) (q := zE) hS ([((a0.getD n 0).toNat : Int)] : List Int) rfl (R_buildSlice (ps := [(0, (.tmp 55))]) (vs := [.int .u8 ((a0.getD n 0).toNat : Int)]) (w' := w123.alloc (.cells [.int .u8 ((a0.getD n 0).toNat : Int)].toArray 5)) (r := .slice (some ⟨w123.heap.size, 0, none⟩) 1 1) rfl rfl rfl (by kernel_rfl)) (by simp [Reps, flat, kint]) rfl (by decide) (fun g126 w125 hS => ?_))
    refine W_cons rfl (by decide) (S_appendZ hS 1 rfl rfl rfl elem44 rfl rfl (hS.sow 0 rfl (fun _ _ h => h)) (by simp) (by (try simp only [List.length_cons, List.length_nil, List.length_append, maxLen]); omega) (by (try simp only [List.length_cons, List.length_nil, List.length_append, maxLen]); omega) (fun Ar128 cr128 w127 hS => ?_))
    have hp129 := hS.cap 1 rfl
    have hlhp129 := hp129.le
    have hmhp129 := hp129.mx
    refine wv rfl rfl rfl (R_assign rfl rfl) ?_
    refine W_nil ?_
    refine E_then (C_fr [(0, vstr a0), (1, .func (.func ga1) #[] ka1.toArray), (5, .int .i64 (n : Int)), (6, .slice Ar128 ((ub t) ++ ([((a0.getD n 0).toNat : Int)] : List Int)).length cr128)] rfl ?_)
    refine C_seq ?_
    refine C_region ?_
    refine wv rfl rfl rfl (R_move rfl rfl) <| wv rfl rfl rfl (R_add64 rfl rfl rfl (by omega) (by omega)) <| wv rfl rfl rfl (R_assign rfl rfl) ?_
    refine W_nil ?_
    refine E_then ?_
    refine C_goto ?_
    refine E_then_goto ?_
    have hS := hS.toZ 1 rfl
    have hs130 : (ub t) ++ ([((a0.getD n 0).toNat : Int)] : List Int) = ub (t ++ [a0.getD n 0] : St) := by simp [ub]
    have hS := hS.reZ 1 rfl hs130
    have hs131 : (n : Int) + 1 = ((n + 1 : Nat) : Int) := by omega
    have hh132 : h = (h : Tells) := by simp
    have hS := hS.cbr Ra1 2 rfl hh132
    refine E_jump (m := 2 * (a0.length - (n + 1 : Nat)) + 2) [0, 1, 5, 6] (by decide) (fun _ h_ => by cases h_; omega) ⟨(n + 1 : Nat), (h : Tells), (t ++ [a0.getD n 0] : St), Ar128, cr128, (blk Ar128), y6, (by rw [← hs130, ← hs131] <;> rfl), (by omega), (by first | (simp; done) | (simp at *; omega) | omega), (by first | (simp; done) | (simp at *; omega) | omega), (by exact Left.Q_next hJ1_3 (by omega) (mt u34.2 (by assumption))), rfl, hS.fin [1, 2] (by decide) rfl⟩
   ·have _hC7 := trivial
    have hC7p : ((a0.getD n 0).toNat : Int) = 34 := by simpa using hC7
    refine C_skip ?_
    refine E_then ?_
    refine C_seq ?_
    refine C_region ?_
    refine wv rfl rfl rfl (R_move rfl rfl) <| wv rfl rfl rfl (R_add64 rfl rfl rfl (by omega) (by omega)) <| wv rfl rfl rfl (R_assign rfl rfl) ?_
    refine W_nil ?_
    refine E_then ?_
    refine C_seq ?_
    refine C_seq ?_
    refine C_region ?_
    refine wv rfl rfl rfl (R_move rfl rfl) <| wv rfl rfl rfl (R_move rfl rfl) <| wv rfl rfl rfl (R_strlen rfl rfl Tryd.underlying9) <| wv rfl rfl rfl (R_bin rfl rfl rfl rfl rfl) <| wv rfl rfl rfl (R_move rfl rfl) ?_
    refine W_split (t := 66) rfl (fun hg133 => ?_) (fun hg133 => ?_)
    ·have _hg133 := trivial
     have hg133p : ((n : Int) + 1) < (a0.length : Int) := by simpa using hg133
     refine W_cons rfl (by decide) (Sv_gt rfl rfl rfl hg133 (Sv_val rfl (R_move rfl rfl) ?_))
     refine W_cons rfl (by decide) (Sv_gt rfl rfl rfl hg133 (Sv_val rfl (R_move rfl rfl) ?_))
     refine W_cons rfl (by decide) (Sv_gt rfl rfl rfl hg133 (Sv_val rfl (R_stridx rfl rfl rfl Tryd.underlying9 (by omega) (by omega)) ?_))
     refine W_cons rfl (by decide) (Sv_gt rfl rfl rfl hg133 (Sv_val rfl (R_bin rfl rfl rfl rfl rfl) ?_))
     refine wv rfl rfl rfl (R_pick_t rfl rfl hg133 rfl) ?_
     refine W_nil ?_
     refine E_then (C_fr [(0, vstr a0), (1, .func (.func ga1) #[] ka1.toArray), (5, .int .i64 ((n : Int) + 1)), (6, .slice Ar5 (ub t).length cr5), (71, .bool (((a0.getD (n + 1) 0).toNat : Int) == 34))] rfl ?_)
     refine C_ite rfl (fun hC8 => ?_) (fun hC8 => ?_)
     ·have _hC8 := trivial
      have hC8p : ((a0.getD (n + 1) 0).toNat : Int) = 34 := by simpa using hC8
      refine C_seq ?_
      refine C_region ?_
      refine wv rfl rfl rfl (R_move rfl rfl) ?_
      refine W_cons rfl (by decide) (S_row (d := (kint .u8)) (q := zE) hS ([34] : List Int) rfl (R_buildSlice (ps := [(0, (.const (.int .u8 34)))]) (vs := [.int .u8 34]) (w' := w123.alloc (.cells [.int .u8 34].toArray 5)) (r := .slice (some ⟨w123.heap.size, 0, none⟩) 1 1) rfl rfl rfl (by kernel_rfl)) (by simp [Reps, flat, kint]) rfl (by decide) (fun g135 w134 hS => ?_))
      refine W_cons rfl (by decide) (S_appendZ hS 1 rfl rfl rfl elem44 rfl rfl (hS.sow 0 rfl (fun _ _ h => h)) (by simp) (by (try simp only [List.length_cons, List.length_nil, List.length_append, maxLen]); omega) (by (try simp only [List.length_cons, List.length_nil, List.length_append, maxLen]); omega) (fun Ar137 cr137 w136 hS => ?_))
      have hp138 := hS.cap 1 rfl
      have hlhp138 := hp138.le
      have hmhp138 := hp138.mx
      refine wv rfl rfl rfl (R_assign rfl rfl) ?_
      refine W_nil ?_
      refine E_then ?_
      refine C_seq ?_
      refine C_region ?_
      refine wv rfl rfl rfl (R_move rfl rfl) <| wv rfl rfl rfl (R_add64 rfl rfl rfl (by omega) (by omega)) <| wv rfl rfl rfl (R_assign rfl rfl) ?_
      refine W_nil ?_
      refine E_then (C_fr [(0, vstr a0), (1, .func (.func ga1) #[] ka1.toArray), (5, .int .i64 (((n : Int) + 1) + 1)), (6, .slice Ar137 ((ub t) ++ ([34] : List Int)).length cr137)] rfl ?_)
      refine C_goto ?_
      refine E_then_goto ?_
      have hS := hS.toZ 1 rfl
      have hs139 : (ub t) ++ ([34] : List Int) = ub (t ++ [34] : St) := by simp [ub]
      have hS := hS.reZ 1 rfl hs139
      have hs140 : ((n : Int) + 1) + 1 = ((n + 2 : Nat) : Int) := by omega
      have hh141 : h = (h : Tells) := by simp
      have hS := hS.cbr Ra1 2 rfl hh141
      refine E_jump (m := 2 * (a0.length - (n + 2 : Nat)) + 2) [0, 1, 5, 6] (by decide) (fun _ h_ => by cases h_; omega) ⟨(n + 2 : Nat), (h : Tells), (t ++ [34] : St), Ar137, cr137, (blk Ar137), y6, (by rw [← hs139, ← hs140] <;> rfl), (by omega), (by first | (simp; done) | (simp at *; omega) | omega), (by first | (simp; done) | (simp at *; omega) | omega), (by exact Left.P_quote (Left.Q_quote hJ1_3 (by omega) (u34.1 (by assumption))) (by omega) (u34.1 (by assumption))), rfl, hS.fin [1, 2] (by decide) rfl⟩
     ·have _hC8 := trivial
      have hC8p : ¬ (((a0.getD (n + 1) 0).toNat : Int) = 34) := by simpa using hC8
      refine C_skip ?_
      refine E_then ?_
      refine C_seq ?_
      refine C_label ?_
      refine E_then ?_
      refine C_seq ?_
      refine C_block ?_
      refine C_seq ?_
      refine C_region ?_
      refine wv rfl rfl rfl (R_move rfl rfl) <| wv rfl rfl rfl (R_move rfl rfl) <| wv rfl rfl rfl (R_strlen rfl rfl Tryd.underlying9) <| wv rfl rfl rfl (R_bin rfl rfl rfl rfl rfl) <| wv rfl rfl rfl (R_assign rfl rfl) ?_
      refine W_nil ?_
      refine E_then (C_fr [(0, vstr a0), (1, .func (.func ga1) #[] ka1.toArray), (5, .int .i64 ((n : Int) + 1)), (6, .slice Ar5 (ub t).length cr5), (77, .bool (((n : Int) + 1) == (a0.length : Int)))] rfl ?_)
      refine C_ite rfl (fun hC9 => ?_) (fun hC9 => ?_)
      ·have _hC9 := trivial
       have hC9p : ((n : Int) + 1) = (a0.length : Int) := by simpa using hC9
       refine C_goto ?_
       refine E_block_goto ?_
       refine E_then_goto ?_
       have hs142 : ub t = ub (t : St) := by simp [ub]
       have hS := hS.reZ 0 rfl hs142
       have hh143 : h = (h : Tells) := by simp
       have hS := hS.cbr Ra1 1 rfl hh143
       refine E_jump (m := 0) [1, 6] (by decide) (fun _ h_ => by cases h_; omega) ⟨((n + 1) : Nat), (h : Tells), (t : St), Ar5, cr5, Lr5, y6, (by rw [← hs142] <;> rfl), (by omega), (by first | (simp; done) | (simp at *; omega) | omega), (by first | (simp; done) | (simp at *; omega) | omega), (by exact Left.P_end (Left.Q_quote hJ1_3 (by omega) (u34.1 (by assumption))) (by omega)), rfl, hS.fin [0, 1] (by decide) rfl⟩
      ·have _hC9 := trivial
       have hC9p : ¬ (((n : Int) + 1) = (a0.length : Int)) := by simpa using hC9
       refine C_seq ?_
       refine C_region ?_
       refine wv rfl rfl rfl (R_move rfl rfl) <| wv rfl rfl rfl (R_move rfl rfl) <| wv rfl rfl rfl (R_stridx rfl rfl rfl Tryd.underlying9 (by omega) (by omega)) <| wv rfl rfl rfl (R_bin rfl rfl rfl rfl rfl) <| wv rfl rfl rfl (R_assign rfl rfl) ?_
       refine W_nil ?_
       refine E_then (C_fr [(0, vstr a0), (1, .func (.func ga1) #[] ka1.toArray), (5, .int .i64 ((n : Int) + 1)), (6, .slice Ar5 (ub t).length cr5), (82, .bool (((a0.getD (n + 1) 0).toNat : Int) == 44))] rfl ?_)
       refine C_ite rfl (fun hC10 => ?_) (fun hC10 => ?_)
       ·have _hC10 := trivial
        have hC10p : ((a0.getD (n + 1) 0).toNat : Int) = 44 := by simpa using hC10
        refine C_seq ?_
        refine C_region ?_
        refine wv rfl rfl rfl (R_move rfl rfl) <| wv rfl rfl rfl (R_move rfl rfl) <| wv rfl rfl rfl (S_bytestrZ (t := t) hS 0 rfl rfl rfl Tryd.underlying44 Tryd.underlying5 Tryd.underlying9) ?_
        refine W_cons rfl (by decide) (S_cb (s := h) (y := y6) hfa1 hS 1 rfl hza1 ((t, false)) (by show List.length _ ≤ _; first | omega | (simp; omega) | simp) rfl rfl rfl rfl rfl (fun y145 w144 hS => ?_))
        refine W_nil ?_
        refine E_then (C_fr [(0, vstr a0), (1, .func (.func ga1) #[] ka1.toArray), (5, .int .i64 ((n : Int) + 1)), (6, .slice Ar5 (ub t).length cr5)] rfl ?_)
        refine C_seq ?_
        refine C_region ?_
        refine wv rfl rfl rfl (R_move rfl rfl) <| wv rfl rfl rfl (R_add64 rfl rfl rfl (by omega) (by omega)) <| wv rfl rfl rfl (R_assign rfl rfl) ?_
        refine W_nil ?_
        refine E_then ?_
        refine C_goto ?_
        refine E_block_goto ?_
        refine E_then_goto ?_
        have hs146 : ub t = ub (t : St) := by simp [ub]
        have hS := hS.reZ 0 rfl hs146
        have hs147 : ((n : Int) + 1) + 1 = (((n + 1) + 1 : Nat) : Int) := by omega
        have hh148 : h ++ [(t, false)] = (h ++ [(t, false)] : Tells) := by simp
        have hS := hS.cbr Ra1 1 rfl hh148
        refine E_jump (m := 2 * (a0.length - ((n + 1) + 1 : Nat)) + 2) [0, 1, 5, 6] (by decide) (fun _ h_ => by cases h_; omega) ⟨((n + 1) + 1 : Nat), (h ++ [(t, false)] : Tells), (t : St), Ar5, cr5, Lr5, y145, (by rw [← hs146, ← hs147] <;> rfl), (by omega), (by first | (simp; done) | (simp at *; omega) | omega), (by first | (simp; done) | (simp at *; omega) | omega), (by exact Left.P_comma (Left.Q_quote hJ1_3 (by omega) (u34.1 (by assumption))) (by omega) (u44.1 (by assumption))), rfl, hS.fin [0, 1] (by decide) rfl⟩
       ·have _hC10 := trivial
        have hC10p : ¬ (((a0.getD (n + 1) 0).toNat : Int) = 44) := by simpa using hC10
        refine C_seq ?_
        refine C_region ?_
        refine wv rfl rfl rfl (R_move rfl rfl) <| wv rfl rfl rfl (R_move rfl rfl) <| wv rfl rfl rfl (R_stridx rfl rfl rfl Tryd.underlying9 (by omega) (by omega)) <| wv rfl rfl rfl (R_bin rfl rfl rfl rfl rfl) <| wv rfl rfl rfl (R_assign rfl rfl) ?_
        refine W_nil ?_
        refine E_then (C_fr [(0, vstr a0), (1, .func (.func ga1) #[] ka1.toArray), (5, .int .i64 ((n : Int) + 1)), (6, .slice Ar5 (ub t).length cr5), (93, .bool (((a0.getD (n + 1) 0).toNat : Int) != 13))] rfl ?_)
        refine C_ite rfl (fun hC11 => ?_) (fun hC11 => ?_)
        ·have _hC11 := trivial
         have hC11p : ¬ ((a0.getD (n + 1) 0).toNat : Int) = 13 := by simpa using hC11
         refine C_seq ?_
         refine C_region ?_
         refine wv rfl rfl rfl (R_move rfl rfl) <| wv rfl rfl rfl (R_assign rfl rfl) ?_
         refine W_nil ?_
         refine E_then (C_fr [(4, .int .i64 ((n : Int) + 1))] rfl ?_)
         refine C_ret ?_
         refine E_block_ret ?_
         refine E_then_ret ?_
         refine E_scope_ret ?_
         have hh149 : h = (run .F a0 0 []).1 := by first | (exact congrArg Prod.fst (Left.B_bad (Left.F_bare hJ0_3 (by intro h_; first | exact mt u34.2 (by assumption) | omega)) (by omega) (by first | exact .inl (u10.1 (by assumption)) | exact .inr (u34.1 (by assumption))))) | (exact congrArg Prod.fst (Left.B_bad hJ3_3 (by omega) (by first | exact .inl (u10.1 (by assumption)) | exact .inr (u34.1 (by assumption))))) | (exact congrArg Prod.fst (Left.Q_end hJ1_3 (by omega))) | (exact congrArg Prod.fst (hJ2_3)) | (exact congrArg Prod.fst (Left.P_bad (Left.Q_quote hJ1_3 (by omega) (u34.1 (by assumption))) (by omega) (by first | exact mt u34.2 (by assumption) | omega) (mt u44.2 (by assumption)) (mt u13.2 (by assumption)))) | (exact congrArg Prod.fst (Left.R_bad (Left.P_cr (Left.Q_quote hJ1_3 (by omega) (u34.1 (by assumption))) (by omega) (u13.1 (by assumption))) (by intro h_; first | exact mt u10.2 (by assumption) | omega))) | (exact congrArg Prod.fst (Left.R_end (Left.P_cr (Left.Q_quote hJ1_3 (by omega) (u34.1 (by assumption))) (by omega) (u13.1 (by assumption))) (by omega) (u10.1 (by assumption)))) | (exact congrArg Prod.fst (Left.P_bad hJ4_3 (by omega) (hJ4_4 (by omega)) (mt u44.2 (by assumption)) (mt u13.2 (by assumption)))) | (exact congrArg Prod.fst (Left.R_bad (Left.P_cr hJ4_3 (by omega) (u13.1 (by assumption))) (by intro h_; first | exact mt u10.2 (by assumption) | omega))) | (exact congrArg Prod.fst (Left.R_end (Left.P_cr hJ4_3 (by omega) (u13.1 (by assumption))) (by omega) (u10.1 (by assumption))))
         have hS := hS.cbr Ra1 1 rfl hh149
         refine E_ret1 rfl rfl ?_
         exact ⟨y6, Lret1 (Lint (show (n : Int) + 1 = (run .F a0 0 []).2 by first | (exact congrArg Prod.snd (Left.B_bad (Left.F_bare hJ0_3 (by intro h_; first | exact mt u34.2 (by assumption) | omega)) (by omega) (by first | exact .inl (u10.1 (by assumption)) | exact .inr (u34.1 (by assumption))))) | (exact congrArg Prod.snd (Left.B_bad hJ3_3 (by omega) (by first | exact .inl (u10.1 (by assumption)) | exact .inr (u34.1 (by assumption))))) | (exact congrArg Prod.snd (Left.Q_end hJ1_3 (by omega))) | (exact congrArg Prod.snd (hJ2_3)) | (exact congrArg Prod.snd (Left.P_bad (Left.Q_quote hJ1_3 (by omega) (u34.1 (by assumption))) (by omega) (by first | exact mt u34.2 (by assumption) | omega) (mt u44.2 (by assumption)) (mt u13.2 (by assumption)))) | (exact congrArg Prod.snd (Left.R_bad (Left.P_cr (Left.Q_quote hJ1_3 (by omega) (u34.1 (by assumption))) (by omega) (u13.1 (by assumption))) (by intro h_; first | exact mt u10.2 (by assumption) | omega))) | (exact congrArg Prod.snd (Left.R_end (Left.P_cr (Left.Q_quote hJ1_3 (by omega) (u34.1 (by assumption))) (by omega) (u13.1 (by assumption))) (by omega) (u10.1 (by assumption)))) | (exact congrArg Prod.snd (Left.P_bad hJ4_3 (by omega) (hJ4_4 (by omega)) (mt u44.2 (by assumption)) (mt u13.2 (by assumption)))) | (exact congrArg Prod.snd (Left.R_bad (Left.P_cr hJ4_3 (by omega) (u13.1 (by assumption))) (by intro h_; first | exact mt u10.2 (by assumption) | omega))) | (exact congrArg Prod.snd (Left.R_end (Left.P_cr hJ4_3 (by omega) (u13.1 (by assumption))) (by omega) (u10.1 (by assumption)))))), hS.fin [1] (by decide) rfl⟩
        ·have _hC11 := trivial
         have hC11p : ((a0.getD (n + 1) 0).toNat : Int) = 13 := by simpa using hC11
         refine C_skip ?_
         refine E_block_normal ?_
         refine E_then ?_
         refine C_seq ?_
         refine C_region ?_
         refine wv rfl rfl rfl (R_move rfl rfl) <| wv rfl rfl rfl (R_add64 rfl rfl rfl (by omega) (by omega)) <| wv rfl rfl rfl (R_assign rfl rfl) ?_
         refine W_nil ?_
         refine E_then ?_
         refine C_seq ?_
         refine C_seq ?_
         refine C_region ?_
         refine wv rfl rfl rfl (R_move rfl rfl) <| wv rfl rfl rfl (R_move rfl rfl) <| wv rfl rfl rfl (R_strlen rfl rfl Tryd.underlying9) <| wv rfl rfl rfl (R_bin rfl rfl rfl rfl rfl) <| wv rfl rfl rfl (R_move rfl rfl) ?_
         refine W_split (t := 105) rfl (fun hg150 => ?_) (fun hg150 => ?_)
         ·have _hg150 := trivial
          have hg150p : (((n : Int) + 1) + 1) = (a0.length : Int) := by simpa using hg150
          refine W_cons rfl (by decide) (Sv_off rfl rfl rfl (by rw [hg150] <;> rfl) ?_)
          refine W_cons rfl (by decide) (Sv_off rfl rfl rfl (by rw [hg150] <;> rfl) ?_)
          refine W_cons rfl (by decide) (Sv_off rfl rfl rfl (by rw [hg150] <;> rfl) ?_)
          refine W_cons rfl (by decide) (Sv_off rfl rfl rfl (by rw [hg150] <;> rfl) ?_)
          refine wv rfl rfl rfl (R_pick_t rfl rfl hg150 rfl) ?_
          refine W_nil ?_
          refine E_then (C_fr [(0, vstr a0), (1, .func (.func ga1) #[] ka1.toArray), (5, .int .i64 (((n : Int) + 1) + 1)), (6, .slice Ar5 (ub t).length cr5), (110, .bool true)] rfl ?_)
          refine C_if rfl rfl ?_
          refine C_seq ?_
          refine C_region ?_
          refine wv rfl rfl rfl (R_move rfl rfl) <| wv rfl rfl rfl (R_assign rfl rfl) ?_
          refine W_nil ?_
          refine E_then (C_fr [(4, .int .i64 (((n : Int) + 1) + 1))] rfl ?_)
          refine C_ret ?_
          refine E_then_ret ?_
          refine E_scope_ret ?_
          have hh151 : h = (run .F a0 0 []).1 := by first | (exact congrArg Prod.fst (Left.B_bad (Left.F_bare hJ0_3 (by intro h_; first | exact mt u34.2 (by assumption) | omega)) (by omega) (by first | exact .inl (u10.1 (by assumption)) | exact .inr (u34.1 (by assumption))))) | (exact congrArg Prod.fst (Left.B_bad hJ3_3 (by omega) (by first | exact .inl (u10.1 (by assumption)) | exact .inr (u34.1 (by assumption))))) | (exact congrArg Prod.fst (Left.Q_end hJ1_3 (by omega))) | (exact congrArg Prod.fst (hJ2_3)) | (exact congrArg Prod.fst (Left.P_bad (Left.Q_quote hJ1_3 (by omega) (u34.1 (by assumption))) (by omega) (by first | exact mt u34.2 (by assumption) | omega) (mt u44.2 (by assumption)) (mt u13.2 (by assumption)))) | (exact congrArg Prod.fst (Left.R_bad (Left.P_cr (Left.Q_quote hJ1_3 (by omega) (u34.1 (by assumption))) (by omega) (u13.1 (by assumption))) (by intro h_; first | exact mt u10.2 (by assumption) | omega))) | (exact congrArg Prod.fst (Left.R_end (Left.P_cr (Left.Q_quote hJ1_3 (by omega) (u34.1 (by assumption))) (by omega) (u13.1 (by assumption))) (by omega) (u10.1 (by assumption)))) | (exact congrArg Prod.fst (Left.P_bad hJ4_3 (by omega) (hJ4_4 (by omega)) (mt u44.2 (by assumption)) (mt u13.2 (by assumption)))) | (exact congrArg Prod.fst (Left.R_bad (Left.P_cr hJ4_3 (by omega) (u13.1 (by assumption))) (by intro h_; first | exact mt u10.2 (by assumption) | omega))) | (exact congrArg Prod.fst (Left.R_end (Left.P_cr hJ4_3 (by omega) (u13.1 (by assumption))) (by omega) (u10.1 (by assumption))))
          have hS := hS.cbr Ra1 1 rfl hh151
          refine E_ret1 rfl rfl ?_
          exact ⟨y6, Lret1 (Lint (show ((n : Int) + 1) + 1 = (run .F a0 0 []).2 by first | (exact congrArg Prod.snd (Left.B_bad (Left.F_bare hJ0_3 (by intro h_; first | exact mt u34.2 (by assumption) | omega)) (by omega) (by first | exact .inl (u10.1 (by assumption)) | exact .inr (u34.1 (by assumption))))) | (exact congrArg Prod.snd (Left.B_bad hJ3_3 (by omega) (by first | exact .inl (u10.1 (by assumption)) | exact .inr (u34.1 (by assumption))))) | (exact congrArg Prod.snd (Left.Q_end hJ1_3 (by omega))) | (exact congrArg Prod.snd (hJ2_3)) | (exact congrArg Prod.snd (Left.P_bad (Left.Q_quote hJ1_3 (by omega) (u34.1 (by assumption))) (by omega) (by first | exact mt u34.2 (by assumption) | omega) (mt u44.2 (by assumption)) (mt u13.2 (by assumption)))) | (exact congrArg Prod.snd (Left.R_bad (Left.P_cr (Left.Q_quote hJ1_3 (by omega) (u34.1 (by assumption))) (by omega) (u13.1 (by assumption))) (by intro h_; first | exact mt u10.2 (by assumption) | omega))) | (exact congrArg Prod.snd (Left.R_end (Left.P_cr (Left.Q_quote hJ1_3 (by omega) (u34.1 (by assumption))) (by omega) (u13.1 (by assumption))) (by omega) (u10.1 (by assumption)))) | (exact congrArg Prod.snd (Left.P_bad hJ4_3 (by omega) (hJ4_4 (by omega)) (mt u44.2 (by assumption)) (mt u13.2 (by assumption)))) | (exact congrArg Prod.snd (Left.R_bad (Left.P_cr hJ4_3 (by omega) (u13.1 (by assumption))) (by intro h_; first | exact mt u10.2 (by assumption) | omega))) | (exact congrArg Prod.snd (Left.R_end (Left.P_cr hJ4_3 (by omega) (u13.1 (by assumption))) (by omega) (u10.1 (by assumption)))))), hS.fin [1] (by decide) rfl⟩
         ·have _hg150 := trivial
          have hg150p : ¬ ((((n : Int) + 1) + 1) = (a0.length : Int)) := by simpa using hg150
          refine W_cons rfl (by decide) (Sv_gt rfl rfl rfl hg150 (Sv_val rfl (R_move rfl rfl) ?_))
          refine W_cons rfl (by decide) (Sv_gt rfl rfl rfl hg150 (Sv_val rfl (R_move rfl rfl) ?_))
          refine W_cons rfl (by decide) (Sv_gt rfl rfl rfl hg150 (Sv_val rfl (R_stridx rfl rfl rfl Tryd.underlying9 (by omega) (by omega)) ?_))
          refine W_cons rfl (by decide) (Sv_gt rfl rfl rfl hg150 (Sv_val rfl (R_bin rfl rfl rfl rfl rfl) ?_))
          refine wv rfl rfl rfl (R_pick_f rfl rfl hg150 rfl) ?_
          refine W_nil ?_
          refine E_then (C_fr [(0, vstr a0), (1, .func (.func ga1) #[] ka1.toArray), (5, .int .i64 (((n : Int) + 1) + 1)), (6, .slice Ar5 (ub t).length cr5), (110, .bool (((a0.getD (((n : Int) + 1) + 1).toNat 0).toNat : Int) != 10))] rfl ?_)
          refine C_ite rfl (fun hC12 => ?_) (fun hC12 => ?_)
          ·have _hC12 := trivial
           have hC12p : ¬ ((a0.getD (((n : Int) + 1) + 1).toNat 0).toNat : Int) = 10 := by simpa using hC12
           refine C_seq ?_
           refine C_region ?_
           refine wv rfl rfl rfl (R_move rfl rfl) <| wv rfl rfl rfl (R_assign rfl rfl) ?_
           refine W_nil ?_
           refine E_then (C_fr [(4, .int .i64 (((n : Int) + 1) + 1))] rfl ?_)
           refine C_ret ?_
           refine E_then_ret ?_
           refine E_scope_ret ?_
           have hh152 : h = (run .F a0 0 []).1 := by first | (exact congrArg Prod.fst (Left.B_bad (Left.F_bare hJ0_3 (by intro h_; first | exact mt u34.2 (by assumption) | omega)) (by omega) (by first | exact .inl (u10.1 (by assumption)) | exact .inr (u34.1 (by assumption))))) | (exact congrArg Prod.fst (Left.B_bad hJ3_3 (by omega) (by first | exact .inl (u10.1 (by assumption)) | exact .inr (u34.1 (by assumption))))) | (exact congrArg Prod.fst (Left.Q_end hJ1_3 (by omega))) | (exact congrArg Prod.fst (hJ2_3)) | (exact congrArg Prod.fst (Left.P_bad (Left.Q_quote hJ1_3 (by omega) (u34.1 (by assumption))) (by omega) (by first | exact mt u34.2 (by assumption) | omega) (mt u44.2 (by assumption)) (mt u13.2 (by assumption)))) | (exact congrArg Prod.fst (Left.R_bad (Left.P_cr (Left.Q_quote hJ1_3 (by omega) (u34.1 (by assumption))) (by omega) (u13.1 (by assumption))) (by intro h_; first | exact mt u10.2 (by assumption) | omega))) | (exact congrArg Prod.fst (Left.R_end (Left.P_cr (Left.Q_quote hJ1_3 (by omega) (u34.1 (by assumption))) (by omega) (u13.1 (by assumption))) (by omega) (u10.1 (by assumption)))) | (exact congrArg Prod.fst (Left.P_bad hJ4_3 (by omega) (hJ4_4 (by omega)) (mt u44.2 (by assumption)) (mt u13.2 (by assumption)))) | (exact congrArg Prod.fst (Left.R_bad (Left.P_cr hJ4_3 (by omega) (u13.1 (by assumption))) (by intro h_; first | exact mt u10.2 (by assumption) | omega))) | (exact congrArg Prod.fst (Left.R_end (Left.P_cr hJ4_3 (by omega) (u13.1 (by assumption))) (by omega) (u10.1 (by assumption))))
           have hS := hS.cbr Ra1 1 rfl hh152
           refine E_ret1 rfl rfl ?_
           exact ⟨y6, Lret1 (Lint (show ((n : Int) + 1) + 1 = (run .F a0 0 []).2 by first | (exact congrArg Prod.snd (Left.B_bad (Left.F_bare hJ0_3 (by intro h_; first | exact mt u34.2 (by assumption) | omega)) (by omega) (by first | exact .inl (u10.1 (by assumption)) | exact .inr (u34.1 (by assumption))))) | (exact congrArg Prod.snd (Left.B_bad hJ3_3 (by omega) (by first | exact .inl (u10.1 (by assumption)) | exact .inr (u34.1 (by assumption))))) | (exact congrArg Prod.snd (Left.Q_end hJ1_3 (by omega))) | (exact congrArg Prod.snd (hJ2_3)) | (exact congrArg Prod.snd (Left.P_bad (Left.Q_quote hJ1_3 (by omega) (u34.1 (by assumption))) (by omega) (by first | exact mt u34.2 (by assumption) | omega) (mt u44.2 (by assumption)) (mt u13.2 (by assumption)))) | (exact congrArg Prod.snd (Left.R_bad (Left.P_cr (Left.Q_quote hJ1_3 (by omega) (u34.1 (by assumption))) (by omega) (u13.1 (by assumption))) (by intro h_; first | exact mt u10.2 (by assumption) | omega))) | (exact congrArg Prod.snd (Left.R_end (Left.P_cr (Left.Q_quote hJ1_3 (by omega) (u34.1 (by assumption))) (by omega) (u13.1 (by assumption))) (by omega) (u10.1 (by assumption)))) | (exact congrArg Prod.snd (Left.P_bad hJ4_3 (by omega) (hJ4_4 (by omega)) (mt u44.2 (by assumption)) (mt u13.2 (by assumption)))) | (exact congrArg Prod.snd (Left.R_bad (Left.P_cr hJ4_3 (by omega) (u13.1 (by assumption))) (by intro h_; first | exact mt u10.2 (by assumption) | omega))) | (exact congrArg Prod.snd (Left.R_end (Left.P_cr hJ4_3 (by omega) (u13.1 (by assumption))) (by omega) (u10.1 (by assumption)))))), hS.fin [1] (by decide) rfl⟩
          ·have _hC12 := trivial
           have hC12p : ((a0.getD (((n : Int) + 1) + 1).toNat 0).toNat : Int) = 10 := by simpa using hC12
           refine C_skip ?_
           refine E_then ?_
           refine C_seq ?_
           refine C_region ?_
           refine wv rfl rfl rfl (R_move rfl rfl) <| wv rfl rfl rfl (R_move rfl rfl) <| wv rfl rfl rfl (S_bytestrZ (t := t) hS 0 rfl rfl rfl Tryd.underlying44 Tryd.underlying5 Tryd.underlying9) ?_
           refine W_cons rfl (by decide) (S_cb (s := h) (y := y6) hfa1 hS 1 rfl hza1 ((t, true)) (by show List.length _ ≤ _; first | omega | (simp; omega) | simp) rfl rfl rfl rfl rfl (fun y154 w153 hS => ?_))
           refine W_nil ?_
           refine E_then (C_fr [(0, vstr a0), (1, .func (.func ga1) #[] ka1.toArray), (5, .int .i64 (((n : Int) + 1) + 1)), (6, .slice Ar5 (ub t).length cr5)] rfl ?_)
           refine C_seq ?_
           refine C_region ?_
           refine wv rfl rfl rfl (R_move rfl rfl) <| wv rfl rfl rfl (R_add64 rfl rfl rfl (by omega) (by omega)) <| wv rfl rfl rfl (R_assign rfl rfl) ?_
           refine W_nil ?_
           refine E_then ?_
           refine C_seq ?_
           refine C_seq ?_
           refine C_region ?_
           refine wv rfl rfl rfl (R_move rfl rfl) <| wv rfl rfl rfl (R_move rfl rfl) <| wv rfl rfl rfl (R_strlen rfl rfl Tryd.underlying9) <| wv rfl rfl rfl (R_bin rfl rfl rfl rfl rfl) ?_
           refine W_nil ?_
           refine E_then (C_fr [(0, vstr a0), (1, .func (.func ga1) #[] ka1.toArray), (5, .int .i64 ((((n : Int) + 1) + 1) + 1)), (6, .slice Ar5 (ub t).length cr5), (121, .bool (decide (((((n : Int) + 1) + 1) + 1) < (a0.length : Int))))] rfl ?_)
           refine C_ite rfl (fun hC13 => ?_) (fun hC13 => ?_)
           ·have _hC13 := trivial
            have hC13p : ((((n : Int) + 1) + 1) + 1) < (a0.length : Int) := by simpa using hC13
            refine C_goto ?_
            refine E_then_goto ?_
            have hs155 : ub t = ub (t : St) := by simp [ub]
            have hS := hS.reZ 0 rfl hs155
            have hs156 : (((n : Int) + 1) + 1) + 1 = (((n + 1) + 2 : Nat) : Int) := by omega
            have hh157 : h ++ [(t, true)] = (h ++ [(t, true)] : Tells) := by simp
            have hS := hS.cbr Ra1 1 rfl hh157
            refine E_jump (m := 2 * (a0.length - ((n + 1) + 2 : Nat)) + 2) [0, 1, 5, 6] (by decide) (fun _ h_ => by cases h_; omega) ⟨((n + 1) + 2 : Nat), (h ++ [(t, true)] : Tells), (t : St), Ar5, cr5, Lr5, y154, (by rw [← hs155, ← hs156] <;> rfl), (by omega), (by first | (simp; done) | (simp at *; omega) | omega), (by first | (simp; done) | (simp at *; omega) | omega), (by exact Left.R_more (Left.P_cr (Left.Q_quote hJ1_3 (by omega) (u34.1 (by assumption))) (by omega) (u13.1 (by assumption))) (by omega) (u10.1 (by assumption))), rfl, hS.fin [0, 1] (by decide) rfl⟩
           ·have _hC13 := trivial
            have hC13p : ¬ (((((n : Int) + 1) + 1) + 1) < (a0.length : Int)) := by simpa using hC13
            refine C_skip ?_
            refine E_then (C_fr [] rfl ?_)
            refine C_seq ?_
            refine C_seq ?_
            refine C_region ?_
            refine wv rfl rfl rfl (R_assign rfl rfl) ?_
            refine W_nil ?_
            refine E_then ?_
            refine C_ret ?_
            refine E_then_ret ?_
            refine E_scope_ret ?_
            have hh158 : h ++ [(t, true)] = (run .F a0 0 []).1 := by first | (exact congrArg Prod.fst (Left.B_bad (Left.F_bare hJ0_3 (by intro h_; first | exact mt u34.2 (by assumption) | omega)) (by omega) (by first | exact .inl (u10.1 (by assumption)) | exact .inr (u34.1 (by assumption))))) | (exact congrArg Prod.fst (Left.B_bad hJ3_3 (by omega) (by first | exact .inl (u10.1 (by assumption)) | exact .inr (u34.1 (by assumption))))) | (exact congrArg Prod.fst (Left.Q_end hJ1_3 (by omega))) | (exact congrArg Prod.fst (hJ2_3)) | (exact congrArg Prod.fst (Left.P_bad (Left.Q_quote hJ1_3 (by omega) (u34.1 (by assumption))) (by omega) (by first | exact mt u34.2 (by assumption) | omega) (mt u44.2 (by assumption)) (mt u13.2 (by assumption)))) | (exact congrArg Prod.fst (Left.R_bad (Left.P_cr (Left.Q_quote hJ1_3 (by omega) (u34.1 (by assumption))) (by omega) (u13.1 (by assumption))) (by intro h_; first | exact mt u10.2 (by assumption) | omega))) | (exact congrArg Prod.fst (Left.R_end (Left.P_cr (Left.Q_quote hJ1_3 (by omega) (u34.1 (by assumption))) (by omega) (u13.1 (by assumption))) (by omega) (u10.1 (by assumption)))) | (exact congrArg Prod.fst (Left.P_bad hJ4_3 (by omega) (hJ4_4 (by omega)) (mt u44.2 (by assumption)) (mt u13.2 (by assumption)))) | (exact congrArg Prod.fst (Left.R_bad (Left.P_cr hJ4_3 (by omega) (u13.1 (by assumption))) (by intro h_; first | exact mt u10.2 (by assumption) | omega))) | (exact congrArg Prod.fst (Left.R_end (Left.P_cr hJ4_3 (by omega) (u13.1 (by assumption))) (by omega) (u10.1 (by assumption))))
            have hS := hS.cbr Ra1 1 rfl hh158
            refine E_ret1 rfl rfl ?_
            exact ⟨y154, Lret1 (Lint (show (-1) = (run .F a0 0 []).2 by first | (exact congrArg Prod.snd (Left.B_bad (Left.F_bare hJ0_3 (by intro h_; first | exact mt u34.2 (by assumption) | omega)) (by omega) (by first | exact .inl (u10.1 (by assumption)) | exact .inr (u34.1 (by assumption))))) | (exact congrArg Prod.snd (Left.B_bad hJ3_3 (by omega) (by first | exact .inl (u10.1 (by assumption)) | exact .inr (u34.1 (by assumption))))) | (exact congrArg Prod.snd (Left.Q_end hJ1_3 (by omega))) | (exact congrArg Prod.snd (hJ2_3)) | (exact congrArg Prod.snd (Left.P_bad (Left.Q_quote hJ1_3 (by omega) (u34.1 (by assumption))) (by omega) (by first | exact mt u34.2 (by assumption) | omega) (mt u44.2 (by assumption)) (mt u13.2 (by assumption)))) | (exact congrArg Prod.snd (Left.R_bad (Left.P_cr (Left.Q_quote hJ1_3 (by omega) (u34.1 (by assumption))) (by omega) (u13.1 (by assumption))) (by intro h_; first | exact mt u10.2 (by assumption) | omega))) | (exact congrArg Prod.snd (Left.R_end (Left.P_cr (Left.Q_quote hJ1_3 (by omega) (u34.1 (by assumption))) (by omega) (u13.1 (by assumption))) (by omega) (u10.1 (by assumption)))) | (exact congrArg Prod.snd (Left.P_bad hJ4_3 (by omega) (hJ4_4 (by omega)) (mt u44.2 (by assumption)) (mt u13.2 (by assumption)))) | (exact congrArg Prod.snd (Left.R_bad (Left.P_cr hJ4_3 (by omega) (u13.1 (by assumption))) (by intro h_; first | exact mt u10.2 (by assumption) | omega))) | (exact congrArg Prod.snd (Left.R_end (Left.P_cr hJ4_3 (by omega) (u13.1 (by assumption))) (by omega) (u10.1 (by assumption)))))), hS.fin [1] (by decide) rfl⟩
    ·have _hg133 := trivial
     have hg133p : ¬ (((n : Int) + 1) < (a0.length : Int)) := by simpa using hg133
     refine W_cons rfl (by decide) (Sv_off rfl rfl rfl (by rw [hg133] <;> rfl) ?_)
     refine W_cons rfl (by decide) (Sv_off rfl rfl rfl (by rw [hg133] <;> rfl) ?_)
     refine W_cons rfl (by decide) (Sv_off rfl rfl rfl (by rw [hg133] <;> rfl) ?_)
     refine W_cons rfl (by decide) (Sv_off rfl rfl rfl (by rw [hg133] <;> rfl) ?_)
     refine wv rfl rfl rfl (R_pick_f rfl rfl hg133 rfl) ?_
     refine W_nil ?_
     refine E_then (C_fr [(0, vstr a0), (1, .func (.func ga1) #[] ka1.toArray), (5, .int .i64 ((n : Int) + 1)), (6, .slice Ar5 (ub t).length cr5), (71, .bool false)] rfl ?_)
     refine C_else rfl rfl ?_
     refine C_skip ?_
     refine E_then ?_
     refine C_seq ?_
     refine C_label ?_
     refine E_then ?_
     refine C_seq ?_
     refine C_block ?_
     refine C_seq ?_
     refine C_region ?_
     refine wv rfl rfl rfl (R_move rfl rfl) <| wv rfl rfl rfl (R_move rfl rfl) <| wv rfl rfl rfl (R_strlen rfl rfl Tryd.underlying9) <| wv rfl rfl rfl (R_bin rfl rfl rfl rfl rfl) <| wv rfl rfl rfl (R_assign rfl rfl) ?_
     refine W_nil ?_
     refine E_then (C_fr [(0, vstr a0), (1, .func (.func ga1) #[] ka1.toArray), (5, .int .i64 ((n : Int) + 1)), (6, .slice Ar5 (ub t).length cr5), (77, .bool (((n : Int) + 1) == (a0.length : Int)))] rfl ?_)
     refine C_ite rfl (fun hC9 => ?_) (fun hC9 => ?_)
     ·have _hC9 := trivial
      have hC9p : ((n : Int) + 1) = (a0.length : Int) := by simpa using hC9
      refine C_goto ?_
      refine E_block_goto ?_
      refine E_then_goto ?_
      have hs159 : ub t = ub (t : St) := by simp [ub]
      have hS := hS.reZ 0 rfl hs159
      have hh160 : h = (h : Tells) := by simp
      have hS := hS.cbr Ra1 1 rfl hh160
      refine E_jump (m := 0) [1, 6] (by decide) (fun _ h_ => by cases h_; omega) ⟨((n + 1) : Nat), (h : Tells), (t : St), Ar5, cr5, Lr5, y6, (by rw [← hs159] <;> rfl), (by omega), (by first | (simp; done) | (simp at *; omega) | omega), (by first | (simp; done) | (simp at *; omega) | omega), (by exact Left.P_end (Left.Q_quote hJ1_3 (by omega) (u34.1 (by assumption))) (by omega)), rfl, hS.fin [0, 1] (by decide) rfl⟩
     ·have _hC9 := trivial
      have hC9p : ¬ (((n : Int) + 1) = (a0.length : Int)) := by simpa using hC9
      refine C_seq ?_
      refine C_region ?_
      refine wv rfl rfl rfl (R_move rfl rfl) <| wv rfl rfl rfl (R_move rfl rfl) <| wv rfl rfl rfl (R_stridx rfl rfl rfl Tryd.underlying9 (by omega) (by omega)) <| wv rfl rfl rfl (R_bin rfl rfl rfl rfl rfl) <| wv rfl rfl rfl (R_assign rfl rfl) ?_
      refine W_nil ?_
      refine E_then (C_fr [(0, vstr a0), (1, .func (.func ga1) #[] ka1.toArray), (5, .int .i64 ((n : Int) + 1)), (6, .slice Ar5 (ub t).length cr5), (82, .bool (((a0.getD (n + 1) 0).toNat : Int) == 44))] rfl ?_)
      refine C_ite rfl (fun hC10 => ?_) (fun hC10 => ?_)
      ·have _hC10 := trivial
       have hC10p : ((a0.getD (n + 1) 0).toNat : Int) = 44 := by simpa using hC10
       refine C_seq ?_
       refine C_region ?_
       refine wv rfl rfl rfl (R_move rfl rfl) <| wv rfl rfl rfl (R_move rfl rfl) <| wv rfl rfl rfl (S_bytestrZ (t := t) hS 0 rfl rfl rfl Tryd.underlying44 Tryd.underlying5 Tryd.underlying9) ?_
       refine W_cons rfl (by decide) (S_cb (s := h) (y := y6) hfa1 hS 1 rfl hza1 ((t, false)) (by show List.length _ ≤ _; first | omega | (simp; omega) | simp) rfl rfl rfl rfl rfl (fun y162 w161 hS => ?_))
       refine W_nil ?_
       refine E_then (C_fr [(0, vstr a0), (1, .func (.func ga1) #[] ka1.toArray), (5, .int .i64 ((n : Int) + 1)), (6, .slice Ar5 (ub t).length cr5)] rfl ?_)
       refine C_seq ?_
       refine C_region ?_
       refine wv rfl rfl rfl (R_move rfl rfl) <| wv rfl rfl rfl (R_add64 rfl rfl rfl (by omega) (by omega)) <| wv rfl rfl rfl (R_assign rfl rfl) ?_
       refine W_nil ?_
       refine E_then ?_
       refine C_goto ?_
       refine E_block_goto ?_
       refine E_then_goto ?_
       have hs163 : ub t = ub (t : St) := by simp [ub]
       have hS := hS.reZ 0 rfl hs163
       have hs164 : ((n : Int) + 1) + 1 = (((n + 1) + 1 : Nat) : Int) := by omega
       have hh165 : h ++ [(t, false)] = (h ++ [(t, false)] : Tells) := by simp
       have hS := hS.cbr Ra1 1 rfl hh165
       refine E_jump (m := 2 * (a0.length - ((n + 1) + 1 : Nat)) + 2) [0, 1, 5, 6] (by decide) (fun _ h_ => by cases h_; omega) ⟨((n + 1) + 1 : Nat), (h ++ [(t, false)] : Tells), (t : St), Ar5, cr5, Lr5, y162, (by rw [← hs163, ← hs164] <;> rfl), (by omega), (by first | (simp; done) | (simp at *; omega) | omega), (by first | (simp; done) | (simp at *; omega) | omega), (by exact Left.P_comma (Left.Q_quote hJ1_3 (by omega) (u34.1 (by assumption))) (by omega) (u44.1 (by assumption))), rfl, hS.fin [0, 1] (by decide) rfl⟩
      ·have _hC10 := trivial
       have hC10p : ¬ (((a0.getD (n + 1) 0).toNat : Int) = 44) := by simpa using hC10
       refine C_seq ?_
       refine C_region ?_
       refine wv rfl rfl rfl (R_move rfl rfl) <| wv rfl rfl rfl (R_move rfl rfl) <| wv rfl rfl rfl (R_stridx rfl rfl rfl Tryd.underlying9 (by omega) (by omega)) <| wv rfl rfl rfl (R_bin rfl rfl rfl rfl rfl) <| wv rfl rfl rfl (R_assign rfl rfl) ?_
       refine W_nil ?_
       refine E_then (C_fr [(0, vstr a0), (1, .func (.func ga1) #[] ka1.toArray), (5, .int .i64 ((n : Int) + 1)), (6, .slice Ar5 (ub t).length cr5), (93, .bool (((a0.getD (n + 1) 0).toNat : Int) != 13))] rfl ?_)
       refine C_ite rfl (fun hC11 => ?_) (fun hC11 => ?_)
       ·have _hC11 := trivial
        have hC11p : ¬ ((a0.getD (n + 1) 0).toNat : Int) = 13 := by simpa using hC11
        refine C_seq ?_
        refine C_region ?_
        refine wv rfl rfl rfl (R_move rfl rfl) <| wv rfl rfl rfl (R_assign rfl rfl) ?_
        refine W_nil ?_
        refine E_then (C_fr [(4, .int .i64 ((n : Int) + 1))] rfl ?_)
        refine C_ret ?_
        refine E_block_ret ?_
        refine E_then_ret ?_
        refine E_scope_ret ?_
        have hh166 : h = (run .F a0 0 []).1 := by first | (exact congrArg Prod.fst (Left.B_bad (Left.F_bare hJ0_3 (by intro h_; first | exact mt u34.2 (by assumption) | omega)) (by omega) (by first | exact .inl (u10.1 (by assumption)) | exact .inr (u34.1 (by assumption))))) | (exact congrArg Prod.fst (Left.B_bad hJ3_3 (by omega) (by first | exact .inl (u10.1 (by assumption)) | exact .inr (u34.1 (by assumption))))) | (exact congrArg Prod.fst (Left.Q_end hJ1_3 (by omega))) | (exact congrArg Prod.fst (hJ2_3)) | (exact congrArg Prod.fst (Left.P_bad (Left.Q_quote hJ1_3 (by omega) (u34.1 (by assumption))) (by omega) (by first | exact mt u34.2 (by assumption) | omega) (mt u44.2 (by assumption)) (mt u13.2 (by assumption)))) | (exact congrArg Prod.fst (Left.R_bad (Left.P_cr (Left.Q_quote hJ1_3 (by omega) (u34.1 (by assumption))) (by omega) (u13.1 (by assumption))) (by intro h_; first | exact mt u10.2 (by assumption) | omega))) | (exact congrArg Prod.fst (Left.R_end (Left.P_cr (Left.Q_quote hJ1_3 (by omega) (u34.1 (by assumption))) (by omega) (u13.1 (by assumption))) (by omega) (u10.1 (by assumption)))) | (exact congrArg Prod.fst (Left.P_bad hJ4_3 (by omega) (hJ4_4 (by omega)) (mt u44.2 (by assumption)) (mt u13.2 (by assumption)))) | (exact congrArg Prod.fst (Left.R_bad (Left.P_cr hJ4_3 (by omega) (u13.1 (by assumption))) (by intro h_; first | exact mt u10.2 (by assumption) | omega))) | (exact congrArg Prod.fst (Left.R_end (Left.P_cr hJ4_3 (by omega) (u13.1 (by assumption))) (by omega) (u10.1 (by assumption))))
        have hS := hS.cbr Ra1 1 rfl hh166
        refine E_ret1 rfl rfl ?_
        exact ⟨y6, Lret1 (Lint (show (n : Int) + 1 = (run .F a0 0 []).2 by first | (exact congrArg Prod.snd (Left.B_bad (Left.F_bare hJ0_3 (by intro h_; first | exact mt u34.2 (by assumption) | omega)) (by omega) (by first | exact .inl (u10.1 (by assumption)) | exact .inr (u34.1 (by assumption))))) | (exact congrArg Prod.snd (Left.B_bad hJ3_3 (by omega) (by first | exact .inl (u10.1 (by assumption)) | exact .inr (u34.1 (by assumption))))) | (exact congrArg Prod.snd (Left.Q_end hJ1_3 (by omega))) | (exact congrArg Prod.snd (hJ2_3)) | (exact congrArg Prod.snd (Left.P_bad (Left.Q_quote hJ1_3 (by omega) (u34.1 (by assumption))) (by omega) (by first | exact mt u34.2 (by assumption) | omega) (mt u44.2 (by assumption)) (mt u13.2 (by assumption)))) | (exact congrArg Prod.snd (Left.R_bad (Left.P_cr (Left.Q_quote hJ1_3 (by omega) (u34.1 (by assumption))) (by omega) (u13.1 (by assumption))) (by intro h_; first | exact mt u10.2 (by assumption) | omega))) | (exact congrArg Prod.snd (Left.R_end (Left.P_cr (Left.Q_quote hJ1_3 (by omega) (u34.1 (by assumption))) (by omega) (u13.1 (by assumption))) (by omega) (u10.1 (by assumption)))) | (exact congrArg Prod.snd (Left.P_bad hJ4_3 (by omega) (hJ4_4 (by omega)) (mt u44.2 (by assumption)) (mt u13.2 (by assumption)))) | (exact congrArg Prod.snd (Left.R_bad (Left.P_cr hJ4_3 (by omega) (u13.1 (by assumption))) (by intro h_; first | exact mt u10.2 (by assumption) | omega))) | (exact congrArg Prod.snd (Left.R_end (Left.P_cr hJ4_3 (by omega) (u13.1 (by assumption))) (by omega) (u10.1 (by assumption)))))), hS.fin [1] (by decide) rfl⟩
       ·have _hC11 := trivial
        have hC11p : ((a0.getD (n + 1) 0).toNat : Int) = 13 := by simpa using hC11
        refine C_skip ?_
        refine E_block_normal ?_
        refine E_then ?_
        refine C_seq ?_
        refine C_region ?_
        refine wv rfl rfl rfl (R_move rfl rfl) <| wv rfl rfl rfl (R_add64 rfl rfl rfl (by omega) (by omega)) <| wv rfl rfl rfl (R_assign rfl rfl) ?_
        refine W_nil ?_
        refine E_then ?_
        refine C_seq ?_
        refine C_seq ?_
        refine C_region ?_
        refine wv rfl rfl rfl (R_move rfl rfl) <| wv rfl rfl rfl (R_move rfl rfl) <| wv rfl rfl rfl (R_strlen rfl rfl Tryd.underlying9) <| wv rfl rfl rfl (R_bin rfl rfl rfl rfl rfl) <| wv rfl rfl rfl (R_move rfl rfl) ?_
        refine W_split (t := 105) rfl (fun hg167 => ?_) (fun hg167 => ?_)
        ·have _hg167 := trivial
         have hg167p : (((n : Int) + 1) + 1) = (a0.length : Int) := by simpa using hg167
         refine W_cons rfl (by decide) (Sv_off rfl rfl rfl (by rw [hg167] <;> rfl) ?_)
         refine W_cons rfl (by decide) (Sv_off rfl rfl rfl (by rw [hg167] <;> rfl) ?_)
         refine W_cons rfl (by decide) (Sv_off rfl rfl rfl (by rw [hg167] <;> rfl) ?_)
         refine W_cons rfl (by decide) (Sv_off rfl rfl rfl (by rw [hg167] <;> rfl) ?_)
         refine wv rfl rfl rfl (R_pick_t rfl rfl hg167 rfl) ?_
         refine W_nil ?_
         refine E_then (C_fr [(0, vstr a0), (1, .func (.func ga1) #[] ka1.toArray), (5, .int .i64 (((n : Int) + 1) + 1)), (6, .slice Ar5 (ub t).length cr5), (110, .bool true)] rfl ?_)
         refine C_if rfl rfl ?_
         refine C_seq ?_
         refine C_region ?_
         refine wv rfl rfl rfl (R_move rfl rfl) <| wv rfl rfl rfl (R_assign rfl rfl) ?_
         refine W_nil ?_
         refine E_then (C_fr [(4, .int .i64 (((n : Int) + 1) + 1))] rfl ?_)
         refine C_ret ?_
         refine E_then_ret ?_
         refine E_scope_ret ?_
         have hh168 : h = (run .F a0 0 []).1 := by first | (exact congrArg Prod.fst (Left.B_bad (Left.F_bare hJ0_3 (by intro h_; first | exact mt u34.2 (by assumption) | omega)) (by omega) (by first | exact .inl (u10.1 (by assumption)) | exact .inr (u34.1 (by assumption))))) | (exact congrArg Prod.fst (Left.B_bad hJ3_3 (by omega) (by first | exact .inl (u10.1 (by assumption)) | exact .inr (u34.1 (by assumption))))) | (exact congrArg Prod.fst (Left.Q_end hJ1_3 (by omega))) | (exact congrArg Prod.fst (hJ2_3)) | (exact congrArg Prod.fst (Left.P_bad (Left.Q_quote hJ1_3 (by omega) (u34.1 (by assumption))) (by omega) (by first | exact mt u34.2 (by assumption) | omega) (mt u44.2 (by assumption)) (mt u13.2 (by assumption)))) | (exact congrArg Prod.fst (Left.R_bad (Left.P_cr (Left.Q_quote hJ1_3 (by omega) (u34.1 (by assumption))) (by omega) (u13.1 (by assumption))) (by intro h_; first | exact mt u10.2 (by assumption) | omega))) | (exact congrArg Prod.fst (Left.R_end (Left.P_cr (Left.Q_quote hJ1_3 (by omega) (u34.1 (by assumption))) (by omega) (u13.1 (by assumption))) (by omega) (u10.1 (by assumption)))) | (exact congrArg Prod.fst (Left.P_bad hJ4_3 (by omega) (hJ4_4 (by omega)) (mt u44.2 (by assumption)) (mt u13.2 (by assumption)))) | (exact congrArg Prod.fst (Left.R_bad (Left.P_cr hJ4_3 (by omega) (u13.1 (by assumption))) (by intro h_; first | exact mt u10.2 (by assumption) | omega))) | (exact congrArg Prod.fst (Left.R_end (Left.P_cr hJ4_3 (by omega) (u13.1 (by assumption))) (by omega) (u10.1 (by assumption))))
         have hS := hS.cbr Ra1 1 rfl hh168
         refine E_ret1 rfl rfl ?_
         exact ⟨y6, Lret1 (Lint (show ((n : Int) + 1) + 1 = (run .F a0 0 []).2 by first | (exact congrArg Prod.snd (Left.B_bad (Left.F_bare hJ0_3 (by intro h_; first | exact mt u34.2 (by assumption) | omega)) (by omega) (by first | exact .inl (u10.1 (by assumption)) | exact .inr (u34.1 (by assumption))))) | (exact congrArg Prod.snd (Left.B_bad hJ3_3 (by omega) (by first | exact .inl (u10.1 (by assumption)) | exact .inr (u34.1 (by assumption))))) | (exact congrArg Prod.snd (Left.Q_end hJ1_3 (by omega))) | (exact congrArg Prod.snd (hJ2_3)) | (exact congrArg Prod.snd (Left.P_bad (Left.Q_quote hJ1_3 (by omega) (u34.1 (by assumption))) (by omega) (by first | exact mt u34.2 (by assumption) | omega) (mt u44.2 (by assumption)) (mt u13.2 (by assumption)))) | (exact congrArg Prod.snd (Left.R_bad (Left.P_cr (Left.Q_quote hJ1_3 (by omega) (u34.1 (by assumption))) (by omega) (u13.1 (by assumption))) (by intro h_; first | exact mt u10.2 (by assumption) | omega))) | (exact congrArg Prod.snd (Left.R_end (Left.P_cr (Left.Q_quote hJ1_3 (by omega) (u34.1 (by assumption))) (by omega) (u13.1 (by assumption))) (by omega) (u10.1 (by assumption)))) | (exact congrArg Prod.snd (Left.P_bad hJ4_3 (by omega) (hJ4_4 (by omega)) (mt u44.2 (by assumption)) (mt u13.2 (by assumption)))) | (exact congrArg Prod.snd (Left.R_bad (Left.P_cr hJ4_3 (by omega) (u13.1 (by assumption))) (by intro h_; first | exact mt u10.2 (by assumption) | omega))) | (exact congrArg Prod.snd (Left.R_end (Left.P_cr hJ4_3 (by omega) (u13.1 (by assumption))) (by omega) (u10.1 (by assumption)))))), hS.fin [1] (by decide) rfl⟩
        ·have _hg167 := trivial
         have hg167p : ¬ ((((n : Int) + 1) + 1) = (a0.length : Int)) := by simpa using hg167
         refine W_cons rfl (by decide) (Sv_gt rfl rfl rfl hg167 (Sv_val rfl (R_move rfl rfl) ?_))
         refine W_cons rfl (by decide) (Sv_gt rfl rfl rfl hg167 (Sv_val rfl (R_move rfl rfl) ?_))
         refine W_cons rfl (by decide) (Sv_gt rfl rfl rfl hg167 (Sv_val rfl (R_stridx rfl rfl rfl Tryd.underlying9 (by omega) (by omega)) ?_))
         refine W_cons rfl (by decide) (Sv_gt rfl rfl rfl hg167 (Sv_val rfl (R_bin rfl rfl rfl rfl rfl) ?_))
         refine wv rfl rfl rfl (R_pick_f rfl rfl hg167 rfl) ?_
         refine W_nil ?_
         refine E_then (C_fr [(0, vstr a0), (1, .func (.func ga1) #[] ka1.toArray), (5, .int .i64 (((n : Int) + 1) + 1)), (6, .slice Ar5 (ub t).length cr5), (110, .bool (((a0.getD (((n : Int) + 1) + 1).toNat 0).toNat : Int) != 10))] rfl ?_)
         refine C_ite rfl (fun hC12 => ?_) (fun hC12 => ?_)
         ·have _hC12 := trivial
          have hC12p : ¬ ((a0.getD (((n : Int) + 1) + 1).toNat 0).toNat : Int) = 10 := by simpa using hC12
          refine C_seq ?_
          refine C_region ?_
          refine wv rfl rfl rfl (R_move rfl rfl) <| wv rfl rfl rfl (R_assign rfl rfl) ?_
          refine W_nil ?_
          refine E_then (C_fr [(4, .int .i64 (((n : Int) + 1) + 1))] rfl ?_)
          refine C_ret ?_
          refine E_then_ret ?_
          refine E_scope_ret ?_
          have hh169 : h = (run .F a0 0 []).1 := by first | (exact congrArg Prod.fst (Left.B_bad (Left.F_bare hJ0_3 (by intro h_; first | exact mt u34.2 (by assumption) | omega)) (by omega) (by first | exact .inl (u10.1 (by assumption)) | exact .inr (u34.1 (by assumption))))) | (exact congrArg Prod.fst (Left.B_bad hJ3_3 (by omega) (by first | exact .inl (u10.1 (by assumption)) | exact .inr (u34.1 (by assumption))))) | (exact congrArg Prod.fst (Left.Q_end hJ1_3 (by omega))) | (exact congrArg Prod.fst (hJ2_3)) | (exact congrArg Prod.fst (Left.P_bad (Left.Q_quote hJ1_3 (by omega) (u34.1 (by assumption))) (by omega) (by first | exact mt u34.2 (by assumption) | omega) (mt u44.2 (by assumption)) (mt u13.2 (by assumption)))) | (exact congrArg Prod.fst (Left.R_bad (Left.P_cr (Left.Q_quote hJ1_3 (by omega) (u34.1 (by assumption))) (by omega) (u13.1 (by assumption))) (by intro h_; first | exact mt u10.2 (by assumption) | omega))) | (exact congrArg Prod.fst (Left.R_end (Left.P_cr (Left.Q_quote hJ1_3 (by omega) (u34.1 (by assumption))) (by omega) (u13.1 (by assumption))) (by omega) (u10.1 (by assumption)))) | (exact congrArg Prod.fst (Left.P_bad hJ4_3 (by omega) (hJ4_4 (by omega)) (mt u44.2 (by assumption)) (mt u13.2 (by assumption)))) | (exact congrArg Prod.fst (Left.R_bad (Left.P_cr hJ4_3 (by omega) (u13.1 (by assumption))) (by intro h_; first | exact mt u10.2 (by assumption) | omega))) | (exact congrArg Prod.fst (Left.R_end (Left.P_cr hJ4_3 (by omega) (u13.1 (by assumption))) (by omega) (u10.1 (by assumption))))
          have hS := hS.cbr Ra1 1 rfl hh169
          refine E_ret1 rfl rfl ?_
          exact ⟨y6, Lret1 (Lint (show ((n : Int) + 1) + 1 = (run .F a0 0 []).2 by first | (exact congrArg Prod.snd (Left.B_bad (Left.F_bare hJ0_3 (by intro h_; first | exact mt u34.2 (by assumption) | omega)) (by omega) (by first | exact .inl (u10.1 (by assumption)) | exact .inr (u34.1 (by assumption))))) | (exact congrArg Prod.snd (Left.B_bad hJ3_3 (by omega) (by first | exact .inl (u10.1 (by assumption)) | exact .inr (u34.1 (by assumption))))) | (exact congrArg Prod.snd (Left.Q_end hJ1_3 (by omega))) | (exact congrArg Prod.snd (hJ2_3)) | (exact congrArg Prod.snd (Left.P_bad (Left.Q_quote hJ1_3 (by omega) (u34.1 (by assumption))) (by omega) (by first | exact mt u34.2 (by assumption) | omega) (mt u44.2 (by assumption)) (mt u13.2 (by assumption)))) | (exact congrArg Prod.snd (Left.R_bad (Left.P_cr (Left.Q_quote hJ1_3 (by omega) (u34.1 (by assumption))) (by omega) (u13.1 (by assumption))) (by intro h_; first | exact mt u10.2 (by assumption) | omega))) | (exact congrArg Prod.snd (Left.R_end (Left.P_cr (Left.Q_quote hJ1_3 (by omega) (u34.1 (by assumption))) (by omega) (u13.1 (by assumption))) (by omega) (u10.1 (by assumption)))) | (exact congrArg Prod.snd (Left.P_bad hJ4_3 (by omega) (hJ4_4 (by omega)) (mt u44.2 (by assumption)) (mt u13.2 (by assumption)))) | (exact congrArg Prod.snd (Left.R_bad (Left.P_cr hJ4_3 (by omega) (u13.1 (by assumption))) (by intro h_; first | exact mt u10.2 (by assumption) | omega))) | (exact congrArg Prod.snd (Left.R_end (Left.P_cr hJ4_3 (by omega) (u13.1 (by assumption))) (by omega) (u10.1 (by assumption)))))), hS.fin [1] (by decide) rfl⟩
         ·have _hC12 := trivial
          have hC12p : ((a0.getD (((n : Int) + 1) + 1).toNat 0).toNat : Int) = 10 := by simpa using hC12
          refine C_skip ?_
          refine E_then ?_
          refine C_seq ?_
          refine C_region ?_
          refine wv rfl rfl rfl (R_move rfl rfl) <| wv rfl rfl rfl (R_move rfl rfl) <| wv rfl rfl rfl (S_bytestrZ (t := t) hS 0 rfl rfl rfl Tryd.underlying44 Tryd.underlying5 Tryd.underlying9) ?_
          refine W_cons rfl (by decide) (S_cb (s := h) (y := y6) hfa1 hS 1 rfl hza1 ((t, true)) (by show List.length _ ≤ _; first | omega | (simp; omega) | simp) rfl rfl rfl rfl rfl (fun y171 w170 hS => ?_))
          refine W_nil ?_
          refine E_then (C_fr [(0, vstr a0), (1, .func (.func ga1) #[] ka1.toArray), (5, .int .i64 (((n : Int) + 1) + 1)), (6, .slice Ar5 (ub t).length cr5)] rfl ?_)
          refine C_seq ?_
          refine C_region ?_
          refine wv rfl rfl rfl (R_move rfl rfl) <| wv rfl rfl rfl (R_add64 rfl rfl rfl (by omega) (by omega)) <| wv rfl rfl rfl (R_assign rfl rfl) ?_
          refine W_nil ?_
          refine E_then ?_
          refine C_seq ?_
          refine C_seq ?_
          refine C_region ?_
          refine wv rfl rfl rfl (R_move rfl rfl) <| wv rfl rfl rfl (R_move rfl rfl) <| wv rfl rfl rfl (R_strlen rfl rfl Tryd.underlying9) <| wv rfl rfl rfl (R_bin rfl rfl rfl rfl rfl) ?_
          refine W_nil ?_
          refine E_then (C_fr [(0, vstr a0), (1, .func (.func ga1) #[] ka1.toArray), (5, .int .i64 ((((n : Int) + 1) + 1) + 1)), (6, .slice Ar5 (ub t).length cr5), (121, .bool (decide (((((n : Int) + 1) + 1) + 1) < (a0.length : Int))))] rfl ?_)
          refine C_ite rfl (fun hC13 => ?_) (fun hC13 => ?_)
          ·have _hC13 := trivial
           have hC13p : ((((n : Int) + 1) + 1) + 1) < (a0.length : Int) := by simpa using hC13
           refine C_goto ?_
           refine E_then_goto ?_
           have hs172 : ub t = ub (t : St) := by simp [ub]
           have hS := hS.reZ 0 rfl hs172
           have hs173 : (((n : Int) + 1) + 1) + 1 = (((n + 1) + 2 : Nat) : Int) := by omega
           have hh174 : h ++ [(t, true)] = (h ++ [(t, true)] : Tells) := by simp
           have hS := hS.cbr Ra1 1 rfl hh174
           refine E_jump (m := 2 * (a0.length - ((n + 1) + 2 : Nat)) + 2) [0, 1, 5, 6] (by decide) (fun _ h_ => by cases h_; omega) ⟨((n + 1) + 2 : Nat), (h ++ [(t, true)] : Tells), (t : St), Ar5, cr5, Lr5, y171, (by rw [← hs172, ← hs173] <;> rfl), (by omega), (by first | (simp; done) | (simp at *; omega) | omega), (by first | (simp; done) | (simp at *; omega) | omega), (by exact Left.R_more (Left.P_cr (Left.Q_quote hJ1_3 (by omega) (u34.1 (by assumption))) (by omega) (u13.1 (by assumption))) (by omega) (u10.1 (by assumption))), rfl, hS.fin [0, 1] (by decide) rfl⟩
          ·have _hC13 := trivial
           have hC13p : ¬ (((((n : Int) + 1) + 1) + 1) < (a0.length : Int)) := by simpa using hC13
           refine C_skip ?_
           refine E_then (C_fr [] rfl ?_)
           refine C_seq ?_
           refine C_seq ?_
           refine C_region ?_
           refine wv rfl rfl rfl (R_assign rfl rfl) ?_
           refine W_nil ?_
           refine E_then ?_
           refine C_ret ?_
           refine E_then_ret ?_
           refine E_scope_ret ?_
           have hh175 : h ++ [(t, true)] = (run .F a0 0 []).1 := by first | (exact congrArg Prod.fst (Left.B_bad (Left.F_bare hJ0_3 (by intro h_; first | exact mt u34.2 (by assumption) | omega)) (by omega) (by first | exact .inl (u10.1 (by assumption)) | exact .inr (u34.1 (by assumption))))) | (exact congrArg Prod.fst (Left.B_bad hJ3_3 (by omega) (by first | exact .inl (u10.1 (by assumption)) | exact .inr (u34.1 (by assumption))))) | (exact congrArg Prod.fst (Left.Q_end hJ1_3 (by omega))) | (exact congrArg Prod.fst (hJ2_3)) | (exact congrArg Prod.fst (Left.P_bad (Left.Q_quote hJ1_3 (by omega) (u34.1 (by assumption))) (by omega) (by first | exact mt u34.2 (by assumption) | omega) (mt u44.2 (by assumption)) (mt u13.2 (by assumption)))) | (exact congrArg Prod.fst (Left.R_bad (Left.P_cr (Left.Q_quote hJ1_3 (by omega) (u34.1 (by assumption))) (by omega) (u13.1 (by assumption))) (by intro h_; first | exact mt u10.2 (by assumption) | omega))) | (exact congrArg Prod.fst (Left.R_end (Left.P_cr (Left.Q_quote hJ1_3 (by omega) (u34.1 (by assumption))) (by omega) (u13.1 (by assumption))) (by omega) (u10.1 (by assumption)))) | (exact congrArg Prod.fst (Left.P_bad hJ4_3 (by omega) (hJ4_4 (by omega)) (mt u44.2 (by assumption)) (mt u13.2 (by assumption)))) | (exact congrArg Prod.fst (Left.R_bad (Left.P_cr hJ4_3 (by omega) (u13.1 (by assumption))) (by intro h_; first | exact mt u10.2 (by assumption) | omega))) | (exact congrArg Prod.fst (Left.R_end (Left.P_cr hJ4_3 (by omega) (u13.1 (by assumption))) (by omega) (u10.1 (by assumption))))
           have hS := hS.cbr Ra1 1 rfl hh175
           refine E_ret1 rfl rfl ?_
           exact ⟨y171, Lret1 (Lint (show (-1) = (run .F a0 0 []).2 by first | (exact congrArg Prod.snd (Left.B_bad (Left.F_bare hJ0_3 (by intro h_; first | exact mt u34.2 (by assumption) | omega)) (by omega) (by first | exact .inl (u10.1 (by assumption)) | exact .inr (u34.1 (by assumption))))) | (exact congrArg Prod.snd (Left.B_bad hJ3_3 (by omega) (by first | exact .inl (u10.1 (by assumption)) | exact .inr (u34.1 (by assumption))))) | (exact congrArg Prod.snd (Left.Q_end hJ1_3 (by omega))) | (exact congrArg Prod.snd (hJ2_3)) | (exact congrArg Prod.snd (Left.P_bad (Left.Q_quote hJ1_3 (by omega) (u34.1 (by assumption))) (by omega) (by first | exact mt u34.2 (by assumption) | omega) (mt u44.2 (by assumption)) (mt u13.2 (by assumption)))) | (exact congrArg Prod.snd (Left.R_bad (Left.P_cr (Left.Q_quote hJ1_3 (by omega) (u34.1 (by assumption))) (by omega) (u13.1 (by assumption))) (by intro h_; first | exact mt u10.2 (by assumption) | omega))) | (exact congrArg Prod.snd (Left.R_end (Left.P_cr (Left.Q_quote hJ1_3 (by omega) (u34.1 (by assumption))) (by omega) (u13.1 (by assumption))) (by omega) (u10.1 (by assumption)))) | (exact congrArg Prod.snd (Left.P_bad hJ4_3 (by omega) (hJ4_4 (by omega)) (mt u44.2 (by assumption)) (mt u13.2 (by assumption)))) | (exact congrArg Prod.snd (Left.R_bad (Left.P_cr hJ4_3 (by omega) (u13.1 (by assumption))) (by intro h_; first | exact mt u10.2 (by assumption) | omega))) | (exact congrArg Prod.snd (Left.R_end (Left.P_cr hJ4_3 (by omega) (u13.1 (by assumption))) (by omega) (u10.1 (by assumption)))))), hS.fin [1] (by decide) rfl⟩
 ·refine ⟨_, rfl, ?_⟩
  rintro m_ f_ w176 ⟨n, h, t, Ar7, cr7, Lr7, y8, rfl, hJ4_0, hJ4_1, hJ4_2, hJ4_3, hJ4_4, rfl, hS⟩
  have hlr7 := (hS.lez 0 rfl).1
  have hmr7 := (hS.lez 0 rfl).2
  have hub := ub_len t
  refine C_seq ?_
  refine C_skip ?_
  refine E_then ?_
  refine C_seq ?_
  refine C_block ?_
  refine C_seq ?_
  refine C_region ?_
  refine wv rfl rfl rfl (R_move rfl rfl) <| wv rfl rfl rfl (R_move rfl rfl) <| wv rfl rfl rfl (R_strlen rfl rfl Tryd.underlying9) <| wv rfl rfl rfl (R_bin rfl rfl rfl rfl rfl) <| wv rfl rfl rfl (R_assign rfl rfl) ?_
  refine W_nil ?_
  refine E_then ?_
  refine C_ite rfl (fun hC9 => ?_) (fun hC9 => ?_)
  ·have _hC9 := trivial
   have hC9p : (n : Int) = (a0.length : Int) := by simpa using hC9
   refine C_goto ?_
   refine E_block_goto ?_
   refine E_then_goto ?_
   have hs177 : ub t = ub (t : St) := by simp [ub]
   have hS := hS.reZ 0 rfl hs177
   have hh178 : h = (h : Tells) := by simp
   have hS := hS.cbr Ra1 1 rfl hh178
   refine E_jump (m := 0) [1, 6] (by decide) (fun _ h_ => by cases h_; omega) ⟨(n : Nat), (h : Tells), (t : St), Ar7, cr7, Lr7, y8, (by rw [← hs177] <;> rfl), (by omega), (by first | (simp; done) | (simp at *; omega) | omega), (by first | (simp; done) | (simp at *; omega) | omega), (by exact Left.P_end hJ4_3 (by omega)), rfl, hS.fin [0, 1] (by decide) rfl⟩
  ·have _hC9 := trivial
   have hC9p : ¬ ((n : Int) = (a0.length : Int)) := by simpa using hC9
   refine C_seq ?_
   refine C_region ?_
   refine wv rfl rfl rfl (R_move rfl rfl) <| wv rfl rfl rfl (R_move rfl rfl) <| wv rfl rfl rfl (R_stridx rfl rfl rfl Tryd.underlying9 (by omega) (by omega)) <| wv rfl rfl rfl (R_bin rfl rfl rfl rfl rfl) <| wv rfl rfl rfl (R_assign rfl rfl) ?_
   refine W_nil ?_
   refine E_then (C_fr [(0, vstr a0), (1, .func (.func ga1) #[] ka1.toArray), (5, .int .i64 (n : Int)), (6, .slice Ar7 (ub t).length cr7), (82, .bool (((a0.getD n 0).toNat : Int) == 44))] rfl ?_)
   refine C_ite rfl (fun hC10 => ?_) (fun hC10 => ?_)
   ·have _hC10 := trivial
    have hC10p : ((a0.getD n 0).toNat : Int) = 44 := by simpa using hC10
    refine C_seq ?_
    refine C_region ?_
    refine wv rfl rfl rfl (R_move rfl rfl) <| wv rfl rfl rfl (R_move rfl rfl) <| wv rfl rfl rfl (S_bytestrZ (t := t) hS 0 rfl rfl rfl Tryd.underlying44 Tryd.underlying5 Tryd.underlying9) ?_
    refine W_cons rfl (by decide) (S_cb (s := h) (y := y8) hfa1 hS 1 rfl hza1 ((t, false)) (by show List.length _ ≤ _; first | omega | (simp; omega) | simp) rfl rfl rfl rfl rfl (fun y180 w179 hS => ?_))
    refine W_nil ?_
    refine E_then (C_fr [(0, vstr a0), (1, .func (.func ga1) #[] ka1.toArray), (5, .int .i64 (n : Int)), (6, .slice Ar7 (ub t).length cr7)] rfl ?_)
    refine C_seq ?_
    refine C_region ?_
    refine wv rfl rfl rfl (R_move rfl rfl) <| wv rfl rfl rfl (R_add64 rfl rfl rfl (by omega) (by omega)) <| wv rfl rfl rfl (R_assign rfl rfl) ?_
    refine W_nil ?_
    refine E_then ?_
    refine C_goto ?_
    refine E_block_goto ?_
    refine E_then_goto ?_
    have hs181 : ub t = ub (t : St) := by simp [ub]
    have hS := hS.reZ 0 rfl hs181
    have hs182 : (n : Int) + 1 = ((n + 1 : Nat) : Int) := by omega
    have hh183 : h ++ [(t, false)] = (h ++ [(t, false)] : Tells) := by simp
    have hS := hS.cbr Ra1 1 rfl hh183
    refine E_jump (m := 2 * (a0.length - (n + 1 : Nat)) + 2) [0, 1, 5, 6] (by decide) (fun _ h_ => by cases h_; omega) ⟨(n + 1 : Nat), (h ++ [(t, false)] : Tells), (t : St), Ar7, cr7, Lr7, y180, (by rw [← hs181, ← hs182] <;> rfl), (by omega), (by first | (simp; done) | (simp at *; omega) | omega), (by first | (simp; done) | (simp at *; omega) | omega), (by exact Left.P_comma hJ4_3 (by omega) (u44.1 (by assumption))), rfl, hS.fin [0, 1] (by decide) rfl⟩
   ·have _hC10 := trivial
    have hC10p : ¬ (((a0.getD n 0).toNat : Int) = 44) := by simpa using hC10
    refine C_seq ?_
    refine C_region ?_
    refine wv rfl rfl rfl (R_move rfl rfl) <| wv rfl rfl rfl (R_move rfl rfl) <| wv rfl rfl rfl (R_stridx rfl rfl rfl Tryd.underlying9 (by omega) (by omega)) <| wv rfl rfl rfl (R_bin rfl rfl rfl rfl rfl) <| wv rfl rfl rfl (R_assign rfl rfl) ?_
    refine W_nil ?_
    refine E_then (C_fr [(0, vstr a0), (1, .func (.func ga1) #[] ka1.toArray), (5, .int .i64 (n : Int)), (6, .slice Ar7 (ub t).length cr7), (93, .bool (((a0.getD n 0).toNat : Int) != 13))] rfl ?_)
    refine C_ite rfl (fun hC11 => ?_) (fun hC11 => ?_)
    ·have _hC11 := trivial
     have hC11p : ¬ ((a0.getD n 0).toNat : Int) = 13 := by simpa using hC11
     refine C_seq ?_
     refine C_region ?_
     refine wv rfl rfl rfl (R_move rfl rfl) <| wv rfl rfl rfl (R_assign rfl rfl) ?_
     refine W_nil ?_
     refine E_then (C_fr [(4, .int .i64 (n : Int))] rfl ?_)
     refine C_ret ?_
     refine E_block_ret ?_
     refine E_then_ret ?_
     refine E_scope_ret ?_
     have hh184 : h = (run .F a0 0 []).1 := by first | (exact congrArg Prod.fst (Left.B_bad (Left.F_bare hJ0_3 (by intro h_; first | exact mt u34.2 (by assumption) | omega)) (by omega) (by first | exact .inl (u10.1 (by assumption)) | exact .inr (u34.1 (by assumption))))) | (exact congrArg Prod.fst (Left.B_bad hJ3_3 (by omega) (by first | exact .inl (u10.1 (by assumption)) | exact .inr (u34.1 (by assumption))))) | (exact congrArg Prod.fst (Left.Q_end hJ1_3 (by omega))) | (exact congrArg Prod.fst (hJ2_3)) | (exact congrArg Prod.fst (Left.P_bad (Left.Q_quote hJ1_3 (by omega) (u34.1 (by assumption))) (by omega) (by first | exact mt u34.2 (by assumption) | omega) (mt u44.2 (by assumption)) (mt u13.2 (by assumption)))) | (exact congrArg Prod.fst (Left.R_bad (Left.P_cr (Left.Q_quote hJ1_3 (by omega) (u34.1 (by assumption))) (by omega) (u13.1 (by assumption))) (by intro h_; first | exact mt u10.2 (by assumption) | omega))) | (exact congrArg Prod.fst (Left.R_end (Left.P_cr (Left.Q_quote hJ1_3 (by omega) (u34.1 (by assumption))) (by omega) (u13.1 (by assumption))) (by omega) (u10.1 (by assumption)))) | (exact congrArg Prod.fst (Left.P_bad hJ4_3 (by omega) (hJ4_4 (by omega)) (mt u44.2 (by assumption)) (mt u13.2 (by assumption)))) | (exact congrArg Prod.fst (Left.R_bad (Left.P_cr hJ4_3 (by omega) (u13.1 (by assumption))) (by intro h_; first | exact mt u10.2 (by assumption) | omega))) | (exact congrArg Prod.fst (Left.R_end (Left.P_cr hJ4_3 (by omega) (u13.1 (by assumption))) (by omega) (u10.1 (by assumption))))
     have hS := hS.cbr Ra1 1 rfl hh184
     refine E_ret1 rfl rfl ?_
     exact ⟨y8, Lret1 (Lint (show (n : Int) = (run .F a0 0 []).2 by first | (exact congrArg Prod.snd (Left.B_bad (Left.F_bare hJ0_3 (by intro h_; first | exact mt u34.2 (by assumption) | omega)) (by omega) (by first | exact .inl (u10.1 (by assumption)) | exact .inr (u34.1 (by assumption))))) | (exact congrArg Prod.snd (Left.B_bad hJ3_3 (by omega) (by first | exact .inl (u10.1 (by assumption)) | exact .inr (u34.1 (by assumption))))) | (exact congrArg Prod.snd (Left.Q_end hJ1_3 (by omega))) | (exact congrArg Prod.snd (hJ2_3)) | (exact congrArg Prod.snd (Left.P_bad (Left.Q_quote hJ1_3 (by omega) (u34.1 (by assumption))) (by omega) (by first | exact mt u34.2 (by assumption) | omega) (mt u44.2 (by assumption)) (mt u13.2 (by assumption)))) | (exact congrArg Prod.snd (Left.R_bad (Left.P_cr (Left.Q_quote hJ1_3 (by omega) (u34.1 (by assumption))) (by omega) (u13.1 (by assumption))) (by intro h_; first | exact mt u10.2 (by assumption) | omega))) | (exact congrArg Prod.snd (Left.R_end (Left.P_cr (Left.Q_quote hJ1_3 (by omega) (u34.1 (by assumption))) (by omega) (u13.1 (by assumption))) (by omega) (u10.1 (by assumption)))) | (exact congrArg Prod.snd (Left.P_bad hJ4_3 (by omega) (hJ4_4 (by omega)) (mt u44.2 (by assumption)) (mt u13.2 (by assumption)))) | (exact congrArg Prod.snd (Left.R_bad (Left.P_cr hJ4_3 (by omega) (u13.1 (by assumption))) (by intro h_; first | exact mt u10.2 (by assumption) | omega))) | (exact congrArg Prod.snd (Left.R_end (Left.P_cr hJ4_3 (by omega) (u13.1 (by assumption))) (by omega) (u10.1 (by assumption)))))), hS.fin [1] (by decide) rfl⟩
    ·have _hC11 := trivial
     have hC11p : ((a0.getD n 0).toNat : Int) = 13 := by simpa using hC11
     refine C_skip ?_
     refine E_block_normal ?_
     refine E_then ?_
     refine C_seq ?_
     refine C_region ?_
     refine wv rfl rfl rfl (R_move rfl rfl) <| wv rfl rfl rfl (R_add64 rfl rfl rfl (by omega) (by omega)) <| wv rfl rfl rfl (R_assign rfl rfl) ?_
     refine W_nil ?_
     refine E_then ?_
     refine C_seq ?_
     refine C_seq ?_
     refine C_region ?_
     refine wv rfl rfl rfl (R_move rfl rfl) <| wv rfl rfl rfl (R_move rfl rfl) <| wv rfl rfl rfl (R_strlen rfl rfl Tryd.underlying9) <| wv rfl rfl rfl (R_bin rfl rfl rfl rfl rfl) <| wv rfl rfl rfl (R_move rfl rfl) ?_
     refine W_split (t := 105) rfl (fun hg185 => ?_) (fun hg185 => ?_)
     ·have _hg185 := trivial
      have hg185p : ((n : Int) + 1) = (a0.length : Int) := by simpa using hg185
      refine W_cons rfl (by decide) (Sv_off rfl rfl rfl (by rw [hg185] <;> rfl) ?_)
      refine W_cons rfl (by decide) (Sv_off rfl rfl rfl (by rw [hg185] <;> rfl) ?_)
      refine W_cons rfl (by decide) (Sv_off rfl rfl rfl (by rw [hg185] <;> rfl) ?_)
      refine W_cons rfl (by decide) (Sv_off rfl rfl rfl (by rw [hg185] <;> rfl) ?_)
      refine wv rfl rfl rfl (R_pick_t rfl rfl hg185 rfl) ?_
      refine W_nil ?_
      refine E_then (C_fr [(0, vstr a0), (1, .func (.func ga1) #[] ka1.toArray), (5, .int .i64 ((n : Int) + 1)), (6, .slice Ar7 (ub t).length cr7), (110, .bool true)] rfl ?_)
      refine C_if rfl rfl ?_
      refine C_seq ?_
      refine C_region ?_
      refine wv rfl rfl rfl (R_move rfl rfl) <| wv rfl rfl rfl (R_assign rfl rfl) ?_
      refine W_nil ?_
      refine E_then (C_fr [(4, .int .i64 ((n : Int) + 1))] rfl ?_)
      refine C_ret ?_
      refine E_then_ret ?_
      refine E_scope_ret ?_
      have hh186 : h = (run .F a0 0 []).1 := by first | (exact congrArg Prod.fst (Left.B_bad (Left.F_bare hJ0_3 (by intro h_; first | exact mt u34.2 (by assumption) | omega)) (by omega) (by first | exact .inl (u10.1 (by assumption)) | exact .inr (u34.1 (by assumption))))) | (exact congrArg Prod.fst (Left.B_bad hJ3_3 (by omega) (by first | exact .inl (u10.1 (by assumption)) | exact .inr (u34.1 (by assumption))))) | (exact congrArg Prod.fst (Left.Q_end hJ1_3 (by omega))) | (exact congrArg Prod.fst (hJ2_3)) | (exact congrArg Prod.fst (Left.P_bad (Left.Q_quote hJ1_3 (by omega) (u34.1 (by assumption))) (by omega) (by first | exact mt u34.2 (by assumption) | omega) (mt u44.2 (by assumption)) (mt u13.2 (by assumption)))) | (exact congrArg Prod.fst (Left.R_bad (Left.P_cr (Left.Q_quote hJ1_3 (by omega) (u34.1 (by assumption))) (by omega) (u13.1 (by assumption))) (by intro h_; first | exact mt u10.2 (by assumption) | omega))) | (exact congrArg Prod.fst (Left.R_end (Left.P_cr (Left.Q_quote hJ1_3 (by omega) (u34.1 (by assumption))) (by omega) (u13.1 (by assumption))) (by omega) (u10.1 (by assumption)))) | (exact congrArg Prod.fst (Left.P_bad hJ4_3 (by omega) (hJ4_4 (by omega)) (mt u44.2 (by assumption)) (mt u13.2 (by assumption)))) | (exact congrArg Prod.fst (Left.R_bad (Left.P_cr hJ4_3 (by omega) (u13.1 (by assumption))) (by intro h_; first | exact mt u10.2 (by assumption) | omega))) | (exact congrArg Prod.fst (Left.R_end (Left.P_cr hJ4_3 (by omega) (u13.1 (by assumption))) (by omega) (u10.1 (by assumption))))
      have hS := hS.cbr Ra1 1 rfl hh186
      refine E_ret1 rfl rfl ?_
      exact ⟨y8, Lret1 (Lint (show (n : Int) + 1 = (run .F a0 0 []).2 by first | (exact congrArg Prod.snd (Left.B_bad (Left.F_bare hJ0_3 (by intro h_; first | exact mt u34.2 (by assumption) | omega)) (by omega) (by first | exact .inl (u10.1 (by assumption)) | exact .inr (u34.1 (by assumption))))) | (exact congrArg Prod.snd (Left.B_bad hJ3_3 (by omega) (by first | exact .inl (u10.1 (by assumption)) | exact .inr (u34.1 (by assumption))))) | (exact congrArg Prod.snd (Left.Q_end hJ1_3 (by omega))) | (exact congrArg Prod.snd (hJ2_3)) | (exact congrArg Prod.snd (Left.P_bad (Left.Q_quote hJ1_3 (by omega) (u34.1 (by assumption))) (by omega) (by first | exact mt u34.2 (by assumption) | omega) (mt u44.2 (by assumption)) (mt u13.2 (by assumption)))) | (exact congrArg Prod.snd (Left.R_bad (Left.P_cr (Left.Q_quote hJ1_3 (by omega) (u34.1 (by assumption))) (by omega) (u13.1 (by assumption))) (by intro h_; first | exact mt u10.2 (by assumption) | omega))) | (exact congrArg Prod.snd (Left.R_end (Left.P_cr (Left.Q_quote hJ1_3 (by omega) (u34.1 (by assumption))) (by omega) (u13.1 (by assumption))) (by omega) (u10.1 (by assumption)))) | (exact congrArg Prod.snd (Left.P_bad hJ4_3 (by omega) (hJ4_4 (by omega)) (mt u44.2 (by assumption)) (mt u13.2 (by assumption)))) | (exact congrArg Prod.snd (Left.R_bad (Left.P_cr hJ4_3 (by omega) (u13.1 (by assumption))) (by intro h_; first | exact mt u10.2 (by assumption) | omega))) | (exact congrArg Prod.snd (Left.R_end (Left.P_cr hJ4_3 (by omega) (u13.1 (by assumption))) (by omega) (u10.1 (by assumption)))))), hS.fin [1] (by decide) rfl⟩
     ·have _hg185 := trivial
      have hg185p : ¬ (((n : Int) + 1) = (a0.length : Int)) := by simpa using hg185
      refine W_cons rfl (by decide) (Sv_gt rfl rfl rfl hg185 (Sv_val rfl (R_move rfl rfl) ?_))
      refine W_cons rfl (by decide) (Sv_gt rfl rfl rfl hg185 (Sv_val rfl (R_move rfl rfl) ?_))
      refine W_cons rfl (by decide) (Sv_gt rfl rfl rfl hg185 (Sv_val rfl (R_stridx rfl rfl rfl Tryd.underlying9 (by omega) (by omega)) ?_))
      refine W_cons rfl (by decide) (Sv_gt rfl rfl rfl hg185 (Sv_val rfl (R_bin rfl rfl rfl rfl rfl) ?_))
      refine wv rfl rfl rfl (R_pick_f rfl rfl hg185 rfl) ?_
      refine W_nil ?_
      refine E_then (C_fr [(0, vstr a0), (1, .func (.func ga1) #[] ka1.toArray), (5, .int .i64 ((n : Int) + 1)), (6, .slice Ar7 (ub t).length cr7), (110, .bool (((a0.getD (n + 1) 0).toNat : Int) != 10))] rfl ?_)
      refine C_ite rfl (fun hC12 => ?_) (fun hC12 => ?_)
      ·have _hC12 := trivial
       have hC12p : ¬ ((a0.getD (n + 1) 0).toNat : Int) = 10 := by simpa using hC12
       refine C_seq ?_
       refine C_region ?_
       refine wv rfl rfl rfl (R_move rfl rfl) <| wv rfl rfl rfl (R_assign rfl rfl) ?_
       refine W_nil ?_
       refine E_then (C_fr [(4, .int .i64 ((n : Int) + 1))] rfl ?_)
       refine C_ret ?_
       refine E_then_ret ?_
       refine E_scope_ret ?_
       have hh187 : h = (run .F a0 0 []).1 := by first | (exact congrArg Prod.fst (Left.B_bad (Left.F_bare hJ0_3 (by intro h_; first | exact mt u34.2 (by assumption) | omega)) (by omega) (by first | exact .inl (u10.1 (by assumption)) | exact .inr (u34.1 (by assumption))))) | (exact congrArg Prod.fst (Left.B_bad hJ3_3 (by omega) (by first | exact .inl (u10.1 (by assumption)) | exact .inr (u34.1 (by assumption))))) | (exact congrArg Prod.fst (Left.Q_end hJ1_3 (by omega))) | (exact congrArg Prod.fst (hJ2_3)) | (exact congrArg Prod.fst (Left.P_bad (Left.Q_quote hJ1_3 (by omega) (u34.1 (by assumption))) (by omega) (by first | exact mt u34.2 (by assumption) | omega) (mt u44.2 (by assumption)) (mt u13.2 (by assumption)))) | (exact congrArg Prod.fst (Left.R_bad (Left.P_cr (Left.Q_quote hJ1_3 (by omega) (u34.1 (by assumption))) (by omega) (u13.1 (by assumption))) (by intro h_; first | exact mt u10.2 (by assumption) | omega))) | (exact congrArg Prod.fst (Left.R_end (Left.P_cr (Left.Q_quote hJ1_3 (by omega) (u34.1 (by assumption))) (by omega) (u13.1 (by assumption))) (by omega) (u10.1 (by assumption)))) | (exact congrArg Prod.fst (Left.P_bad hJ4_3 (by omega) (hJ4_4 (by omega)) (mt u44.2 (by assumption)) (mt u13.2 (by assumption)))) | (exact congrArg Prod.fst (Left.R_bad (Left.P_cr hJ4_3 (by omega) (u13.1 (by assumption))) (by intro h_; first | exact mt u10.2 (by assumption) | omega))) | (exact congrArg Prod.fst (Left.R_end (Left.P_cr hJ4_3 (by omega) (u13.1 (by assumption))) (by omega) (u10.1 (by assumption))))
       have hS := hS.cbr Ra1 1 rfl hh187
       refine E_ret1 rfl rfl ?_
       exact ⟨y8, Lret1 (Lint (show (n : Int) + 1 = (run .F a0 0 []).2 by first | (exact congrArg Prod.snd (Left.B_bad (Left.F_bare hJ0_3 (by intro h_; first | exact mt u34.2 (by assumption) | omega)) (by omega) (by first | exact .inl (u10.1 (by assumption)) | exact .inr (u34.1 (by assumption))))) | (exact congrArg Prod.snd (Left.B_bad hJ3_3 (by omega) (by first | exact .inl (u10.1 (by assumption)) | exact .inr (u34.1 (by assumption))))) | (exact congrArg Prod.snd (Left.Q_end hJ1_3 (by omega))) | (exact congrArg Prod.snd (hJ2_3)) | (exact congrArg Prod.snd (Left.P_bad (Left.Q_quote hJ1_3 (by omega) (u34.1 (by assumption))) (by omega) (by first | exact mt u34.2 (by assumption) | omega) (mt u44.2 (by assumption)) (mt u13.2 (by assumption)))) | (exact congrArg Prod.snd (Left.R_bad (Left.P_cr (Left.Q_quote hJ1_3 (by omega) (u34.1 (by assumption))) (by omega) (u13.1 (by assumption))) (by intro h_; first | exact mt u10.2 (by assumption) | omega))) | (exact congrArg Prod.snd (Left.R_end (Left.P_cr (Left.Q_quote hJ1_3 (by omega) (u34.1 (by assumption))) (by omega) (u13.1 (by assumption))) (by omega) (u10.1 (by assumption)))) | (exact congrArg Prod.snd (Left.P_bad hJ4_3 (by omega) (hJ4_4 (by omega)) (mt u44.2 (by assumption)) (mt u13.2 (by assumption)))) | (exact congrArg Prod.snd (Left.R_bad (Left.P_cr hJ4_3 (by omega) (u13.1 (by assumption))) (by intro h_; first | exact mt u10.2 (by assumption) | omega))) | (exact congrArg Prod.snd (Left.R_end (Left.P_cr hJ4_3 (by omega) (u13.1 (by assumption))) (by omega) (u10.1 (by assumption)))))), hS.fin [1] (by decide) rfl⟩
      ·have _hC12 := trivial
       have hC12p : ((a0.getD (n + 1) 0).toNat : Int) = 10 := by simpa using hC12
       refine C_skip ?_
       refine E_then ?_
       refine C_seq ?_
       refine C_region ?_
       refine wv rfl rfl rfl (R_move rfl rfl) <| wv rfl rfl rfl (R_move rfl rfl) <| wv rfl rfl rfl (S_bytestrZ (t := t) hS 0 rfl rfl rfl Tryd.underlying44 Tryd.underlying5 Tryd.underlying9) ?_
       refine W_cons rfl (by decide) (S_cb (s := h) (y := y8) hfa1 hS 1 rfl hza1 ((t, true)) (by show List.length _ ≤ _; first | omega | (simp; omega) | simp) rfl rfl rfl rfl rfl (fun y189 w188 hS => ?_))
       refine W_nil ?_
       refine E_then (C_fr [(0, vstr a0), (1, .func (.func ga1) #[] ka1.toArray), (5, .int .i64 ((n : Int) + 1)), (6, .slice Ar7 (ub t).length cr7)] rfl ?_)
       refine C_seq ?_
       refine C_region ?_
       refine wv rfl rfl rfl (R_move rfl rfl) <| wv rfl rfl rfl (R_add64 rfl rfl rfl (by omega) (by omega)) <| wv rfl rfl rfl (R_assign rfl rfl) ?_
       refine W_nil ?_
       refine E_then ?_
       refine C_seq ?_
       refine C_seq ?_
       refine C_region ?_
       refine wv rfl rfl rfl (R_move rfl rfl) <| wv rfl rfl rfl (R_move rfl rfl) <| wv rfl rfl rfl (R_strlen rfl rfl Tryd.underlying9) <| wv rfl rfl rfl (R_bin rfl rfl rfl rfl rfl) ?_
       refine W_nil ?_
       refine E_then (C_fr [(0, vstr a0), (1, .func (.func ga1) #[] ka1.toArray), (5, .int .i64 (((n : Int) + 1) + 1)), (6, .slice Ar7 (ub t).length cr7), (121, .bool (decide ((((n : Int) + 1) + 1) < (a0.length : Int))))] rfl ?_)
       refine C_ite rfl (fun hC13 => ?_) (fun hC13 => ?_)
       ·have _hC13 := trivial
        have hC13p : (((n : Int) + 1) + 1) < (a0.length : Int) := by simpa using hC13
        refine C_goto ?_
        refine E_then_goto ?_
        have hs190 : ub t = ub (t : St) := by simp [ub]
        have hS := hS.reZ 0 rfl hs190
        have hs191 : ((n : Int) + 1) + 1 = ((n + 2 : Nat) : Int) := by omega
        have hh192 : h ++ [(t, true)] = (h ++ [(t, true)] : Tells) := by simp
        have hS := hS.cbr Ra1 1 rfl hh192
        refine E_jump (m := 2 * (a0.length - (n + 2 : Nat)) + 2) [0, 1, 5, 6] (by decide) (fun _ h_ => by cases h_; omega) ⟨(n + 2 : Nat), (h ++ [(t, true)] : Tells), (t : St), Ar7, cr7, Lr7, y189, (by rw [← hs190, ← hs191] <;> rfl), (by omega), (by first | (simp; done) | (simp at *; omega) | omega), (by first | (simp; done) | (simp at *; omega) | omega), (by exact Left.R_more (Left.P_cr hJ4_3 (by omega) (u13.1 (by assumption))) (by omega) (u10.1 (by assumption))), rfl, hS.fin [0, 1] (by decide) rfl⟩
       ·have _hC13 := trivial
        have hC13p : ¬ ((((n : Int) + 1) + 1) < (a0.length : Int)) := by simpa using hC13
        refine C_skip ?_
        refine E_then (C_fr [] rfl ?_)
        refine C_seq ?_
        refine C_seq ?_
        refine C_region ?_
        refine wv rfl rfl rfl (R_assign rfl rfl) ?_
        refine W_nil ?_
        refine E_then ?_
        refine C_ret ?_
        refine E_then_ret ?_
        refine E_scope_ret ?_
        have hh193 : h ++ [(t, true)] = (run .F a0 0 []).1 := by first | (exact congrArg Prod.fst (Left.B_bad (Left.F_bare hJ0_3 (by intro h_; first | exact mt u34.2 (by assumption) | omega)) (by omega) (by first | exact .inl (u10.1 (by assumption)) | exact .inr (u34.1 (by assumption))))) | (exact congrArg Prod.fst (Left.B_bad hJ3_3 (by omega) (by first | exact .inl (u10.1 (by assumption)) | exact .inr (u34.1 (by assumption))))) | (exact congrArg Prod.fst (Left.Q_end hJ1_3 (by omega))) | (exact congrArg Prod.fst (hJ2_3)) | (exact congrArg Prod.fst (Left.P_bad (Left.Q_quote hJ1_3 (by omega) (u34.1 (by assumption))) (by omega) (by first | exact mt u34.2 (by assumption) | omega) (mt u44.2 (by assumption)) (mt u13.2 (by assumption)))) | (exact congrArg Prod.fst (Left.R_bad (Left.P_cr (Left.Q_quote hJ1_3 (by omega) (u34.1 (by assumption))) (by omega) (u13.1 (by assumption))) (by intro h_; first | exact mt u10.2 (by assumption) | omega))) | (exact congrArg Prod.fst (Left.R_end (Left.P_cr (Left.Q_quote hJ1_3 (by omega) (u34.1 (by assumption))) (by omega) (u13.1 (by assumption))) (by omega) (u10.1 (by assumption)))) | (exact congrArg Prod.fst (Left.P_bad hJ4_3 (by omega) (hJ4_4 (by omega)) (mt u44.2 (by assumption)) (mt u13.2 (by assumption)))) | (exact congrArg Prod.fst (Left.R_bad (Left.P_cr hJ4_3 (by omega) (u13.1 (by assumption))) (by intro h_; first | exact mt u10.2 (by assumption) | omega))) | (exact congrArg Prod.fst (Left.R_end (Left.P_cr hJ4_3 (by omega) (u13.1 (by assumption))) (by omega) (u10.1 (by assumption))))
        have hS := hS.cbr Ra1 1 rfl hh193
        refine E_ret1 rfl rfl ?_
        exact ⟨y189, Lret1 (Lint (show (-1) = (run .F a0 0 []).2 by first | (exact congrArg Prod.snd (Left.B_bad (Left.F_bare hJ0_3 (by intro h_; first | exact mt u34.2 (by assumption) | omega)) (by omega) (by first | exact .inl (u10.1 (by assumption)) | exact .inr (u34.1 (by assumption))))) | (exact congrArg Prod.snd (Left.B_bad hJ3_3 (by omega) (by first | exact .inl (u10.1 (by assumption)) | exact .inr (u34.1 (by assumption))))) | (exact congrArg Prod.snd (Left.Q_end hJ1_3 (by omega))) | (exact congrArg Prod.snd (hJ2_3)) | (exact congrArg Prod.snd (Left.P_bad (Left.Q_quote hJ1_3 (by omega) (u34.1 (by assumption))) (by omega) (by first | exact mt u34.2 (by assumption) | omega) (mt u44.2 (by assumption)) (mt u13.2 (by assumption)))) | (exact congrArg Prod.snd (Left.R_bad (Left.P_cr (Left.Q_quote hJ1_3 (by omega) (u34.1 (by assumption))) (by omega) (u13.1 (by assumption))) (by intro h_; first | exact mt u10.2 (by assumption) | omega))) | (exact congrArg Prod.snd (Left.R_end (Left.P_cr (Left.Q_quote hJ1_3 (by omega) (u34.1 (by assumption))) (by omega) (u13.1 (by assumption))) (by omega) (u10.1 (by assumption)))) | (exact congrArg Prod.snd (Left.P_bad hJ4_3 (by omega) (hJ4_4 (by omega)) (mt u44.2 (by assumption)) (mt u13.2 (by assumption)))) | (exact congrArg Prod.snd (Left.R_bad (Left.P_cr hJ4_3 (by omega) (u13.1 (by assumption))) (by intro h_; first | exact mt u10.2 (by assumption) | omega))) | (exact congrArg Prod.snd (Left.R_end (Left.P_cr hJ4_3 (by omega) (u13.1 (by assumption))) (by omega) (u10.1 (by assumption)))))), hS.fin [1] (by decide) rfl⟩
 ·refine ⟨_, rfl, ?_⟩
  rintro m_ f_ w194 ⟨n, h, t, Ar9, cr9, Lr9, y10, rfl, hJ2_0, hJ2_1, hJ2_2, hJ2_3, rfl, hS⟩
  have hlr9 := (hS.lez 0 rfl).1
  have hmr9 := (hS.lez 0 rfl).2
  have hub := ub_len t
  refine C_seq ?_
  refine C_skip ?_
  refine E_then ?_
  refine C_seq ?_
  refine C_region ?_
  refine wv rfl rfl rfl (R_move rfl rfl) <| wv rfl rfl rfl (R_move rfl rfl) <| wv rfl rfl rfl (S_bytestrZ (t := t) hS 0 rfl rfl rfl Tryd.underlying44 Tryd.underlying5 Tryd.underlying9) ?_
  refine W_cons rfl (by decide) (S_cb (s := h) (y := y10) hfa1 hS 1 rfl hza1 ((t, true)) (by show List.length _ ≤ _; first | omega | (simp; omega) | simp) rfl rfl rfl rfl rfl (fun y196 w195 hS => ?_))
  refine W_nil ?_
  refine E_then (C_fr [] rfl ?_)
  refine C_seq ?_
  refine C_region ?_
  refine wv rfl rfl rfl (R_assign rfl rfl) ?_
  refine W_nil ?_
  refine E_then ?_
  refine C_ret ?_
  refine E_scope_ret ?_
  have hh197 : h ++ [(t, true)] = (run .F a0 0 []).1 := by first | (exact congrArg Prod.fst (Left.B_bad (Left.F_bare hJ0_3 (by intro h_; first | exact mt u34.2 (by assumption) | omega)) (by omega) (by first | exact .inl (u10.1 (by assumption)) | exact .inr (u34.1 (by assumption))))) | (exact congrArg Prod.fst (Left.B_bad hJ3_3 (by omega) (by first | exact .inl (u10.1 (by assumption)) | exact .inr (u34.1 (by assumption))))) | (exact congrArg Prod.fst (Left.Q_end hJ1_3 (by omega))) | (exact congrArg Prod.fst (hJ2_3)) | (exact congrArg Prod.fst (Left.P_bad (Left.Q_quote hJ1_3 (by omega) (u34.1 (by assumption))) (by omega) (by first | exact mt u34.2 (by assumption) | omega) (mt u44.2 (by assumption)) (mt u13.2 (by assumption)))) | (exact congrArg Prod.fst (Left.R_bad (Left.P_cr (Left.Q_quote hJ1_3 (by omega) (u34.1 (by assumption))) (by omega) (u13.1 (by assumption))) (by intro h_; first | exact mt u10.2 (by assumption) | omega))) | (exact congrArg Prod.fst (Left.R_end (Left.P_cr (Left.Q_quote hJ1_3 (by omega) (u34.1 (by assumption))) (by omega) (u13.1 (by assumption))) (by omega) (u10.1 (by assumption)))) | (exact congrArg Prod.fst (Left.P_bad hJ4_3 (by omega) (hJ4_4 (by omega)) (mt u44.2 (by assumption)) (mt u13.2 (by assumption)))) | (exact congrArg Prod.fst (Left.R_bad (Left.P_cr hJ4_3 (by omega) (u13.1 (by assumption))) (by intro h_; first | exact mt u10.2 (by assumption) | omega))) | (exact congrArg Prod.fst (Left.R_end (Left.P_cr hJ4_3 (by omega) (u13.1 (by assumption))) (by omega) (u10.1 (by assumption))))
  have hS := hS.cbr Ra1 1 rfl hh197
  refine E_ret1 rfl rfl ?_
  exact ⟨y196, Lret1 (Lint (show (-1) = (run .F a0 0 []).2 by first | (exact congrArg Prod.snd (Left.B_bad (Left.F_bare hJ0_3 (by intro h_; first | exact mt u34.2 (by assumption) | omega)) (by omega) (by first | exact .inl (u10.1 (by assumption)) | exact .inr (u34.1 (by assumption))))) | (exact congrArg Prod.snd (Left.B_bad hJ3_3 (by omega) (by first | exact .inl (u10.1 (by assumption)) | exact .inr (u34.1 (by assumption))))) | (exact congrArg Prod.snd (Left.Q_end hJ1_3 (by omega))) | (exact congrArg Prod.snd (hJ2_3)) | (exact congrArg Prod.snd (Left.P_bad (Left.Q_quote hJ1_3 (by omega) (u34.1 (by assumption))) (by omega) (by first | exact mt u34.2 (by assumption) | omega) (mt u44.2 (by assumption)) (mt u13.2 (by assumption)))) | (exact congrArg Prod.snd (Left.R_bad (Left.P_cr (Left.Q_quote hJ1_3 (by omega) (u34.1 (by assumption))) (by omega) (u13.1 (by assumption))) (by intro h_; first | exact mt u10.2 (by assumption) | omega))) | (exact congrArg Prod.snd (Left.R_end (Left.P_cr (Left.Q_quote hJ1_3 (by omega) (u34.1 (by assumption))) (by omega) (u13.1 (by assumption))) (by omega) (u10.1 (by assumption)))) | (exact congrArg Prod.snd (Left.P_bad hJ4_3 (by omega) (hJ4_4 (by omega)) (mt u44.2 (by assumption)) (mt u13.2 (by assumption)))) | (exact congrArg Prod.snd (Left.R_bad (Left.P_cr hJ4_3 (by omega) (u13.1 (by assumption))) (by intro h_; first | exact mt u10.2 (by assumption) | omega))) | (exact congrArg Prod.snd (Left.R_end (Left.P_cr hJ4_3 (by omega) (u13.1 (by assumption))) (by omega) (u10.1 (by assumption)))))), hS.fin [1] (by decide) rfl⟩

end Go.Proofs.YtcjaplaifmhajaaDoorG
