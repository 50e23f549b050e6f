/- Walks, each function once: what it computes. -/
import Derived.Test.YtcjaplaifmhajaaDoorK2
set_option linter.all false
namespace Go.Proofs.YtcjaplaifmhajaaDoorG
open Go Go.RowKit
set_option maxHeartbeats 400000 in
set_option maxRecDepth 20000 in
theorem parse1_calls (a0 : St) (a1 : Bool) (ba2 : Nat) (a2 : List St) (Aa2 : Option Addr) (ca2 : Nat) (ba3 : Nat) (a3 : List (List St)) (Aa3 : Option Addr) (ca3 : Nat) (qa3 : Z) (z : Z) (w : World) (hI : In z w [bR ba2 33 [.slice Aa2 a2.length ca2], oR kstr 9 zE Aa2 ca2 a2, bR ba3 25 [.slice Aa3 a3.length ca3], zR qa3, oR (kslice kstr) 33 qa3 Aa3 ca3 a3])  (p0 : a2.length ≤ 100000) (p1 : a3.length ≤ 100000) :
    Calls Tryd.prog 27 #[vstr a0, .bool a1, .pointer (some ⟨ba2, 0, none⟩), .pointer (some ⟨ba3, 0, none⟩)] w fun e w' => ∃ (Aa2' : Option Addr) (ca2' : Nat) (Aa3' : Option Addr) (ca3' : Nat) (qa3' : Z), e = .returned (.tuple #[]) ∧ Sp (FF [bR ba2 33 [.slice Aa2 a2.length ca2], oR kstr 9 zE Aa2 ca2 a2, bR ba3 25 [.slice Aa3 a3.length ca3], zR qa3, oR (kslice kstr) 33 qa3 Aa3 ca3 a3]) w z w' [bR ba2 33 [.slice Aa2' (if a1 = true then [] else a2 ++ [a0]).length ca2'], oR kstr 9 zE Aa2' ca2' (if a1 = true then [] else a2 ++ [a0]), bR ba3 25 [.slice Aa3' (if a1 = true then a3 ++ [a2 ++ [a0]] else a3).length ca3'], zR qa3', oR (kslice kstr) 33 qa3' Aa3' ca3' (if a1 = true then a3 ++ [a2 ++ [a0]] else a3)] := by
 have hS := hI.sp
 have hp1 := hS.cap 1 rfl
 have hlhp1 := hp1.le
 have hmhp1 := hp1.mx
 have hp2 := hS.cap 4 rfl
 have hlhp2 := hp2.le
 have hmhp2 := hp2.mx
 refine Calls_of (vs := [vstr a0, .bool a1, .pointer (some ⟨ba2, 0, none⟩), .pointer (some ⟨ba3, 0, none⟩)]) (N := 15) Tryd.func27 rfl rfl (Nat.le_of_ble_eq_true rfl) ?_
 refine C_seq ?_
 refine C_region ?_
 refine wv rfl rfl rfl (R_load1 rfl rfl agg33 ((hS.bx 0 rfl).cell rfl)) <| wv rfl rfl rfl (R_move rfl rfl) ?_
 refine W_cons rfl (by decide) (S_row (d := kstr) (q := zE) hS ([a0] : List St) rfl (R_buildSlice (ps := [(0, (.tmp 7))]) (vs := [vstr a0]) (w' := w.alloc (.cells [vstr a0].toArray 9)) (r := .slice (some ⟨w.heap.size, 0, none⟩) 1 1) rfl rfl rfl (by kernel_rfl)) (by simp [Reps, flat, kstr]) rfl (by decide) (fun g4 w3 hS => ?_))
 refine W_cons rfl (by decide) (S_append hS 2 rfl rfl rfl elem33 rfl rfl (hS.sow 0 rfl (fun _ _ h => h)) (by (try simp only [List.length_cons, List.length_nil, List.length_append, maxLen]); omega) (by (try simp only [List.length_cons, List.length_nil, List.length_append, maxLen]); omega) (fun Ar6 cr6 w5 hS => ?_))
 have hp7 := hS.cap 2 rfl
 have hlhp7 := hp7.le
 have hmhp7 := hp7.mx
 refine W_cons0 rfl (S_store hS 1 rfl rfl rfl rfl rfl size33 (one1 rfl) (Nat.le_of_ble_eq_true rfl) (fun w8 hS => ?_))
 refine W_nil ?_
 refine E_then (C_fr [(1, .bool a1), (2, .pointer (some ⟨ba2, 0, none⟩)), (3, .pointer (some ⟨ba3, 0, none⟩))] rfl ?_)
 refine C_seq ?_
 refine C_region ?_
 refine wv rfl rfl rfl (R_move rfl rfl) ?_
 refine W_nil ?_
 refine E_then ?_
 refine C_ite rfl (fun hC0 => ?_) (fun hC0 => ?_)
 ·have _hC0 := trivial
  refine C_region ?_
  refine wv rfl rfl rfl (R_load1 rfl rfl agg25 ((hS.bx 3 rfl).cell rfl)) <| wv rfl rfl rfl (R_load1 rfl rfl agg33 ((hS.bx 1 rfl).cell rfl)) ?_
  have hcz11 := hS.cap 2 rfl
  obtain ⟨z11, hlez11, hrz11, hS⟩ := hS.fz 2 4 rfl rfl (by decide) (zle_E _)
  have hS := hS.lift 4 rfl hlez11
  refine W_cons rfl (by decide) (S_row (d := (kslice kstr)) (q := z11) hS ([a2 ++ ([a0] : List St)] : List (List St)) rfl (R_buildSlice (ps := [(0, (.tmp 12))]) (vs := [.slice Ar6 (a2 ++ ([a0] : List St)).length cr6]) (w' := w8.alloc (.cells [.slice Ar6 (a2 ++ ([a0] : List St)).length cr6].toArray 33)) (r := .slice (some ⟨w8.heap.size, 0, none⟩) 1 1) rfl rfl rfl (by kernel_rfl)) ⟨_, _, rfl, ⟨_, _, rfl, hcz11, hrz11⟩, rfl⟩ rfl (by decide) (fun g10 w9 hS => ?_))
  refine W_cons rfl (by decide) (S_append hS 5 rfl rfl rfl elem25 rfl rfl (hS.sow 0 rfl (fun _ _ h => h)) (by (try simp only [List.length_cons, List.length_nil, List.length_append, maxLen]); omega) (by (try simp only [List.length_cons, List.length_nil, List.length_append, maxLen]); omega) (fun Ar13 cr13 w12 hS => ?_))
  have hp14 := hS.cap 5 rfl
  have hlhp14 := hp14.le
  have hmhp14 := hp14.mx
  refine W_cons0 rfl (S_store hS 4 rfl rfl rfl rfl rfl size25 (one1 rfl) (Nat.le_of_ble_eq_true rfl) (fun w15 hS => ?_))
  refine W_cons0 rfl (S_store hS 3 rfl rfl rfl rfl rfl size33 (one1 rfl) (Nat.le_of_ble_eq_true rfl) (fun w16 hS => ?_))
  refine W_nil ?_
  refine E_end_normal ?_
  have hS := hS.nilrow kstr 9 zE
  have hq18 : ([] : List St) = (if a1 = true then [] else a2 ++ [a0]) := by first | simp [hC0] | (simp only [hC0]; rfl)
  have hS := hS.re 0 rfl hq18
  have hS := hS.as 4 rfl (r' := bR ba2 33 [.slice none (if a1 = true then [] else a2 ++ [a0]).length 0]) (fun h_ => by rw [← hq18]; exact h_) (fun _ h_ => h_)
  have hq19 : a3 ++ ([a2 ++ ([a0] : List St)] : List (List St)) = (if a1 = true then a3 ++ [a2 ++ [a0]] else a3) := by first | simp [hC0] | (simp only [hC0]; rfl)
  have hS := hS.re 6 rfl hq19
  have hS := hS.as 5 rfl (r' := bR ba3 25 [.slice Ar13 (if a1 = true then a3 ++ [a2 ++ [a0]] else a3).length cr13]) (fun h_ => by rw [← hq19]; exact h_) (fun _ h_ => h_)
  refine E_ret0 rfl  ?_
  exact ⟨none, 0, Ar13, cr13, z11, Lret0 , hS.fin [4, 0, 5, 2, 6] (by decide) rfl⟩
 ·have _hC0 := trivial
  refine C_skip ?_
  refine E_end_normal ?_
  have hq20 : a2 ++ ([a0] : List St) = (if a1 = true then [] else a2 ++ [a0]) := by first | simp [hC0] | (simp only [hC0]; rfl)
  have hS := hS.re 2 rfl hq20
  have hS := hS.as 1 rfl (r' := bR ba2 33 [.slice Ar6 (if a1 = true then [] else a2 ++ [a0]).length cr6]) (fun h_ => by rw [← hq20]; exact h_) (fun _ h_ => h_)
  have hq21 : a3 = (if a1 = true then a3 ++ [a2 ++ [a0]] else a3) := by first | simp [hC0] | (simp only [hC0]; rfl)
  have hS := hS.re 5 rfl hq21
  have hS := hS.as 3 rfl (r' := bR ba3 25 [.slice Aa3 (if a1 = true then a3 ++ [a2 ++ [a0]] else a3).length ca3]) (fun h_ => by rw [← hq21]; exact h_) (fun _ h_ => h_)
  refine E_ret0 rfl  ?_
  exact ⟨Ar6, cr6, Aa3, ca3, qa3, Lret0 , hS.fin [1, 2, 3, 4, 5] (by decide) rfl⟩

def Parse1R (b2 b3 : Nat) (h : Tells) (g : (Option Addr × Nat × Z × Option Addr × Nat)) : Res := allR [bR b2 33 [.slice g.1 (recs h).2.length g.2.1], oR kstr 9 zE g.1 g.2.1 (recs h).2, bR b3 25 [.slice g.2.2.2.1 (recs h).1.length g.2.2.2.2], zR g.2.2.1, oR (kslice kstr) 33 g.2.2.1 g.2.2.2.1 g.2.2.2.2 (recs h).1]
theorem parse1_fv (b2 b3 : Nat) : FV Tryd.prog zE 27 [.pointer (some ⟨b2, 0, none⟩), .pointer (some ⟨b3, 0, none⟩)] (fun _ x_ vs_ => vs_ = [vstr x_.1, .bool x_.2]) (Parse1R b2 b3) (fun h_ _ => h_.length ≤ 100000) (fun h_ x_ => h_ ++ [x_]) (fun _ _ => .tuple #[]) := ⟨ent27, by
  rintro h ⟨A2, c2, q3, A3, c3⟩ ⟨t, e⟩ vs w z _ hI hok rfl
  have hl := recs_len h
  have hok' : h.length ≤ 100000 := hok
  refine (parse1_calls t e b2 (recs h).2 A2 c2 b3 (recs h).1 A3 c3 q3 z w hI.unb (by omega) (by omega)).mono ?_
  rintro e' w' ⟨A2', c2', A3', c3', q3', rfl, hS⟩
  refine ⟨rfl, (A2', c2', q3', A3', c3'), ?_⟩
  have h1 := hS.bun1
  unfold Parse1R
  rw [recs_snoc]
  cases e <;> exact h1⟩

set_option maxHeartbeats 400000 in
set_option maxRecDepth 20000 in
theorem parse_calls (a0 : St) (z : Z) (w : World) (hI : In z w [])   :
    Calls Tryd.prog 19 #[vstr a0] w fun e w' => ∃ (AR0 : Option Addr) (cR0 : Nat) (qR0 : Z), e = .returned (.tuple #[.slice AR0 (parseS a0).1.length cR0, .int .i64 (parseS a0).2.1, .int .i64 (parseS a0).2.2]) ∧ Sp (FF []) w z w' [zR qR0, oR (kslice kstr) 33 qR0 AR0 cR0 (parseS a0).1] := by
 have hS := hI.sp
 refine Calls_of (vs := [vstr a0]) (N := 16) Tryd.func19 rfl rfl (Nat.le_of_ble_eq_true rfl) ?_
 refine C_seq ?_
 refine C_region ?_
 refine W_cons rfl (by decide) (S_box hS rfl (R_alloc rfl alloc25) (fun b2 w1 hS => ?_))
 refine wv rfl rfl rfl (R_assign rfl rfl) <| wv rfl rfl rfl (R_assign rfl rfl) ?_
 refine W_nil ?_
 refine E_then ?_
 refine C_seq ?_
 refine C_seq ?_
 refine C_region ?_
 refine wv rfl rfl rfl (R_move rfl rfl) <| wv rfl rfl rfl (R_strlen rfl rfl Tryd.underlying9) <| wv rfl rfl rfl (R_bin rfl rfl rfl rfl rfl) ?_
 refine W_nil ?_
 refine E_then ?_
 refine C_ite rfl (fun hC0 => ?_) (fun hC0 => ?_)
 ·have _hC0 := trivial
  have hC0p : (a0.length : Int) > 65536 := by simpa using hC0
  refine C_seq ?_
  refine C_region ?_
  refine W_cons0 rfl (S_store hS 0 rfl rfl rfl rfl rfl size25 (one1 rfl) (Nat.le_of_ble_eq_true rfl) (fun w3 hS => ?_))
  refine wv rfl rfl rfl (R_assign rfl rfl) <| wv rfl rfl rfl (R_assign rfl rfl) ?_
  refine W_nil ?_
  refine E_then ?_
  refine C_ret ?_
  refine E_then_ret ?_
  obtain ⟨z4, hS⟩ := hS.famx
  have hS := hS.nilrow (kslice kstr) 33 z4
  have hq6 : ([] : List (List St)) = (parseS a0).1 := by unfold parseS; simp only [hC0p, if_true, if_false]; first | rfl | (split <;> first | rfl | omega) | skip
  have hS := hS.re 0 rfl hq6
  refine E_rv3 rfl (RV_cell rfl agg25 ((hS.bx 2 rfl).cell rfl)) (RV_tmp rfl) (RV_tmp rfl) ?_
  exact ⟨none, 0, z4, Lret3 (Lslice hq6) (Lint (show 0 = (parseS a0).2.1 by unfold parseS; simp only [hC0p, if_true, if_false]; first | rfl | (split <;> first | rfl | omega) | skip)) (Lint (show 3 = (parseS a0).2.2 by unfold parseS; simp only [hC0p, if_true, if_false]; first | rfl | (split <;> first | rfl | omega) | skip)), hS.fin [1, 0] (by decide) rfl⟩
 ·have _hC0 := trivial
  have hC0p : ¬ ((a0.length : Int) > 65536) := by simpa using hC0
  refine C_skip ?_
  refine E_then (C_fr [(0, vstr a0), (2, .pointer (some ⟨b2, 0, none⟩))] rfl ?_)
  refine C_seq ?_
  refine C_region ?_
  refine W_cons rfl (by decide) (S_box hS rfl (R_alloc rfl alloc33) (fun b8 w7 hS => ?_))
  refine W_nil ?_
  refine E_then ?_
  refine C_seq ?_
  refine C_region ?_
  refine wv rfl rfl rfl (R_move rfl rfl) <| wv rfl rfl rfl (R_makeFunc rfl rfl) ?_
  have hS := hS.nilrow kstr 9 zE
  obtain ⟨z11, hS⟩ := hS.famx
  have hS := hS.nilrow (kslice kstr) 33 z11
  have hS := hS.bun [3, 2, 4, 1, 0] (by decide)
  refine W_cons rfl (by decide) (Sv_call rfl rfl rfl ent26 ?_)
  refine (walk_calls a0 27 [.pointer (some ⟨b8, 0, none⟩), .pointer (some ⟨b2, 0, none⟩)] (Option Addr × Nat × Z × Option Addr × Nat) (Parse1R b8 b2) (none, 0, z11, none, 0) zE _ _ (hS.out [0] (by decide)) (parse1_fv _ _) (zle_E _) (by omega)).mono ?_
  rintro e_ w9 ⟨ya1_14', rfl, hS_⟩
  refine ⟨_, rfl, ?_⟩
  have hS := hS.call [0] (by decide) hS_
  obtain ⟨Au15, cu15, qu15, Bu15, ku15⟩ := ya1_14'
  have hS := hS.unb
  refine wv rfl rfl rfl (R_assign rfl rfl) ?_
  refine W_nil ?_
  refine E_then (C_fr [(2, .pointer (some ⟨b2, 0, none⟩)), (3, .int .i64 (run .F a0 0 []).2)] rfl ?_)
  refine C_seq ?_
  refine C_seq ?_
  refine C_region ?_
  refine wv rfl rfl rfl (R_move rfl rfl) <| wv rfl rfl rfl (R_bin rfl rfl rfl rfl rfl) ?_
  refine W_nil ?_
  refine E_then ?_
  refine C_ite rfl (fun hC1 => ?_) (fun hC1 => ?_)
  ·have _hC1 := trivial
   have hC1p : (run .F a0 0 []).2 ≥ 0 := by simpa using hC1
   refine C_seq ?_
   refine C_region ?_
   refine wv rfl rfl rfl (R_move rfl rfl) ?_
   refine W_cons0 rfl (S_store hS 2 rfl rfl rfl rfl rfl size25 (one1 rfl) (Nat.le_of_ble_eq_true rfl) (fun w16 hS => ?_))
   refine wv rfl rfl rfl (R_assign rfl rfl) <| wv rfl rfl rfl (R_assign rfl rfl) ?_
   refine W_nil ?_
   refine E_then ?_
   refine C_ret ?_
   refine E_then_ret ?_
   obtain ⟨z17, hS⟩ := hS.famx
   have hS := hS.nilrow (kslice kstr) 33 z17
   have hq19 : ([] : List (List St)) = (parseS a0).1 := by unfold parseS; simp only [hC0p, if_true, if_false]; first | rfl | (split <;> first | rfl | omega) | skip
   have hS := hS.re 0 rfl hq19
   refine E_rv3 rfl (RV_cell rfl agg25 ((hS.bx 4 rfl).cell rfl)) (RV_tmp rfl) (RV_tmp rfl) ?_
   exact ⟨none, 0, z17, Lret3 (Lslice hq19) (Lint (show (run .F a0 0 []).2 = (parseS a0).2.1 by unfold parseS; simp only [hC0p, if_true, if_false]; first | rfl | (split <;> first | rfl | omega) | skip)) (Lint (show 2 = (parseS a0).2.2 by unfold parseS; simp only [hC0p, if_true, if_false]; first | rfl | (split <;> first | rfl | omega) | skip)), hS.fin [1, 0] (by decide) rfl⟩
  ·have _hC1 := trivial
   have hC1p : ¬ ((run .F a0 0 []).2 ≥ 0) := by simpa using hC1
   refine C_skip ?_
   refine E_then ?_
   refine C_seq ?_
   refine C_region ?_
   refine wv rfl rfl rfl (R_load1 rfl rfl agg25 ((hS.bx 2 rfl).cell rfl)) ?_
   refine W_cons0 rfl (S_store hS 2 rfl rfl rfl rfl rfl size25 (one1 rfl) (Nat.le_of_ble_eq_true rfl) (fun w20 hS => ?_))
   refine wv rfl rfl rfl (R_assign rfl rfl) <| wv rfl rfl rfl (R_assign rfl rfl) ?_
   refine W_nil ?_
   refine E_then ?_
   refine C_ret ?_
   have hq21 : (recs (run .F a0 0 []).1).1 = (parseS a0).1 := by unfold parseS; simp only [hC0p, if_true, if_false]; first | rfl | (split <;> first | rfl | omega) | skip
   have hS := hS.re 4 rfl hq21
   refine E_rv3 rfl (RV_cell rfl agg25 ((hS.bx 2 rfl).cell rfl)) (RV_tmp rfl) (RV_tmp rfl) ?_
   exact ⟨Bu15, ku15, qu15, Lret3 (Lslice hq21) (Lint (show 0 = (parseS a0).2.1 by unfold parseS; simp only [hC0p, if_true, if_false]; first | rfl | (split <;> first | rfl | omega) | skip)) (Lint (show 0 = (parseS a0).2.2 by unfold parseS; simp only [hC0p, if_true, if_false]; first | rfl | (split <;> first | rfl | omega) | skip)), hS.fin [3, 4] (by decide) rfl⟩

set_option maxHeartbeats 1000000 in
set_option maxRecDepth 20000 in
theorem field_calls (a0 : St) (a1 : Int) (z : Z) (w : World) (hI : In z w [])  (p0 : 0 ≤ a1 ∧ a1 ≤ a0.length) (p1 : a0.length ≤ 70000) :
    Calls Tryd.prog 32 #[vstr a0, .int .i64 a1] w fun e w' => e = .returned (.tuple #[vstr (fieldS a0 a1.toNat).1, .int .i64 (fieldS a0 a1.toNat).2]) ∧ Sp (FF []) w z w' [] := by
 have hS := hI.sp
 refine Calls_of (vs := [vstr a0, .int .i64 a1]) (N := 79) Tryd.func32 rfl rfl (Nat.le_of_ble_eq_true rfl) ?_
 refine C_seq ?_
 refine C_region ?_
 refine wv rfl rfl rfl (R_assign rfl rfl) <| wv rfl rfl rfl (R_assign rfl rfl) ?_
 refine W_nil ?_
 refine E_then ?_
 refine C_seq ?_
 refine C_region ?_
 refine wv rfl rfl rfl (R_assign rfl rfl) ?_
 refine W_nil ?_
 refine E_then ?_
 refine C_seq ?_
 refine C_seq ?_
 refine C_region ?_
 refine wv rfl rfl rfl (R_move rfl rfl) <| wv rfl rfl rfl (R_move rfl rfl) <| wv rfl rfl rfl (R_strlen rfl rfl Tryd.underlying9) <| wv rfl rfl rfl (R_bin rfl rfl rfl rfl rfl) <| wv rfl rfl rfl (R_move rfl rfl) ?_
 refine W_split (t := 11) rfl (fun hg1 => ?_) (fun hg1 => ?_)
 ·have _hg1 := trivial
  have hg1p : a1 ≥ (a0.length : Int) := by simpa using hg1
  refine W_cons rfl (by decide) (Sv_off rfl rfl rfl (by rw [hg1] <;> rfl) ?_)
  refine W_cons rfl (by decide) (Sv_off rfl rfl rfl (by rw [hg1] <;> rfl) ?_)
  refine W_cons rfl (by decide) (Sv_off rfl rfl rfl (by rw [hg1] <;> rfl) ?_)
  refine W_cons rfl (by decide) (Sv_off rfl rfl rfl (by rw [hg1] <;> rfl) ?_)
  refine wv rfl rfl rfl (R_pick_t rfl rfl hg1 rfl) ?_
  refine W_nil ?_
  refine E_then (C_fr [(0, vstr a0), (1, .int .i64 a1), (6, vstr []), (16, .bool true)] rfl ?_)
  refine C_if rfl rfl ?_
  refine C_seq ?_
  refine C_block ?_
  have hs3 : a1 = ((a1.toNat : Nat) : Int) := by omega
  refine C_fr [(0, vstr a0), (1, .int .i64 a1), (6, vstr [])] rfl ?_
  refine C_loop (fun m_ f_ w_ => ∃ (n : Nat) (t : St), f_ = [(0, vstr a0), (1, .int .i64 (n : Int)), (6, vstr t)] ∧ n ≤ a0.length ∧ t.length ≤ n ∧ bareS (a0.drop n) n t = bareS (a0.drop a1.toNat) a1.toNat [] ∧ m_ = a0.length - n ∧ Sp (FF []) w z w_ []) (a0.length - (a1.toNat : Nat)) ⟨(a1.toNat : Nat), ([] : St), (by rw [← hs3] <;> rfl), (by omega), (by simp), (by rfl), rfl, hS.fin [] (by decide) rfl⟩ ?_
  rintro m_ f_ w2 ⟨n, t, rfl, hI0_0, hI0_1, hI0_2, rfl, hS⟩
  refine C_seq ?_
  refine C_seq ?_
  refine C_region ?_
  refine wv rfl rfl rfl (R_move rfl rfl) <| wv rfl rfl rfl (R_move rfl rfl) <| wv rfl rfl rfl (R_strlen rfl rfl Tryd.underlying9) <| wv rfl rfl rfl (R_bin rfl rfl rfl rfl rfl) <| wv rfl rfl rfl (R_move rfl rfl) ?_
  refine W_split (t := 21) rfl (fun hg4 => ?_) (fun hg4 => ?_)
  ·have _hg4 := trivial
   have hg4p : (n : Int) < (a0.length : Int) := by simpa using hg4
   refine W_cons rfl (by decide) (Sv_gt rfl rfl rfl hg4 (Sv_val rfl (R_move rfl rfl) ?_))
   refine W_cons rfl (by decide) (Sv_gt rfl rfl rfl hg4 (Sv_val rfl (R_move rfl rfl) ?_))
   refine W_cons rfl (by decide) (Sv_gt rfl rfl rfl hg4 (Sv_val rfl (R_stridx rfl rfl rfl Tryd.underlying9 (by omega) (by omega)) ?_))
   refine W_cons rfl (by decide) (Sv_gt rfl rfl rfl hg4 (Sv_call rfl rfl rfl ent42 ?_))
   refine (bare_calls ((a0.getD n 0).toNat : Int) _ _ hS.out0  ).mono ?_
   rintro e_ w5 ⟨rfl, hS_⟩
   refine ⟨_, rfl, ?_⟩
   have hS := hS.call0 hS_
   refine wv rfl rfl rfl (R_pick_t rfl rfl hg4 rfl) ?_
   refine W_nil ?_
   refine E_then (C_fr [(0, vstr a0), (1, .int .i64 (n : Int)), (6, vstr t), (26, .bool (decide (¬ ((a0.getD n 0).toNat : Int) = 34 ∧ ¬ ((a0.getD n 0).toNat : Int) = 44 ∧ ¬ ((a0.getD n 0).toNat : Int) = 13 ∧ ¬ ((a0.getD n 0).toNat : Int) = 10)))] rfl ?_)
   refine C_ite rfl (fun hC1 => ?_) (fun hC1 => ?_)
   ·have _hC1 := trivial
    refine C_skip ?_
    refine E_then ?_
    refine C_block ?_
    refine C_seq ?_
    refine C_region ?_
    refine wv rfl rfl rfl (R_move rfl rfl) <| wv rfl rfl rfl (R_move rfl rfl) <| wv rfl rfl rfl (R_move rfl rfl) <| wv rfl rfl rfl (R_move rfl rfl) <| wv rfl rfl rfl (R_add64 rfl rfl rfl (by omega) (by omega)) <| wv rfl rfl rfl (R_strslice rfl rfl rfl rfl Tryd.underlying9 (by omega) (by omega) (by omega)) <| wv rfl rfl rfl (R_stradd rfl rfl rfl (by simp only [List.length_append, List.length_take, List.length_drop, List.length_cons, List.length_nil]; omega)) <| wv rfl rfl rfl (R_assign rfl rfl) ?_
    refine W_nil ?_
    refine E_then (C_fr [(0, vstr a0), (1, .int .i64 (n : Int)), (6, vstr (t ++ ((a0.drop n).take ((n + 1) - n))))] rfl ?_)
    refine C_region ?_
    refine wv rfl rfl rfl (R_move rfl rfl) <| wv rfl rfl rfl (R_add64 rfl rfl rfl (by omega) (by omega)) <| wv rfl rfl rfl (R_assign rfl rfl) ?_
    refine W_nil ?_
    refine E_block_normal ?_
    have hs7 : (n : Int) + 1 = ((n + 1 : Nat) : Int) := by omega
    have hs8 : t ++ ((a0.drop n).take ((n + 1) - n)) = (t ++ [a0.getD n 0] : St) := by rw [take_one a0 n (by omega)]
    refine E_round [0, 1, 6] ?_ ⟨(n + 1 : Nat), (t ++ [a0.getD n 0] : St), (by rw [← hs7, ← hs8] <;> rfl), (by omega), (by first | omega | (simp; done) | (simp; omega)), (by rw [← hI0_2]; exact (bareS_next (by omega) (by assumption)).symm), rfl, hS.fin [] (by decide) rfl⟩
    omega
   ·have _hC1 := trivial
    refine C_exit ?_
    refine E_then_exit ?_
    refine E_then_exit ?_
    refine E_block_hit ?_
    refine E_then ?_
    refine C_seq ?_
    refine C_region ?_
    refine wv rfl rfl rfl (R_move rfl rfl) <| wv rfl rfl rfl (R_move rfl rfl) <| wv rfl rfl rfl (R_assign rfl rfl) <| wv rfl rfl rfl (R_assign rfl rfl) ?_
    refine W_nil ?_
    refine E_then (C_fr [(4, vstr t), (5, .int .i64 (n : Int))] rfl ?_)
    refine C_ret ?_
    refine E_then_ret ?_
    refine E_ret2 rfl rfl rfl ?_
    exact ⟨Lret2 (Lstr (show t = (fieldS a0 a1.toNat).1 by first | exact congrArg Prod.fst (field_bare (by first | exact .inl (by omega) | exact .inr (mt u34.2 (by assumption))) hI0_2 (by intro h_; first | assumption | omega)) | exact congrArg Prod.fst (field_quot (by omega) (u34.1 (by assumption)) hI1_2 (quotS_end (by omega))) | exact congrArg Prod.fst (field_quot (by omega) (u34.1 (by assumption)) hI1_2 (quotS_out (by omega) (u34.1 (by assumption)) (by intro h_; first | exact mt u34.2 (by assumption) | omega))) | exact (congrArg Prod.fst (field_quot (by omega) (u34.1 (by assumption)) hI1_2 (quotS_out (by omega) (u34.1 (by assumption)) (by intro h_; first | exact mt u34.2 (by assumption) | omega)))).trans rfl)) (Lint (show (n : Int) = (fieldS a0 a1.toNat).2 by first | exact congrArg Prod.snd (field_bare (by first | exact .inl (by omega) | exact .inr (mt u34.2 (by assumption))) hI0_2 (by intro h_; first | assumption | omega)) | exact congrArg Prod.snd (field_quot (by omega) (u34.1 (by assumption)) hI1_2 (quotS_end (by omega))) | exact congrArg Prod.snd (field_quot (by omega) (u34.1 (by assumption)) hI1_2 (quotS_out (by omega) (u34.1 (by assumption)) (by intro h_; first | exact mt u34.2 (by assumption) | omega))) | exact (congrArg Prod.snd (field_quot (by omega) (u34.1 (by assumption)) hI1_2 (quotS_out (by omega) (u34.1 (by assumption)) (by intro h_; first | exact mt u34.2 (by assumption) | omega)))).trans rfl)), hS.fin [] (by decide) rfl⟩
  ·have _hg4 := trivial
   have hg4p : ¬ ((n : Int) < (a0.length : Int)) := by simpa using hg4
   refine W_cons rfl (by decide) (Sv_off rfl rfl rfl (by rw [hg4] <;> rfl) ?_)
   refine W_cons rfl (by decide) (Sv_off rfl rfl rfl (by rw [hg4] <;> rfl) ?_)
   refine W_cons rfl (by decide) (Sv_off rfl rfl rfl (by rw [hg4] <;> rfl) ?_)
   refine W_cons rfl (by decide) (Sv_off rfl rfl rfl (by rw [hg4] <;> rfl) ?_)
   refine wv rfl rfl rfl (R_pick_f rfl rfl hg4 rfl) ?_
   refine W_nil ?_
   refine E_then (C_fr [(0, vstr a0), (1, .int .i64 (n : Int)), (6, vstr t), (26, .bool false)] rfl ?_)
   refine C_else rfl rfl ?_
   refine C_exit ?_
   refine E_then_exit ?_
   refine E_then_exit ?_
   refine E_block_hit ?_
   refine E_then ?_
   refine C_seq ?_
   refine C_region ?_
   refine wv rfl rfl rfl (R_move rfl rfl) <| wv rfl rfl rfl (R_move rfl rfl) <| wv rfl rfl rfl (R_assign rfl rfl) <| wv rfl rfl rfl (R_assign rfl rfl) ?_
   refine W_nil ?_
   refine E_then (C_fr [(4, vstr t), (5, .int .i64 (n : Int))] rfl ?_)
   refine C_ret ?_
   refine E_then_ret ?_
   refine E_ret2 rfl rfl rfl ?_
   exact ⟨Lret2 (Lstr (show t = (fieldS a0 a1.toNat).1 by first | exact congrArg Prod.fst (field_bare (by first | exact .inl (by omega) | exact .inr (mt u34.2 (by assumption))) hI0_2 (by intro h_; first | assumption | omega)) | exact congrArg Prod.fst (field_quot (by omega) (u34.1 (by assumption)) hI1_2 (quotS_end (by omega))) | exact congrArg Prod.fst (field_quot (by omega) (u34.1 (by assumption)) hI1_2 (quotS_out (by omega) (u34.1 (by assumption)) (by intro h_; first | exact mt u34.2 (by assumption) | omega))) | exact (congrArg Prod.fst (field_quot (by omega) (u34.1 (by assumption)) hI1_2 (quotS_out (by omega) (u34.1 (by assumption)) (by intro h_; first | exact mt u34.2 (by assumption) | omega)))).trans rfl)) (Lint (show (n : Int) = (fieldS a0 a1.toNat).2 by first | exact congrArg Prod.snd (field_bare (by first | exact .inl (by omega) | exact .inr (mt u34.2 (by assumption))) hI0_2 (by intro h_; first | assumption | omega)) | exact congrArg Prod.snd (field_quot (by omega) (u34.1 (by assumption)) hI1_2 (quotS_end (by omega))) | exact congrArg Prod.snd (field_quot (by omega) (u34.1 (by assumption)) hI1_2 (quotS_out (by omega) (u34.1 (by assumption)) (by intro h_; first | exact mt u34.2 (by assumption) | omega))) | exact (congrArg Prod.snd (field_quot (by omega) (u34.1 (by assumption)) hI1_2 (quotS_out (by omega) (u34.1 (by assumption)) (by intro h_; first | exact mt u34.2 (by assumption) | omega)))).trans rfl)), hS.fin [] (by decide) rfl⟩
 ·have _hg1 := trivial
  have hg1p : ¬ (a1 ≥ (a0.length : Int)) := by simpa using hg1
  refine W_cons rfl (by decide) (Sv_gt rfl rfl rfl hg1 (Sv_val rfl (R_move rfl rfl) ?_))
  refine W_cons rfl (by decide) (Sv_gt rfl rfl rfl hg1 (Sv_val rfl (R_move rfl rfl) ?_))
  refine W_cons rfl (by decide) (Sv_gt rfl rfl rfl hg1 (Sv_val rfl (R_stridx rfl rfl rfl Tryd.underlying9 (by omega) (by omega)) ?_))
  refine W_cons rfl (by decide) (Sv_gt rfl rfl rfl hg1 (Sv_val rfl (R_bin rfl rfl rfl rfl rfl) ?_))
  refine wv rfl rfl rfl (R_pick_f rfl rfl hg1 rfl) ?_
  refine W_nil ?_
  refine E_then (C_fr [(0, vstr a0), (1, .int .i64 a1), (6, vstr []), (16, .bool (((a0.getD a1.toNat 0).toNat : Int) != 34))] rfl ?_)
  refine C_ite rfl (fun hC0 => ?_) (fun hC0 => ?_)
  ·have _hC0 := trivial
   have hC0p : ¬ ((a0.getD a1.toNat 0).toNat : Int) = 34 := by simpa using hC0
   refine C_seq ?_
   refine C_block ?_
   have hs10 : a1 = ((a1.toNat : Nat) : Int) := by omega
   refine C_fr [(0, vstr a0), (1, .int .i64 a1), (6, vstr [])] rfl ?_
   refine C_loop (fun m_ f_ w_ => ∃ (n : Nat) (t : St), f_ = [(0, vstr a0), (1, .int .i64 (n : Int)), (6, vstr t)] ∧ n ≤ a0.length ∧ t.length ≤ n ∧ bareS (a0.drop n) n t = bareS (a0.drop a1.toNat) a1.toNat [] ∧ m_ = a0.length - n ∧ Sp (FF []) w z w_ []) (a0.length - (a1.toNat : Nat)) ⟨(a1.toNat : Nat), ([] : St), (by rw [← hs10] <;> rfl), (by omega), (by simp), (by rfl), rfl, hS.fin [] (by decide) rfl⟩ ?_
   rintro m_ f_ w9 ⟨n, t, rfl, hI0_0, hI0_1, hI0_2, rfl, hS⟩
   refine C_seq ?_
   refine C_seq ?_
   refine C_region ?_
   refine wv rfl rfl rfl (R_move rfl rfl) <| wv rfl rfl rfl (R_move rfl rfl) <| wv rfl rfl rfl (R_strlen rfl rfl Tryd.underlying9) <| wv rfl rfl rfl (R_bin rfl rfl rfl rfl rfl) <| wv rfl rfl rfl (R_move rfl rfl) ?_
   refine W_split (t := 21) rfl (fun hg11 => ?_) (fun hg11 => ?_)
   ·have _hg11 := trivial
    have hg11p : (n : Int) < (a0.length : Int) := by simpa using hg11
    refine W_cons rfl (by decide) (Sv_gt rfl rfl rfl hg11 (Sv_val rfl (R_move rfl rfl) ?_))
    refine W_cons rfl (by decide) (Sv_gt rfl rfl rfl hg11 (Sv_val rfl (R_move rfl rfl) ?_))
    refine W_cons rfl (by decide) (Sv_gt rfl rfl rfl hg11 (Sv_val rfl (R_stridx rfl rfl rfl Tryd.underlying9 (by omega) (by omega)) ?_))
    refine W_cons rfl (by decide) (Sv_gt rfl rfl rfl hg11 (Sv_call rfl rfl rfl ent42 ?_))
    refine (bare_calls ((a0.getD n 0).toNat : Int) _ _ hS.out0  ).mono ?_
    rintro e_ w12 ⟨rfl, hS_⟩
    refine ⟨_, rfl, ?_⟩
    have hS := hS.call0 hS_
    refine wv rfl rfl rfl (R_pick_t rfl rfl hg11 rfl) ?_
    refine W_nil ?_
    refine E_then (C_fr [(0, vstr a0), (1, .int .i64 (n : Int)), (6, vstr t), (26, .bool (decide (¬ ((a0.getD n 0).toNat : Int) = 34 ∧ ¬ ((a0.getD n 0).toNat : Int) = 44 ∧ ¬ ((a0.getD n 0).toNat : Int) = 13 ∧ ¬ ((a0.getD n 0).toNat : Int) = 10)))] rfl ?_)
    refine C_ite rfl (fun hC1 => ?_) (fun hC1 => ?_)
    ·have _hC1 := trivial
     refine C_skip ?_
     refine E_then ?_
     refine C_block ?_
     refine C_seq ?_
     refine C_region ?_
     refine wv rfl rfl rfl (R_move rfl rfl) <| wv rfl rfl rfl (R_move rfl rfl) <| wv rfl rfl rfl (R_move rfl rfl) <| wv rfl rfl rfl (R_move rfl rfl) <| wv rfl rfl rfl (R_add64 rfl rfl rfl (by omega) (by omega)) <| wv rfl rfl rfl (R_strslice rfl rfl rfl rfl Tryd.underlying9 (by omega) (by omega) (by omega)) <| wv rfl rfl rfl (R_stradd rfl rfl rfl (by simp only [List.length_append, List.length_take, List.length_drop, List.length_cons, List.length_nil]; omega)) <| wv rfl rfl rfl (R_assign rfl rfl) ?_
     refine W_nil ?_
     refine E_then (C_fr [(0, vstr a0), (1, .int .i64 (n : Int)), (6, vstr (t ++ ((a0.drop n).take ((n + 1) - n))))] rfl ?_)
     refine C_region ?_
     refine wv rfl rfl rfl (R_move rfl rfl) <| wv rfl rfl rfl (R_add64 rfl rfl rfl (by omega) (by omega)) <| wv rfl rfl rfl (R_assign rfl rfl) ?_
     refine W_nil ?_
     refine E_block_normal ?_
     have hs14 : (n : Int) + 1 = ((n + 1 : Nat) : Int) := by omega
     have hs15 : t ++ ((a0.drop n).take ((n + 1) - n)) = (t ++ [a0.getD n 0] : St) := by rw [take_one a0 n (by omega)]
     refine E_round [0, 1, 6] ?_ ⟨(n + 1 : Nat), (t ++ [a0.getD n 0] : St), (by rw [← hs14, ← hs15] <;> rfl), (by omega), (by first | omega | (simp; done) | (simp; omega)), (by rw [← hI0_2]; exact (bareS_next (by omega) (by assumption)).symm), rfl, hS.fin [] (by decide) rfl⟩
     omega
    ·have _hC1 := trivial
     refine C_exit ?_
     refine E_then_exit ?_
     refine E_then_exit ?_
     refine E_block_hit ?_
     refine E_then ?_
     refine C_seq ?_
     refine C_region ?_
     refine wv rfl rfl rfl (R_move rfl rfl) <| wv rfl rfl rfl (R_move rfl rfl) <| wv rfl rfl rfl (R_assign rfl rfl) <| wv rfl rfl rfl (R_assign rfl rfl) ?_
     refine W_nil ?_
     refine E_then (C_fr [(4, vstr t), (5, .int .i64 (n : Int))] rfl ?_)
     refine C_ret ?_
     refine E_then_ret ?_
     refine E_ret2 rfl rfl rfl ?_
     exact ⟨Lret2 (Lstr (show t = (fieldS a0 a1.toNat).1 by first | exact congrArg Prod.fst (field_bare (by first | exact .inl (by omega) | exact .inr (mt u34.2 (by assumption))) hI0_2 (by intro h_; first | assumption | omega)) | exact congrArg Prod.fst (field_quot (by omega) (u34.1 (by assumption)) hI1_2 (quotS_end (by omega))) | exact congrArg Prod.fst (field_quot (by omega) (u34.1 (by assumption)) hI1_2 (quotS_out (by omega) (u34.1 (by assumption)) (by intro h_; first | exact mt u34.2 (by assumption) | omega))) | exact (congrArg Prod.fst (field_quot (by omega) (u34.1 (by assumption)) hI1_2 (quotS_out (by omega) (u34.1 (by assumption)) (by intro h_; first | exact mt u34.2 (by assumption) | omega)))).trans rfl)) (Lint (show (n : Int) = (fieldS a0 a1.toNat).2 by first | exact congrArg Prod.snd (field_bare (by first | exact .inl (by omega) | exact .inr (mt u34.2 (by assumption))) hI0_2 (by intro h_; first | assumption | omega)) | exact congrArg Prod.snd (field_quot (by omega) (u34.1 (by assumption)) hI1_2 (quotS_end (by omega))) | exact congrArg Prod.snd (field_quot (by omega) (u34.1 (by assumption)) hI1_2 (quotS_out (by omega) (u34.1 (by assumption)) (by intro h_; first | exact mt u34.2 (by assumption) | omega))) | exact (congrArg Prod.snd (field_quot (by omega) (u34.1 (by assumption)) hI1_2 (quotS_out (by omega) (u34.1 (by assumption)) (by intro h_; first | exact mt u34.2 (by assumption) | omega)))).trans rfl)), hS.fin [] (by decide) rfl⟩
   ·have _hg11 := trivial
    have hg11p : ¬ ((n : Int) < (a0.length : Int)) := by simpa using hg11
    refine W_cons rfl (by decide) (Sv_off rfl rfl rfl (by rw [hg11] <;> rfl) ?_)
    refine W_cons rfl (by decide) (Sv_off rfl rfl rfl (by rw [hg11] <;> rfl) ?_)
    refine W_cons rfl (by decide) (Sv_off rfl rfl rfl (by rw [hg11] <;> rfl) ?_)
    refine W_cons rfl (by decide) (Sv_off rfl rfl rfl (by rw [hg11] <;> rfl) ?_)
    refine wv rfl rfl rfl (R_pick_f rfl rfl hg11 rfl) ?_
    refine W_nil ?_
    refine E_then (C_fr [(0, vstr a0), (1, .int .i64 (n : Int)), (6, vstr t), (26, .bool false)] rfl ?_)
    refine C_else rfl rfl ?_
    refine C_exit ?_
    refine E_then_exit ?_
    refine E_then_exit ?_
    refine E_block_hit ?_
    refine E_then ?_
    refine C_seq ?_
    refine C_region ?_
    refine wv rfl rfl rfl (R_move rfl rfl) <| wv rfl rfl rfl (R_move rfl rfl) <| wv rfl rfl rfl (R_assign rfl rfl) <| wv rfl rfl rfl (R_assign rfl rfl) ?_
    refine W_nil ?_
    refine E_then (C_fr [(4, vstr t), (5, .int .i64 (n : Int))] rfl ?_)
    refine C_ret ?_
    refine E_then_ret ?_
    refine E_ret2 rfl rfl rfl ?_
    exact ⟨Lret2 (Lstr (show t = (fieldS a0 a1.toNat).1 by first | exact congrArg Prod.fst (field_bare (by first | exact .inl (by omega) | exact .inr (mt u34.2 (by assumption))) hI0_2 (by intro h_; first | assumption | omega)) | exact congrArg Prod.fst (field_quot (by omega) (u34.1 (by assumption)) hI1_2 (quotS_end (by omega))) | exact congrArg Prod.fst (field_quot (by omega) (u34.1 (by assumption)) hI1_2 (quotS_out (by omega) (u34.1 (by assumption)) (by intro h_; first | exact mt u34.2 (by assumption) | omega))) | exact (congrArg Prod.fst (field_quot (by omega) (u34.1 (by assumption)) hI1_2 (quotS_out (by omega) (u34.1 (by assumption)) (by intro h_; first | exact mt u34.2 (by assumption) | omega)))).trans rfl)) (Lint (show (n : Int) = (fieldS a0 a1.toNat).2 by first | exact congrArg Prod.snd (field_bare (by first | exact .inl (by omega) | exact .inr (mt u34.2 (by assumption))) hI0_2 (by intro h_; first | assumption | omega)) | exact congrArg Prod.snd (field_quot (by omega) (u34.1 (by assumption)) hI1_2 (quotS_end (by omega))) | exact congrArg Prod.snd (field_quot (by omega) (u34.1 (by assumption)) hI1_2 (quotS_out (by omega) (u34.1 (by assumption)) (by intro h_; first | exact mt u34.2 (by assumption) | omega))) | exact (congrArg Prod.snd (field_quot (by omega) (u34.1 (by assumption)) hI1_2 (quotS_out (by omega) (u34.1 (by assumption)) (by intro h_; first | exact mt u34.2 (by assumption) | omega)))).trans rfl)), hS.fin [] (by decide) rfl⟩
  ·have _hC0 := trivial
   have hC0p : ((a0.getD a1.toNat 0).toNat : Int) = 34 := by simpa using hC0
   refine C_skip ?_
   refine E_then ?_
   refine C_seq ?_
   refine C_region ?_
   refine wv rfl rfl rfl (R_move rfl rfl) <| wv rfl rfl rfl (R_add64 rfl rfl rfl (by omega) (by omega)) <| wv rfl rfl rfl (R_assign rfl rfl) ?_
   refine W_nil ?_
   refine E_then ?_
   refine C_block ?_
   have hs17 : a1 + 1 = ((a1.toNat + 1 : Nat) : Int) := by omega
   refine C_fr [(0, vstr a0), (1, .int .i64 (a1 + 1)), (6, vstr [])] rfl ?_
   refine C_loop (fun m_ f_ w_ => ∃ (n : Nat) (t : St), f_ = [(0, vstr a0), (1, .int .i64 (n : Int)), (6, vstr t)] ∧ n ≤ a0.length ∧ t.length ≤ n ∧ quotS (a0.drop n) n t = quotS (a0.drop (a1.toNat + 1)) (a1.toNat + 1) [] ∧ m_ = a0.length - n ∧ Sp (FF []) w z w_ []) (a0.length - (a1.toNat + 1 : Nat)) ⟨(a1.toNat + 1 : Nat), ([] : St), (by rw [← hs17] <;> rfl), (by omega), (by simp), (by rfl), rfl, hS.fin [] (by decide) rfl⟩ ?_
   rintro m_ f_ w16 ⟨n, t, rfl, hI1_0, hI1_1, hI1_2, rfl, hS⟩
   refine C_block ?_
   refine C_seq ?_
   refine C_seq ?_
   refine C_region ?_
   refine wv rfl rfl rfl (R_move rfl rfl) <| wv rfl rfl rfl (R_move rfl rfl) <| wv rfl rfl rfl (R_strlen rfl rfl Tryd.underlying9) <| wv rfl rfl rfl (R_bin rfl rfl rfl rfl rfl) ?_
   refine W_nil ?_
   refine E_then ?_
   refine C_ite rfl (fun hC2 => ?_) (fun hC2 => ?_)
   ·have _hC2 := trivial
    have hC2p : (n : Int) ≥ (a0.length : Int) := by simpa using hC2
    refine C_seq ?_
    refine C_region ?_
    refine wv rfl rfl rfl (R_move rfl rfl) <| wv rfl rfl rfl (R_neg64 rfl rfl (by omega)) <| wv rfl rfl rfl (R_sub64 rfl rfl rfl (by omega) (by omega)) <| wv rfl rfl rfl (R_assign rfl rfl) <| wv rfl rfl rfl (R_assign rfl rfl) ?_
    refine W_nil ?_
    refine E_then (C_fr [(4, vstr []), (5, .int .i64 ((-(n : Int)) - 1))] rfl ?_)
    refine C_ret ?_
    refine E_then_ret ?_
    refine E_block_ret ?_
    refine E_then_ret ?_
    refine E_block_ret ?_
    refine E_ret2 rfl rfl rfl ?_
    exact ⟨Lret2 (Lstr (show [] = (fieldS a0 a1.toNat).1 by first | exact congrArg Prod.fst (field_bare (by first | exact .inl (by omega) | exact .inr (mt u34.2 (by assumption))) hI0_2 (by intro h_; first | assumption | omega)) | exact congrArg Prod.fst (field_quot (by omega) (u34.1 (by assumption)) hI1_2 (quotS_end (by omega))) | exact congrArg Prod.fst (field_quot (by omega) (u34.1 (by assumption)) hI1_2 (quotS_out (by omega) (u34.1 (by assumption)) (by intro h_; first | exact mt u34.2 (by assumption) | omega))) | exact (congrArg Prod.fst (field_quot (by omega) (u34.1 (by assumption)) hI1_2 (quotS_out (by omega) (u34.1 (by assumption)) (by intro h_; first | exact mt u34.2 (by assumption) | omega)))).trans rfl)) (Lint (show (-(n : Int)) - 1 = (fieldS a0 a1.toNat).2 by first | exact congrArg Prod.snd (field_bare (by first | exact .inl (by omega) | exact .inr (mt u34.2 (by assumption))) hI0_2 (by intro h_; first | assumption | omega)) | exact congrArg Prod.snd (field_quot (by omega) (u34.1 (by assumption)) hI1_2 (quotS_end (by omega))) | exact congrArg Prod.snd (field_quot (by omega) (u34.1 (by assumption)) hI1_2 (quotS_out (by omega) (u34.1 (by assumption)) (by intro h_; first | exact mt u34.2 (by assumption) | omega))) | exact (congrArg Prod.snd (field_quot (by omega) (u34.1 (by assumption)) hI1_2 (quotS_out (by omega) (u34.1 (by assumption)) (by intro h_; first | exact mt u34.2 (by assumption) | omega)))).trans rfl)), hS.fin [] (by decide) rfl⟩
   ·have _hC2 := trivial
    have hC2p : ¬ ((n : Int) ≥ (a0.length : Int)) := by simpa using hC2
    refine C_skip ?_
    refine E_then ?_
    refine C_seq ?_
    refine C_seq ?_
    refine C_region ?_
    refine wv rfl rfl rfl (R_move rfl rfl) <| wv rfl rfl rfl (R_move rfl rfl) <| wv rfl rfl rfl (R_stridx rfl rfl rfl Tryd.underlying9 (by omega) (by omega)) <| wv rfl rfl rfl (R_bin rfl rfl rfl rfl rfl) ?_
    refine W_nil ?_
    refine E_then (C_fr [(0, vstr a0), (1, .int .i64 (n : Int)), (6, vstr t), (50, .bool (((a0.getD n 0).toNat : Int) != 34))] rfl ?_)
    refine C_ite rfl (fun hC3 => ?_) (fun hC3 => ?_)
    ·have _hC3 := trivial
     have hC3p : ¬ ((a0.getD n 0).toNat : Int) = 34 := by simpa using hC3
     refine C_seq ?_
     refine C_region ?_
     refine wv rfl rfl rfl (R_move rfl rfl) <| wv rfl rfl rfl (R_move rfl rfl) <| wv rfl rfl rfl (R_move rfl rfl) <| wv rfl rfl rfl (R_move rfl rfl) <| wv rfl rfl rfl (R_add64 rfl rfl rfl (by omega) (by omega)) <| wv rfl rfl rfl (R_strslice rfl rfl rfl rfl Tryd.underlying9 (by omega) (by omega) (by omega)) <| wv rfl rfl rfl (R_stradd rfl rfl rfl (by simp only [List.length_append, List.length_take, List.length_drop, List.length_cons, List.length_nil]; omega)) <| wv rfl rfl rfl (R_assign rfl rfl) ?_
     refine W_nil ?_
     refine E_then (C_fr [(0, vstr a0), (1, .int .i64 (n : Int)), (6, vstr (t ++ ((a0.drop n).take ((n + 1) - n))))] rfl ?_)
     refine C_seq ?_
     refine C_region ?_
     refine wv rfl rfl rfl (R_move rfl rfl) <| wv rfl rfl rfl (R_add64 rfl rfl rfl (by omega) (by omega)) <| wv rfl rfl rfl (R_assign rfl rfl) ?_
     refine W_nil ?_
     refine E_then ?_
     refine C_exit ?_
     refine E_then_exit ?_
     refine E_block_hit ?_
     have hs18 : (n : Int) + 1 = ((n + 1 : Nat) : Int) := by omega
     have hs19 : t ++ ((a0.drop n).take ((n + 1) - n)) = (t ++ [a0.getD n 0] : St) := by rw [take_one a0 n (by omega)]
     refine E_round [0, 1, 6] ?_ ⟨(n + 1 : Nat), (t ++ [a0.getD n 0] : St), (by rw [← hs18, ← hs19] <;> rfl), (by omega), (by first | omega | (simp; done) | (simp; omega)), (by rw [← hI1_2]; exact (quotS_next (by omega) (mt u34.2 (by assumption))).symm), rfl, hS.fin [] (by decide) rfl⟩
     omega
    ·have _hC3 := trivial
     have hC3p : ((a0.getD n 0).toNat : Int) = 34 := by simpa using hC3
     refine C_skip ?_
     refine E_then ?_
     refine C_seq ?_
     refine C_seq ?_
     refine C_region ?_
     refine wv rfl rfl rfl (R_move rfl rfl) <| wv rfl rfl rfl (R_add64 rfl rfl rfl (by omega) (by omega)) <| wv rfl rfl rfl (R_move rfl rfl) <| wv rfl rfl rfl (R_strlen rfl rfl Tryd.underlying9) <| wv rfl rfl rfl (R_bin rfl rfl rfl rfl rfl) <| wv rfl rfl rfl (R_move rfl rfl) ?_
     refine W_split (t := 65) rfl (fun hg20 => ?_) (fun hg20 => ?_)
     ·have _hg20 := trivial
      have hg20p : ((n : Int) + 1) < (a0.length : Int) := by simpa using hg20
      refine W_cons rfl (by decide) (Sv_gt rfl rfl rfl hg20 (Sv_val rfl (R_move rfl rfl) ?_))
      refine W_cons rfl (by decide) (Sv_gt rfl rfl rfl hg20 (Sv_val rfl (R_move rfl rfl) ?_))
      refine W_cons rfl (by decide) (Sv_gt rfl rfl rfl hg20 (Sv_val rfl (R_add64 rfl rfl rfl (by omega) (by omega)) ?_))
      refine W_cons rfl (by decide) (Sv_gt rfl rfl rfl hg20 (Sv_val rfl (R_stridx rfl rfl rfl Tryd.underlying9 (by omega) (by omega)) ?_))
      refine W_cons rfl (by decide) (Sv_gt rfl rfl rfl hg20 (Sv_val rfl (R_bin rfl rfl rfl rfl rfl) ?_))
      refine wv rfl rfl rfl (R_pick_t rfl rfl hg20 rfl) ?_
      refine W_nil ?_
      refine E_then (C_fr [(0, vstr a0), (1, .int .i64 (n : Int)), (6, vstr t), (71, .bool (((a0.getD (n + 1) 0).toNat : Int) == 34))] rfl ?_)
      refine C_ite rfl (fun hC4 => ?_) (fun hC4 => ?_)
      ·have _hC4 := trivial
       have hC4p : ((a0.getD (n + 1) 0).toNat : Int) = 34 := by simpa using hC4
       refine C_seq ?_
       refine C_region ?_
       refine wv rfl rfl rfl (R_move rfl rfl) <| wv rfl rfl rfl (R_stradd rfl rfl rfl (by simp only [List.length_append, List.length_take, List.length_drop, List.length_cons, List.length_nil]; omega)) <| wv rfl rfl rfl (R_assign rfl rfl) ?_
       refine W_nil ?_
       refine E_then ?_
       refine C_seq ?_
       refine C_region ?_
       refine wv rfl rfl rfl (R_move rfl rfl) <| wv rfl rfl rfl (R_add64 rfl rfl rfl (by omega) (by omega)) <| wv rfl rfl rfl (R_assign rfl rfl) ?_
       refine W_nil ?_
       refine E_then (C_fr [(0, vstr a0), (1, .int .i64 ((n : Int) + 2)), (6, vstr (t ++ [34]))] rfl ?_)
       refine C_exit ?_
       refine E_then_exit ?_
       refine E_block_hit ?_
       have hs21 : (n : Int) + 2 = ((n + 2 : Nat) : Int) := by omega
       refine E_round [0, 1, 6] ?_ ⟨(n + 2 : Nat), (t ++ [34] : St), (by rw [← hs21] <;> rfl), (by omega), (by first | omega | (simp; done) | (simp; omega)), (by rw [← hI1_2]; exact (quotS_two (by omega) (u34.1 (by assumption)) (u34.1 (by assumption))).symm), rfl, hS.fin [] (by decide) rfl⟩
       omega
      ·have _hC4 := trivial
       have hC4p : ¬ (((a0.getD (n + 1) 0).toNat : Int) = 34) := by simpa using hC4
       refine C_skip ?_
       refine E_then ?_
       refine C_seq ?_
       refine C_region ?_
       refine wv rfl rfl rfl (R_move rfl rfl) <| wv rfl rfl rfl (R_move rfl rfl) <| wv rfl rfl rfl (R_add64 rfl rfl rfl (by omega) (by omega)) <| wv rfl rfl rfl (R_assign rfl rfl) <| wv rfl rfl rfl (R_assign rfl rfl) ?_
       refine W_nil ?_
       refine E_then (C_fr [(4, vstr t), (5, .int .i64 ((n : Int) + 1))] rfl ?_)
       refine C_ret ?_
       refine E_block_ret ?_
       refine E_then_ret ?_
       refine E_block_ret ?_
       refine E_ret2 rfl rfl rfl ?_
       exact ⟨Lret2 (Lstr (show t = (fieldS a0 a1.toNat).1 by first | exact congrArg Prod.fst (field_bare (by first | exact .inl (by omega) | exact .inr (mt u34.2 (by assumption))) hI0_2 (by intro h_; first | assumption | omega)) | exact congrArg Prod.fst (field_quot (by omega) (u34.1 (by assumption)) hI1_2 (quotS_end (by omega))) | exact congrArg Prod.fst (field_quot (by omega) (u34.1 (by assumption)) hI1_2 (quotS_out (by omega) (u34.1 (by assumption)) (by intro h_; first | exact mt u34.2 (by assumption) | omega))) | exact (congrArg Prod.fst (field_quot (by omega) (u34.1 (by assumption)) hI1_2 (quotS_out (by omega) (u34.1 (by assumption)) (by intro h_; first | exact mt u34.2 (by assumption) | omega)))).trans rfl)) (Lint (show (n : Int) + 1 = (fieldS a0 a1.toNat).2 by first | exact congrArg Prod.snd (field_bare (by first | exact .inl (by omega) | exact .inr (mt u34.2 (by assumption))) hI0_2 (by intro h_; first | assumption | omega)) | exact congrArg Prod.snd (field_quot (by omega) (u34.1 (by assumption)) hI1_2 (quotS_end (by omega))) | exact congrArg Prod.snd (field_quot (by omega) (u34.1 (by assumption)) hI1_2 (quotS_out (by omega) (u34.1 (by assumption)) (by intro h_; first | exact mt u34.2 (by assumption) | omega))) | exact (congrArg Prod.snd (field_quot (by omega) (u34.1 (by assumption)) hI1_2 (quotS_out (by omega) (u34.1 (by assumption)) (by intro h_; first | exact mt u34.2 (by assumption) | omega)))).trans rfl)), hS.fin [] (by decide) rfl⟩
     ·have _hg20 := trivial
      have hg20p : ¬ (((n : Int) + 1) < (a0.length : Int)) := by simpa using hg20
      refine W_cons rfl (by decide) (Sv_off rfl rfl rfl (by rw [hg20] <;> rfl) ?_)
      refine W_cons rfl (by decide) (Sv_off rfl rfl rfl (by rw [hg20] <;> rfl) ?_)
      refine W_cons rfl (by decide) (Sv_off rfl rfl rfl (by rw [hg20] <;> rfl) ?_)
      refine W_cons rfl (by decide) (Sv_off rfl rfl rfl (by rw [hg20] <;> rfl) ?_)
      refine W_cons rfl (by decide) (Sv_off rfl rfl rfl (by rw [hg20] <;> rfl) ?_)
      refine wv rfl rfl rfl (R_pick_f rfl rfl hg20 rfl) ?_
      refine W_nil ?_
      refine E_then (C_fr [(0, vstr a0), (1, .int .i64 (n : Int)), (6, vstr t), (71, .bool false)] rfl ?_)
      refine C_else rfl rfl ?_
      refine C_skip ?_
      refine E_then ?_
      refine C_seq ?_
      refine C_region ?_
      refine wv rfl rfl rfl (R_move rfl rfl) <| wv rfl rfl rfl (R_move rfl rfl) <| wv rfl rfl rfl (R_add64 rfl rfl rfl (by omega) (by omega)) <| wv rfl rfl rfl (R_assign rfl rfl) <| wv rfl rfl rfl (R_assign rfl rfl) ?_
      refine W_nil ?_
      refine E_then (C_fr [(4, vstr t), (5, .int .i64 ((n : Int) + 1))] rfl ?_)
      refine C_ret ?_
      refine E_block_ret ?_
      refine E_then_ret ?_
      refine E_block_ret ?_
      refine E_ret2 rfl rfl rfl ?_
      exact ⟨Lret2 (Lstr (show t = (fieldS a0 a1.toNat).1 by first | exact congrArg Prod.fst (field_bare (by first | exact .inl (by omega) | exact .inr (mt u34.2 (by assumption))) hI0_2 (by intro h_; first | assumption | omega)) | exact congrArg Prod.fst (field_quot (by omega) (u34.1 (by assumption)) hI1_2 (quotS_end (by omega))) | exact congrArg Prod.fst (field_quot (by omega) (u34.1 (by assumption)) hI1_2 (quotS_out (by omega) (u34.1 (by assumption)) (by intro h_; first | exact mt u34.2 (by assumption) | omega))) | exact (congrArg Prod.fst (field_quot (by omega) (u34.1 (by assumption)) hI1_2 (quotS_out (by omega) (u34.1 (by assumption)) (by intro h_; first | exact mt u34.2 (by assumption) | omega)))).trans rfl)) (Lint (show (n : Int) + 1 = (fieldS a0 a1.toNat).2 by first | exact congrArg Prod.snd (field_bare (by first | exact .inl (by omega) | exact .inr (mt u34.2 (by assumption))) hI0_2 (by intro h_; first | assumption | omega)) | exact congrArg Prod.snd (field_quot (by omega) (u34.1 (by assumption)) hI1_2 (quotS_end (by omega))) | exact congrArg Prod.snd (field_quot (by omega) (u34.1 (by assumption)) hI1_2 (quotS_out (by omega) (u34.1 (by assumption)) (by intro h_; first | exact mt u34.2 (by assumption) | omega))) | exact (congrArg Prod.snd (field_quot (by omega) (u34.1 (by assumption)) hI1_2 (quotS_out (by omega) (u34.1 (by assumption)) (by intro h_; first | exact mt u34.2 (by assumption) | omega)))).trans rfl)), hS.fin [] (by decide) rfl⟩

set_option maxHeartbeats 2000000 in
set_option maxRecDepth 20000 in
theorem refparse_calls (a0 : St) (z : Z) (w : World) (hI : In z w [])  (p0 : a0.length ≤ 70000) :
    Calls Tryd.prog 25 #[vstr a0] w fun e w' => ∃ (AR0 : Option Addr) (cR0 : Nat) (qR0 : Z), e = .returned (.tuple #[.slice AR0 (refS a0).1.length cR0, .int .i64 (refS a0).2]) ∧ Sp (FF []) w z w' [zR qR0, oR (kslice kstr) 33 qR0 AR0 cR0 (refS a0).1] := by
 have hS := hI.sp
 refine Calls_of (vs := [vstr a0]) (N := 72) Tryd.func25 rfl rfl (Nat.le_of_ble_eq_true rfl) ?_
 refine C_seq ?_
 refine C_region ?_
 refine wv rfl rfl rfl (R_assign rfl rfl) <| wv rfl rfl rfl (R_assign rfl rfl) ?_
 refine W_nil ?_
 refine E_then ?_
 refine C_seq ?_
 refine C_region ?_
 refine wv rfl rfl rfl (R_assign rfl rfl) ?_
 refine W_nil ?_
 refine E_then ?_
 refine C_seq ?_
 refine C_region ?_
 refine wv rfl rfl rfl (R_assign rfl rfl) ?_
 refine W_nil ?_
 refine E_then ?_
 refine C_block ?_
 obtain ⟨z4, hS⟩ := hS.famx
 have hS := hS.nilrow (kslice kstr) 33 z4
 have hs6 : ([] : List (List St)) = (recs ([] : Tells)).1 := by rfl
 have hS := hS.re 0 rfl hs6
 refine C_fr [(0, vstr a0), (4, .slice none 0 0), (5, .int .i64 0)] rfl ?_
 refine C_loop (fun m_ f_ w_ => ∃ (n : Nat) (h : Tells) (Ar1 : Option Addr) (cr1 : Nat) (z2 : Z), f_ = [(0, vstr a0), (4, .slice Ar1 (recs h).1.length cr1), (5, .int .i64 (n : Int))] ∧ n ≤ a0.length ∧ h.length ≤ n ∧ (recs h).2 = [] ∧ Left a0 .F n [] h ∧ m_ = a0.length - n ∧ Sp (FF []) w z w_ [zR z2, oR (kslice kstr) 33 z2 Ar1 cr1 (recs h).1]) (a0.length - (0 : Nat)) ⟨(0 : Nat), ([] : Tells), none, 0, z4, (by rw [← hs6] <;> rfl), (by omega), (by simp), (by rfl), (by simp [Left]), rfl, hS.fin [1, 0] (by decide) rfl⟩ ?_
 rintro m_ f_ w3 ⟨n, h, Ar1, cr1, z2, rfl, hI0_0, hI0_1, hI0_2, hI0_3, rfl, hS⟩
 have hp7 := hS.cap 1 rfl
 have hlhp7 := hp7.le
 have hmhp7 := hp7.mx
 refine C_block ?_
 refine C_seq ?_
 have hrl := recs_len h
 refine C_region ?_
 refine wv rfl rfl rfl (R_assign rfl rfl) ?_
 refine W_nil ?_
 refine E_then ?_
 refine C_seq ?_
 refine C_block ?_
 have hS := hS.nilrow kstr 9 zE
 have hs11 : ([] : List St) = (recs (h : Tells)).2 := by exact hI0_2.symm
 have hS := hS.re 0 rfl hs11
 refine C_fr [(0, vstr a0), (4, .slice Ar1 (recs h).1.length cr1), (5, .int .i64 (n : Int)), (6, .slice none 0 0)] rfl ?_
 refine C_loop (fun m_ f_ w_ => ∃ (m : Nat) (g : Tells) (Ar8 : Option Addr) (cr8 : Nat), f_ = [(0, vstr a0), (4, .slice Ar1 (recs h).1.length cr1), (5, .int .i64 (m : Int)), (6, .slice Ar8 (recs g).2.length cr8)] ∧ m ≤ a0.length ∧ n ≤ m ∧ g.length ≤ m ∧ (recs g).1 = (recs h).1 ∧ Left a0 .F m [] g ∧ m_ = a0.length - m ∧ Sp (FF []) w z w_ [zR z2, oR (kslice kstr) 33 z2 Ar1 cr1 (recs h).1, oR kstr 9 zE Ar8 cr8 (recs g).2]) (a0.length - (n : Nat)) ⟨(n : Nat), (h : Tells), none, 0, (by rw [← hs11] <;> rfl), (by omega), (by omega), (by omega), (by rfl), (by assumption), rfl, hS.fin [1, 2, 0] (by decide) rfl⟩ ?_
 rintro m_ f_ w9 ⟨m, g, Ar8, cr8, rfl, hI1_0, hI1_1, hI1_2, hI1_3, hI1_4, rfl, hS⟩
 have hp12 := hS.cap 2 rfl
 have hlhp12 := hp12.le
 have hmhp12 := hp12.mx
 refine C_block ?_
 refine C_seq ?_
 have hrg := recs_len g
 refine C_region ?_
 refine wv rfl rfl rfl (R_move rfl rfl) <| wv rfl rfl rfl (R_move rfl rfl) ?_
 refine W_cons rfl (by decide) (Sv_call rfl rfl rfl ent32 ?_)
 refine (field_calls a0 (m : Int) _ _ hS.out0  (by omega) (by omega)).mono ?_
 rintro e_ w13 ⟨rfl, hS_⟩
 refine ⟨.tuple #[vstr (fieldS a0 m).1, .int .i64 (fieldS a0 m).2], rfl, ?_⟩
 have hS := hS.call0 hS_
 refine wv rfl rfl rfl (R_move rfl rfl) <| wv rfl rfl rfl (R_extract rfl rfl rfl) <| wv rfl rfl rfl (R_extract rfl rfl rfl) <| wv rfl rfl rfl (R_assign rfl rfl) <| wv rfl rfl rfl (R_assign rfl rfl) ?_
 refine W_nil ?_
 refine E_then (C_fr [(0, vstr a0), (4, .slice Ar1 (recs h).1.length cr1), (6, .slice Ar8 (recs g).2.length cr8), (7, vstr (fieldS a0 m).1), (8, .int .i64 (fieldS a0 m).2)] rfl ?_)
 refine C_seq ?_
 refine C_seq ?_
 obtain ⟨hf1, hf2⟩ := field_left hI1_4 hI1_0
 have hfb := field_bd hI1_4 hI1_0
 refine C_region ?_
 refine wv rfl rfl rfl (R_move rfl rfl) <| wv rfl rfl rfl (R_bin rfl rfl rfl rfl rfl) ?_
 refine W_nil ?_
 refine E_then ?_
 refine C_ite rfl (fun hC0 => ?_) (fun hC0 => ?_)
 ·have _hC0 := trivial
  have hC0p : (fieldS a0 m).2 < 0 := by simpa using hC0
  refine C_seq ?_
  refine C_region ?_
  refine wv rfl rfl rfl (R_move rfl rfl) <| wv rfl rfl rfl (R_neg64 rfl rfl (by omega)) <| wv rfl rfl rfl (R_sub64 rfl rfl rfl (by omega) (by omega)) <| wv rfl rfl rfl (R_assign rfl rfl) <| wv rfl rfl rfl (R_assign rfl rfl) ?_
  refine W_nil ?_
  refine E_then (C_fr [(2, .slice none 0 0), (3, .int .i64 ((-(fieldS a0 m).2) - 1))] rfl ?_)
  refine C_ret ?_
  refine E_then_ret ?_
  refine E_block_ret ?_
  refine E_then_ret ?_
  refine E_block_ret ?_
  refine E_then_ret ?_
  refine E_block_ret ?_
  refine E_then_ret ?_
  refine E_block_ret ?_
  obtain ⟨z15, hS⟩ := hS.famx
  have hS := hS.nilrow (kslice kstr) 33 z15
  have hq17 : ([] : List (List St)) = (refS a0).1 := by first | (exact (congrArg Prod.fst (refS_bad (hf1 (by omega)) (by omega))).symm) | (exact (congrArg Prod.fst (refS_bad (he5.bad (by omega) (mt u44.2 (by assumption)) (mt u13.2 (by assumption))) (by omega))).symm) | (exact (congrArg Prod.fst (refS_bad ((he5.cr (by omega) (u13.1 (by assumption))).R_bad (by intro h_; first | exact (mt u10.2 (by assumption)) | omega)) (by omega))).symm) | (rw [refS_ok (he5.fin (by omega)), recs_snoc, ← hI1_3]; rfl) | (rw [refS_ok ((he5.cr (by omega) (u13.1 (by assumption))).R_end (by omega) (u10.1 (by assumption))), recs_snoc, ← hI1_3]; rfl)
  have hS := hS.re 0 rfl hq17
  refine E_ret2 rfl rfl rfl ?_
  exact ⟨none, 0, z15, Lret2 (Lslice hq17) (Lint (show (-(fieldS a0 m).2) - 1 = (refS a0).2 by first | (exact (congrArg Prod.snd (refS_bad (hf1 (by omega)) (by omega))).symm) | (exact (congrArg Prod.snd (refS_bad (he5.bad (by omega) (mt u44.2 (by assumption)) (mt u13.2 (by assumption))) (by omega))).symm) | (exact (congrArg Prod.snd (refS_bad ((he5.cr (by omega) (u13.1 (by assumption))).R_bad (by intro h_; first | exact (mt u10.2 (by assumption)) | omega)) (by omega))).symm) | (rw [refS_ok (he5.fin (by omega))]) | (rw [refS_ok ((he5.cr (by omega) (u13.1 (by assumption))).R_end (by omega) (u10.1 (by assumption)))]))), hS.fin [1, 0] (by decide) rfl⟩
 ·have _hC0 := trivial
  have hC0p : ¬ ((fieldS a0 m).2 < 0) := by simpa using hC0
  refine C_skip ?_
  refine E_then ?_
  refine C_seq ?_
  obtain ⟨e, he1, he2, he3, he4, he5⟩ := hf2 (by omega)
  refine C_fr [(0, vstr a0), (4, .slice Ar1 (recs h).1.length cr1), (6, .slice Ar8 (recs g).2.length cr8), (7, vstr (fieldS a0 m).1), (8, .int .i64 (e : Int)), (15, .int .i64 (fieldS a0 m).2), (16, .bool (decide ((fieldS a0 m).2 < 0)))] (by rw [← he1] <;> rfl) ?_
  refine C_region ?_
  refine wv rfl rfl rfl (R_move rfl rfl) <| wv rfl rfl rfl (R_move rfl rfl) ?_
  refine W_cons rfl (by decide) (S_row (d := kstr) (q := zE) hS ([(fieldS a0 m).1] : List St) rfl (R_buildSlice (ps := [(0, (.tmp 21))]) (vs := [vstr (fieldS a0 m).1]) (w' := w13.alloc (.cells [vstr (fieldS a0 m).1].toArray 9)) (r := .slice (some ⟨w13.heap.size, 0, none⟩) 1 1) rfl rfl rfl (by kernel_rfl)) (by simp [Reps, flat, kstr]) rfl (by decide) (fun g19 w18 hS => ?_))
  refine W_cons rfl (by decide) (S_append hS 3 rfl rfl rfl elem33 rfl rfl (hS.sow 0 rfl (fun _ _ h => h)) (by (try simp only [List.length_cons, List.length_nil, List.length_append, maxLen]); omega) (by (try simp only [List.length_cons, List.length_nil, List.length_append, maxLen]); omega) (fun Ar21 cr21 w20 hS => ?_))
  have hp22 := hS.cap 3 rfl
  have hlhp22 := hp22.le
  have hmhp22 := hp22.mx
  refine wv rfl rfl rfl (R_assign rfl rfl) ?_
  refine W_nil ?_
  refine E_then (C_fr [(0, vstr a0), (4, .slice Ar1 (recs h).1.length cr1), (6, .slice Ar21 ((recs g).2 ++ ([(fieldS a0 m).1] : List St)).length cr21), (8, .int .i64 (e : Int))] rfl ?_)
  refine C_seq ?_
  refine C_region ?_
  refine wv rfl rfl rfl (R_move rfl rfl) <| wv rfl rfl rfl (R_assign rfl rfl) ?_
  refine W_nil ?_
  refine E_then ?_
  refine C_seq ?_
  refine C_seq ?_
  refine C_region ?_
  refine wv rfl rfl rfl (R_move rfl rfl) <| wv rfl rfl rfl (R_move rfl rfl) <| wv rfl rfl rfl (R_strlen rfl rfl Tryd.underlying9) <| wv rfl rfl rfl (R_bin rfl rfl rfl rfl rfl) <| wv rfl rfl rfl (R_move rfl rfl) ?_
  refine W_split (t := 29) rfl (fun hg23 => ?_) (fun hg23 => ?_)
  ·have _hg23 := trivial
   have hg23p : (e : Int) = (a0.length : Int) := by simpa using hg23
   refine W_cons rfl (by decide) (Sv_off rfl rfl rfl (by rw [hg23] <;> rfl) ?_)
   refine W_cons rfl (by decide) (Sv_off rfl rfl rfl (by rw [hg23] <;> rfl) ?_)
   refine W_cons rfl (by decide) (Sv_off rfl rfl rfl (by rw [hg23] <;> rfl) ?_)
   refine W_cons rfl (by decide) (Sv_off rfl rfl rfl (by rw [hg23] <;> rfl) ?_)
   refine wv rfl rfl rfl (R_pick_t rfl rfl hg23 rfl) ?_
   refine W_nil ?_
   refine E_then (C_fr [(0, vstr a0), (4, .slice Ar1 (recs h).1.length cr1), (5, .int .i64 (e : Int)), (6, .slice Ar21 ((recs g).2 ++ ([(fieldS a0 m).1] : List St)).length cr21), (34, .bool true)] rfl ?_)
   refine C_if rfl rfl ?_
   refine C_exit ?_
   refine E_then_exit ?_
   refine E_block_miss rfl ?_
   refine E_then_exit ?_
   refine E_block_hit ?_
   refine E_then ?_
   refine C_seq ?_
   refine C_region ?_
   refine wv rfl rfl rfl (R_move rfl rfl) <| wv rfl rfl rfl (R_move rfl rfl) ?_
   have hcz26 := hS.cap 3 rfl
   obtain ⟨z26, hlez26, hrz26, hS⟩ := hS.fz 3 1 rfl rfl (by decide) (zle_E _)
   have hS := hS.lift 2 rfl hlez26
   refine W_cons rfl (by decide) (S_row (d := (kslice kstr)) (q := z26) hS ([(recs g).2 ++ ([(fieldS a0 m).1] : List St)] : List (List St)) rfl (R_buildSlice (ps := [(0, (.tmp 38))]) (vs := [.slice Ar21 ((recs g).2 ++ ([(fieldS a0 m).1] : List St)).length cr21]) (w' := w20.alloc (.cells [.slice Ar21 ((recs g).2 ++ ([(fieldS a0 m).1] : List St)).length cr21].toArray 33)) (r := .slice (some ⟨w20.heap.size, 0, none⟩) 1 1) rfl rfl rfl (by kernel_rfl)) ⟨_, _, rfl, ⟨_, _, rfl, hcz26, hrz26⟩, rfl⟩ rfl (by decide) (fun g25 w24 hS => ?_))
   refine W_cons rfl (by decide) (S_append hS 3 rfl rfl rfl elem25 rfl rfl (hS.sow 0 rfl (fun _ _ h => h)) (by (try simp only [List.length_cons, List.length_nil, List.length_append, maxLen]); omega) (by (try simp only [List.length_cons, List.length_nil, List.length_append, maxLen]); omega) (fun Ar28 cr28 w27 hS => ?_))
   have hp29 := hS.cap 3 rfl
   have hlhp29 := hp29.le
   have hmhp29 := hp29.mx
   refine wv rfl rfl rfl (R_assign rfl rfl) ?_
   refine W_nil ?_
   refine E_then (C_fr [(0, vstr a0), (4, .slice Ar28 ((recs h).1 ++ ([(recs g).2 ++ ([(fieldS a0 m).1] : List St)] : List (List St))).length cr28), (5, .int .i64 (e : Int))] rfl ?_)
   refine C_seq ?_
   refine C_seq ?_
   refine C_region ?_
   refine wv rfl rfl rfl (R_move rfl rfl) <| wv rfl rfl rfl (R_move rfl rfl) <| wv rfl rfl rfl (R_strlen rfl rfl Tryd.underlying9) <| wv rfl rfl rfl (R_bin rfl rfl rfl rfl rfl) ?_
   refine W_nil ?_
   refine E_then ?_
   refine C_if rfl hg23 ?_
   refine C_seq ?_
   refine C_region ?_
   refine wv rfl rfl rfl (R_move rfl rfl) <| wv rfl rfl rfl (R_assign rfl rfl) <| wv rfl rfl rfl (R_assign rfl rfl) ?_
   refine W_nil ?_
   refine E_then (C_fr [(2, .slice Ar28 ((recs h).1 ++ ([(recs g).2 ++ ([(fieldS a0 m).1] : List St)] : List (List St))).length cr28), (3, .int .i64 (-1))] rfl ?_)
   refine C_ret ?_
   refine E_then_ret ?_
   refine E_block_ret ?_
   refine E_then_ret ?_
   refine E_block_ret ?_
   have hq30 : (recs h).1 ++ ([(recs g).2 ++ ([(fieldS a0 m).1] : List St)] : List (List St)) = (refS a0).1 := by first | (exact (congrArg Prod.fst (refS_bad (hf1 (by omega)) (by omega))).symm) | (exact (congrArg Prod.fst (refS_bad (he5.bad (by omega) (mt u44.2 (by assumption)) (mt u13.2 (by assumption))) (by omega))).symm) | (exact (congrArg Prod.fst (refS_bad ((he5.cr (by omega) (u13.1 (by assumption))).R_bad (by intro h_; first | exact (mt u10.2 (by assumption)) | omega)) (by omega))).symm) | (rw [refS_ok (he5.fin (by omega)), recs_snoc, ← hI1_3]; rfl) | (rw [refS_ok ((he5.cr (by omega) (u13.1 (by assumption))).R_end (by omega) (u10.1 (by assumption))), recs_snoc, ← hI1_3]; rfl)
   have hS := hS.re 3 rfl hq30
   refine E_ret2 rfl rfl rfl ?_
   exact ⟨Ar28, cr28, z26, Lret2 (Lslice hq30) (Lint (show (-1) = (refS a0).2 by first | (exact (congrArg Prod.snd (refS_bad (hf1 (by omega)) (by omega))).symm) | (exact (congrArg Prod.snd (refS_bad (he5.bad (by omega) (mt u44.2 (by assumption)) (mt u13.2 (by assumption))) (by omega))).symm) | (exact (congrArg Prod.snd (refS_bad ((he5.cr (by omega) (u13.1 (by assumption))).R_bad (by intro h_; first | exact (mt u10.2 (by assumption)) | omega)) (by omega))).symm) | (rw [refS_ok (he5.fin (by omega))]) | (rw [refS_ok ((he5.cr (by omega) (u13.1 (by assumption))).R_end (by omega) (u10.1 (by assumption)))]))), hS.fin [1, 3] (by decide) rfl⟩
  ·have _hg23 := trivial
   have hg23p : ¬ ((e : Int) = (a0.length : Int)) := by simpa using hg23
   refine W_cons rfl (by decide) (Sv_gt rfl rfl rfl hg23 (Sv_val rfl (R_move rfl rfl) ?_))
   refine W_cons rfl (by decide) (Sv_gt rfl rfl rfl hg23 (Sv_val rfl (R_move rfl rfl) ?_))
   refine W_cons rfl (by decide) (Sv_gt rfl rfl rfl hg23 (Sv_val rfl (R_stridx rfl rfl rfl Tryd.underlying9 (by omega) (by omega)) ?_))
   refine W_cons rfl (by decide) (Sv_gt rfl rfl rfl hg23 (Sv_val rfl (R_bin rfl rfl rfl rfl rfl) ?_))
   refine wv rfl rfl rfl (R_pick_f rfl rfl hg23 rfl) ?_
   refine W_nil ?_
   refine E_then (C_fr [(0, vstr a0), (4, .slice Ar1 (recs h).1.length cr1), (5, .int .i64 (e : Int)), (6, .slice Ar21 ((recs g).2 ++ ([(fieldS a0 m).1] : List St)).length cr21), (34, .bool (((a0.getD e 0).toNat : Int) != 44))] rfl ?_)
   refine C_ite rfl (fun hC1 => ?_) (fun hC1 => ?_)
   ·have _hC1 := trivial
    have hC1p : ¬ ((a0.getD e 0).toNat : Int) = 44 := by simpa using hC1
    refine C_exit ?_
    refine E_then_exit ?_
    refine E_block_miss rfl ?_
    refine E_then_exit ?_
    refine E_block_hit ?_
    refine E_then ?_
    refine C_seq ?_
    refine C_region ?_
    refine wv rfl rfl rfl (R_move rfl rfl) <| wv rfl rfl rfl (R_move rfl rfl) ?_
    have hcz33 := hS.cap 3 rfl
    obtain ⟨z33, hlez33, hrz33, hS⟩ := hS.fz 3 1 rfl rfl (by decide) (zle_E _)
    have hS := hS.lift 2 rfl hlez33
    refine W_cons rfl (by decide) (S_row (d := (kslice kstr)) (q := z33) hS ([(recs g).2 ++ ([(fieldS a0 m).1] : List St)] : List (List St)) rfl (R_buildSlice (ps := [(0, (.tmp 38))]) (vs := [.slice Ar21 ((recs g).2 ++ ([(fieldS a0 m).1] : List St)).length cr21]) (w' := w20.alloc (.cells [.slice Ar21 ((recs g).2 ++ ([(fieldS a0 m).1] : List St)).length cr21].toArray 33)) (r := .slice (some ⟨w20.heap.size, 0, none⟩) 1 1) rfl rfl rfl (by kernel_rfl)) ⟨_, _, rfl, ⟨_, _, rfl, hcz33, hrz33⟩, rfl⟩ rfl (by decide) (fun g32 w31 hS => ?_))
    refine W_cons rfl (by decide) (S_append hS 3 rfl rfl rfl elem25 rfl rfl (hS.sow 0 rfl (fun _ _ h => h)) (by (try simp only [List.length_cons, List.length_nil, List.length_append, maxLen]); omega) (by (try simp only [List.length_cons, List.length_nil, List.length_append, maxLen]); omega) (fun Ar35 cr35 w34 hS => ?_))
    have hp36 := hS.cap 3 rfl
    have hlhp36 := hp36.le
    have hmhp36 := hp36.mx
    refine wv rfl rfl rfl (R_assign rfl rfl) ?_
    refine W_nil ?_
    refine E_then (C_fr [(0, vstr a0), (4, .slice Ar35 ((recs h).1 ++ ([(recs g).2 ++ ([(fieldS a0 m).1] : List St)] : List (List St))).length cr35), (5, .int .i64 (e : Int))] rfl ?_)
    refine C_seq ?_
    refine C_seq ?_
    refine C_region ?_
    refine wv rfl rfl rfl (R_move rfl rfl) <| wv rfl rfl rfl (R_move rfl rfl) <| wv rfl rfl rfl (R_strlen rfl rfl Tryd.underlying9) <| wv rfl rfl rfl (R_bin rfl rfl rfl rfl rfl) ?_
    refine W_nil ?_
    refine E_then ?_
    refine C_else rfl hg23 ?_
    refine C_skip ?_
    refine E_then ?_
    refine C_seq ?_
    refine C_seq ?_
    refine C_region ?_
    refine wv rfl rfl rfl (R_move rfl rfl) <| wv rfl rfl rfl (R_move rfl rfl) <| wv rfl rfl rfl (R_stridx rfl rfl rfl Tryd.underlying9 (by omega) (by omega)) <| wv rfl rfl rfl (R_bin rfl rfl rfl rfl rfl) ?_
    refine W_nil ?_
    refine E_then (C_fr [(0, vstr a0), (4, .slice Ar35 ((recs h).1 ++ ([(recs g).2 ++ ([(fieldS a0 m).1] : List St)] : List (List St))).length cr35), (5, .int .i64 (e : Int)), (49, .bool (((a0.getD e 0).toNat : Int) != 13))] rfl ?_)
    refine C_ite rfl (fun hC3 => ?_) (fun hC3 => ?_)
    ·have _hC3 := trivial
     have hC3p : ¬ ((a0.getD e 0).toNat : Int) = 13 := by simpa using hC3
     refine C_seq ?_
     refine C_region ?_
     refine wv rfl rfl rfl (R_move rfl rfl) <| wv rfl rfl rfl (R_assign rfl rfl) <| wv rfl rfl rfl (R_assign rfl rfl) ?_
     refine W_nil ?_
     refine E_then (C_fr [(2, .slice none 0 0), (3, .int .i64 (e : Int))] rfl ?_)
     refine C_ret ?_
     refine E_then_ret ?_
     refine E_block_ret ?_
     refine E_then_ret ?_
     refine E_block_ret ?_
     obtain ⟨z37, hS⟩ := hS.famx
     have hS := hS.nilrow (kslice kstr) 33 z37
     have hq39 : ([] : List (List St)) = (refS a0).1 := by first | (exact (congrArg Prod.fst (refS_bad (hf1 (by omega)) (by omega))).symm) | (exact (congrArg Prod.fst (refS_bad (he5.bad (by omega) (mt u44.2 (by assumption)) (mt u13.2 (by assumption))) (by omega))).symm) | (exact (congrArg Prod.fst (refS_bad ((he5.cr (by omega) (u13.1 (by assumption))).R_bad (by intro h_; first | exact (mt u10.2 (by assumption)) | omega)) (by omega))).symm) | (rw [refS_ok (he5.fin (by omega)), recs_snoc, ← hI1_3]; rfl) | (rw [refS_ok ((he5.cr (by omega) (u13.1 (by assumption))).R_end (by omega) (u10.1 (by assumption))), recs_snoc, ← hI1_3]; rfl)
     have hS := hS.re 0 rfl hq39
     refine E_ret2 rfl rfl rfl ?_
     exact ⟨none, 0, z37, Lret2 (Lslice hq39) (Lint (show (e : Int) = (refS a0).2 by first | (exact (congrArg Prod.snd (refS_bad (hf1 (by omega)) (by omega))).symm) | (exact (congrArg Prod.snd (refS_bad (he5.bad (by omega) (mt u44.2 (by assumption)) (mt u13.2 (by assumption))) (by omega))).symm) | (exact (congrArg Prod.snd (refS_bad ((he5.cr (by omega) (u13.1 (by assumption))).R_bad (by intro h_; first | exact (mt u10.2 (by assumption)) | omega)) (by omega))).symm) | (rw [refS_ok (he5.fin (by omega))]) | (rw [refS_ok ((he5.cr (by omega) (u13.1 (by assumption))).R_end (by omega) (u10.1 (by assumption)))]))), hS.fin [1, 0] (by decide) rfl⟩
    ·have _hC3 := trivial
     have hC3p : ((a0.getD e 0).toNat : Int) = 13 := by simpa using hC3
     refine C_skip ?_
     refine E_then ?_
     refine C_seq ?_
     refine C_seq ?_
     refine C_region ?_
     refine wv rfl rfl rfl (R_move rfl rfl) <| wv rfl rfl rfl (R_add64 rfl rfl rfl (by omega) (by omega)) <| wv rfl rfl rfl (R_move rfl rfl) <| wv rfl rfl rfl (R_strlen rfl rfl Tryd.underlying9) <| wv rfl rfl rfl (R_bin rfl rfl rfl rfl rfl) <| wv rfl rfl rfl (R_move rfl rfl) ?_
     refine W_split (t := 56) rfl (fun hg40 => ?_) (fun hg40 => ?_)
     ·have _hg40 := trivial
      have hg40p : ((e : Int) + 1) = (a0.length : Int) := by simpa using hg40
      refine W_cons rfl (by decide) (Sv_off rfl rfl rfl (by rw [hg40] <;> rfl) ?_)
      refine W_cons rfl (by decide) (Sv_off rfl rfl rfl (by rw [hg40] <;> rfl) ?_)
      refine W_cons rfl (by decide) (Sv_off rfl rfl rfl (by rw [hg40] <;> rfl) ?_)
      refine W_cons rfl (by decide) (Sv_off rfl rfl rfl (by rw [hg40] <;> rfl) ?_)
      refine W_cons rfl (by decide) (Sv_off rfl rfl rfl (by rw [hg40] <;> rfl) ?_)
      refine wv rfl rfl rfl (R_pick_t rfl rfl hg40 rfl) ?_
      refine W_nil ?_
      refine E_then (C_fr [(0, vstr a0), (4, .slice Ar35 ((recs h).1 ++ ([(recs g).2 ++ ([(fieldS a0 m).1] : List St)] : List (List St))).length cr35), (5, .int .i64 (e : Int)), (62, .bool true)] rfl ?_)
      refine C_if rfl rfl ?_
      refine C_seq ?_
      refine C_region ?_
      refine wv rfl rfl rfl (R_move rfl rfl) <| wv rfl rfl rfl (R_add64 rfl rfl rfl (by omega) (by omega)) <| wv rfl rfl rfl (R_assign rfl rfl) <| wv rfl rfl rfl (R_assign rfl rfl) ?_
      refine W_nil ?_
      refine E_then (C_fr [(2, .slice none 0 0), (3, .int .i64 ((e : Int) + 1))] rfl ?_)
      refine C_ret ?_
      refine E_then_ret ?_
      refine E_block_ret ?_
      refine E_then_ret ?_
      refine E_block_ret ?_
      obtain ⟨z41, hS⟩ := hS.famx
      have hS := hS.nilrow (kslice kstr) 33 z41
      have hq43 : ([] : List (List St)) = (refS a0).1 := by first | (exact (congrArg Prod.fst (refS_bad (hf1 (by omega)) (by omega))).symm) | (exact (congrArg Prod.fst (refS_bad (he5.bad (by omega) (mt u44.2 (by assumption)) (mt u13.2 (by assumption))) (by omega))).symm) | (exact (congrArg Prod.fst (refS_bad ((he5.cr (by omega) (u13.1 (by assumption))).R_bad (by intro h_; first | exact (mt u10.2 (by assumption)) | omega)) (by omega))).symm) | (rw [refS_ok (he5.fin (by omega)), recs_snoc, ← hI1_3]; rfl) | (rw [refS_ok ((he5.cr (by omega) (u13.1 (by assumption))).R_end (by omega) (u10.1 (by assumption))), recs_snoc, ← hI1_3]; rfl)
      have hS := hS.re 0 rfl hq43
      refine E_ret2 rfl rfl rfl ?_
      exact ⟨none, 0, z41, Lret2 (Lslice hq43) (Lint (show (e : Int) + 1 = (refS a0).2 by first | (exact (congrArg Prod.snd (refS_bad (hf1 (by omega)) (by omega))).symm) | (exact (congrArg Prod.snd (refS_bad (he5.bad (by omega) (mt u44.2 (by assumption)) (mt u13.2 (by assumption))) (by omega))).symm) | (exact (congrArg Prod.snd (refS_bad ((he5.cr (by omega) (u13.1 (by assumption))).R_bad (by intro h_; first | exact (mt u10.2 (by assumption)) | omega)) (by omega))).symm) | (rw [refS_ok (he5.fin (by omega))]) | (rw [refS_ok ((he5.cr (by omega) (u13.1 (by assumption))).R_end (by omega) (u10.1 (by assumption)))]))), hS.fin [1, 0] (by decide) rfl⟩
     ·have _hg40 := trivial
      have hg40p : ¬ (((e : Int) + 1) = (a0.length : Int)) := by simpa using hg40
      refine W_cons rfl (by decide) (Sv_gt rfl rfl rfl hg40 (Sv_val rfl (R_move rfl rfl) ?_))
      refine W_cons rfl (by decide) (Sv_gt rfl rfl rfl hg40 (Sv_val rfl (R_move rfl rfl) ?_))
      refine W_cons rfl (by decide) (Sv_gt rfl rfl rfl hg40 (Sv_val rfl (R_add64 rfl rfl rfl (by omega) (by omega)) ?_))
      refine W_cons rfl (by decide) (Sv_gt rfl rfl rfl hg40 (Sv_val rfl (R_stridx rfl rfl rfl Tryd.underlying9 (by omega) (by omega)) ?_))
      refine W_cons rfl (by decide) (Sv_gt rfl rfl rfl hg40 (Sv_val rfl (R_bin rfl rfl rfl rfl rfl) ?_))
      refine wv rfl rfl rfl (R_pick_f rfl rfl hg40 rfl) ?_
      refine W_nil ?_
      refine E_then (C_fr [(0, vstr a0), (4, .slice Ar35 ((recs h).1 ++ ([(recs g).2 ++ ([(fieldS a0 m).1] : List St)] : List (List St))).length cr35), (5, .int .i64 (e : Int)), (62, .bool (((a0.getD (e + 1) 0).toNat : Int) != 10))] rfl ?_)
      refine C_ite rfl (fun hC4 => ?_) (fun hC4 => ?_)
      ·have _hC4 := trivial
       have hC4p : ¬ ((a0.getD (e + 1) 0).toNat : Int) = 10 := by simpa using hC4
       refine C_seq ?_
       refine C_region ?_
       refine wv rfl rfl rfl (R_move rfl rfl) <| wv rfl rfl rfl (R_add64 rfl rfl rfl (by omega) (by omega)) <| wv rfl rfl rfl (R_assign rfl rfl) <| wv rfl rfl rfl (R_assign rfl rfl) ?_
       refine W_nil ?_
       refine E_then (C_fr [(2, .slice none 0 0), (3, .int .i64 ((e : Int) + 1))] rfl ?_)
       refine C_ret ?_
       refine E_then_ret ?_
       refine E_block_ret ?_
       refine E_then_ret ?_
       refine E_block_ret ?_
       obtain ⟨z44, hS⟩ := hS.famx
       have hS := hS.nilrow (kslice kstr) 33 z44
       have hq46 : ([] : List (List St)) = (refS a0).1 := by first | (exact (congrArg Prod.fst (refS_bad (hf1 (by omega)) (by omega))).symm) | (exact (congrArg Prod.fst (refS_bad (he5.bad (by omega) (mt u44.2 (by assumption)) (mt u13.2 (by assumption))) (by omega))).symm) | (exact (congrArg Prod.fst (refS_bad ((he5.cr (by omega) (u13.1 (by assumption))).R_bad (by intro h_; first | exact (mt u10.2 (by assumption)) | omega)) (by omega))).symm) | (rw [refS_ok (he5.fin (by omega)), recs_snoc, ← hI1_3]; rfl) | (rw [refS_ok ((he5.cr (by omega) (u13.1 (by assumption))).R_end (by omega) (u10.1 (by assumption))), recs_snoc, ← hI1_3]; rfl)
       have hS := hS.re 0 rfl hq46
       refine E_ret2 rfl rfl rfl ?_
       exact ⟨none, 0, z44, Lret2 (Lslice hq46) (Lint (show (e : Int) + 1 = (refS a0).2 by first | (exact (congrArg Prod.snd (refS_bad (hf1 (by omega)) (by omega))).symm) | (exact (congrArg Prod.snd (refS_bad (he5.bad (by omega) (mt u44.2 (by assumption)) (mt u13.2 (by assumption))) (by omega))).symm) | (exact (congrArg Prod.snd (refS_bad ((he5.cr (by omega) (u13.1 (by assumption))).R_bad (by intro h_; first | exact (mt u10.2 (by assumption)) | omega)) (by omega))).symm) | (rw [refS_ok (he5.fin (by omega))]) | (rw [refS_ok ((he5.cr (by omega) (u13.1 (by assumption))).R_end (by omega) (u10.1 (by assumption)))]))), hS.fin [1, 0] (by decide) rfl⟩
      ·have _hC4 := trivial
       have hC4p : ((a0.getD (e + 1) 0).toNat : Int) = 10 := by simpa using hC4
       refine C_skip ?_
       refine E_then ?_
       refine C_seq ?_
       refine C_region ?_
       refine wv rfl rfl rfl (R_move rfl rfl) <| wv rfl rfl rfl (R_add64 rfl rfl rfl (by omega) (by omega)) <| wv rfl rfl rfl (R_assign rfl rfl) ?_
       refine W_nil ?_
       refine E_then ?_
       refine C_seq ?_
       refine C_region ?_
       refine wv rfl rfl rfl (R_move rfl rfl) <| wv rfl rfl rfl (R_move rfl rfl) <| wv rfl rfl rfl (R_strlen rfl rfl Tryd.underlying9) <| wv rfl rfl rfl (R_bin rfl rfl rfl rfl rfl) ?_
       refine W_nil ?_
       refine E_then (C_fr [(0, vstr a0), (4, .slice Ar35 ((recs h).1 ++ ([(recs g).2 ++ ([(fieldS a0 m).1] : List St)] : List (List St))).length cr35), (5, .int .i64 ((e : Int) + 2)), (70, .bool (((e : Int) + 2) == (a0.length : Int)))] rfl ?_)
       refine C_ite rfl (fun hC5 => ?_) (fun hC5 => ?_)
       ·have _hC5 := trivial
        have hC5p : ((e : Int) + 2) = (a0.length : Int) := by simpa using hC5
        refine C_seq ?_
        refine C_region ?_
        refine wv rfl rfl rfl (R_move rfl rfl) <| wv rfl rfl rfl (R_assign rfl rfl) <| wv rfl rfl rfl (R_assign rfl rfl) ?_
        refine W_nil ?_
        refine E_then (C_fr [(2, .slice Ar35 ((recs h).1 ++ ([(recs g).2 ++ ([(fieldS a0 m).1] : List St)] : List (List St))).length cr35), (3, .int .i64 (-1))] rfl ?_)
        refine C_ret ?_
        refine E_block_ret ?_
        refine E_then_ret ?_
        refine E_block_ret ?_
        have hq47 : (recs h).1 ++ ([(recs g).2 ++ ([(fieldS a0 m).1] : List St)] : List (List St)) = (refS a0).1 := by first | (exact (congrArg Prod.fst (refS_bad (hf1 (by omega)) (by omega))).symm) | (exact (congrArg Prod.fst (refS_bad (he5.bad (by omega) (mt u44.2 (by assumption)) (mt u13.2 (by assumption))) (by omega))).symm) | (exact (congrArg Prod.fst (refS_bad ((he5.cr (by omega) (u13.1 (by assumption))).R_bad (by intro h_; first | exact (mt u10.2 (by assumption)) | omega)) (by omega))).symm) | (rw [refS_ok (he5.fin (by omega)), recs_snoc, ← hI1_3]; rfl) | (rw [refS_ok ((he5.cr (by omega) (u13.1 (by assumption))).R_end (by omega) (u10.1 (by assumption))), recs_snoc, ← hI1_3]; rfl)
        have hS := hS.re 3 rfl hq47
        refine E_ret2 rfl rfl rfl ?_
        exact ⟨Ar35, cr35, z33, Lret2 (Lslice hq47) (Lint (show (-1) = (refS a0).2 by first | (exact (congrArg Prod.snd (refS_bad (hf1 (by omega)) (by omega))).symm) | (exact (congrArg Prod.snd (refS_bad (he5.bad (by omega) (mt u44.2 (by assumption)) (mt u13.2 (by assumption))) (by omega))).symm) | (exact (congrArg Prod.snd (refS_bad ((he5.cr (by omega) (u13.1 (by assumption))).R_bad (by intro h_; first | exact (mt u10.2 (by assumption)) | omega)) (by omega))).symm) | (rw [refS_ok (he5.fin (by omega))]) | (rw [refS_ok ((he5.cr (by omega) (u13.1 (by assumption))).R_end (by omega) (u10.1 (by assumption)))]))), hS.fin [1, 3] (by decide) rfl⟩
       ·have _hC5 := trivial
        have hC5p : ¬ (((e : Int) + 2) = (a0.length : Int)) := by simpa using hC5
        refine C_skip ?_
        refine E_block_normal ?_
        have hs48 : (recs h).1 ++ ([(recs g).2 ++ ([(fieldS a0 m).1] : List St)] : List (List St)) = (recs (g ++ [((fieldS a0 m).1, true)] : Tells)).1 := by rw [recs_snoc, ← hI1_3]; rfl
        have hS := hS.re 3 rfl hs48
        refine E_round [0, 4, 5] ?_ ⟨(e + 2 : Nat), (g ++ [((fieldS a0 m).1, true)] : Tells), Ar35, cr35, z33, (by rw [← hs48] <;> rfl), (by omega), (by first | omega | (simp; done) | (simp; omega)), (by rw [recs_snoc]; rfl), (by exact (he5.cr (by omega) (u13.1 (by assumption))).R_more (by omega) (u10.1 (by assumption))), rfl, hS.fin [1, 3] (by decide) rfl⟩
        omega
   ·have _hC1 := trivial
    have hC1p : ((a0.getD e 0).toNat : Int) = 44 := by simpa using hC1
    refine C_skip ?_
    refine E_then ?_
    refine C_region ?_
    refine wv rfl rfl rfl (R_move rfl rfl) <| wv rfl rfl rfl (R_add64 rfl rfl rfl (by omega) (by omega)) <| wv rfl rfl rfl (R_assign rfl rfl) ?_
    refine W_nil ?_
    refine E_block_normal ?_
    have hs49 : (recs g).2 ++ ([(fieldS a0 m).1] : List St) = (recs (g ++ [((fieldS a0 m).1, false)] : Tells)).2 := by rw [recs_snoc]; rfl
    have hS := hS.re 3 rfl hs49
    refine E_round [0, 4, 5, 6] ?_ ⟨(e + 1 : Nat), (g ++ [((fieldS a0 m).1, false)] : Tells), Ar21, cr21, (by rw [← hs49] <;> rfl), (by omega), (by omega), (by first | omega | (simp; done) | (simp; omega)), (by rw [recs_snoc]; exact hI1_3), (by exact he5.comma (by omega) (u44.1 (by assumption))), rfl, hS.fin [1, 2, 3] (by decide) rfl⟩
    omega

set_option maxHeartbeats 1000000 in
set_option maxRecDepth 20000 in
theorem same_calls (a0 : List (List St)) (Aa0 : Option Addr) (ca0 : Nat) (a1 : List (List St)) (Aa1 : Option Addr) (ca1 : Nat) (z : Z) (w : World) (hI : In z w []) (hra0 : Rd (kslice kstr) z Aa0 a0) (hca0 : Cap Aa0 a0.length ca0) (hra1 : Rd (kslice kstr) z Aa1 a1) (hca1 : Cap Aa1 a1.length ca1)  :
    Calls Tryd.prog 16 #[.slice Aa0 a0.length ca0, .slice Aa1 a1.length ca1] w fun e w' => e = .returned (.bool (decide (a0 = a1))) ∧ Sp (FF []) w z w' [] := by
 have hla0 := hca0.le
 have hma0 := hca0.mx
 have hla1 := hca1.le
 have hma1 := hca1.mx
 have hS := hI.sp
 refine Calls_of (vs := [.slice Aa0 a0.length ca0, .slice Aa1 a1.length ca1]) (N := 53) Tryd.func16 rfl rfl (Nat.le_of_ble_eq_true rfl) ?_
 refine C_seq ?_
 refine C_region ?_
 refine wv rfl rfl rfl (R_assign rfl rfl) ?_
 refine W_nil ?_
 refine E_then ?_
 refine C_seq ?_
 refine C_seq ?_
 refine C_region ?_
 refine wv rfl rfl rfl (R_move rfl rfl) <| wv rfl rfl rfl (R_len rfl rfl Tryd.underlying25) <| wv rfl rfl rfl (R_move rfl rfl) <| wv rfl rfl rfl (R_len rfl rfl Tryd.underlying25) <| wv rfl rfl rfl (R_bin rfl rfl rfl rfl rfl) ?_
 refine W_nil ?_
 refine E_then (C_fr [(0, .slice Aa0 a0.length ca0), (1, .slice Aa1 a1.length ca1), (11, .bool ((a0.length : Int) != (a1.length : Int)))] rfl ?_)
 refine C_ite rfl (fun hC0 => ?_) (fun hC0 => ?_)
 ·have _hC0 := trivial
  have hC0p : ¬ (a0.length : Int) = (a1.length : Int) := by simpa using hC0
  refine C_seq ?_
  refine C_region ?_
  refine wv rfl rfl rfl (R_assign rfl rfl) ?_
  refine W_nil ?_
  refine E_then ?_
  refine C_ret ?_
  refine E_then_ret ?_
  refine E_ret1 rfl rfl ?_
  exact ⟨Lret1 (Lbool (show false = (decide (a0 = a1)) by first | exact (decide_eq_false (fun h_ => by subst h_; first | (exact absurd rfl (by assumption)) | omega)).symm | exact (decide_eq_true (take_all (by omega) (by omega) hI0_1)).symm)), hS.fin [] (by decide) rfl⟩
 ·have _hC0 := trivial
  have hC0p : (a0.length : Int) = (a1.length : Int) := by simpa using hC0
  refine C_skip ?_
  refine E_then ?_
  refine C_seq ?_
  refine C_seq ?_
  refine C_region ?_
  refine wv rfl rfl rfl (R_assign rfl rfl) ?_
  refine W_nil ?_
  refine E_then ?_
  refine C_block ?_
  refine C_fr [(0, .slice Aa0 a0.length ca0), (1, .slice Aa1 a1.length ca1), (5, .int .i64 0)] rfl ?_
  refine C_loop (fun m_ f_ w_ => ∃ (i : Nat), f_ = [(0, .slice Aa0 a0.length ca0), (1, .slice Aa1 a1.length ca1), (5, .int .i64 (i : Int))] ∧ i ≤ a0.length ∧ a0.take i = a1.take i ∧ m_ = a0.length - i ∧ Sp (FF []) w z w_ []) (a0.length - (0 : Nat)) ⟨(0 : Nat), rfl, (by omega), (by rfl), rfl, hS.fin [] (by decide) rfl⟩ ?_
  rintro m_ f_ w1 ⟨i, rfl, hI0_0, hI0_1, rfl, hS⟩
  refine C_seq ?_
  refine C_seq ?_
  refine C_region ?_
  refine wv rfl rfl rfl (R_move rfl rfl) <| wv rfl rfl rfl (R_move rfl rfl) <| wv rfl rfl rfl (R_len rfl rfl Tryd.underlying25) <| wv rfl rfl rfl (R_bin rfl rfl rfl rfl rfl) ?_
  refine W_nil ?_
  refine E_then ?_
  refine C_ite rfl (fun hC1 => ?_) (fun hC1 => ?_)
  ·have _hC1 := trivial
   have hC1p : (i : Int) < (a0.length : Int) := by simpa using hC1
   refine C_skip ?_
   refine E_then ?_
   refine C_seq ?_
   refine C_block ?_
   refine C_seq ?_
   refine C_seq ?_
   refine C_fr [(0, .slice Aa0 a0.length ca0), (1, .slice Aa1 a1.length ca1), (5, .int .i64 (i : Int))] rfl ?_
   obtain ⟨q4, csq4, hAq4, ⟨Aq4, cq4, rfl, hcq4, hrq4⟩, hkq4⟩ := hra0.at_ [] (i := (i : Int)) (by omega) (by omega)
   have hkq4 : ∀ (j_ : Nat) (u_ : Value), ([.slice Aq4 (a0.getD i []).length cq4] : List Value)[j_]? = some u_ → cz z (q4.add (i * 1 + j_)) = some u_ := hkq4
   have hrq4 : Rd kstr z Aq4 ((a0.getD i [])) := hrq4
   have hcq4 : Cap Aq4 ((a0.getD i [])).length cq4 := hcq4
   have hlq4 := hcq4.le
   have hmq4 := hcq4.mx
   obtain ⟨q5, csq5, hAq5, ⟨Aq5, cq5, rfl, hcq5, hrq5⟩, hkq5⟩ := hra1.at_ [] (i := (i : Int)) (by omega) (by omega)
   have hkq5 : ∀ (j_ : Nat) (u_ : Value), ([.slice Aq5 (a1.getD i []).length cq5] : List Value)[j_]? = some u_ → cz z (q5.add (i * 1 + j_)) = some u_ := hkq5
   have hrq5 : Rd kstr z Aq5 ((a1.getD i [])) := hrq5
   have hcq5 : Cap Aq5 ((a1.getD i [])).length cq5 := hcq5
   have hlq5 := hcq5.le
   have hmq5 := hcq5.mx
   refine C_drawn 11 [[], [], [0, 1], [2], [3], [], [], [5, 6], [7], [8], [4, 9]] [18, 19, 20, 21, 22, 23, 24, 25, 26, 27, 28] [0, 1, 5] rfl (by kernel_rfl) (by decide +kernel) [fun v_ _ => v_ = .slice Aa0 a0.length ca0, fun v_ _ => v_ = .int .i64 (i : Int), fun v_ _ => v_ = .pointer (some (q4.add (i * 1))), fun v_ _ => v_ = .slice Aq4 (a0.getD i []).length cq4, fun v_ _ => v_ = .int .i64 ((a0.getD i []).length : Int), fun v_ _ => v_ = .slice Aa1 a1.length ca1, fun v_ _ => v_ = .int .i64 (i : Int), fun v_ _ => v_ = .pointer (some (q5.add (i * 1))), fun v_ _ => v_ = .slice Aq5 (a1.getD i []).length cq5, fun v_ _ => v_ = .int .i64 ((a1.getD i []).length : Int), fun v_ _ => v_ = .bool (((a0.getD i []).length : Int) != ((a1.getD i []).length : Int))] ⟨fun _ _ _ h _ => h, ⟨fun _ _ _ h _ => h, ⟨fun _ _ _ h _ => h, ⟨fun _ _ _ h _ => h, ⟨fun _ _ _ h _ => h, ⟨fun _ _ _ h _ => h, ⟨fun _ _ _ h _ => h, ⟨fun _ _ _ h _ => h, ⟨fun _ _ _ h _ => h, ⟨fun _ _ _ h _ => h, ⟨fun _ _ _ h _ => h, trivial⟩⟩⟩⟩⟩⟩⟩⟩⟩⟩⟩ ⟨fun w2 hc3 => by have hS := hS.chg0 hc3; exact Sv_val rfl (R_move rfl rfl) ⟨Chg.refl _ _, rfl⟩, ⟨fun w2 hc3 => by have hS := hS.chg0 hc3; exact Sv_val rfl (R_move rfl rfl) ⟨Chg.refl _ _, rfl⟩, ⟨fun w2 hc3 => by have hS := hS.chg0 hc3; rintro _ rfl _ rfl; exact Sv_val rfl (R_idx rfl rfl hAq4 rfl Tryd.underlying25 size33 (by omega) (by omega)) ⟨Chg.refl _ _, rfl⟩, ⟨fun w2 hc3 => by have hS := hS.chg0 hc3; rintro _ rfl; exact Sv_val rfl (R_load1 rfl rfl agg33 (hS.sub.cell (hkq4 0 _ rfl))) ⟨Chg.refl _ _, rfl⟩, ⟨fun w2 hc3 => by have hS := hS.chg0 hc3; rintro _ rfl; exact Sv_val rfl (R_len rfl rfl Tryd.underlying33) ⟨Chg.refl _ _, rfl⟩, ⟨fun w2 hc3 => by have hS := hS.chg0 hc3; exact Sv_val rfl (R_move rfl rfl) ⟨Chg.refl _ _, rfl⟩, ⟨fun w2 hc3 => by have hS := hS.chg0 hc3; exact Sv_val rfl (R_move rfl rfl) ⟨Chg.refl _ _, rfl⟩, ⟨fun w2 hc3 => by have hS := hS.chg0 hc3; rintro _ rfl _ rfl; exact Sv_val rfl (R_idx rfl rfl hAq5 rfl Tryd.underlying25 size33 (by omega) (by omega)) ⟨Chg.refl _ _, rfl⟩, ⟨fun w2 hc3 => by have hS := hS.chg0 hc3; rintro _ rfl; exact Sv_val rfl (R_load1 rfl rfl agg33 (hS.sub.cell (hkq5 0 _ rfl))) ⟨Chg.refl _ _, rfl⟩, ⟨fun w2 hc3 => by have hS := hS.chg0 hc3; rintro _ rfl; exact Sv_val rfl (R_len rfl rfl Tryd.underlying33) ⟨Chg.refl _ _, rfl⟩, ⟨fun w2 hc3 => by have hS := hS.chg0 hc3; rintro _ rfl _ rfl; exact Sv_val rfl (R_bin rfl rfl rfl rfl rfl) ⟨Chg.refl _ _, rfl⟩, trivial⟩⟩⟩⟩⟩⟩⟩⟩⟩⟩⟩ ?_
   intro w2 hc3
   have hS := hS.chg0 hc3
   rintro _ rfl _ rfl _ rfl _ rfl _ rfl _ rfl _ rfl _ rfl _ rfl _ rfl _ rfl
   refine An_fr [(0, .slice Aa0 a0.length ca0), (1, .slice Aa1 a1.length ca1), (5, .int .i64 (i : Int)), (28, .bool (((a0.getD i []).length : Int) != ((a1.getD i []).length : Int)))] rfl ?_
   refine An_done (by decide +kernel) ?_
   refine E_then ?_
   refine C_ite rfl (fun hC2 => ?_) (fun hC2 => ?_)
   ·have _hC2 := trivial
    have hC2p : ¬ ((a0.getD i []).length : Int) = ((a1.getD i []).length : Int) := by simpa using hC2
    refine C_seq ?_
    refine C_region ?_
    refine wv rfl rfl rfl (R_assign rfl rfl) ?_
    refine W_nil ?_
    refine E_then ?_
    refine C_ret ?_
    refine E_then_ret ?_
    refine E_block_ret ?_
    refine E_then_ret ?_
    refine E_then_ret ?_
    refine E_block_ret ?_
    refine E_then_ret ?_
    refine E_ret1 rfl rfl ?_
    exact ⟨Lret1 (Lbool (show false = (decide (a0 = a1)) by first | exact (decide_eq_false (fun h_ => by subst h_; first | (exact absurd rfl (by assumption)) | omega)).symm | exact (decide_eq_true (take_all (by omega) (by omega) hI0_1)).symm)), hS.fin [] (by decide) rfl⟩
   ·have _hC2 := trivial
    have hC2p : ((a0.getD i []).length : Int) = ((a1.getD i []).length : Int) := by simpa using hC2
    refine C_skip ?_
    refine E_then ?_
    refine C_seq ?_
    refine C_region ?_
    refine wv rfl rfl rfl (R_assign rfl rfl) ?_
    refine W_nil ?_
    refine E_then ?_
    refine C_block ?_
    refine C_fr [(0, .slice Aa0 a0.length ca0), (1, .slice Aa1 a1.length ca1), (5, .int .i64 (i : Int)), (6, .int .i64 0)] rfl ?_
    refine C_loop (fun m_ f_ w_ => ∃ (k : Nat), f_ = [(0, .slice Aa0 a0.length ca0), (1, .slice Aa1 a1.length ca1), (5, .int .i64 (i : Int)), (6, .int .i64 (k : Int))] ∧ k ≤ (a0.getD i []).length ∧ (a0.getD i []).take k = (a1.getD i []).take k ∧ m_ = (a0.getD i []).length - k ∧ Sp (FF []) w z w_ []) ((a0.getD i []).length - (0 : Nat)) ⟨(0 : Nat), rfl, (by omega), (by rfl), rfl, hS.fin [] (by decide) rfl⟩ ?_
    rintro m_ f_ w6 ⟨k, rfl, hI1_0, hI1_1, rfl, hS⟩
    refine C_seq ?_
    refine C_seq ?_
    refine C_region ?_
    refine wv rfl rfl rfl (R_move rfl rfl) <| wv rfl rfl rfl (R_move rfl rfl) <| wv rfl rfl rfl (R_move rfl rfl) ?_
    obtain ⟨q7, csq7, hAq7, ⟨Aq7, cq7, rfl, hcq7, hrq7⟩, hkq7⟩ := hra0.at_ [] (i := (i : Int)) (by omega) (by omega)
    have hkq7 : ∀ (j_ : Nat) (u_ : Value), ([.slice Aq7 (a0.getD i []).length cq7] : List Value)[j_]? = some u_ → cz z (q7.add (i * 1 + j_)) = some u_ := hkq7
    have hrq7 : Rd kstr z Aq7 ((a0.getD i [])) := hrq7
    have hcq7 : Cap Aq7 ((a0.getD i [])).length cq7 := hcq7
    have hlq7 := hcq7.le
    have hmq7 := hcq7.mx
    refine wv rfl rfl rfl (R_idx rfl rfl hAq7 rfl Tryd.underlying25 size33 (by omega) (by omega)) <| wv rfl rfl rfl (R_load1 rfl rfl agg33 (hS.sub.cell (hkq7 0 _ rfl))) <| wv rfl rfl rfl (R_len rfl rfl Tryd.underlying33) <| wv rfl rfl rfl (R_bin rfl rfl rfl rfl rfl) ?_
    refine W_nil ?_
    refine E_then (C_fr [(0, .slice Aa0 a0.length ca0), (1, .slice Aa1 a1.length ca1), (5, .int .i64 (i : Int)), (6, .int .i64 (k : Int)), (35, .bool (decide ((k : Int) < ((a0.getD i []).length : Int))))] rfl ?_)
    refine C_ite rfl (fun hC3 => ?_) (fun hC3 => ?_)
    ·have _hC3 := trivial
     have hC3p : (k : Int) < ((a0.getD i []).length : Int) := by simpa using hC3
     refine C_skip ?_
     refine E_then ?_
     refine C_seq ?_
     refine C_block ?_
     refine C_seq ?_
     refine C_fr [(0, .slice Aa0 a0.length ca0), (1, .slice Aa1 a1.length ca1), (5, .int .i64 (i : Int)), (6, .int .i64 (k : Int))] rfl ?_
     obtain ⟨q10, csq10, hAq10, ⟨Aq10, cq10, rfl, hcq10, hrq10⟩, hkq10⟩ := hra0.at_ [] (i := (i : Int)) (by omega) (by omega)
     have hkq10 : ∀ (j_ : Nat) (u_ : Value), ([.slice Aq10 (a0.getD i []).length cq10] : List Value)[j_]? = some u_ → cz z (q10.add (i * 1 + j_)) = some u_ := hkq10
     have hrq10 : Rd kstr z Aq10 ((a0.getD i [])) := hrq10
     have hcq10 : Cap Aq10 ((a0.getD i [])).length cq10 := hcq10
     have hlq10 := hcq10.le
     have hmq10 := hcq10.mx
     obtain ⟨q11, csq11, hAq11, rfl, hkq11⟩ := hrq10.at_ ([] : St) (i := (k : Int)) (by omega) (by omega)
     have hkq11 : ∀ (j_ : Nat) (u_ : Value), ([vstr ((a0.getD i []).getD k ([] : St))] : List Value)[j_]? = some u_ → cz z (q11.add (k * 1 + j_)) = some u_ := hkq11
     obtain ⟨q12, csq12, hAq12, ⟨Aq12, cq12, rfl, hcq12, hrq12⟩, hkq12⟩ := hra1.at_ [] (i := (i : Int)) (by omega) (by omega)
     have hkq12 : ∀ (j_ : Nat) (u_ : Value), ([.slice Aq12 (a1.getD i []).length cq12] : List Value)[j_]? = some u_ → cz z (q12.add (i * 1 + j_)) = some u_ := hkq12
     have hrq12 : Rd kstr z Aq12 ((a1.getD i [])) := hrq12
     have hcq12 : Cap Aq12 ((a1.getD i [])).length cq12 := hcq12
     have hlq12 := hcq12.le
     have hmq12 := hcq12.mx
     obtain ⟨q13, csq13, hAq13, rfl, hkq13⟩ := hrq12.at_ ([] : St) (i := (k : Int)) (by omega) (by omega)
     have hkq13 : ∀ (j_ : Nat) (u_ : Value), ([vstr ((a1.getD i []).getD k ([] : St))] : List Value)[j_]? = some u_ → cz z (q13.add (k * 1 + j_)) = some u_ := hkq13
     refine C_drawn 15 [[], [], [0, 1], [2], [], [3, 4], [5], [], [], [7, 8], [9], [], [10, 11], [12], [6, 13]] [38, 39, 40, 41, 42, 43, 44, 45, 46, 47, 48, 49, 50, 51, 52] [0, 1, 5, 6] rfl (by kernel_rfl) (by decide +kernel) [fun v_ _ => v_ = .slice Aa0 a0.length ca0, fun v_ _ => v_ = .int .i64 (i : Int), fun v_ _ => v_ = .pointer (some (q10.add (i * 1))), fun v_ _ => v_ = .slice Aq10 (a0.getD i []).length cq10, fun v_ _ => v_ = .int .i64 (k : Int), fun v_ _ => v_ = .pointer (some (q11.add (k * 1))), fun v_ _ => v_ = vstr ((a0.getD i []).getD k ([] : St)), fun v_ _ => v_ = .slice Aa1 a1.length ca1, fun v_ _ => v_ = .int .i64 (i : Int), fun v_ _ => v_ = .pointer (some (q12.add (i * 1))), fun v_ _ => v_ = .slice Aq12 (a1.getD i []).length cq12, fun v_ _ => v_ = .int .i64 (k : Int), fun v_ _ => v_ = .pointer (some (q13.add (k * 1))), fun v_ _ => v_ = vstr ((a1.getD i []).getD k ([] : St)), fun v_ _ => v_ = .bool (!decide (((a0.getD i []).getD k ([] : St)) = ((a1.getD i []).getD k ([] : St))))] ⟨fun _ _ _ h _ => h, ⟨fun _ _ _ h _ => h, ⟨fun _ _ _ h _ => h, ⟨fun _ _ _ h _ => h, ⟨fun _ _ _ h _ => h, ⟨fun _ _ _ h _ => h, ⟨fun _ _ _ h _ => h, ⟨fun _ _ _ h _ => h, ⟨fun _ _ _ h _ => h, ⟨fun _ _ _ h _ => h, ⟨fun _ _ _ h _ => h, ⟨fun _ _ _ h _ => h, ⟨fun _ _ _ h _ => h, ⟨fun _ _ _ h _ => h, ⟨fun _ _ _ h _ => h, trivial⟩⟩⟩⟩⟩⟩⟩⟩⟩⟩⟩⟩⟩⟩⟩ ⟨fun w8 hc9 => by have hS := hS.chg0 hc9; exact Sv_val rfl (R_move rfl rfl) ⟨Chg.refl _ _, rfl⟩, ⟨fun w8 hc9 => by have hS := hS.chg0 hc9; exact Sv_val rfl (R_move rfl rfl) ⟨Chg.refl _ _, rfl⟩, ⟨fun w8 hc9 => by have hS := hS.chg0 hc9; rintro _ rfl _ rfl; exact Sv_val rfl (R_idx rfl rfl hAq10 rfl Tryd.underlying25 size33 (by omega) (by omega)) ⟨Chg.refl _ _, rfl⟩, ⟨fun w8 hc9 => by have hS := hS.chg0 hc9; rintro _ rfl; exact Sv_val rfl (R_load1 rfl rfl agg33 (hS.sub.cell (hkq10 0 _ rfl))) ⟨Chg.refl _ _, rfl⟩, ⟨fun w8 hc9 => by have hS := hS.chg0 hc9; exact Sv_val rfl (R_move rfl rfl) ⟨Chg.refl _ _, rfl⟩, ⟨fun w8 hc9 => by have hS := hS.chg0 hc9; rintro _ rfl _ rfl; exact Sv_val rfl (R_idx rfl rfl hAq11 rfl Tryd.underlying33 size9 (by omega) (by omega)) ⟨Chg.refl _ _, rfl⟩, ⟨fun w8 hc9 => by have hS := hS.chg0 hc9; rintro _ rfl; exact Sv_val rfl (R_load1 rfl rfl agg9 (hS.sub.cell (hkq11 0 _ rfl))) ⟨Chg.refl _ _, rfl⟩, ⟨fun w8 hc9 => by have hS := hS.chg0 hc9; exact Sv_val rfl (R_move rfl rfl) ⟨Chg.refl _ _, rfl⟩, ⟨fun w8 hc9 => by have hS := hS.chg0 hc9; exact Sv_val rfl (R_move rfl rfl) ⟨Chg.refl _ _, rfl⟩, ⟨fun w8 hc9 => by have hS := hS.chg0 hc9; rintro _ rfl _ rfl; exact Sv_val rfl (R_idx rfl rfl hAq12 rfl Tryd.underlying25 size33 (by omega) (by omega)) ⟨Chg.refl _ _, rfl⟩, ⟨fun w8 hc9 => by have hS := hS.chg0 hc9; rintro _ rfl; exact Sv_val rfl (R_load1 rfl rfl agg33 (hS.sub.cell (hkq12 0 _ rfl))) ⟨Chg.refl _ _, rfl⟩, ⟨fun w8 hc9 => by have hS := hS.chg0 hc9; exact Sv_val rfl (R_move rfl rfl) ⟨Chg.refl _ _, rfl⟩, ⟨fun w8 hc9 => by have hS := hS.chg0 hc9; rintro _ rfl _ rfl; exact Sv_val rfl (R_idx rfl rfl hAq13 rfl Tryd.underlying33 size9 (by omega) (by omega)) ⟨Chg.refl _ _, rfl⟩, ⟨fun w8 hc9 => by have hS := hS.chg0 hc9; rintro _ rfl; exact Sv_val rfl (R_load1 rfl rfl agg9 (hS.sub.cell (hkq13 0 _ rfl))) ⟨Chg.refl _ _, rfl⟩, ⟨fun w8 hc9 => by have hS := hS.chg0 hc9; rintro _ rfl _ rfl; exact Sv_val rfl (R_strneq rfl rfl rfl) ⟨Chg.refl _ _, rfl⟩, trivial⟩⟩⟩⟩⟩⟩⟩⟩⟩⟩⟩⟩⟩⟩⟩ ?_
     intro w8 hc9
     have hS := hS.chg0 hc9
     rintro _ rfl _ rfl _ rfl _ rfl _ rfl _ rfl _ rfl _ rfl _ rfl _ rfl _ rfl _ rfl _ rfl _ rfl _ rfl
     refine An_fr [(0, .slice Aa0 a0.length ca0), (1, .slice Aa1 a1.length ca1), (5, .int .i64 (i : Int)), (6, .int .i64 (k : Int)), (52, .bool (!decide (((a0.getD i []).getD k ([] : St)) = ((a1.getD i []).getD k ([] : St)))))] rfl ?_
     refine An_done (by decide +kernel) ?_
     refine E_then ?_
     refine C_ite rfl (fun hC4 => ?_) (fun hC4 => ?_)
     ·have _hC4 := trivial
      have hC4p : ¬ ((a0.getD i []).getD k ([] : St)) = ((a1.getD i []).getD k ([] : St)) := by simpa using hC4
      refine C_seq ?_
      refine C_region ?_
      refine wv rfl rfl rfl (R_assign rfl rfl) ?_
      refine W_nil ?_
      refine E_then (C_fr [(4, .bool false)] rfl ?_)
      refine C_ret ?_
      refine E_block_ret ?_
      refine E_then_ret ?_
      refine E_then_ret ?_
      refine E_block_ret ?_
      refine E_block_ret ?_
      refine E_then_ret ?_
      refine E_then_ret ?_
      refine E_block_ret ?_
      refine E_then_ret ?_
      refine E_ret1 rfl rfl ?_
      exact ⟨Lret1 (Lbool (show false = (decide (a0 = a1)) by first | exact (decide_eq_false (fun h_ => by subst h_; first | (exact absurd rfl (by assumption)) | omega)).symm | exact (decide_eq_true (take_all (by omega) (by omega) hI0_1)).symm)), hS.fin [] (by decide) rfl⟩
     ·have _hC4 := trivial
      have hC4p : ((a0.getD i []).getD k ([] : St)) = ((a1.getD i []).getD k ([] : St)) := by simpa using hC4
      refine C_skip ?_
      refine E_block_normal ?_
      refine E_then ?_
      refine C_region ?_
      refine wv rfl rfl rfl (R_move rfl rfl) <| wv rfl rfl rfl (R_add64 rfl rfl rfl (by omega) (by omega)) <| wv rfl rfl rfl (R_assign rfl rfl) ?_
      refine W_nil ?_
      refine E_round [0, 1, 5, 6] ?_ ⟨(k + 1 : Nat), rfl, (by omega), (by exact take_more (by omega) (by omega) hI1_1 (by assumption)), rfl, hS.fin [] (by decide) rfl⟩
      omega
    ·have _hC3 := trivial
     have hC3p : ¬ ((k : Int) < ((a0.getD i []).length : Int)) := by simpa using hC3
     refine C_exit ?_
     refine E_then_exit ?_
     refine E_then_exit ?_
     refine E_block_hit ?_
     refine E_block_normal ?_
     refine E_then ?_
     refine C_region ?_
     refine wv rfl rfl rfl (R_move rfl rfl) <| wv rfl rfl rfl (R_add64 rfl rfl rfl (by omega) (by omega)) <| wv rfl rfl rfl (R_assign rfl rfl) ?_
     refine W_nil ?_
     refine E_round [0, 1, 5] ?_ ⟨(i + 1 : Nat), rfl, (by omega), (by exact take_more (by omega) (by omega) hI0_1 (take_all (by omega) (by omega) hI1_1)), rfl, hS.fin [] (by decide) rfl⟩
     omega
  ·have _hC1 := trivial
   have hC1p : ¬ ((i : Int) < (a0.length : Int)) := by simpa using hC1
   refine C_exit ?_
   refine E_then_exit ?_
   refine E_then_exit ?_
   refine E_block_hit ?_
   refine E_then (C_fr [] rfl ?_)
   refine C_seq ?_
   refine C_region ?_
   refine wv rfl rfl rfl (R_assign rfl rfl) ?_
   refine W_nil ?_
   refine E_then ?_
   refine C_ret ?_
   refine E_ret1 rfl rfl ?_
   exact ⟨Lret1 (Lbool (show true = (decide (a0 = a1)) by first | exact (decide_eq_false (fun h_ => by subst h_; first | (exact absurd rfl (by assumption)) | omega)).symm | exact (decide_eq_true (take_all (by omega) (by omega) hI0_1)).symm)), hS.fin [] (by decide) rfl⟩

end Go.Proofs.YtcjaplaifmhajaaDoorG
