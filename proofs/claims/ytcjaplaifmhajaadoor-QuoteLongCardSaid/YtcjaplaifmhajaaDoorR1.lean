/- Walks, each function once: what it computes. -/
import Derived.Test.YtcjaplaifmhajaaDoorR0
set_option linter.all false
namespace Go.Proofs.YtcjaplaifmhajaaDoorG
open Go Go.RowKit
set_option maxHeartbeats 400000 in
set_option maxRecDepth 20000 in
theorem rqfield_calls (a0 : St) (z : Z) (w : World) (hI : In z w [])  (p0 : a0.length ≤ 1000000000) :
    Calls Tryd.prog 11 #[vstr a0] w fun e w' => e = .returned (vstr (fldQ a0)) ∧ Sp (FF []) w z w' [] := by
 have hS := hI.sp
 refine Calls_of (vs := [vstr a0]) (N := 48) Tryd.func11 rfl rfl (Nat.le_of_ble_eq_true rfl) ?_
 refine C_seq ?_
 refine C_region ?_
 refine wv rfl rfl rfl (R_assign rfl rfl) ?_
 refine W_nil ?_
 refine E_then ?_
 refine C_seq ?_
 refine C_region ?_
 refine wv rfl rfl rfl (R_assign rfl rfl) ?_
 refine W_nil ?_
 refine E_then ?_
 refine C_seq ?_
 refine C_region ?_
 refine wv rfl rfl rfl (R_assign rfl rfl) ?_
 refine W_nil ?_
 refine E_then ?_
 refine C_seq ?_
 refine C_seq ?_
 refine C_region ?_
 refine wv rfl rfl rfl (R_assign rfl rfl) ?_
 refine W_nil ?_
 refine E_then ?_
 refine C_block ?_
 have hs2 : false = needS (a0.take (0 : Nat)) := by rfl
 have hs3 : [34] = [34] ++ dupS (a0.take (0 : Nat)) := by rfl
 refine C_fr [(0, vstr a0), (3, .bool false), (4, vstr [34]), (5, .int .i64 0)] rfl ?_
 refine C_loop (fun m_ f_ w_ => ∃ (n : Nat), f_ = [(0, vstr a0), (3, .bool (needS (a0.take n))), (4, vstr ([34] ++ dupS (a0.take n))), (5, .int .i64 (n : Int))] ∧ n ≤ a0.length ∧ m_ = a0.length - n ∧ Sp (FF []) w z w_ []) (a0.length - (0 : Nat)) ⟨(0 : Nat), (by rw [← hs2, ← hs3] <;> rfl), (by omega), rfl, hS.fin [] (by decide) rfl⟩ ?_
 rintro m_ f_ w1 ⟨n, rfl, hI0_0, rfl, hS⟩
 refine C_seq ?_
 refine C_seq ?_
 refine C_region ?_
 refine wv rfl rfl rfl (R_move rfl rfl) <| wv rfl rfl rfl (R_move rfl rfl) <| wv rfl rfl rfl (R_strlen rfl rfl Tryd.underlying9) <| wv rfl rfl rfl (R_bin rfl rfl rfl rfl rfl) ?_
 refine W_nil ?_
 refine E_then ?_
 refine C_ite rfl (fun hC0 => ?_) (fun hC0 => ?_)
 ·have _hC0 := trivial
  have hC0p : (n : Int) < (a0.length : Int) := by simpa using hC0
  refine C_skip ?_
  refine E_then ?_
  refine C_seq ?_
  refine C_block ?_
  refine C_seq ?_
  refine C_region ?_
  refine wv rfl rfl rfl (R_move rfl rfl) <| wv rfl rfl rfl (R_move rfl rfl) <| wv rfl rfl rfl (R_stridx rfl rfl rfl Tryd.underlying9 (by omega) (by omega)) <| wv rfl rfl rfl (R_assign rfl rfl) ?_
  refine W_nil ?_
  refine E_then (C_fr [(0, vstr a0), (3, .bool (needS (a0.take n))), (4, vstr ([34] ++ dupS (a0.take n))), (5, .int .i64 (n : Int)), (6, .int .u8 ((a0.getD n 0).toNat : Int))] rfl ?_)
  refine C_seq ?_
  refine C_region ?_
  refine wv rfl rfl rfl (R_move rfl rfl) <| wv rfl rfl rfl (R_move rfl rfl) <| wg rfl rfl (Gd.no rfl rfl rfl) (fun hB => R_move rfl rfl) <| wg rfl rfl (Gd.no rfl rfl rfl) (fun hB => Runs.at_ (i := 18) (gl rfl hB) (R_bin rfl rfl rfl rfl rfl)) <| wv rfl rfl rfl (R_pick_or rfl rfl rfl rfl) <| wv rfl rfl rfl (R_move rfl rfl) <| wg rfl rfl (Gd.no rfl rfl rfl) (fun hB => R_move rfl rfl) <| wg rfl rfl (Gd.no rfl rfl rfl) (fun hB => Runs.at_ (i := 22) (gl rfl hB) (R_bin rfl rfl rfl rfl rfl)) <| wv rfl rfl rfl (R_pick_or rfl rfl rfl rfl) <| wv rfl rfl rfl (R_move rfl rfl) <| wg rfl rfl (Gd.no rfl rfl rfl) (fun hB => R_move rfl rfl) <| wg rfl rfl (Gd.no rfl rfl rfl) (fun hB => Runs.at_ (i := 26) (gl rfl hB) (R_bin rfl rfl rfl rfl rfl)) <| wv rfl rfl rfl (R_pick_or rfl rfl rfl rfl) <| wv rfl rfl rfl (R_move rfl rfl) <| wg rfl rfl (Gd.no rfl rfl rfl) (fun hB => R_move rfl rfl) <| wg rfl rfl (Gd.no rfl rfl rfl) (fun hB => Runs.at_ (i := 30) (gl rfl hB) (R_bin rfl rfl rfl rfl rfl)) <| wv rfl rfl rfl (R_pick_or rfl rfl rfl rfl) <| wv rfl rfl rfl (R_assign rfl rfl) ?_
  refine W_nil ?_
  refine E_then (C_fr [(0, vstr a0), (3, .bool (((((needS (a0.take n)) || (((a0.getD n 0).toNat : Int) == 34)) || (((a0.getD n 0).toNat : Int) == 44)) || (((a0.getD n 0).toNat : Int) == 13)) || (((a0.getD n 0).toNat : Int) == 10))), (4, vstr ([34] ++ dupS (a0.take n))), (5, .int .i64 (n : Int)), (6, .int .u8 ((a0.getD n 0).toNat : Int))] rfl ?_)
  refine C_seq ?_
  have hdl := dup_take (s := a0) n
  refine C_region ?_
  refine wv rfl rfl rfl (R_move rfl rfl) <| wv rfl rfl rfl (R_move rfl rfl) <| wv rfl rfl rfl (R_move rfl rfl) <| wv rfl rfl rfl (R_move rfl rfl) <| wv rfl rfl rfl (R_add64 rfl rfl rfl (by omega) (by omega)) <| wv rfl rfl rfl (R_strslice rfl rfl rfl rfl Tryd.underlying9 (by omega) (by omega) (by omega)) <| wv rfl rfl rfl (R_stradd rfl rfl rfl (by simp only [List.length_append, List.length_take, List.length_drop, List.length_cons, List.length_nil]; omega)) <| wv rfl rfl rfl (R_assign rfl rfl) ?_
  refine W_nil ?_
  refine E_then (C_fr [(0, vstr a0), (3, .bool (((((needS (a0.take n)) || (((a0.getD n 0).toNat : Int) == 34)) || (((a0.getD n 0).toNat : Int) == 44)) || (((a0.getD n 0).toNat : Int) == 13)) || (((a0.getD n 0).toNat : Int) == 10))), (4, vstr (([34] ++ dupS (a0.take n)) ++ ((a0.drop n).take ((n + 1) - n)))), (5, .int .i64 (n : Int)), (6, .int .u8 ((a0.getD n 0).toNat : Int))] rfl ?_)
  refine C_seq ?_
  refine C_region ?_
  refine wv rfl rfl rfl (R_move rfl rfl) <| wv rfl rfl rfl (R_bin rfl rfl rfl rfl rfl) ?_
  refine W_nil ?_
  refine E_then ?_
  refine C_ite rfl (fun hC1 => ?_) (fun hC1 => ?_)
  ·have _hC1 := trivial
   have hC1p : ((a0.getD n 0).toNat : Int) = 34 := by simpa using hC1
   have hdl2 := congrArg List.length (drop_one (s := a0) (n := n) (by omega))
   refine C_region ?_
   refine wv rfl rfl rfl (R_move rfl rfl) <| wv rfl rfl rfl (R_stradd rfl rfl rfl (by simp only [List.length_append, List.length_take, List.length_drop, List.length_cons, List.length_nil]; omega)) <| wv rfl rfl rfl (R_assign rfl rfl) ?_
   refine W_nil ?_
   refine E_block_normal ?_
   refine E_then (C_fr [(0, vstr a0), (3, .bool (((((needS (a0.take n)) || (((a0.getD n 0).toNat : Int) == 34)) || (((a0.getD n 0).toNat : Int) == 44)) || (((a0.getD n 0).toNat : Int) == 13)) || (((a0.getD n 0).toNat : Int) == 10))), (4, vstr ((([34] ++ dupS (a0.take n)) ++ ((a0.drop n).take ((n + 1) - n))) ++ [34])), (5, .int .i64 (n : Int))] rfl ?_)
   refine C_region ?_
   refine wv rfl rfl rfl (R_move rfl rfl) <| wv rfl rfl rfl (R_add64 rfl rfl rfl (by omega) (by omega)) <| wv rfl rfl rfl (R_assign rfl rfl) ?_
   refine W_nil ?_
   have hs4 : (((((needS (a0.take n)) || (((a0.getD n 0).toNat : Int) == 34)) || (((a0.getD n 0).toNat : Int) == 44)) || (((a0.getD n 0).toNat : Int) == 13)) || (((a0.getD n 0).toNat : Int) == 10)) = needS (a0.take (n + 1 : Nat)) := by exact need_next (by omega)
   have hs5 : (([34] ++ dupS (a0.take n)) ++ ((a0.drop n).take ((n + 1) - n))) ++ [34] = [34] ++ dupS (a0.take (n + 1 : Nat)) := by first | exact dup_34 (by omega) (by assumption) | exact dup_no (by omega) (by assumption)
   refine E_round [0, 3, 4, 5] ?_ ⟨(n + 1 : Nat), (by rw [← hs4, ← hs5] <;> rfl), (by omega), rfl, hS.fin [] (by decide) rfl⟩
   omega
  ·have _hC1 := trivial
   have hC1p : ¬ (((a0.getD n 0).toNat : Int) = 34) := by simpa using hC1
   refine C_skip ?_
   refine E_block_normal ?_
   refine E_then ?_
   refine C_region ?_
   refine wv rfl rfl rfl (R_move rfl rfl) <| wv rfl rfl rfl (R_add64 rfl rfl rfl (by omega) (by omega)) <| wv rfl rfl rfl (R_assign rfl rfl) ?_
   refine W_nil ?_
   have hs6 : (((((needS (a0.take n)) || (((a0.getD n 0).toNat : Int) == 34)) || (((a0.getD n 0).toNat : Int) == 44)) || (((a0.getD n 0).toNat : Int) == 13)) || (((a0.getD n 0).toNat : Int) == 10)) = needS (a0.take (n + 1 : Nat)) := by exact need_next (by omega)
   have hs7 : ([34] ++ dupS (a0.take n)) ++ ((a0.drop n).take ((n + 1) - n)) = [34] ++ dupS (a0.take (n + 1 : Nat)) := by first | exact dup_34 (by omega) (by assumption) | exact dup_no (by omega) (by assumption)
   refine E_round [0, 3, 4, 5] ?_ ⟨(n + 1 : Nat), (by rw [← hs6, ← hs7] <;> rfl), (by omega), rfl, hS.fin [] (by decide) rfl⟩
   omega
 ·have _hC0 := trivial
  have hC0p : ¬ ((n : Int) < (a0.length : Int)) := by simpa using hC0
  refine C_exit ?_
  refine E_then_exit ?_
  refine E_then_exit ?_
  refine E_block_hit ?_
  refine E_then (C_fr [(0, vstr a0), (3, .bool (needS (a0.take n))), (4, vstr ([34] ++ dupS (a0.take n)))] rfl ?_)
  refine C_seq ?_
  refine C_seq ?_
  refine C_region ?_
  refine wv rfl rfl rfl (R_move rfl rfl) ?_
  refine W_nil ?_
  refine E_then ?_
  refine C_ite rfl (fun hC2 => ?_) (fun hC2 => ?_)
  ·have _hC2 := trivial
   refine C_seq ?_
   have hdl3 := dup_take (s := a0) n
   refine C_region ?_
   refine wv rfl rfl rfl (R_move rfl rfl) <| wv rfl rfl rfl (R_stradd rfl rfl rfl (by simp only [List.length_append, List.length_take, List.length_drop, List.length_cons, List.length_nil]; omega)) <| wv rfl rfl rfl (R_assign rfl rfl) ?_
   refine W_nil ?_
   refine E_then (C_fr [(2, vstr (([34] ++ dupS (a0.take n)) ++ [34]))] rfl ?_)
   refine C_ret ?_
   refine E_then_ret ?_
   refine E_ret1 rfl rfl ?_
   exact ⟨Lret1 (Lstr (show ([34] ++ dupS (a0.take n)) ++ [34] = fldQ a0 by first | (simp_all [fldQ, List.take_of_length_le]; done) | (have hn_ : n = a0.length := by omega; subst hn_; simp_all [fldQ]; done))), hS.fin [] (by decide) rfl⟩
  ·have _hC2 := trivial
   refine C_skip ?_
   refine E_then ?_
   refine C_seq ?_
   refine C_region ?_
   refine wv rfl rfl rfl (R_move rfl rfl) <| wv rfl rfl rfl (R_assign rfl rfl) ?_
   refine W_nil ?_
   refine E_then (C_fr [(2, vstr a0)] rfl ?_)
   refine C_ret ?_
   refine E_ret1 rfl rfl ?_
   exact ⟨Lret1 (Lstr (show a0 = fldQ a0 by first | (simp_all [fldQ, List.take_of_length_le]; done) | (have hn_ : n = a0.length := by omega; subst hn_; simp_all [fldQ]; done))), hS.fin [] (by decide) rfl⟩

set_option maxHeartbeats 1000000 in
set_option maxRecDepth 20000 in
theorem rqprint_calls (a0 : List (List St)) (Aa0 : Option Addr) (ca0 : Nat) (z : Z) (w : World) (hI : In z w []) (hra0 : Rd (kslice kstr) z Aa0 a0) (hca0 : Cap Aa0 a0.length ca0) (p0 : FitT a0) :
    Calls Tryd.prog 15 #[.slice Aa0 a0.length ca0] w fun e w' => e = .returned (.tuple #[vstr (printQ a0).1, .int .i64 (printQ a0).2]) ∧ Sp (FF []) w z w' [] := by
 have hla0 := hca0.le
 have hma0 := hca0.mx
 have hS := hI.sp
 obtain ⟨hf1, hf2, hf3⟩ := p0
 refine Calls_of (vs := [.slice Aa0 a0.length ca0]) (N := 61) Tryd.func15 rfl rfl (Nat.le_of_ble_eq_true rfl) ?_
 refine C_seq ?_
 refine C_region ?_
 refine wv rfl rfl rfl (R_assign rfl rfl) <| wv rfl rfl rfl (R_assign rfl rfl) ?_
 refine W_nil ?_
 refine E_then ?_
 refine C_seq ?_
 refine C_seq ?_
 refine C_region ?_
 refine wv rfl rfl rfl (R_move rfl rfl) <| wv rfl rfl rfl (R_len rfl rfl Tryd.underlying25) <| wv rfl rfl rfl (R_bin rfl rfl rfl rfl rfl) ?_
 refine W_nil ?_
 refine E_then ?_
 refine C_ite rfl (fun hC0 => ?_) (fun hC0 => ?_)
 ·have _hC0 := trivial
  have hC0p : (a0.length : Int) = 0 := by simpa using hC0
  refine C_seq ?_
  refine C_region ?_
  refine wv rfl rfl rfl (R_assign rfl rfl) <| wv rfl rfl rfl (R_assign rfl rfl) ?_
  refine W_nil ?_
  refine E_then ?_
  refine C_ret ?_
  refine E_then_ret ?_
  refine E_ret2 rfl rfl rfl ?_
  exact ⟨Lret2 (Lstr (show [] = (printQ a0).1 by first | (exact congrArg Prod.fst (fine_e0 (by omega)).symm) | (exact congrArg Prod.snd (fine_e0 (by omega)).symm) | (exact congrArg Prod.fst (fine_e1 (i := i) (by omega) (by omega)).symm) | (exact congrArg Prod.snd (fine_e1 (i := i) (by omega) (by omega)).symm) | (exact congrArg Prod.fst (fine_e3 (j := j) (by omega) (by omega) hI0_1 (by omega) (by assumption)).symm) | (exact congrArg Prod.snd (fine_e3 (j := j) (by omega) (by omega) hI0_1 (by omega) (by assumption)).symm) | (exact congrArg Prod.fst (fine_e4 (j := j) (by omega) (by omega) hI0_1 (by omega) (by omega)).symm) | (exact congrArg Prod.snd (fine_e4 (j := j) (by omega) (by omega) hI0_1 (by omega) (by omega)).symm))) (Lint (show 1 = (printQ a0).2 by first | (exact congrArg Prod.fst (fine_e0 (by omega)).symm) | (exact congrArg Prod.snd (fine_e0 (by omega)).symm) | (exact congrArg Prod.fst (fine_e1 (i := i) (by omega) (by omega)).symm) | (exact congrArg Prod.snd (fine_e1 (i := i) (by omega) (by omega)).symm) | (exact congrArg Prod.fst (fine_e3 (j := j) (by omega) (by omega) hI0_1 (by omega) (by assumption)).symm) | (exact congrArg Prod.snd (fine_e3 (j := j) (by omega) (by omega) hI0_1 (by omega) (by assumption)).symm) | (exact congrArg Prod.fst (fine_e4 (j := j) (by omega) (by omega) hI0_1 (by omega) (by omega)).symm) | (exact congrArg Prod.snd (fine_e4 (j := j) (by omega) (by omega) hI0_1 (by omega) (by omega)).symm))), hS.fin [] (by decide) rfl⟩
 ·have _hC0 := trivial
  have hC0p : ¬ ((a0.length : Int) = 0) := by simpa using hC0
  refine C_skip ?_
  refine E_then (C_fr [(0, .slice Aa0 a0.length ca0)] rfl ?_)
  refine C_seq ?_
  refine C_region ?_
  refine wv rfl rfl rfl (R_assign rfl rfl) ?_
  refine W_nil ?_
  refine E_then ?_
  refine C_seq ?_
  refine C_seq ?_
  refine C_region ?_
  refine wv rfl rfl rfl (R_assign rfl rfl) ?_
  refine W_nil ?_
  refine E_then ?_
  refine C_block ?_
  refine C_fr [(0, .slice Aa0 a0.length ca0), (4, .slice none 0 0), (5, .int .i64 0)] rfl ?_
  refine C_loop (fun m_ f_ w_ => ∃ (i : Nat), f_ = [(0, .slice Aa0 a0.length ca0), (4, .slice none 0 0), (5, .int .i64 (i : Int))] ∧ i ≤ a0.length ∧ allT (a0.take i) = true ∧ m_ = a0.length - i ∧ Sp (FF []) w z w_ []) (a0.length - (0 : Nat)) ⟨(0 : Nat), rfl, (by omega), (by rfl), rfl, hS.fin [] (by decide) rfl⟩ ?_
  rintro m_ f_ w1 ⟨i, rfl, hI0_0, hI0_1, rfl, hS⟩
  refine C_seq ?_
  refine C_seq ?_
  refine C_region ?_
  refine wv rfl rfl rfl (R_move rfl rfl) <| wv rfl rfl rfl (R_move rfl rfl) <| wv rfl rfl rfl (R_len rfl rfl Tryd.underlying25) <| wv rfl rfl rfl (R_bin rfl rfl rfl rfl rfl) ?_
  refine W_nil ?_
  refine E_then ?_
  refine C_ite rfl (fun hC1 => ?_) (fun hC1 => ?_)
  ·have _hC1 := trivial
   have hC1p : (i : Int) < (a0.length : Int) := by simpa using hC1
   refine C_skip ?_
   refine E_then ?_
   refine C_seq ?_
   refine C_block ?_
   refine C_seq ?_
   refine C_region ?_
   refine wv rfl rfl rfl (R_move rfl rfl) <| wv rfl rfl rfl (R_move rfl rfl) ?_
   obtain ⟨q2, csq2, hAq2, ⟨Aq2, cq2, rfl, hcq2, hrq2⟩, hkq2⟩ := hra0.at_ [] (i := (i : Int)) (by omega) (by omega)
   have hkq2 : ∀ (j_ : Nat) (u_ : Value), ([.slice Aq2 (a0.getD i []).length cq2] : List Value)[j_]? = some u_ → cz z (q2.add (i * 1 + j_)) = some u_ := hkq2
   have hrq2 : Rd kstr z Aq2 ((a0.getD i [])) := hrq2
   have hcq2 : Cap Aq2 ((a0.getD i [])).length cq2 := hcq2
   have hlq2 := hcq2.le
   have hmq2 := hcq2.mx
   refine wv rfl rfl rfl (R_idx rfl rfl hAq2 rfl Tryd.underlying25 size33 (by omega) (by omega)) <| wv rfl rfl rfl (R_load1 rfl rfl agg33 (hS.sub.cell (hkq2 0 _ rfl))) <| wv rfl rfl rfl (R_len rfl rfl Tryd.underlying33) <| wv rfl rfl rfl (R_bin rfl rfl rfl rfl rfl) ?_
   refine W_nil ?_
   refine E_then (C_fr [(0, .slice Aa0 a0.length ca0), (4, .slice none 0 0), (5, .int .i64 (i : Int)), (22, .bool (((a0.getD i []).length : Int) == 0))] rfl ?_)
   refine C_ite rfl (fun hC2 => ?_) (fun hC2 => ?_)
   ·have _hC2 := trivial
    have hC2p : ((a0.getD i []).length : Int) = 0 := by simpa using hC2
    refine C_seq ?_
    refine C_region ?_
    refine wv rfl rfl rfl (R_assign rfl rfl) <| wv rfl rfl rfl (R_assign rfl rfl) ?_
    refine W_nil ?_
    refine E_then ?_
    refine C_ret ?_
    refine E_block_ret ?_
    refine E_then_ret ?_
    refine E_then_ret ?_
    refine E_block_ret ?_
    refine E_then_ret ?_
    refine E_ret2 rfl rfl rfl ?_
    exact ⟨Lret2 (Lstr (show [] = (printQ a0).1 by first | (exact congrArg Prod.fst (fine_e0 (by omega)).symm) | (exact congrArg Prod.snd (fine_e0 (by omega)).symm) | (exact congrArg Prod.fst (fine_e1 (i := i) (by omega) (by omega)).symm) | (exact congrArg Prod.snd (fine_e1 (i := i) (by omega) (by omega)).symm) | (exact congrArg Prod.fst (fine_e3 (j := j) (by omega) (by omega) hI0_1 (by omega) (by assumption)).symm) | (exact congrArg Prod.snd (fine_e3 (j := j) (by omega) (by omega) hI0_1 (by omega) (by assumption)).symm) | (exact congrArg Prod.fst (fine_e4 (j := j) (by omega) (by omega) hI0_1 (by omega) (by omega)).symm) | (exact congrArg Prod.snd (fine_e4 (j := j) (by omega) (by omega) hI0_1 (by omega) (by omega)).symm))) (Lint (show 1 = (printQ a0).2 by first | (exact congrArg Prod.fst (fine_e0 (by omega)).symm) | (exact congrArg Prod.snd (fine_e0 (by omega)).symm) | (exact congrArg Prod.fst (fine_e1 (i := i) (by omega) (by omega)).symm) | (exact congrArg Prod.snd (fine_e1 (i := i) (by omega) (by omega)).symm) | (exact congrArg Prod.fst (fine_e3 (j := j) (by omega) (by omega) hI0_1 (by omega) (by assumption)).symm) | (exact congrArg Prod.snd (fine_e3 (j := j) (by omega) (by omega) hI0_1 (by omega) (by assumption)).symm) | (exact congrArg Prod.fst (fine_e4 (j := j) (by omega) (by omega) hI0_1 (by omega) (by omega)).symm) | (exact congrArg Prod.snd (fine_e4 (j := j) (by omega) (by omega) hI0_1 (by omega) (by omega)).symm))), hS.fin [] (by decide) rfl⟩
   ·have _hC2 := trivial
    have hC2p : ¬ (((a0.getD i []).length : Int) = 0) := by simpa using hC2
    refine C_skip ?_
    refine E_block_normal ?_
    refine E_then ?_
    refine C_region ?_
    refine wv rfl rfl rfl (R_move rfl rfl) <| wv rfl rfl rfl (R_add64 rfl rfl rfl (by omega) (by omega)) <| wv rfl rfl rfl (R_assign rfl rfl) ?_
    refine W_nil ?_
    refine E_round [0, 4, 5] ?_ ⟨(i + 1 : Nat), rfl, (by omega), (by exact all_next (by assumption) (by omega) (by omega)), rfl, hS.fin [] (by decide) rfl⟩
    omega
  ·have _hC1 := trivial
   have hC1p : ¬ ((i : Int) < (a0.length : Int)) := by simpa using hC1
   refine C_exit ?_
   refine E_then_exit ?_
   refine E_then_exit ?_
   refine E_block_hit ?_
   refine E_then (C_fr [(0, .slice Aa0 a0.length ca0), (4, .slice none 0 0)] rfl ?_)
   refine C_seq ?_
   refine C_seq ?_
   refine C_region ?_
   refine wv rfl rfl rfl (R_assign rfl rfl) ?_
   refine W_nil ?_
   refine E_then ?_
   refine C_block ?_
   have hS := hS.nilrow (kint .u8) 5 zE
   have hs6 : ([] : List Int) = ub (tabQ (a0.take (0 : Nat))) := by rfl
   have hS := hS.re 0 rfl hs6
   refine C_fr [(0, .slice Aa0 a0.length ca0), (4, .slice none 0 0), (6, .int .i64 0)] rfl ?_
   refine C_loop (fun m_ f_ w_ => ∃ (j : Nat) (Ar3 : Option Addr) (cr3 : Nat), f_ = [(0, .slice Aa0 a0.length ca0), (4, .slice Ar3 (ub (tabQ (a0.take j))).length cr3), (6, .int .i64 (j : Int))] ∧ j ≤ a0.length ∧ m_ = a0.length - j ∧ Sp (FF []) w z w_ [oR (kint .u8) 5 zE Ar3 cr3 (ub (tabQ (a0.take j)))]) (a0.length - (0 : Nat)) ⟨(0 : Nat), none, 0, (by rw [← hs6] <;> rfl), (by omega), rfl, hS.fin [0] (by decide) rfl⟩ ?_
   rintro m_ f_ w4 ⟨j, Ar3, cr3, rfl, hI1_0, rfl, hS⟩
   have hp7 := hS.cap 0 rfl
   have hlhp7 := hp7.le
   have hmhp7 := hp7.mx
   refine C_seq ?_
   refine C_seq ?_
   refine C_region ?_
   refine wv rfl rfl rfl (R_move rfl rfl) <| wv rfl rfl rfl (R_move rfl rfl) <| wv rfl rfl rfl (R_len rfl rfl Tryd.underlying25) <| wv rfl rfl rfl (R_bin rfl rfl rfl rfl rfl) ?_
   refine W_nil ?_
   refine E_then ?_
   refine C_ite rfl (fun hC3 => ?_) (fun hC3 => ?_)
   ·have _hC3 := trivial
    have hC3p : (j : Int) < (a0.length : Int) := by simpa using hC3
    refine C_skip ?_
    refine E_then ?_
    refine C_seq ?_
    refine C_block ?_
    refine C_seq ?_
    refine C_seq ?_
    refine C_region ?_
    refine wv rfl rfl rfl (R_assign rfl rfl) ?_
    refine W_nil ?_
    refine E_then ?_
    refine C_block ?_
    have hs10 : ub (tabQ (a0.take j)) = ub (tabQ (a0.take j) ++ recQ ((a0.getD j []).take (0 : Nat))) := by simp [recQ, pieces]
    have hS := hS.re 0 rfl hs10
    refine C_fr [(0, .slice Aa0 a0.length ca0), (4, .slice Ar3 (ub (tabQ (a0.take j))).length cr3), (6, .int .i64 (j : Int)), (7, .int .i64 0)] rfl ?_
    refine C_loop (fun m_ f_ w_ => ∃ (k : Nat) (Ar8 : Option Addr) (cr8 : Nat), f_ = [(0, .slice Aa0 a0.length ca0), (4, .slice Ar8 (ub (tabQ (a0.take j) ++ recQ ((a0.getD j []).take k))).length cr8), (6, .int .i64 (j : Int)), (7, .int .i64 (k : Int))] ∧ k ≤ (a0.getD j []).length ∧ m_ = (a0.getD j []).length - k ∧ Sp (FF []) w z w_ [oR (kint .u8) 5 zE Ar8 cr8 (ub (tabQ (a0.take j) ++ recQ ((a0.getD j []).take k)))]) ((a0.getD j []).length - (0 : Nat)) ⟨(0 : Nat), Ar3, cr3, (by rw [← hs10] <;> rfl), (by omega), rfl, hS.fin [0] (by decide) rfl⟩ ?_
    rintro m_ f_ w9 ⟨k, Ar8, cr8, rfl, hI2_0, rfl, hS⟩
    have hp11 := hS.cap 0 rfl
    have hlhp11 := hp11.le
    have hmhp11 := hp11.mx
    refine C_seq ?_
    refine C_seq ?_
    refine C_region ?_
    refine wv rfl rfl rfl (R_move rfl rfl) <| wv rfl rfl rfl (R_move rfl rfl) <| wv rfl rfl rfl (R_move rfl rfl) ?_
    obtain ⟨q12, csq12, hAq12, ⟨Aq12, cq12, rfl, hcq12, hrq12⟩, hkq12⟩ := hra0.at_ [] (i := (j : Int)) (by omega) (by omega)
    have hkq12 : ∀ (j_ : Nat) (u_ : Value), ([.slice Aq12 (a0.getD j []).length cq12] : List Value)[j_]? = some u_ → cz z (q12.add (j * 1 + j_)) = some u_ := hkq12
    have hrq12 : Rd kstr z Aq12 ((a0.getD j [])) := hrq12
    have hcq12 : Cap Aq12 ((a0.getD j [])).length cq12 := hcq12
    have hlq12 := hcq12.le
    have hmq12 := hcq12.mx
    refine wv rfl rfl rfl (R_idx rfl rfl hAq12 rfl Tryd.underlying25 size33 (by omega) (by omega)) <| wv rfl rfl rfl (R_load1 rfl rfl agg33 (hS.sub.cell (hkq12 0 _ rfl))) <| wv rfl rfl rfl (R_len rfl rfl Tryd.underlying33) <| wv rfl rfl rfl (R_bin rfl rfl rfl rfl rfl) ?_
    refine W_nil ?_
    refine E_then (C_fr [(0, .slice Aa0 a0.length ca0), (4, .slice Ar8 (ub (tabQ (a0.take j) ++ recQ ((a0.getD j []).take k))).length cr8), (6, .int .i64 (j : Int)), (7, .int .i64 (k : Int)), (35, .bool (decide ((k : Int) < ((a0.getD j []).length : Int))))] rfl ?_)
    refine C_ite rfl (fun hC4 => ?_) (fun hC4 => ?_)
    ·have _hC4 := trivial
     have hC4p : (k : Int) < ((a0.getD j []).length : Int) := by simpa using hC4
     refine C_skip ?_
     refine E_then ?_
     refine C_seq ?_
     refine C_block ?_
     refine C_seq ?_
     refine C_seq ?_
     have hq15 := tab_room (t := a0) (j := j) (k := k) (by omega) (by omega)
     have hfl := (hf3 _ (qgetD_mem (n := j) [] (by omega))).2.2 _ (qgetD_mem (n := k) [] (by omega))
     refine C_region ?_
     refine wv rfl rfl rfl (R_move rfl rfl) <| wv rfl rfl rfl (R_bin rfl rfl rfl rfl rfl) ?_
     refine W_nil ?_
     refine E_then ?_
     refine C_ite rfl (fun hC5 => ?_) (fun hC5 => ?_)
     ·have _hC5 := trivial
      have hC5p : (k : Int) > 0 := by simpa using hC5
      refine C_region ?_
      refine wv rfl rfl rfl (R_move rfl rfl) ?_
      refine W_cons rfl (by decide) (S_row (d := (kint .u8)) (q := zE) hS ([44] : List Int) rfl (R_buildSlice (ps := [(0, (.const (.int .u8 44)))]) (vs := [.int .u8 44]) (w' := w9.alloc (.cells [.int .u8 44].toArray 5)) (r := .slice (some ⟨w9.heap.size, 0, none⟩) 1 1) rfl rfl rfl (by kernel_rfl)) (by simp [Reps, flat, kint]) rfl (by decide) (fun g14 w13 hS => ?_))
      refine W_cons rfl (by decide) (S_append hS 1 rfl rfl rfl elem44 rfl rfl (hS.sow 0 rfl (fun _ _ h => h)) (by (try simp only [List.length_cons, List.length_nil, List.length_append, maxLen]); omega) (by (try simp only [List.length_cons, List.length_nil, List.length_append, maxLen]); omega) (fun Ar16 cr16 w15 hS => ?_))
      have hp17 := hS.cap 1 rfl
      have hlhp17 := hp17.le
      have hmhp17 := hp17.mx
      refine wv rfl rfl rfl (R_assign rfl rfl) ?_
      refine W_nil ?_
      refine E_then (C_fr [(0, .slice Aa0 a0.length ca0), (4, .slice Ar16 ((ub (tabQ (a0.take j) ++ recQ ((a0.getD j []).take k))) ++ ([44] : List Int)).length cr16), (6, .int .i64 (j : Int)), (7, .int .i64 (k : Int))] rfl ?_)
      refine C_region ?_
      refine wv rfl rfl rfl (R_move rfl rfl) <| wv rfl rfl rfl (R_move rfl rfl) <| wv rfl rfl rfl (R_move rfl rfl) ?_
      obtain ⟨q18, csq18, hAq18, ⟨Aq18, cq18, rfl, hcq18, hrq18⟩, hkq18⟩ := hra0.at_ [] (i := (j : Int)) (by omega) (by omega)
      have hkq18 : ∀ (j_ : Nat) (u_ : Value), ([.slice Aq18 (a0.getD j []).length cq18] : List Value)[j_]? = some u_ → cz z (q18.add (j * 1 + j_)) = some u_ := hkq18
      have hrq18 : Rd kstr z Aq18 ((a0.getD j [])) := hrq18
      have hcq18 : Cap Aq18 ((a0.getD j [])).length cq18 := hcq18
      have hlq18 := hcq18.le
      have hmq18 := hcq18.mx
      refine wv rfl rfl rfl (R_idx rfl rfl hAq18 rfl Tryd.underlying25 size33 (by omega) (by omega)) <| wv rfl rfl rfl (R_load1 rfl rfl agg33 (hS.sub.cell (hkq18 0 _ rfl))) <| wv rfl rfl rfl (R_move rfl rfl) ?_
      obtain ⟨q19, csq19, hAq19, rfl, hkq19⟩ := hrq18.at_ ([] : St) (i := (k : Int)) (by omega) (by omega)
      have hkq19 : ∀ (j_ : Nat) (u_ : Value), ([vstr ((a0.getD j []).getD k ([] : St))] : List Value)[j_]? = some u_ → cz z (q19.add (k * 1 + j_)) = some u_ := hkq19
      refine wv rfl rfl rfl (R_idx rfl rfl hAq19 rfl Tryd.underlying33 size9 (by omega) (by omega)) <| wv rfl rfl rfl (R_load1 rfl rfl agg9 (hS.sub.cell (hkq19 0 _ rfl))) ?_
      refine W_cons rfl (by decide) (Sv_call rfl rfl rfl ent11 ?_)
      refine (rqfield_calls ((a0.getD j []).getD k ([] : St)) _ _ hS.out0  (by omega)).mono ?_
      rintro e_ w20 ⟨rfl, hS_⟩
      refine ⟨_, rfl, ?_⟩
      have hS := hS.call0 hS_
      refine W_cons rfl (by decide) (S_append_str (t := fldQ ((a0.getD j []).getD k ([] : St))) hS 1 rfl rfl rfl Tryd.underlying44 Tryd.underlying9 info5 rfl (by rfl) (by (simp only [ub_len, List.length_append, List.length_cons, List.length_nil] at hq15 ⊢; omega)) (fun Ar23 cr23 w22 hS => ?_))
      have hp24 := hS.cap 1 rfl
      have hlhp24 := hp24.le
      have hmhp24 := hp24.mx
      refine wv rfl rfl rfl (R_assign rfl rfl) ?_
      refine W_nil ?_
      refine E_block_normal ?_
      refine E_then (C_fr [(0, .slice Aa0 a0.length ca0), (4, .slice Ar23 (((ub (tabQ (a0.take j) ++ recQ ((a0.getD j []).take k))) ++ ([44] : List Int)) ++ ub (fldQ ((a0.getD j []).getD k ([] : St)))).length cr23), (6, .int .i64 (j : Int)), (7, .int .i64 (k : Int))] rfl ?_)
      refine C_region ?_
      refine wv rfl rfl rfl (R_move rfl rfl) <| wv rfl rfl rfl (R_add64 rfl rfl rfl (by omega) (by omega)) <| wv rfl rfl rfl (R_assign rfl rfl) ?_
      refine W_nil ?_
      have hs25 : ((ub (tabQ (a0.take j) ++ recQ ((a0.getD j []).take k))) ++ ([44] : List Int)) ++ ub (fldQ ((a0.getD j []).getD k ([] : St))) = ub (tabQ (a0.take j) ++ recQ ((a0.getD j []).take (k + 1 : Nat))) := by first | exact rec_next0 (by omega) (by omega) | exact rec_next (by omega) (by omega)
      have hS := hS.re 1 rfl hs25
      refine E_round [0, 4, 6, 7] ?_ ⟨(k + 1 : Nat), Ar23, cr23, (by rw [← hs25] <;> rfl), (by omega), rfl, hS.fin [1] (by decide) rfl⟩
      omega
     ·have _hC5 := trivial
      have hC5p : ¬ ((k : Int) > 0) := by simpa using hC5
      refine C_skip ?_
      refine E_then ?_
      refine C_region ?_
      refine wv rfl rfl rfl (R_move rfl rfl) <| wv rfl rfl rfl (R_move rfl rfl) <| wv rfl rfl rfl (R_move rfl rfl) ?_
      obtain ⟨q26, csq26, hAq26, ⟨Aq26, cq26, rfl, hcq26, hrq26⟩, hkq26⟩ := hra0.at_ [] (i := (j : Int)) (by omega) (by omega)
      have hkq26 : ∀ (j_ : Nat) (u_ : Value), ([.slice Aq26 (a0.getD j []).length cq26] : List Value)[j_]? = some u_ → cz z (q26.add (j * 1 + j_)) = some u_ := hkq26
      have hrq26 : Rd kstr z Aq26 ((a0.getD j [])) := hrq26
      have hcq26 : Cap Aq26 ((a0.getD j [])).length cq26 := hcq26
      have hlq26 := hcq26.le
      have hmq26 := hcq26.mx
      refine wv rfl rfl rfl (R_idx rfl rfl hAq26 rfl Tryd.underlying25 size33 (by omega) (by omega)) <| wv rfl rfl rfl (R_load1 rfl rfl agg33 (hS.sub.cell (hkq26 0 _ rfl))) <| wv rfl rfl rfl (R_move rfl rfl) ?_
      obtain ⟨q27, csq27, hAq27, rfl, hkq27⟩ := hrq26.at_ ([] : St) (i := (k : Int)) (by omega) (by omega)
      have hkq27 : ∀ (j_ : Nat) (u_ : Value), ([vstr ((a0.getD j []).getD k ([] : St))] : List Value)[j_]? = some u_ → cz z (q27.add (k * 1 + j_)) = some u_ := hkq27
      refine wv rfl rfl rfl (R_idx rfl rfl hAq27 rfl Tryd.underlying33 size9 (by omega) (by omega)) <| wv rfl rfl rfl (R_load1 rfl rfl agg9 (hS.sub.cell (hkq27 0 _ rfl))) ?_
      refine W_cons rfl (by decide) (Sv_call rfl rfl rfl ent11 ?_)
      refine (rqfield_calls ((a0.getD j []).getD k ([] : St)) _ _ hS.out0  (by omega)).mono ?_
      rintro e_ w28 ⟨rfl, hS_⟩
      refine ⟨_, rfl, ?_⟩
      have hS := hS.call0 hS_
      refine W_cons rfl (by decide) (S_append_str (t := fldQ ((a0.getD j []).getD k ([] : St))) hS 0 rfl rfl rfl Tryd.underlying44 Tryd.underlying9 info5 rfl (by rfl) (by (simp only [ub_len, List.length_append, List.length_cons, List.length_nil] at hq15 ⊢; omega)) (fun Ar31 cr31 w30 hS => ?_))
      have hp32 := hS.cap 0 rfl
      have hlhp32 := hp32.le
      have hmhp32 := hp32.mx
      refine wv rfl rfl rfl (R_assign rfl rfl) ?_
      refine W_nil ?_
      refine E_block_normal ?_
      refine E_then (C_fr [(0, .slice Aa0 a0.length ca0), (4, .slice Ar31 ((ub (tabQ (a0.take j) ++ recQ ((a0.getD j []).take k))) ++ ub (fldQ ((a0.getD j []).getD k ([] : St)))).length cr31), (6, .int .i64 (j : Int)), (7, .int .i64 (k : Int))] rfl ?_)
      refine C_region ?_
      refine wv rfl rfl rfl (R_move rfl rfl) <| wv rfl rfl rfl (R_add64 rfl rfl rfl (by omega) (by omega)) <| wv rfl rfl rfl (R_assign rfl rfl) ?_
      refine W_nil ?_
      have hs33 : (ub (tabQ (a0.take j) ++ recQ ((a0.getD j []).take k))) ++ ub (fldQ ((a0.getD j []).getD k ([] : St))) = ub (tabQ (a0.take j) ++ recQ ((a0.getD j []).take (k + 1 : Nat))) := by first | exact rec_next0 (by omega) (by omega) | exact rec_next (by omega) (by omega)
      have hS := hS.re 0 rfl hs33
      refine E_round [0, 4, 6, 7] ?_ ⟨(k + 1 : Nat), Ar31, cr31, (by rw [← hs33] <;> rfl), (by omega), rfl, hS.fin [0] (by decide) rfl⟩
      omega
    ·have _hC4 := trivial
     have hC4p : ¬ ((k : Int) < ((a0.getD j []).length : Int)) := by simpa using hC4
     refine C_exit ?_
     refine E_then_exit ?_
     refine E_then_exit ?_
     refine E_block_hit ?_
     refine E_then ?_
     have hq18 := tab_room2 (t := a0) (j := j) (k := k) (by omega)
     refine C_region ?_
     refine wv rfl rfl rfl (R_move rfl rfl) ?_
     refine W_cons rfl (by decide) (S_row (d := (kint .u8)) (q := zE) hS ([13, 10] : List Int) rfl (R_buildSlice (ps := [(0, (.const (.int .u8 13))), (1, (.const (.int .u8 10)))]) (vs := [.int .u8 13, .int .u8 10]) (w' := w9.alloc (.cells [.int .u8 13, .int .u8 10].toArray 5)) (r := .slice (some ⟨w9.heap.size, 0, none⟩) 2 2) rfl rfl rfl (by kernel_rfl)) (by simp [Reps, flat, kint]) rfl (by decide) (fun g35 w34 hS => ?_))
     refine W_cons rfl (by decide) (S_append hS 1 rfl rfl rfl elem44 rfl rfl (hS.sow 0 rfl (fun _ _ h => h)) (by (try simp only [List.length_cons, List.length_nil, List.length_append, maxLen]); omega) (by (try simp only [List.length_cons, List.length_nil, List.length_append, maxLen]); omega) (fun Ar37 cr37 w36 hS => ?_))
     have hp38 := hS.cap 1 rfl
     have hlhp38 := hp38.le
     have hmhp38 := hp38.mx
     refine wv rfl rfl rfl (R_assign rfl rfl) ?_
     refine W_nil ?_
     refine E_block_normal ?_
     refine E_then (C_fr [(0, .slice Aa0 a0.length ca0), (4, .slice Ar37 ((ub (tabQ (a0.take j) ++ recQ ((a0.getD j []).take k))) ++ ([13, 10] : List Int)).length cr37), (6, .int .i64 (j : Int))] rfl ?_)
     refine C_region ?_
     refine wv rfl rfl rfl (R_move rfl rfl) <| wv rfl rfl rfl (R_add64 rfl rfl rfl (by omega) (by omega)) <| wv rfl rfl rfl (R_assign rfl rfl) ?_
     refine W_nil ?_
     have hs39 : (ub (tabQ (a0.take j) ++ recQ ((a0.getD j []).take k))) ++ ([13, 10] : List Int) = ub (tabQ (a0.take (j + 1 : Nat))) := by exact tab_next (by omega) (by omega)
     have hS := hS.re 1 rfl hs39
     refine E_round [0, 4, 6] ?_ ⟨(j + 1 : Nat), Ar37, cr37, (by rw [← hs39] <;> rfl), (by omega), rfl, hS.fin [1] (by decide) rfl⟩
     omega
   ·have _hC3 := trivial
    have hC3p : ¬ ((j : Int) < (a0.length : Int)) := by simpa using hC3
    refine C_exit ?_
    refine E_then_exit ?_
    refine E_then_exit ?_
    refine E_block_hit ?_
    refine E_then (C_fr [(4, .slice Ar3 (ub (tabQ (a0.take j))).length cr3)] rfl ?_)
    refine C_seq ?_
    refine C_seq ?_
    refine C_region ?_
    refine wv rfl rfl rfl (R_move rfl rfl) <| wv rfl rfl rfl (R_len rfl rfl Tryd.underlying44) <| wv rfl rfl rfl (R_bin rfl rfl rfl rfl rfl) ?_
    refine W_nil ?_
    refine E_then ?_
    refine C_ite rfl (fun hC6 => ?_) (fun hC6 => ?_)
    ·have _hC6 := trivial
     have hC6p : ((ub (tabQ (a0.take j))).length : Int) > 65536 := by simpa using hC6
     refine C_seq ?_
     refine C_region ?_
     refine wv rfl rfl rfl (R_assign rfl rfl) <| wv rfl rfl rfl (R_assign rfl rfl) ?_
     refine W_nil ?_
     refine E_then ?_
     refine C_ret ?_
     refine E_then_ret ?_
     refine E_ret2 rfl rfl rfl ?_
     exact ⟨Lret2 (Lstr (show [] = (printQ a0).1 by first | (exact congrArg Prod.fst (fine_e0 (by omega)).symm) | (exact congrArg Prod.snd (fine_e0 (by omega)).symm) | (exact congrArg Prod.fst (fine_e1 (i := i) (by omega) (by omega)).symm) | (exact congrArg Prod.snd (fine_e1 (i := i) (by omega) (by omega)).symm) | (exact congrArg Prod.fst (fine_e3 (j := j) (by omega) (by omega) hI0_1 (by omega) (by assumption)).symm) | (exact congrArg Prod.snd (fine_e3 (j := j) (by omega) (by omega) hI0_1 (by omega) (by assumption)).symm) | (exact congrArg Prod.fst (fine_e4 (j := j) (by omega) (by omega) hI0_1 (by omega) (by omega)).symm) | (exact congrArg Prod.snd (fine_e4 (j := j) (by omega) (by omega) hI0_1 (by omega) (by omega)).symm))) (Lint (show 3 = (printQ a0).2 by first | (exact congrArg Prod.fst (fine_e0 (by omega)).symm) | (exact congrArg Prod.snd (fine_e0 (by omega)).symm) | (exact congrArg Prod.fst (fine_e1 (i := i) (by omega) (by omega)).symm) | (exact congrArg Prod.snd (fine_e1 (i := i) (by omega) (by omega)).symm) | (exact congrArg Prod.fst (fine_e3 (j := j) (by omega) (by omega) hI0_1 (by omega) (by assumption)).symm) | (exact congrArg Prod.snd (fine_e3 (j := j) (by omega) (by omega) hI0_1 (by omega) (by assumption)).symm) | (exact congrArg Prod.fst (fine_e4 (j := j) (by omega) (by omega) hI0_1 (by omega) (by omega)).symm) | (exact congrArg Prod.snd (fine_e4 (j := j) (by omega) (by omega) hI0_1 (by omega) (by omega)).symm))), hS.fin [] (by decide) rfl⟩
    ·have _hC6 := trivial
     have hC6p : ¬ (((ub (tabQ (a0.take j))).length : Int) > 65536) := by simpa using hC6
     refine C_skip ?_
     refine E_then ?_
     refine C_seq ?_
     refine C_region ?_
     refine wv rfl rfl rfl (R_move rfl rfl) <| wv rfl rfl rfl (S_bytestr (t := (tabQ (a0.take j))) hS 0 rfl rfl rfl Tryd.underlying44 Tryd.underlying5 Tryd.underlying9) <| wv rfl rfl rfl (R_assign rfl rfl) <| wv rfl rfl rfl (R_assign rfl rfl) ?_
     refine W_nil ?_
     refine E_then (C_fr [(2, vstr (tabQ (a0.take j))), (3, .int .i64 0)] rfl ?_)
     refine C_ret ?_
     refine E_ret2 rfl rfl rfl ?_
     exact ⟨Lret2 (Lstr (show (tabQ (a0.take j)) = (printQ a0).1 by first | (exact congrArg Prod.fst (fine_e0 (by omega)).symm) | (exact congrArg Prod.snd (fine_e0 (by omega)).symm) | (exact congrArg Prod.fst (fine_e1 (i := i) (by omega) (by omega)).symm) | (exact congrArg Prod.snd (fine_e1 (i := i) (by omega) (by omega)).symm) | (exact congrArg Prod.fst (fine_e3 (j := j) (by omega) (by omega) hI0_1 (by omega) (by assumption)).symm) | (exact congrArg Prod.snd (fine_e3 (j := j) (by omega) (by omega) hI0_1 (by omega) (by assumption)).symm) | (exact congrArg Prod.fst (fine_e4 (j := j) (by omega) (by omega) hI0_1 (by omega) (by omega)).symm) | (exact congrArg Prod.snd (fine_e4 (j := j) (by omega) (by omega) hI0_1 (by omega) (by omega)).symm))) (Lint (show 0 = (printQ a0).2 by first | (exact congrArg Prod.fst (fine_e0 (by omega)).symm) | (exact congrArg Prod.snd (fine_e0 (by omega)).symm) | (exact congrArg Prod.fst (fine_e1 (i := i) (by omega) (by omega)).symm) | (exact congrArg Prod.snd (fine_e1 (i := i) (by omega) (by omega)).symm) | (exact congrArg Prod.fst (fine_e3 (j := j) (by omega) (by omega) hI0_1 (by omega) (by assumption)).symm) | (exact congrArg Prod.snd (fine_e3 (j := j) (by omega) (by omega) hI0_1 (by omega) (by assumption)).symm) | (exact congrArg Prod.fst (fine_e4 (j := j) (by omega) (by omega) hI0_1 (by omega) (by omega)).symm) | (exact congrArg Prod.snd (fine_e4 (j := j) (by omega) (by omega) hI0_1 (by omega) (by omega)).symm))), hS.fin [] (by decide) rfl⟩

set_option maxHeartbeats 400000 in
set_option maxRecDepth 20000 in
theorem qown_calls (a0 : List (List St)) (Aa0 : Option Addr) (ca0 : Nat) (z : Z) (w : World) (hI : In z w []) (hra0 : Rd (kslice kstr) z Aa0 a0) (hca0 : Cap Aa0 a0.length ca0) (p0 : a0.length ≤ 10000) (p1 : ∀ r ∈ a0, r.length ≤ 10000) :
    Calls Tryd.prog 13 #[.slice Aa0 a0.length ca0] w fun e w' => ∃ (AR0 : Option Addr) (cR0 : Nat) (qR0 : Z), e = .returned (.slice AR0 a0.length cR0) ∧ Sp (FF []) w z w' [zR qR0, oR (kslice kstr) 33 qR0 AR0 cR0 a0] := by
 have hla0 := hca0.le
 have hma0 := hca0.mx
 have hS := hI.sp
 refine Calls_of (vs := [.slice Aa0 a0.length ca0]) (N := 21) Tryd.func13 rfl rfl (Nat.le_of_ble_eq_true rfl) ?_
 refine C_seq ?_
 refine C_region ?_
 refine wv rfl rfl rfl (R_assign rfl rfl) ?_
 refine W_nil ?_
 refine E_then ?_
 refine C_seq ?_
 refine C_region ?_
 refine wv rfl rfl rfl (R_assign rfl rfl) ?_
 refine W_nil ?_
 refine E_then ?_
 refine C_seq ?_
 refine C_seq ?_
 refine C_region ?_
 refine wv rfl rfl rfl (R_assign rfl rfl) ?_
 refine W_nil ?_
 refine E_then ?_
 refine C_block ?_
 obtain ⟨z4, hS⟩ := hS.famx
 have hS := hS.nilrow (kslice kstr) 33 z4
 have hs6 : ([] : List (List St)) = a0.take (0 : Nat) := by rfl
 have hS := hS.re 0 rfl hs6
 refine C_fr [(0, .slice Aa0 a0.length ca0), (3, .slice none 0 0), (4, .int .i64 0)] rfl ?_
 refine C_loop (fun m_ f_ w_ => ∃ (i : Nat) (Ar1 : Option Addr) (cr1 : Nat) (z2 : Z), f_ = [(0, .slice Aa0 a0.length ca0), (3, .slice Ar1 (a0.take i).length cr1), (4, .int .i64 (i : Int))] ∧ i ≤ a0.length ∧ m_ = a0.length - i ∧ Sp (FF []) w z w_ [zR z2, oR (kslice kstr) 33 z2 Ar1 cr1 (a0.take i)]) (a0.length - (0 : Nat)) ⟨(0 : Nat), none, 0, z4, (by rw [← hs6] <;> rfl), (by omega), rfl, hS.fin [1, 0] (by decide) rfl⟩ ?_
 rintro m_ f_ w3 ⟨i, Ar1, cr1, z2, rfl, hI0_0, rfl, hS⟩
 have hp7 := hS.cap 1 rfl
 have hlhp7 := hp7.le
 have hmhp7 := hp7.mx
 refine C_seq ?_
 refine C_seq ?_
 refine C_region ?_
 refine wv rfl rfl rfl (R_move rfl rfl) <| wv rfl rfl rfl (R_move rfl rfl) <| wv rfl rfl rfl (R_len rfl rfl Tryd.underlying25) <| wv rfl rfl rfl (R_bin rfl rfl rfl rfl rfl) ?_
 refine W_nil ?_
 refine E_then ?_
 refine C_ite rfl (fun hC0 => ?_) (fun hC0 => ?_)
 ·have _hC0 := trivial
  have hC0p : (i : Int) < (a0.length : Int) := by simpa using hC0
  refine C_skip ?_
  refine E_then ?_
  refine C_seq ?_
  refine C_block ?_
  have hwg := p1 _ (qgetD_mem (n := i) [] (by omega))
  refine C_region ?_
  refine wv rfl rfl rfl (R_move rfl rfl) ?_
  refine W_cons rfl (by decide) (S_row (d := kstr) (q := zE) hS ([] : List St) rfl (R_buildSlice (ps := []) (vs := []) (w' := w3.alloc (.cells [].toArray 9)) (r := .slice (some ⟨w3.heap.size, 0, none⟩) 0 0) rfl rfl rfl (by kernel_rfl)) (by simp [Reps, flat, kstr]) rfl (by decide) (fun g9 w8 hS => ?_))
  refine wv rfl rfl rfl (R_move rfl rfl) <| wv rfl rfl rfl (R_move rfl rfl) ?_
  obtain ⟨q10, csq10, hAq10, ⟨Aq10, cq10, rfl, hcq10, hrq10⟩, hkq10⟩ := hra0.at_ [] (i := (i : Int)) (by omega) (by omega)
  have hkq10 : ∀ (j_ : Nat) (u_ : Value), ([.slice Aq10 (a0.getD i []).length cq10] : List Value)[j_]? = some u_ → cz z (q10.add (i * 1 + j_)) = some u_ := hkq10
  have hrq10 : Rd kstr z Aq10 ((a0.getD i [])) := hrq10
  have hcq10 : Cap Aq10 ((a0.getD i [])).length cq10 := hcq10
  have hlq10 := hcq10.le
  have hmq10 := hcq10.mx
  refine wv rfl rfl rfl (R_idx rfl rfl hAq10 rfl Tryd.underlying25 size33 (by omega) (by omega)) <| wv rfl rfl rfl (R_load1 rfl rfl agg33 (hS.sub.cell (hkq10 0 _ rfl))) ?_
  refine W_cons rfl (by decide) (S_append hS 0 rfl rfl rfl elem33 rfl rfl (Sp.srd hS.sub hrq10 hcq10 (fun _ _ h => h)) (by (try simp only [List.length_cons, List.length_nil, List.length_append, List.length_take, maxLen]); omega) (by (try simp only [List.length_cons, List.length_nil, List.length_append, List.length_take, maxLen]); omega) (fun Ar12 cr12 w11 hS => ?_))
  have hp13 := hS.cap 0 rfl
  have hlhp13 := hp13.le
  have hmhp13 := hp13.mx
  have hcz16 := hS.cap 0 rfl
  obtain ⟨z16, hlez16, hrz16, hS⟩ := hS.fz 0 1 rfl rfl (by decide) (zle_E _)
  have hS := hS.lift 1 rfl hlez16
  refine W_cons rfl (by decide) (S_row (d := (kslice kstr)) (q := z16) hS ([([] : List St) ++ (a0.getD i [])] : List (List St)) rfl (R_buildSlice (ps := [(0, (.tmp 17))]) (vs := [.slice Ar12 (([] : List St) ++ (a0.getD i [])).length cr12]) (w' := w11.alloc (.cells [.slice Ar12 (([] : List St) ++ (a0.getD i [])).length cr12].toArray 33)) (r := .slice (some ⟨w11.heap.size, 0, none⟩) 1 1) rfl rfl rfl (by kernel_rfl)) ⟨_, _, rfl, ⟨_, _, rfl, hcz16, hrz16⟩, rfl⟩ rfl (by decide) (fun g15 w14 hS => ?_))
  refine W_cons rfl (by decide) (S_append hS 2 rfl rfl rfl elem25 rfl rfl (hS.sow 0 rfl (fun _ _ h => h)) (by (try simp only [List.length_cons, List.length_nil, List.length_append, List.length_take, maxLen]); omega) (by (try simp only [List.length_cons, List.length_nil, List.length_append, List.length_take, maxLen]); omega) (fun Ar18 cr18 w17 hS => ?_))
  have hp19 := hS.cap 2 rfl
  have hlhp19 := hp19.le
  have hmhp19 := hp19.mx
  refine wv rfl rfl rfl (R_assign rfl rfl) ?_
  refine W_nil ?_
  refine E_block_normal ?_
  refine E_then (C_fr [(0, .slice Aa0 a0.length ca0), (3, .slice Ar18 ((a0.take i) ++ ([([] : List St) ++ (a0.getD i [])] : List (List St))).length cr18), (4, .int .i64 (i : Int))] rfl ?_)
  refine C_region ?_
  refine wv rfl rfl rfl (R_move rfl rfl) <| wv rfl rfl rfl (R_add64 rfl rfl rfl (by omega) (by omega)) <| wv rfl rfl rfl (R_assign rfl rfl) ?_
  refine W_nil ?_
  have hs20 : (a0.take i) ++ ([([] : List St) ++ (a0.getD i [])] : List (List St)) = a0.take (i + 1 : Nat) := by exact (qtake_snoc a0 i (by omega)).symm
  have hS := hS.re 2 rfl hs20
  refine E_round [0, 3, 4] ?_ ⟨(i + 1 : Nat), Ar18, cr18, z16, (by rw [← hs20] <;> rfl), (by omega), rfl, hS.fin [1, 2] (by decide) rfl⟩
  omega
 ·have _hC0 := trivial
  have hC0p : ¬ ((i : Int) < (a0.length : Int)) := by simpa using hC0
  refine C_exit ?_
  refine E_then_exit ?_
  refine E_then_exit ?_
  refine E_block_hit ?_
  refine E_then (C_fr [(3, .slice Ar1 (a0.take i).length cr1)] rfl ?_)
  refine C_seq ?_
  refine C_region ?_
  refine wv rfl rfl rfl (R_move rfl rfl) <| wv rfl rfl rfl (R_assign rfl rfl) ?_
  refine W_nil ?_
  refine E_then ?_
  refine C_ret ?_
  have hq21 : a0.take i = a0 := by rw [List.take_of_length_le (by omega)]
  have hS := hS.re 1 rfl hq21
  refine E_ret1 rfl rfl ?_
  exact ⟨Ar1, cr1, z2, Lret1 (Lslice hq21), hS.fin [0, 1] (by decide) rfl⟩

set_option maxHeartbeats 400000 in
set_option maxRecDepth 20000 in
theorem rqtidy_calls (a0 : St) (z : Z) (w : World) (hI : In z w [])  (p0 : a0.length ≤ 65536) :
    Calls Tryd.prog 18 #[vstr a0] w fun e w' => e = .returned (.tuple #[vstr (rtidyQ a0).1, .int .i64 (rtidyQ a0).2.1, .int .i64 (rtidyQ a0).2.2]) ∧ Sp (FF []) w z w' [] := by
 have hS := hI.sp
 refine Calls_of (vs := [vstr a0]) (N := 24) Tryd.func18 rfl rfl (Nat.le_of_ble_eq_true rfl) ?_
 refine C_seq ?_
 refine C_region ?_
 refine wv rfl rfl rfl (R_assign rfl rfl) <| wv rfl rfl rfl (R_assign rfl rfl) <| wv rfl rfl rfl (R_assign rfl rfl) ?_
 refine W_nil ?_
 refine E_then ?_
 refine C_seq ?_
 refine C_region ?_
 refine wv rfl rfl rfl (R_move rfl rfl) ?_
 refine W_cons rfl (by decide) (Sv_call rfl rfl rfl ent25 ?_)
 refine (refparse_calls a0 _ _ hS.out0  (by omega)).mono ?_
 rintro e_ w1 ⟨AR0_2, cR0_2, qR0_2, rfl, hS_⟩
 refine ⟨_, rfl, ?_⟩
 have hS := hS.call0 hS_
 have hp3 := hS.cap 1 rfl
 have hlhp3 := hp3.le
 have hmhp3 := hp3.mx
 refine wv rfl rfl rfl (R_move rfl rfl) <| wv rfl rfl rfl (R_extract rfl rfl rfl) <| wv rfl rfl rfl (R_extract rfl rfl rfl) <| wv rfl rfl rfl (R_assign rfl rfl) <| wv rfl rfl rfl (R_assign rfl rfl) ?_
 refine W_nil ?_
 refine E_then (C_fr [(5, .slice AR0_2 (refS a0).1.length cR0_2), (6, .int .i64 (refS a0).2)] rfl ?_)
 refine C_seq ?_
 refine C_seq ?_
 refine C_region ?_
 refine wv rfl rfl rfl (R_move rfl rfl) <| wv rfl rfl rfl (R_bin rfl rfl rfl rfl rfl) ?_
 refine W_nil ?_
 refine E_then ?_
 refine C_ite rfl (fun hC0 => ?_) (fun hC0 => ?_)
 ·have _hC0 := trivial
  have hC0p : (refS a0).2 ≥ 0 := by simpa using hC0
  refine C_seq ?_
  refine C_region ?_
  refine wv rfl rfl rfl (R_move rfl rfl) <| wv rfl rfl rfl (R_assign rfl rfl) <| wv rfl rfl rfl (R_assign rfl rfl) <| wv rfl rfl rfl (R_assign rfl rfl) ?_
  refine W_nil ?_
  refine E_then (C_fr [(2, vstr []), (3, .int .i64 (refS a0).2), (4, .int .i64 2)] rfl ?_)
  refine C_ret ?_
  refine E_then_ret ?_
  refine E_ret3 rfl rfl rfl rfl ?_
  exact ⟨Lret3 (Lstr (show [] = (rtidyQ a0).1 by unfold rtidyQ; first | (rw [if_pos (by omega)]; done) | (rw [if_neg (by omega)]; done))) (Lint (show (refS a0).2 = (rtidyQ a0).2.1 by unfold rtidyQ; first | (rw [if_pos (by omega)]; done) | (rw [if_neg (by omega)]; done))) (Lint (show 2 = (rtidyQ a0).2.2 by unfold rtidyQ; first | (rw [if_pos (by omega)]; done) | (rw [if_neg (by omega)]; done))), hS.fin [] (by decide) rfl⟩
 ·have _hC0 := trivial
  have hC0p : ¬ ((refS a0).2 ≥ 0) := by simpa using hC0
  refine C_skip ?_
  refine E_then ?_
  refine C_seq ?_
  refine C_region ?_
  refine wv rfl rfl rfl (R_move rfl rfl) ?_
  refine W_cons rfl (by decide) (Sv_call rfl rfl rfl ent15 ?_)
  refine (rqprint_calls (refS a0).1 AR0_2 cR0_2 _ _ hS.out0 (hS.ow [] 1 rfl rfl (hS.zq [] 0 rfl rfl)) (hS.cap 1 rfl) (by exact fit_ref (by omega) (by omega))).mono ?_
  rintro e_ w4 ⟨rfl, hS_⟩
  refine ⟨_, rfl, ?_⟩
  have hS := hS.call0 hS_
  refine wv rfl rfl rfl (R_move rfl rfl) <| wv rfl rfl rfl (R_extract rfl rfl rfl) <| wv rfl rfl rfl (R_extract rfl rfl rfl) <| wv rfl rfl rfl (R_assign rfl rfl) <| wv rfl rfl rfl (R_assign rfl rfl) ?_
  refine W_nil ?_
  refine E_then (C_fr [(7, vstr (printQ (refS a0).1).1), (8, .int .i64 (printQ (refS a0).1).2)] rfl ?_)
  refine C_seq ?_
  refine C_region ?_
  refine wv rfl rfl rfl (R_move rfl rfl) <| wv rfl rfl rfl (R_move rfl rfl) <| wv rfl rfl rfl (R_assign rfl rfl) <| wv rfl rfl rfl (R_assign rfl rfl) <| wv rfl rfl rfl (R_assign rfl rfl) ?_
  refine W_nil ?_
  refine E_then ?_
  refine C_ret ?_
  refine E_ret3 rfl rfl rfl rfl ?_
  exact ⟨Lret3 (Lstr (show (printQ (refS a0).1).1 = (rtidyQ a0).1 by unfold rtidyQ; first | (rw [if_pos (by omega)]; done) | (rw [if_neg (by omega)]; done))) (Lint (show 0 = (rtidyQ a0).2.1 by unfold rtidyQ; first | (rw [if_pos (by omega)]; done) | (rw [if_neg (by omega)]; done))) (Lint (show (printQ (refS a0).1).2 = (rtidyQ a0).2.2 by unfold rtidyQ; first | (rw [if_pos (by omega)]; done) | (rw [if_neg (by omega)]; done))), hS.fin [] (by decide) rfl⟩

set_option maxHeartbeats 400000 in
set_option maxRecDepth 20000 in
theorem wide_calls (a0 : List (List St)) (Aa0 : Option Addr) (ca0 : Nat) (z : Z) (w : World) (hI : In z w []) (hra0 : Rd (kslice kstr) z Aa0 a0) (hca0 : Cap Aa0 a0.length ca0) (p0 : ∀ r ∈ a0, r.length ≤ 8796093022208) :
    Calls Tryd.prog 12 #[.slice Aa0 a0.length ca0] w fun e w' => e = .returned (.bool (wideS a0)) ∧ Sp (FF []) w z w' [] := by
 have hla0 := hca0.le
 have hma0 := hca0.mx
 have hS := hI.sp
 refine Calls_of (vs := [.slice Aa0 a0.length ca0]) (N := 55) Tryd.func12 rfl rfl (Nat.le_of_ble_eq_true rfl) ?_
 refine C_seq ?_
 refine C_region ?_
 refine wv rfl rfl rfl (R_assign rfl rfl) ?_
 refine W_nil ?_
 refine E_then ?_
 refine C_seq ?_
 refine C_seq ?_
 refine C_region ?_
 refine wv rfl rfl rfl (R_move rfl rfl) <| wv rfl rfl rfl (R_len rfl rfl Tryd.underlying25) <| wv rfl rfl rfl (R_bin rfl rfl rfl rfl rfl) ?_
 refine W_nil ?_
 refine E_then ?_
 refine C_ite rfl (fun hC0 => ?_) (fun hC0 => ?_)
 ·have _hC0 := trivial
  have hC0p : (a0.length : Int) > 100 := by simpa using hC0
  refine C_seq ?_
  refine C_region ?_
  refine wv rfl rfl rfl (R_assign rfl rfl) ?_
  refine W_nil ?_
  refine E_then ?_
  refine C_ret ?_
  refine E_then_ret ?_
  refine E_ret1 rfl rfl ?_
  exact ⟨Lret1 (Lbool (show true = (wideS a0) by first | exact (wide_1 (by omega)).symm | exact (wide_2 (i := i) (by omega) (by omega)).symm | exact (wide_3 (i := i) (k := k) (by omega) (by omega) (by omega)).symm | exact (wide_end (by omega) (by omega) hI0_1))), hS.fin [] (by decide) rfl⟩
 ·have _hC0 := trivial
  have hC0p : ¬ ((a0.length : Int) > 100) := by simpa using hC0
  refine C_skip ?_
  refine E_then ?_
  refine C_seq ?_
  refine C_region ?_
  refine wv rfl rfl rfl (R_assign rfl rfl) <| wv rfl rfl rfl (R_assign rfl rfl) ?_
  refine W_nil ?_
  refine E_then ?_
  refine C_seq ?_
  refine C_seq ?_
  refine C_region ?_
  refine wv rfl rfl rfl (R_assign rfl rfl) ?_
  refine W_nil ?_
  refine E_then ?_
  refine C_block ?_
  have hs2 : 0 = nf (a0.take (0 : Nat)) := by rfl
  have hs3 : 3000 = 3000 - nb (a0.take (0 : Nat)) := by rfl
  refine C_fr [(0, .slice Aa0 a0.length ca0), (3, .int .i64 0), (4, .int .i64 3000), (5, .int .i64 0)] rfl ?_
  refine C_loop (fun m_ f_ w_ => ∃ (i : Nat), f_ = [(0, .slice Aa0 a0.length ca0), (3, .int .i64 (nf (a0.take i))), (4, .int .i64 (3000 - nb (a0.take i))), (5, .int .i64 (i : Int))] ∧ i ≤ a0.length ∧ nf (a0.take i) ≤ 100 ∧ nb (a0.take i) ≤ 3000 * nf (a0.take i) ∧ 0 ≤ nf (a0.take i) ∧ 0 ≤ nb (a0.take i) ∧ m_ = a0.length - i ∧ Sp (FF []) w z w_ []) (a0.length - (0 : Nat)) ⟨(0 : Nat), (by rw [← hs2, ← hs3] <;> rfl), (by omega), (by simp [nf]), (by simp [nf, nb]), (by simp [nf]), (by simp [nb]), rfl, hS.fin [] (by decide) rfl⟩ ?_
  rintro m_ f_ w1 ⟨i, rfl, hI0_0, hI0_1, hI0_2, hI0_3, hI0_4, rfl, hS⟩
  have hq6a : i < a0.length → (a0.getD i []).length ≤ 8796093022208 := fun h_ => p0 _ (qgetD_mem [] h_)
  refine C_seq ?_
  refine C_seq ?_
  refine C_region ?_
  refine wv rfl rfl rfl (R_move rfl rfl) <| wv rfl rfl rfl (R_move rfl rfl) <| wv rfl rfl rfl (R_len rfl rfl Tryd.underlying25) <| wv rfl rfl rfl (R_bin rfl rfl rfl rfl rfl) ?_
  refine W_nil ?_
  refine E_then ?_
  refine C_ite rfl (fun hC1 => ?_) (fun hC1 => ?_)
  ·have _hC1 := trivial
   have hC1p : (i : Int) < (a0.length : Int) := by simpa using hC1
   refine C_skip ?_
   refine E_then ?_
   refine C_seq ?_
   refine C_block ?_
   refine C_seq ?_
   refine C_region ?_
   refine wv rfl rfl rfl (R_move rfl rfl) <| wv rfl rfl rfl (R_move rfl rfl) <| wv rfl rfl rfl (R_move rfl rfl) ?_
   obtain ⟨q4, csq4, hAq4, ⟨Aq4, cq4, rfl, hcq4, hrq4⟩, hkq4⟩ := hra0.at_ [] (i := (i : Int)) (by omega) (by omega)
   have hkq4 : ∀ (j_ : Nat) (u_ : Value), ([.slice Aq4 (a0.getD i []).length cq4] : List Value)[j_]? = some u_ → cz z (q4.add (i * 1 + j_)) = some u_ := hkq4
   have hrq4 : Rd kstr z Aq4 ((a0.getD i [])) := hrq4
   have hcq4 : Cap Aq4 ((a0.getD i [])).length cq4 := hcq4
   have hlq4 := hcq4.le
   have hmq4 := hcq4.mx
   refine wv rfl rfl rfl (R_idx rfl rfl hAq4 rfl Tryd.underlying25 size33 (by omega) (by omega)) <| wv rfl rfl rfl (R_load1 rfl rfl agg33 (hS.sub.cell (hkq4 0 _ rfl))) <| wv rfl rfl rfl (R_len rfl rfl Tryd.underlying33) <| wv rfl rfl rfl (R_add64 rfl rfl rfl (by omega) (by omega)) <| wv rfl rfl rfl (R_assign rfl rfl) ?_
   refine W_nil ?_
   refine E_then (C_fr [(0, .slice Aa0 a0.length ca0), (3, .int .i64 ((nf (a0.take i)) + ((a0.getD i []).length : Int))), (4, .int .i64 (3000 - nb (a0.take i))), (5, .int .i64 (i : Int))] rfl ?_)
   refine C_seq ?_
   refine C_seq ?_
   refine C_region ?_
   refine wv rfl rfl rfl (R_move rfl rfl) <| wv rfl rfl rfl (R_bin rfl rfl rfl rfl rfl) ?_
   refine W_nil ?_
   refine E_then ?_
   refine C_ite rfl (fun hC2 => ?_) (fun hC2 => ?_)
   ·have _hC2 := trivial
    have hC2p : ((nf (a0.take i)) + ((a0.getD i []).length : Int)) > 100 := by simpa using hC2
    refine C_seq ?_
    refine C_region ?_
    refine wv rfl rfl rfl (R_assign rfl rfl) ?_
    refine W_nil ?_
    refine E_then (C_fr [(2, .bool true)] rfl ?_)
    refine C_ret ?_
    refine E_then_ret ?_
    refine E_block_ret ?_
    refine E_then_ret ?_
    refine E_then_ret ?_
    refine E_block_ret ?_
    refine E_then_ret ?_
    refine E_ret1 rfl rfl ?_
    exact ⟨Lret1 (Lbool (show true = (wideS a0) by first | exact (wide_1 (by omega)).symm | exact (wide_2 (i := i) (by omega) (by omega)).symm | exact (wide_3 (i := i) (k := k) (by omega) (by omega) (by omega)).symm | exact (wide_end (by omega) (by omega) hI0_1))), hS.fin [] (by decide) rfl⟩
   ·have _hC2 := trivial
    have hC2p : ¬ (((nf (a0.take i)) + ((a0.getD i []).length : Int)) > 100) := by simpa using hC2
    refine C_skip ?_
    refine E_then ?_
    refine C_seq ?_
    refine C_region ?_
    refine wv rfl rfl rfl (R_assign rfl rfl) ?_
    refine W_nil ?_
    refine E_then ?_
    refine C_block ?_
    have hs6 : 3000 - nb (a0.take i) = 3000 - nb (a0.take i) - nb1 ((a0.getD i []).take (0 : Nat)) := by simp [nb1]
    refine C_fr [(0, .slice Aa0 a0.length ca0), (3, .int .i64 ((nf (a0.take i)) + ((a0.getD i []).length : Int))), (4, .int .i64 (3000 - nb (a0.take i))), (5, .int .i64 (i : Int)), (6, .int .i64 0)] rfl ?_
    refine C_loop (fun m_ f_ w_ => ∃ (k : Nat), f_ = [(0, .slice Aa0 a0.length ca0), (3, .int .i64 ((nf (a0.take i)) + ((a0.getD i []).length : Int))), (4, .int .i64 (3000 - nb (a0.take i) - nb1 ((a0.getD i []).take k))), (5, .int .i64 (i : Int)), (6, .int .i64 (k : Int))] ∧ k ≤ (a0.getD i []).length ∧ 0 ≤ nb1 ((a0.getD i []).take k) ∧ nb1 ((a0.getD i []).take k) ≤ 3000 * k ∧ m_ = (a0.getD i []).length - k ∧ Sp (FF []) w z w_ []) ((a0.getD i []).length - (0 : Nat)) ⟨(0 : Nat), (by rw [← hs6] <;> rfl), (by omega), (by simp [nb1]), (by simp [nb1]), rfl, hS.fin [] (by decide) rfl⟩ ?_
    rintro m_ f_ w5 ⟨k, rfl, hI1_0, hI1_1, hI1_2, rfl, hS⟩
    refine C_seq ?_
    refine C_seq ?_
    refine C_region ?_
    refine wv rfl rfl rfl (R_move rfl rfl) <| wv rfl rfl rfl (R_move rfl rfl) <| wv rfl rfl rfl (R_move rfl rfl) ?_
    obtain ⟨q7, csq7, hAq7, ⟨Aq7, cq7, rfl, hcq7, hrq7⟩, hkq7⟩ := hra0.at_ [] (i := (i : Int)) (by omega) (by omega)
    have hkq7 : ∀ (j_ : Nat) (u_ : Value), ([.slice Aq7 (a0.getD i []).length cq7] : List Value)[j_]? = some u_ → cz z (q7.add (i * 1 + j_)) = some u_ := hkq7
    have hrq7 : Rd kstr z Aq7 ((a0.getD i [])) := hrq7
    have hcq7 : Cap Aq7 ((a0.getD i [])).length cq7 := hcq7
    have hlq7 := hcq7.le
    have hmq7 := hcq7.mx
    refine wv rfl rfl rfl (R_idx rfl rfl hAq7 rfl Tryd.underlying25 size33 (by omega) (by omega)) <| wv rfl rfl rfl (R_load1 rfl rfl agg33 (hS.sub.cell (hkq7 0 _ rfl))) <| wv rfl rfl rfl (R_len rfl rfl Tryd.underlying33) <| wv rfl rfl rfl (R_bin rfl rfl rfl rfl rfl) ?_
    refine W_nil ?_
    refine E_then (C_fr [(0, .slice Aa0 a0.length ca0), (3, .int .i64 ((nf (a0.take i)) + ((a0.getD i []).length : Int))), (4, .int .i64 (3000 - nb (a0.take i) - nb1 ((a0.getD i []).take k))), (5, .int .i64 (i : Int)), (6, .int .i64 (k : Int)), (31, .bool (decide ((k : Int) < ((a0.getD i []).length : Int))))] rfl ?_)
    refine C_ite rfl (fun hC3 => ?_) (fun hC3 => ?_)
    ·have _hC3 := trivial
     have hC3p : (k : Int) < ((a0.getD i []).length : Int) := by simpa using hC3
     refine C_skip ?_
     refine E_then ?_
     refine C_seq ?_
     refine C_block ?_
     refine C_seq ?_
     refine C_seq ?_
     refine C_region ?_
     refine wv rfl rfl rfl (R_move rfl rfl) <| wv rfl rfl rfl (R_move rfl rfl) ?_
     obtain ⟨q8, csq8, hAq8, ⟨Aq8, cq8, rfl, hcq8, hrq8⟩, hkq8⟩ := hra0.at_ [] (i := (i : Int)) (by omega) (by omega)
     have hkq8 : ∀ (j_ : Nat) (u_ : Value), ([.slice Aq8 (a0.getD i []).length cq8] : List Value)[j_]? = some u_ → cz z (q8.add (i * 1 + j_)) = some u_ := hkq8
     have hrq8 : Rd kstr z Aq8 ((a0.getD i [])) := hrq8
     have hcq8 : Cap Aq8 ((a0.getD i [])).length cq8 := hcq8
     have hlq8 := hcq8.le
     have hmq8 := hcq8.mx
     refine wv rfl rfl rfl (R_idx rfl rfl hAq8 rfl Tryd.underlying25 size33 (by omega) (by omega)) <| wv rfl rfl rfl (R_load1 rfl rfl agg33 (hS.sub.cell (hkq8 0 _ rfl))) <| wv rfl rfl rfl (R_move rfl rfl) ?_
     obtain ⟨q9, csq9, hAq9, rfl, hkq9⟩ := hrq8.at_ ([] : St) (i := (k : Int)) (by omega) (by omega)
     have hkq9 : ∀ (j_ : Nat) (u_ : Value), ([vstr ((a0.getD i []).getD k ([] : St))] : List Value)[j_]? = some u_ → cz z (q9.add (k * 1 + j_)) = some u_ := hkq9
     refine wv rfl rfl rfl (R_idx rfl rfl hAq9 rfl Tryd.underlying33 size9 (by omega) (by omega)) <| wv rfl rfl rfl (R_load1 rfl rfl agg9 (hS.sub.cell (hkq9 0 _ rfl))) <| wv rfl rfl rfl (R_strlen rfl rfl Tryd.underlying9) <| wv rfl rfl rfl (R_bin rfl rfl rfl rfl rfl) ?_
     refine W_nil ?_
     refine E_then (C_fr [(0, .slice Aa0 a0.length ca0), (3, .int .i64 ((nf (a0.take i)) + ((a0.getD i []).length : Int))), (4, .int .i64 (3000 - nb (a0.take i) - nb1 ((a0.getD i []).take k))), (5, .int .i64 (i : Int)), (6, .int .i64 (k : Int)), (42, .bool (decide ((((a0.getD i []).getD k ([] : St)).length : Int) > 3000)))] rfl ?_)
     refine C_ite rfl (fun hC4 => ?_) (fun hC4 => ?_)
     ·have _hC4 := trivial
      have hC4p : (((a0.getD i []).getD k ([] : St)).length : Int) > 3000 := by simpa using hC4
      refine C_seq ?_
      refine C_region ?_
      refine wv rfl rfl rfl (R_assign rfl rfl) ?_
      refine W_nil ?_
      refine E_then (C_fr [(2, .bool true)] rfl ?_)
      refine C_ret ?_
      refine E_then_ret ?_
      refine E_block_ret ?_
      refine E_then_ret ?_
      refine E_then_ret ?_
      refine E_block_ret ?_
      refine E_block_ret ?_
      refine E_then_ret ?_
      refine E_then_ret ?_
      refine E_block_ret ?_
      refine E_then_ret ?_
      refine E_ret1 rfl rfl ?_
      exact ⟨Lret1 (Lbool (show true = (wideS a0) by first | exact (wide_1 (by omega)).symm | exact (wide_2 (i := i) (by omega) (by omega)).symm | exact (wide_3 (i := i) (k := k) (by omega) (by omega) (by omega)).symm | exact (wide_end (by omega) (by omega) hI0_1))), hS.fin [] (by decide) rfl⟩
     ·have _hC4 := trivial
      have hC4p : ¬ ((((a0.getD i []).getD k ([] : St)).length : Int) > 3000) := by simpa using hC4
      refine C_skip ?_
      refine E_then ?_
      have hq11 := nb1_next (a0.getD i []) k (by omega)
      refine C_region ?_
      refine wv rfl rfl rfl (R_move rfl rfl) <| wv rfl rfl rfl (R_move rfl rfl) <| wv rfl rfl rfl (R_move rfl rfl) ?_
      obtain ⟨q10, csq10, hAq10, ⟨Aq10, cq10, rfl, hcq10, hrq10⟩, hkq10⟩ := hra0.at_ [] (i := (i : Int)) (by omega) (by omega)
      have hkq10 : ∀ (j_ : Nat) (u_ : Value), ([.slice Aq10 (a0.getD i []).length cq10] : List Value)[j_]? = some u_ → cz z (q10.add (i * 1 + j_)) = some u_ := hkq10
      have hrq10 : Rd kstr z Aq10 ((a0.getD i [])) := hrq10
      have hcq10 : Cap Aq10 ((a0.getD i [])).length cq10 := hcq10
      have hlq10 := hcq10.le
      have hmq10 := hcq10.mx
      refine wv rfl rfl rfl (R_idx rfl rfl hAq10 rfl Tryd.underlying25 size33 (by omega) (by omega)) <| wv rfl rfl rfl (R_load1 rfl rfl agg33 (hS.sub.cell (hkq10 0 _ rfl))) <| wv rfl rfl rfl (R_move rfl rfl) ?_
      obtain ⟨q11, csq11, hAq11, rfl, hkq11⟩ := hrq10.at_ ([] : St) (i := (k : Int)) (by omega) (by omega)
      have hkq11 : ∀ (j_ : Nat) (u_ : Value), ([vstr ((a0.getD i []).getD k ([] : St))] : List Value)[j_]? = some u_ → cz z (q11.add (k * 1 + j_)) = some u_ := hkq11
      refine wv rfl rfl rfl (R_idx rfl rfl hAq11 rfl Tryd.underlying33 size9 (by omega) (by omega)) <| wv rfl rfl rfl (R_load1 rfl rfl agg9 (hS.sub.cell (hkq11 0 _ rfl))) <| wv rfl rfl rfl (R_strlen rfl rfl Tryd.underlying9) <| wv rfl rfl rfl (R_sub64 rfl rfl rfl (by omega) (by omega)) <| wv rfl rfl rfl (R_assign rfl rfl) ?_
      refine W_nil ?_
      refine E_block_normal ?_
      refine E_then (C_fr [(0, .slice Aa0 a0.length ca0), (3, .int .i64 ((nf (a0.take i)) + ((a0.getD i []).length : Int))), (4, .int .i64 ((3000 - nb (a0.take i) - nb1 ((a0.getD i []).take k)) - (((a0.getD i []).getD k ([] : St)).length : Int))), (5, .int .i64 (i : Int)), (6, .int .i64 (k : Int))] rfl ?_)
      refine C_region ?_
      refine wv rfl rfl rfl (R_move rfl rfl) <| wv rfl rfl rfl (R_add64 rfl rfl rfl (by omega) (by omega)) <| wv rfl rfl rfl (R_assign rfl rfl) ?_
      refine W_nil ?_
      have hs12 : (3000 - nb (a0.take i) - nb1 ((a0.getD i []).take k)) - (((a0.getD i []).getD k ([] : St)).length : Int) = 3000 - nb (a0.take i) - nb1 ((a0.getD i []).take (k + 1 : Nat)) := by omega
      refine E_round [0, 3, 4, 5, 6] ?_ ⟨(k + 1 : Nat), (by rw [← hs12] <;> rfl), (by omega), (by omega), (by omega), rfl, hS.fin [] (by decide) rfl⟩
      omega
    ·have _hC3 := trivial
     have hC3p : ¬ ((k : Int) < ((a0.getD i []).length : Int)) := by simpa using hC3
     refine C_exit ?_
     refine E_then_exit ?_
     refine E_then_exit ?_
     refine E_block_hit ?_
     refine E_block_normal ?_
     refine E_then ?_
     have hq6 := nf_next a0 i (by omega)
     have hq6c : nb1 ((a0.getD i []).take k) = nb1 (a0.getD i []) := by rw [List.take_of_length_le (by omega)]
     refine C_region ?_
     refine wv rfl rfl rfl (R_move rfl rfl) <| wv rfl rfl rfl (R_add64 rfl rfl rfl (by omega) (by omega)) <| wv rfl rfl rfl (R_assign rfl rfl) ?_
     refine W_nil ?_
     have hs13 : (nf (a0.take i)) + ((a0.getD i []).length : Int) = nf (a0.take (i + 1 : Nat)) := by omega
     have hs14 : 3000 - nb (a0.take i) - nb1 ((a0.getD i []).take k) = 3000 - nb (a0.take (i + 1 : Nat)) := by omega
     refine E_round [0, 3, 4, 5] ?_ ⟨(i + 1 : Nat), (by rw [← hs13, ← hs14] <;> rfl), (by omega), (by omega), (by omega), (by omega), (by omega), rfl, hS.fin [] (by decide) rfl⟩
     omega
  ·have _hC1 := trivial
   have hC1p : ¬ ((i : Int) < (a0.length : Int)) := by simpa using hC1
   refine C_exit ?_
   refine E_then_exit ?_
   refine E_then_exit ?_
   refine E_block_hit ?_
   refine E_then (C_fr [(4, .int .i64 (3000 - nb (a0.take i)))] rfl ?_)
   refine C_seq ?_
   refine C_region ?_
   refine wv rfl rfl rfl (R_move rfl rfl) <| wv rfl rfl rfl (R_bin rfl rfl rfl rfl rfl) <| wv rfl rfl rfl (R_assign rfl rfl) ?_
   refine W_nil ?_
   refine E_then ?_
   refine C_ret ?_
   refine E_ret1 rfl rfl ?_
   exact ⟨Lret1 (Lbool (show (decide ((3000 - nb (a0.take i)) < 0)) = (wideS a0) by first | exact (wide_1 (by omega)).symm | exact (wide_2 (i := i) (by omega) (by omega)).symm | exact (wide_3 (i := i) (k := k) (by omega) (by omega) (by omega)).symm | exact (wide_end (by omega) (by omega) hI0_1))), hS.fin [] (by decide) rfl⟩

set_option maxHeartbeats 400000 in
set_option maxRecDepth 20000 in
theorem qawake_calls  (z : Z) (w : World) (hI : In z w [])  (p0 : HM z) :
    Calls Tryd.prog 9 #[] w fun e w' => e = .returned (.bool true) ∧ Sp (FF []) w z w' [] := by
 have hS := hI.sp
 refine Calls_of (vs := []) (N := 78) Tryd.func9 rfl rfl (Nat.le_of_ble_eq_true rfl) ?_
 refine C_seq ?_
 refine C_region ?_
 refine wv rfl rfl rfl (R_assign rfl rfl) ?_
 refine W_nil ?_
 refine E_then ?_
 refine C_seq ?_
 refine C_region ?_
 refine W_cons rfl (by decide) (S_row (d := kstr) (q := zE) hS ([[97], [98]] : List St) rfl (R_buildSlice (ps := [(0, (.const (.string { data := #[97] }))), (1, (.const (.string { data := #[98] })))]) (vs := [vstr [97], vstr [98]]) (w' := w.alloc (.cells [vstr [97], vstr [98]].toArray 9)) (r := .slice (some ⟨w.heap.size, 0, none⟩) 2 2) rfl rfl rfl (by kernel_rfl)) (by simp [Reps, flat, kstr]) rfl (by decide) (fun g2 w1 hS => ?_))
 refine W_cons rfl (by decide) (S_row (d := kstr) (q := zE) hS ([[99]] : List St) rfl (R_buildSlice (ps := [(0, (.const (.string { data := #[99] })))]) (vs := [vstr [99]]) (w' := w1.alloc (.cells [vstr [99]].toArray 9)) (r := .slice (some ⟨w1.heap.size, 0, none⟩) 1 1) rfl rfl rfl (by kernel_rfl)) (by simp [Reps, flat, kstr]) rfl (by decide) (fun g4 w3 hS => ?_))
 obtain ⟨z7, hS⟩ := hS.famx
 have hcz8 := hS.cap 2 rfl
 obtain ⟨z8, hlez8, hrz8, hS⟩ := hS.fz 2 0 rfl rfl (by decide) (zle_E _)
 have hcz9 := hS.cap 1 rfl
 obtain ⟨z9, hlez9, hrz9, hS⟩ := hS.fz 1 0 rfl rfl (by decide) (zle_E _)
 have hrz8 := hrz8.mono hlez9
 refine W_cons rfl (by decide) (S_row (d := (kslice kstr)) (q := z9) hS ([([[97], [98]] : List St), ([[99]] : List St)] : List (List St)) rfl (R_buildSlice (ps := [(0, (.tmp 12)), (1, (.tmp 13))]) (vs := [.slice (some ⟨g2, 0, none⟩) ([[97], [98]] : List St).length 2, .slice (some ⟨g4, 0, none⟩) ([[99]] : List St).length 1]) (w' := w3.alloc (.cells [.slice (some ⟨g2, 0, none⟩) ([[97], [98]] : List St).length 2, .slice (some ⟨g4, 0, none⟩) ([[99]] : List St).length 1].toArray 33)) (r := .slice (some ⟨w3.heap.size, 0, none⟩) 2 2) rfl rfl rfl (by kernel_rfl)) ⟨_, _, rfl, ⟨_, _, rfl, hcz8, hrz8⟩, ⟨_, _, rfl, ⟨_, _, rfl, hcz9, hrz9⟩, rfl⟩⟩ rfl (by decide) (fun g6 w5 hS => ?_))
 refine W_cons rfl (by decide) (Sv_call rfl rfl rfl ent14 ?_)
 refine (qprint_calls ([([[97], [98]] : List St), ([[99]] : List St)] : List (List St)) (some ⟨g6, 0, none⟩) 2 _ _ hS.out0 (hS.ow [] 0 rfl rfl (hS.zq [] 1 rfl rfl)) (hS.cap 0 rfl) (by exact fit_of (by decide +kernel)) (by first | exact HM.mono (by assumption) (hS.zl []) | exact HM.mono (by assumption) (hS.zl [0]) | exact HM.mono (by assumption) (hS.zl [1]))).mono ?_
 rintro e_ w10 ⟨rfl, hS_⟩
 refine ⟨_, rfl, ?_⟩
 have hS := hS.call0 hS_
 refine wv rfl rfl rfl (R_move rfl rfl) <| wv rfl rfl rfl (R_extract rfl rfl rfl) <| wv rfl rfl rfl (R_extract rfl rfl rfl) <| wv rfl rfl rfl (R_assign rfl rfl) <| wv rfl rfl rfl (R_assign rfl rfl) ?_
 refine W_nil ?_
 refine E_then (C_fr [(1, vstr (printQ ([([[97], [98]] : List St), ([[99]] : List St)] : List (List St))).1), (2, .int .i64 (printQ ([([[97], [98]] : List St), ([[99]] : List St)] : List (List St))).2)] rfl ?_)
 refine C_seq ?_
 refine C_region ?_
 refine W_cons rfl (by decide) (Sv_call rfl rfl rfl ent14 ?_)
 refine (qprint_calls [] none 0 _ _ hS.out0 (Rd.nil _ _ _) Cap.nil_ (by exact fit_of (by decide +kernel)) (by first | exact HM.mono (by assumption) (hS.zl []) | exact HM.mono (by assumption) (hS.zl [0]) | exact HM.mono (by assumption) (hS.zl [1]))).mono ?_
 rintro e_ w12 ⟨rfl, hS_⟩
 refine ⟨_, rfl, ?_⟩
 have hS := hS.call0 hS_
 refine wv rfl rfl rfl (R_move rfl rfl) <| wv rfl rfl rfl (R_extract rfl rfl rfl) <| wv rfl rfl rfl (R_extract rfl rfl rfl) <| wv rfl rfl rfl (R_assign rfl rfl) <| wv rfl rfl rfl (R_assign rfl rfl) ?_
 refine W_nil ?_
 refine E_then (C_fr [(1, vstr (printQ ([([[97], [98]] : List St), ([[99]] : List St)] : List (List St))).1), (2, .int .i64 (printQ ([([[97], [98]] : List St), ([[99]] : List St)] : List (List St))).2), (4, .int .i64 (printQ []).2)] rfl ?_)
 refine C_seq ?_
 refine C_region ?_
 refine W_cons rfl (by decide) (Sv_call rfl rfl rfl ent17 ?_)
 refine (qtidy_calls [34, 97, 34, 44, 98] _ _ hS.out0  (by first | exact HM.mono (by assumption) (hS.zl []) | exact HM.mono (by assumption) (hS.zl [0]) | exact HM.mono (by assumption) (hS.zl [1]))).mono ?_
 rintro e_ w14 ⟨rfl, hS_⟩
 refine ⟨_, rfl, ?_⟩
 have hS := hS.call0 hS_
 refine wv rfl rfl rfl (R_move rfl rfl) <| wv rfl rfl rfl (R_extract rfl rfl rfl) <| wv rfl rfl rfl (R_extract rfl rfl rfl) <| wv rfl rfl rfl (R_extract rfl rfl rfl) <| wv rfl rfl rfl (R_assign rfl rfl) <| wv rfl rfl rfl (R_assign rfl rfl) <| wv rfl rfl rfl (R_assign rfl rfl) ?_
 refine W_nil ?_
 refine E_then (C_fr [(1, vstr (printQ ([([[97], [98]] : List St), ([[99]] : List St)] : List (List St))).1), (2, .int .i64 (printQ ([([[97], [98]] : List St), ([[99]] : List St)] : List (List St))).2), (4, .int .i64 (printQ []).2), (5, vstr (tidyQ [34, 97, 34, 44, 98]).1), (6, .int .i64 (tidyQ [34, 97, 34, 44, 98]).2.1), (7, .int .i64 (tidyQ [34, 97, 34, 44, 98]).2.2)] rfl ?_)
 refine C_seq ?_
 refine C_region ?_
 refine W_cons rfl (by decide) (Sv_call rfl rfl rfl ent17 ?_)
 refine (qtidy_calls [97, 34, 98] _ _ hS.out0  (by first | exact HM.mono (by assumption) (hS.zl []) | exact HM.mono (by assumption) (hS.zl [0]) | exact HM.mono (by assumption) (hS.zl [1]))).mono ?_
 rintro e_ w16 ⟨rfl, hS_⟩
 refine ⟨_, rfl, ?_⟩
 have hS := hS.call0 hS_
 refine wv rfl rfl rfl (R_move rfl rfl) <| wv rfl rfl rfl (R_extract rfl rfl rfl) <| wv rfl rfl rfl (R_extract rfl rfl rfl) <| wv rfl rfl rfl (R_extract rfl rfl rfl) <| wv rfl rfl rfl (R_assign rfl rfl) <| wv rfl rfl rfl (R_assign rfl rfl) <| wv rfl rfl rfl (R_assign rfl rfl) ?_
 refine W_nil ?_
 refine E_then (C_fr [(1, vstr (printQ ([([[97], [98]] : List St), ([[99]] : List St)] : List (List St))).1), (2, .int .i64 (printQ ([([[97], [98]] : List St), ([[99]] : List St)] : List (List St))).2), (4, .int .i64 (printQ []).2), (5, vstr (tidyQ [34, 97, 34, 44, 98]).1), (6, .int .i64 (tidyQ [34, 97, 34, 44, 98]).2.1), (7, .int .i64 (tidyQ [34, 97, 34, 44, 98]).2.2), (9, .int .i64 (tidyQ [97, 34, 98]).2.1), (10, .int .i64 (tidyQ [97, 34, 98]).2.2)] rfl ?_)
 refine C_seq ?_
 refine C_region ?_
 refine W_cons rfl (by decide) (Sv_call rfl rfl rfl ent10 ?_)
 refine (qfield_calls [97, 32, 98] _ _ hS.out0  (by decide) (by first | exact HM.mono (by assumption) (hS.zl []) | exact HM.mono (by assumption) (hS.zl [0]) | exact HM.mono (by assumption) (hS.zl [1]))).mono ?_
 rintro e_ w18 ⟨rfl, hS_⟩
 refine ⟨_, rfl, ?_⟩
 have hS := hS.call0 hS_
 refine wv rfl rfl rfl (R_streql rfl rfl rfl) <| wv rfl rfl rfl (R_move rfl rfl) ?_
 have hk20 : (decide ((fldQ [97, 32, 98]) = [97, 32, 98])) = true := by decide +kernel
 have hk20p : (fldQ [97, 32, 98]) = [97, 32, 98] := by simpa using hk20
 refine W_cons rfl (by decide) (Sv_gt rfl rfl rfl hk20 (Sv_call rfl rfl rfl ent10 ?_))
 refine (qfield_calls [97, 44, 98] _ _ hS.out0  (by decide) (by first | exact HM.mono (by assumption) (hS.zl []) | exact HM.mono (by assumption) (hS.zl [0]) | exact HM.mono (by assumption) (hS.zl [1]))).mono ?_
 rintro e_ w21 ⟨rfl, hS_⟩
 refine ⟨_, rfl, ?_⟩
 have hS := hS.call0 hS_
 refine W_cons rfl (by decide) (Sv_gt rfl rfl rfl hk20 (Sv_val rfl (R_streql rfl rfl rfl) ?_))
 refine wv rfl rfl rfl (R_pick_t rfl rfl hk20 rfl) <| wv rfl rfl rfl (R_move rfl rfl) ?_
 have hk23 : (decide ((fldQ [97, 44, 98]) = [34, 97, 44, 98, 34])) = true := by decide +kernel
 have hk23p : (fldQ [97, 44, 98]) = [34, 97, 44, 98, 34] := by simpa using hk23
 refine W_cons rfl (by decide) (Sv_gt rfl rfl rfl hk23 (Sv_call rfl rfl rfl ent10 ?_))
 refine (qfield_calls [120, 32, 34, 121, 34] _ _ hS.out0  (by decide) (by first | exact HM.mono (by assumption) (hS.zl []) | exact HM.mono (by assumption) (hS.zl [0]) | exact HM.mono (by assumption) (hS.zl [1]))).mono ?_
 rintro e_ w24 ⟨rfl, hS_⟩
 refine ⟨_, rfl, ?_⟩
 have hS := hS.call0 hS_
 refine W_cons rfl (by decide) (Sv_gt rfl rfl rfl hk23 (Sv_val rfl (R_streql rfl rfl rfl) ?_))
 refine wv rfl rfl rfl (R_pick_t rfl rfl hk23 rfl) <| wv rfl rfl rfl (R_move rfl rfl) ?_
 have hk26 : (decide ((fldQ [120, 32, 34, 121, 34]) = [34, 120, 32, 34, 34, 121, 34, 34, 34])) = true := by decide +kernel
 have hk26p : (fldQ [120, 32, 34, 121, 34]) = [34, 120, 32, 34, 34, 121, 34, 34, 34] := by simpa using hk26
 refine W_cons rfl (by decide) (Sv_gt rfl rfl rfl hk26 (Sv_call rfl rfl rfl ent10 ?_))
 refine (qfield_calls [] _ _ hS.out0  (by decide) (by first | exact HM.mono (by assumption) (hS.zl []) | exact HM.mono (by assumption) (hS.zl [0]) | exact HM.mono (by assumption) (hS.zl [1]))).mono ?_
 rintro e_ w27 ⟨rfl, hS_⟩
 refine ⟨_, rfl, ?_⟩
 have hS := hS.call0 hS_
 refine W_cons rfl (by decide) (Sv_gt rfl rfl rfl hk26 (Sv_val rfl (R_streql rfl rfl rfl) ?_))
 refine wv rfl rfl rfl (R_pick_t rfl rfl hk26 rfl) <| wv rfl rfl rfl (R_move rfl rfl) ?_
 have hk29 : (decide ((fldQ []) = [])) = true := by decide +kernel
 have hk29p : (fldQ []) = [] := by simpa using hk29
 refine W_cons rfl (by decide) (Sv_gt rfl rfl rfl hk29 (Sv_val rfl (R_move rfl rfl) ?_))
 refine W_cons rfl (by decide) (Sv_gt rfl rfl rfl hk29 (Sv_val rfl (R_streql rfl rfl rfl) ?_))
 refine wv rfl rfl rfl (R_pick_t rfl rfl hk29 rfl) <| wv rfl rfl rfl (R_move rfl rfl) ?_
 have hk30 : (decide ((printQ ([([[97], [98]] : List St), ([[99]] : List St)] : List (List St))).1 = [97, 44, 98, 13, 10, 99, 13, 10])) = true := by decide +kernel
 have hk30p : (printQ ([([[97], [98]] : List St), ([[99]] : List St)] : List (List St))).1 = [97, 44, 98, 13, 10, 99, 13, 10] := by simpa using hk30
 refine W_cons rfl (by decide) (Sv_gt rfl rfl rfl hk30 (Sv_val rfl (R_move rfl rfl) ?_))
 refine W_cons rfl (by decide) (Sv_gt rfl rfl rfl hk30 (Sv_val rfl (R_bin rfl rfl rfl rfl rfl) ?_))
 refine wv rfl rfl rfl (R_pick_t rfl rfl hk30 rfl) <| wv rfl rfl rfl (R_move rfl rfl) ?_
 have hk31 : (((printQ ([([[97], [98]] : List St), ([[99]] : List St)] : List (List St))).2 == 0)) = true := by decide +kernel
 have hk31p : (printQ ([([[97], [98]] : List St), ([[99]] : List St)] : List (List St))).2 = 0 := by simpa using hk31
 refine W_cons rfl (by decide) (Sv_gt rfl rfl rfl hk31 (Sv_val rfl (R_move rfl rfl) ?_))
 refine W_cons rfl (by decide) (Sv_gt rfl rfl rfl hk31 (Sv_val rfl (R_bin rfl rfl rfl rfl rfl) ?_))
 refine wv rfl rfl rfl (R_pick_t rfl rfl hk31 rfl) <| wv rfl rfl rfl (R_move rfl rfl) ?_
 have hk32 : (((printQ []).2 == 1)) = true := by decide +kernel
 have hk32p : (printQ []).2 = 1 := by simpa using hk32
 refine W_cons rfl (by decide) (Sv_gt rfl rfl rfl hk32 (Sv_val rfl (R_move rfl rfl) ?_))
 refine W_cons rfl (by decide) (Sv_gt rfl rfl rfl hk32 (Sv_val rfl (R_streql rfl rfl rfl) ?_))
 refine wv rfl rfl rfl (R_pick_t rfl rfl hk32 rfl) <| wv rfl rfl rfl (R_move rfl rfl) ?_
 have hk33 : (decide ((tidyQ [34, 97, 34, 44, 98]).1 = [97, 44, 98, 13, 10])) = true := by decide +kernel
 have hk33p : (tidyQ [34, 97, 34, 44, 98]).1 = [97, 44, 98, 13, 10] := by simpa using hk33
 refine W_cons rfl (by decide) (Sv_gt rfl rfl rfl hk33 (Sv_val rfl (R_move rfl rfl) ?_))
 refine W_cons rfl (by decide) (Sv_gt rfl rfl rfl hk33 (Sv_val rfl (R_bin rfl rfl rfl rfl rfl) ?_))
 refine wv rfl rfl rfl (R_pick_t rfl rfl hk33 rfl) <| wv rfl rfl rfl (R_move rfl rfl) ?_
 have hk34 : (((tidyQ [34, 97, 34, 44, 98]).2.1 == 0)) = true := by decide +kernel
 have hk34p : (tidyQ [34, 97, 34, 44, 98]).2.1 = 0 := by simpa using hk34
 refine W_cons rfl (by decide) (Sv_gt rfl rfl rfl hk34 (Sv_val rfl (R_move rfl rfl) ?_))
 refine W_cons rfl (by decide) (Sv_gt rfl rfl rfl hk34 (Sv_val rfl (R_bin rfl rfl rfl rfl rfl) ?_))
 refine wv rfl rfl rfl (R_pick_t rfl rfl hk34 rfl) <| wv rfl rfl rfl (R_move rfl rfl) ?_
 have hk35 : (((tidyQ [34, 97, 34, 44, 98]).2.2 == 0)) = true := by decide +kernel
 have hk35p : (tidyQ [34, 97, 34, 44, 98]).2.2 = 0 := by simpa using hk35
 refine W_cons rfl (by decide) (Sv_gt rfl rfl rfl hk35 (Sv_val rfl (R_move rfl rfl) ?_))
 refine W_cons rfl (by decide) (Sv_gt rfl rfl rfl hk35 (Sv_val rfl (R_bin rfl rfl rfl rfl rfl) ?_))
 refine wv rfl rfl rfl (R_pick_t rfl rfl hk35 rfl) <| wv rfl rfl rfl (R_move rfl rfl) ?_
 have hk36 : (((tidyQ [97, 34, 98]).2.1 == 1)) = true := by decide +kernel
 have hk36p : (tidyQ [97, 34, 98]).2.1 = 1 := by simpa using hk36
 refine W_cons rfl (by decide) (Sv_gt rfl rfl rfl hk36 (Sv_val rfl (R_move rfl rfl) ?_))
 refine W_cons rfl (by decide) (Sv_gt rfl rfl rfl hk36 (Sv_val rfl (R_bin rfl rfl rfl rfl rfl) ?_))
 refine wv rfl rfl rfl (R_pick_t rfl rfl hk36 rfl) <| wv rfl rfl rfl (R_assign rfl rfl) ?_
 refine W_nil ?_
 refine E_then (C_fr [(0, .bool ((tidyQ [97, 34, 98]).2.2 == 2))] rfl ?_)
 refine C_ret ?_
 refine E_ret1 rfl rfl ?_
 exact ⟨Lret1 (Lbool (show ((tidyQ [97, 34, 98]).2.2 == 2) = true by rfl)), hS.fin [] (by decide) rfl⟩

end Go.Proofs.YtcjaplaifmhajaaDoorG
