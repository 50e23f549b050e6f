/- Walks and laws of this program: part 3. -/
import Derived.Test.YtaljccgfnmfhnaaGreatDoorZR2
set_option linter.all false
set_option maxHeartbeats 8000000
set_option maxRecDepth 100000
namespace Go.Proofs.YtaljccgfnmfhnaaGreatDoorG
open Go Go.RowKit
theorem qprint_calls (a0 : List (List St)) (Aa0 : Option Addr) (ca0 : Nat) (z : Z) (w : World) (hI : In z w []) (hra0 : Rd (kslice kstr) z Aa0 a0) (hca0 : Cap Aa0 a0.length ca0) (p0 : FitT a0) (p1 : HM z) :
    Calls Tryz.prog 35 #[.slice Aa0 a0.length ca0] w fun e w' => e = .returned (.tuple #[vstr (printQ a0).1, .int .i64 (printQ a0).2]) ∧ Sp (FF []) w z w' [] := by
 have hla0 := hca0.le
 have hma0 := hca0.mx
 have hS := hI.sp
 obtain ⟨hf1, hf2, hf3⟩ := p0
 refine Calls_of (vs := [.slice Aa0 a0.length ca0]) (N := 20) Tryz.func35 rfl rfl (Nat.le_of_ble_eq_true rfl) ?_
 refine C_seq <| C_region <| wv rfl rfl rfl (R_assign rfl rfl) <| wv rfl rfl rfl (R_assign rfl rfl) ?_
 refine W_nil <| E_then <| C_seq <| C_region <| wv rfl rfl rfl (R_move rfl rfl) <| wv rfl rfl rfl (R_len rfl rfl Tryz.underlying22) <| wv rfl rfl rfl (R_bin rfl rfl rfl rfl rfl) ?_
 refine W_cons rfl (by decide) (S_box hS rfl (R_alloc rfl alloc4) (fun b2 w1 hS => ?_))
 refine W_cons0 rfl (S_store hS 0 rfl rfl rfl rfl rfl size4 (one1 rfl) (Nat.le_of_ble_eq_true rfl) (fun w3 hS => ?_))
 refine W_nil <| E_then (C_fr [(0, .slice Aa0 a0.length ca0), (4, .pointer (some ⟨b2, 0, none⟩))] rfl ?_)
 refine C_seq <| C_region <| wv rfl rfl rfl (R_move rfl rfl) <| wv rfl rfl rfl (R_makeFunc rfl rfl) ?_
 refine W_cons rfl (by decide) (Sv_call rfl rfl rfl ent70 ?_)
 refine (joinedR_calls a0 Aa0 ca0 [] [13, 10] b2 (decide ((a0.length : Int) > 0)) _ _ (hS.out [0] (by decide)) (hra0.mono (hS.zl [0])) hca0 (by exact hf1) (by exact hf2) (by exact hf3) (by exact HM.mono (by assumption) (hS.zl [0]))).mono ?_
 rintro e_ w4 ⟨rfl, hS_⟩
 refine ⟨_, rfl, ?_⟩
 have hS := hS.call [0] (by decide) hS_
 refine wv rfl rfl rfl (R_assign rfl rfl) ?_
 refine W_nil <| E_then <| C_seq <| C_block <| C_seq <| C_region <| wv rfl rfl rfl (R_load1 rfl rfl agg4 ((hS.bx 0 rfl).cell rfl)) <| wv rfl rfl rfl (R_un rfl rfl rfl) <| wv rfl rfl rfl (R_assign rfl rfl) ?_
 refine W_nil <| E_then (C_fr [(5, vstr (pieces [] [13, 10] recQ a0)), (12, .bool (!(fin2 (decide ((a0.length : Int) > 0)) a0)))] rfl ?_)
 refine C_ite rfl (fun hC0 => ?_) (fun hC0 => ?_)
 ·have hC0p : ¬ (fin2 (decide ((a0.length : Int) > 0)) a0 = true) := by simpa using hC0
  refine C_seq <| C_region <| wv rfl rfl rfl (R_assign rfl rfl) <| wv rfl rfl rfl (R_assign rfl rfl) ?_
  refine W_nil <| E_then <| C_ret <| E_block_ret <| E_then_ret <| E_ret2 rfl rfl rfl ?_
  exact ⟨Lret2 (Lstr (show [] = (printQ a0).1 by (exact congrArg Prod.fst (printQ_1 (by simpa [fineT] using hC0)).symm))) (Lint (show 1 = (printQ a0).2 by (exact congrArg Prod.snd (printQ_1 (by simpa [fineT] using hC0)).symm))), hS.fin [] (by decide) rfl⟩
 ·have hC0p : (fin2 (decide ((a0.length : Int) > 0)) a0 = true) := by simpa using hC0
  refine C_seq <| C_region <| wv rfl rfl rfl (R_move rfl rfl) <| wv rfl rfl rfl (R_strlen rfl rfl Tryz.underlying9) <| wv rfl rfl rfl (R_bin rfl rfl rfl rfl rfl) <| wv rfl rfl rfl (R_assign rfl rfl) ?_
  refine W_nil <| E_then <| C_ite rfl (fun hC1 => ?_) (fun hC1 => ?_)
  ·have hC1p : ((pieces [] [13, 10] recQ a0).length : Int) > 65536 := by simpa using hC1
   refine C_seq <| C_region <| wv rfl rfl rfl (R_assign rfl rfl) <| wv rfl rfl rfl (R_assign rfl rfl) ?_
   refine W_nil <| E_then (C_fr [(2, vstr []), (3, .int .i64 3)] rfl ?_)
   refine C_ret <| E_block_ret <| E_then_ret <| E_ret2 rfl rfl rfl ?_
   exact ⟨Lret2 (Lstr (show [] = (printQ a0).1 by (exact congrArg Prod.fst (printQ_3 (by simpa [fineT] using hC0) (by omega)).symm))) (Lint (show 3 = (printQ a0).2 by (exact congrArg Prod.snd (printQ_3 (by simpa [fineT] using hC0) (by omega)).symm))), hS.fin [] (by decide) rfl⟩
  ·have hC1p : ¬ (((pieces [] [13, 10] recQ a0).length : Int) > 65536) := by simpa using hC1
   refine C_skip <| E_block_normal <| E_then (C_fr [(5, vstr (pieces [] [13, 10] recQ a0))] rfl ?_)
   refine C_seq <| C_region <| wv rfl rfl rfl (R_move rfl rfl) <| wv rfl rfl rfl (R_assign rfl rfl) <| wv rfl rfl rfl (R_assign rfl rfl) ?_
   refine W_nil <| E_then <| C_ret <| E_ret2 rfl rfl rfl ?_
   exact ⟨Lret2 (Lstr (show pieces [] [13, 10] recQ a0 = (printQ a0).1 by (exact congrArg Prod.fst (printQ_0 (by simpa [fineT] using hC0) (by omega)).symm))) (Lint (show 0 = (printQ a0).2 by (exact congrArg Prod.snd (printQ_0 (by simpa [fineT] using hC0) (by omega)).symm))), hS.fin [] (by decide) rfl⟩
end Go.Proofs.YtaljccgfnmfhnaaGreatDoorG
set_option linter.all false
namespace Go.Proofs.YtaljccgfnmfhnaaGreatDoorG
open Go Go.RowKit
abbrev Rows := List (List St)
def idxF {α : Type} (p : α → Bool) : List α → Int → Int
  | [], _ => -1
  | x :: r, i => bif p x then i else idxF p r (i + 1)
def hasF {α : Type} (p : α → Bool) (l : List α) : Bool := decide (idxF p l 0 ≥ 0)
theorem dropD {α : Type} {l : List α} {n : Nat} (d : α) (h : n < l.length) : l.drop n = l.getD n d :: l.drop (n + 1) := by
  rw [List.drop_eq_getElem_cons h]
  simp [List.getD, h]
theorem idxF_next {α : Type} {p : α → Bool} {l : List α} {n : Nat} {d : α} {i : Int} (h : n < l.length) (hp : p (l.getD n d) = false) : idxF p (l.drop n) i = idxF p (l.drop (n + 1)) (i + 1) := by
  rw [dropD d h]
  simp only [idxF, hp, cond_false]
theorem idxF_hit {α : Type} {p : α → Bool} {l : List α} {n : Nat} {d : α} {i : Int} (h : n < l.length) (hp : p (l.getD n d) = true) : idxF p (l.drop n) i = i := by
  rw [dropD d h]
  simp only [idxF, hp, cond_true]
theorem idxF_end {α : Type} {p : α → Bool} {l : List α} {n : Nat} {i : Int} (h : l.length ≤ n) : idxF p (l.drop n) i = -1 := by
  rw [List.drop_of_length_le h]
  rfl
theorem idxF_any {α : Type} (p : α → Bool) : ∀ (l : List α) (i : Int), 0 ≤ i → (idxF p l i ≥ 0 ↔ l.any p = true) := by
  intro l
  induction l with
  | nil => intro i _; simp [idxF]
  | cons x r ih =>
    intro i hi
    cases hp : p x with
    | true => simp [idxF, hp, hi]
    | false => simp only [idxF, hp, cond_false, List.any_cons, Bool.false_or]; exact ih (i + 1) (by omega)
theorem idxF_bd {α : Type} (p : α → Bool) : ∀ (l : List α) (i : Int), idxF p l i = -1 ∨ i ≤ idxF p l i ∧ idxF p l i < i + l.length := by
  intro l
  induction l with
  | nil => intro i; exact .inl rfl
  | cons x r ih =>
    intro i
    have e : ((x :: r).length : Int) = r.length + 1 := by simp
    cases hp : p x with
    | true => right; simp only [idxF, hp, cond_true]; omega
    | false =>
      simp only [idxF, hp, cond_false]
      rcases ih (i + 1) with h | h
      · exact .inl h
      · right; omega
theorem hasF_any {α : Type} (p : α → Bool) (l : List α) : hasF p l = l.any p := by
  rw [Bool.eq_iff_iff, hasF, decide_eq_true_iff]
  exact idxF_any p l 0 (Int.le_refl _)
theorem any_all' {α : Type} {p : α → Bool} {l : List α} {i : Nat} (hi : l.length ≤ i) (h : (l.take i).any p = false) : l.any p = false := by rwa [List.take_of_length_le hi] at h
def widthS (l : Rows) : Int := l.foldl (fun n r => max n (r.length : Int)) 0
theorem widthS_next (l : Rows) (i : Nat) (h : i < l.length) : widthS (l.take (i + 1)) = max (widthS (l.take i)) ((l.getD i []).length : Int) := by
  unfold widthS
  rw [List.take_succ_eq_append_getElem h, List.foldl_append]
  simp [List.getD, h]
theorem widthS_all (l : Rows) (i : Nat) (h : l.length ≤ i) : widthS (l.take i) = widthS l := by rw [List.take_of_length_le h]
theorem foldl_max (l : Rows) : ∀ n : Int, n ≤ l.foldl (fun n r => max n (r.length : Int)) n ∧ (∀ r ∈ l, (r.length : Int) ≤ l.foldl (fun n r => max n (r.length : Int)) n) ∧ (l.foldl (fun n r => max n (r.length : Int)) n = n ∨ ∃ r ∈ l, l.foldl (fun n r => max n (r.length : Int)) n = r.length) := by
  induction l with
  | nil => intro n; simp
  | cons x l ih =>
    intro n
    obtain ⟨h1, h2, h3⟩ := ih (max n x.length)
    simp only [List.foldl_cons]
    refine ⟨by omega, fun r hr => ?_, ?_⟩
    · rcases List.mem_cons.1 hr with rfl | hr
      · omega
      · exact h2 r hr
    · rcases h3 with h3 | ⟨r, hr, h3⟩
      · rw [h3]
        by_cases hx : (x.length : Int) ≤ n
        · left; omega
        · right; exact ⟨x, List.mem_cons_self, by omega⟩
      · right; exact ⟨r, List.mem_cons_of_mem _ hr, h3⟩
theorem widthS_nonneg (l : Rows) : 0 ≤ widthS l := (foldl_max l 0).1
theorem widthS_ge (l : Rows) : ∀ r ∈ l, (r.length : Int) ≤ widthS l := (foldl_max l 0).2.1
theorem widthS_at (l : Rows) : widthS l = 0 ∨ ∃ r ∈ l, widthS l = r.length := (foldl_max l 0).2.2
theorem widthS_le (l : Rows) {n : Int} (h0 : 0 ≤ n) (h : ∀ r ∈ l, (r.length : Int) ≤ n) : widthS l ≤ n := by
  rcases widthS_at l with h1 | ⟨r, hr, h1⟩
  · omega
  · rw [h1]; exact h r hr
theorem getD_mem {α : Type} {l : List α} {n : Nat} (d : α) (h : n < l.length) : l.getD n d ∈ l := by simp [List.getD, h]
def longS (t : St) : Bool := decide ((t.length : Int) > 1024)
def checkS (l : Rows) : Int :=
  if widthS l = 0 then 1 else if hasF (fun r => (r.length : Int) != widthS l) l = true then 1
  else if hasF (fun t => decide ((t.length : Int) > 1024)) l.flatten = true then 3 else if (l.length : Int) > 24 then 3 else if widthS l > 16 then 3 else 0
def totS (l : Rows) : Int := (l.flatten.length : Int)
theorem flat_next (l : Rows) (i : Nat) (h : i < l.length) : (l.take (i + 1)).flatten = (l.take i).flatten ++ l.getD i [] := by
  rw [List.take_succ_eq_append_getElem h, List.flatten_append]
  congr 1
  simp [List.getD, h]
theorem totS_next (l : Rows) (i : Nat) (h : i < l.length) : totS (l.take (i + 1)) = totS (l.take i) + ((l.getD i []).length : Int) := by
  unfold totS
  rw [flat_next l i h, List.length_append]
  omega
theorem totS_bd (l : Rows) (h : widthS l ≤ 10000) (i : Nat) : 0 ≤ totS (l.take i) ∧ totS (l.take i) ≤ 10000 * (i : Int) := by
  induction i with
  | zero => simp [totS]
  | succ i ih =>
    rcases Nat.lt_or_ge i l.length with hi | hi
    · rw [totS_next l i hi]
      have := widthS_ge l _ (getD_mem (n := i) [] hi)
      omega
    · rw [List.take_of_length_le (by omega)] at *
      omega
theorem has_at {α : Type} {p : α → Bool} {l : List α} {x : α} (hx : x ∈ l) (hp : p x = true) : hasF p l = true := by
  rw [hasF_any, List.any_eq_true]
  exact ⟨x, hx, hp⟩
theorem has_not {α : Type} {p : α → Bool} {l : List α} (h : ∀ x ∈ l, p x = false) : hasF p l = false := by
  rw [hasF_any, List.any_eq_false]
  intro x hx
  rw [h x hx]
  decide
theorem chk_ne {l : Rows} {r : List St} (hr : r ∈ l) (h : ¬ (r.length : Int) = widthS l) : checkS l = 1 := by
  unfold checkS
  split
  · rfl
  · rw [if_pos (has_at hr (by simpa using h))]
theorem chk1 {l : Rows} (h : (l.length : Int) = 0 ∨ ((l.getD 0 []).length : Int) = 0) : checkS l = 1 := by
  by_cases hw : widthS l = 0
  · unfold checkS; rw [if_pos hw]
  · cases l with
    | nil => exact absurd rfl hw
    | cons r l =>
      rcases h with h | h
      · simp at h; omega
      · have h1 : (r.length : Int) = 0 := h
        exact chk_ne (r := r) List.mem_cons_self (fun h' => hw (h'.symm.trans h1))
theorem chk2 {l : Rows} {i : Nat} (hi : i < l.length) (h : ¬ ((l.getD i []).length : Int) = (l.getD 0 []).length) : checkS l = 1 := by
  by_cases h1 : ((l.getD i []).length : Int) = widthS l
  · exact chk_ne (getD_mem (n := 0) [] (by omega)) (by omega)
  · exact chk_ne (getD_mem [] hi) h1
theorem width_all {l : Rows} {n : Int} (h0 : 0 < l.length) (h : ∀ r ∈ l, (r.length : Int) = n) : widthS l = n := by
  have h1 := h _ (getD_mem (n := 0) [] h0)
  have h2 := widthS_ge l _ (getD_mem (n := 0) [] h0)
  have h3 := widthS_le l (n := n) (by omega) fun r hr => Int.le_of_eq (h r hr)
  omega
theorem eq_all {l : Rows} {i : Nat} {n : Int} (hi : l.length ≤ i) (h : (l.take i).any (fun r => (r.length : Int) != n) = false) : ∀ r ∈ l, (r.length : Int) = n := fun r hr => by
  have := any_all' hi h
  rw [List.any_eq_false] at this
  simpa using this r hr
theorem chk_eq {l : Rows} {n : Int} (h0 : 0 < l.length) (hn : ¬ n = 0) (h : ∀ r ∈ l, (r.length : Int) = n) : checkS l = if hasF (fun t => decide ((t.length : Int) > 1024)) l.flatten = true then 3 else if (l.length : Int) > 24 then 3 else if n > 16 then 3 else 0 := by
  have hw := width_all h0 h
  unfold checkS
  rw [if_neg (by omega), if_neg (by rw [has_not (fun r hr => by simp [h r hr, hw])]; decide), hw]
theorem chk3 {l : Rows} {n : Int} (h0 : 0 < l.length) (hn : ¬ n = 0) (h : ∀ r ∈ l, (r.length : Int) = n) (hb : (l.length : Int) > 24 ∨ n > 16) : checkS l = 3 := by
  rw [chk_eq h0 hn h]
  split
  · rfl
  · split
    · rfl
    · rw [if_pos (by omega)]
theorem chk4 {l : Rows} {n : Int} {i k : Nat} (hn : ¬ n = 0) (h : ∀ r ∈ l, (r.length : Int) = n) (hi : i < l.length) (hk : k < (l.getD i []).length) (hb : (((l.getD i []).getD k []).length : Int) > 1024) : checkS l = 3 := by
  rw [chk_eq (by omega) hn h, if_pos (has_at (x := (l.getD i []).getD k []) (List.mem_flatten.2 ⟨_, getD_mem [] hi, getD_mem [] hk⟩) (by simpa using hb))]
theorem chk5 {l : Rows} {n : Int} {i : Nat} (h0 : 0 < l.length) (hn : ¬ n = 0) (h : ∀ r ∈ l, (r.length : Int) = n) (hi : l.length ≤ i) (ht : (l.take i).any (fun r => r.any longS) = false) (hb : ¬ (l.length : Int) > 24) (hc : ¬ n > 16) : checkS l = 0 := by
  have := any_all' hi ht
  rw [List.any_eq_false] at this
  rw [chk_eq h0 hn h, if_neg ?_, if_neg hb, if_neg hc]
  rw [has_not]
  · decide
  · intro t ht
    obtain ⟨r, hr, htr⟩ := List.mem_flatten.1 ht
    have h1 := this r hr
    rw [Bool.not_eq_true, List.any_eq_false] at h1
    have h2 := h1 t htr
    unfold longS at h2
    simpa using h2
def laidS (rows cols : Int) (fld : Int → Int → St) : Rows := (List.range rows.toNat).map fun (r : Nat) => (List.range cols.toNat).map fun (c : Nat) => fld (r : Int) (c : Int)
theorem laidS_next {cols : Int} {fld : Int → Int → St} {i : Nat} : (List.range (i + 1)).map (fun (r : Nat) => (List.range cols.toNat).map fun (c : Nat) => fld (r : Int) (c : Int)) = (List.range i).map (fun (r : Nat) => (List.range cols.toNat).map fun (c : Nat) => fld (r : Int) (c : Int)) ++ [(List.range cols.toNat).map fun (c : Nat) => fld (i : Int) (c : Int)] := by
  rw [List.range_succ, List.map_append]
  rfl
theorem row_next {α : Type} (g : Nat → α) (i : Nat) : (List.range (i + 1)).map g = (List.range i).map g ++ [g i] := by rw [List.range_succ, List.map_append]; rfl
structure ISh (P : Program) (K : Nat) (zc : Z) (v : Value) (rows cols : Int) (fld : Int → Int → St) : Prop where
  size : ∃ d g r, d ≤ K ∧ Meth P d v "parquetry/table.size" g r ∧ ∀ {w z}, zle zc z → In z w [] → Calls P g [r].toArray w fun e w' => e = .returned (.tuple #[.int .i64 rows, .int .i64 cols]) ∧ Sp (FF []) w z w' []
  field : ∃ d g r, d ≤ K ∧ Meth P d v "parquetry/table.field" g r ∧ ∀ {w z} (a b : Int), zle zc z → In z w [] → 0 ≤ a → 0 ≤ b → Calls P g [r, .int .i64 a, .int .i64 b].toArray w fun e w' => e = .returned (vstr (fld a b)) ∧ Sp (FF []) w z w' []
section
variable {P : Program} {N : Sz} {ops : Array Oper} {Q : Exit → Act → World → Prop} {o : Oper} {f : Fr} {w w0 : World} {k : Value → World → Prop} {X : Nat → Prop} {z zc : Z} {rs : List Res} {v : Value} {rows cols : Int} {fld : Int → Int → St} {K : Nat}
theorem S_ivsize (H : ISh P K zc v rows cols fld) (hS : Sp X w0 z w rs) (hz : zle zc z) (hK : K ≤ 10) (hP : 20 < P.types.size + Made.depth) {x : Operand} {ts : Array TypeId} (hg : o.guard = none)
    (ho : o.op = .call { callee := .invoke x "parquetry/table.size", args := #[], argTypes := ts }) (hxv : ev f x = some v)
    (hk : ∀ w', Sp X w0 z w' rs → k (.tuple #[.int .i64 rows, .int .i64 cols]) w') : Sv P N ops Q o f w k := by
  obtain ⟨d, g, r, h1, h2, h3⟩ := H.size
  refine S_meth (l := []) (vs := []) h2 (by omega) hg ho hxv rfl ((h3 (hz.trans (hS.zl [])) hS.out0).mono ?_)
  rintro e w' ⟨rfl, h4⟩
  exact ⟨_, rfl, hk w' (hS.call0 h4)⟩
theorem S_ivfield (H : ISh P K zc v rows cols fld) (hS : Sp X w0 z w rs) (hz : zle zc z) (hK : K ≤ 10) (hP : 20 < P.types.size + Made.depth) {x y1 y2 : Operand} {ts : Array TypeId} {a b : Int} (hg : o.guard = none)
    (ho : o.op = .call { callee := .invoke x "parquetry/table.field", args := #[y1, y2], argTypes := ts }) (hxv : ev f x = some v) (h1 : ev f y1 = some (.int .i64 a)) (h2 : ev f y2 = some (.int .i64 b)) (ha : 0 ≤ a) (hb : 0 ≤ b)
    (hk : ∀ w', Sp X w0 z w' rs → k (vstr (fld a b)) w') : Sv P N ops Q o f w k := by
  obtain ⟨d, g, r, h3, h4, h5⟩ := H.field
  refine S_meth (l := [y1, y2]) (vs := [.int .i64 a, .int .i64 b]) h4 (by omega) hg ho hxv (by simp [evs, h1, h2]) ((h5 a b (hz.trans (hS.zl [])) hS.out0 ha hb).mono ?_)
  rintro e w' ⟨rfl, h6⟩
  exact ⟨_, rfl, hk w' (hS.call0 h6)⟩
end
def fldS (l : Rows) (a b : Int) : St := (l.getD a.toNat []).getD b.toNat []
theorem fldS_a {l : Rows} {a b : Int} (h : a ≥ (l.length : Int)) : ([] : St) = fldS l a b := by
  unfold fldS
  have : l.getD a.toNat [] = [] := by simp only [List.getD]; rw [List.getElem?_eq_none (by omega)]; rfl
  rw [this]
  rfl
theorem fldS_b {l : Rows} {a b : Int} (h : b ≥ ((l.getD a.toNat []).length : Int)) : ([] : St) = fldS l a b := by
  unfold fldS
  simp only [List.getD] at h ⊢
  rw [List.getElem?_eq_none (l := l[a.toNat]?.getD []) (by omega)]
  rfl
def fillS (l : Rows) : Rows := laidS (max (l.length : Int) 1) (max (widthS l) 1) (fldS l)
theorem take_any {α : Type} {p : α → Bool} {l : List α} {i : Nat} (d : α) (hi : i < l.length) (h : (l.take i).any p = false) (hp : p (l.getD i d) = false) : (l.take (i + 1)).any p = false := by
  rw [List.take_succ_eq_append_getElem hi, List.any_append, h]
  simp only [List.getD, List.getElem?_eq_getElem hi, Option.getD_some] at hp
  simp [hp]
theorem any_all {α : Type} {p : α → Bool} {l : List α} {i : Nat} (hi : l.length ≤ i) (h : (l.take i).any p = false) : l.any p = false := by rwa [List.take_of_length_le hi] at h
def padS (l : Rows) : Rows := l.map fun r => r ++ List.replicate ((max (widthS l) 1) - (r.length : Int)).toNat []
def rfillS (l : Rows) : Rows := if l = [] then [[[]]] else padS l
theorem laidS_len (rows cols : Int) (fld : Int → Int → St) : (laidS rows cols fld).length = rows.toNat := by simp [laidS]
theorem laidS_row {rows cols : Int} {fld : Int → Int → St} {r : List St} (h : r ∈ laidS rows cols fld) : r.length = cols.toNat := by
  unfold laidS at h
  rw [List.mem_map] at h
  obtain ⟨i, _, rfl⟩ := h
  simp
theorem rfill_eq (l : Rows) : rfillS l = fillS l := by
  unfold rfillS
  split
  · rename_i h
    subst h
    rfl
  · rename_i h
    have hl : 1 ≤ l.length := by
      cases l with
      | nil => exact absurd rfl h
      | cons x r => simp
    unfold padS fillS laidS
    apply List.ext_getElem
    · simp
      omega
    · intro i h1 h2
      simp only [List.getElem_map, List.getElem_range]
      have hi : i < l.length := by simpa using h1
      have hw := widthS_ge l l[i] (List.getElem_mem hi)
      apply List.ext_getElem
      · simp
        omega
      · intro j h3 h4
        simp only [List.getElem_map, List.getElem_range, fldS, Int.toNat_natCast, List.getD, List.getElem?_eq_getElem hi, Option.getD_some]
        rcases Nat.lt_or_ge j l[i].length with hj | hj
        · rw [List.getElem_append_left hj, List.getElem?_eq_getElem hj]
          rfl
        · rw [List.getElem_append_right hj, List.getElem?_eq_none hj]
          simp
theorem fill_len (l : Rows) : ((fillS l).length : Int) = max (l.length : Int) 1 := by
  unfold fillS
  rw [laidS_len]
  omega
end Go.Proofs.YtaljccgfnmfhnaaGreatDoorG
set_option linter.all false
namespace Go.Proofs.YtaljccgfnmfhnaaGreatDoorG
open Go
section
variable {m n : Int} {f g : Int → Int → St}
theorem width_laid (hm : 1 ≤ m) (hn : 0 ≤ n) : widthS (laidS m n f) = n := by
  refine width_all (by rw [laidS_len]; omega) fun r hr => ?_
  rw [laidS_row hr]
  omega
end
theorem fill_w (l : Rows) : widthS (fillS l) = max (widthS l) 1 ∧ ((fillS l).length : Int) = max (l.length : Int) 1 := ⟨width_laid (by omega) (by omega), fill_len l⟩
structure Seen (P : Int → Int → Prop) (s : Int × Int) : Prop where
  r1 : 1 ≤ s.1
  c1 : 1 ≤ s.2
  r : s.1 = 1 ∨ ∃ a b : Int, P a b ∧ s.1 = a + 1
  c : s.2 = 1 ∨ ∃ a b : Int, P a b ∧ s.2 = b + 1
  all : ∀ a b : Int, P a b → a < s.1 ∧ b < s.2
theorem Seen.add {P : Int → Int → Prop} {s : Int × Int} (h : Seen P s) (i k : Int) (hi : 0 ≤ i) (hk : 0 ≤ k) : Seen (fun a b => P a b ∨ (a = i ∧ b = k)) (max s.1 (i + 1), max s.2 (k + 1)) := by
  obtain ⟨h1, h2, h3, h4, h5⟩ := h
  refine ⟨by simp only; omega, by simp only; omega, ?_, ?_, ?_⟩
  · by_cases hc : s.1 ≤ i + 1
    · right; exact ⟨i, k, .inr ⟨rfl, rfl⟩, by simp only; omega⟩
    · rcases h3 with h3 | ⟨a, b, h3, h6⟩
      · left; simp only; omega
      · right; exact ⟨a, b, .inl h3, by simp only; omega⟩
  · by_cases hc : s.2 ≤ k + 1
    · right; exact ⟨i, k, .inr ⟨rfl, rfl⟩, by simp only; omega⟩
    · rcases h4 with h4 | ⟨a, b, h4, h6⟩
      · left; simp only; omega
      · right; exact ⟨a, b, .inl h4, by simp only; omega⟩
  · rintro a b (h6 | ⟨rfl, rfl⟩)
    · have := h5 a b h6
      simp only
      omega
    · simp only
      omega
theorem Seen.of {P Q : Int → Int → Prop} {s : Int × Int} (h : Seen P s) (hPQ : ∀ a b, P a b ↔ Q a b) : Seen Q s := by
  have : P = Q := funext fun a => funext fun b => propext (hPQ a b)
  rwa [← this]
end Go.Proofs.YtaljccgfnmfhnaaGreatDoorG
set_option linter.all false
set_option maxHeartbeats 8000000
set_option maxRecDepth 100000
namespace Go.Proofs.YtaljccgfnmfhnaaGreatDoorG
open Go Go.RowKit
theorem ent89 (args : Array Value) (w : World) : (callFunc 89 args).run Tryz.prog w = .ok (.enter 89 args) w := enters Tryz.func89 (by kernel_rfl) rfl args w
theorem ent90 (args : Array Value) (w : World) : (callFunc 90 args).run Tryz.prog w = .ok (.enter 90 args) w := enters Tryz.func90 (by kernel_rfl) rfl args w
theorem agg3 (w : World) : (isAgg 3).run Tryz.prog w = .ok false w := by kernel_rfl
theorem ent57 (args : Array Value) (w : World) : (callFunc 57 args).run Tryz.prog w = .ok (.enter 57 args) w := enters Tryz.func57 (by kernel_rfl) rfl args w
theorem ent60 (args : Array Value) (w : World) : (callFunc 60 args).run Tryz.prog w = .ok (.enter 60 args) w := enters Tryz.func60 (by kernel_rfl) rfl args w
theorem bigP : 20 < Tryz.prog.types.size + Made.depth := by decide +kernel
theorem fld88_0 (a : Addr) (w : World) : (Instr.fieldAt 88 (.pointer (some a)) 0).run Tryz.prog w = .ok (.pointer (some (a.add 0))) w := by kernel_rfl
theorem ent55 (args : Array Value) (w : World) : (callFunc 55 args).run Tryz.prog w = .ok (.enter 55 args) w := enters Tryz.func55 (by kernel_rfl) rfl args w
theorem ent164 (args : Array Value) (w : World) : (callFunc 164 args).run Tryz.prog w = .ok (.enter 164 args) w := enters Tryz.func164 (by kernel_rfl) rfl args w
theorem ent163 (args : Array Value) (w : World) : (callFunc 163 args).run Tryz.prog w = .ok (.enter 163 args) w := enters Tryz.func163 (by kernel_rfl) rfl args w
theorem conc88 : Tryz.prog.concrete 88 = true := by kernel_rfl
theorem ent52 (args : Array Value) (w : World) : (callFunc 52 args).run Tryz.prog w = .ok (.enter 52 args) w := enters Tryz.func52 (by kernel_rfl) rfl args w
theorem ent64 (args : Array Value) (w : World) : (callFunc 64 args).run Tryz.prog w = .ok (.enter 64 args) w := enters Tryz.func64 (by kernel_rfl) rfl args w
theorem ent91 (args : Array Value) (w : World) : (callFunc 91 args).run Tryz.prog w = .ok (.enter 91 args) w := enters Tryz.func91 (by kernel_rfl) rfl args w
theorem alloc3 (w : World) : (Instr.alloc 3 true (.tuple #[])).run Tryz.prog w = .ok (.pointer (some ⟨w.heap.size, 0, none⟩)) (w.alloc (.cells [.int .i64 0].toArray 3)) := by kernel_rfl
theorem size3 (w : World) : (sizeOf 3).run Tryz.prog w = .ok 1 w := by kernel_rfl
theorem ent56 (args : Array Value) (w : World) : (callFunc 56 args).run Tryz.prog w = .ok (.enter 56 args) w := enters Tryz.func56 (by kernel_rfl) rfl args w
theorem ent59 (args : Array Value) (w : World) : (callFunc 59 args).run Tryz.prog w = .ok (.enter 59 args) w := enters Tryz.func59 (by kernel_rfl) rfl args w
theorem ent58 (args : Array Value) (w : World) : (callFunc 58 args).run Tryz.prog w = .ok (.enter 58 args) w := enters Tryz.func58 (by kernel_rfl) rfl args w
end Go.Proofs.YtaljccgfnmfhnaaGreatDoorG
set_option linter.all false
set_option maxHeartbeats 8000000
set_option maxRecDepth 100000
namespace Go.Proofs.YtaljccgfnmfhnaaGreatDoorG
open Go Go.RowKit
theorem width_calls (a0 : List (List St)) (Aa0 : Option Addr) (ca0 : Nat) (z : Z) (w : World) (hI : In z w []) (hra0 : Rd (kslice kstr) z Aa0 a0) (hca0 : Cap Aa0 a0.length ca0)  :
    Calls Tryz.prog 55 #[.slice Aa0 a0.length ca0] w fun e w' => e = .returned (.int .i64 (widthS a0)) ∧ Sp (FF []) w z w' [] := by
 have hla0 := hca0.le
 have hma0 := hca0.mx
 have hS := hI.sp
 refine Calls_of (vs := [.slice Aa0 a0.length ca0]) (N := 18) Tryz.func55 rfl rfl (Nat.le_of_ble_eq_true rfl) ?_
 refine C_seq <| C_region <| wv rfl rfl rfl (R_assign rfl rfl) ?_
 refine W_nil <| E_then <| C_seq <| C_region <| wv rfl rfl rfl (R_assign rfl rfl) ?_
 refine W_nil <| E_then <| C_seq <| C_seq <| C_region <| wv rfl rfl rfl (R_move rfl rfl) <| wv rfl rfl rfl (R_len rfl rfl Tryz.underlying22) <| wv rfl rfl rfl (R_move rfl rfl) ?_
 refine W_nil <| E_then <| C_block ?_
 have hs2 : 0 = widthS (a0.take (0 : Nat)) := by rfl
 refine C_fr [(3, .int .i64 0), (6, .slice Aa0 a0.length ca0), (7, .int .i64 (a0.length : Int)), (8, .int .i64 0)] rfl ?_
 refine C_loop (fun m_ f_ w_ => ∃ (i : Nat), f_ = [(3, .int .i64 (widthS (a0.take i))), (6, .slice Aa0 a0.length ca0), (7, .int .i64 (a0.length : Int)), (8, .int .i64 (i : Int))] ∧ i ≤ a0.length ∧ m_ = a0.length - i ∧ Sp (FF []) w z w_ []) (a0.length - (0 : Nat)) ⟨(0 : Nat), (by rw [← hs2] <;> rfl), (by omega), rfl, hS.fin [] (by decide) rfl⟩ ?_
 rintro m_ f_ w1 ⟨i, rfl, hI0_0, rfl, hS⟩
 refine C_seq <| C_region <| wv rfl rfl rfl (R_bin rfl rfl rfl rfl rfl) ?_
 refine W_nil <| E_then <| C_seq <| C_ite rfl (fun hC0 => ?_) (fun hC0 => ?_)
 ·have hC0p : (i : Int) < (a0.length : Int) := by simpa using hC0
  refine C_skip <| E_then <| C_seq <| C_block <| C_seq <| C_region ?_
  obtain ⟨q3, csq3, hAq3, ⟨Aq3, cq3, rfl, hcq3, hrq3⟩, hkq3⟩ := hra0.at_ [] (i := (i : Int)) (by omega) (by omega)
  have hkq3 : ∀ (j_ : Nat) (u_ : Value), ([.slice Aq3 (a0.getD i []).length cq3] : List Value)[j_]? = some u_ → cz z (q3.add (i * 1 + j_)) = some u_ := hkq3
  have hrq3 : Rd kstr z Aq3 ((a0.getD i [])) := hrq3
  have hcq3 : Cap Aq3 ((a0.getD i [])).length cq3 := hcq3
  have hlq3 := hcq3.le
  have hmq3 := hcq3.mx
  refine wv rfl rfl rfl (R_idx rfl rfl hAq3 rfl Tryz.underlying22 size43 (by omega) (by omega)) <| wv rfl rfl rfl (R_load1 rfl rfl agg43 (hS.sub.cell (hkq3 0 _ rfl))) <| wv rfl rfl rfl (R_assign rfl rfl) ?_
  refine W_nil <| E_then <| C_region <| wv rfl rfl rfl (R_move rfl rfl) <| wv rfl rfl rfl (R_move rfl rfl) <| wv rfl rfl rfl (R_len rfl rfl Tryz.underlying43) <| wv rfl rfl rfl (R_max rfl rfl) <| wv rfl rfl rfl (R_assign rfl rfl) ?_
  refine W_nil <| E_block_normal <| E_then (C_fr [(3, .int .i64 (max (widthS (a0.take i)) ((a0.getD i []).length : Int))), (6, .slice Aa0 a0.length ca0), (7, .int .i64 (a0.length : Int)), (8, .int .i64 (i : Int))] rfl ?_)
  refine C_region <| wv rfl rfl rfl (R_add64 rfl rfl rfl (by omega) (by omega)) <| wv rfl rfl rfl (R_move rfl rfl) ?_
  refine W_nil ?_
  have hs4 : max (widthS (a0.take i)) ((a0.getD i []).length : Int) = widthS (a0.take (i + 1 : Nat)) := by exact (widthS_next a0 i (by omega)).symm
  refine E_round [3, 6, 7, 8] ?_ ⟨(i + 1 : Nat), (by rw [← hs4] <;> rfl), (by omega), rfl, hS.fin [] (by decide) rfl⟩
  omega
 ·have hC0p : ¬ ((i : Int) < (a0.length : Int)) := by simpa using hC0
  refine C_exit <| E_then_exit <| E_then_exit <| E_block_hit ?_
  refine E_then <| C_seq <| C_region <| wv rfl rfl rfl (R_move rfl rfl) <| wv rfl rfl rfl (R_assign rfl rfl) ?_
  refine W_nil <| E_then (C_fr [(2, .int .i64 (widthS (a0.take i)))] rfl ?_)
  refine C_ret <| E_ret1 rfl rfl ?_
  exact ⟨Lret1 (Lint (show widthS (a0.take i) = widthS a0 by rw [← widthS_all a0 i (by omega)])), hS.fin [] (by decide) rfl⟩
theorem rwidth_calls (a0 : List (List St)) (Aa0 : Option Addr) (ca0 : Nat) (z : Z) (w : World) (hI : In z w []) (hra0 : Rd (kslice kstr) z Aa0 a0) (hca0 : Cap Aa0 a0.length ca0)  :
    Calls Tryz.prog 64 #[.slice Aa0 a0.length ca0] w fun e w' => e = .returned (.int .i64 (widthS a0)) ∧ Sp (FF []) w z w' [] := by
 have hla0 := hca0.le
 have hma0 := hca0.mx
 have hS := hI.sp
 refine Calls_of (vs := [.slice Aa0 a0.length ca0]) (N := 24) Tryz.func64 rfl rfl (Nat.le_of_ble_eq_true rfl) ?_
 refine C_seq <| C_region <| wv rfl rfl rfl (R_assign rfl rfl) ?_
 refine W_nil <| E_then <| C_seq <| C_region <| wv rfl rfl rfl (R_assign rfl rfl) ?_
 refine W_nil <| E_then <| C_seq <| C_seq <| C_region <| wv rfl rfl rfl (R_assign rfl rfl) ?_
 refine W_nil <| E_then <| C_block ?_
 have hs2 : 0 = widthS (a0.take (0 : Nat)) := by rfl
 refine C_fr [(0, .slice Aa0 a0.length ca0), (3, .int .i64 0), (4, .int .i64 0)] rfl ?_
 refine C_loop (fun m_ f_ w_ => ∃ (i : Nat), f_ = [(0, .slice Aa0 a0.length ca0), (3, .int .i64 (widthS (a0.take i))), (4, .int .i64 (i : Int))] ∧ i ≤ a0.length ∧ m_ = a0.length - i ∧ Sp (FF []) w z w_ []) (a0.length - (0 : Nat)) ⟨(0 : Nat), (by rw [← hs2] <;> rfl), (by omega), rfl, hS.fin [] (by decide) rfl⟩ ?_
 rintro m_ f_ w1 ⟨i, rfl, hI0_0, rfl, hS⟩
 refine C_seq <| C_seq <| C_region <| wv rfl rfl rfl (R_move rfl rfl) <| wv rfl rfl rfl (R_move rfl rfl) <| wv rfl rfl rfl (R_len rfl rfl Tryz.underlying22) <| wv rfl rfl rfl (R_bin rfl rfl rfl rfl rfl) ?_
 refine W_nil <| E_then <| C_ite rfl (fun hC0 => ?_) (fun hC0 => ?_)
 ·have hC0p : (i : Int) < (a0.length : Int) := by simpa using hC0
  refine C_skip <| E_then <| C_seq <| C_block <| C_seq <| C_region <| wv rfl rfl rfl (R_move rfl rfl) <| wv rfl rfl rfl (R_move rfl rfl) ?_
  obtain ⟨q3, csq3, hAq3, ⟨Aq3, cq3, rfl, hcq3, hrq3⟩, hkq3⟩ := hra0.at_ [] (i := (i : Int)) (by omega) (by omega)
  have hkq3 : ∀ (j_ : Nat) (u_ : Value), ([.slice Aq3 (a0.getD i []).length cq3] : List Value)[j_]? = some u_ → cz z (q3.add (i * 1 + j_)) = some u_ := hkq3
  have hrq3 : Rd kstr z Aq3 ((a0.getD i [])) := hrq3
  have hcq3 : Cap Aq3 ((a0.getD i [])).length cq3 := hcq3
  have hlq3 := hcq3.le
  have hmq3 := hcq3.mx
  refine wv rfl rfl rfl (R_idx rfl rfl hAq3 rfl Tryz.underlying22 size43 (by omega) (by omega)) <| wv rfl rfl rfl (R_load1 rfl rfl agg43 (hS.sub.cell (hkq3 0 _ rfl))) <| wv rfl rfl rfl (R_len rfl rfl Tryz.underlying43) <| wv rfl rfl rfl (R_move rfl rfl) <| wv rfl rfl rfl (R_bin rfl rfl rfl rfl rfl) ?_
  refine W_nil <| E_then (C_fr [(0, .slice Aa0 a0.length ca0), (3, .int .i64 (widthS (a0.take i))), (4, .int .i64 (i : Int)), (17, .bool (decide (((a0.getD i []).length : Int) > (widthS (a0.take i)))))] rfl ?_)
  refine C_ite rfl (fun hC1 => ?_) (fun hC1 => ?_)
  ·have hC1p : ((a0.getD i []).length : Int) > (widthS (a0.take i)) := by simpa using hC1
   refine C_region <| wv rfl rfl rfl (R_move rfl rfl) <| wv rfl rfl rfl (R_move rfl rfl) ?_
   obtain ⟨q4, csq4, hAq4, ⟨Aq4, cq4, rfl, hcq4, hrq4⟩, hkq4⟩ := hra0.at_ [] (i := (i : Int)) (by omega) (by omega)
   have hkq4 : ∀ (j_ : Nat) (u_ : Value), ([.slice Aq4 (a0.getD i []).length cq4] : List Value)[j_]? = some u_ → cz z (q4.add (i * 1 + j_)) = some u_ := hkq4
   have hrq4 : Rd kstr z Aq4 ((a0.getD i [])) := hrq4
   have hcq4 : Cap Aq4 ((a0.getD i [])).length cq4 := hcq4
   have hlq4 := hcq4.le
   have hmq4 := hcq4.mx
   refine wv rfl rfl rfl (R_idx rfl rfl hAq4 rfl Tryz.underlying22 size43 (by omega) (by omega)) <| wv rfl rfl rfl (R_load1 rfl rfl agg43 (hS.sub.cell (hkq4 0 _ rfl))) <| wv rfl rfl rfl (R_len rfl rfl Tryz.underlying43) <| wv rfl rfl rfl (R_assign rfl rfl) ?_
   refine W_nil <| E_block_normal <| E_then (C_fr [(0, .slice Aa0 a0.length ca0), (3, .int .i64 ((a0.getD i []).length : Int)), (4, .int .i64 (i : Int))] rfl ?_)
   refine C_region <| wv rfl rfl rfl (R_move rfl rfl) <| wv rfl rfl rfl (R_add64 rfl rfl rfl (by omega) (by omega)) <| wv rfl rfl rfl (R_assign rfl rfl) ?_
   refine W_nil ?_
   have hs5 : ((a0.getD i []).length : Int) = widthS (a0.take (i + 1 : Nat)) := by rw [widthS_next a0 i (by omega)]; omega
   refine E_round [0, 3, 4] ?_ ⟨(i + 1 : Nat), (by rw [← hs5] <;> rfl), (by omega), rfl, hS.fin [] (by decide) rfl⟩
   omega
  ·have hC1p : ¬ (((a0.getD i []).length : Int) > (widthS (a0.take i))) := by simpa using hC1
   refine C_skip <| E_block_normal <| E_then <| C_region <| wv rfl rfl rfl (R_move rfl rfl) <| wv rfl rfl rfl (R_add64 rfl rfl rfl (by omega) (by omega)) <| wv rfl rfl rfl (R_assign rfl rfl) ?_
   refine W_nil ?_
   have hs6 : widthS (a0.take i) = widthS (a0.take (i + 1 : Nat)) := by rw [widthS_next a0 i (by omega)]; omega
   refine E_round [0, 3, 4] ?_ ⟨(i + 1 : Nat), (by rw [← hs6] <;> rfl), (by omega), rfl, hS.fin [] (by decide) rfl⟩
   omega
 ·have hC0p : ¬ ((i : Int) < (a0.length : Int)) := by simpa using hC0
  refine C_exit <| E_then_exit <| E_then_exit <| E_block_hit ?_
  refine E_then (C_fr [(3, .int .i64 (widthS (a0.take i)))] rfl ?_)
  refine C_seq <| C_region <| wv rfl rfl rfl (R_move rfl rfl) <| wv rfl rfl rfl (R_assign rfl rfl) ?_
  refine W_nil <| E_then <| C_ret <| E_ret1 rfl rfl ?_
  exact ⟨Lret1 (Lint (show widthS (a0.take i) = widthS a0 by rw [← widthS_all a0 i (by omega)])), hS.fin [] (by decide) rfl⟩
theorem cfr_idx_calls (a0 : List (List St)) (Aa0 : Option Addr) (ca0 : Nat) (ga1 : Nat) (ka1 : List Value) (Ra1 : Res) (zca1 : Z) (pa1 : List St → Bool) (z : Z) (w : World) (hI : In z w [Ra1]) (hra0 : Rd (kslice kstr) z Aa0 a0) (hca0 : Cap Aa0 a0.length ca0) (hfa1 : FV Tryz.prog zca1 ga1 ka1 (fun z_ (x_ : List St) vs_ => ∃ A_ c_, vs_ = [.slice A_ x_.length c_] ∧ Cap A_ x_.length c_ ∧ Rd kstr z_ A_ x_) (fun (_ _ : Unit) => Ra1) (fun _ x_ => True) (fun _ _ => ()) (fun _ x_ => .bool (pa1 x_))) (hza1 : zle zca1 z)  :
    Calls Tryz.prog 89 #[.slice Aa0 a0.length ca0, .func (.func ga1) #[] ka1.toArray] w fun e w' => e = .returned (.int .i64 (idxF pa1 a0 0)) ∧ Sp (FF [Ra1]) w z w' [Ra1] := by
 have hla0 := hca0.le
 have hma0 := hca0.mx
 have hS := hI.sp
 refine Calls_of (vs := [.slice Aa0 a0.length ca0, .func (.func ga1) #[] ka1.toArray]) (N := 19) Tryz.func89 rfl rfl (Nat.le_of_ble_eq_true rfl) ?_
 refine C_seq <| C_region <| wv rfl rfl rfl (R_assign rfl rfl) ?_
 refine W_nil <| E_then <| C_seq <| C_seq <| C_region <| wv rfl rfl rfl (R_move rfl rfl) <| wv rfl rfl rfl (R_len rfl rfl Tryz.underlying22) <| wv rfl rfl rfl (R_move rfl rfl) ?_
 refine W_nil <| E_then <| C_block <| C_fr [(0, .slice Aa0 a0.length ca0), (1, .func (.func ga1) #[] ka1.toArray), (7, .int .i64 (a0.length : Int)), (8, .int .i64 0)] rfl ?_
 refine C_loop (fun m_ f_ w_ => ∃ (i : Nat), f_ = [(0, .slice Aa0 a0.length ca0), (1, .func (.func ga1) #[] ka1.toArray), (7, .int .i64 (a0.length : Int)), (8, .int .i64 (i : Int))] ∧ i ≤ a0.length ∧ idxF pa1 (a0.drop i) i = idxF pa1 a0 0 ∧ m_ = a0.length - i ∧ Sp (FF [Ra1]) w z w_ [Ra1]) (a0.length - (0 : Nat)) ⟨(0 : Nat), rfl, (by omega), (by rfl), rfl, hS.fin [0] (by decide) rfl⟩ ?_
 rintro m_ f_ w1 ⟨i, rfl, hI0_0, hI0_1, rfl, hS⟩
 refine C_seq <| C_region <| wv rfl rfl rfl (R_bin rfl rfl rfl rfl rfl) ?_
 refine W_nil <| E_then <| C_seq <| C_ite rfl (fun hC0 => ?_) (fun hC0 => ?_)
 ·have hC0p : (i : Int) < (a0.length : Int) := by simpa using hC0
  refine C_skip <| E_then <| C_seq <| C_block <| C_seq <| C_region <| wv rfl rfl rfl (R_move rfl rfl) <| wv rfl rfl rfl (R_assign rfl rfl) ?_
  refine W_nil <| E_then <| C_seq <| C_region <| wv rfl rfl rfl (R_move rfl rfl) <| wv rfl rfl rfl (R_move rfl rfl) <| wv rfl rfl rfl (R_move rfl rfl) ?_
  obtain ⟨q2, csq2, hAq2, ⟨Aq2, cq2, rfl, hcq2, hrq2⟩, hkq2⟩ := hra0.at_ [] (i := (i : Int)) (by omega) (by omega)
  have hkq2 : ∀ (j_ : Nat) (u_ : Value), ([.slice Aq2 (a0.getD i []).length cq2] : List Value)[j_]? = some u_ → cz z (q2.add (i * 1 + j_)) = some u_ := hkq2
  have hrq2 : Rd kstr z Aq2 ((a0.getD i [])) := hrq2
  have hcq2 : Cap Aq2 ((a0.getD i [])).length cq2 := hcq2
  have hlq2 := hcq2.le
  have hmq2 := hcq2.mx
  refine wv rfl rfl rfl (R_idx rfl rfl hAq2 rfl Tryz.underlying22 size43 (by omega) (by omega)) <| wv rfl rfl rfl (R_load1 rfl rfl agg43 (hS.sub.cell (hkq2 0 _ rfl))) ?_
  refine W_cons rfl (by decide) (S_cb (s := ()) (y := ()) hfa1 hS 0 rfl hza1 ((a0.getD i [])) (by trivial) rfl rfl rfl rfl ⟨_, _, rfl, hcq2, hrq2.mono (hS.zl [0])⟩ (fun y4 w3 hS => ?_))
  refine W_nil <| E_then (C_fr [(0, .slice Aa0 a0.length ca0), (1, .func (.func ga1) #[] ka1.toArray), (5, .int .i64 (i : Int)), (7, .int .i64 (a0.length : Int)), (8, .int .i64 (i : Int)), (16, .bool (pa1 (a0.getD i [])))] rfl ?_)
  refine C_ite rfl (fun hC1 => ?_) (fun hC1 => ?_)
  ·refine C_seq <| C_region <| wv rfl rfl rfl (R_move rfl rfl) <| wv rfl rfl rfl (R_assign rfl rfl) ?_
   refine W_nil <| E_then (C_fr [(4, .int .i64 (i : Int))] rfl ?_)
   refine C_ret <| E_block_ret <| E_then_ret <| E_then_ret <| E_block_ret <| E_then_ret <| E_ret1 rfl rfl ?_
   exact ⟨Lret1 (Lint (show (i : Int) = idxF pa1 a0 0 by (rw [← hI0_1]; exact (idxF_hit (d := []) (by omega) (by assumption)).symm))), hS.fin [0] (by decide) rfl⟩
  ·refine C_skip <| E_block_normal <| E_then <| C_region <| wv rfl rfl rfl (R_add64 rfl rfl rfl (by omega) (by omega)) <| wv rfl rfl rfl (R_move rfl rfl) ?_
   refine W_nil <| E_round [0, 1, 7, 8] ?_ ⟨(i + 1 : Nat), rfl, (by omega), (by rw [← hI0_1, idxF_next (n := i) (d := []) (by omega) (by assumption)] <;> rfl), rfl, hS.fin [0] (by decide) rfl⟩
   omega
 ·have hC0p : ¬ ((i : Int) < (a0.length : Int)) := by simpa using hC0
  refine C_exit <| E_then_exit <| E_then_exit <| E_block_hit ?_
  refine E_then (C_fr [] rfl ?_)
  refine C_seq <| C_region <| wv rfl rfl rfl (R_assign rfl rfl) ?_
  refine W_nil <| E_then <| C_ret <| E_ret1 rfl rfl ?_
  exact ⟨Lret1 (Lint (show (-1) = idxF pa1 a0 0 by (rw [← hI0_1]; exact (idxF_end (by omega)).symm))), hS.fin [0] (by decide) rfl⟩
theorem cfr_has_calls (a0 : List (List St)) (Aa0 : Option Addr) (ca0 : Nat) (ga1 : Nat) (ka1 : List Value) (Ra1 : Res) (zca1 : Z) (pa1 : List St → Bool) (z : Z) (w : World) (hI : In z w [Ra1]) (hra0 : Rd (kslice kstr) z Aa0 a0) (hca0 : Cap Aa0 a0.length ca0) (hfa1 : FV Tryz.prog zca1 ga1 ka1 (fun z_ (x_ : List St) vs_ => ∃ A_ c_, vs_ = [.slice A_ x_.length c_] ∧ Cap A_ x_.length c_ ∧ Rd kstr z_ A_ x_) (fun (_ _ : Unit) => Ra1) (fun _ x_ => True) (fun _ _ => ()) (fun _ x_ => .bool (pa1 x_))) (hza1 : zle zca1 z)  :
    Calls Tryz.prog 56 #[.slice Aa0 a0.length ca0, .func (.func ga1) #[] ka1.toArray] w fun e w' => e = .returned (.bool (hasF pa1 a0)) ∧ Sp (FF [Ra1]) w z w' [Ra1] := by
 have hla0 := hca0.le
 have hma0 := hca0.mx
 have hS := hI.sp
 refine Calls_of (vs := [.slice Aa0 a0.length ca0, .func (.func ga1) #[] ka1.toArray]) (N := 9) Tryz.func56 rfl rfl (Nat.le_of_ble_eq_true rfl) ?_
 refine C_seq <| C_region <| wv rfl rfl rfl (R_assign rfl rfl) ?_
 refine W_nil <| E_then <| C_seq <| C_region <| wv rfl rfl rfl (R_move rfl rfl) <| wv rfl rfl rfl (R_move rfl rfl) ?_
 refine W_cons rfl (by decide) (Sv_call rfl rfl rfl ent89 ?_)
 refine (cfr_idx_calls a0 Aa0 ca0 ga1 ka1 Ra1 zca1 pa1 _ _ (hS.out [0] (by decide)) (hra0.mono (hS.zl [0])) hca0 hfa1 (hza1.trans (hS.zl [0])) ).mono ?_
 rintro e_ w1 ⟨rfl, hS_⟩
 refine ⟨_, rfl, ?_⟩
 have hS := hS.call [0] (by decide) hS_
 refine wv rfl rfl rfl (R_bin rfl rfl rfl rfl rfl) <| wv rfl rfl rfl (R_assign rfl rfl) ?_
 refine W_nil <| E_then (C_fr [(4, .bool (decide ((idxF pa1 a0 0) ≥ 0)))] rfl ?_)
 refine C_ret <| E_ret1 rfl rfl ?_
 exact ⟨Lret1 (Lbool (show (decide ((idxF pa1 a0 0) ≥ 0)) = (hasF pa1 a0) by rfl)), hS.fin [0] (by decide) rfl⟩
theorem cfs_idx_calls (a0 : List St) (Aa0 : Option Addr) (ca0 : Nat) (ga1 : Nat) (ka1 : List Value) (Ra1 : Res) (zca1 : Z) (pa1 : St → Bool) (z : Z) (w : World) (hI : In z w [Ra1]) (hra0 : Rd kstr z Aa0 a0) (hca0 : Cap Aa0 a0.length ca0) (hfa1 : FV Tryz.prog zca1 ga1 ka1 (fun z_ (x_ : St) vs_ => vs_ = [vstr x_]) (fun (_ _ : Unit) => Ra1) (fun _ x_ => True) (fun _ _ => ()) (fun _ x_ => .bool (pa1 x_))) (hza1 : zle zca1 z)  :
    Calls Tryz.prog 90 #[.slice Aa0 a0.length ca0, .func (.func ga1) #[] ka1.toArray] w fun e w' => e = .returned (.int .i64 (idxF pa1 a0 0)) ∧ Sp (FF [Ra1]) w z w' [Ra1] := by
 have hla0 := hca0.le
 have hma0 := hca0.mx
 have hS := hI.sp
 refine Calls_of (vs := [.slice Aa0 a0.length ca0, .func (.func ga1) #[] ka1.toArray]) (N := 19) Tryz.func90 rfl rfl (Nat.le_of_ble_eq_true rfl) ?_
 refine C_seq <| C_region <| wv rfl rfl rfl (R_assign rfl rfl) ?_
 refine W_nil <| E_then <| C_seq <| C_seq <| C_region <| wv rfl rfl rfl (R_move rfl rfl) <| wv rfl rfl rfl (R_len rfl rfl Tryz.underlying43) <| wv rfl rfl rfl (R_move rfl rfl) ?_
 refine W_nil <| E_then <| C_block <| C_fr [(0, .slice Aa0 a0.length ca0), (1, .func (.func ga1) #[] ka1.toArray), (7, .int .i64 (a0.length : Int)), (8, .int .i64 0)] rfl ?_
 refine C_loop (fun m_ f_ w_ => ∃ (i : Nat), f_ = [(0, .slice Aa0 a0.length ca0), (1, .func (.func ga1) #[] ka1.toArray), (7, .int .i64 (a0.length : Int)), (8, .int .i64 (i : Int))] ∧ i ≤ a0.length ∧ idxF pa1 (a0.drop i) i = idxF pa1 a0 0 ∧ m_ = a0.length - i ∧ Sp (FF [Ra1]) w z w_ [Ra1]) (a0.length - (0 : Nat)) ⟨(0 : Nat), rfl, (by omega), (by rfl), rfl, hS.fin [0] (by decide) rfl⟩ ?_
 rintro m_ f_ w1 ⟨i, rfl, hI0_0, hI0_1, rfl, hS⟩
 refine C_seq <| C_region <| wv rfl rfl rfl (R_bin rfl rfl rfl rfl rfl) ?_
 refine W_nil <| E_then <| C_seq <| C_ite rfl (fun hC0 => ?_) (fun hC0 => ?_)
 ·have hC0p : (i : Int) < (a0.length : Int) := by simpa using hC0
  refine C_skip <| E_then <| C_seq <| C_block <| C_seq <| C_region <| wv rfl rfl rfl (R_move rfl rfl) <| wv rfl rfl rfl (R_assign rfl rfl) ?_
  refine W_nil <| E_then <| C_seq <| C_region <| wv rfl rfl rfl (R_move rfl rfl) <| wv rfl rfl rfl (R_move rfl rfl) <| wv rfl rfl rfl (R_move rfl rfl) ?_
  obtain ⟨q2, csq2, hAq2, rfl, hkq2⟩ := hra0.at_ ([] : St) (i := (i : Int)) (by omega) (by omega)
  have hkq2 : ∀ (j_ : Nat) (u_ : Value), ([vstr (a0.getD i ([] : St))] : List Value)[j_]? = some u_ → cz z (q2.add (i * 1 + j_)) = some u_ := hkq2
  refine wv rfl rfl rfl (R_idx rfl rfl hAq2 rfl Tryz.underlying43 size9 (by omega) (by omega)) <| wv rfl rfl rfl (R_load1 rfl rfl agg9 (hS.sub.cell (hkq2 0 _ rfl))) ?_
  refine W_cons rfl (by decide) (S_cb (s := ()) (y := ()) hfa1 hS 0 rfl hza1 ((a0.getD i ([] : St))) (by trivial) rfl rfl rfl rfl rfl (fun y4 w3 hS => ?_))
  refine W_nil <| E_then (C_fr [(0, .slice Aa0 a0.length ca0), (1, .func (.func ga1) #[] ka1.toArray), (5, .int .i64 (i : Int)), (7, .int .i64 (a0.length : Int)), (8, .int .i64 (i : Int)), (16, .bool (pa1 (a0.getD i ([] : St))))] rfl ?_)
  refine C_ite rfl (fun hC1 => ?_) (fun hC1 => ?_)
  ·refine C_seq <| C_region <| wv rfl rfl rfl (R_move rfl rfl) <| wv rfl rfl rfl (R_assign rfl rfl) ?_
   refine W_nil <| E_then (C_fr [(4, .int .i64 (i : Int))] rfl ?_)
   refine C_ret <| E_block_ret <| E_then_ret <| E_then_ret <| E_block_ret <| E_then_ret <| E_ret1 rfl rfl ?_
   exact ⟨Lret1 (Lint (show (i : Int) = idxF pa1 a0 0 by (rw [← hI0_1]; exact (idxF_hit (d := ([] : St)) (by omega) (by assumption)).symm))), hS.fin [0] (by decide) rfl⟩
  ·refine C_skip <| E_block_normal <| E_then <| C_region <| wv rfl rfl rfl (R_add64 rfl rfl rfl (by omega) (by omega)) <| wv rfl rfl rfl (R_move rfl rfl) ?_
   refine W_nil <| E_round [0, 1, 7, 8] ?_ ⟨(i + 1 : Nat), rfl, (by omega), (by rw [← hI0_1, idxF_next (n := i) (d := ([] : St)) (by omega) (by assumption)] <;> rfl), rfl, hS.fin [0] (by decide) rfl⟩
   omega
 ·have hC0p : ¬ ((i : Int) < (a0.length : Int)) := by simpa using hC0
  refine C_exit <| E_then_exit <| E_then_exit <| E_block_hit ?_
  refine E_then (C_fr [] rfl ?_)
  refine C_seq <| C_region <| wv rfl rfl rfl (R_assign rfl rfl) ?_
  refine W_nil <| E_then <| C_ret <| E_ret1 rfl rfl ?_
  exact ⟨Lret1 (Lint (show (-1) = idxF pa1 a0 0 by (rw [← hI0_1]; exact (idxF_end (by omega)).symm))), hS.fin [0] (by decide) rfl⟩
theorem cfs_has_calls (a0 : List St) (Aa0 : Option Addr) (ca0 : Nat) (ga1 : Nat) (ka1 : List Value) (Ra1 : Res) (zca1 : Z) (pa1 : St → Bool) (z : Z) (w : World) (hI : In z w [Ra1]) (hra0 : Rd kstr z Aa0 a0) (hca0 : Cap Aa0 a0.length ca0) (hfa1 : FV Tryz.prog zca1 ga1 ka1 (fun z_ (x_ : St) vs_ => vs_ = [vstr x_]) (fun (_ _ : Unit) => Ra1) (fun _ x_ => True) (fun _ _ => ()) (fun _ x_ => .bool (pa1 x_))) (hza1 : zle zca1 z)  :
    Calls Tryz.prog 58 #[.slice Aa0 a0.length ca0, .func (.func ga1) #[] ka1.toArray] w fun e w' => e = .returned (.bool (hasF pa1 a0)) ∧ Sp (FF [Ra1]) w z w' [Ra1] := by
 have hla0 := hca0.le
 have hma0 := hca0.mx
 have hS := hI.sp
 refine Calls_of (vs := [.slice Aa0 a0.length ca0, .func (.func ga1) #[] ka1.toArray]) (N := 9) Tryz.func58 rfl rfl (Nat.le_of_ble_eq_true rfl) ?_
 refine C_seq <| C_region <| wv rfl rfl rfl (R_assign rfl rfl) ?_
 refine W_nil <| E_then <| C_seq <| C_region <| wv rfl rfl rfl (R_move rfl rfl) <| wv rfl rfl rfl (R_move rfl rfl) ?_
 refine W_cons rfl (by decide) (Sv_call rfl rfl rfl ent90 ?_)
 refine (cfs_idx_calls a0 Aa0 ca0 ga1 ka1 Ra1 zca1 pa1 _ _ (hS.out [0] (by decide)) (hra0.mono (hS.zl [0])) hca0 hfa1 (hza1.trans (hS.zl [0])) ).mono ?_
 rintro e_ w1 ⟨rfl, hS_⟩
 refine ⟨_, rfl, ?_⟩
 have hS := hS.call [0] (by decide) hS_
 refine wv rfl rfl rfl (R_bin rfl rfl rfl rfl rfl) <| wv rfl rfl rfl (R_assign rfl rfl) ?_
 refine W_nil <| E_then (C_fr [(4, .bool (decide ((idxF pa1 a0 0) ≥ 0)))] rfl ?_)
 refine C_ret <| E_ret1 rfl rfl ?_
 exact ⟨Lret1 (Lbool (show (decide ((idxF pa1 a0 0) ≥ 0)) = (hasF pa1 a0) by rfl)), hS.fin [0] (by decide) rfl⟩
theorem tcheck1_calls (a0 : List St) (Aa0 : Option Addr) (ca0 : Nat) (ba1 : Nat) (a1 : Int) (z : Z) (w : World) (hI : In z w [bR ba1 3 [.int .i64 a1]]) (hra0 : Rd kstr z Aa0 a0) (hca0 : Cap Aa0 a0.length ca0)  :
    Calls Tryz.prog 57 #[.slice Aa0 a0.length ca0, .pointer (some ⟨ba1, 0, none⟩)] w fun e w' => e = .returned (.bool ((a0.length : Int) != a1)) ∧ Sp (FF [bR ba1 3 [.int .i64 a1]]) w z w' [bR ba1 3 [.int .i64 a1]] := by
 have hla0 := hca0.le
 have hma0 := hca0.mx
 have hS := hI.sp
 refine Calls_of (vs := [.slice Aa0 a0.length ca0, .pointer (some ⟨ba1, 0, none⟩)]) (N := 8) Tryz.func57 rfl rfl (Nat.le_of_ble_eq_true rfl) ?_
 refine C_seq <| C_region <| wv rfl rfl rfl (R_assign rfl rfl) ?_
 refine W_nil <| E_then <| C_seq <| C_region <| wv rfl rfl rfl (R_move rfl rfl) <| wv rfl rfl rfl (R_len rfl rfl Tryz.underlying43) <| wv rfl rfl rfl (R_load1 rfl rfl agg3 ((hS.bx 0 rfl).cell rfl)) <| wv rfl rfl rfl (R_bin rfl rfl rfl rfl rfl) <| wv rfl rfl rfl (R_assign rfl rfl) ?_
 refine W_nil <| E_then (C_fr [(3, .bool ((a0.length : Int) != a1))] rfl ?_)
 refine C_ret <| E_ret1 rfl rfl ?_
 exact ⟨Lret1 (Lbool (show ((a0.length : Int) != a1) = ((a0.length : Int) != a1) by rfl)), hS.fin [0] (by decide) rfl⟩
theorem tcheck1_fv (ba1 : Nat) (a1 : Int) (zc : Z) : FV Tryz.prog zc 57 [.pointer (some ⟨ba1, 0, none⟩)] (fun z_ (x_ : List St) vs_ => ∃ A_ c_, vs_ = [.slice A_ x_.length c_] ∧ Cap A_ x_.length c_ ∧ Rd kstr z_ A_ x_) (fun (_ _ : Unit) => allR [bR ba1 3 [.int .i64 a1]]) (fun _ x_ => True) (fun _ _ => ()) (fun _ x_ => .bool ((fun (x_ : List St) => ((x_.length : Int) != a1)) x_)) := ⟨ent57, by
  rintro _ _ x vs w z hz hI hok ⟨A, c, rfl, hc, hr⟩
  refine (tcheck1_calls x A c ba1 a1 z w hI.unb hr hc  ).mono ?_
  rintro e w' ⟨rfl, hS⟩
  exact ⟨rfl, (), hS.bun1⟩⟩
theorem tcheck2_calls (a0 : St) (z : Z) (w : World) (hI : In z w [])   :
    Calls Tryz.prog 60 #[vstr a0] w fun e w' => e = .returned (.bool (decide ((a0.length : Int) > 1024))) ∧ Sp (FF []) w z w' [] := by
 have hS := hI.sp
 refine Calls_of (vs := [vstr a0]) (N := 6) Tryz.func60 rfl rfl (Nat.le_of_ble_eq_true rfl) ?_
 refine C_seq <| C_region <| wv rfl rfl rfl (R_assign rfl rfl) ?_
 refine W_nil <| E_then <| C_seq <| C_region <| wv rfl rfl rfl (R_move rfl rfl) <| wv rfl rfl rfl (R_strlen rfl rfl Tryz.underlying9) <| wv rfl rfl rfl (R_bin rfl rfl rfl rfl rfl) <| wv rfl rfl rfl (R_assign rfl rfl) ?_
 refine W_nil <| E_then <| C_ret <| E_ret1 rfl rfl ?_
 exact ⟨Lret1 (Lbool (show (decide ((a0.length : Int) > 1024)) = (decide ((a0.length : Int) > 1024)) by rfl)), hS.fin [] (by decide) rfl⟩
theorem tcheck2_fv  (zc : Z) : FV Tryz.prog zc 60 [] (fun z_ (x_ : St) vs_ => vs_ = [vstr x_]) (fun (_ _ : Unit) => allR []) (fun _ x_ => True) (fun _ _ => ()) (fun _ x_ => .bool ((fun (x_ : St) => decide ((x_.length : Int) > 1024)) x_)) := ⟨ent60, by
  rintro _ _ x vs w z hz hI hok rfl
  refine (tcheck2_calls x  z w hI.unb   ).mono ?_
  rintro e w' ⟨rfl, hS⟩
  exact ⟨rfl, (), hS.bun1⟩⟩
theorem laid_calls (va0 : Value) (ma0 na0 : Int) (fa0 : Int → Int → St) (zca0 : Z) (Ka0 : Nat) (z : Z) (w : World) (hI : In z w []) (Ha0 : ISh Tryz.prog Ka0 zca0 va0 ma0 na0 fa0) (hza0 : zle zca0 z) (hKa0 : Ka0 ≤ 10) (p0 : 0 ≤ ma0 ∧ ma0 ≤ 100000) (p1 : 0 ≤ na0 ∧ na0 ≤ 100000) :
    Calls Tryz.prog 52 #[va0] w fun e w' => ∃ (AR0 : Option Addr) (cR0 : Nat) (qR0 : Z), e = .returned (.slice AR0 (laidS ma0 na0 fa0).length cR0) ∧ Sp (FF []) w z w' [zR qR0, oR (kslice kstr) 43 qR0 AR0 cR0 (laidS ma0 na0 fa0)] := by
 have hS := hI.sp
 refine Calls_of (vs := [va0]) (N := 36) Tryz.func52 rfl rfl (Nat.le_of_ble_eq_true rfl) ?_
 refine C_seq <| C_region <| wv rfl rfl rfl (R_assign rfl rfl) ?_
 refine W_nil <| E_then <| C_seq <| C_region <| wv rfl rfl rfl (R_move rfl rfl) ?_
 refine W_cons rfl (by decide) (S_ivsize Ha0 hS hza0 hKa0 bigP rfl rfl rfl (fun w1 hS => ?_))
 refine wv rfl rfl rfl (R_move rfl rfl) <| wv rfl rfl rfl (R_extract rfl rfl rfl) <| wv rfl rfl rfl (R_extract rfl rfl rfl) <| wv rfl rfl rfl (R_assign rfl rfl) <| wv rfl rfl rfl (R_assign rfl rfl) ?_
 refine W_nil <| E_then (C_fr [(0, va0), (3, .int .i64 ma0), (4, .int .i64 na0)] rfl ?_)
 refine C_seq <| C_region <| wv rfl rfl rfl (R_assign rfl rfl) ?_
 refine W_nil <| E_then <| C_seq <| C_seq <| C_region <| wv rfl rfl rfl (R_move rfl rfl) <| wv rfl rfl rfl (R_move rfl rfl) ?_
 refine W_nil <| E_then <| C_block ?_
 obtain ⟨z5, hS⟩ := hS.famx
 have hS := hS.nilrow (kslice kstr) 43 z5
 have hs7 : ([] : List (List St)) = ((List.range (0 : Nat)).map (fun (r : Nat) => (List.range na0.toNat).map fun (c : Nat) => fa0 (r : Int) (c : Int)) : Rows) := by rfl
 have hS := hS.re 0 rfl hs7
 refine C_fr [(0, va0), (4, .int .i64 na0), (5, .slice none 0 0), (14, .int .i64 ma0), (15, .int .i64 0)] rfl ?_
 refine C_loop (fun m_ f_ w_ => ∃ (i : Nat) (Ar2 : Option Addr) (cr2 : Nat) (z3 : Z), f_ = [(0, va0), (4, .int .i64 na0), (5, .slice Ar2 ((List.range i).map (fun (r : Nat) => (List.range na0.toNat).map fun (c : Nat) => fa0 (r : Int) (c : Int)) : Rows).length cr2), (14, .int .i64 ma0), (15, .int .i64 (i : Int))] ∧ (i : Int) ≤ ma0 ∧ m_ = ma0.toNat - i ∧ Sp (FF []) w z w_ [zR z3, oR (kslice kstr) 43 z3 Ar2 cr2 ((List.range i).map (fun (r : Nat) => (List.range na0.toNat).map fun (c : Nat) => fa0 (r : Int) (c : Int)) : Rows)]) (ma0.toNat - (0 : Nat)) ⟨(0 : Nat), none, 0, z5, (by rw [← hs7] <;> rfl), (by omega), rfl, hS.fin [1, 0] (by decide) rfl⟩ ?_
 rintro m_ f_ w4 ⟨i, Ar2, cr2, z3, rfl, hI0_0, rfl, hS⟩
 have hp8 := hS.cap 1 rfl
 have hlhp8 := hp8.le
 have hmhp8 := hp8.mx
 refine C_seq <| C_region <| wv rfl rfl rfl (R_bin rfl rfl rfl rfl rfl) ?_
 refine W_nil <| E_then <| C_seq <| C_ite rfl (fun hC0 => ?_) (fun hC0 => ?_)
 ·have hC0p : (i : Int) < ma0 := by simpa using hC0
  refine C_skip <| E_then <| C_seq <| C_block <| C_seq <| C_region <| wv rfl rfl rfl (R_move rfl rfl) <| wv rfl rfl rfl (R_assign rfl rfl) ?_
  refine W_nil <| E_then <| C_seq <| C_region <| wv rfl rfl rfl (R_assign rfl rfl) ?_
  refine W_nil <| E_then <| C_seq <| C_seq <| C_region <| wv rfl rfl rfl (R_move rfl rfl) <| wv rfl rfl rfl (R_move rfl rfl) ?_
  refine W_nil <| E_then <| C_block ?_
  have hS := hS.nilrow kstr 9 zE
  have hs12 : ([] : List St) = ((List.range (0 : Nat)).map (fun (c : Nat) => fa0 (i : Int) (c : Int)) : List St) := by rfl
  have hS := hS.re 0 rfl hs12
  refine C_fr [(0, va0), (4, .int .i64 na0), (5, .slice Ar2 ((List.range i).map (fun (r : Nat) => (List.range na0.toNat).map fun (c : Nat) => fa0 (r : Int) (c : Int)) : Rows).length cr2), (6, .int .i64 (i : Int)), (7, .slice none 0 0), (14, .int .i64 ma0), (15, .int .i64 (i : Int)), (18, .int .i64 na0), (19, .int .i64 0)] rfl ?_
  refine C_loop (fun m_ f_ w_ => ∃ (j : Nat) (Ar9 : Option Addr) (cr9 : Nat), f_ = [(0, va0), (4, .int .i64 na0), (5, .slice Ar2 ((List.range i).map (fun (r : Nat) => (List.range na0.toNat).map fun (c : Nat) => fa0 (r : Int) (c : Int)) : Rows).length cr2), (6, .int .i64 (i : Int)), (7, .slice Ar9 ((List.range j).map (fun (c : Nat) => fa0 (i : Int) (c : Int)) : List St).length cr9), (14, .int .i64 ma0), (15, .int .i64 (i : Int)), (18, .int .i64 na0), (19, .int .i64 (j : Int))] ∧ (j : Int) ≤ na0 ∧ m_ = na0.toNat - j ∧ Sp (FF []) w z w_ [zR z3, oR (kslice kstr) 43 z3 Ar2 cr2 ((List.range i).map (fun (r : Nat) => (List.range na0.toNat).map fun (c : Nat) => fa0 (r : Int) (c : Int)) : Rows), oR kstr 9 zE Ar9 cr9 ((List.range j).map (fun (c : Nat) => fa0 (i : Int) (c : Int)) : List St)]) (na0.toNat - (0 : Nat)) ⟨(0 : Nat), none, 0, (by rw [← hs12] <;> rfl), (by omega), rfl, hS.fin [1, 2, 0] (by decide) rfl⟩ ?_
  rintro m_ f_ w10 ⟨j, Ar9, cr9, rfl, hI1_0, rfl, hS⟩
  have hp13 := hS.cap 2 rfl
  have hlhp13 := hp13.le
  have hmhp13 := hp13.mx
  refine C_seq <| C_region <| wv rfl rfl rfl (R_bin rfl rfl rfl rfl rfl) ?_
  refine W_nil <| E_then <| C_seq <| C_ite rfl (fun hC1 => ?_) (fun hC1 => ?_)
  ·have hC1p : (j : Int) < na0 := by simpa using hC1
   refine C_skip <| E_then <| C_seq <| C_block <| C_seq <| C_region <| wv rfl rfl rfl (R_move rfl rfl) <| wv rfl rfl rfl (R_assign rfl rfl) ?_
   refine W_nil <| E_then <| C_region <| wv rfl rfl rfl (R_move rfl rfl) <| wv rfl rfl rfl (R_move rfl rfl) <| wv rfl rfl rfl (R_move rfl rfl) <| wv rfl rfl rfl (R_move rfl rfl) ?_
   refine W_cons rfl (by decide) (S_ivfield Ha0 hS hza0 hKa0 bigP rfl rfl rfl rfl rfl (by omega) (by omega) (fun w14 hS => ?_))
   refine W_cons rfl (by decide) (S_row (d := kstr) (q := zE) hS ([fa0 (i : Int) (j : Int)] : List St) rfl (R_buildSlice (ps := [(0, (.tmp 26))]) (vs := [vstr (fa0 (i : Int) (j : Int))]) (w' := w14.alloc (.cells [vstr (fa0 (i : Int) (j : Int))].toArray 9)) (r := .slice (some ⟨w14.heap.size, 0, none⟩) 1 1) rfl rfl rfl (by kernel_rfl)) (by simp [Reps, flat, kstr]) rfl (by decide) (fun g16 w15 hS => ?_))
   refine W_cons rfl (by decide) (S_append hS 3 rfl rfl rfl elem43 rfl rfl (hS.sow 0 rfl (fun _ _ h => h)) (by (try simp only [List.length_map, List.length_range, List.length_cons, List.length_nil, maxLen]); omega) (by (try simp only [List.length_map, List.length_range, List.length_cons, List.length_nil, maxLen]); omega) (fun Ar18 cr18 w17 hS => ?_))
   have hp19 := hS.cap 3 rfl
   have hlhp19 := hp19.le
   have hmhp19 := hp19.mx
   refine wv rfl rfl rfl (R_assign rfl rfl) ?_
   refine W_nil <| E_block_normal <| E_then (C_fr [(0, va0), (4, .int .i64 na0), (5, .slice Ar2 ((List.range i).map (fun (r : Nat) => (List.range na0.toNat).map fun (c : Nat) => fa0 (r : Int) (c : Int)) : Rows).length cr2), (6, .int .i64 (i : Int)), (7, .slice Ar18 (((List.range j).map (fun (c : Nat) => fa0 (i : Int) (c : Int)) : List St) ++ ([fa0 (i : Int) (j : Int)] : List St)).length cr18), (14, .int .i64 ma0), (15, .int .i64 (i : Int)), (18, .int .i64 na0), (19, .int .i64 (j : Int))] rfl ?_)
   refine C_region <| wv rfl rfl rfl (R_add64 rfl rfl rfl (by omega) (by omega)) <| wv rfl rfl rfl (R_move rfl rfl) ?_
   refine W_nil ?_
   have hs20 : ((List.range j).map (fun (c : Nat) => fa0 (i : Int) (c : Int)) : List St) ++ ([fa0 (i : Int) (j : Int)] : List St) = ((List.range (j + 1 : Nat)).map (fun (c : Nat) => fa0 (i : Int) (c : Int)) : List St) := by rw [row_next]
   have hS := hS.re 3 rfl hs20
   refine E_round [0, 4, 5, 6, 7, 14, 15, 18, 19] ?_ ⟨(j + 1 : Nat), Ar18, cr18, (by rw [← hs20] <;> rfl), (by omega), rfl, hS.fin [1, 2, 3] (by decide) rfl⟩
   omega
  ·have hC1p : ¬ ((j : Int) < na0) := by simpa using hC1
   refine C_exit <| E_then_exit <| E_then_exit <| E_block_hit ?_
   refine E_then <| C_region <| wv rfl rfl rfl (R_move rfl rfl) <| wv rfl rfl rfl (R_move rfl rfl) ?_
   have hcz23 := hS.cap 2 rfl
   obtain ⟨z23, hlez23, hrz23, hS⟩ := hS.fz 2 0 rfl rfl (by decide) (zle_E _)
   have hS := hS.lift 1 rfl hlez23
   refine W_cons rfl (by decide) (S_row (d := (kslice kstr)) (q := z23) hS ([((List.range j).map (fun (c : Nat) => fa0 (i : Int) (c : Int)) : List St)] : List (List St)) rfl (R_buildSlice (ps := [(0, (.tmp 31))]) (vs := [.slice Ar9 ((List.range j).map (fun (c : Nat) => fa0 (i : Int) (c : Int)) : List St).length cr9]) (w' := w10.alloc (.cells [.slice Ar9 ((List.range j).map (fun (c : Nat) => fa0 (i : Int) (c : Int)) : List St).length cr9].toArray 43)) (r := .slice (some ⟨w10.heap.size, 0, none⟩) 1 1) rfl rfl rfl (by kernel_rfl)) ⟨_, _, rfl, ⟨_, _, rfl, hcz23, hrz23⟩, rfl⟩ rfl (by decide) (fun g22 w21 hS => ?_))
   refine W_cons rfl (by decide) (S_append hS 2 rfl rfl rfl elem22 rfl rfl (hS.sow 0 rfl (fun _ _ h => h)) (by (try simp only [List.length_map, List.length_range, List.length_cons, List.length_nil, maxLen]); omega) (by (try simp only [List.length_map, List.length_range, List.length_cons, List.length_nil, maxLen]); omega) (fun Ar25 cr25 w24 hS => ?_))
   have hp26 := hS.cap 2 rfl
   have hlhp26 := hp26.le
   have hmhp26 := hp26.mx
   refine wv rfl rfl rfl (R_assign rfl rfl) ?_
   refine W_nil <| E_block_normal <| E_then (C_fr [(0, va0), (4, .int .i64 na0), (5, .slice Ar25 (((List.range i).map (fun (r : Nat) => (List.range na0.toNat).map fun (c : Nat) => fa0 (r : Int) (c : Int)) : Rows) ++ ([((List.range j).map (fun (c : Nat) => fa0 (i : Int) (c : Int)) : List St)] : List (List St))).length cr25), (14, .int .i64 ma0), (15, .int .i64 (i : Int))] rfl ?_)
   refine C_region <| wv rfl rfl rfl (R_add64 rfl rfl rfl (by omega) (by omega)) <| wv rfl rfl rfl (R_move rfl rfl) ?_
   refine W_nil ?_
   have hs27 : ((List.range i).map (fun (r : Nat) => (List.range na0.toNat).map fun (c : Nat) => fa0 (r : Int) (c : Int)) : Rows) ++ ([((List.range j).map (fun (c : Nat) => fa0 (i : Int) (c : Int)) : List St)] : List (List St)) = ((List.range (i + 1 : Nat)).map (fun (r : Nat) => (List.range na0.toNat).map fun (c : Nat) => fa0 (r : Int) (c : Int)) : Rows) := by rw [laidS_next, show na0.toNat = j from by omega]
   have hS := hS.re 2 rfl hs27
   refine E_round [0, 4, 5, 14, 15] ?_ ⟨(i + 1 : Nat), Ar25, cr25, z23, (by rw [← hs27] <;> rfl), (by omega), rfl, hS.fin [1, 2] (by decide) rfl⟩
   omega
 ·have hC0p : ¬ ((i : Int) < ma0) := by simpa using hC0
  refine C_exit <| E_then_exit <| E_then_exit <| E_block_hit ?_
  refine E_then (C_fr [(5, .slice Ar2 ((List.range i).map (fun (r : Nat) => (List.range na0.toNat).map fun (c : Nat) => fa0 (r : Int) (c : Int)) : Rows).length cr2)] rfl ?_)
  refine C_seq <| C_region <| wv rfl rfl rfl (R_move rfl rfl) <| wv rfl rfl rfl (R_assign rfl rfl) ?_
  refine W_nil <| E_then <| C_ret ?_
  have hq28 : ((List.range i).map (fun (r : Nat) => (List.range na0.toNat).map fun (c : Nat) => fa0 (r : Int) (c : Int)) : Rows) = laidS ma0 na0 fa0 := by unfold laidS; rw [show ma0.toNat = i from by omega]
  have hS := hS.re 1 rfl hq28
  refine E_ret1 rfl rfl ?_
  exact ⟨Ar2, cr2, z3, Lret1 (Lslice hq28), hS.fin [0, 1] (by decide) rfl⟩
theorem pfield_calls (a0 : TPlain) (Aa0_l : Option Addr) (ca0_l : Nat) (a1 : Int) (a2 : Int) (z : Z) (w : World) (hI : In z w []) (hra0_l : Rd (kslice kstr) z Aa0_l a0.l) (hca0_l : Cap Aa0_l a0.l.length ca0_l) (p0 : 0 ≤ a1) (p1 : 0 ≤ a2) :
    Calls Tryz.prog 163 #[.agg #[.slice Aa0_l a0.l.length ca0_l], .int .i64 a1, .int .i64 a2] w fun e w' => e = .returned (vstr (fldS a0.l a1 a2)) ∧ Sp (FF []) w z w' [] := by
 have hla0_l := hca0_l.le
 have hma0_l := hca0_l.mx
 have hS := hI.sp
 refine Calls_of (vs := [.agg #[.slice Aa0_l a0.l.length ca0_l], .int .i64 a1, .int .i64 a2]) (N := 30) Tryz.func163 rfl rfl (Nat.le_of_ble_eq_true rfl) ?_
 refine C_seq <| C_region <| W_cons rfl (by decide) (S_box hS rfl (R_box (cs := [.slice Aa0_l a0.l.length ca0_l]) rfl rfl rfl) (fun b2 w1 hS => ?_))
 refine wv rfl rfl rfl (R_assign rfl rfl) ?_
 refine W_nil <| E_then <| C_seq <| C_seq <| C_region <| wv rfl rfl rfl (R_move rfl rfl) <| wv rfl rfl rfl (R_fld rfl rfl fld88_0) <| wv rfl rfl rfl (R_load1 rfl rfl agg22 ((hS.bx 0 rfl).cell rfl)) <| wv rfl rfl rfl (R_len rfl rfl Tryz.underlying22) <| wv rfl rfl rfl (R_bin rfl rfl rfl rfl rfl) <| wv rfl rfl rfl (R_move rfl rfl) ?_
 refine W_split (t := 12) rfl (fun hg3 => ?_) (fun hg3 => ?_)
 ·have hg3p : a1 ≥ (a0.l.length : Int) := by simpa using hg3
  refine W_cons rfl (by decide) (Sv_off rfl rfl rfl (by rw [hg3] <;> rfl) ?_)
  refine W_cons rfl (by decide) (Sv_off rfl rfl rfl (by rw [hg3] <;> rfl) ?_)
  refine W_cons rfl (by decide) (Sv_off rfl rfl rfl (by rw [hg3] <;> rfl) ?_)
  refine W_cons rfl (by decide) (Sv_off rfl rfl rfl (by rw [hg3] <;> rfl) ?_)
  refine W_cons rfl (by decide) (Sv_off rfl rfl rfl (by rw [hg3] <;> rfl) ?_)
  refine W_cons rfl (by decide) (Sv_off rfl rfl rfl (by rw [hg3] <;> rfl) ?_)
  refine W_cons rfl (by decide) (Sv_off rfl rfl rfl (by rw [hg3] <;> rfl) ?_)
  refine W_cons rfl (by decide) (Sv_off rfl rfl rfl (by rw [hg3] <;> rfl) ?_)
  refine wv rfl rfl rfl (R_pick_t rfl rfl hg3 rfl) ?_
  refine W_nil <| E_then (C_fr [(1, .int .i64 a1), (2, .int .i64 a2), (3, .pointer (some ⟨b2, 0, none⟩)), (21, .bool true)] rfl ?_)
  refine C_if rfl rfl ?_
  refine C_seq <| C_region <| wv rfl rfl rfl (R_assign rfl rfl) ?_
  refine W_nil <| E_then <| C_ret <| E_then_ret <| E_ret1 rfl rfl ?_
  exact ⟨Lret1 (Lstr (show [] = fldS a0.l a1 a2 by exact fldS_a (by omega))), hS.fin [] (by decide) rfl⟩
 ·have hg3p : ¬ (a1 ≥ (a0.l.length : Int)) := by simpa using hg3
  refine W_cons rfl (by decide) (Sv_gt rfl rfl rfl hg3 (Sv_val rfl (R_move rfl rfl) ?_))
  refine W_cons rfl (by decide) (Sv_gt rfl rfl rfl hg3 (Sv_val rfl (R_fld rfl rfl fld88_0) ?_))
  refine W_cons rfl (by decide) (Sv_gt rfl rfl rfl hg3 (Sv_val rfl (R_load1 rfl rfl agg22 ((hS.bx 0 rfl).cell rfl)) ?_))
  refine W_cons rfl (by decide) (Sv_gt rfl rfl rfl hg3 (Sv_val rfl (R_move rfl rfl) ?_))
  obtain ⟨q4, csq4, hAq4, ⟨Aq4, cq4, rfl, hcq4, hrq4⟩, hkq4⟩ := hra0_l.at_ [] (i := a1) (by omega) (by omega)
  have hlq4 := hcq4.le
  have hmq4 := hcq4.mx
  refine W_cons rfl (by decide) (Sv_gt rfl rfl rfl hg3 (Sv_val rfl (R_idx rfl rfl hAq4 rfl Tryz.underlying22 size43 (by omega) (by omega)) ?_))
  refine W_cons rfl (by decide) (Sv_gt rfl rfl rfl hg3 (Sv_val rfl (R_load1 rfl rfl agg43 (hS.sub.cell (hkq4 0 _ rfl))) ?_))
  refine W_cons rfl (by decide) (Sv_gt rfl rfl rfl hg3 (Sv_val rfl (R_len rfl rfl Tryz.underlying43) ?_))
  refine W_cons rfl (by decide) (Sv_gt rfl rfl rfl hg3 (Sv_val rfl (R_bin rfl rfl rfl rfl rfl) ?_))
  refine wv rfl rfl rfl (R_pick_f rfl rfl hg3 rfl) ?_
  refine W_nil <| E_then (C_fr [(1, .int .i64 a1), (2, .int .i64 a2), (3, .pointer (some ⟨b2, 0, none⟩)), (21, .bool (decide (a2 ≥ ((a0.l.getD a1.toNat []).length : Int))))] rfl ?_)
  refine C_ite rfl (fun hC0 => ?_) (fun hC0 => ?_)
  ·have hC0p : a2 ≥ ((a0.l.getD a1.toNat []).length : Int) := by simpa using hC0
   refine C_seq <| C_region <| wv rfl rfl rfl (R_assign rfl rfl) ?_
   refine W_nil <| E_then <| C_ret <| E_then_ret <| E_ret1 rfl rfl ?_
   exact ⟨Lret1 (Lstr (show [] = fldS a0.l a1 a2 by exact fldS_b (by omega))), hS.fin [] (by decide) rfl⟩
  ·have hC0p : ¬ (a2 ≥ ((a0.l.getD a1.toNat []).length : Int)) := by simpa using hC0
   refine C_skip <| E_then <| C_seq <| C_region <| wv rfl rfl rfl (R_fld rfl rfl fld88_0) <| wv rfl rfl rfl (R_load1 rfl rfl agg22 ((hS.bx 0 rfl).cell rfl)) <| wv rfl rfl rfl (R_move rfl rfl) ?_
   obtain ⟨q5, csq5, hAq5, ⟨Aq5, cq5, rfl, hcq5, hrq5⟩, hkq5⟩ := hra0_l.at_ [] (i := a1) (by omega) (by omega)
   have hlq5 := hcq5.le
   have hmq5 := hcq5.mx
   refine wv rfl rfl rfl (R_idx rfl rfl hAq5 rfl Tryz.underlying22 size43 (by omega) (by omega)) <| wv rfl rfl rfl (R_load1 rfl rfl agg43 (hS.sub.cell (hkq5 0 _ rfl))) <| wv rfl rfl rfl (R_move rfl rfl) ?_
   obtain ⟨q6, csq6, hAq6, rfl, hkq6⟩ := hrq5.at_ ([] : St) (i := a2) (by omega) (by omega)
   refine wv rfl rfl rfl (R_idx rfl rfl hAq6 rfl Tryz.underlying43 size9 (by omega) (by omega)) <| wv rfl rfl rfl (R_load1 rfl rfl agg9 (hS.sub.cell (hkq6 0 _ rfl))) <| wv rfl rfl rfl (R_assign rfl rfl) ?_
   refine W_nil <| E_then (C_fr [(6, vstr ((a0.l.getD a1.toNat []).getD a2.toNat ([] : St)))] rfl ?_)
   refine C_ret <| E_ret1 rfl rfl ?_
   exact ⟨Lret1 (Lstr (show ((a0.l.getD a1.toNat []).getD a2.toNat ([] : St)) = fldS a0.l a1 a2 by rfl)), hS.fin [] (by decide) rfl⟩
theorem psize_calls (a0 : TPlain) (Aa0_l : Option Addr) (ca0_l : Nat) (z : Z) (w : World) (hI : In z w []) (hra0_l : Rd (kslice kstr) z Aa0_l a0.l) (hca0_l : Cap Aa0_l a0.l.length ca0_l)  :
    Calls Tryz.prog 164 #[.agg #[.slice Aa0_l a0.l.length ca0_l]] w fun e w' => e = .returned (.tuple #[.int .i64 (max (a0.l.length : Int) 1), .int .i64 (max (widthS a0.l) 1)]) ∧ Sp (FF []) w z w' [] := by
 have hla0_l := hca0_l.le
 have hma0_l := hca0_l.mx
 have hS := hI.sp
 refine Calls_of (vs := [.agg #[.slice Aa0_l a0.l.length ca0_l]]) (N := 12) Tryz.func164 rfl rfl (Nat.le_of_ble_eq_true rfl) ?_
 refine C_seq <| C_region <| W_cons rfl (by decide) (S_box hS rfl (R_box (cs := [.slice Aa0_l a0.l.length ca0_l]) rfl rfl rfl) (fun b2 w1 hS => ?_))
 refine wv rfl rfl rfl (R_assign rfl rfl) <| wv rfl rfl rfl (R_assign rfl rfl) ?_
 refine W_nil <| E_then <| C_seq <| C_fr [(1, .pointer (some ⟨b2, 0, none⟩))] rfl ?_
 refine C_drawn2 10 [[], [0], [1], [2], [], [4], [5], [6], [3, 6, 0, 1, 2, 3], [7, 8, 0, 1, 2, 3, 4, 5, 6, 7, 8]] [some 4, some 5, some 6, some 7, some 8, some 9, some 10, some 11, some 2, some 3] [1] (List.replicate 10 10) (List.replicate 10 []) (List.replicate 10 []) [fun γ_ => .pointer (some ⟨b2, 0, none⟩), fun γ_ => .slice Aa0_l a0.l.length ca0_l, fun γ_ => .int .i64 (a0.l.length : Int), fun γ_ => .int .i64 (max (a0.l.length : Int) 1), fun γ_ => .pointer (some ⟨b2, 0, none⟩), fun γ_ => .slice Aa0_l a0.l.length ca0_l, fun γ_ => .int .i64 (widthS a0.l), fun γ_ => .int .i64 (max (widthS a0.l) 1), fun γ_ => .int .i64 (max (a0.l.length : Int) 1), fun γ_ => .int .i64 (max (widthS a0.l) 1)] (List.replicate 10 (fun _ => [])) rfl (by kernel_rfl) (by decide +kernel) hS ?_ ?_
 ·refine ⟨fun _ _ _ hS => Sv_val rfl (R_fld rfl rfl fld88_0) ⟨gh0, rfl, hS⟩, fun _ _ _ hS => Sv_val rfl (R_load1 rfl rfl agg22 ((hS.bx 0 rfl).cell rfl)) ⟨gh0, rfl, hS⟩, fun _ _ _ hS => Sv_val rfl (R_len rfl rfl Tryz.underlying22) ⟨gh0, rfl, hS⟩, fun _ _ _ hS => Sv_val rfl (R_max rfl rfl) ⟨gh0, rfl, hS⟩, fun _ _ _ hS => Sv_val rfl (R_fld rfl rfl fld88_0) ⟨gh0, rfl, hS⟩, fun _ _ _ hS => Sv_val rfl (R_load1 rfl rfl agg22 ((hS.bx 0 rfl).cell rfl)) ⟨gh0, rfl, hS⟩, fun g_ w17 fr18 hS => ?_, ?_⟩
  ·have _w17 := trivial
   have hS : Sp (FF []) w z w17 [bR b2 88 [.slice Aa0_l a0.l.length ca0_l], allR fr18] := hS
   refine Sv_call rfl rfl rfl ent55 ?_
   refine (width_calls a0.l Aa0_l ca0_l _ _ hS.out0 (hra0_l.mono (hS.zl [])) hca0_l ).mono ?_
   rintro e_ w19 ⟨rfl, hS_⟩
   refine ⟨_, rfl, ?_⟩
   have hS := hS.call0 hS_
   exact ⟨⟨fun _ => none, fun _ => 0, fun _ => zE, fun _ => 0⟩, rfl, hS.fin [0, 1] (by decide) rfl⟩
  refine ⟨fun _ _ _ hS => Sv_val rfl (R_max rfl rfl) ⟨gh0, rfl, hS⟩, fun _ _ _ hS => Sv_val rfl (R_assign rfl rfl) ⟨gh0, rfl, hS⟩, fun _ _ _ hS => Sv_val rfl (R_assign rfl rfl) ⟨gh0, rfl, hS⟩, ?_⟩
  exact trivial
 ·intro g_ w27 hS
  have hS : Sp (FF []) w z w27 [bR b2 88 [.slice Aa0_l a0.l.length ca0_l]] := hS
  refine An_fr [(1, .pointer (some ⟨b2, 0, none⟩)), (2, .int .i64 (max (a0.l.length : Int) 1)), (3, .int .i64 (max (widthS a0.l) 1))] rfl ?_
  refine An_done (by decide +kernel) <| E_then <| C_ret <| E_ret2 rfl rfl rfl ?_
  exact ⟨Lret2 (Lint (show max (a0.l.length : Int) 1 = max (a0.l.length : Int) 1 by rfl)) (Lint (show max (widthS a0.l) 1 = max (widthS a0.l) 1 by rfl)), hS.fin [] (by decide) rfl⟩
theorem ish_plain {l : Rows} {A : Option Addr} {c : Nat} {zc : Z} (hr : Rd (kslice kstr) zc A l) (hc : Cap A l.length c) : ISh Tryz.prog 0 zc (.iface 88 (.agg #[.slice A l.length c])) (max (l.length : Int) 1) (max (widthS l) 1) (fldS l) :=
  ⟨⟨0, 164, .agg #[.slice A l.length c], Nat.le_refl _, ⟨88, _, rfl, fun fuel w hf => by kernel_rfl, ent164⟩, fun hz hI => psize_calls ⟨l⟩ A c _ _ hI (hr.mono hz) hc⟩,
   ⟨0, 163, .agg #[.slice A l.length c], Nat.le_refl _, ⟨88, _, rfl, fun fuel w hf => by kernel_rfl, ent163⟩, fun a b hz hI ha hb => pfield_calls ⟨l⟩ A c a b _ _ hI (hr.mono hz) hc ha hb⟩⟩
theorem fill_calls (a0 : List (List St)) (Aa0 : Option Addr) (ca0 : Nat) (z : Z) (w : World) (hI : In z w []) (hra0 : Rd (kslice kstr) z Aa0 a0) (hca0 : Cap Aa0 a0.length ca0) (p0 : a0.length ≤ 10000) (p1 : widthS a0 ≤ 10000) :
    Calls Tryz.prog 24 #[.slice Aa0 a0.length ca0] w fun e w' => ∃ (AR0 : Option Addr) (cR0 : Nat) (qR0 : Z), e = .returned (.slice AR0 (fillS a0).length cR0) ∧ Sp (FF []) w z w' [zR qR0, oR (kslice kstr) 43 qR0 AR0 cR0 (fillS a0)] := by
 have hla0 := hca0.le
 have hma0 := hca0.mx
 have hS := hI.sp
 have hwn := widthS_nonneg a0
 refine Calls_of (vs := [.slice Aa0 a0.length ca0]) (N := 7) Tryz.func24 rfl rfl (Nat.le_of_ble_eq_true rfl) ?_
 refine C_seq <| C_region <| wv rfl rfl rfl (R_assign rfl rfl) ?_
 refine W_nil <| E_then <| C_seq <| C_region <| wv rfl rfl rfl (R_move rfl rfl) <| wv rfl rfl rfl (R_build (w' := w) (ps := [(0, (.tmp 3))]) (vs := [.slice Aa0 a0.length ca0]) (r := .agg #[.slice Aa0 a0.length ca0]) rfl rfl rfl (by kernel_rfl)) <| wv rfl rfl rfl (R_iface rfl rfl conc88) ?_
 refine W_cons rfl (by decide) (Sv_call rfl rfl rfl ent52 ?_)
 refine (laid_calls (.iface 88 (.agg #[.slice Aa0 a0.length ca0])) (max (a0.length : Int) 1) (max (widthS a0) 1) (fldS a0) z 0 _ _ hS.out0 (ish_plain hra0 hca0) (hS.zl []) (by decide) (by omega) (by omega)).mono ?_
 rintro e_ w1 ⟨AR0_2, cR0_2, qR0_2, rfl, hS_⟩
 refine ⟨_, rfl, ?_⟩
 have hS := hS.call0 hS_
 have hp3 := hS.cap 1 rfl
 have hlhp3 := hp3.le
 have hmhp3 := hp3.mx
 refine wv rfl rfl rfl (R_assign rfl rfl) ?_
 refine W_nil <| E_then (C_fr [(2, .slice AR0_2 (laidS (max (a0.length : Int) 1) (max (widthS a0) 1) (fldS a0)).length cR0_2)] rfl ?_)
 refine C_ret ?_
 have hq4 : laidS (max (a0.length : Int) 1) (max (widthS a0) 1) (fldS a0) = fillS a0 := by rfl
 have hS := hS.re 1 rfl hq4
 refine E_ret1 rfl rfl ?_
 exact ⟨AR0_2, cR0_2, qR0_2, Lret1 (Lslice hq4), hS.fin [0, 1] (by decide) rfl⟩
theorem rfill_calls (a0 : List (List St)) (Aa0 : Option Addr) (ca0 : Nat) (z : Z) (w : World) (hI : In z w []) (hra0 : Rd (kslice kstr) z Aa0 a0) (hca0 : Cap Aa0 a0.length ca0) (p0 : a0.length ≤ 10000) (p1 : widthS a0 ≤ 10000) :
    Calls Tryz.prog 30 #[.slice Aa0 a0.length ca0] w fun e w' => ∃ (AR0 : Option Addr) (cR0 : Nat) (qR0 : Z), e = .returned (.slice AR0 (fillS a0).length cR0) ∧ Sp (FF []) w z w' [zR qR0, oR (kslice kstr) 43 qR0 AR0 cR0 (fillS a0)] := by
 have hla0 := hca0.le
 have hma0 := hca0.mx
 have hS := hI.sp
 have hwn := widthS_nonneg a0
 refine Calls_of (vs := [.slice Aa0 a0.length ca0]) (N := 39) Tryz.func30 rfl rfl (Nat.le_of_ble_eq_true rfl) ?_
 refine C_seq <| C_region <| wv rfl rfl rfl (R_assign rfl rfl) ?_
 refine W_nil <| E_then <| C_seq <| C_region <| wv rfl rfl rfl (R_move rfl rfl) ?_
 refine W_cons rfl (by decide) (Sv_call rfl rfl rfl ent64 ?_)
 refine (rwidth_calls a0 Aa0 ca0 _ _ hS.out0 (hra0.mono (hS.zl [])) hca0 ).mono ?_
 rintro e_ w1 ⟨rfl, hS_⟩
 refine ⟨_, rfl, ?_⟩
 have hS := hS.call0 hS_
 refine wv rfl rfl rfl (R_max rfl rfl) <| wv rfl rfl rfl (R_assign rfl rfl) ?_
 refine W_nil <| E_then <| C_seq <| C_seq <| C_region <| wv rfl rfl rfl (R_move rfl rfl) <| wv rfl rfl rfl (R_len rfl rfl Tryz.underlying22) <| wv rfl rfl rfl (R_bin rfl rfl rfl rfl rfl) ?_
 refine W_nil <| E_then (C_fr [(0, .slice Aa0 a0.length ca0), (3, .int .i64 (max (widthS a0) 1)), (12, .bool ((a0.length : Int) == 0))] rfl ?_)
 refine C_ite rfl (fun hC0 => ?_) (fun hC0 => ?_)
 ·have hC0p : (a0.length : Int) = 0 := by simpa using hC0
  refine C_seq <| C_region <| W_cons rfl (by decide) (S_row (d := kstr) (q := zE) hS ([[]] : List St) rfl (R_buildSlice (ps := [(0, (.const (.string { data := #[] })))]) (vs := [vstr []]) (w' := w1.alloc (.cells [vstr []].toArray 9)) (r := .slice (some ⟨w1.heap.size, 0, none⟩) 1 1) rfl rfl rfl (by kernel_rfl)) (by simp [Reps, flat, kstr]) rfl (by decide) (fun g4 w3 hS => ?_))
  obtain ⟨z7, hS⟩ := hS.famx
  have hcz8 := hS.cap 1 rfl
  obtain ⟨z8, hlez8, hrz8, hS⟩ := hS.fz 1 0 rfl rfl (by decide) (zle_E _)
  refine W_cons rfl (by decide) (S_row (d := (kslice kstr)) (q := z8) hS ([([[]] : List St)] : List (List St)) rfl (R_buildSlice (ps := [(0, (.tmp 13))]) (vs := [.slice (some ⟨g4, 0, none⟩) ([[]] : List St).length 1]) (w' := w3.alloc (.cells [.slice (some ⟨g4, 0, none⟩) ([[]] : List St).length 1].toArray 43)) (r := .slice (some ⟨w3.heap.size, 0, none⟩) 1 1) rfl rfl rfl (by kernel_rfl)) ⟨_, _, rfl, ⟨_, _, rfl, hcz8, hrz8⟩, rfl⟩ rfl (by decide) (fun g6 w5 hS => ?_))
  refine wv rfl rfl rfl (R_assign rfl rfl) ?_
  refine W_nil <| E_then (C_fr [(2, .slice (some ⟨g6, 0, none⟩) ([([[]] : List St)] : List (List St)).length 1)] rfl ?_)
  refine C_ret <| E_then_ret ?_
  have hq9 : ([([[]] : List St)] : List (List St)) = fillS a0 := by rw [← rfill_eq]; unfold rfillS; exact (if_pos (List.length_eq_zero_iff.1 (by omega))).symm
  have hS := hS.re 0 rfl hq9
  refine E_ret1 rfl rfl ?_
  exact ⟨(some ⟨g6, 0, none⟩), 1, z8, Lret1 (Lslice hq9), hS.fin [1, 0] (by decide) rfl⟩
 ·have hC0p : ¬ ((a0.length : Int) = 0) := by simpa using hC0
  refine C_skip <| E_then <| C_seq <| C_region <| wv rfl rfl rfl (R_assign rfl rfl) ?_
  refine W_nil <| E_then <| C_seq <| C_seq <| C_region <| wv rfl rfl rfl (R_assign rfl rfl) ?_
  refine W_nil <| E_then <| C_block ?_
  obtain ⟨z13, hS⟩ := hS.famx
  have hS := hS.nilrow (kslice kstr) 43 z13
  have hs15 : ([] : List (List St)) = (a0.take (0 : Nat)).map (fun r => r ++ List.replicate ((max (widthS a0) 1) - (r.length : Int)).toNat []) := by rfl
  have hS := hS.re 0 rfl hs15
  refine C_fr [(0, .slice Aa0 a0.length ca0), (3, .int .i64 (max (widthS a0) 1)), (4, .slice none 0 0), (5, .int .i64 0)] rfl ?_
  refine C_loop (fun m_ f_ w_ => ∃ (i : Nat) (Ar10 : Option Addr) (cr10 : Nat) (z11 : Z), f_ = [(0, .slice Aa0 a0.length ca0), (3, .int .i64 (max (widthS a0) 1)), (4, .slice Ar10 ((a0.take i).map (fun r => r ++ List.replicate ((max (widthS a0) 1) - (r.length : Int)).toNat [])).length cr10), (5, .int .i64 (i : Int))] ∧ i ≤ a0.length ∧ m_ = a0.length - i ∧ Sp (FF []) w z w_ [zR z11, oR (kslice kstr) 43 z11 Ar10 cr10 ((a0.take i).map (fun r => r ++ List.replicate ((max (widthS a0) 1) - (r.length : Int)).toNat []))]) (a0.length - (0 : Nat)) ⟨(0 : Nat), none, 0, z13, (by rw [← hs15] <;> rfl), (by omega), rfl, hS.fin [1, 0] (by decide) rfl⟩ ?_
  rintro m_ f_ w12 ⟨i, Ar10, cr10, z11, rfl, hI0_0, rfl, hS⟩
  have hp16 := hS.cap 1 rfl
  have hlhp16 := hp16.le
  have hmhp16 := hp16.mx
  refine C_seq <| C_seq <| C_region <| wv rfl rfl rfl (R_move rfl rfl) <| wv rfl rfl rfl (R_move rfl rfl) <| wv rfl rfl rfl (R_len rfl rfl Tryz.underlying22) <| wv rfl rfl rfl (R_bin rfl rfl rfl rfl rfl) ?_
  refine W_nil <| E_then <| C_ite rfl (fun hC1 => ?_) (fun hC1 => ?_)
  ·have hC1p : (i : Int) < (a0.length : Int) := by simpa using hC1
   refine C_skip <| E_then <| C_seq <| C_block <| C_seq ?_
   have hwg := widthS_ge a0 _ (getD_mem (n := i) [] (by omega))
   refine C_region <| W_cons rfl (by decide) (S_row (d := kstr) (q := zE) hS ([] : List St) rfl (R_buildSlice (ps := []) (vs := []) (w' := w12.alloc (.cells [].toArray 9)) (r := .slice (some ⟨w12.heap.size, 0, none⟩) 0 0) rfl rfl rfl (by kernel_rfl)) (by simp [Reps, flat, kstr]) rfl (by decide) (fun g18 w17 hS => ?_))
   refine wv rfl rfl rfl (R_move rfl rfl) <| wv rfl rfl rfl (R_move rfl rfl) ?_
   obtain ⟨q19, csq19, hAq19, ⟨Aq19, cq19, rfl, hcq19, hrq19⟩, hkq19⟩ := hra0.at_ [] (i := (i : Int)) (by omega) (by omega)
   have hkq19 : ∀ (j_ : Nat) (u_ : Value), ([.slice Aq19 (a0.getD i []).length cq19] : List Value)[j_]? = some u_ → cz z (q19.add (i * 1 + j_)) = some u_ := hkq19
   have hrq19 : Rd kstr z Aq19 ((a0.getD i [])) := hrq19
   have hcq19 : Cap Aq19 ((a0.getD i [])).length cq19 := hcq19
   have hlq19 := hcq19.le
   have hmq19 := hcq19.mx
   refine wv rfl rfl rfl (R_idx rfl rfl hAq19 rfl Tryz.underlying22 size43 (by omega) (by omega)) <| wv rfl rfl rfl (R_load1 rfl rfl agg43 (hS.sub.cell (hkq19 0 _ rfl))) ?_
   refine W_cons rfl (by decide) (S_append hS 0 rfl rfl rfl elem43 rfl rfl (Sp.srd hS.sub hrq19 hcq19 (fun _ _ h => h)) (by (try simp only [List.length_cons, List.length_nil, List.length_append, List.length_take, List.length_map, List.length_replicate, maxLen]); omega) (by (try simp only [List.length_cons, List.length_nil, List.length_append, List.length_take, List.length_map, List.length_replicate, maxLen]); omega) (fun Ar21 cr21 w20 hS => ?_))
   have hp22 := hS.cap 0 rfl
   have hlhp22 := hp22.le
   have hmhp22 := hp22.mx
   refine wv rfl rfl rfl (R_assign rfl rfl) ?_
   refine W_nil <| E_then (C_fr [(0, .slice Aa0 a0.length ca0), (3, .int .i64 (max (widthS a0) 1)), (4, .slice Ar10 ((a0.take i).map (fun r => r ++ List.replicate ((max (widthS a0) 1) - (r.length : Int)).toNat [])).length cr10), (5, .int .i64 (i : Int)), (6, .slice Ar21 (([] : List St) ++ (a0.getD i [])).length cr21)] rfl ?_)
   refine C_seq <| C_block ?_
   have hs25 : ([] : List St) ++ (a0.getD i []) = a0.getD i [] ++ List.replicate (0 : Nat) [] := by simp
   have hS := hS.re 0 rfl hs25
   refine C_fr [(0, .slice Aa0 a0.length ca0), (3, .int .i64 (max (widthS a0) 1)), (4, .slice Ar10 ((a0.take i).map (fun r => r ++ List.replicate ((max (widthS a0) 1) - (r.length : Int)).toNat [])).length cr10), (5, .int .i64 (i : Int)), (6, .slice Ar21 (([] : List St) ++ (a0.getD i [])).length cr21)] rfl ?_
   refine C_loop (fun m_ f_ w_ => ∃ (k : Nat) (Ar23 : Option Addr) (cr23 : Nat), f_ = [(0, .slice Aa0 a0.length ca0), (3, .int .i64 (max (widthS a0) 1)), (4, .slice Ar10 ((a0.take i).map (fun r => r ++ List.replicate ((max (widthS a0) 1) - (r.length : Int)).toNat [])).length cr10), (5, .int .i64 (i : Int)), (6, .slice Ar23 (a0.getD i [] ++ List.replicate k []).length cr23)] ∧ ((a0.getD i []).length : Int) + k ≤ max (widthS a0) 1 ∧ m_ = 20000 - k ∧ Sp (FF []) w z w_ [zR z11, oR (kslice kstr) 43 z11 Ar10 cr10 ((a0.take i).map (fun r => r ++ List.replicate ((max (widthS a0) 1) - (r.length : Int)).toNat [])), oR kstr 9 zE Ar23 cr23 (a0.getD i [] ++ List.replicate k [])]) (20000 - (0 : Nat)) ⟨(0 : Nat), Ar21, cr21, (by rw [← hs25] <;> rfl), (by omega), rfl, hS.fin [1, 2, 0] (by decide) rfl⟩ ?_
   rintro m_ f_ w24 ⟨k, Ar23, cr23, rfl, hI1_0, rfl, hS⟩
   have hp26 := hS.cap 2 rfl
   have hlhp26 := hp26.le
   have hmhp26 := hp26.mx
   refine C_seq <| C_seq <| C_region <| wv rfl rfl rfl (R_move rfl rfl) <| wv rfl rfl rfl (R_len rfl rfl Tryz.underlying43) <| wv rfl rfl rfl (R_move rfl rfl) <| wv rfl rfl rfl (R_bin rfl rfl rfl rfl rfl) ?_
   refine W_nil <| E_then <| C_ite rfl (fun hC2 => ?_) (fun hC2 => ?_)
   ·have hC2p : ((a0.getD i [] ++ List.replicate k []).length : Int) < (max (widthS a0) 1) := by simpa using hC2
    refine C_skip <| E_then <| C_block <| C_region <| wv rfl rfl rfl (R_move rfl rfl) ?_
    refine W_cons rfl (by decide) (S_row (d := kstr) (q := zE) hS ([[]] : List St) rfl (R_buildSlice (ps := [(0, (.const (.string { data := #[] })))]) (vs := [vstr []]) (w' := w24.alloc (.cells [vstr []].toArray 9)) (r := .slice (some ⟨w24.heap.size, 0, none⟩) 1 1) rfl rfl rfl (by kernel_rfl)) (by simp [Reps, flat, kstr]) rfl (by decide) (fun g28 w27 hS => ?_))
    refine W_cons rfl (by decide) (S_append hS 3 rfl rfl rfl elem43 rfl rfl (hS.sow 0 rfl (fun _ _ h => h)) (by (try simp only [List.length_cons, List.length_nil, List.length_append, List.length_take, List.length_map, List.length_replicate, maxLen]); omega) (by (try simp only [List.length_cons, List.length_nil, List.length_append, List.length_take, List.length_map, List.length_replicate, maxLen]); omega) (fun Ar30 cr30 w29 hS => ?_))
    have hp31 := hS.cap 3 rfl
    have hlhp31 := hp31.le
    have hmhp31 := hp31.mx
    refine wv rfl rfl rfl (R_assign rfl rfl) ?_
    refine W_nil <| E_block_normal ?_
    have hs32 : (a0.getD i [] ++ List.replicate k []) ++ ([[]] : List St) = a0.getD i [] ++ List.replicate (k + 1 : Nat) [] := by rw [List.append_assoc, List.replicate_succ']
    have hS := hS.re 3 rfl hs32
    refine E_round [0, 3, 4, 5, 6] ?_ ⟨(k + 1 : Nat), Ar30, cr30, (by rw [← hs32] <;> rfl), (by (simp only [List.length_append, List.length_replicate] at *); omega), rfl, hS.fin [1, 2, 3] (by decide) rfl⟩
    (simp only [List.length_append, List.length_replicate] at *); omega
   ·have hC2p : ¬ (((a0.getD i [] ++ List.replicate k []).length : Int) < (max (widthS a0) 1)) := by simpa using hC2
    refine C_exit <| E_then_exit <| E_then_exit <| E_block_hit ?_
    refine E_then <| C_region <| wv rfl rfl rfl (R_move rfl rfl) <| wv rfl rfl rfl (R_move rfl rfl) ?_
    have hcz35 := hS.cap 2 rfl
    obtain ⟨z35, hlez35, hrz35, hS⟩ := hS.fz 2 0 rfl rfl (by decide) (zle_E _)
    have hS := hS.lift 1 rfl hlez35
    refine W_cons rfl (by decide) (S_row (d := (kslice kstr)) (q := z35) hS ([a0.getD i [] ++ List.replicate k []] : List (List St)) rfl (R_buildSlice (ps := [(0, (.tmp 35))]) (vs := [.slice Ar23 (a0.getD i [] ++ List.replicate k []).length cr23]) (w' := w24.alloc (.cells [.slice Ar23 (a0.getD i [] ++ List.replicate k []).length cr23].toArray 43)) (r := .slice (some ⟨w24.heap.size, 0, none⟩) 1 1) rfl rfl rfl (by kernel_rfl)) ⟨_, _, rfl, ⟨_, _, rfl, hcz35, hrz35⟩, rfl⟩ rfl (by decide) (fun g34 w33 hS => ?_))
    refine W_cons rfl (by decide) (S_append hS 2 rfl rfl rfl elem22 rfl rfl (hS.sow 0 rfl (fun _ _ h => h)) (by (try simp only [List.length_cons, List.length_nil, List.length_append, List.length_take, List.length_map, List.length_replicate, maxLen]); omega) (by (try simp only [List.length_cons, List.length_nil, List.length_append, List.length_take, List.length_map, List.length_replicate, maxLen]); omega) (fun Ar37 cr37 w36 hS => ?_))
    have hp38 := hS.cap 2 rfl
    have hlhp38 := hp38.le
    have hmhp38 := hp38.mx
    refine wv rfl rfl rfl (R_assign rfl rfl) ?_
    refine W_nil <| E_block_normal <| E_then (C_fr [(0, .slice Aa0 a0.length ca0), (3, .int .i64 (max (widthS a0) 1)), (4, .slice Ar37 (((a0.take i).map (fun r => r ++ List.replicate ((max (widthS a0) 1) - (r.length : Int)).toNat [])) ++ ([a0.getD i [] ++ List.replicate k []] : List (List St))).length cr37), (5, .int .i64 (i : Int))] rfl ?_)
    refine C_region <| wv rfl rfl rfl (R_move rfl rfl) <| wv rfl rfl rfl (R_add64 rfl rfl rfl (by omega) (by omega)) <| wv rfl rfl rfl (R_assign rfl rfl) ?_
    refine W_nil ?_
    have hs39 : ((a0.take i).map (fun r => r ++ List.replicate ((max (widthS a0) 1) - (r.length : Int)).toNat [])) ++ ([a0.getD i [] ++ List.replicate k []] : List (List St)) = (a0.take (i + 1 : Nat)).map (fun r => r ++ List.replicate ((max (widthS a0) 1) - (r.length : Int)).toNat []) := by rw [List.take_succ_eq_append_getElem (show i < a0.length by omega), List.map_append]; simp only [List.map_cons, List.map_nil, List.length_append, List.length_replicate] at *; simp [List.getD, (show i < a0.length by omega)] at *; omega
    have hS := hS.re 2 rfl hs39
    refine E_round [0, 3, 4, 5] ?_ ⟨(i + 1 : Nat), Ar37, cr37, z35, (by rw [← hs39] <;> rfl), (by omega), rfl, hS.fin [1, 2] (by decide) rfl⟩
    omega
  ·have hC1p : ¬ ((i : Int) < (a0.length : Int)) := by simpa using hC1
   refine C_exit <| E_then_exit <| E_then_exit <| E_block_hit ?_
   refine E_then (C_fr [(4, .slice Ar10 ((a0.take i).map (fun r => r ++ List.replicate ((max (widthS a0) 1) - (r.length : Int)).toNat [])).length cr10)] rfl ?_)
   refine C_seq <| C_region <| wv rfl rfl rfl (R_move rfl rfl) <| wv rfl rfl rfl (R_assign rfl rfl) ?_
   refine W_nil <| E_then <| C_ret ?_
   have hq40 : (a0.take i).map (fun r => r ++ List.replicate ((max (widthS a0) 1) - (r.length : Int)).toNat []) = fillS a0 := by rw [← rfill_eq]; unfold rfillS; (rw [if_neg (fun h_ => by rw [h_] at hC0p; exact hC0p rfl)]; unfold padS; rw [List.take_of_length_le (by omega)])
   have hS := hS.re 1 rfl hq40
   refine E_ret1 rfl rfl ?_
   exact ⟨Ar10, cr10, z11, Lret1 (Lslice hq40), hS.fin [0, 1] (by decide) rfl⟩
theorem grow_calls (a1 : Int) (z : Z) (w : World) (hI : In z w [])  (p0 : 0 ≤ a1 ∧ a1 ≤ 1000000000) :
    Calls Tryz.prog 91 #[.slice none 0 0, .int .i64 a1] w fun e w' => ∃ (AR0 : Option Addr) (cR0 : Nat), e = .returned (.slice AR0 ([] : List St).length cR0) ∧ Sp (FF []) w z w' [oR kstr 9 zE AR0 cR0 ([] : List St)] := by
 have hS := hI.sp
 refine Calls_of (vs := [.slice none 0 0, .int .i64 a1]) (N := 27) Tryz.func91 rfl rfl (Nat.le_of_ble_eq_true rfl) ?_
 refine C_seq <| C_region <| wv rfl rfl rfl (R_assign rfl rfl) ?_
 refine W_nil <| E_then <| C_seq <| C_seq <| C_region <| wv rfl rfl rfl (R_move rfl rfl) <| wv rfl rfl rfl (R_bin rfl rfl rfl rfl rfl) ?_
 refine W_nil <| E_then <| C_ite rfl (fun hC0 => ?_) (fun hC0 => ?_)
 ·have hC0p : a1 < 0 := by simpa using hC0
  exfalso; omega
 ·have hC0p : ¬ (a1 < 0) := by simpa using hC0
  refine C_skip <| E_then <| C_seq <| C_seq <| C_region <| wv rfl rfl rfl (R_move rfl rfl) <| wv rfl rfl rfl (R_move rfl rfl) <| wv rfl rfl rfl (R_cap rfl rfl (by kernel_rfl)) <| wv rfl rfl rfl (R_move rfl rfl) <| wv rfl rfl rfl (R_len rfl rfl Tryz.underlying43) <| wv rfl rfl rfl (R_sub64 rfl rfl rfl (by omega) (by omega)) <| wv rfl rfl rfl (R_sub64 rfl rfl rfl (by omega) (by omega)) <| wv rfl rfl rfl (R_assign rfl rfl) ?_
  refine W_nil <| E_then (C_fr [(0, .slice none 0 0), (1, .int .i64 (a1 - (((0 : Nat) : Int) - 0)))] rfl ?_)
  refine C_seq <| C_region <| wv rfl rfl rfl (R_move rfl rfl) <| wv rfl rfl rfl (R_bin rfl rfl rfl rfl rfl) ?_
  refine W_nil <| E_then <| C_ite rfl (fun hC1 => ?_) (fun hC1 => ?_)
  ·have hC1p : (a1 - (((0 : Nat) : Int) - 0)) > 0 := by simpa using hC1
   refine C_region <| wv rfl rfl rfl (R_move rfl rfl) <| wv rfl rfl rfl (R_move rfl rfl) <| wv rfl rfl rfl (R_cap rfl rfl (by kernel_rfl)) <| wv rfl rfl rfl (R_cutnil rfl rfl rfl (by kernel_rfl) (size9 _)) <| wv rfl rfl rfl (R_move rfl rfl) ?_
   refine W_cons rfl (by decide) (S_grow (d := kstr) zE hS rfl rfl elem43 Tryz.underlying3 rfl rfl (by omega) (by omega) (by simp only [maxLen]; omega) (fun g2 cg2 w1 hS => ?_))
   refine wv rfl rfl rfl (R_move rfl rfl) <| wv rfl rfl rfl (R_len rfl rfl Tryz.underlying43) <| wv rfl rfl rfl (R_cut0 rfl rfl rfl (by kernel_rfl) (size9 _)) <| wv rfl rfl rfl (R_assign rfl rfl) ?_
   refine W_nil <| E_then (C_fr [(0, .slice (some ⟨g2, 0, none⟩) ([] : List St).length cg2)] rfl ?_)
   refine C_seq <| C_region <| wv rfl rfl rfl (R_move rfl rfl) <| wv rfl rfl rfl (R_assign rfl rfl) ?_
   refine W_nil <| E_then <| C_ret ?_
   have hq3 : ([] : List St) = ([] : List St) := by rfl
   have hS := hS.re 0 rfl hq3
   refine E_ret1 rfl rfl ?_
   exact ⟨(some ⟨g2, 0, none⟩), cg2, Lret1 (Lslice hq3), hS.fin [0] (by decide) rfl⟩
  ·have hC1p : ¬ ((a1 - (((0 : Nat) : Int) - 0)) > 0) := by simpa using hC1
   refine C_skip <| E_then <| C_seq <| C_region <| wv rfl rfl rfl (R_move rfl rfl) <| wv rfl rfl rfl (R_assign rfl rfl) ?_
   refine W_nil <| E_then (C_fr [(4, .slice none 0 0)] rfl ?_)
   refine C_ret ?_
   have hS := hS.nilrow kstr 9 zE
   have hq5 : ([] : List St) = ([] : List St) := by rfl
   have hS := hS.re 0 rfl hq5
   refine E_ret1 rfl rfl ?_
   exact ⟨none, 0, Lret1 (Lslice hq5), hS.fin [0] (by decide) rfl⟩
theorem concat_calls (a0 : List (List St)) (Aa0 : Option Addr) (ca0 : Nat) (z : Z) (w : World) (hI : In z w []) (hra0 : Rd (kslice kstr) z Aa0 a0) (hca0 : Cap Aa0 a0.length ca0) (p0 : a0.length ≤ 10000) (p1 : widthS a0 ≤ 10000) :
    Calls Tryz.prog 59 #[.slice Aa0 a0.length ca0] w fun e w' => ∃ (AR0 : Option Addr) (cR0 : Nat), e = .returned (.slice AR0 a0.flatten.length cR0) ∧ Sp (FF []) w z w' [oR kstr 9 zE AR0 cR0 a0.flatten] := by
 have hla0 := hca0.le
 have hma0 := hca0.mx
 have hS := hI.sp
 refine Calls_of (vs := [.slice Aa0 a0.length ca0]) (N := 36) Tryz.func59 rfl rfl (Nat.le_of_ble_eq_true rfl) ?_
 refine C_seq <| C_region <| wv rfl rfl rfl (R_assign rfl rfl) ?_
 refine W_nil <| E_then <| C_seq <| C_region <| wv rfl rfl rfl (R_assign rfl rfl) ?_
 refine W_nil <| E_then <| C_seq <| C_seq <| C_region <| wv rfl rfl rfl (R_move rfl rfl) <| wv rfl rfl rfl (R_len rfl rfl Tryz.underlying22) <| wv rfl rfl rfl (R_move rfl rfl) ?_
 refine W_nil <| E_then <| C_block ?_
 have hs2 : 0 = totS (a0.take (0 : Nat)) := by rfl
 refine C_fr [(0, .slice Aa0 a0.length ca0), (3, .int .i64 0), (9, .slice Aa0 a0.length ca0), (10, .int .i64 (a0.length : Int)), (11, .int .i64 0)] rfl ?_
 refine C_loop (fun m_ f_ w_ => ∃ (i : Nat), f_ = [(0, .slice Aa0 a0.length ca0), (3, .int .i64 (totS (a0.take i))), (9, .slice Aa0 a0.length ca0), (10, .int .i64 (a0.length : Int)), (11, .int .i64 (i : Int))] ∧ i ≤ a0.length ∧ m_ = a0.length - i ∧ Sp (FF []) w z w_ []) (a0.length - (0 : Nat)) ⟨(0 : Nat), (by rw [← hs2] <;> rfl), (by omega), rfl, hS.fin [] (by decide) rfl⟩ ?_
 rintro m_ f_ w1 ⟨i, rfl, hI0_0, rfl, hS⟩
 refine C_seq <| C_region <| wv rfl rfl rfl (R_bin rfl rfl rfl rfl rfl) ?_
 refine W_nil <| E_then <| C_seq <| C_ite rfl (fun hC0 => ?_) (fun hC0 => ?_)
 ·have hC0p : (i : Int) < (a0.length : Int) := by simpa using hC0
  refine C_skip <| E_then <| C_seq <| C_block <| C_seq ?_
  have ht1 := totS_bd a0 p1 i
  have ht2 := totS_bd a0 p1 (i + 1)
  have ht3 := totS_next a0 i (by omega)
  refine C_region ?_
  obtain ⟨q3, csq3, hAq3, ⟨Aq3, cq3, rfl, hcq3, hrq3⟩, hkq3⟩ := hra0.at_ [] (i := (i : Int)) (by omega) (by omega)
  have hkq3 : ∀ (j_ : Nat) (u_ : Value), ([.slice Aq3 (a0.getD i []).length cq3] : List Value)[j_]? = some u_ → cz z (q3.add (i * 1 + j_)) = some u_ := hkq3
  have hrq3 : Rd kstr z Aq3 ((a0.getD i [])) := hrq3
  have hcq3 : Cap Aq3 ((a0.getD i [])).length cq3 := hcq3
  have hlq3 := hcq3.le
  have hmq3 := hcq3.mx
  refine wv rfl rfl rfl (R_idx rfl rfl hAq3 rfl Tryz.underlying22 size43 (by omega) (by omega)) <| wv rfl rfl rfl (R_load1 rfl rfl agg43 (hS.sub.cell (hkq3 0 _ rfl))) <| wv rfl rfl rfl (R_assign rfl rfl) ?_
  refine W_nil <| E_then <| C_seq <| C_region <| wv rfl rfl rfl (R_move rfl rfl) <| wv rfl rfl rfl (R_move rfl rfl) <| wv rfl rfl rfl (R_len rfl rfl Tryz.underlying43) <| wv rfl rfl rfl (R_add64 rfl rfl rfl (by omega) (by omega)) <| wv rfl rfl rfl (R_assign rfl rfl) ?_
  refine W_nil <| E_then (C_fr [(0, .slice Aa0 a0.length ca0), (3, .int .i64 ((totS (a0.take i)) + ((a0.getD i []).length : Int))), (9, .slice Aa0 a0.length ca0), (10, .int .i64 (a0.length : Int)), (11, .int .i64 (i : Int))] rfl ?_)
  refine C_seq <| C_region <| wv rfl rfl rfl (R_move rfl rfl) <| wv rfl rfl rfl (R_bin rfl rfl rfl rfl rfl) ?_
  refine W_nil <| E_then <| C_ite rfl (fun hC1 => ?_) (fun hC1 => ?_)
  ·have hC1p : ((totS (a0.take i)) + ((a0.getD i []).length : Int)) < 0 := by simpa using hC1
   exfalso; omega
  ·have hC1p : ¬ (((totS (a0.take i)) + ((a0.getD i []).length : Int)) < 0) := by simpa using hC1
   refine C_skip <| E_block_normal <| E_then <| C_region <| wv rfl rfl rfl (R_add64 rfl rfl rfl (by omega) (by omega)) <| wv rfl rfl rfl (R_move rfl rfl) ?_
   refine W_nil ?_
   have hs4 : (totS (a0.take i)) + ((a0.getD i []).length : Int) = totS (a0.take (i + 1 : Nat)) := by exact (totS_next a0 i (by omega)).symm
   refine E_round [0, 3, 9, 10, 11] ?_ ⟨(i + 1 : Nat), (by rw [← hs4] <;> rfl), (by omega), rfl, hS.fin [] (by decide) rfl⟩
   omega
 ·have hC0p : ¬ ((i : Int) < (a0.length : Int)) := by simpa using hC0
  refine C_exit <| E_then_exit <| E_then_exit <| E_block_hit ?_
  refine E_then <| C_seq ?_
  have ht1 := totS_bd a0 p1 i
  refine C_region <| wv rfl rfl rfl (R_move rfl rfl) ?_
  refine W_cons rfl (by decide) (Sv_call rfl rfl rfl ent91 ?_)
  refine (grow_calls (totS (a0.take i)) _ _ hS.out0  (by omega)).mono ?_
  rintro e_ w5 ⟨AR0_6, cR0_6, rfl, hS_⟩
  refine ⟨_, rfl, ?_⟩
  have hS := hS.call0 hS_
  have hp7 := hS.cap 0 rfl
  have hlhp7 := hp7.le
  have hmhp7 := hp7.mx
  refine wv rfl rfl rfl (R_assign rfl rfl) ?_
  refine W_nil <| E_then (C_fr [(0, .slice Aa0 a0.length ca0), (6, .slice AR0_6 ([] : List St).length cR0_6)] rfl ?_)
  refine C_seq <| C_seq <| C_region <| wv rfl rfl rfl (R_move rfl rfl) <| wv rfl rfl rfl (R_len rfl rfl Tryz.underlying22) <| wv rfl rfl rfl (R_move rfl rfl) ?_
  refine W_nil <| E_then <| C_block ?_
  have hs10 : ([] : List St) = (a0.take (0 : Nat)).flatten := by rfl
  have hS := hS.re 0 rfl hs10
  refine C_fr [(6, .slice AR0_6 ([] : List St).length cR0_6), (25, .slice Aa0 a0.length ca0), (26, .int .i64 (a0.length : Int)), (27, .int .i64 0)] rfl ?_
  refine C_loop (fun m_ f_ w_ => ∃ (i2 : Nat) (Ar8 : Option Addr) (cr8 : Nat), f_ = [(6, .slice Ar8 (a0.take i2).flatten.length cr8), (25, .slice Aa0 a0.length ca0), (26, .int .i64 (a0.length : Int)), (27, .int .i64 (i2 : Int))] ∧ i2 ≤ a0.length ∧ m_ = a0.length - i2 ∧ Sp (FF []) w z w_ [oR kstr 9 zE Ar8 cr8 (a0.take i2).flatten]) (a0.length - (0 : Nat)) ⟨(0 : Nat), AR0_6, cR0_6, (by rw [← hs10] <;> rfl), (by omega), rfl, hS.fin [0] (by decide) rfl⟩ ?_
  rintro m_ f_ w9 ⟨i2, Ar8, cr8, rfl, hI1_0, rfl, hS⟩
  have hp11 := hS.cap 0 rfl
  have hlhp11 := hp11.le
  have hmhp11 := hp11.mx
  refine C_seq <| C_region <| wv rfl rfl rfl (R_bin rfl rfl rfl rfl rfl) ?_
  refine W_nil <| E_then <| C_seq <| C_ite rfl (fun hC2 => ?_) (fun hC2 => ?_)
  ·have hC2p : (i2 : Int) < (a0.length : Int) := by simpa using hC2
   refine C_skip <| E_then <| C_seq <| C_block <| C_seq ?_
   have ht4 := totS_bd a0 p1 i2
   have ht5 := totS_next a0 i2 (by omega)
   have ht6 := totS_bd a0 p1 (i2 + 1)
   unfold totS at ht4 ht5 ht6
   refine C_region ?_
   obtain ⟨q12, csq12, hAq12, ⟨Aq12, cq12, rfl, hcq12, hrq12⟩, hkq12⟩ := hra0.at_ [] (i := (i2 : Int)) (by omega) (by omega)
   have hkq12 : ∀ (j_ : Nat) (u_ : Value), ([.slice Aq12 (a0.getD i2 []).length cq12] : List Value)[j_]? = some u_ → cz z (q12.add (i2 * 1 + j_)) = some u_ := hkq12
   have hrq12 : Rd kstr z Aq12 ((a0.getD i2 [])) := hrq12
   have hcq12 : Cap Aq12 ((a0.getD i2 [])).length cq12 := hcq12
   have hlq12 := hcq12.le
   have hmq12 := hcq12.mx
   refine wv rfl rfl rfl (R_idx rfl rfl hAq12 rfl Tryz.underlying22 size43 (by omega) (by omega)) <| wv rfl rfl rfl (R_load1 rfl rfl agg43 (hS.sub.cell (hkq12 0 _ rfl))) <| wv rfl rfl rfl (R_assign rfl rfl) ?_
   refine W_nil <| E_then <| C_region <| wv rfl rfl rfl (R_move rfl rfl) <| wv rfl rfl rfl (R_move rfl rfl) ?_
   refine W_cons rfl (by decide) (S_append hS 0 rfl rfl rfl elem43 rfl rfl (Sp.srd hS.sub hrq12 hcq12 (fun _ _ h => h)) (by (try simp only [List.length_cons, List.length_nil, List.length_append, maxLen]); omega) (by (try simp only [List.length_cons, List.length_nil, List.length_append, maxLen]); omega) (fun Ar14 cr14 w13 hS => ?_))
   have hp15 := hS.cap 0 rfl
   have hlhp15 := hp15.le
   have hmhp15 := hp15.mx
   refine wv rfl rfl rfl (R_assign rfl rfl) ?_
   refine W_nil <| E_block_normal <| E_then (C_fr [(6, .slice Ar14 ((a0.take i2).flatten ++ (a0.getD i2 [])).length cr14), (25, .slice Aa0 a0.length ca0), (26, .int .i64 (a0.length : Int)), (27, .int .i64 (i2 : Int))] rfl ?_)
   refine C_region <| wv rfl rfl rfl (R_add64 rfl rfl rfl (by omega) (by omega)) <| wv rfl rfl rfl (R_move rfl rfl) ?_
   refine W_nil ?_
   have hs16 : (a0.take i2).flatten ++ (a0.getD i2 []) = (a0.take (i2 + 1 : Nat)).flatten := by exact (flat_next a0 i2 (by omega)).symm
   have hS := hS.re 0 rfl hs16
   refine E_round [6, 25, 26, 27] ?_ ⟨(i2 + 1 : Nat), Ar14, cr14, (by rw [← hs16] <;> rfl), (by omega), rfl, hS.fin [0] (by decide) rfl⟩
   omega
  ·have hC2p : ¬ ((i2 : Int) < (a0.length : Int)) := by simpa using hC2
   refine C_exit <| E_then_exit <| E_then_exit <| E_block_hit ?_
   refine E_then <| C_seq <| C_region <| wv rfl rfl rfl (R_move rfl rfl) <| wv rfl rfl rfl (R_assign rfl rfl) ?_
   refine W_nil <| E_then (C_fr [(2, .slice Ar8 (a0.take i2).flatten.length cr8)] rfl ?_)
   refine C_ret ?_
   have hq17 : (a0.take i2).flatten = a0.flatten := by rw [List.take_of_length_le (by omega)]
   have hS := hS.re 0 rfl hq17
   refine E_ret1 rfl rfl ?_
   exact ⟨Ar8, cr8, Lret1 (Lslice hq17), hS.fin [0] (by decide) rfl⟩
theorem tcheck_calls (a0 : List (List St)) (Aa0 : Option Addr) (ca0 : Nat) (z : Z) (w : World) (hI : In z w []) (hra0 : Rd (kslice kstr) z Aa0 a0) (hca0 : Cap Aa0 a0.length ca0) (p0 : a0.length ≤ 10000) (p1 : widthS a0 ≤ 10000) :
    Calls Tryz.prog 26 #[.slice Aa0 a0.length ca0] w fun e w' => e = .returned (.int .i64 (checkS a0)) ∧ Sp (FF []) w z w' [] := by
 have hla0 := hca0.le
 have hma0 := hca0.mx
 have hS := hI.sp
 refine Calls_of (vs := [.slice Aa0 a0.length ca0]) (N := 27) Tryz.func26 rfl rfl (Nat.le_of_ble_eq_true rfl) ?_
 refine C_seq <| C_region <| wv rfl rfl rfl (R_assign rfl rfl) ?_
 refine W_nil <| E_then <| C_seq <| C_region <| wv rfl rfl rfl (R_move rfl rfl) ?_
 refine W_cons rfl (by decide) (Sv_call rfl rfl rfl ent55 ?_)
 refine (width_calls a0 Aa0 ca0 _ _ hS.out0 (hra0.mono (hS.zl [])) hca0 ).mono ?_
 rintro e_ w1 ⟨rfl, hS_⟩
 refine ⟨_, rfl, ?_⟩
 have hS := hS.call0 hS_
 refine W_cons rfl (by decide) (S_box hS rfl (R_alloc rfl alloc3) (fun b4 w3 hS => ?_))
 refine W_cons0 rfl (S_store hS 0 rfl rfl rfl rfl rfl size3 (one1 rfl) (Nat.le_of_ble_eq_true rfl) (fun w5 hS => ?_))
 refine W_nil <| E_then <| C_seq <| C_seq <| C_region <| wv rfl rfl rfl (R_load1 rfl rfl agg3 ((hS.bx 0 rfl).cell rfl)) <| wv rfl rfl rfl (R_bin rfl rfl rfl rfl rfl) <| wv rfl rfl rfl (R_move rfl rfl) ?_
 refine W_split (t := 9) rfl (fun hg6 => ?_) (fun hg6 => ?_)
 ·have hg6p : (widthS a0) = 0 := by simpa using hg6
  refine W_cons rfl (by decide) (Sv_off rfl rfl rfl (by rw [hg6] <;> rfl) ?_)
  refine W_cons rfl (by decide) (Sv_off rfl rfl rfl (by rw [hg6] <;> rfl) ?_)
  refine W_cons rfl (by decide) (Sv_off rfl rfl rfl (by rw [hg6] <;> rfl) ?_)
  refine wv rfl rfl rfl (R_pick_t rfl rfl hg6 rfl) ?_
  refine W_nil <| E_then (C_fr [(0, .slice Aa0 a0.length ca0), (3, .pointer (some ⟨b4, 0, none⟩)), (13, .bool true)] rfl ?_)
  refine C_if rfl rfl ?_
  refine C_seq <| C_region <| wv rfl rfl rfl (R_assign rfl rfl) ?_
  refine W_nil <| E_then <| C_ret <| E_then_ret <| E_ret1 rfl rfl ?_
  exact ⟨Lret1 (Lint (show 1 = checkS a0 by (unfold checkS; simp_all; done))), hS.fin [] (by decide) rfl⟩
 ·have hg6p : ¬ ((widthS a0) = 0) := by simpa using hg6
  refine W_cons rfl (by decide) (Sv_gt rfl rfl rfl hg6 (Sv_val rfl (R_move rfl rfl) ?_))
  refine W_cons rfl (by decide) (Sv_gt rfl rfl rfl hg6 (Sv_val rfl (R_makeFunc rfl rfl) ?_))
  have hS := hS.bun [0] (by decide)
  refine W_cons rfl (by decide) (Sv_gt rfl rfl rfl hg6 (Sv_call rfl rfl rfl ent56 ?_))
  refine (cfr_has_calls a0 Aa0 ca0 57 [.pointer (some ⟨b4, 0, none⟩)] (allR [bR b4 3 [.int .i64 (widthS a0)]]) zE (fun (x_ : List St) => ((x_.length : Int) != (widthS a0))) _ _ (hS.out [0] (by decide)) (hra0.mono (hS.zl [0])) hca0 (tcheck1_fv b4 (widthS a0) _ ) (zle_E _) ).mono ?_
  rintro e_ w7 ⟨rfl, hS_⟩
  refine ⟨_, rfl, ?_⟩
  have hS := hS.call [0] (by decide) hS_
  have hS := hS.unb
  refine wv rfl rfl rfl (R_pick_f rfl rfl hg6 rfl) ?_
  refine W_nil <| E_then (C_fr [(0, .slice Aa0 a0.length ca0), (3, .pointer (some ⟨b4, 0, none⟩)), (13, .bool (hasF (fun (x_ : List St) => ((x_.length : Int) != (widthS a0))) a0))] rfl ?_)
  refine C_ite rfl (fun hC0 => ?_) (fun hC0 => ?_)
  ·refine C_seq <| C_region <| wv rfl rfl rfl (R_assign rfl rfl) ?_
   refine W_nil <| E_then <| C_ret <| E_then_ret <| E_ret1 rfl rfl ?_
   exact ⟨Lret1 (Lint (show 1 = checkS a0 by (unfold checkS; simp_all; done))), hS.fin [] (by decide) rfl⟩
  ·refine C_skip <| E_then <| C_seq <| C_region <| wv rfl rfl rfl (R_move rfl rfl) ?_
   refine W_cons rfl (by decide) (Sv_call rfl rfl rfl ent59 ?_)
   refine (concat_calls a0 Aa0 ca0 _ _ hS.out0 (hra0.mono (hS.zl [])) hca0 (by omega) (by omega)).mono ?_
   rintro e_ w10 ⟨AR0_11, cR0_11, rfl, hS_⟩
   refine ⟨_, rfl, ?_⟩
   have hS := hS.call0 hS_
   have hp12 := hS.cap 0 rfl
   have hlhp12 := hp12.le
   have hmhp12 := hp12.mx
   have hS := hS.bun [] (by decide)
   refine W_cons rfl (by decide) (Sv_call rfl rfl rfl ent58 ?_)
   refine (cfs_has_calls a0.flatten AR0_11 cR0_11 60 [] (allR []) zE (fun (x_ : St) => decide ((x_.length : Int) > 1024)) _ _ (hS.out [0] (by decide)) (hS.ow [0] 1 rfl rfl (zle_E _)) (hS.cap 1 rfl) (tcheck2_fv  _ ) (zle_E _) ).mono ?_
   rintro e_ w13 ⟨rfl, hS_⟩
   refine ⟨_, rfl, ?_⟩
   have hS := hS.call [0] (by decide) hS_
   have hS := hS.unb
   refine wv rfl rfl rfl (R_assign rfl rfl) ?_
   refine W_nil <| E_then <| C_seq <| C_seq <| C_region <| wv rfl rfl rfl (R_move rfl rfl) <| wv rfl rfl rfl (R_move rfl rfl) ?_
   refine W_split (t := 18) rfl (fun hg16 => ?_) (fun hg16 => ?_)
   ·refine W_cons rfl (by decide) (Sv_off rfl rfl rfl (by rw [hg16] <;> rfl) ?_)
    refine W_cons rfl (by decide) (Sv_off rfl rfl rfl (by rw [hg16] <;> rfl) ?_)
    refine W_cons rfl (by decide) (Sv_off rfl rfl rfl (by rw [hg16] <;> rfl) ?_)
    refine wv rfl rfl rfl (R_pick_t rfl rfl hg16 rfl) <| wv rfl rfl rfl (R_move rfl rfl) ?_
    refine W_cons rfl (by decide) (Sv_off rfl rfl rfl rfl ?_)
    refine W_cons rfl (by decide) (Sv_off rfl rfl rfl rfl ?_)
    refine wv rfl rfl rfl (R_pick_t rfl rfl rfl rfl) ?_
    refine W_nil <| E_then (C_fr [(26, .bool true)] rfl ?_)
    refine C_if rfl rfl ?_
    refine C_seq <| C_region <| wv rfl rfl rfl (R_assign rfl rfl) ?_
    refine W_nil <| E_then <| C_ret <| E_then_ret <| E_ret1 rfl rfl ?_
    exact ⟨Lret1 (Lint (show 3 = checkS a0 by (unfold checkS; simp_all; done))), hS.fin [] (by decide) rfl⟩
   ·refine W_cons rfl (by decide) (Sv_gt rfl rfl rfl hg16 (Sv_val rfl (R_move rfl rfl) ?_))
    refine W_cons rfl (by decide) (Sv_gt rfl rfl rfl hg16 (Sv_val rfl (R_len rfl rfl Tryz.underlying22) ?_))
    refine W_cons rfl (by decide) (Sv_gt rfl rfl rfl hg16 (Sv_val rfl (R_bin rfl rfl rfl rfl rfl) ?_))
    refine wv rfl rfl rfl (R_pick_f rfl rfl hg16 rfl) <| wv rfl rfl rfl (R_move rfl rfl) ?_
    refine W_split (t := 23) rfl (fun hg17 => ?_) (fun hg17 => ?_)
    ·have hg17p : (a0.length : Int) > 24 := by simpa using hg17
     refine W_cons rfl (by decide) (Sv_off rfl rfl rfl (by rw [hg17] <;> rfl) ?_)
     refine W_cons rfl (by decide) (Sv_off rfl rfl rfl (by rw [hg17] <;> rfl) ?_)
     refine wv rfl rfl rfl (R_pick_t rfl rfl hg17 rfl) ?_
     refine W_nil <| E_then (C_fr [(26, .bool true)] rfl ?_)
     refine C_if rfl rfl ?_
     refine C_seq <| C_region <| wv rfl rfl rfl (R_assign rfl rfl) ?_
     refine W_nil <| E_then <| C_ret <| E_then_ret <| E_ret1 rfl rfl ?_
     exact ⟨Lret1 (Lint (show 3 = checkS a0 by (unfold checkS; simp_all; done))), hS.fin [] (by decide) rfl⟩
    ·have hg17p : ¬ ((a0.length : Int) > 24) := by simpa using hg17
     refine W_cons rfl (by decide) (Sv_gt rfl rfl rfl hg17 (Sv_val rfl (R_load1 rfl rfl agg3 ((hS.bx 1 rfl).cell rfl)) ?_))
     refine W_cons rfl (by decide) (Sv_gt rfl rfl rfl hg17 (Sv_val rfl (R_bin rfl rfl rfl rfl rfl) ?_))
     refine wv rfl rfl rfl (R_pick_f rfl rfl hg17 rfl) ?_
     refine W_nil <| E_then (C_fr [(26, .bool (decide ((widthS a0) > 16)))] rfl ?_)
     refine C_ite rfl (fun hC1 => ?_) (fun hC1 => ?_)
     ·have hC1p : (widthS a0) > 16 := by simpa using hC1
      refine C_seq <| C_region <| wv rfl rfl rfl (R_assign rfl rfl) ?_
      refine W_nil <| E_then <| C_ret <| E_then_ret <| E_ret1 rfl rfl ?_
      exact ⟨Lret1 (Lint (show 3 = checkS a0 by (unfold checkS; simp_all; done))), hS.fin [] (by decide) rfl⟩
     ·have hC1p : ¬ ((widthS a0) > 16) := by simpa using hC1
      refine C_skip <| E_then <| C_seq <| C_region <| wv rfl rfl rfl (R_assign rfl rfl) ?_
      refine W_nil <| E_then <| C_ret <| E_ret1 rfl rfl ?_
      exact ⟨Lret1 (Lint (show 0 = checkS a0 by (unfold checkS; simp_all; rw [if_neg (by omega), if_neg (by omega)]))), hS.fin [] (by decide) rfl⟩
theorem rtcheck_calls (a0 : List (List St)) (Aa0 : Option Addr) (ca0 : Nat) (z : Z) (w : World) (hI : In z w []) (hra0 : Rd (kslice kstr) z Aa0 a0) (hca0 : Cap Aa0 a0.length ca0)  :
    Calls Tryz.prog 31 #[.slice Aa0 a0.length ca0] w fun e w' => e = .returned (.int .i64 (checkS a0)) ∧ Sp (FF []) w z w' [] := by
 have hla0 := hca0.le
 have hma0 := hca0.mx
 have hS := hI.sp
 refine Calls_of (vs := [.slice Aa0 a0.length ca0]) (N := 66) Tryz.func31 rfl rfl (Nat.le_of_ble_eq_true rfl) ?_
 refine C_seq <| C_region <| wv rfl rfl rfl (R_assign rfl rfl) ?_
 refine W_nil <| E_then <| C_seq <| C_seq <| C_region <| wv rfl rfl rfl (R_move rfl rfl) <| wv rfl rfl rfl (R_len rfl rfl Tryz.underlying22) <| wv rfl rfl rfl (R_bin rfl rfl rfl rfl rfl) <| wv rfl rfl rfl (R_move rfl rfl) ?_
 refine W_split (t := 9) rfl (fun hg1 => ?_) (fun hg1 => ?_)
 ·have hg1p : (a0.length : Int) = 0 := by simpa using hg1
  refine W_cons rfl (by decide) (Sv_off rfl rfl rfl (by rw [hg1] <;> rfl) ?_)
  refine W_cons rfl (by decide) (Sv_off rfl rfl rfl (by rw [hg1] <;> rfl) ?_)
  refine W_cons rfl (by decide) (Sv_off rfl rfl rfl (by rw [hg1] <;> rfl) ?_)
  refine W_cons rfl (by decide) (Sv_off rfl rfl rfl (by rw [hg1] <;> rfl) ?_)
  refine W_cons rfl (by decide) (Sv_off rfl rfl rfl (by rw [hg1] <;> rfl) ?_)
  refine wv rfl rfl rfl (R_pick_t rfl rfl hg1 rfl) ?_
  refine W_nil <| E_then (C_fr [(0, .slice Aa0 a0.length ca0), (15, .bool true)] rfl ?_)
  refine C_if rfl rfl ?_
  refine C_seq <| C_region <| wv rfl rfl rfl (R_assign rfl rfl) ?_
  refine W_nil <| E_then <| C_ret <| E_then_ret <| E_ret1 rfl rfl ?_
  exact ⟨Lret1 (Lint (show 1 = checkS a0 by exact (chk1 (by exact .inl (by omega))).symm)), hS.fin [] (by decide) rfl⟩
 ·have hg1p : ¬ ((a0.length : Int) = 0) := by simpa using hg1
  refine W_cons rfl (by decide) (Sv_gt rfl rfl rfl hg1 (Sv_val rfl (R_move rfl rfl) ?_))
  obtain ⟨q2, csq2, hAq2, ⟨Aq2, cq2, rfl, hcq2, hrq2⟩, hkq2⟩ := hra0.at_ [] (i := 0) (by omega) (by omega)
  have hkq2 : ∀ (j_ : Nat) (u_ : Value), ([.slice Aq2 (a0.getD 0 []).length cq2] : List Value)[j_]? = some u_ → cz z (q2.add (0 * 1 + j_)) = some u_ := hkq2
  have hrq2 : Rd kstr z Aq2 ((a0.getD 0 [])) := hrq2
  have hcq2 : Cap Aq2 ((a0.getD 0 [])).length cq2 := hcq2
  have hlq2 := hcq2.le
  have hmq2 := hcq2.mx
  refine W_cons rfl (by decide) (Sv_gt rfl rfl rfl hg1 (Sv_val rfl (R_idx rfl rfl hAq2 rfl Tryz.underlying22 size43 (by omega) (by omega)) ?_))
  refine W_cons rfl (by decide) (Sv_gt rfl rfl rfl hg1 (Sv_val rfl (R_load1 rfl rfl agg43 (hS.sub.cell (hkq2 0 _ rfl))) ?_))
  refine W_cons rfl (by decide) (Sv_gt rfl rfl rfl hg1 (Sv_val rfl (R_len rfl rfl Tryz.underlying43) ?_))
  refine W_cons rfl (by decide) (Sv_gt rfl rfl rfl hg1 (Sv_val rfl (R_bin rfl rfl rfl rfl rfl) ?_))
  refine wv rfl rfl rfl (R_pick_f rfl rfl hg1 rfl) ?_
  refine W_nil <| E_then (C_fr [(0, .slice Aa0 a0.length ca0), (15, .bool (((a0.getD 0 []).length : Int) == 0))] rfl ?_)
  refine C_ite rfl (fun hC0 => ?_) (fun hC0 => ?_)
  ·have hC0p : ((a0.getD 0 []).length : Int) = 0 := by simpa using hC0
   refine C_seq <| C_region <| wv rfl rfl rfl (R_assign rfl rfl) ?_
   refine W_nil <| E_then <| C_ret <| E_then_ret <| E_ret1 rfl rfl ?_
   exact ⟨Lret1 (Lint (show 1 = checkS a0 by exact (chk1 (by exact .inr (by omega))).symm)), hS.fin [] (by decide) rfl⟩
  ·have hC0p : ¬ (((a0.getD 0 []).length : Int) = 0) := by simpa using hC0
   refine C_skip <| E_then <| C_seq <| C_seq <| C_region <| wv rfl rfl rfl (R_assign rfl rfl) ?_
   refine W_nil <| E_then <| C_block <| C_fr [(0, .slice Aa0 a0.length ca0), (3, .int .i64 0)] rfl ?_
   refine C_loop (fun m_ f_ w_ => ∃ (i : Nat), f_ = [(0, .slice Aa0 a0.length ca0), (3, .int .i64 (i : Int))] ∧ i ≤ a0.length ∧ (a0.take i).any (fun r => (r.length : Int) != ((a0.getD 0 []).length : Int)) = false ∧ m_ = a0.length - i ∧ Sp (FF []) w z w_ []) (a0.length - (0 : Nat)) ⟨(0 : Nat), rfl, (by omega), (by rfl), rfl, hS.fin [] (by decide) rfl⟩ ?_
   rintro m_ f_ w3 ⟨i, rfl, hI0_0, hI0_1, rfl, hS⟩
   refine C_seq <| C_seq <| C_region <| wv rfl rfl rfl (R_move rfl rfl) <| wv rfl rfl rfl (R_move rfl rfl) <| wv rfl rfl rfl (R_len rfl rfl Tryz.underlying22) <| wv rfl rfl rfl (R_bin rfl rfl rfl rfl rfl) ?_
   refine W_nil <| E_then <| C_ite rfl (fun hC1 => ?_) (fun hC1 => ?_)
   ·have hC1p : (i : Int) < (a0.length : Int) := by simpa using hC1
    refine C_skip <| E_then <| C_seq <| C_block <| C_seq <| C_fr [(0, .slice Aa0 a0.length ca0), (3, .int .i64 (i : Int))] rfl ?_
    obtain ⟨q6, csq6, hAq6, ⟨Aq6, cq6, rfl, hcq6, hrq6⟩, hkq6⟩ := hra0.at_ [] (i := (i : Int)) (by omega) (by omega)
    have hkq6 : ∀ (j_ : Nat) (u_ : Value), ([.slice Aq6 (a0.getD i []).length cq6] : List Value)[j_]? = some u_ → cz z (q6.add (i * 1 + j_)) = some u_ := hkq6
    have hrq6 : Rd kstr z Aq6 ((a0.getD i [])) := hrq6
    have hcq6 : Cap Aq6 ((a0.getD i [])).length cq6 := hcq6
    have hlq6 := hcq6.le
    have hmq6 := hcq6.mx
    obtain ⟨q7, csq7, hAq7, ⟨Aq7, cq7, rfl, hcq7, hrq7⟩, hkq7⟩ := hra0.at_ [] (i := 0) (by omega) (by omega)
    have hkq7 : ∀ (j_ : Nat) (u_ : Value), ([.slice Aq7 (a0.getD 0 []).length cq7] : List Value)[j_]? = some u_ → cz z (q7.add (0 * 1 + j_)) = some u_ := hkq7
    have hrq7 : Rd kstr z Aq7 ((a0.getD 0 [])) := hrq7
    have hcq7 : Cap Aq7 ((a0.getD 0 [])).length cq7 := hcq7
    have hlq7 := hcq7.le
    have hmq7 := hcq7.mx
    refine C_drawn 10 [[], [], [0, 1], [2], [3], [], [5], [6], [7], [4, 8]] [22, 23, 24, 25, 26, 27, 28, 29, 30, 31] [0, 3] rfl (by kernel_rfl) (by decide +kernel) [fun v_ _ => v_ = .slice Aa0 a0.length ca0, fun v_ _ => v_ = .int .i64 (i : Int), fun v_ _ => v_ = .pointer (some (q6.add (i * 1))), fun v_ _ => v_ = .slice Aq6 (a0.getD i []).length cq6, fun v_ _ => v_ = .int .i64 ((a0.getD i []).length : Int), fun v_ _ => v_ = .slice Aa0 a0.length ca0, fun v_ _ => v_ = .pointer (some (q7.add (0 * 1))), fun v_ _ => v_ = .slice Aq7 (a0.getD 0 []).length cq7, fun v_ _ => v_ = .int .i64 ((a0.getD 0 []).length : Int), fun v_ _ => v_ = .bool (((a0.getD i []).length : Int) != ((a0.getD 0 []).length : Int))] ⟨fun _ _ _ h _ => h, ⟨fun _ _ _ h _ => h, ⟨fun _ _ _ h _ => h, ⟨fun _ _ _ h _ => h, ⟨fun _ _ _ h _ => h, ⟨fun _ _ _ h _ => h, ⟨fun _ _ _ h _ => h, ⟨fun _ _ _ h _ => h, ⟨fun _ _ _ h _ => h, ⟨fun _ _ _ h _ => h, trivial⟩⟩⟩⟩⟩⟩⟩⟩⟩⟩ ⟨fun w4 hc5 => by have hS := hS.chg0 hc5; exact Sv_val rfl (R_move rfl rfl) ⟨Chg.refl _ _, rfl⟩, ⟨fun w4 hc5 => by have hS := hS.chg0 hc5; exact Sv_val rfl (R_move rfl rfl) ⟨Chg.refl _ _, rfl⟩, ⟨fun w4 hc5 => by have hS := hS.chg0 hc5; rintro _ rfl _ rfl; exact Sv_val rfl (R_idx rfl rfl hAq6 rfl Tryz.underlying22 size43 (by omega) (by omega)) ⟨Chg.refl _ _, rfl⟩, ⟨fun w4 hc5 => by have hS := hS.chg0 hc5; rintro _ rfl; exact Sv_val rfl (R_load1 rfl rfl agg43 (hS.sub.cell (hkq6 0 _ rfl))) ⟨Chg.refl _ _, rfl⟩, ⟨fun w4 hc5 => by have hS := hS.chg0 hc5; rintro _ rfl; exact Sv_val rfl (R_len rfl rfl Tryz.underlying43) ⟨Chg.refl _ _, rfl⟩, ⟨fun w4 hc5 => by have hS := hS.chg0 hc5; exact Sv_val rfl (R_move rfl rfl) ⟨Chg.refl _ _, rfl⟩, ⟨fun w4 hc5 => by have hS := hS.chg0 hc5; rintro _ rfl; exact Sv_val rfl (R_idx rfl rfl hAq7 rfl Tryz.underlying22 size43 (by omega) (by omega)) ⟨Chg.refl _ _, rfl⟩, ⟨fun w4 hc5 => by have hS := hS.chg0 hc5; rintro _ rfl; exact Sv_val rfl (R_load1 rfl rfl agg43 (hS.sub.cell (hkq7 0 _ rfl))) ⟨Chg.refl _ _, rfl⟩, ⟨fun w4 hc5 => by have hS := hS.chg0 hc5; rintro _ rfl; exact Sv_val rfl (R_len rfl rfl Tryz.underlying43) ⟨Chg.refl _ _, rfl⟩, ⟨fun w4 hc5 => by have hS := hS.chg0 hc5; rintro _ rfl _ rfl; exact Sv_val rfl (R_bin rfl rfl rfl rfl rfl) ⟨Chg.refl _ _, rfl⟩, trivial⟩⟩⟩⟩⟩⟩⟩⟩⟩⟩ ?_
    intro w4 hc5
    have hS := hS.chg0 hc5
    rintro _ rfl _ rfl _ rfl _ rfl _ rfl _ rfl _ rfl _ rfl _ rfl _ rfl
    refine An_fr [(0, .slice Aa0 a0.length ca0), (3, .int .i64 (i : Int)), (31, .bool (((a0.getD i []).length : Int) != ((a0.getD 0 []).length : Int)))] rfl ?_
    refine An_done (by decide +kernel) <| E_then <| C_ite rfl (fun hC2 => ?_) (fun hC2 => ?_)
    ·have hC2p : ¬ ((a0.getD i []).length : Int) = ((a0.getD 0 []).length : Int) := by simpa using hC2
     refine C_seq <| C_region <| wv rfl rfl rfl (R_assign rfl rfl) ?_
     refine W_nil <| E_then <| C_ret <| E_block_ret <| E_then_ret <| E_then_ret <| E_block_ret <| E_then_ret <| E_ret1 rfl rfl ?_
     exact ⟨Lret1 (Lint (show 1 = checkS a0 by exact (chk2 (i := i) (by omega) (by omega)).symm)), hS.fin [] (by decide) rfl⟩
    ·have hC2p : ((a0.getD i []).length : Int) = ((a0.getD 0 []).length : Int) := by simpa using hC2
     refine C_skip <| E_block_normal <| E_then <| C_region <| wv rfl rfl rfl (R_move rfl rfl) <| wv rfl rfl rfl (R_add64 rfl rfl rfl (by omega) (by omega)) <| wv rfl rfl rfl (R_assign rfl rfl) ?_
     refine W_nil <| E_round [0, 3] ?_ ⟨(i + 1 : Nat), rfl, (by omega), (by exact take_any [] (by omega) hI0_1 (by assumption)), rfl, hS.fin [] (by decide) rfl⟩
     omega
   ·have hC1p : ¬ ((i : Int) < (a0.length : Int)) := by simpa using hC1
    refine C_exit <| E_then_exit <| E_then_exit <| E_block_hit ?_
    refine E_then (C_fr [(0, .slice Aa0 a0.length ca0)] rfl ?_)
    refine C_seq <| C_seq <| C_region <| wv rfl rfl rfl (R_move rfl rfl) <| wv rfl rfl rfl (R_len rfl rfl Tryz.underlying22) <| wv rfl rfl rfl (R_bin rfl rfl rfl rfl rfl) <| wv rfl rfl rfl (R_move rfl rfl) ?_
    refine W_split (t := 35) rfl (fun hg8 => ?_) (fun hg8 => ?_)
    ·have hg8p : (a0.length : Int) > 24 := by simpa using hg8
     refine W_cons rfl (by decide) (Sv_off rfl rfl rfl (by rw [hg8] <;> rfl) ?_)
     refine W_cons rfl (by decide) (Sv_off rfl rfl rfl (by rw [hg8] <;> rfl) ?_)
     refine W_cons rfl (by decide) (Sv_off rfl rfl rfl (by rw [hg8] <;> rfl) ?_)
     refine W_cons rfl (by decide) (Sv_off rfl rfl rfl (by rw [hg8] <;> rfl) ?_)
     refine W_cons rfl (by decide) (Sv_off rfl rfl rfl (by rw [hg8] <;> rfl) ?_)
     refine wv rfl rfl rfl (R_pick_t rfl rfl hg8 rfl) ?_
     refine W_nil <| E_then (C_fr [(0, .slice Aa0 a0.length ca0), (41, .bool true)] rfl ?_)
     refine C_if rfl rfl ?_
     refine C_seq <| C_region <| wv rfl rfl rfl (R_assign rfl rfl) ?_
     refine W_nil <| E_then <| C_ret <| E_then_ret <| E_ret1 rfl rfl ?_
     exact ⟨Lret1 (Lint (show 3 = checkS a0 by exact (chk3 (by omega) (n := ((a0.getD 0 []).length : Int)) (by omega) (eq_all (i := i) (by omega) hI0_1) (by omega)).symm)), hS.fin [] (by decide) rfl⟩
    ·have hg8p : ¬ ((a0.length : Int) > 24) := by simpa using hg8
     refine W_cons rfl (by decide) (Sv_gt rfl rfl rfl hg8 (Sv_val rfl (R_move rfl rfl) ?_))
     obtain ⟨q9, csq9, hAq9, ⟨Aq9, cq9, rfl, hcq9, hrq9⟩, hkq9⟩ := hra0.at_ [] (i := 0) (by omega) (by omega)
     have hkq9 : ∀ (j_ : Nat) (u_ : Value), ([.slice Aq9 (a0.getD 0 []).length cq9] : List Value)[j_]? = some u_ → cz z (q9.add (0 * 1 + j_)) = some u_ := hkq9
     have hrq9 : Rd kstr z Aq9 ((a0.getD 0 [])) := hrq9
     have hcq9 : Cap Aq9 ((a0.getD 0 [])).length cq9 := hcq9
     have hlq9 := hcq9.le
     have hmq9 := hcq9.mx
     refine W_cons rfl (by decide) (Sv_gt rfl rfl rfl hg8 (Sv_val rfl (R_idx rfl rfl hAq9 rfl Tryz.underlying22 size43 (by omega) (by omega)) ?_))
     refine W_cons rfl (by decide) (Sv_gt rfl rfl rfl hg8 (Sv_val rfl (R_load1 rfl rfl agg43 (hS.sub.cell (hkq9 0 _ rfl))) ?_))
     refine W_cons rfl (by decide) (Sv_gt rfl rfl rfl hg8 (Sv_val rfl (R_len rfl rfl Tryz.underlying43) ?_))
     refine W_cons rfl (by decide) (Sv_gt rfl rfl rfl hg8 (Sv_val rfl (R_bin rfl rfl rfl rfl rfl) ?_))
     refine wv rfl rfl rfl (R_pick_f rfl rfl hg8 rfl) ?_
     refine W_nil <| E_then (C_fr [(0, .slice Aa0 a0.length ca0), (41, .bool (decide (((a0.getD 0 []).length : Int) > 16)))] rfl ?_)
     refine C_ite rfl (fun hC3 => ?_) (fun hC3 => ?_)
     ·have hC3p : ((a0.getD 0 []).length : Int) > 16 := by simpa using hC3
      refine C_seq <| C_region <| wv rfl rfl rfl (R_assign rfl rfl) ?_
      refine W_nil <| E_then <| C_ret <| E_then_ret <| E_ret1 rfl rfl ?_
      exact ⟨Lret1 (Lint (show 3 = checkS a0 by exact (chk3 (by omega) (n := ((a0.getD 0 []).length : Int)) (by omega) (eq_all (i := i) (by omega) hI0_1) (by omega)).symm)), hS.fin [] (by decide) rfl⟩
     ·have hC3p : ¬ (((a0.getD 0 []).length : Int) > 16) := by simpa using hC3
      refine C_skip <| E_then <| C_seq <| C_seq <| C_region <| wv rfl rfl rfl (R_assign rfl rfl) ?_
      refine W_nil <| E_then <| C_block <| C_fr [(0, .slice Aa0 a0.length ca0), (4, .int .i64 0)] rfl ?_
      refine C_loop (fun m_ f_ w_ => ∃ (i2 : Nat), f_ = [(0, .slice Aa0 a0.length ca0), (4, .int .i64 (i2 : Int))] ∧ i2 ≤ a0.length ∧ (a0.take i2).any (fun r => r.any longS) = false ∧ m_ = a0.length - i2 ∧ Sp (FF []) w z w_ []) (a0.length - (0 : Nat)) ⟨(0 : Nat), rfl, (by omega), (by rfl), rfl, hS.fin [] (by decide) rfl⟩ ?_
      rintro m_ f_ w10 ⟨i2, rfl, hI1_0, hI1_1, rfl, hS⟩
      refine C_seq <| C_seq <| C_region <| wv rfl rfl rfl (R_move rfl rfl) <| wv rfl rfl rfl (R_move rfl rfl) <| wv rfl rfl rfl (R_len rfl rfl Tryz.underlying22) <| wv rfl rfl rfl (R_bin rfl rfl rfl rfl rfl) ?_
      refine W_nil <| E_then <| C_ite rfl (fun hC4 => ?_) (fun hC4 => ?_)
      ·have hC4p : (i2 : Int) < (a0.length : Int) := by simpa using hC4
       refine C_skip <| E_then <| C_seq <| C_block <| C_seq <| C_region <| wv rfl rfl rfl (R_assign rfl rfl) ?_
       refine W_nil <| E_then <| C_block <| C_fr [(0, .slice Aa0 a0.length ca0), (4, .int .i64 (i2 : Int)), (5, .int .i64 0)] rfl ?_
       refine C_loop (fun m_ f_ w_ => ∃ (k : Nat), f_ = [(0, .slice Aa0 a0.length ca0), (4, .int .i64 (i2 : Int)), (5, .int .i64 (k : Int))] ∧ k ≤ (a0.getD i2 []).length ∧ ((a0.getD i2 []).take k).any longS = false ∧ m_ = (a0.getD i2 []).length - k ∧ Sp (FF []) w z w_ []) ((a0.getD i2 []).length - (0 : Nat)) ⟨(0 : Nat), rfl, (by omega), (by rfl), rfl, hS.fin [] (by decide) rfl⟩ ?_
       rintro m_ f_ w11 ⟨k, rfl, hI2_0, hI2_1, rfl, hS⟩
       refine C_seq <| C_seq <| C_region <| wv rfl rfl rfl (R_move rfl rfl) <| wv rfl rfl rfl (R_move rfl rfl) <| wv rfl rfl rfl (R_move rfl rfl) ?_
       obtain ⟨q12, csq12, hAq12, ⟨Aq12, cq12, rfl, hcq12, hrq12⟩, hkq12⟩ := hra0.at_ [] (i := (i2 : Int)) (by omega) (by omega)
       have hkq12 : ∀ (j_ : Nat) (u_ : Value), ([.slice Aq12 (a0.getD i2 []).length cq12] : List Value)[j_]? = some u_ → cz z (q12.add (i2 * 1 + j_)) = some u_ := hkq12
       have hrq12 : Rd kstr z Aq12 ((a0.getD i2 [])) := hrq12
       have hcq12 : Cap Aq12 ((a0.getD i2 [])).length cq12 := hcq12
       have hlq12 := hcq12.le
       have hmq12 := hcq12.mx
       refine wv rfl rfl rfl (R_idx rfl rfl hAq12 rfl Tryz.underlying22 size43 (by omega) (by omega)) <| wv rfl rfl rfl (R_load1 rfl rfl agg43 (hS.sub.cell (hkq12 0 _ rfl))) <| wv rfl rfl rfl (R_len rfl rfl Tryz.underlying43) <| wv rfl rfl rfl (R_bin rfl rfl rfl rfl rfl) ?_
       refine W_nil <| E_then (C_fr [(0, .slice Aa0 a0.length ca0), (4, .int .i64 (i2 : Int)), (5, .int .i64 (k : Int)), (54, .bool (decide ((k : Int) < ((a0.getD i2 []).length : Int))))] rfl ?_)
       refine C_ite rfl (fun hC5 => ?_) (fun hC5 => ?_)
       ·have hC5p : (k : Int) < ((a0.getD i2 []).length : Int) := by simpa using hC5
        refine C_skip <| E_then <| C_seq <| C_block <| C_seq <| C_region <| wv rfl rfl rfl (R_move rfl rfl) <| wv rfl rfl rfl (R_move rfl rfl) ?_
        obtain ⟨q13, csq13, hAq13, ⟨Aq13, cq13, rfl, hcq13, hrq13⟩, hkq13⟩ := hra0.at_ [] (i := (i2 : Int)) (by omega) (by omega)
        have hkq13 : ∀ (j_ : Nat) (u_ : Value), ([.slice Aq13 (a0.getD i2 []).length cq13] : List Value)[j_]? = some u_ → cz z (q13.add (i2 * 1 + j_)) = some u_ := hkq13
        have hrq13 : Rd kstr z Aq13 ((a0.getD i2 [])) := hrq13
        have hcq13 : Cap Aq13 ((a0.getD i2 [])).length cq13 := hcq13
        have hlq13 := hcq13.le
        have hmq13 := hcq13.mx
        refine wv rfl rfl rfl (R_idx rfl rfl hAq13 rfl Tryz.underlying22 size43 (by omega) (by omega)) <| wv rfl rfl rfl (R_load1 rfl rfl agg43 (hS.sub.cell (hkq13 0 _ rfl))) <| wv rfl rfl rfl (R_move rfl rfl) ?_
        obtain ⟨q14, csq14, hAq14, rfl, hkq14⟩ := hrq13.at_ ([] : St) (i := (k : Int)) (by omega) (by omega)
        have hkq14 : ∀ (j_ : Nat) (u_ : Value), ([vstr ((a0.getD i2 []).getD k ([] : St))] : List Value)[j_]? = some u_ → cz z (q14.add (k * 1 + j_)) = some u_ := hkq14
        refine wv rfl rfl rfl (R_idx rfl rfl hAq14 rfl Tryz.underlying43 size9 (by omega) (by omega)) <| wv rfl rfl rfl (R_load1 rfl rfl agg9 (hS.sub.cell (hkq14 0 _ rfl))) <| wv rfl rfl rfl (R_strlen rfl rfl Tryz.underlying9) <| wv rfl rfl rfl (R_bin rfl rfl rfl rfl rfl) ?_
        refine W_nil <| E_then (C_fr [(0, .slice Aa0 a0.length ca0), (4, .int .i64 (i2 : Int)), (5, .int .i64 (k : Int)), (65, .bool (decide ((((a0.getD i2 []).getD k ([] : St)).length : Int) > 1024)))] rfl ?_)
        refine C_ite rfl (fun hC6 => ?_) (fun hC6 => ?_)
        ·have hC6p : (((a0.getD i2 []).getD k ([] : St)).length : Int) > 1024 := by simpa using hC6
         refine C_seq <| C_region <| wv rfl rfl rfl (R_assign rfl rfl) ?_
         refine W_nil <| E_then <| C_ret <| E_block_ret <| E_then_ret <| E_then_ret <| E_block_ret <| E_block_ret <| E_then_ret <| E_then_ret <| E_block_ret <| E_then_ret <| E_ret1 rfl rfl ?_
         exact ⟨Lret1 (Lint (show 3 = checkS a0 by exact (chk4 (i := i2) (k := k) (n := ((a0.getD 0 []).length : Int)) (by omega) (eq_all (i := i) (by omega) hI0_1) (by omega) (by omega) (by omega)).symm)), hS.fin [] (by decide) rfl⟩
        ·have hC6p : ¬ ((((a0.getD i2 []).getD k ([] : St)).length : Int) > 1024) := by simpa using hC6
         refine C_skip <| E_block_normal <| E_then <| C_region <| wv rfl rfl rfl (R_move rfl rfl) <| wv rfl rfl rfl (R_add64 rfl rfl rfl (by omega) (by omega)) <| wv rfl rfl rfl (R_assign rfl rfl) ?_
         refine W_nil <| E_round [0, 4, 5] ?_ ⟨(k + 1 : Nat), rfl, (by omega), (by exact take_any [] (by omega) hI2_1 (by assumption)), rfl, hS.fin [] (by decide) rfl⟩
         omega
       ·have hC5p : ¬ ((k : Int) < ((a0.getD i2 []).length : Int)) := by simpa using hC5
        refine C_exit <| E_then_exit <| E_then_exit <| E_block_hit ?_
        refine E_block_normal <| E_then <| C_region <| wv rfl rfl rfl (R_move rfl rfl) <| wv rfl rfl rfl (R_add64 rfl rfl rfl (by omega) (by omega)) <| wv rfl rfl rfl (R_assign rfl rfl) ?_
        refine W_nil <| E_round [0, 4] ?_ ⟨(i2 + 1 : Nat), rfl, (by omega), (by exact take_any [] (by omega) hI1_1 (any_all (by omega) hI2_1)), rfl, hS.fin [] (by decide) rfl⟩
        omega
      ·have hC4p : ¬ ((i2 : Int) < (a0.length : Int)) := by simpa using hC4
       refine C_exit <| E_then_exit <| E_then_exit <| E_block_hit ?_
       refine E_then (C_fr [] rfl ?_)
       refine C_seq <| C_region <| wv rfl rfl rfl (R_assign rfl rfl) ?_
       refine W_nil <| E_then <| C_ret <| E_ret1 rfl rfl ?_
       exact ⟨Lret1 (Lint (show 0 = checkS a0 by exact (chk5 (i := i2) (n := ((a0.getD 0 []).length : Int)) (by omega) (by omega) (eq_all (i := i) (by omega) hI0_1) (by omega) hI1_1 (by omega) (by omega)).symm)), hS.fin [] (by decide) rfl⟩
end Go.Proofs.YtaljccgfnmfhnaaGreatDoorG
set_option linter.all false
namespace Go.Proofs.YtaljccgfnmfhnaaGreatDoorG
open Go Go.RowKit
def shareS (a m b n : Int) : Bool := if m < 1 ∨ n < 1 then false else if a > b then decide ((IntKind.wrap IntKind.u64) ((IntKind.wrap IntKind.u64) a - (IntKind.wrap IntKind.u64) b) < (IntKind.wrap IntKind.u64) n) else decide ((IntKind.wrap IntKind.u64) ((IntKind.wrap IntKind.u64) b - (IntKind.wrap IntKind.u64) a) < (IntKind.wrap IntKind.u64) m)
def meetS (a b : TRect) : Bool := shareS a.Row a.Rows b.Row b.Rows && shareS a.Col a.Cols b.Col b.Cols
def oneS (row col : Int) : TRect := ⟨row, col, 1, 1⟩
def hasS (s : TSheet) (r : TRect) : Bool := decide (r.Row ≥ 0) && decide (r.Col ≥ 0) && decide (r.Rows ≤ (s.Heights.length : Int)) && decide (r.Cols ≤ (s.Widths.length : Int)) && decide (r.Row ≤ (IntKind.wrap IntKind.i64) ((s.Heights.length : Int) - r.Rows)) && decide (r.Col ≤ (IntKind.wrap IntKind.i64) ((s.Widths.length : Int) - r.Cols))
def overS (l : List Int) (many most : Int) : Bool := decide ((l.length : Int) > many) || hasF (fun n => decide (n > most)) l
def limitsS (s : TSheet) : Bool := !hasF (fun c : TCell => decide ((c.Text.length : Int) > 1024)) s.Cells && !overS s.Widths 16 60 && !overS s.Heights 24 12 && decide ((s.Merges.length : Int) ≤ 12)
def minS (l : List Int) : Int := l.foldl min (l.getD 0 0)
def sizesS (l : List Int) : Bool := decide ((l.length : Int) > 0) && decide (minS l ≥ 1)
def cmpS (a b : Int) : Int := if a < b then -1 else if a > b then 1 else 0
def compS : List Int → List Int → Int
  | [], [] => 0
  | [], _ :: _ => -1
  | _ :: _, [] => 1
  | a :: az, b :: bz => if cmpS a b = 0 then compS az bz else cmpS a b
def aheadS (a b : Ar2_Int) : Bool := decide (compS [a.e0, a.e1] [b.e0, b.e1] < 0)
def spotS (c : TCell) : Ar2_Int := ⟨c.Row, c.Col⟩
def cornerS (r : TRect) : Ar2_Int := ⟨r.Row, r.Col⟩
def riseU {α : Type} (f : α → Ar2_Int) (d : α) (l : List α) (n : Nat) : Bool := (List.range n).all fun i => aheadS (f (l.getD i d)) (f (l.getD (i + 1) d))
def riseS {α : Type} (f : α → Ar2_Int) (d : α) (l : List α) : Bool := riseU f d l (l.length - 1)
def styledS (x : TStyle) : Bool := decide (x.Align ≥ 0) && decide (x.Align ≤ 4) && decide (x.Wrap ≥ 0) && decide (x.Wrap ≤ 1) && decide (x.Dir ≥ 0) && decide (x.Dir ≤ 3)
def emptyS (c : TCell) : Bool := !styledS c.Style || decide (c.Text = []) && decide ((⟨c.Style.Align, c.Style.Wrap, c.Style.Dir⟩ : Ar3_Int) = ⟨0, 0, 0⟩)
def tinyS (r : TRect) : Bool := decide (r.Rows < 1) || decide (r.Cols < 1) || decide (r.Rows = 1) && decide (r.Cols = 1)
def orderS (s : TSheet) : Bool :=
  if decide (s.Right < 0) || decide (s.Right > 1) || !sizesS s.Widths || !sizesS s.Heights || !riseS spotS default s.Cells || !riseS cornerS default s.Merges then false
  else !hasF emptyS s.Cells && !hasF tinyS s.Merges
def idxM (s : TSheet) (row col : Int) : Int := idxF (fun r => meetS r (oneS row col)) s.Merges 0
def aroundS (s : TSheet) (row col : Int) : TRect := if idxM s row col < 0 then oneS row col else s.Merges.getD (idxM s row col).toNat default
def outS (s : TSheet) : Bool := hasF (fun c : TCell => !hasS s (oneS c.Row c.Col)) s.Cells || hasF (fun r => !hasS s r) s.Merges
def meetsS (s : TSheet) (i : Nat) : Bool := hasF (fun q => meetS q (s.Merges.getD i default)) (s.Merges.take i)
def underS (s : TSheet) (i : Nat) : Bool := !decide (spotS (s.Cells.getD i default) = cornerS (aroundS s (s.Cells.getD i default).Row (s.Cells.getD i default).Col))
def checkSh (s : TSheet) : Int :=
  if limitsS s = false then 3 else if orderS s = false then 1 else if outS s = true then 4 else if (List.range s.Merges.length).any (meetsS s) = true then 5
  else if (List.range s.Cells.length).any (underS s) = true then 6 else 0
def regionS (s : TSheet) (row col : Int) : TRect × Int := if checkSh s ≠ 0 then (⟨0, 0, 0, 0⟩, 1) else if hasS s (oneS row col) = false then (⟨0, 0, 0, 0⟩, 4) else (aroundS s row col, 0)
def regAt (s : TSheet) (i j : Nat) : List TRect := if cornerS (aroundS s i j) = ⟨i, j⟩ then [aroundS s i j] else []
def regRow (s : TSheet) (i n : Nat) : List TRect := (List.range n).flatMap (regAt s i)
def regUp (s : TSheet) (n : Nat) : List TRect := (List.range n).flatMap fun i => regRow s i s.Widths.length
def regionsS (s : TSheet) : List TRect := if checkSh s ≠ 0 then [] else regUp s s.Heights.length
theorem minS_next (l : List Int) (i : Nat) (h : i < l.length) : (l.take (i + 1)).foldl min (l.getD 0 0) = min ((l.take i).foldl min (l.getD 0 0)) (l.getD i 0) := by
  rw [List.take_succ_eq_append_getElem h, List.foldl_append]
  simp [List.getD, h]
theorem minS_one (l : List Int) : (l.take 1).foldl min (l.getD 0 0) = l.getD 0 0 := by
  cases l with
  | nil => rfl
  | cons a t => simp
theorem minS_end (l : List Int) (i : Nat) (h : l.length ≤ i) : (l.take i).foldl min (l.getD 0 0) = minS l := by rw [List.take_of_length_le h]; rfl
theorem compS_next (a b : List Int) (i : Nat) (ha : i < a.length) (hb : i < b.length) (h : cmpS (a.getD i 0) (b.getD i 0) = 0) : compS (a.drop i) (b.drop i) = compS (a.drop (i + 1)) (b.drop (i + 1)) := by
  rw [dropD 0 ha, dropD 0 hb]
  exact if_pos h
theorem compS_ne (a b : List Int) (i : Nat) (ha : i < a.length) (hb : i < b.length) (h : ¬ cmpS (a.getD i 0) (b.getD i 0) = 0) : compS (a.drop i) (b.drop i) = cmpS (a.getD i 0) (b.getD i 0) := by
  rw [dropD 0 ha, dropD 0 hb]
  exact if_neg h
theorem compS_long (a b : List Int) (i : Nat) (ha : i < a.length) (hb : b.length ≤ i) : compS (a.drop i) (b.drop i) = 1 := by
  rw [dropD 0 ha, List.drop_of_length_le hb]
  rfl
theorem compS_short (a b : List Int) (i : Nat) (ha : a.length ≤ i) (hb : i < b.length) : compS (a.drop i) (b.drop i) = -1 := by
  rw [dropD 0 hb, List.drop_of_length_le ha]
  rfl
theorem compS_same (a b : List Int) (i : Nat) (ha : a.length ≤ i) (hb : b.length ≤ i) : compS (a.drop i) (b.drop i) = 0 := by
  rw [List.drop_of_length_le hb, List.drop_of_length_le ha]
  rfl
theorem riseU_next {α : Type} {f : α → Ar2_Int} {d : α} {l : List α} {n : Nat} (h : riseU f d l n = true) (h1 : aheadS (f (l.getD n d)) (f (l.getD (n + 1) d)) = true) : riseU f d l (n + 1) = true := by
  unfold riseU at *
  rw [List.range_succ, List.all_append, h]
  simp only [List.all_cons, List.all_nil, Bool.and_true, Bool.true_and]
  exact h1
theorem riseU_not {α : Type} {f : α → Ar2_Int} {d : α} {l : List α} {n m : Nat} (hn : n < m) (h1 : aheadS (f (l.getD n d)) (f (l.getD (n + 1) d)) = false) : riseU f d l m = false := by
  unfold riseU
  rw [List.all_eq_false]
  exact ⟨n, List.mem_range.2 hn, by simp only [h1]; simp⟩
theorem range_any_next {p : Nat → Bool} {n : Nat} (h : (List.range n).any p = false) (h1 : p n = false) : (List.range (n + 1)).any p = false := by
  rw [List.range_succ, List.any_append, h]
  simp [h1]
theorem range_any_hit {p : Nat → Bool} {n m : Nat} (hn : n < m) (h1 : p n = true) : (List.range m).any p = true := by
  rw [List.any_eq_true]
  exact ⟨n, List.mem_range.2 hn, h1⟩
def inS (x f m : Int) : Bool := if m < 1 ∨ x < f then false else if f < 0 then decide (x < (IntKind.wrap IntKind.i64) (f + m)) else decide ((IntKind.wrap IntKind.i64) (x - f) < m)
def coversS (r : TRect) (row col : Int) : Bool := inS row r.Row r.Rows && inS col r.Col r.Cols
def rmeetS (a b : TRect) : Bool := coversS a (max a.Row b.Row) (max a.Col b.Col) && coversS b (max a.Row b.Row) (max a.Col b.Col)
def rlimitsS (s : TSheet) : Bool :=
  if (s.Heights.length : Int) > 24 ∨ (s.Widths.length : Int) > 16 ∨ (s.Merges.length : Int) > 12 then false
  else !s.Heights.any (fun n => decide (n > 12)) && !s.Widths.any (fun n => decide (n > 60)) && !s.Cells.any fun c => decide ((c.Text.length : Int) > 1024)
def raheadS (row col r c : Int) : Bool := decide (row < r) || decide (row = r) && decide (col < c)
def rstyledS (x : TStyle) : Bool := decide (0 ≤ x.Align) && decide (x.Align < 5) && (decide (x.Wrap = 0) || decide (x.Wrap = 1)) && decide (0 ≤ x.Dir) && decide (x.Dir < 4)
def rcellS (s : TSheet) (i : Nat) : Bool :=
  let c := s.Cells.getD i default
  decide ((i : Int) > 0) && !raheadS (s.Cells.getD (i - 1) default).Row (s.Cells.getD (i - 1) default).Col c.Row c.Col || !rstyledS c.Style || decide (c.Text = []) && decide (c.Style.Align = 0) && decide (c.Style.Wrap = 0) && decide (c.Style.Dir = 0)
def rmergeS (s : TSheet) (i : Nat) : Bool :=
  let r := s.Merges.getD i default
  decide ((i : Int) > 0) && !raheadS (s.Merges.getD (i - 1) default).Row (s.Merges.getD (i - 1) default).Col r.Row r.Col || decide (r.Rows < 1) || decide (r.Cols < 1) || decide (r.Rows = 1) && decide (r.Cols = 1)
def rorderS (s : TSheet) : Bool :=
  if (¬ s.Right = 0 ∧ ¬ s.Right = 1) ∨ (s.Widths.length : Int) = 0 ∨ (s.Heights.length : Int) = 0 then false
  else !s.Widths.any (fun n => decide (n < 1)) && !s.Heights.any (fun n => decide (n < 1)) && !(List.range s.Cells.length).any (rcellS s) && !(List.range s.Merges.length).any (rmergeS s)
def thereS (s : TSheet) (r : TRect) : Bool := hasS s r
def rfarS (s : TSheet) (c : TCell) : Bool := decide (c.Row < 0) || decide (c.Col < 0) || decide (c.Row ≥ (s.Heights.length : Int)) || decide (c.Col ≥ (s.Widths.length : Int))
def raroundS (s : TSheet) (row col : Int) : TRect := match s.Merges.find? fun r => coversS r row col with | some r => r | none => ⟨row, col, 1, 1⟩
def rmeetsS (s : TSheet) (i : Nat) : Bool := (List.range i).any fun k => rmeetS (s.Merges.getD i default) (s.Merges.getD k default)
def runderS (s : TSheet) (c : TCell) : Bool := !(decide ((raroundS s c.Row c.Col).Row = c.Row) && decide ((raroundS s c.Row c.Col).Col = c.Col))
def rcheckSh (s : TSheet) : Int :=
  if rlimitsS s = false then 3 else if rorderS s = false then 1 else if s.Cells.any (rfarS s) = true then 4 else if s.Merges.any (fun r => !thereS s r) = true then 4
  else if (List.range s.Merges.length).any (rmeetsS s) = true then 5 else if s.Cells.any (runderS s) = true then 6 else 0
def withinS (r : TRect) (row col : Int) : Bool := decide (row ≥ r.Row) && decide (row < (IntKind.wrap IntKind.i64) (r.Row + r.Rows)) && decide (col ≥ r.Col) && decide (col < (IntKind.wrap IntKind.i64) (r.Col + r.Cols))
def greatS (s : TSheet) : Bool := if (s.Widths.length : Int) > 100 ∨ (s.Heights.length : Int) > 100 ∨ (s.Merges.length : Int) > 100 ∨ (s.Cells.length : Int) > 500 then true else s.Cells.any fun c => decide ((c.Text.length : Int) > 2000)
end Go.Proofs.YtaljccgfnmfhnaaGreatDoorG
set_option linter.all false
namespace Go.Proofs.YtaljccgfnmfhnaaGreatDoorG
open Go Go.RowKit
theorem shareS_f {a m b n : Int} (h : m < 1 ∨ n < 1) : false = shareS a m b n := by unfold shareS; rw [if_pos h]
theorem shareS_gt {a m b n : Int} (h : ¬ (m < 1 ∨ n < 1)) (h1 : a > b) : decide ((IntKind.wrap IntKind.u64) ((IntKind.wrap IntKind.u64) a - (IntKind.wrap IntKind.u64) b) < (IntKind.wrap IntKind.u64) n) = shareS a m b n := by unfold shareS; rw [if_neg h, if_pos h1]
theorem shareS_le {a m b n : Int} (h : ¬ (m < 1 ∨ n < 1)) (h1 : ¬ a > b) : decide ((IntKind.wrap IntKind.u64) ((IntKind.wrap IntKind.u64) b - (IntKind.wrap IntKind.u64) a) < (IntKind.wrap IntKind.u64) m) = shareS a m b n := by unfold shareS; rw [if_neg h, if_neg h1]
section
variable {s : TSheet}
theorem ck3 (h : (!limitsS s) = true) : 3 = checkSh s := by
  unfold checkSh
  rw [if_pos (by simpa using h)]
theorem ck1 (h0 : (!limitsS s) = false) (h : (!orderS s) = true) : 1 = checkSh s := by
  unfold checkSh
  rw [if_neg (by simpa using h0), if_pos (by simpa using h)]
theorem ck4 (h0 : (!limitsS s) = false) (h1 : (!orderS s) = false) (h : outS s = true) : 4 = checkSh s := by
  unfold checkSh
  rw [if_neg (by simpa using h0), if_neg (by simpa using h1), if_pos h]
theorem out_a (h : hasF (fun c : TCell => !hasS s (oneS c.Row c.Col)) s.Cells = true) : outS s = true := by
  unfold outS
  rw [h]
  rfl
theorem out_b (h : hasF (fun r => !hasS s r) s.Merges = true) : outS s = true := by
  unfold outS
  rw [h, Bool.or_true]
theorem out_n (h : hasF (fun c : TCell => !hasS s (oneS c.Row c.Col)) s.Cells = false) (h1 : hasF (fun r => !hasS s r) s.Merges = false) : outS s = false := by
  unfold outS
  rw [h, h1]
  rfl
theorem ck5 {i : Nat} (h0 : (!limitsS s) = false) (h1 : (!orderS s) = false) (h : outS s = false) (hi : i < s.Merges.length) (h2 : meetsS s i = true) : 5 = checkSh s := by
  unfold checkSh
  rw [if_neg (by simpa using h0), if_neg (by simpa using h1), if_neg (by rw [h]; decide), if_pos (range_any_hit hi h2)]
theorem ck6 {i j : Nat} (h0 : (!limitsS s) = false) (h1 : (!orderS s) = false) (h : outS s = false) (hi : s.Merges.length ≤ i) (hi' : i ≤ s.Merges.length) (h2 : (List.range i).any (meetsS s) = false) (hj : j < s.Cells.length) (h3 : underS s j = true) : 6 = checkSh s := by
  obtain rfl : i = s.Merges.length := by omega
  unfold checkSh
  rw [if_neg (by simpa using h0), if_neg (by simpa using h1), if_neg (by rw [h]; decide), if_neg (by rw [h2]; decide), if_pos (range_any_hit hj h3)]
theorem ck0 {i j : Nat} (h0 : (!limitsS s) = false) (h1 : (!orderS s) = false) (h : outS s = false) (hi : s.Merges.length ≤ i) (hi' : i ≤ s.Merges.length) (h2 : (List.range i).any (meetsS s) = false) (hj : s.Cells.length ≤ j) (hj' : j ≤ s.Cells.length) (h3 : (List.range j).any (underS s) = false) : 0 = checkSh s := by
  obtain rfl : i = s.Merges.length := by omega
  obtain rfl : j = s.Cells.length := by omega
  unfold checkSh
  rw [if_neg (by simpa using h0), if_neg (by simpa using h1), if_neg (by rw [h]; decide), if_neg (by rw [h2]; decide), if_neg (by rw [h3]; decide)]
theorem hc_over (l : List Int) (m k : Int) (h : overS l m k = false) : (l.length : Int) ≤ m := by
  simp only [overS, Bool.or_eq_false_iff, decide_eq_false_iff_not] at h
  omega
theorem chk_ok (h : checkSh s = 0) : limitsS s = true ∧ orderS s = true ∧ outS s = false ∧ (List.range s.Merges.length).any (meetsS s) = false ∧ (List.range s.Cells.length).any (underS s) = false := by
  unfold checkSh at h
  split at h
  · exact absurd h (by decide)
  split at h
  · exact absurd h (by decide)
  split at h
  · exact absurd h (by decide)
  split at h
  · exact absurd h (by decide)
  split at h
  · exact absurd h (by decide)
  simp_all
theorem chk_small (h : checkSh s = 0) : s.Heights.length ≤ 24 ∧ s.Widths.length ≤ 16 ∧ s.Merges.length ≤ 12 := by
  have h1 := (chk_ok h).1
  simp only [limitsS, Bool.and_eq_true, Bool.not_eq_true', decide_eq_true_eq] at h1
  obtain ⟨⟨⟨_, h2⟩, h3⟩, h4⟩ := h1
  have := hc_over _ _ _ h2
  have := hc_over _ _ _ h3
  omega
section
variable {i j : Nat} (h0 : (!rlimitsS s) = false) (h1 : (!rorderS s) = false) (hi : s.Cells.length ≤ i) (h2 : (s.Cells.take i).any (rfarS s) = false) (hj : s.Merges.length ≤ j) (h3 : (s.Merges.take j).any (fun r => !thereS s r) = false)
include h0 h1 hi h2 hj h3
end
theorem sh_yes {a b : TSheet} (h1 : a.Right = b.Right) (h2 : a.Widths = b.Widths) (h3 : a.Heights = b.Heights) (h4 : a.Cells = b.Cells) (h5 : a.Merges = b.Merges) : true = decide (a = b) := by
  cases a
  cases b
  simp at *
  exact ⟨h1, h2, h3, h4, h5⟩
end
def I64 (x : Int) : Prop := -9223372036854775808 ≤ x ∧ x ≤ 9223372036854775807
def RectI (r : TRect) : Prop := I64 r.Row ∧ I64 r.Col ∧ I64 r.Rows ∧ I64 r.Cols
theorem u64_mod (x : Int) : (IntKind.wrap IntKind.u64) x = x % 18446744073709551616 := rfl
theorem shareS_eq {a m b n : Int} (ha : I64 a) (hm : I64 m) (hb : I64 b) (hn : I64 n) : shareS a m b n = decide (1 ≤ m ∧ 1 ≤ n ∧ a - b < n ∧ b - a < m) := by
  unfold I64 at *
  unfold shareS
  split
  · symm; rw [decide_eq_false_iff_not]; omega
  · split
    · rw [Bool.eq_iff_iff, decide_eq_true_iff, decide_eq_true_iff, u64_mod, u64_mod, u64_mod, u64_mod]; omega
    · rw [Bool.eq_iff_iff, decide_eq_true_iff, decide_eq_true_iff, u64_mod, u64_mod, u64_mod, u64_mod]; omega
theorem inS_eq {x f m : Int} (hx : I64 x) (hf : I64 f) (hm : I64 m) : inS x f m = decide (1 ≤ m ∧ f ≤ x ∧ x - f < m) := by
  unfold I64 at *
  unfold inS
  split
  · symm; rw [decide_eq_false_iff_not]; omega
  · split
    · rw [wrap_id (by omega) (by omega), decide_eq_decide]; omega
    · rw [wrap_id (by omega) (by omega), decide_eq_decide]; omega
theorem I64.max {x y : Int} (hx : I64 x) (hy : I64 y) : I64 (max x y) := by unfold I64 at *; omega
theorem meet_law {a b : TRect} (ha : RectI a) (hb : RectI b) : meetS a b = rmeetS a b := by
  obtain ⟨a1, a2, a3, a4⟩ := ha
  obtain ⟨b1, b2, b3, b4⟩ := hb
  unfold meetS rmeetS coversS
  rw [shareS_eq a1 a3 b1 b3, shareS_eq a2 a4 b2 b4, inS_eq (a1.max b1) a1 a3, inS_eq (a2.max b2) a2 a4, inS_eq (a1.max b1) b1 b3, inS_eq (a2.max b2) b2 b4]
  rw [Bool.eq_iff_iff]
  simp only [Bool.and_eq_true, decide_eq_true_eq]
  omega
theorem meet_comm {a b : TRect} (ha : RectI a) (hb : RectI b) : meetS b a = meetS a b := by
  obtain ⟨a1, a2, a3, a4⟩ := ha
  obtain ⟨b1, b2, b3, b4⟩ := hb
  unfold meetS
  rw [shareS_eq a1 a3 b1 b3, shareS_eq a2 a4 b2 b4, shareS_eq b1 b3 a1 a3, shareS_eq b2 b4 a2 a4]
  rw [Bool.eq_iff_iff]
  simp only [Bool.and_eq_true, decide_eq_true_eq]
  omega
end Go.Proofs.YtaljccgfnmfhnaaGreatDoorG
set_option linter.all false
namespace Go.Proofs.YtaljccgfnmfhnaaGreatDoorG
open Go Go.RowKit
def SheetI (s : TSheet) : Prop := (∀ r ∈ s.Merges, RectI r) ∧ (∀ c ∈ s.Cells, I64 c.Row ∧ I64 c.Col) ∧ s.Heights.length ≤ 17592186044416 ∧ s.Widths.length ≤ 17592186044416
theorem any_congr {α : Type} {p q : α → Bool} {l : List α} (h : ∀ x ∈ l, p x = q x) : l.any p = l.any q := by
  induction l with
  | nil => rfl
  | cons a t ih => simp only [List.any_cons]; rw [h a List.mem_cons_self, ih fun x hx => h x (List.mem_cons_of_mem _ hx)]
theorem mem_getD {α : Type} {l : List α} {i : Nat} (d : α) (h : i < l.length) : l.getD i d ∈ l := by simp [List.getD, h]
theorem idxF_find {α : Type} (d : α) (p : α → Bool) : ∀ (l : List α) (i : Int), (l.find? p = none ∧ idxF p l i = -1) ∨ (∃ k : Nat, k < l.length ∧ idxF p l i = i + k ∧ l.find? p = some (l.getD k d))
  | [], i => .inl ⟨rfl, rfl⟩
  | x :: r, i => by
    cases hp : p x with
    | true => exact .inr ⟨0, by simp, by simp [idxF, hp], by simp [List.find?_cons, hp]⟩
    | false =>
      rcases idxF_find d p r (i + 1) with ⟨h1, h2⟩ | ⟨k, hk, h1, h2⟩
      · exact .inl ⟨by simpa [List.find?_cons, hp] using h1, by simpa [idxF, hp] using h2⟩
      · refine .inr ⟨k + 1, by simp; omega, ?_, ?_⟩
        · simp only [idxF, hp, cond_false, h1]; omega
        · rw [List.find?_cons, hp]; simpa using h2
theorem limits_law (s : TSheet) : limitsS s = rlimitsS s := by
  unfold limitsS rlimitsS overS
  simp only [hasF_any]
  split
  · rename_i h
    rw [Bool.eq_iff_iff]
    simp only [Bool.and_eq_true, Bool.not_eq_true', Bool.or_eq_false_iff, decide_eq_false_iff_not, decide_eq_true_eq, Bool.false_eq_true, iff_false]
    rintro ⟨⟨⟨_, h1, _⟩, h2, _⟩, h3⟩
    omega
  · rename_i h
    rw [decide_eq_false (show ¬ (s.Widths.length : Int) > 16 by omega), decide_eq_false (show ¬ (s.Heights.length : Int) > 24 by omega), decide_eq_true (show (s.Merges.length : Int) ≤ 12 by omega), Bool.false_or, Bool.false_or, Bool.and_true]
    generalize s.Cells.any _ = x
    generalize s.Widths.any _ = y
    generalize s.Heights.any _ = u
    cases x <;> cases y <;> cases u <;> rfl
theorem min_ge : ∀ (l : List Int) (a : Int), (1 ≤ l.foldl min a ↔ 1 ≤ a ∧ ∀ x ∈ l, 1 ≤ x)
  | [], a => by simp
  | x :: t, a => by
    rw [List.foldl_cons, min_ge t]
    simp only [List.mem_cons, forall_eq_or_imp]
    constructor
    · rintro ⟨h1, h2⟩; exact ⟨by omega, by omega, h2⟩
    · rintro ⟨h1, h2, h3⟩; exact ⟨by omega, h3⟩
theorem sizes_law (l : List Int) : sizesS l = (decide (¬ (l.length : Int) = 0) && !l.any fun n => decide (n < 1)) := by
  unfold sizesS minS
  rw [Bool.eq_iff_iff]
  simp only [Bool.and_eq_true, decide_eq_true_eq, ge_iff_le, min_ge, Bool.not_eq_true', List.any_eq_false]
  cases l with
  | nil => simp
  | cons a t =>
    simp
    omega
theorem pairs_law {α : Type} (d : α) (l : List α) (P : Nat → Bool) (E : α → Bool) :
    (List.range l.length).any (fun i => decide ((i : Int) > 0) && !P (i - 1) || E (l.getD i d)) = !((List.range (l.length - 1)).all P && !l.any E) := by
  rw [Bool.eq_iff_iff]
  simp only [List.any_eq_true, List.mem_range, Bool.or_eq_true, Bool.and_eq_true, decide_eq_true_eq, Bool.not_eq_true', Bool.and_eq_false_iff, List.all_eq_false, Bool.not_eq_false']
  constructor
  · rintro ⟨i, hi, ⟨h1, h2⟩ | h⟩
    · exact .inl ⟨i - 1, by omega, by simp [h2]⟩
    · exact .inr ⟨_, mem_getD d hi, h⟩
  · rintro (⟨j, hj, h⟩ | ⟨x, hx, h⟩)
    · exact ⟨j + 1, by omega, .inl ⟨by omega, by simpa using h⟩⟩
    · obtain ⟨i, hi, rfl⟩ := List.getElem_of_mem hx
      exact ⟨i, hi, .inr (by simpa [List.getD, hi] using h)⟩
theorem ahead_law (a b : Ar2_Int) : aheadS a b = raheadS a.e0 a.e1 b.e0 b.e1 := by
  unfold aheadS raheadS
  by_cases h1 : a.e0 < b.e0
  · simp [compS, cmpS, h1]
  · by_cases h2 : b.e0 < a.e0
    · simp [compS, cmpS, h1, h2, show ¬ a.e0 = b.e0 by omega]
    · by_cases h3 : a.e1 < b.e1
      · simp [compS, cmpS, h1, h2, h3, show a.e0 = b.e0 by omega]
      · by_cases h4 : b.e1 < a.e1
        · simp [compS, cmpS, h1, h2, h3, h4]
        · simp [compS, cmpS, h1, h2, h3, h4]
theorem styled_law (x : TStyle) : styledS x = rstyledS x := by
  unfold styledS rstyledS
  rw [Bool.eq_iff_iff]
  simp only [Bool.and_eq_true, Bool.or_eq_true, decide_eq_true_eq]
  omega
theorem empty_law (c : TCell) : emptyS c = (!rstyledS c.Style || decide (c.Text = []) && decide (c.Style.Align = 0) && decide (c.Style.Wrap = 0) && decide (c.Style.Dir = 0)) := by
  unfold emptyS
  rw [styled_law, Bool.eq_iff_iff]
  simp [and_assoc]
theorem cells_law (s : TSheet) : (List.range s.Cells.length).any (rcellS s) = !(riseS spotS default s.Cells && !hasF emptyS s.Cells) := by
  rw [hasF_any, riseS, riseU, ← pairs_law]
  refine any_congr fun i hi => ?_
  have hi' := List.mem_range.1 hi
  unfold rcellS
  simp only [ahead_law, spotS, empty_law, Bool.or_assoc]
  by_cases h : (i : Int) > 0
  · rw [show i - 1 + 1 = i from by omega]
  · simp only [decide_eq_false h, Bool.false_and, Bool.false_or]
theorem merges_law (s : TSheet) : (List.range s.Merges.length).any (rmergeS s) = !(riseS cornerS default s.Merges && !hasF tinyS s.Merges) := by
  rw [hasF_any, riseS, riseU, ← pairs_law]
  refine any_congr fun i hi => ?_
  have hi' := List.mem_range.1 hi
  unfold rmergeS tinyS
  simp only [ahead_law, cornerS, Bool.or_assoc]
  by_cases h : (i : Int) > 0
  · rw [show i - 1 + 1 = i from by omega]
  · simp only [decide_eq_false h, Bool.false_and, Bool.false_or]
theorem order_law (s : TSheet) : orderS s = rorderS s := by
  unfold orderS rorderS
  rw [cells_law, merges_law, sizes_law, sizes_law]
  generalize riseS spotS default s.Cells = a
  generalize riseS cornerS default s.Merges = b
  generalize hasF emptyS s.Cells = c
  generalize hasF tinyS s.Merges = e
  generalize s.Widths.any _ = f
  generalize s.Heights.any _ = g
  by_cases h1 : s.Right = 0 ∨ s.Right = 1
  · by_cases h2 : (s.Widths.length : Int) = 0
    · rw [if_pos (by simp [h2]), if_pos (by omega)]
    · by_cases h3 : (s.Heights.length : Int) = 0
      · rw [if_pos (by simp [h3]), if_pos (by omega)]
      · rw [if_neg (show ¬ ((¬ s.Right = 0 ∧ ¬ s.Right = 1) ∨ (s.Widths.length : Int) = 0 ∨ (s.Heights.length : Int) = 0) by omega)]
        rw [decide_eq_false (show ¬ s.Right < 0 by omega), decide_eq_false (show ¬ s.Right > 1 by omega), decide_eq_true h2, decide_eq_true h3]
        cases a <;> cases b <;> cases c <;> cases e <;> cases f <;> cases g <;> rfl
  · rw [if_pos (show (¬ s.Right = 0 ∧ ¬ s.Right = 1) ∨ (s.Widths.length : Int) = 0 ∨ (s.Heights.length : Int) = 0 by omega)]
    rw [if_pos]
    have : s.Right < 0 ∨ s.Right > 1 := by omega
    rcases this with h | h <;> simp [h]
theorem one_law {r : TRect} (h : RectI r) {row col : Int} (h1 : I64 row) (h2 : I64 col) : meetS r (oneS row col) = coversS r row col := by
  obtain ⟨a1, a2, a3, a4⟩ := h
  have h3 : I64 1 := by unfold I64; omega
  unfold meetS coversS oneS
  rw [shareS_eq a1 a3 h1 h3, shareS_eq a2 a4 h2 h3, inS_eq h1 a1 a3, inS_eq h2 a2 a4, Bool.eq_iff_iff]
  simp only [Bool.and_eq_true, decide_eq_true_eq]
  omega
theorem find_congr {α : Type} {p q : α → Bool} : ∀ {l : List α}, (∀ x ∈ l, p x = q x) → l.find? p = l.find? q
  | [], _ => rfl
  | x :: t, h => by simp only [List.find?_cons, h x List.mem_cons_self, find_congr fun y hy => h y (List.mem_cons_of_mem _ hy)]
theorem around_law {s : TSheet} (h : SheetI s) {row col : Int} (h1 : I64 row) (h2 : I64 col) : aroundS s row col = raroundS s row col := by
  unfold aroundS raroundS idxM
  rw [← find_congr (p := fun r => meetS r (oneS row col)) fun r hr => one_law (h.1 r hr) h1 h2]
  rcases idxF_find default (fun r => meetS r (oneS row col)) s.Merges 0 with ⟨h3, h4⟩ | ⟨k, hk, h3, h4⟩
  · rw [h3, h4]; rfl
  · rw [h3, h4, if_neg (by omega), show ((0 : Int) + (k : Int)).toNat = k from by omega]
theorem far_law {s : TSheet} (h : SheetI s) (row col : Int) : hasS s (oneS row col) = !(decide (row < 0) || decide (col < 0) || decide (row ≥ (s.Heights.length : Int)) || decide (col ≥ (s.Widths.length : Int))) := by
  obtain ⟨_, _, h1, h2⟩ := h
  unfold hasS oneS
  simp only
  rw [wrap_id (by omega) (by omega), wrap_id (by omega) (by omega), Bool.eq_iff_iff]
  simp only [Bool.and_eq_true, Bool.not_eq_true', Bool.or_eq_false_iff, decide_eq_false_iff_not, decide_eq_true_eq]
  omega
theorem out_law {s : TSheet} (h : SheetI s) : outS s = (s.Cells.any (rfarS s) || s.Merges.any fun r => !thereS s r) := by
  unfold outS
  rw [hasF_any, hasF_any]
  congr 1
  refine any_congr fun c hc => ?_
  rw [far_law h, Bool.not_not]
  rfl
theorem meets_law {s : TSheet} (h : SheetI s) {i : Nat} (hi : i < s.Merges.length) : meetsS s i = rmeetsS s i := by
  unfold meetsS rmeetsS
  rw [hasF_any, Bool.eq_iff_iff]
  simp only [List.any_eq_true, List.mem_range]
  have hm : ∀ q ∈ s.Merges, meetS q (s.Merges.getD i default) = rmeetS (s.Merges.getD i default) q := fun q hq => by
    rw [meet_comm (h.1 _ (mem_getD _ hi)) (h.1 q hq), meet_law (h.1 _ (mem_getD _ hi)) (h.1 q hq)]
  constructor
  · rintro ⟨q, hq, h1⟩
    obtain ⟨k, hk, rfl⟩ := List.getElem_of_mem hq
    have hk' : k < i ∧ k < s.Merges.length := by simpa [Nat.lt_min] using hk
    refine ⟨k, hk'.1, ?_⟩
    rw [← hm _ (mem_getD _ hk'.2)]
    simpa [List.getD, hk'.2] using h1
  · rintro ⟨k, hk, h1⟩
    have hk' : k < s.Merges.length := by omega
    refine ⟨s.Merges.getD k default, ?_, by rw [hm _ (mem_getD _ hk')]; exact h1⟩
    rw [List.mem_take_iff_getElem]
    exact ⟨k, by omega, by simp [List.getD, hk']⟩
theorem any_rangeD {α : Type} (d : α) (p : α → Bool) (l : List α) : (List.range l.length).any (fun i => p (l.getD i d)) = l.any p := by
  rw [Bool.eq_iff_iff]
  simp only [List.any_eq_true, List.mem_range]
  constructor
  · rintro ⟨i, hi, h⟩; exact ⟨_, mem_getD d hi, h⟩
  · rintro ⟨x, hx, h⟩
    obtain ⟨i, hi, rfl⟩ := List.getElem_of_mem hx
    exact ⟨i, hi, by simpa [List.getD, hi] using h⟩
theorem under_law {s : TSheet} (h : SheetI s) : (List.range s.Cells.length).any (underS s) = s.Cells.any (runderS s) := by
  rw [← any_rangeD default (runderS s)]
  refine any_congr fun i hi => ?_
  have hc := h.2.1 _ (mem_getD default (List.mem_range.1 hi))
  unfold underS runderS
  rw [around_law h hc.1 hc.2]
  congr 1
  rw [Bool.eq_iff_iff]
  simp only [spotS, cornerS, decide_eq_true_eq, Bool.and_eq_true, Ar2_Int.mk.injEq]
  exact ⟨fun ⟨a, b⟩ => ⟨a.symm, b.symm⟩, fun ⟨a, b⟩ => ⟨a.symm, b.symm⟩⟩
theorem check_law {s : TSheet} (h : SheetI s) : checkSh s = rcheckSh s := by
  unfold checkSh rcheckSh
  rw [limits_law, order_law, out_law h, under_law h, any_congr (p := meetsS s) (q := rmeetsS s) fun i hi => meets_law h (List.mem_range.1 hi)]
  cases s.Cells.any (rfarS s)
  · rw [Bool.false_or, if_neg (show ¬ (false = true) by decide)]
  · rw [Bool.true_or, if_pos rfl, if_pos rfl]
def SheetG (s : TSheet) : Prop := (∀ r ∈ s.Merges, RectI r) ∧ (∀ c ∈ s.Cells, I64 c.Row ∧ I64 c.Col)
theorem great_bd {s : TSheet} (h : greatS s = false) : s.Widths.length ≤ 100 ∧ s.Heights.length ≤ 100 ∧ s.Merges.length ≤ 100 ∧ s.Cells.length ≤ 500 := by
  unfold greatS at h
  split at h
  · cases h
  · omega
theorem SheetG.I {s : TSheet} (h : SheetG s) (hg : greatS s = false) : SheetI s := ⟨h.1, h.2, by have := great_bd hg; omega, by have := great_bd hg; omega⟩
end Go.Proofs.YtaljccgfnmfhnaaGreatDoorG
set_option linter.all false
namespace Go.Proofs.YtaljccgfnmfhnaaGreatDoorG
open Go Go.RowKit
def InR (r : TRect) (i j : Int) : Prop := r.Row ≤ i ∧ i < r.Row + r.Rows ∧ r.Col ≤ j ∧ j < r.Col + r.Cols
def Fits (s : TSheet) (r : TRect) : Prop := 0 ≤ r.Row ∧ 0 ≤ r.Col ∧ 1 ≤ r.Rows ∧ 1 ≤ r.Cols ∧ r.Row + r.Rows ≤ s.Heights.length ∧ r.Col + r.Cols ≤ s.Widths.length
structure Good (s : TSheet) : Prop where
  I : SheetI s
  hs : s.Heights.length ≤ 24
  ws : s.Widths.length ≤ 16
  ok : checkSh s = 0
  fits : ∀ r ∈ s.Merges, Fits s r
  apart : ∀ i k, k < i → i < s.Merges.length → meetS (s.Merges.getD k default) (s.Merges.getD i default) = false
  cells : ∀ c ∈ s.Cells, spotS c = cornerS (aroundS s c.Row c.Col)
theorem hasF_false {α : Type} {p : α → Bool} {l : List α} (h : hasF p l = false) : ∀ x ∈ l, p x = false := by
  rw [hasF_any] at h
  intro x hx
  have := List.any_eq_false.1 h x hx
  simpa using this
theorem range_false {p : Nat → Bool} {n : Nat} (h : (List.range n).any p = false) {i : Nat} (hi : i < n) : p i = false := by
  have := List.any_eq_false.1 h i (List.mem_range.2 hi)
  simpa using this
theorem ord_tiny {s : TSheet} (h : orderS s = true) : ∀ r ∈ s.Merges, tinyS r = false := by
  unfold orderS at h
  split at h
  · cases h
  · simp only [Bool.and_eq_true, Bool.not_eq_true'] at h
    exact hasF_false h.2
theorem meet_iff {a b : TRect} (ha : RectI a) (hb : RectI b) : meetS a b = true ↔ (1 ≤ a.Rows ∧ 1 ≤ b.Rows ∧ a.Row - b.Row < b.Rows ∧ b.Row - a.Row < a.Rows) ∧ (1 ≤ a.Cols ∧ 1 ≤ b.Cols ∧ a.Col - b.Col < b.Cols ∧ b.Col - a.Col < a.Cols) := by
  obtain ⟨a1, a2, a3, a4⟩ := ha
  obtain ⟨b1, b2, b3, b4⟩ := hb
  unfold meetS
  rw [shareS_eq a1 a3 b1 b3, shareS_eq a2 a4 b2 b4]
  simp only [Bool.and_eq_true, decide_eq_true_eq]
theorem one_I {i j : Int} (hi : I64 i) (hj : I64 j) : RectI (oneS i j) := ⟨hi, hj, by unfold I64 oneS; simp, by unfold I64 oneS; simp⟩
theorem meet_one {r : TRect} {i j : Int} (hr : RectI r) (hi : I64 i) (hj : I64 j) : meetS r (oneS i j) = true ↔ InR r i j := by
  rw [meet_iff hr (one_I hi hj)]
  unfold oneS InR
  simp only
  omega
theorem good_of {s : TSheet} (hI : SheetI s) (h : checkSh s = 0) : Good s := by
  obtain ⟨h1, h2, h3, h4, h5⟩ := chk_ok h
  obtain ⟨h6, h7, _⟩ := chk_small h
  unfold outS at h3
  rw [Bool.or_eq_false_iff] at h3
  refine ⟨hI, h6, h7, h, fun r hr => ?_, fun i k hk hi => ?_, fun c hc => ?_⟩
  · have e1 := hasF_false h3.2 r hr
    have e2 := ord_tiny h2 r hr
    obtain ⟨r1, r2, r3, r4⟩ := hI.1 r hr
    unfold I64 at *
    unfold tinyS at e2
    simp only [Bool.or_eq_false_iff, decide_eq_false_iff_not] at e2
    obtain ⟨⟨e3, e4⟩, _⟩ := e2
    unfold hasS at e1
    simp only [Bool.not_eq_false', Bool.and_eq_true, decide_eq_true_eq] at e1
    obtain ⟨⟨⟨⟨⟨e5, e6⟩, e7⟩, e8⟩, e9⟩, e10⟩ := e1
    rw [wrap_id (by omega) (by omega)] at e9 e10
    exact ⟨e5, e6, by omega, by omega, by omega, by omega⟩
  · have := range_false h4 hi
    unfold meetsS at this
    refine hasF_false this _ ?_
    rw [List.mem_take_iff_getElem]
    exact ⟨k, by omega, by simp [List.getD, show k < s.Merges.length by omega]⟩
  · obtain ⟨i, hi, rfl⟩ := List.getElem_of_mem hc
    have := range_false h5 hi
    unfold underS at this
    simpa [List.getD, hi] using this
section
variable {s : TSheet} (hg : Good s)
include hg
theorem Good.in64 {i j : Int} (hi : 0 ≤ i) (hi' : i < s.Heights.length) (hj : 0 ≤ j) (hj' : j < s.Widths.length) : I64 i ∧ I64 j := by
  have := hg.hs
  have := hg.ws
  unfold I64
  omega
theorem Good.around (i j : Int) (hi : I64 i) (hj : I64 j) : (∃ r ∈ s.Merges, InR r i j ∧ aroundS s i j = r) ∨ ((∀ r ∈ s.Merges, ¬ InR r i j) ∧ aroundS s i j = oneS i j) := by
  have e : ∀ r ∈ s.Merges, (meetS r (oneS i j) = true ↔ InR r i j) := fun r hr => meet_one (hg.I.1 r hr) hi hj
  unfold aroundS idxM
  rcases idxF_find default (fun r => meetS r (oneS i j)) s.Merges 0 with ⟨h1, h2⟩ | ⟨k, hk, h1, h2⟩
  · refine .inr ⟨fun r hr hin => ?_, by rw [h2, if_pos (by decide)]⟩
    have := List.find?_eq_none.1 h1 r hr
    exact this ((e r hr).2 hin)
  · refine .inl ⟨_, mem_getD default hk, (e _ (mem_getD default hk)).1 (List.find?_some (p := fun r => meetS r (oneS i j)) h2), ?_⟩
    rw [h1, if_neg (by omega), show ((0 : Int) + (k : Int)).toNat = k by omega]
theorem Good.one_merge {r q : TRect} (hr : r ∈ s.Merges) (hq : q ∈ s.Merges) {i j : Int} (h1 : InR r i j) (h2 : InR q i j) : r = q := by
  obtain ⟨a, ha, rfl⟩ := List.getElem_of_mem hr
  obtain ⟨b, hb, rfl⟩ := List.getElem_of_mem hq
  have key : ∀ a b (ha : a < s.Merges.length) (hb : b < s.Merges.length), a < b → InR s.Merges[a] i j → InR s.Merges[b] i j → False := fun a b ha hb hab h1 h2 => by
    have := hg.apart b a hab hb
    rw [show s.Merges.getD a default = s.Merges[a] by simp [List.getD, ha], show s.Merges.getD b default = s.Merges[b] by simp [List.getD, hb]] at this
    have e := (meet_iff (hg.I.1 _ (List.getElem_mem ha)) (hg.I.1 _ (List.getElem_mem hb))).2 (by unfold InR at h1 h2; omega)
    rw [e] at this
    cases this
  rcases Nat.lt_trichotomy a b with h | h | h
  · exact (key a b ha hb h h1 h2).elim
  · subst h; rfl
  · exact (key b a hb ha h h2 h1).elim
section
variable {i j : Int} (hi : 0 ≤ i) (hi' : i < s.Heights.length) (hj : 0 ≤ j) (hj' : j < s.Widths.length)
include hi hi' hj hj'
theorem Good.around_in : InR (aroundS s i j) i j := by
  obtain ⟨a, b⟩ := hg.in64 hi hi' hj hj'
  rcases hg.around i j a b with ⟨r, _, h1, h2⟩ | ⟨_, h2⟩
  · rw [h2]; exact h1
  · rw [h2]; unfold InR oneS; simp only; omega
theorem Good.around_fits : Fits s (aroundS s i j) := by
  obtain ⟨a, b⟩ := hg.in64 hi hi' hj hj'
  rcases hg.around i j a b with ⟨r, hr, _, h2⟩ | ⟨_, h2⟩
  · rw [h2]; exact hg.fits r hr
  · rw [h2]; unfold Fits oneS; simp only; omega
theorem Good.around_I : RectI (aroundS s i j) := by
  have := hg.around_fits hi hi' hj hj'
  have := hg.hs
  have := hg.ws
  unfold Fits at *
  refine ⟨?_, ?_, ?_, ?_⟩ <;> unfold I64 <;> omega
theorem Good.around_same {p q : Int} (h : InR (aroundS s i j) p q) : aroundS s p q = aroundS s i j := by
  have hf := hg.around_fits hi hi' hj hj'
  obtain ⟨a, b⟩ := hg.in64 hi hi' hj hj'
  obtain ⟨a', b'⟩ : I64 p ∧ I64 q := by
    unfold InR at h
    unfold Fits at hf
    exact hg.in64 (by omega) (by omega) (by omega) (by omega)
  rcases hg.around i j a b with ⟨r, hr, h1, h2⟩ | ⟨h1, h2⟩
  · rw [h2] at h ⊢
    rcases hg.around p q a' b' with ⟨r', hr', h3, h4⟩ | ⟨h3, h4⟩
    · rw [h4]; exact hg.one_merge hr' hr h3 h
    · exact absurd h (h3 r hr)
  · rw [h2] at h
    unfold InR oneS at h
    simp only at h
    obtain rfl : p = i := by omega
    obtain rfl : q = j := by omega
    rfl
theorem Good.has_one : hasS s (oneS i j) = true := by
  have := hg.hs
  have := hg.ws
  unfold hasS oneS
  simp only [Bool.and_eq_true, decide_eq_true_eq]
  rw [wrap_id (by omega) (by omega), wrap_id (by omega) (by omega)]
  omega
theorem Good.region : regionS s i j = (aroundS s i j, 0) := by
  unfold regionS
  rw [if_neg (by simp [hg.ok]), if_neg (by rw [hg.has_one hi hi' hj hj']; decide)]
theorem Good.corner_in : InR (aroundS s i j) (aroundS s i j).Row (aroundS s i j).Col ∧ (0 ≤ (aroundS s i j).Row ∧ (aroundS s i j).Row < s.Heights.length ∧ 0 ≤ (aroundS s i j).Col ∧ (aroundS s i j).Col < s.Widths.length) := by
  have := hg.around_fits hi hi' hj hj'
  unfold Fits at this
  unfold InR
  omega
end
theorem Good.regions : regionsS s = regUp s s.Heights.length := by
  unfold regionsS
  rw [if_neg (by simp [hg.ok])]
theorem Good.mem (x : TRect) : x ∈ regionsS s ↔ ∃ i j : Nat, i < s.Heights.length ∧ j < s.Widths.length ∧ cornerS (aroundS s i j) = ⟨i, j⟩ ∧ x = aroundS s i j := by
  rw [hg.regions]
  unfold regUp regRow regAt
  simp only [List.mem_flatMap, List.mem_range]
  constructor
  · rintro ⟨i, hi, j, hj, h⟩
    split at h
    · rename_i h1
      exact ⟨i, j, hi, hj, h1, by simpa using h⟩
    · cases h
  · rintro ⟨i, j, hi, hj, h1, rfl⟩
    exact ⟨i, hi, j, hj, by rw [if_pos h1]; simp⟩
theorem Good.mem_around {i j : Int} (hi : 0 ≤ i) (hi' : i < s.Heights.length) (hj : 0 ≤ j) (hj' : j < s.Widths.length) : aroundS s i j ∈ regionsS s := by
  rw [hg.mem]
  obtain ⟨h1, h2, h3, h4, h5⟩ := hg.corner_in hi hi' hj hj'
  refine ⟨(aroundS s i j).Row.toNat, (aroundS s i j).Col.toNat, by omega, by omega, ?_⟩
  rw [show (((aroundS s i j).Row.toNat : Nat) : Int) = (aroundS s i j).Row by omega, show (((aroundS s i j).Col.toNat : Nat) : Int) = (aroundS s i j).Col by omega, hg.around_same hi hi' hj hj' h1]
  exact ⟨rfl, rfl⟩
theorem Good.of_in {x : TRect} (hx : x ∈ regionsS s) {p q : Int} (h : InR x p q) : x = aroundS s p q := by
  obtain ⟨i, j, hi, hj, _, rfl⟩ := (hg.mem x).1 hx
  exact (hg.around_same (by omega) (by omega) (by omega) (by omega) h).symm
theorem Good.mem_fits {x : TRect} (hx : x ∈ regionsS s) : Fits s x ∧ RectI x := by
  obtain ⟨i, j, hi, hj, _, rfl⟩ := (hg.mem x).1 hx
  exact ⟨hg.around_fits (by omega) (by omega) (by omega) (by omega), hg.around_I (by omega) (by omega) (by omega) (by omega)⟩
omit hg in
theorem grid_nodup (m : Nat) : ∀ n : Nat, ((List.range n).flatMap fun (i : Nat) => (List.range m).map fun (j : Nat) => ((⟨(i : Int), (j : Int)⟩ : Ar2_Int))).Nodup
  | 0 => List.Pairwise.nil
  | n + 1 => by
    rw [List.range_succ, List.flatMap_append, List.nodup_append]
    refine ⟨grid_nodup m n, ?_, ?_⟩
    · simp only [List.flatMap_cons, List.flatMap_nil, List.append_nil]
      refine List.Pairwise.map _ ?_ (List.nodup_range (n := m))
      intro a b h e
      simp only [Ar2_Int.mk.injEq, true_and] at e
      omega
    · intro a ha b hb e
      subst e
      simp only [List.mem_flatMap, List.mem_range, List.mem_map, List.mem_singleton] at ha hb
      obtain ⟨i, hi, j, _, rfl⟩ := ha
      obtain ⟨k, rfl, j', _, e⟩ := hb
      simp only [Ar2_Int.mk.injEq] at e
      omega
omit hg in
theorem flat_sub {α β : Type} {f g : α → List β} : ∀ {l : List α}, (∀ x ∈ l, (f x).Sublist (g x)) → (l.flatMap f).Sublist (l.flatMap g)
  | [], _ => List.Sublist.refl _
  | x :: t, h => by
    rw [List.flatMap_cons, List.flatMap_cons]
    exact (h x List.mem_cons_self).append (flat_sub fun y hy => h y (List.mem_cons_of_mem _ hy))
theorem Good.nodup : (regionsS s).Nodup := by
  have h : ((regionsS s).map cornerS).Nodup := by
    rw [hg.regions]
    refine (List.Sublist.nodup ?_ (grid_nodup s.Widths.length s.Heights.length))
    unfold regUp
    rw [List.map_flatMap]
    refine flat_sub fun i _ => ?_
    unfold regRow
    rw [List.map_flatMap, List.map_eq_flatMap]
    refine flat_sub fun j _ => ?_
    unfold regAt
    split
    · rename_i h1
      simp [h1]
    · simp
  exact List.Pairwise.of_map _ (fun a b h e => h (by rw [e])) h
theorem within_iff {r : TRect} (h : Fits s r) {i j : Int} (hi : 0 ≤ i) (hj : 0 ≤ j) : withinS r i j = true ↔ InR r i j := by
  have := hg.hs
  have := hg.ws
  unfold Fits at h
  unfold withinS InR
  rw [wrap_id (by omega) (by omega), wrap_id (by omega) (by omega)]
  simp only [Bool.and_eq_true, decide_eq_true_eq]
  omega
theorem Good.count {i j : Int} (hi : 0 ≤ i) (hi' : i < s.Heights.length) (hj : 0 ≤ j) (hj' : j < s.Widths.length) : (regionsS s).countP (fun r => withinS r i j) = 1 := by
  have e : (regionsS s).countP (fun r => withinS r i j) = (regionsS s).countP (fun r => r == aroundS s i j) := List.countP_congr fun r hr => by
    rw [within_iff hg (hg.mem_fits hr).1 hi hj, beq_iff_eq]
    exact ⟨fun h => hg.of_in hr h, fun h => by rw [h]; exact hg.around_in hi hi' hj hj'⟩
  rw [e]
  have := hg.nodup.count (a := aroundS s i j)
  rw [if_pos (hg.mem_around hi hi' hj hj')] at this
  exact this
end
end Go.Proofs.YtaljccgfnmfhnaaGreatDoorG
set_option linter.all false
set_option maxHeartbeats 8000000
set_option maxRecDepth 100000
namespace Go.Proofs.YtaljccgfnmfhnaaGreatDoorG
open Go Go.RowKit
theorem ent119 (args : Array Value) (w : World) : (callFunc 119 args).run Tryz.prog w = .ok (.enter 119 args) w := enters Tryz.func119 (by kernel_rfl) rfl args w
theorem size58 (w : World) : (sizeOf 58).run Tryz.prog w = .ok 6 w := by kernel_rfl
theorem agg58 (w : World) : (isAgg 58).run Tryz.prog w = .ok true w := by kernel_rfl
theorem ent85 (args : Array Value) (w : World) : (callFunc 85 args).run Tryz.prog w = .ok (.enter 85 args) w := enters Tryz.func85 (by kernel_rfl) rfl args w
theorem size76 (w : World) : (sizeOf 76).run Tryz.prog w = .ok 4 w := by kernel_rfl
theorem agg76 (w : World) : (isAgg 76).run Tryz.prog w = .ok true w := by kernel_rfl
theorem ent86 (args : Array Value) (w : World) : (callFunc 86 args).run Tryz.prog w = .ok (.enter 86 args) w := enters Tryz.func86 (by kernel_rfl) rfl args w
theorem fld76_0 (a : Addr) (w : World) : (Instr.fieldAt 76 (.pointer (some a)) 0).run Tryz.prog w = .ok (.pointer (some (a.add 0))) w := by kernel_rfl
theorem fld76_2 (a : Addr) (w : World) : (Instr.fieldAt 76 (.pointer (some a)) 2).run Tryz.prog w = .ok (.pointer (some (a.add 2))) w := by kernel_rfl
theorem ent87 (args : Array Value) (w : World) : (callFunc 87 args).run Tryz.prog w = .ok (.enter 87 args) w := enters Tryz.func87 (by kernel_rfl) rfl args w
theorem fld76_1 (a : Addr) (w : World) : (Instr.fieldAt 76 (.pointer (some a)) 1).run Tryz.prog w = .ok (.pointer (some (a.add 1))) w := by kernel_rfl
theorem fld76_3 (a : Addr) (w : World) : (Instr.fieldAt 76 (.pointer (some a)) 3).run Tryz.prog w = .ok (.pointer (some (a.add 3))) w := by kernel_rfl
theorem alloc76 (w : World) : (Instr.alloc 76 true (.tuple #[])).run Tryz.prog w = .ok (.pointer (some ⟨w.heap.size, 0, none⟩)) (w.alloc (.cells [.int .i64 0, .int .i64 0, .int .i64 0, .int .i64 0].toArray 76)) := by kernel_rfl
theorem fld30_2 (a : Addr) (w : World) : (Instr.fieldAt 30 (.pointer (some a)) 2).run Tryz.prog w = .ok (.pointer (some (a.add 2))) w := by kernel_rfl
theorem agg26 (w : World) : (isAgg 26).run Tryz.prog w = .ok false w := by kernel_rfl
theorem fld30_1 (a : Addr) (w : World) : (Instr.fieldAt 30 (.pointer (some a)) 1).run Tryz.prog w = .ok (.pointer (some (a.add 1))) w := by kernel_rfl
theorem ent107 (args : Array Value) (w : World) : (callFunc 107 args).run Tryz.prog w = .ok (.enter 107 args) w := enters Tryz.func107 (by kernel_rfl) rfl args w
theorem ent106 (args : Array Value) (w : World) : (callFunc 106 args).run Tryz.prog w = .ok (.enter 106 args) w := enters Tryz.func106 (by kernel_rfl) rfl args w
theorem fld58_2 (a : Addr) (w : World) : (Instr.fieldAt 58 (.pointer (some a)) 2).run Tryz.prog w = .ok (.pointer (some (a.add 2))) w := by kernel_rfl
theorem ent77 (args : Array Value) (w : World) : (callFunc 77 args).run Tryz.prog w = .ok (.enter 77 args) w := enters Tryz.func77 (by kernel_rfl) rfl args w
theorem fld30_3 (a : Addr) (w : World) : (Instr.fieldAt 30 (.pointer (some a)) 3).run Tryz.prog w = .ok (.pointer (some (a.add 3))) w := by kernel_rfl
theorem agg27 (w : World) : (isAgg 27).run Tryz.prog w = .ok false w := by kernel_rfl
theorem ent41 (args : Array Value) (w : World) : (callFunc 41 args).run Tryz.prog w = .ok (.enter 41 args) w := enters Tryz.func41 (by kernel_rfl) rfl args w
theorem ent78 (args : Array Value) (w : World) : (callFunc 78 args).run Tryz.prog w = .ok (.enter 78 args) w := enters Tryz.func78 (by kernel_rfl) rfl args w
theorem fld30_4 (a : Addr) (w : World) : (Instr.fieldAt 30 (.pointer (some a)) 4).run Tryz.prog w = .ok (.pointer (some (a.add 4))) w := by kernel_rfl
theorem agg28 (w : World) : (isAgg 28).run Tryz.prog w = .ok false w := by kernel_rfl
theorem ent108 (args : Array Value) (w : World) : (callFunc 108 args).run Tryz.prog w = .ok (.enter 108 args) w := enters Tryz.func108 (by kernel_rfl) rfl args w
theorem ent140 (args : Array Value) (w : World) : (callFunc 140 args).run Tryz.prog w = .ok (.enter 140 args) w := enters Tryz.func140 (by kernel_rfl) rfl args w
theorem ent130 (args : Array Value) (w : World) : (callFunc 130 args).run Tryz.prog w = .ok (.enter 130 args) w := enters Tryz.func130 (by kernel_rfl) rfl args w
theorem ent120 (args : Array Value) (w : World) : (callFunc 120 args).run Tryz.prog w = .ok (.enter 120 args) w := enters Tryz.func120 (by kernel_rfl) rfl args w
theorem alloc82 (w : World) : (Instr.alloc 82 true (.tuple #[])).run Tryz.prog w = .ok (.pointer (some ⟨w.heap.size, 0, none⟩)) (w.alloc (.cells [.int .i64 0, .int .i64 0].toArray 82)) := by kernel_rfl
theorem fld58_0 (a : Addr) (w : World) : (Instr.fieldAt 58 (.pointer (some a)) 0).run Tryz.prog w = .ok (.pointer (some (a.add 0))) w := by kernel_rfl
theorem fld58_1 (a : Addr) (w : World) : (Instr.fieldAt 58 (.pointer (some a)) 1).run Tryz.prog w = .ok (.pointer (some (a.add 1))) w := by kernel_rfl
theorem size82 (w : World) : (sizeOf 82).run Tryz.prog w = .ok 2 w := by kernel_rfl
theorem agg82 (w : World) : (isAgg 82).run Tryz.prog w = .ok true w := by kernel_rfl
theorem fld56_0 (a : Addr) (w : World) : (Instr.fieldAt 56 (.pointer (some a)) 0).run Tryz.prog w = .ok (.pointer (some (a.add 0))) w := by kernel_rfl
theorem fld56_1 (a : Addr) (w : World) : (Instr.fieldAt 56 (.pointer (some a)) 1).run Tryz.prog w = .ok (.pointer (some (a.add 1))) w := by kernel_rfl
theorem fld56_2 (a : Addr) (w : World) : (Instr.fieldAt 56 (.pointer (some a)) 2).run Tryz.prog w = .ok (.pointer (some (a.add 2))) w := by kernel_rfl
theorem ent49 (args : Array Value) (w : World) : (callFunc 49 args).run Tryz.prog w = .ok (.enter 49 args) w := enters Tryz.func49 (by kernel_rfl) rfl args w
theorem ent109 (args : Array Value) (w : World) : (callFunc 109 args).run Tryz.prog w = .ok (.enter 109 args) w := enters Tryz.func109 (by kernel_rfl) rfl args w
theorem ent50 (args : Array Value) (w : World) : (callFunc 50 args).run Tryz.prog w = .ok (.enter 50 args) w := enters Tryz.func50 (by kernel_rfl) rfl args w
theorem fld58_3 (a : Addr) (w : World) : (Instr.fieldAt 58 (.pointer (some a)) 3).run Tryz.prog w = .ok (.pointer (some (a.add 3))) w := by kernel_rfl
theorem agg56 (w : World) : (isAgg 56).run Tryz.prog w = .ok true w := by kernel_rfl
theorem size56 (w : World) : (sizeOf 56).run Tryz.prog w = .ok 3 w := by kernel_rfl
theorem ent83 (args : Array Value) (w : World) : (callFunc 83 args).run Tryz.prog w = .ok (.enter 83 args) w := enters Tryz.func83 (by kernel_rfl) rfl args w
theorem eqv119 (x y : Ar3_Int) : EqV Tryz.prog 119 2 (.agg #[.int .i64 x.e0, .int .i64 x.e1, .int .i64 x.e2]) (.agg #[.int .i64 y.e0, .int .i64 y.e1, .int .i64 y.e2]) (decide (x = y)) := by
  have e : decide (x = y) = (decide (x.e0 = y.e0) && (decide (x.e1 = y.e1) && (decide (x.e2 = y.e2) && true))) := by cases x; cases y; simp [Bool.eq_iff_iff]
  rw [e]
  exact EqV.array (n := 1) Tryz.underlying119 (fun w => by kernel_rfl) (EqE.cons (a := (.int .i64 x.e0)) (b := (.int .i64 y.e0)) (fun w => by kernel_rfl) (fun w => by kernel_rfl) (EqV.int Tryz.underlying3) (EqE.cons (a := (.int .i64 x.e1)) (b := (.int .i64 y.e1)) (fun w => by kernel_rfl) (fun w => by kernel_rfl) (EqV.int Tryz.underlying3) (EqE.cons (a := (.int .i64 x.e2)) (b := (.int .i64 y.e2)) (fun w => by kernel_rfl) (fun w => by kernel_rfl) (EqV.int Tryz.underlying3) EqE.nil)))
theorem eqg119 : Tryz.prog.eqGuardType Tryz.prog.depth 119 = false := by kernel_rfl
theorem ent82 (args : Array Value) (w : World) : (callFunc 82 args).run Tryz.prog w = .ok (.enter 82 args) w := enters Tryz.func82 (by kernel_rfl) rfl args w
theorem ent84 (args : Array Value) (w : World) : (callFunc 84 args).run Tryz.prog w = .ok (.enter 84 args) w := enters Tryz.func84 (by kernel_rfl) rfl args w
theorem fld30_0 (a : Addr) (w : World) : (Instr.fieldAt 30 (.pointer (some a)) 0).run Tryz.prog w = .ok (.pointer (some (a.add 0))) w := by kernel_rfl
theorem ent79 (args : Array Value) (w : World) : (callFunc 79 args).run Tryz.prog w = .ok (.enter 79 args) w := enters Tryz.func79 (by kernel_rfl) rfl args w
theorem ent80 (args : Array Value) (w : World) : (callFunc 80 args).run Tryz.prog w = .ok (.enter 80 args) w := enters Tryz.func80 (by kernel_rfl) rfl args w
theorem ent81 (args : Array Value) (w : World) : (callFunc 81 args).run Tryz.prog w = .ok (.enter 81 args) w := enters Tryz.func81 (by kernel_rfl) rfl args w
theorem ent45 (args : Array Value) (w : World) : (callFunc 45 args).run Tryz.prog w = .ok (.enter 45 args) w := enters Tryz.func45 (by kernel_rfl) rfl args w
theorem ent44 (args : Array Value) (w : World) : (callFunc 44 args).run Tryz.prog w = .ok (.enter 44 args) w := enters Tryz.func44 (by kernel_rfl) rfl args w
theorem ent48 (args : Array Value) (w : World) : (callFunc 48 args).run Tryz.prog w = .ok (.enter 48 args) w := enters Tryz.func48 (by kernel_rfl) rfl args w
theorem ent88 (args : Array Value) (w : World) : (callFunc 88 args).run Tryz.prog w = .ok (.enter 88 args) w := enters Tryz.func88 (by kernel_rfl) rfl args w
theorem agg30 (w : World) : (isAgg 30).run Tryz.prog w = .ok true w := by kernel_rfl
theorem size30 (w : World) : (sizeOf 30).run Tryz.prog w = .ok 5 w := by kernel_rfl
theorem ent43 (args : Array Value) (w : World) : (callFunc 43 args).run Tryz.prog w = .ok (.enter 43 args) w := enters Tryz.func43 (by kernel_rfl) rfl args w
theorem ent42 (args : Array Value) (w : World) : (callFunc 42 args).run Tryz.prog w = .ok (.enter 42 args) w := enters Tryz.func42 (by kernel_rfl) rfl args w
theorem ent46 (args : Array Value) (w : World) : (callFunc 46 args).run Tryz.prog w = .ok (.enter 46 args) w := enters Tryz.func46 (by kernel_rfl) rfl args w
theorem ent47 (args : Array Value) (w : World) : (callFunc 47 args).run Tryz.prog w = .ok (.enter 47 args) w := enters Tryz.func47 (by kernel_rfl) rfl args w
theorem ent39 (args : Array Value) (w : World) : (callFunc 39 args).run Tryz.prog w = .ok (.enter 39 args) w := enters Tryz.func39 (by kernel_rfl) rfl args w
theorem ent40 (args : Array Value) (w : World) : (callFunc 40 args).run Tryz.prog w = .ok (.enter 40 args) w := enters Tryz.func40 (by kernel_rfl) rfl args w
theorem alloc58 (w : World) : (Instr.alloc 58 true (.tuple #[])).run Tryz.prog w = .ok (.pointer (some ⟨w.heap.size, 0, none⟩)) (w.alloc (.cells [.int .i64 0, .int .i64 0, vstr [], .int .i64 0, .int .i64 0, .int .i64 0].toArray 58)) := by kernel_rfl
theorem ent51 (args : Array Value) (w : World) : (callFunc 51 args).run Tryz.prog w = .ok (.enter 51 args) w := enters Tryz.func51 (by kernel_rfl) rfl args w
theorem eqv82 (x y : Ar2_Int) : EqV Tryz.prog 82 2 (.agg #[.int .i64 x.e0, .int .i64 x.e1]) (.agg #[.int .i64 y.e0, .int .i64 y.e1]) (decide (x = y)) := by
  have e : decide (x = y) = (decide (x.e0 = y.e0) && (decide (x.e1 = y.e1) && true)) := by cases x; cases y; simp [Bool.eq_iff_iff]
  rw [e]
  exact EqV.array (n := 1) Tryz.underlying82 (fun w => by kernel_rfl) (EqE.cons (a := (.int .i64 x.e0)) (b := (.int .i64 y.e0)) (fun w => by kernel_rfl) (fun w => by kernel_rfl) (EqV.int Tryz.underlying3) (EqE.cons (a := (.int .i64 x.e1)) (b := (.int .i64 y.e1)) (fun w => by kernel_rfl) (fun w => by kernel_rfl) (EqV.int Tryz.underlying3) EqE.nil))
theorem eqg82 : Tryz.prog.eqGuardType Tryz.prog.depth 82 = false := by kernel_rfl
theorem eqv76 (x y : TRect) : EqV Tryz.prog 76 2 (.agg #[.int .i64 x.Row, .int .i64 x.Col, .int .i64 x.Rows, .int .i64 x.Cols]) (.agg #[.int .i64 y.Row, .int .i64 y.Col, .int .i64 y.Rows, .int .i64 y.Cols]) (decide (x = y)) := by
  have e : decide (x = y) = (decide (x.Row = y.Row) && (decide (x.Col = y.Col) && (decide (x.Rows = y.Rows) && (decide (x.Cols = y.Cols) && true)))) := by cases x; cases y; simp [Bool.eq_iff_iff]
  rw [e]
  exact EqV.struct Tryz.underlying76 (by kernel_rfl) (EqF.cons (a := (.int .i64 x.Row)) (b := (.int .i64 y.Row)) (by decide) (fun w => by kernel_rfl) (fun w => by kernel_rfl) (EqV.int Tryz.underlying3) (EqF.cons (a := (.int .i64 x.Col)) (b := (.int .i64 y.Col)) (by decide) (fun w => by kernel_rfl) (fun w => by kernel_rfl) (EqV.int Tryz.underlying3) (EqF.cons (a := (.int .i64 x.Rows)) (b := (.int .i64 y.Rows)) (by decide) (fun w => by kernel_rfl) (fun w => by kernel_rfl) (EqV.int Tryz.underlying3) (EqF.cons (a := (.int .i64 x.Cols)) (b := (.int .i64 y.Cols)) (by decide) (fun w => by kernel_rfl) (fun w => by kernel_rfl) (EqV.int Tryz.underlying3) EqF.nil))))
theorem eqg76 : Tryz.prog.eqGuardType Tryz.prog.depth 76 = false := by kernel_rfl
theorem ent32 (args : Array Value) (w : World) : (callFunc 32 args).run Tryz.prog w = .ok (.enter 32 args) w := enters Tryz.func32 (by kernel_rfl) rfl args w
theorem ent33 (args : Array Value) (w : World) : (callFunc 33 args).run Tryz.prog w = .ok (.enter 33 args) w := enters Tryz.func33 (by kernel_rfl) rfl args w
theorem eqv56 (x y : TStyle) : EqV Tryz.prog 56 2 (.agg #[.int .i64 x.Align, .int .i64 x.Wrap, .int .i64 x.Dir]) (.agg #[.int .i64 y.Align, .int .i64 y.Wrap, .int .i64 y.Dir]) (decide (x = y)) := by
  have e : decide (x = y) = (decide (x.Align = y.Align) && (decide (x.Wrap = y.Wrap) && (decide (x.Dir = y.Dir) && true))) := by cases x; cases y; simp [Bool.eq_iff_iff]
  rw [e]
  exact EqV.struct Tryz.underlying56 (by kernel_rfl) (EqF.cons (a := (.int .i64 x.Align)) (b := (.int .i64 y.Align)) (by decide) (fun w => by kernel_rfl) (fun w => by kernel_rfl) (EqV.int Tryz.underlying3) (EqF.cons (a := (.int .i64 x.Wrap)) (b := (.int .i64 y.Wrap)) (by decide) (fun w => by kernel_rfl) (fun w => by kernel_rfl) (EqV.int Tryz.underlying3) (EqF.cons (a := (.int .i64 x.Dir)) (b := (.int .i64 y.Dir)) (by decide) (fun w => by kernel_rfl) (fun w => by kernel_rfl) (EqV.int Tryz.underlying3) EqF.nil)))
theorem eqv58 (x y : TCell) : EqV Tryz.prog 58 3 (.agg #[.int .i64 x.Row, .int .i64 x.Col, vstr x.Text, .int .i64 x.Style.Align, .int .i64 x.Style.Wrap, .int .i64 x.Style.Dir]) (.agg #[.int .i64 y.Row, .int .i64 y.Col, vstr y.Text, .int .i64 y.Style.Align, .int .i64 y.Style.Wrap, .int .i64 y.Style.Dir]) (decide (x = y)) := by
  have e : decide (x = y) = (decide (x.Row = y.Row) && (decide (x.Col = y.Col) && (decide (x.Text = y.Text) && (decide (x.Style = y.Style) && true)))) := by cases x; cases y; simp [Bool.eq_iff_iff]
  rw [e]
  exact EqV.struct Tryz.underlying58 (by kernel_rfl) (EqF.cons (a := (.int .i64 x.Row)) (b := (.int .i64 y.Row)) (by decide) (fun w => by kernel_rfl) (fun w => by kernel_rfl) ((EqV.int Tryz.underlying3).up 1) (EqF.cons (a := (.int .i64 x.Col)) (b := (.int .i64 y.Col)) (by decide) (fun w => by kernel_rfl) (fun w => by kernel_rfl) ((EqV.int Tryz.underlying3).up 1) (EqF.cons (a := (vstr x.Text)) (b := (vstr y.Text)) (by decide) (fun w => by kernel_rfl) (fun w => by kernel_rfl) ((EqV.str Tryz.underlying9).up 1) (EqF.cons (a := (.agg #[.int .i64 x.Style.Align, .int .i64 x.Style.Wrap, .int .i64 x.Style.Dir])) (b := (.agg #[.int .i64 y.Style.Align, .int .i64 y.Style.Wrap, .int .i64 y.Style.Dir])) (by decide) (fun w => by kernel_rfl) (fun w => by kernel_rfl) (eqv56 x.Style y.Style) EqF.nil))))
theorem eqg58 : Tryz.prog.eqGuardType Tryz.prog.depth 58 = false := by kernel_rfl
theorem alloc30 (w : World) : (Instr.alloc 30 true (.tuple #[])).run Tryz.prog w = .ok (.pointer (some ⟨w.heap.size, 0, none⟩)) (w.alloc (.cells [.int .i64 0, .slice none 0 0, .slice none 0 0, .slice none 0 0, .slice none 0 0].toArray 30)) := by kernel_rfl
theorem elem26 : ElemInfo Tryz.prog 26 3 1 8 := ElemInfo.of (z := .int .i64 0) Tryz.underlying26 (by kernel_rfl) rfl (by decide)
theorem elem27 : ElemInfo Tryz.prog 27 58 6 56 := ElemInfo.of (z := .agg #[.int .i64 0, .int .i64 0, vstr [], .int .i64 0, .int .i64 0, .int .i64 0]) Tryz.underlying27 (by kernel_rfl) rfl (by decide)
end Go.Proofs.YtaljccgfnmfhnaaGreatDoorG
