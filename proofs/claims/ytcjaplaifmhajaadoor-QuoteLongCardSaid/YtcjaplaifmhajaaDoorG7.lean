/- Strings as lists of bytes; bytes to text. -/
import Derived.Test.YtcjaplaifmhajaaDoorG6
import Derived.Laws.Concat
import Derived.Laws.Slices
import Derived.Laws.PanicsMore
import Derived.Laws.IdiomStrings
import Derived.Laws.Append
set_option linter.all false
namespace Go.Proofs.YtcjaplaifmhajaaDoorG
open Go Go.RowKit
section
variable {P : Program} {N : Nat} {ops : Array Oper} {Q : Exit → Act → World → Prop} {o : Oper} {f : Fr} {w : World} {k : Value → World → Prop}
theorem bytes_append (x y : St) : (⟨x.toArray⟩ : ByteArray) ++ (⟨y.toArray⟩ : ByteArray) = ⟨(x ++ y).toArray⟩ := by
  apply ByteArray.ext
  simp [ByteArray.data_append]
theorem R_stradd {T T' : TypeId} {x y : Operand} {a b : St} (ho : o.op = .binOp .add T x y T') (hx : ev f x = some (vstr a)) (hy : ev f y = some (vstr b)) (h : a.length + b.length ≤ 9223372036854775807) : Runs P o f w (vstr (a ++ b)) w := by
  refine R_bin ho hx hy rfl ?_
  have h1 := run_string_add_sum (P := P) (w := w) ⟨a.toArray⟩ ⟨b.toArray⟩ (by simpa [ByteArray.size] using h)
  rw [bytes_append] at h1
  simpa [binOp] using h1
theorem bytes_extract (x : St) (lo hi : Nat) : (⟨x.toArray⟩ : ByteArray).extract lo hi = ⟨((x.drop lo).take (hi - lo)).toArray⟩ := ByteArray.extract_mk x lo hi
theorem bytes_size (x : St) : (⟨x.toArray⟩ : ByteArray).size = x.length := by simp [ByteArray.size]
theorem R_strslice {T : TypeId} {x lo hi : Operand} {a : St} {i j : Int} (ho : o.op = .slice T x (some lo) (some hi) none) (hx : ev f x = some (vstr a)) (hl : ev f lo = some (.int .i64 i)) (hh : ev f hi = some (.int .i64 j)) (hT : P.underlying T = some .string) (h0 : 0 ≤ i) (h1 : i ≤ j) (h2 : j ≤ a.length) :
    Runs P o f w (vstr ((a.drop i.toNat).take (j.toNat - i.toNat))) w := fun e he => by
  have eh : (j.toNat : Int) = j := Int.toNat_of_nonneg (by omega)
  simp [execOp, ho, he x _ hx, he lo _ hl, he hi _ hh, run_sliceAt_string, hT, Instr.slice, run_underlying hT, Instr.sliceBounds, run_sliceBound, bytes_size, bytes_extract, eh, h0, h1, h2, (by omega : 0 ≤ j)]
theorem R_strslice_l {T : TypeId} {x lo : Operand} {a : St} {i : Int} (ho : o.op = .slice T x (some lo) none none) (hx : ev f x = some (vstr a)) (hl : ev f lo = some (.int .i64 i)) (hT : P.underlying T = some .string) (h0 : 0 ≤ i) (h2 : i ≤ a.length) :
    Runs P o f w (vstr (a.drop i.toNat)) w := fun e he => by
  have h3 : (a.drop i.toNat).take (a.length - i.toNat) = a.drop i.toNat := List.take_of_length_le (by simp)
  simp [execOp, ho, he x _ hx, he lo _ hl, run_sliceAt_string, hT, Instr.slice, run_underlying hT, Instr.sliceBounds, run_sliceBound, bytes_size, bytes_extract, h0, h2, h3]
theorem R_strslice_h {T : TypeId} {x hi : Operand} {a : St} {j : Int} (ho : o.op = .slice T x none (some hi) none) (hx : ev f x = some (vstr a)) (hh : ev f hi = some (.int .i64 j)) (hT : P.underlying T = some .string) (h0 : 0 ≤ j) (h2 : j ≤ a.length) :
    Runs P o f w (vstr (a.take j.toNat)) w := fun e he => by
  simp [execOp, ho, he x _ hx, he hi _ hh, run_sliceAt_string, hT, Instr.slice, run_underlying hT, Instr.sliceBounds, run_sliceBound, bytes_size, bytes_extract, h0, h2]
/-- Bytes, as the numbers that a row of them holds. -/
def ub (t : St) : List Int := t.map (fun b => (b.toNat : Int))
theorem ub_len (t : St) : (ub t).length = t.length := by simp [ub]
theorem ub_append (t u : St) : ub t ++ ub u = ub (t ++ u) := by simp [ub]
theorem R_bytestr {S T e : TypeId} {x : Operand} {A : Option Addr} {c : Nat} {t : St} {z : Z} (ho : o.op = .convert S T x) (hx : ev f x = some (.slice A (ub t).length c)) (hS : P.underlying S = some (.slice e)) (he : P.underlying e = some (.int .u8)) (hT : P.underlying T = some .string)
    (hr : Rd (kint .u8) z A (ub t)) (hz : Sub z w) (hc : Cap A (ub t).length c) : Runs P o f w (vstr t) w := by
  refine R_conv ho hx ?_
  rw [ub_len]
  cases A with
  | none =>
    have h0 := hc.nil rfl
    have h1 := hc.le
    rw [ub_len] at h1
    have : t = [] := List.length_eq_zero_iff.1 (by omega)
    subst this
    subst h0
    rw [run_convert_bytes_string w S T e none _ _ hS he hT]
    rfl
  | some a =>
    refine run_convert_bytes_back w S T e a c t hS he hT (fun j hj => ?_)
    have hj' : j < (ub t).length := by rw [ub_len]; exact hj
    obtain ⟨a', cs, h1, h2, h3⟩ := hr j _ (List.getElem?_eq_getElem hj')
    obtain rfl := Option.some.inj h1
    obtain rfl : cs = [.int .u8 (ub t)[j]] := h2
    have h4 := hz.cell (h3 0 _ rfl)
    have h5 : (kint .u8).sz = 1 := rfl
    rw [h5, Nat.mul_one, Nat.add_zero] at h4
    rw [h4]
    simp [ub]
theorem R_slice0 {T : TypeId} {x hi mx : Operand} {A : Option Addr} {n c : Nat} (ho : o.op = .slice T x none (some hi) (some mx)) (hx : ev f x = some (.slice A n c)) (hh : ev f hi = some (.int .i64 0)) (hm : ev f mx = some (.int .i64 0)) (hT : P.underlying T = some (.slice (P.elem T))) (hs : ∃ s, (sizeOf (P.elem T)).run P w = .ok s w) :
    Runs P o f w (.slice A 0 0) w := fun e he => by
  obtain ⟨s, hs⟩ := hs
  have h1 := run_slice_hm (P := P) (w := w) T A n c hT .i64 .i64 0 0 (by omega) (by omega) (by omega)
  simp [execOp, ho, he x _ hx, he hi _ hh, he mx _ hm, run_sliceAt_slice, hT, h1, hs, sliced]
/-- An append to an empty row without room: as to nil. -/
theorem append0_eq {t ty e : TypeId} {sz bytes : Nat} (I : ElemInfo P t e sz bytes) {b ad : Addr} {n c : Nat} {news : List Value} (hl : news.length = n * sz) (hnews : ∀ j v, news[j]? = some v → w.cell? (ad.add j) = some v)
    (h0 : 0 < n) (h63 : n ≤ maxLen) (hb : n * bytes ≤ 140737488355328) :
    (Builtin.append_ #[t, t] ty #[.slice (some b) 0 0, .slice (some ad) n c]).run P w = (Builtin.append_ #[t, t] ty #[.slice none 0 0, .slice (some ad) n c]).run P w := by
  obtain ⟨i, z, h1, h2, rfl, rfl, h5⟩ := I.hi
  simp only [maxLen] at h63
  rw [run_append_nil w t ty e i z I.ht h1 h2 ad n c news hl hnews h0 (by omega) (by omega),
    run_append_grow w t ty e i z I.ht h1 h2 b 0 0 [] (by simp) (by simp) ad n c news hl hnews (by omega) (by omega) (by rw [Nat.zero_add, nextslicecap_zero h0]; omega)]
  simp
theorem Sv_append0 {α : Type} {d : Kd α} {t e : TypeId} {bytes B : Nat} {z : Z} {s x : Operand} {A A2 : Option Addr} {c2 : Nat} {ys : List α} {news : List Value} (hg : o.guard = none)
    (ho : o.op = .call { callee := .builtin .append, args := #[s, x], argTypes := #[t, t] }) (I : ElemInfo P t e d.sz bytes) (hs : ev f s = some (.slice A 0 0))
    (hx : ev f x = some (.slice A2 ys.length c2)) (hA2 : A2 = none → c2 = 0) (hr : Reps d z ys news) (hc : ∀ j u, news[j]? = some u → ∃ ad, A2 = some ad ∧ w.cell? (ad.add j) = some u) (hn : 0 < ys.length)
    (hb : ys.length * bytes ≤ 140737488355328) (hl : ys.length ≤ maxLen) (hB : B ≤ w.heap.size)
    (h : ∀ A' c' w', Own d e B z w' A' c' ys → Chg [] w w' → (∀ q ∈ blk A', w.heap.size ≤ q) → k (.slice A' ys.length c') w') : Sv P N ops Q o f w k := by
  have hnl := hr.len
  have hne : ∃ ad, A2 = some ad := by
    cases news with
    | nil =>
      exfalso
      have h1 := Nat.mul_pos hn I.pos
      rw [← hnl] at h1
      simp at h1
    | cons v r =>
      obtain ⟨ad, h1, _⟩ := hc 0 v rfl
      exact ⟨ad, h1⟩
  obtain ⟨ad, rfl⟩ := hne
  have hcell : ∀ j u, news[j]? = some u → w.cell? (ad.add j) = some u := fun j u hu => by
    obtain ⟨ad', h1, h2⟩ := hc j u hu
    obtain rfl := Option.some.inj h1
    exact h2
  have heq : (Builtin.append_ #[t, t] o.type #[.slice A 0 0, .slice (some ad) ys.length c2]).run P w = (Builtin.append_ #[t, t] o.type #[.slice none 0 0, .slice (some ad) ys.length c2]).run P w := by
    cases A with
    | none => rfl
    | some b => exact append0_eq I hnl hcell hn hl hb
  refine Sv_of_wp hg fun a ha => ?_
  obtain ⟨i, zv, h1, h2, h3, h4, h5⟩ := I.hi
  obtain ⟨inner, h6, h7⟩ := Own.nil d e B z w
  obtain ⟨v', w', hrun, h8, h9, _, h11⟩ := run_append_own_at (P := P) (w := w) B t o.type e i zv d.sz bytes I.ht h1 h2 h3 h4 h5 I.pos _ _ inner h6 ad ys.length c2 news hnl hcell hr.one (by simpa using hl) (by simpa using hb) hB
  simp only [List.length_nil, Nat.zero_add] at hrun h8
  rw [← heq] at hrun
  unfold Oper.wp execOp
  simp only [ho, resolve, invoke, builtin, Sem.run_bind, Sem.run_pure, Result.andThen_ok, List.map_toArray, List.map_cons, List.map_nil, ha.agree s _ hs, ha.agree x _ hx, hrun]
  have hv : ∃ A' c', v' = .slice A' ys.length c' := by
    rcases h8.2 with ⟨rfl, h12⟩ | ⟨g, cap, cur, rfl, _⟩
    · exact ⟨none, 0, by rw [h12]⟩
    · exact ⟨_, _, rfl⟩
  obtain ⟨A', c', rfl⟩ := hv
  have h7' : inner = [] := h7
  subst h7'
  refine ⟨_, rfl, h A' c' w' ⟨news, by simpa using h8, hr⟩ ?_ ?_⟩
  · have := Chg.grown h9
    simpa [Value.ownBlock] using this
  · intro q hq
    cases A' with
    | none => simp [blk] at hq
    | some a' =>
      simp [blk] at hq
      subst hq
      rcases h11 with h11 | h11
      · simp [Value.ownBlock] at h11
      · simp [Value.ownBlock] at h11
        omega
end
/-- A row of the call's own, or an empty one that is cut of all its room (and leads anywhere). L: the blocks that it owns. -/
def OwnZ {α : Type} (d : Kd α) (e : TypeId) (B : Nat) (z : Z) (w : World) (A : Option Addr) (c : Nat) (xs : List α) (L : List Nat) : Prop :=
  (L = blk A ∧ Own d e B z w A c xs) ∨ (L = [] ∧ xs = [] ∧ c = 0)
section
variable {α : Type} {d : Kd α} {e : TypeId} {B : Nat} {z z' : Z} {w w' : World} {A : Option Addr} {c : Nat} {xs : List α} {L : List Nat}
theorem Own.toZ (h : Own d e B z w A c xs) : OwnZ d e B z w A c xs (blk A) := .inl ⟨rfl, h⟩
theorem OwnZ.zero (d : Kd α) (e : TypeId) (B : Nat) (z : Z) (w : World) (A : Option Addr) : OwnZ d e B z w A 0 [] [] := .inr ⟨rfl, rfl, rfl⟩
theorem OwnZ.lt (h : OwnZ d e B z w A c xs L) : ∀ k ∈ L, k < w.heap.size := by
  rcases h with ⟨rfl, h⟩ | ⟨rfl, _⟩
  · exact h.lt
  · intro k hk; cases hk
theorem OwnZ.base (h : OwnZ d e B z w A c xs L) : ∀ k ∈ L, B ≤ k := by
  rcases h with ⟨rfl, h⟩ | ⟨rfl, _⟩
  · exact h.base
  · intro k hk; cases hk
theorem OwnZ.le (h : OwnZ d e B z w A c xs L) : xs.length ≤ c := by
  rcases h with ⟨rfl, h⟩ | ⟨rfl, rfl, rfl⟩
  · exact h.cap.le
  · exact Nat.le_refl _
theorem OwnZ.mx (h : OwnZ d e B z w A c xs L) : c ≤ 9223372036854775807 := by
  rcases h with ⟨rfl, h⟩ | ⟨rfl, rfl, rfl⟩
  · exact h.cap.mx
  · decide
theorem OwnZ.chg {X : List Nat} (h : OwnZ d e B z w A c xs L) (hc : Chg X w w') (hX : ∀ k ∈ L, k ∉ X) : OwnZ d e B z w' A c xs L := by
  rcases h with ⟨rfl, h⟩ | h
  · exact .inl ⟨rfl, h.chg hc hX⟩
  · exact .inr h
theorem OwnZ.chg0 (h : OwnZ d e B z w A c xs L) (hc : Chg [] w w') : OwnZ d e B z w' A c xs L := h.chg hc (by simp)
theorem OwnZ.lower {B' : Nat} (h : OwnZ d e B z w A c xs L) (hB : B' ≤ B) : OwnZ d e B' z w A c xs L := by
  rcases h with ⟨rfl, h⟩ | h
  · exact .inl ⟨rfl, h.lower hB⟩
  · exact .inr h
end
section
variable {P : Program} {N : Nat} {ops : Array Oper} {Q : Exit → Act → World → Prop} {o : Oper} {f : Fr} {w : World} {k : Value → World → Prop}
theorem Sv_appendZ {α : Type} {d : Kd α} {t e : TypeId} {bytes B : Nat} {z : Z} {s x : Operand} {A A2 : Option Addr} {c c2 : Nat} {xs ys : List α} {news : List Value} {L : List Nat} (hg : o.guard = none)
    (ho : o.op = .call { callee := .builtin .append, args := #[s, x], argTypes := #[t, t] }) (I : ElemInfo P t e d.sz bytes) (hs : ev f s = some (.slice A xs.length c)) (hO : OwnZ d e B z w A c xs L)
    (hx : ev f x = some (.slice A2 ys.length c2)) (hA2 : A2 = none → c2 = 0) (hr : Reps d z ys news) (hc : ∀ j u, news[j]? = some u → ∃ ad, A2 = some ad ∧ w.cell? (ad.add j) = some u) (hn : 0 < ys.length)
    (hb : (xs.length + ys.length) * bytes ≤ 140737488355328) (hl : xs.length + ys.length ≤ maxLen) (hB : B ≤ w.heap.size)
    (h : ∀ A' c' w', Own d e B z w' A' c' (xs ++ ys) → Chg L w w' → (∀ q ∈ blk A', q ∈ L ∨ w.heap.size ≤ q) → k (.slice A' (xs ++ ys).length c') w') : Sv P N ops Q o f w k := by
  rcases hO with ⟨rfl, hO⟩ | ⟨rfl, rfl, rfl⟩
  · exact Sv_append hg ho I hs hO hx hA2 hr hc hb hl hB h
  · refine Sv_append0 hg ho I hs hx hA2 hr hc hn (by simpa using hb) (by simpa using hl) hB (fun A' c' w' h1 h2 h3 => ?_)
    exact h A' c' w' h1 h2 (fun q hq => .inr (h3 q hq))
theorem R_bytestrZ {S T e e' : TypeId} {x : Operand} {A : Option Addr} {c B : Nat} {t : St} {L : List Nat} (ho : o.op = .convert S T x) (hx : ev f x = some (.slice A (ub t).length c)) (hS : P.underlying S = some (.slice e)) (he : P.underlying e = some (.int .u8)) (hT : P.underlying T = some .string)
    (hO : OwnZ (kint .u8) e' B zE w A c (ub t) L) : Runs P o f w (vstr t) w := by
  rcases hO with ⟨rfl, hO⟩ | ⟨rfl, h1, rfl⟩
  · obtain ⟨h1, _, h2⟩ := hO.lend (Sub.E w) (fun _ _ => rfl)
    exact R_bytestr ho hx hS he hT h2 h1 hO.cap
  · have h2 : t = [] := by simpa [ub] using h1
    subst h2
    cases A with
    | none => exact R_bytestr (z := zE) ho hx hS he hT (Rd.nil _ _ _) (Sub.E w) ⟨Nat.le_refl _, fun _ => rfl, by decide⟩
    | some a => exact R_bytestr (z := zE) ho hx hS he hT (Rd.nil _ _ _) (Sub.E w) ⟨Nat.le_refl _, fun _ => rfl, by decide⟩
end
/-! ### beside a function that is handed in -/
section
variable {P : Program} {g : Nat} {caps : List Value} {α : Type} {enc : α → List Value} {T : (Nat → Prop) → List α → World → Prop} {F F' : Nat → Prop} {l : List α} {w w' w0 : World} {X L L' : List Nat}
theorem CB.fresh (h : CB P g caps enc T) (hT : T F l w) (hb : ∀ k ∈ L, w.heap.size ≤ k) : ∀ k ∈ L, ¬ F k := fun k hk hf => by
  have := h.lt hT k hf
  have := hb k hk
  omega
theorem CB.grown (h : CB P g caps enc T) (hT : T F l w) (hL : ∀ k ∈ L, ¬ F k) (hk : ∀ q ∈ L', q ∈ L ∨ w.heap.size ≤ q) : ∀ k ∈ L', ¬ F k := fun k hk' hf => by
  rcases hk k hk' with h1 | h1
  · exact hL k h1 hf
  · have := h.lt hT k hf
    omega
theorem cb_keep (hL : ∀ k ∈ L, ¬ F k) (hlt : ∀ k ∈ L, k < w.heap.size) (hF : ∀ k, F' k → F k ∨ w.heap.size ≤ k) : ∀ k ∈ L, ¬ F' k := fun k hk hf => by
  rcases hF k hf with h1 | h1
  · exact hL k hk h1
  · have := hlt k hk
    omega
theorem cb_notin (hL : ∀ k ∈ L, ¬ F k) (hX : ∀ k ∈ X, F k) : ∀ k ∈ L, k ∉ X := fun k hk hx => hL k hk (hX k hx)
/-- What has changed since the call's begin: of the function's own blocks, and new ones. -/
def ChgF (F : Nat → Prop) (w w' : World) : Prop := ∃ X, (∀ k ∈ X, F k) ∧ Chg X w w'
theorem ChgF.refl (F : Nat → Prop) (w : World) : ChgF F w w := ⟨[], by simp, Chg.refl _ _⟩
theorem ChgF.size (h : ChgF F w w') : w.heap.size ≤ w'.heap.size := by obtain ⟨X, _, h⟩ := h; exact h.size
theorem ChgF.then (h : ChgF F w0 w) (hc : Chg X w w') (hX : ∀ k ∈ X, F k ∨ w0.heap.size ≤ k) : ChgF F w0 w' := by
  obtain ⟨Y, h1, h2⟩ := h
  refine ⟨Y ++ X.filter (fun k => decide (k < w0.heap.size)), fun k hk => ?_, (h2.trans hc).mono fun k hk => ?_⟩
  · rcases List.mem_append.1 hk with hk | hk
    · exact h1 k hk
    · obtain ⟨h3, h4⟩ := List.mem_filter.1 hk
      rcases hX k h3 with h5 | h5
      · exact h5
      · simp at h4; omega
  · rcases List.mem_append.1 hk with hk | hk
    · exact .inl (List.mem_append_left _ hk)
    · rcases Nat.lt_or_ge k w0.heap.size with h3 | h3
      · exact .inl (List.mem_append_right _ (List.mem_filter.2 ⟨hk, by simpa using h3⟩))
      · exact .inr h3
end
theorem zn_step {z0 z z' : Z} {n : Nat} {A : Option Addr} (h : ∀ b, b < n → z b = z0 b) (hN : ∀ k ∈ blk A, n ≤ k) (hn : ∀ b, b ∉ blk A → z' b = z b) : ∀ b, b < n → z' b = z0 b := fun b hb => by
  rw [hn b (fun hm => by have := hN b hm; omega)]
  exact h b hb
end Go.Proofs.YtcjaplaifmhajaaDoorG
