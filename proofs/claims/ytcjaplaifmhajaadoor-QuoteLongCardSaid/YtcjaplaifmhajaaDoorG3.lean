/- Operations on memory, one by one; regions that draw their order. -/
import Derived.Test.YtcjaplaifmhajaaDoorG2
import Derived.Laws.AppendOwnNone
import Derived.Laws.Strings
set_option linter.all false
namespace Go.Proofs.YtcjaplaifmhajaaDoorG
open Go Go.RowKit
section
variable {P : Program} {N : Nat} {ops : Array Oper} {Q : Exit → Act → World → Prop} {o : Oper} {f : Fr} {w : World} {k : Value → World → Prop}
/-! ### addresses, loads -/
theorem R_idx {T e : TypeId} {sz : Nat} {x i : Operand} {A : Option Addr} {a : Addr} {n c : Nat} {q : IntKind} {iv : Int} (ho : o.op = .indexAddr T x i) (hx : ev f x = some (.slice A n c)) (hA : A = some a) (hi : ev f i = some (.int q iv))
    (hT : P.underlying T = some (.slice e)) (hs : ∀ w, (sizeOf e).run P w = .ok sz w) (h0 : 0 ≤ iv) (h1 : iv < n) : Runs P o f w (.pointer (some (a.add (iv.toNat * sz)))) w := fun e he => by
  subst hA
  simp [execOp, ho, he x _ hx, he i _ hi, Instr.indexAt, asIntOf, run_underlying hT, h0, h1, hs]
theorem R_idxa {T e : TypeId} {sz : Nat} {x i : Operand} {a : Addr} {n : Nat} {q : IntKind} {iv : Int} (ho : o.op = .indexAddr T x i) (hx : ev f x = some (.pointer (some a))) (hi : ev f i = some (.int q iv))
    (hT : P.underlying T = some (.array n e)) (hs : ∀ w, (sizeOf e).run P w = .ok sz w) (h0 : 0 ≤ iv) (h1 : iv < n) : Runs P o f w (.pointer (some (a.add (iv.toNat * sz)))) w := fun e he => by
  simp [execOp, ho, he x _ hx, he i _ hi, Instr.indexAt, asIntOf, run_underlying hT, h0, h1, hs, Instr.sureAddr]
theorem R_fld {T : TypeId} {x : Operand} {a : Addr} {j n : Nat} (ho : o.op = .fieldAddr T x j) (hx : ev f x = some (.pointer (some a)))
    (hr : ∀ a w, (Instr.fieldAt T (.pointer (some a)) j).run P w = .ok (.pointer (some (a.add n))) w) : Runs P o f w (.pointer (some (a.add n))) w := fun e he => by
  simp [execOp, ho, he x _ hx, hr]
theorem R_load1 {T : TypeId} {x : Operand} {a : Addr} {v : Value} (ho : o.op = .load T x) (hx : ev f x = some (.pointer (some a))) (hag : ∀ w, (isAgg T).run P w = .ok false w) (hc : w.cell? a = some v) : Runs P o f w v w := fun e he => by
  simp [execOp, ho, he x _ hx, Instr.loadAt, Instr.sureAddr, loadVar, hag, hc]
theorem run_loadCells {w : World} {a : Addr} : ∀ (cs : List Value) (i : Nat) (acc : Array Value), (∀ j u, cs[j]? = some u → w.cell? (a.add (i + j)) = some u) → (loadCellsFrom a i cs.length acc).run P w = .ok (acc ++ cs.toArray) w
  | [], i, acc, h => by simp [loadCellsFrom]
  | v :: cs, i, acc, h => by
    have h0 : w.cell? (a.add i) = some v := h 0 v rfl
    have ih := run_loadCells cs (i + 1) (acc.push v) (fun j u hu => by have := h (j + 1) u (by simpa using hu); rw [show i + 1 + j = i + (j + 1) from by omega]; exact this)
    simp [loadCellsFrom, h0, ih]
theorem R_loadN {T : TypeId} {x : Operand} {a : Addr} {n : Nat} {cs : List Value} (ho : o.op = .load T x) (hx : ev f x = some (.pointer (some a))) (hag : ∀ w, (isAgg T).run P w = .ok true w) (hs : ∀ w, (sizeOf T).run P w = .ok n w)
    (hn : cs.length = n) (hc : ∀ j u, cs[j]? = some u → w.cell? (a.add j) = some u) : Runs P o f w (.agg cs.toArray) w := fun e he => by
  subst hn
  have := run_loadCells (P := P) (w := w) (a := a) cs 0 #[] (fun j u hu => by rw [Nat.zero_add]; exact hc j u hu)
  simp [execOp, ho, he x _ hx, Instr.loadAt, Instr.sureAddr, loadVar, hag, hs, loadCells, this]
/-! ### new blocks, stores -/
theorem Sv_box {T : TypeId} {cs : List Value} (hg : o.guard = none) (hr : Runs P o f w (.pointer (some ⟨w.heap.size, 0, none⟩)) (w.alloc (.cells cs.toArray T)))
    (h : ∀ b w', Chg [] w w' → w.heap.size ≤ b → Box w' b T cs → k (.pointer (some ⟨b, 0, none⟩)) w') : Sv P N ops Q o f w k :=
  Sv_val hg hr (h _ _ (Chg.alloc w _) (Nat.le_refl _) (Box.new w T cs))
theorem R_box {T : TypeId} {x : Operand} {v : Value} {cs : List Value} (ho : o.op = .box T x) (hx : ev f x = some v) (hv : v.cells = cs.toArray) : Runs P o f w (.pointer (some ⟨w.heap.size, 0, none⟩)) (w.alloc (.cells cs.toArray T)) := fun e he => by
  have : (Instr.box T v).run P w = .ok (.pointer (some ⟨w.heap.size, 0, none⟩)) (w.alloc (.cells v.cells T)) := rfl
  simp [execOp, ho, he x _ hx, this, hv]
theorem R_alloc {T : TypeId} {cs : List Value} (ho : o.op = .alloc T) (hr : ∀ w, (Instr.alloc T true (.tuple #[])).run P w = .ok (.pointer (some ⟨w.heap.size, 0, none⟩)) (w.alloc (.cells cs.toArray T))) : Runs P o f w (.pointer (some ⟨w.heap.size, 0, none⟩)) (w.alloc (.cells cs.toArray T)) := fun e _ => by
  simp [execOp, ho, hr]
theorem Sv_row {α : Type} {d : Kd α} {e : TypeId} {z : Z} {cs : List Value} {n : Nat} (xs : List α) (hg : o.guard = none) (hr : Runs P o f w (.slice (some ⟨w.heap.size, 0, none⟩) n n) (w.alloc (.cells cs.toArray e)))
    (hp : Reps d z xs cs) (hn : xs.length = n) (hm : n ≤ maxLen) (h : ∀ g w', Chg [] w w' → w.heap.size ≤ g → Own d e g z w' (some ⟨g, 0, none⟩) n xs → k (.slice (some ⟨g, 0, none⟩) xs.length n) w') : Sv P N ops Q o f w k := by
  subst hn
  exact Sv_val hg hr (h _ _ (Chg.alloc w _) (Nat.le_refl _) (Own.new hp hm _ (Nat.le_refl _)))
theorem R_buildSlice {t : TypeId} {n : Nat} {ps : List (Nat × Operand)} {xs : List Operand} {vs : List Value} {r : Value} {w' : World} (ho : o.op = .buildSlice t n ps.toArray) (hxs : ps.map (·.2) = xs) (hx : evs f xs = some vs)
    (hr : (Instr.buildSlice t n ((ps.map (·.1)).zip vs).toArray).run P w = .ok r w') : Runs P o f w r w' := fun e he => by
  have h1 : ps.map (fun p => (p.1, e p.2)) = (ps.map (·.1)).zip vs := by
    have := he.evs_ hx
    rw [← this, ← hxs]
    clear hxs ho hx hr this
    induction ps with
    | nil => rfl
    | cons p r ih => simp [ih]
  simp [execOp, ho, h1, hr]
theorem R_build {t : TypeId} {ps : List (Nat × Operand)} {xs : List Operand} {vs : List Value} {r : Value} {w' : World} (ho : o.op = .build t ps.toArray) (hxs : ps.map (·.2) = xs) (hx : evs f xs = some vs)
    (hr : (Instr.build t ((ps.map (·.1)).zip vs).toArray).run P w = .ok r w') : Runs P o f w r w' := fun e he => by
  have h1 : ps.map (fun p => (p.1, e p.2)) = (ps.map (·.1)).zip vs := by
    have := he.evs_ hx
    rw [← this, ← hxs]
    clear hxs ho hx hr this
    induction ps with
    | nil => rfl
    | cons p r ih => simp [ih]
  simp [execOp, ho, h1, hr]
def setFrom (cs : List Value) : Nat → List Value → List Value
  | _, [] => cs
  | j, v :: r => setFrom (cs.set j v) (j + 1) r
theorem run_storeBox {b : Nat} {T : TypeId} : ∀ (vs cs : List Value) (i : Nat) (w : World), Box w b T cs → (∀ u ∈ vs, u.oneCell' = true) → (∀ (a : Addr) (j : Nat), a.block = b → a.spot = none → a.off + i + vs.length ≤ cs.length → a.off = j →
    ∃ w', (storeCells a vs i).run P w = .ok () w' ∧ Chg [b] w w' ∧ Box w' b T (setFrom cs (j + i) vs))
  | [], cs, i, w, hb, h1, a, j, ha, hs, hl, hj => ⟨w, by simp [storeCells], Chg.refl _ _, by simpa [setFrom] using hb⟩
  | v :: vs, cs, i, w, hb, h1, a, j, ha, hs, hl, hj => by
    subst hj
    have hadd : a.add i = ⟨b, a.off + i, none⟩ := by
      cases a with
      | mk bb off spot =>
        simp at ha hs
        subst ha; subst hs
        unfold Addr.add
        by_cases hi : i = 0
        · subst hi; rfl
        · simp [hi]
    have hlt : a.off + i < cs.length := by simp at hl; omega
    have hcell : w.cell? (a.add i) = some cs[a.off + i] := by rw [hadd]; exact hb.cell (by simp [hlt])
    have hfr : w.frozen? (a.add i) = false := by rw [hadd]; exact hb.frozen _
    obtain ⟨w', h2, h3, h4⟩ := run_storeBox vs (cs.set (a.off + i) v) (i + 1) (w.setCell (a.add i) v) (by rw [hadd]; exact hb.set _ _) (fun u hu => h1 u (List.mem_cons_of_mem _ hu)) a a.off ha hs (by simp at hl ⊢; omega) rfl
    refine ⟨w', ?_, ?_, ?_⟩
    · simp [storeCells, run_store P w (a.add i) v _ (h1 v List.mem_cons_self), hcell, hfr, h2]
    · have h5 : Chg [b] w (w.setCell (a.add i) v) := by have := Chg.setCell w (a.add i) v; rw [hadd] at this ⊢; exact this
      exact (h5.trans h3).mono (fun k hk => .inl (by simpa using hk))
    · rw [show a.off + (i + 1) = a.off + i + 1 from by omega] at h4
      exact h4
theorem Sv_store {T T' : TypeId} {x y : Operand} {b j : Nat} {v : Value} {cs : List Value} (hg : o.guard = none) (ho : o.op = .store T x y) (hx : ev f x = some (.pointer (some ⟨b, j, none⟩))) (hy : ev f y = some v)
    (hs : ∀ w, (sizeOf T).run P w = .ok v.cells.size w) (h1 : ∀ u ∈ v.cells.toList, u.oneCell' = true) (hb : Box w b T' cs) (hl : j + v.cells.size ≤ cs.length)
    (h : ∀ w', Chg [b] w w' → Box w' b T' (setFrom cs j v.cells.toList) → k undef w') : Sv P N ops Q o f w k := by
  obtain ⟨w', h2, h3, h4⟩ := run_storeBox (P := P) v.cells.toList cs 0 w hb h1 ⟨b, j, none⟩ j rfl rfl (by simpa using hl) rfl
  refine Sv_skip hg (w' := w') (fun e he => ?_) (h w' h3 (by simpa using h4))
  simp [execOp, ho, he x _ hx, he y _ hy, Instr.storeAt, Instr.sureAddr, storeVar, hs, h2]
/-! ### append -/
structure ElemInfo (P : Program) (t e : TypeId) (sz bytes : Nat) : Prop where
  ht : P.underlying t = some (.slice e)
  hi : ∃ i z, P.info? e = some i ∧ i.zero = some z ∧ i.size = sz ∧ i.bytes = bytes ∧ z.cells.size = sz
  pos : 0 < sz
theorem ElemInfo.of {P : Program} {t e : TypeId} {sz bytes : Nat} {z : Value} (ht : P.underlying t = some (.slice e)) (hi : (P.info? e).map (fun i => (i.zero, i.size, i.bytes)) = some (some z, sz, bytes)) (hz : z.cells.size = sz) (pos : 0 < sz) : ElemInfo P t e sz bytes := by
  obtain ⟨i, h1, h2⟩ := Option.map_eq_some_iff.1 hi
  simp only [Prod.mk.injEq] at h2
  exact ⟨ht, ⟨i, z, h1, h2.1, h2.2.1, h2.2.2, hz⟩, pos⟩
theorem Sv_append {α : Type} {d : Kd α} {t e : TypeId} {bytes B : Nat} {z : Z} {s x : Operand} {A A2 : Option Addr} {c c2 : Nat} {xs ys : List α} {news : List Value} (hg : o.guard = none)
    (ho : o.op = .call { callee := .builtin .append, args := #[s, x], argTypes := #[t, t] }) (I : ElemInfo P t e d.sz bytes) (hs : ev f s = some (.slice A xs.length c)) (hO : Own d e B z w A c xs)
    (hx : ev f x = some (.slice A2 ys.length c2)) (hA2 : A2 = none → c2 = 0) (hr : Reps d z ys news) (hc : ∀ j u, news[j]? = some u → ∃ ad, A2 = some ad ∧ w.cell? (ad.add j) = some u)
    (hb : (xs.length + ys.length) * bytes ≤ 140737488355328) (hl : xs.length + ys.length ≤ maxLen) (hB : B ≤ w.heap.size)
    (h : ∀ A' c' w', Own d e B z w' A' c' (xs ++ ys) → Chg (blk A) w w' → (∀ q ∈ blk A', q ∈ blk A ∨ w.heap.size ≤ q) → k (.slice A' (xs ++ ys).length c') w') : Sv P N ops Q o f w k := by
  refine Sv_of_wp hg fun a ha => ?_
  obtain ⟨i, zv, h1, h2, h3, h4, h5⟩ := I.hi
  obtain ⟨inner, h6, h7⟩ := hO
  have hnl := hr.len
  cases A2 with
  | none =>
    have hys : ys = [] := by
      cases ys with
      | nil => rfl
      | cons y r =>
        have hp := I.pos
        have : 0 < news.length := by rw [hnl, List.length_cons]; exact Nat.lt_of_lt_of_le hp (Nat.le_mul_of_pos_left _ (by omega))
        obtain ⟨ad, h8, _⟩ := hc 0 news[0] (by simp [this])
        cases h8
    subst hys
    obtain rfl := hA2 rfl
    have hrun := run_append_owned_none (P := P) (w := w) B t o.type e i d.sz I.ht h1 _ _ inner h6
    unfold Oper.wp
    simp [execOp, ho, resolve, invoke, builtin, ha.agree s _ hs, ha.agree x _ hx, hrun, Result.andThen]
    refine ⟨_, rfl, ?_⟩
    have := h A c w (by simpa using ⟨inner, h6, h7⟩) (Chg.refl _ _) (fun q hq => .inl hq)
    simpa using this
  | some ad =>
    obtain ⟨v', w', hrun, h8, h9, _, h11⟩ := run_append_own_at (P := P) (w := w) B t o.type e i zv d.sz bytes I.ht h1 h2 h3 h4 h5 I.pos _ _ inner h6 ad ys.length c2 news hnl
      (fun j u hu => by obtain ⟨ad', h12, h13⟩ := hc j u hu; injection h12 with h12; subst h12; exact h13) hr.one hl hb hB
    unfold Oper.wp execOp
    simp only [ho, resolve, invoke, builtin, Sem.run_bind, Sem.run_pure, Result.andThen_ok, List.map_toArray, List.map_cons, List.map_nil, ha.agree s _ hs, ha.agree x _ hx, hrun]
    have hv : ∃ A' c', v' = .slice A' (xs ++ ys).length c' := by
      rw [List.length_append]
      rcases h8.2 with ⟨rfl, h12⟩ | ⟨g, cap, cur, rfl, _⟩
      · exact ⟨none, 0, by rw [h12]⟩
      · exact ⟨_, _, rfl⟩
    obtain ⟨A', c', rfl⟩ := hv
    refine ⟨_, rfl, h A' c' w' ⟨inner ++ news, by rw [List.length_append] at h8 ⊢; exact h8, h7.append hr⟩ ?_ ?_⟩
    · have := Chg.grown h9
      cases A <;> simpa [blk, Value.ownBlock] using this
    · intro q hq
      cases A' with
      | none => simp [blk] at hq
      | some a' =>
        simp [blk] at hq
        subst hq
        rcases h11 with h11 | h11
        · left
          cases A with
          | none => simp [Value.ownBlock] at h11
          | some a0 => simp [Value.ownBlock] at h11; simp [blk, h11]
        · right
          simp [Value.ownBlock] at h11
          omega
/-- The cells of a row of the call's own, at hand. -/
theorem Own.cells {α : Type} {d : Kd α} {e : TypeId} {B : Nat} {z : Z} {A : Option Addr} {c : Nat} {xs : List α} (h : Own d e B z w A c xs) :
    ∃ news, Reps d z xs news ∧ ∀ j u, news[j]? = some u → ∃ ad, A = some ad ∧ w.cell? (ad.add j) = some u := by
  obtain ⟨inner, ⟨h1, h2⟩, h3⟩ := h
  refine ⟨inner, h3, fun j u hu => ?_⟩
  rcases h2 with ⟨he, hn⟩ | ⟨g, cap, cur, he, hg, hh, hcap, hmax, hsz, htk⟩
  · have := (List.getElem?_eq_some_iff.1 hu).1
    rw [h1, hn, Nat.zero_mul] at this
    omega
  · injection he with h6
    subst h6
    refine ⟨_, rfl, ?_⟩
    rw [add_at]
    refine cell_of rfl (c := cur) (by simp [cellsAt, hh]) ?_
    rw [← htk, List.getElem?_take] at hu
    split at hu
    · simpa using hu
    · cases hu
/-- The cells of a row that is read. -/
theorem Rd.cells {α : Type} {d : Kd α} {z : Z} : ∀ {A : Option Addr} {xs : List α}, Rd d z A xs → Sub z w → ∃ news, Reps d z xs news ∧ ∀ j u, news[j]? = some u → ∃ ad, A = some ad ∧ w.cell? (ad.add j) = some u
  | A, [], h, hs => ⟨[], rfl, fun j u hu => by simp at hu⟩
  | A, x :: xs, h, hs => by
    obtain ⟨a, cs, hA, h1, h2⟩ := h 0 x rfl
    subst hA
    have hcut : Rd d z (some (a.add d.sz)) xs := by
      have := h.cut 1 (xs.length + 1)
      simpa [List.take_of_length_le] using this
    obtain ⟨news, h3, h4⟩ := Rd.cells hcut hs
    refine ⟨cs ++ news, ⟨cs, news, rfl, h1, h3⟩, fun j u hu => ⟨a, rfl, ?_⟩⟩
    have hl := d.len h1
    rw [List.getElem?_append] at hu
    split at hu
    · have := h2 j u hu
      rw [Nat.zero_mul, Nat.zero_add] at this
      exact hs.cell this
    · rename_i hge
      obtain ⟨ad, h5, h6⟩ := h4 _ u hu
      injection h5 with h5
      subst h5
      rw [add_add] at h6
      rw [show j = d.sz + (j - cs.length) from by omega]
      exact h6
end
/-! ### a region that draws its order -/
def needs (o : Oper) : List Nat := (o.after.toList.filter (fun e => Region.binds .any e)).map (·.on)
/-- The first m operations: each waits for earlier ones alone; those behind them come up when all of these have. -/
def firstB (ops : Array Oper) (m : Nat) : Bool :=
  decide (m ≤ ops.size) && (List.range ops.size).all fun j => match ops[j]? with
    | none => true
    | some o => if j < m then (needs o).all (fun i => decide (i < j)) else
        (needs o).any (fun i => decide (m ≤ i) && decide (i < ops.size)) || (List.range m).all (fun i => (needs o).contains i || (List.range m).any fun i' => decide (i < i') && match ops[i']? with
          | none => false
          | some o' => (needs o').contains i)
section
variable {P : Program} {N : Nat} {ops : Array Oper} {Q : Exit → Act → World → Prop} {w : World}
/-- Any order from here on. -/
def An (P : Program) (N : Nat) (ops : Array Oper) (Q : Exit → Act → World → Prop) (n : Nat) (l : Array Bool) (f : Fr) (w : World) : Prop := ∀ a, Holds N f a → wpAny P .any ops Q n l a w
theorem ready_iff {l : Array Bool} {j : Nat} : j ∈ Region.ready .any ops l ↔ ∃ o, ops[j]? = some o ∧ l.getD j true = false ∧ ∀ i ∈ needs o, l.getD i false = true := by
  unfold Region.ready
  rw [List.mem_filter, List.mem_range]
  constructor
  · rintro ⟨h1, h2⟩
    simp only [Bool.and_eq_true, Bool.not_eq_true'] at h2
    obtain ⟨h2, h3⟩ := h2
    have ho : ops[j]? = some ops[j] := by simp [h1]
    refine ⟨_, ho, h2, fun i hi => ?_⟩
    rw [ho] at h3
    simp only [Option.map_some, Option.getD_some, Array.all_eq_true] at h3
    unfold needs at hi
    rw [List.mem_map] at hi
    obtain ⟨e, he, rfl⟩ := hi
    rw [List.mem_filter] at he
    obtain ⟨n, hn, hne⟩ := List.getElem_of_mem he.1
    have := h3 n (by simpa using hn)
    simp only [Array.getElem_toList] at hne
    rw [hne] at this
    simpa [he.2] using this
  · rintro ⟨o, ho, h2, h3⟩
    refine ⟨(Array.getElem?_eq_some_iff.1 ho).1, ?_⟩
    rw [ho, h2]
    simp only [Bool.not_false, Option.map_some, Option.getD_some, Bool.true_and, Array.all_eq_true]
    intro n hn
    cases hb : Region.binds .any o.after[n] with
    | false => simp
    | true =>
      simp only [Bool.not_true, Bool.false_or]
      refine h3 _ ?_
      unfold needs
      rw [List.mem_map]
      exact ⟨o.after[n], List.mem_filter.2 ⟨by simp, hb⟩, rfl⟩
/-- The slots of some operations. -/
def slots (d : Nat → Nat) (V : Nat → Value) : List Nat → Fr → Fr
  | [], f => f
  | i :: r, f => (d i, V i) :: slots d V r f
theorem look_slots {d : Nat → Nat} {V : Nat → Value} {f : Fr} {s : Nat} {v : Value} : ∀ {l : List Nat}, look (slots d V l f) s = some v → (∃ i ∈ l, d i = s ∧ V i = v) ∨ look f s = some v
  | [], h => .inr h
  | i :: r, h => by
    unfold slots at h
    rw [look_cons] at h
    by_cases hi : d i = s
    · rw [if_pos hi] at h
      exact .inl ⟨i, List.mem_cons_self, hi, Option.some.inj h⟩
    · rw [if_neg hi] at h
      rcases look_slots h with ⟨j, h1, h2⟩ | h1
      · exact .inl ⟨j, List.mem_cons_of_mem _ h1, h2⟩
      · exact .inr h1
def doneArr (n m : Nat) : Array Bool := ((List.range n).map fun i => decide (i < m)).toArray
/-- **A region that draws its order:** the first m operations only add to memory; what each yields is told by Φ, which stays. Each is shown from what it waits for; then the rest. -/
theorem C_draw {id : Nat} {f : Fr} (m n : Nat) (d : Nat → Nat) (hm : P.follows .mixedOrders = true) (hn : ops.size = n) (hB : firstB ops m = true)
    (hd : ∀ i, i < m → (ops[i]?).map (·.dst) = some (some (d i))) (hdd : ∀ i j, i < m → j < m → d i = d j → i = j) (hdf : ∀ i, i < m → look f (d i) = none) (hdN : ∀ i, i < m → d i < N)
    (Φ : Nat → Value → World → Prop) (mono : ∀ i v w w', Φ i v w → Chg [] w w' → Φ i v w')
    (step : ∀ i, i < m → ∀ o, ops[i]? = some o → ∀ (V : Nat → Value) w', Chg [] w w' → (∀ j ∈ needs o, Φ j (V j) w') → Sv P N ops Q o (slots d V (needs o) f) w' (fun v w'' => Chg [] w' w'' ∧ Φ i v w''))
    (rest : ∀ (V : Nat → Value) w', Chg [] w w' → (∀ i, i < m → Φ i (V i) w') → An P N ops Q (n - m) (doneArr n m) (slots d V (List.range m) f) w') :
    C P N Q (.region id ops true) f w := by
  subst hn
  intro a ha
  simp only [firstB, Bool.and_eq_true, decide_eq_true_eq, List.all_eq_true] at hB
  obtain ⟨hms, hB⟩ := hB
  have hlow : ∀ j o, ops[j]? = some o → j < m → ∀ i ∈ needs o, i < j := by
    intro j o ho hj i hi
    have h1 := hB j (List.mem_range.2 (Array.getElem?_eq_some_iff.1 ho).1)
    rw [ho] at h1
    simp only [if_pos hj, List.all_eq_true, decide_eq_true_eq] at h1
    exact h1 i hi
  refine wp_region_any hm ?_
  have key : ∀ (c : Nat) (l : Array Bool) (a : Act) (w' : World), l.size = ops.size → (∀ j, m ≤ j → j < ops.size → l.getD j true = false) →
      ((List.range m).filter (fun i => !l.getD i true)).length = c →
      (∀ j o, ops[j]? = some o → j < m → l.getD j false = true → ∀ i ∈ needs o, l.getD i false = true) →
      Chg [] w w' → Holds N f a → (∀ i, i < m → l.getD i false = true → ∃ v, a.tmps[d i]? = some v ∧ Φ i v w') →
      wpAny P .any ops Q (c + (ops.size - m)) l a w' := by
    intro c
    induction c with
    | zero =>
      intro l a w' hls hrest hc hcl hchg hh hall
      have hdone : ∀ i, i < m → l.getD i false = true := by
        intro i hi
        have : i ∉ (List.range m).filter (fun i => !l.getD i true) := by rw [List.eq_nil_of_length_eq_zero hc]; simp
        simp only [List.mem_filter, List.mem_range, Bool.not_eq_true', not_and, Bool.not_eq_false] at this
        have h1 := this hi
        have h2 : i < l.size := by omega
        simp [h2] at h1 ⊢
        exact h1
      have hl : l = doneArr ops.size m := by
        apply Array.ext
        · simp [doneArr, hls]
        · intro i h1 h2
          simp only [doneArr, List.getElem_toArray, List.getElem_map, List.getElem_range]
          by_cases him : i < m
          · have := hdone i him
            simp [h1] at this
            simp [this, him]
          · have := hrest i (by omega) (by omega)
            simp [h1] at this
            simp [this, him]
      rw [Nat.zero_add]
      let V : Nat → Value := fun i => a.tmps.getD (d i) undef
      have hV : ∀ i, i < m → a.tmps[d i]? = some (V i) ∧ Φ i (V i) w' := by
        intro i hi
        obtain ⟨v, h1, h2⟩ := hall i hi (hdone i hi)
        have : V i = v := by simp [V, h1]
        rw [this]
        exact ⟨h1, h2⟩
      have := rest V w' hchg (fun i hi => (hV i hi).2) a ⟨hh.defers, hh.size, fun s v hs => by
        rcases look_slots hs with ⟨i, h1, rfl, rfl⟩ | h1
        · exact (hV i (List.mem_range.1 h1)).1
        · exact hh.at_ s v h1⟩
      rw [hl]
      exact this
    | succ c ih =>
      intro l a w' hls hrest hc hcl hchg hh hall
      -- one of the first is not up yet
      have hex : ∃ i, i < m ∧ l.getD i true = false := by
        cases hq : (List.range m).filter (fun i => !l.getD i true) with
        | nil => rw [hq] at hc; simp at hc
        | cons i r =>
          have : i ∈ (List.range m).filter (fun i => !l.getD i true) := by rw [hq]; exact List.mem_cons_self
          simp only [List.mem_filter, List.mem_range, Bool.not_eq_true'] at this
          exact ⟨i, this⟩
      have hfin : ∀ i, i < m → l.getD i true = false → l.getD i false = false := by
        intro i hi h
        have h2 : i < l.size := by omega
        simp [h2] at h ⊢
        exact h
      have htf : ∀ i, i < m → l.getD i true ≠ false → l.getD i false = true := by
        intro i hi h
        have h2 : i < l.size := by omega
        simp [h2] at h ⊢
        exact h
      -- the least of them is ready
      have hready : ∀ i, i < m → l.getD i true = false → ∃ j, j ∈ Region.ready .any ops l := by
        intro i
        induction i using Nat.strongRecOn with
        | ind i ihi =>
          intro hi hu
          have ho : ops[i]? = some ops[i] := by simp
          by_cases hb : ∃ q ∈ needs ops[i], l.getD q false ≠ true
          · obtain ⟨q, hq, hne⟩ := hb
            have hqi := hlow i _ ho hi q hq
            refine ihi q hqi (by omega) ?_
            cases hqq : l.getD q true with
            | false => rfl
            | true => exact absurd (htf q (by omega) (by rw [hqq]; simp)) hne
          · refine ⟨i, ready_iff.2 ⟨_, ho, hu, fun q hq => ?_⟩⟩
            by_cases hqq : l.getD q false = true
            · exact hqq
            · exact absurd ⟨q, hq, hqq⟩ hb
      -- whatever is ready is one of the first
      have hfirst : ∀ j, j ∈ Region.ready .any ops l → j < m := by
        intro j hj
        obtain ⟨o, ho, hu, hn⟩ := ready_iff.1 hj
        rcases Nat.lt_or_ge j m with h | h
        · exact h
        · exfalso
          have hjs := (Array.getElem?_eq_some_iff.1 ho).1
          have h1 := hB j (List.mem_range.2 hjs)
          rw [ho] at h1
          simp only [if_neg (show ¬ j < m by omega), Bool.or_eq_true, List.any_eq_true, Bool.and_eq_true, decide_eq_true_eq, List.all_eq_true] at h1
          rcases h1 with ⟨q, hq, hmq, hqs⟩ | h1
          · have h2 := hn q hq
            have h3 := hrest q hmq hqs
            have h4 : q < l.size := by omega
            simp [h4] at h2 h3
            rw [h2] at h3
            cases h3
          · -- an unlisted one: walk up to one that j waits for
            obtain ⟨i, hi, hu'⟩ := hex
            have up : ∀ (t i : Nat), m - i = t → i < m → l.getD i true = false → False := by
              intro t
              induction t using Nat.strongRecOn with
              | ind t iht =>
                intro i ht hi hu'
                rcases h1 i (List.mem_range.2 hi) with h2 | ⟨i', hi', h2, h3⟩
                · have := hn i (by simpa using h2)
                  rw [hfin i hi hu'] at this
                  cases this
                · have him' := List.mem_range.1 hi'
                  cases ho' : ops[i']? with
                  | none => rw [ho'] at h3; cases h3
                  | some o' =>
                    rw [ho'] at h3
                    refine iht (m - i') (by omega) i' rfl him' ?_
                    cases hq : l.getD i' true with
                    | false => rfl
                    | true =>
                      have h4 := htf i' him' (by rw [hq]; simp)
                      have h5 := hcl i' o' ho' him' h4 i (by simpa using h3)
                      rw [hfin i hi hu'] at h5
                      cases h5
            exact up _ i rfl hi hu'
      rw [show c + 1 + (ops.size - m) = c + (ops.size - m) + 1 from by omega]
      refine ⟨fun h0 => ?_, fun i hi => ?_⟩
      · obtain ⟨i, h1, h2⟩ := hex
        obtain ⟨j, hj⟩ := hready i h1 h2
        rw [h0] at hj
        cases hj
      · have him := hfirst i hi
        obtain ⟨o, ho, hu, hn⟩ := ready_iff.1 hi
        let V : Nat → Value := fun j => a.tmps.getD (d j) undef
        have hV : ∀ j, j < m → l.getD j false = true → a.tmps[d j]? = some (V j) ∧ Φ j (V j) w' := by
          intro j hj hl
          obtain ⟨v, h1, h2⟩ := hall j hj hl
          have : V j = v := by simp [V, h1]
          rw [this]
          exact ⟨h1, h2⟩
        have hs := step i him o ho V w' hchg (fun j hj => (hV j (by have := hlow i o ho him j hj; omega) (hn j hj)).2)
        have hs' := hs a ⟨hh.defers, hh.size, fun s v hs => by
          rcases look_slots hs with ⟨j, h1, rfl, rfl⟩ | h1
          · exact (hV j (by have := hlow i o ho him j h1; omega) (hn j h1)).1
          · exact hh.at_ s v h1⟩
        unfold wpOp
        rw [ho]
        unfold Op1 at hs'
        have hdi : o.dst = some (d i) := by
          have := hd i him
          rw [ho] at this
          simpa using this
        have fin : ∀ a' w'', (∃ v, a' = a.put o.dst v ∧ Chg [] w' w'' ∧ Φ i v w'') → wpAny P .any ops Q (c + (ops.size - m)) (l.setIfInBounds i true) a' w'' := by
          rintro a' w'' ⟨v, rfl, h1, h2⟩
          have hilt : i < l.size := by omega
          have hget : ∀ j, j ≠ i → ∀ b, (l.setIfInBounds i true).getD j b = l.getD j b := fun j hj b => getD_set_ne b (Ne.symm hj)
          have hgi : ∀ b, (l.setIfInBounds i true).getD i b = true := by
            intro b
            simp [hilt]
          rw [hdi]
          refine ih _ _ w'' (by simp [hls]) ?_ ?_ ?_ (hchg.then h1 (by simp)) ?_ ?_
          · intro j h3 h4
            rw [hget j (by omega)]
            exact hrest j h3 h4
          · have hc2 : ((List.range m).filter (fun q => !l.getD q true)) = (List.range m).filter (fun q => !l.getD q true) := rfl
            have hnd : ((List.range m).filter (fun q => !l.getD q true)).Nodup := List.Pairwise.filter _ List.nodup_range
            have hmem : i ∈ (List.range m).filter (fun q => !l.getD q true) := by simp only [List.mem_filter, List.mem_range, Bool.not_eq_true']; exact ⟨him, hu⟩
            have heq : (List.range m).filter (fun q => !(l.setIfInBounds i true).getD q true) = ((List.range m).filter (fun q => !l.getD q true)).erase i := by
              rw [hnd.erase_eq_filter, List.filter_filter]
              refine List.filter_congr fun q _ => ?_
              by_cases hq : q = i
              · subst hq; simp [hgi]
              · simp [hget q hq, hq]
            rw [heq, List.length_erase_of_mem hmem, hc]
            rfl
          · intro j o' ho' hj hl' q hq
            by_cases hji : j = i
            · subst hji
              rw [ho] at ho'
              obtain rfl := Option.some.inj ho'
              have hqn : q ≠ j := by have := hlow j o ho hj q hq; omega
              rw [hget q hqn]
              exact hn q hq
            · rw [hget j hji] at hl'
              by_cases hqi : q = i
              · subst hqi; exact hgi _
              · rw [hget q hqi]
                exact hcl j o' ho' hj hl' q hq
          · have h3 := hh.put (hdN i him) v
            refine h3.le fun s u hs => ?_
            rw [look_cons]
            by_cases hsd : d i = s
            · subst hsd; rw [hdf i him] at hs; cases hs
            · rw [if_neg hsd]; exact hs
          · intro j hj hl'
            by_cases hji : j = i
            · subst hji
              refine ⟨v, ?_, h2⟩
              have := (hh.put (hdN j hj) v).at_ (d j) v look_hit
              exact this
            · rw [hget j hji] at hl'
              obtain ⟨u, h3, h4⟩ := hall j hj hl'
              refine ⟨u, ?_, mono _ _ _ _ h4 h1⟩
              have hne : d i ≠ d j := fun h => hji (hdd i j him hj h).symm
              simp only [Act.put, Array.getElem?_setIfInBounds, if_neg hne]
              exact h3
        split at hs'
        · rename_i hwant
          simp only [hwant, if_true]
          exact hs'.imp (Oper.wp_mono fun a' w'' h => fin a' w'' h) (fun h => h)
        · rename_i hwant
          simp only [hwant, Bool.false_eq_true, if_false]
          exact fin _ _ hs'
  have hinit := key m (Array.replicate ops.size false) a { w with drawn := w.drawn + 1 } (by simp)
    (fun j _ hj => by simp [hj]) (by
      rw [List.filter_eq_self.2]
      · simp
      · intro i hi
        have : i < ops.size := by have := List.mem_range.1 hi; omega
        simp [this])
    (fun j o ho hj h => by
      have : j < ops.size := by omega
      simp [this] at h)
    (Chg.drew w) ha (fun i hi h => by
      have : i < ops.size := by omega
      simp [this] at h)
  rw [show m + (ops.size - m) = ops.size from by omega] at hinit
  exact hinit
/-- The same with lists: what each waits for, and what each yields. -/
def allN (Φ : List (Value → World → Prop)) (V : Nat → Value) (w : World) : List Nat → Prop
  | [] => True
  | i :: r => Φ.getD i (fun _ _ => False) (V i) w ∧ allN Φ V w r
theorem allN_of {Φ : List (Value → World → Prop)} {V : Nat → Value} {w : World} : ∀ {l : List Nat}, (∀ i ∈ l, Φ.getD i (fun _ _ => False) (V i) w) → allN Φ V w l
  | [], _ => trivial
  | i :: r, h => ⟨h i List.mem_cons_self, allN_of fun j hj => h j (List.mem_cons_of_mem _ hj)⟩
def drawSteps (P : Program) (N : Nat) (ops : Array Oper) (Q : Exit → Act → World → Prop) (d : Nat → Nat) (f : Fr) (w : World) (Φ : List (Value → World → Prop)) : Nat → List (List Nat) → List Oper → Prop
  | _, [], _ => True
  | _, _ :: _, [] => False
  | i, ds :: r, o :: os => (∀ (V : Nat → Value) w', Chg [] w w' → allN Φ V w' ds → Sv P N ops Q o (slots d V ds f) w' (fun v w'' => Chg [] w' w'' ∧ Φ.getD i (fun _ _ => False) v w'')) ∧ drawSteps P N ops Q d f w Φ (i + 1) r os
theorem drawSteps_at {d : Nat → Nat} {f : Fr} {Φ : List (Value → World → Prop)} : ∀ {r : List (List Nat)} {os : List Oper} {i : Nat}, drawSteps P N ops Q d f w Φ i r os → ∀ (j : Nat) (ds : List Nat) (o : Oper), r[j]? = some ds → os[j]? = some o →
    (∀ (V : Nat → Value) w', Chg [] w w' → allN Φ V w' ds → Sv P N ops Q o (slots d V ds f) w' (fun v w'' => Chg [] w' w'' ∧ Φ.getD (i + j) (fun _ _ => False) v w''))
  | [], _, _, _, _, _, _, h1, _ => by simp at h1
  | _ :: _, [], _, h, _, _, _, _, _ => by simp [drawSteps] at h
  | ds0 :: r, o0 :: os, i, h, 0, ds, o, h1, h2 => by
    simp at h1 h2
    subst h1
    subst h2
    exact h.1
  | ds0 :: r, o0 :: os, i, h, j + 1, ds, o, h1, h2 => by
    have := drawSteps_at h.2 j ds o (by simpa using h1) (by simpa using h2)
    rw [show i + (j + 1) = i + 1 + j from by omega]
    exact this
def monoAll : List (Value → World → Prop) → Prop
  | [] => True
  | φ :: r => (∀ v w w', φ v w → Chg [] w w' → φ v w') ∧ monoAll r
theorem monoAll_at : ∀ {Φ : List (Value → World → Prop)}, monoAll Φ → ∀ i v w w', Φ.getD i (fun _ _ => False) v w → Chg [] w w' → Φ.getD i (fun _ _ => False) v w'
  | [], _, i, v, w, w', h, _ => by simp at h
  | φ :: r, hm, 0, v, w, w', h, hc => hm.1 v w w' h hc
  | φ :: r, hm, i + 1, v, w, w', h, hc => by
    simp only [List.getD_cons_succ] at h ⊢
    exact monoAll_at hm.2 i v w w' h hc
theorem look_none {q : Nat} : ∀ {f : Fr}, (f.map (·.1)).contains q = false → look f q = none
  | [], _ => rfl
  | p :: r, h => by
    simp at h
    rw [look_cons, if_neg (fun h' => h.1 h'.symm)]
    exact look_none (by simpa using h.2)
/-- All the closed conditions at once. -/
def drawB (N n : Nat) (ops : Array Oper) (f : List Nat) (ds : List (List Nat)) (dst : List Nat) : Bool :=
  (ops.size == n) && firstB ops ds.length && (dst.length == ds.length) && ((List.range ds.length).all fun i => match ops[i]? with
    | none => false
    | some o => (o.dst == some (dst.getD i 0)) && (needs o == ds.getD i []) && decide (dst.getD i 0 < N) && !f.contains (dst.getD i 0)) && decide dst.Nodup
theorem C_drawL {id : Nat} {f : Fr} (n : Nat) (ds : List (List Nat)) (dst : List Nat) (hm : P.follows .mixedOrders = true) (hB : drawB N n ops (f.map (·.1)) ds dst = true)
    (Φ : List (Value → World → Prop)) (mono : monoAll Φ) (step : drawSteps P N ops Q (fun i => dst.getD i 0) f w Φ 0 ds ops.toList)
    (rest : ∀ (V : Nat → Value) w', Chg [] w w' → allN Φ V w' (List.range ds.length) → An P N ops Q (n - ds.length) (doneArr n ds.length) (slots (fun i => dst.getD i 0) V (List.range ds.length) f) w') :
    C P N Q (.region id ops true) f w := by
  simp only [drawB, Bool.and_eq_true, beq_iff_eq, List.all_eq_true, decide_eq_true_eq] at hB
  obtain ⟨⟨⟨⟨h1, h2⟩, h3⟩, h4⟩, h5⟩ := hB
  have hat : ∀ i, i < ds.length → ∃ o, ops[i]? = some o ∧ o.dst = some (dst.getD i 0) ∧ needs o = ds.getD i [] ∧ dst.getD i 0 < N ∧ look f (dst.getD i 0) = none := by
    intro i hi
    have := h4 i (List.mem_range.2 hi)
    cases ho : ops[i]? with
    | none => rw [ho] at this; cases this
    | some o =>
      rw [ho] at this
      simp only [Bool.and_eq_true, beq_iff_eq, decide_eq_true_eq, Bool.not_eq_true'] at this
      obtain ⟨⟨⟨g1, g2⟩, g3⟩, g4⟩ := this
      refine ⟨o, rfl, g1, g2, g3, ?_⟩
      exact look_none g4
  refine C_draw ds.length n (fun i => dst.getD i 0) hm h1 h2 ?_ ?_ ?_ ?_ (fun i => Φ.getD i (fun _ _ => False)) (fun i v w w' => monoAll_at mono i v w w') ?_ ?_
  · intro i hi
    obtain ⟨o, ho, hd, _⟩ := hat i hi
    rw [ho]
    simp [hd]
  · intro i j hi hj he
    have hi' : i < dst.length := by omega
    have hj' : j < dst.length := by omega
    simp only [List.getD_eq_getElem?_getD, List.getElem?_eq_getElem hi', List.getElem?_eq_getElem hj', Option.getD_some] at he
    exact (List.getElem_inj h5).1 he
  · intro i hi
    obtain ⟨o, _, _, _, _, h⟩ := hat i hi
    exact h
  · intro i hi
    obtain ⟨o, _, _, _, h, _⟩ := hat i hi
    exact h
  · intro i hi o ho V w' hc hn
    obtain ⟨o', ho', _, hne, _⟩ := hat i hi
    rw [ho] at ho'
    obtain rfl := Option.some.inj ho'
    have := drawSteps_at step i (ds.getD i []) o (by simp [List.getD, hi]) (by simpa using ho) V w' hc (allN_of (by rw [← hne]; exact hn))
    rw [hne]
    simpa using this
  · intro V w' hc hn
    exact rest V w' hc (allN_of fun i hi => hn i (List.mem_range.1 hi))
/-- For all values that meet what some operations yield. -/
def stepN (Φ : List (Value → World → Prop)) (w : World) (d : Nat → Nat) (f : Fr) : List Nat → (Fr → Prop) → Prop
  | [], G => G f
  | i :: r, G => ∀ v, Φ.getD i (fun _ _ => False) v w → stepN Φ w d f r (fun g => G ((d i, v) :: g))
theorem stepN_at {Φ : List (Value → World → Prop)} {w : World} {d : Nat → Nat} {f : Fr} {V : Nat → Value} : ∀ {l : List Nat} {G : Fr → Prop}, stepN Φ w d f l G → allN Φ V w l → G (slots d V l f)
  | [], G, h, _ => h
  | i :: r, G, h, hn => stepN_at (G := fun g => G ((d i, V i) :: g)) (h (V i) hn.1) hn.2
def drawS (P : Program) (N : Nat) (ops : Array Oper) (Q : Exit → Act → World → Prop) (d : Nat → Nat) (f : Fr) (w : World) (Φ : List (Value → World → Prop)) : Nat → List (List Nat) → List Oper → Prop
  | _, [], _ => True
  | _, _ :: _, [] => False
  | i, ds :: r, o :: os => (∀ w', Chg [] w w' → stepN Φ w' d f ds (fun g => Sv P N ops Q o g w' (fun v w'' => Chg [] w' w'' ∧ Φ.getD i (fun _ _ => False) v w''))) ∧ drawS P N ops Q d f w Φ (i + 1) r os
theorem drawS_steps {d : Nat → Nat} {f : Fr} {Φ : List (Value → World → Prop)} : ∀ {r : List (List Nat)} {os : List Oper} {i : Nat}, drawS P N ops Q d f w Φ i r os → drawSteps P N ops Q d f w Φ i r os
  | [], _, _, _ => trivial
  | _ :: _, [], _, h => h.elim
  | _ :: _, _ :: _, _, h => ⟨fun _ w' hc hn => stepN_at (h.1 w' hc) hn, drawS_steps h.2⟩
theorem C_drawn {id : Nat} {f : Fr} (n : Nat) (ds : List (List Nat)) (dst fs : List Nat) (hf : f.map (·.1) = fs) (hm : P.follows .mixedOrders = true) (hB : drawB N n ops fs ds dst = true)
    (Φ : List (Value → World → Prop)) (mono : monoAll Φ) (step : drawS P N ops Q (fun i => dst.getD i 0) f w Φ 0 ds ops.toList)
    (rest : ∀ w', Chg [] w w' → stepN Φ w' (fun i => dst.getD i 0) f (List.range ds.length) (fun g => An P N ops Q (n - ds.length) (doneArr n ds.length) g w')) :
    C P N Q (.region id ops true) f w :=
  C_drawL n ds dst hm (hf ▸ hB) Φ mono (drawS_steps step) fun _ w' hc hn => stepN_at (rest w' hc) hn
theorem cell_chg0 {w w' : World} {a : Addr} {u : Value} (h : w.cell? a = some u) (hc : Chg [] w w') : w'.cell? a = some u := by
  have hlt : a.block < w.heap.size := by
    unfold World.cell? at h
    split at h
    · rename_i hh; exact (Array.getElem?_eq_some_iff.1 hh).1
    · cases h
  rw [World.cell?_of_block (hc.block _ hlt (by simp))]
  exact h
theorem cell0 {w : World} {a : Addr} {u : Value} (h : w.cell? (a.add 0) = some u) : w.cell? a = some u := by rwa [add_zero] at h
theorem An_fr (g : Fr) {n : Nat} {l : Array Bool} {f : Fr} (hg : sub (g.map (·.1)) f = g) (h : An P N ops Q n l g w) : An P N ops Q n l f w := fun a ha => h a (by have := ha.sub (g.map (·.1)); rwa [hg] at this)
/-- One operation alone may come up. -/
theorem An_one {n i d : Nat} {l : Array Bool} {o : Oper} {f : Fr} (hr : Region.ready .any ops l = [i]) (ho : ops[i]? = some o) (hd : o.dst = some d) (hN : d < N)
    (h : Sv P N ops Q o f w (fun v w' => An P N ops Q n (l.setIfInBounds i true) ((d, v) :: f) w')) : An P N ops Q (n + 1) l f w := by
  intro a ha
  refine wpAny_all hr (by simp) fun j hj => ?_
  rw [List.mem_singleton.1 hj]
  have := h a ha
  unfold wpOp
  rw [ho]
  unfold Op1 at this
  split at this
  · rename_i hw; simp only [hw, if_true]
    exact this.imp (Oper.wp_mono fun a' w' ⟨v, h1, h2⟩ => h1 ▸ h2 _ (hd ▸ ha.put hN v)) id
  · rename_i hw; simp only [hw]
    obtain ⟨v, h1, h2⟩ := this
    simpa using h1 ▸ h2 _ (hd ▸ ha.put hN v)
theorem An_one0 {n i : Nat} {l : Array Bool} {o : Oper} {f : Fr} (hr : Region.ready .any ops l = [i]) (ho : ops[i]? = some o) (hd : o.dst = none)
    (h : Sv P N ops Q o f w (fun _ w' => An P N ops Q n (l.setIfInBounds i true) f w')) : An P N ops Q (n + 1) l f w := by
  intro a ha
  refine wpAny_all hr (by simp) fun j hj => ?_
  rw [List.mem_singleton.1 hj]
  have := h a ha
  unfold wpOp
  rw [ho]
  unfold Op1 at this
  split at this
  · rename_i hw; simp only [hw, if_true]
    exact this.imp (Oper.wp_mono fun a' w' ⟨v, h1, h2⟩ => h1 ▸ h2 _ (hd ▸ ha)) id
  · rename_i hw; simp only [hw]
    obtain ⟨v, h1, h2⟩ := this
    simpa using h1 ▸ h2 _ (hd ▸ ha)
theorem An_done {n : Nat} {l : Array Bool} {f : Fr} (hr : Region.ready .any ops l = []) (h : E N Q .normal f w) : An P N ops Q n l f w := fun a ha => wpAny_done hr (h a ha) n
end
end Go.Proofs.YtcjaplaifmhajaaDoorG
