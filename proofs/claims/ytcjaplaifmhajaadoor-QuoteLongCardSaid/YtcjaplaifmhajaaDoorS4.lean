/- Cuts of rows, rows that are cleared, methods of interfaces. -/
import Derived.Test.YtcjaplaifmhajaaDoorS3
set_option linter.all false
namespace Go.Proofs.YtcjaplaifmhajaaDoorG
open Go Go.RowKit
section
variable {P : Program} {N : Nat} {ops : Array Oper} {Q : Exit → Act → World → Prop} {o : Oper} {f : Fr} {w w0 : World} {k : Value → World → Prop} {X : Nat → Prop} {z : Z} {rs : List Res}
/-! ### cuts -/
theorem Rd.take {α : Type} {d : Kd α} {z : Z} {A : Option Addr} {xs : List α} (h : Rd d z A xs) (n : Nat) : Rd d z A (xs.take n) := fun i x hx => by
  rw [List.getElem?_take] at hx
  split at hx
  · exact h i x hx
  · cases hx
theorem Cap.take {α : Type} {A : Option Addr} {c : Nat} {xs : List α} (h : Cap A xs.length c) (n : Nat) : Cap A (xs.take n).length c := ⟨Nat.le_trans (by rw [List.length_take]; omega) h.le, h.nil, h.mx⟩
theorem R_cuth {α : Type} {T : TypeId} {x hi : Operand} {A : Option Addr} {c sz : Nat} {xs : List α} {j : Int} (ho : o.op = .slice T x none (some hi) none) (hx : ev f x = some (.slice A xs.length c)) (hh : ev f hi = some (.int .i64 j))
    (hT : P.underlying T = some (.slice (P.elem T))) (hs : (sizeOf (P.elem T)).run P w = .ok sz w) (hc : Cap A xs.length c) (h0 : 0 ≤ j) (h1 : j ≤ xs.length) : Runs P o f w (.slice A (xs.take j.toNat).length c) w := fun e he => by
  have h2 := hc.le
  have h3 := run_slice_h (P := P) (w := w) T A xs.length c hT .i64 j h0 (by omega)
  have h4 : (xs.take j.toNat).length = j.toNat := by rw [List.length_take]; omega
  simp [execOp, ho, he x _ hx, he hi _ hh, run_sliceAt_slice, hT, h3, hs, sliced]
  constructor
  · cases A <;> simp [Addr.add]
  · omega
theorem R_cutl {α : Type} {d : Kd α} {T : TypeId} {x lo : Operand} {A : Option Addr} {c : Nat} {xs : List α} {i : Int} (ho : o.op = .slice T x (some lo) none none) (hx : ev f x = some (.slice A xs.length c)) (hl : ev f lo = some (.int .i64 i))
    (hT : P.underlying T = some (.slice (P.elem T))) (hs : ∀ w, (sizeOf (P.elem T)).run P w = .ok d.sz w) (hc : Cap A xs.length c) (hr : Rd d z A xs) (h0 : 0 ≤ i) (h1 : i ≤ xs.length) :
    ∃ A' c', (∀ w, Runs P o f w (.slice A' (xs.drop i.toNat).length c') w) ∧ Cap A' (xs.drop i.toNat).length c' ∧ Rd d z A' (xs.drop i.toNat) := by
  have h2 := hc.le
  have h4 : (xs.drop i.toNat).length = xs.length - i.toNat := List.length_drop
  refine ⟨if c = i.toNat then A else A.map (·.add (i.toNat * d.sz)), c - i.toNat, fun w e he => ?_, ⟨by omega, fun h => ?_, by have := hc.mx; omega⟩, ?_⟩
  · have h3 := run_slice_l (P := P) (w := w) T A xs.length c hT .i64 i h0 h1
    simp [execOp, ho, he x _ hx, he lo _ hl, run_sliceAt_slice, hT, h3, hs, sliced]
  · split at h
    · omega
    · have : A = none := by cases A <;> simp_all
      have := hc.nil this
      omega
  · by_cases he : c = i.toNat
    · have : xs.drop i.toNat = [] := List.drop_eq_nil_of_le (by omega)
      rw [this]
      exact Rd.nil _ _ _
    · rw [if_neg he]
      have := hr.cut i.toNat xs.length
      rwa [List.take_length] at this
/-- nil, cut ahead of nothing. -/
theorem R_cutnil {T : TypeId} {x hi : Operand} {sz : Nat} (ho : o.op = .slice T x none (some hi) none) (hx : ev f x = some (.slice none 0 0)) (hh : ev f hi = some (.int .i64 0))
    (hT : P.underlying T = some (.slice (P.elem T))) (hs : (sizeOf (P.elem T)).run P w = .ok sz w) : Runs P o f w (.slice none 0 0) w := fun e he => by
  have h3 := run_slice_h (P := P) (w := w) T none 0 0 hT .i64 0 (by omega) (by omega)
  simp [execOp, ho, he x _ hx, he hi _ hh, run_sliceAt_slice, hT, h3, hs, sliced]
/-- A row that is cut of all its elements, with its room. -/
theorem R_cut0 {T : TypeId} {x hi : Operand} {g n c sz : Nat} (ho : o.op = .slice T x none (some hi) none) (hx : ev f x = some (.slice (some ⟨g, 0, none⟩) n c)) (hh : ev f hi = some (.int .i64 0))
    (hT : P.underlying T = some (.slice (P.elem T))) (hs : (sizeOf (P.elem T)).run P w = .ok sz w) : Runs P o f w (.slice (some ⟨g, 0, none⟩) 0 c) w := fun e he => by
  have h3 := run_slice_h (P := P) (w := w) T (some ⟨g, 0, none⟩) n c hT .i64 0 (by omega) (by omega)
  simp [execOp, ho, he x _ hx, he hi _ hh, run_sliceAt_slice, hT, h3, hs, sliced, Addr.add]
theorem R_cap {T : TypeId} {x : Operand} {A : Option Addr} {n c : Nat} (ho : o.op = .call { callee := .builtin .cap, args := #[x], argTypes := #[T] }) (hx : evs f [x] = some [.slice A n c]) (hT : P.underlying T = some (.slice (P.elem T))) : Runs P o f w (.int .i64 (c : Int)) w :=
  R_builtin (l := [x]) ho hx (by
    have := run_cap_slice (P := P) (w := w) T o.type A n c hT
    simp [builtin, this, goInt])
theorem R_iface {T : TypeId} {x : Operand} {v : Value} (ho : o.op = .makeInterface T x) (hx : ev f x = some v) (hT : P.concrete T = true) : Runs P o f w (.iface T v) w := fun e he => by
  simp [execOp, ho, he x _ hx, run_makeInterface w T v hT]
/-- Room for so many, and none of them. -/
theorem S_grow {α : Type} {d : Kd α} {t u e : TypeId} {bytes : Nat} (q : Z) {s x : Operand} {j : Int} {r : IntKind} (hS : Sp X w0 z w rs) (hg : o.guard = none)
    (ho : o.op = .call { callee := .builtin .append, args := #[s, x], argTypes := #[t, u] }) (I : ElemInfo P t e d.sz bytes) (hu : P.underlying u = some (.int r)) (hs : ev f s = some (.slice none 0 0))
    (hx : ev f x = some (.int .i64 j)) (h0 : 0 < j) (hb : j.toNat * bytes ≤ 140737488355328) (hl : j.toNat ≤ maxLen)
    (h : ∀ g c w', Sp X w0 z w' (oR d e q (some ⟨g, 0, none⟩) c ([] : List α) :: rs) → k (.slice (some ⟨g, 0, none⟩) j.toNat c) w') : Sv P N ops Q o f w k := by
  obtain ⟨i, zv, h1, h2, h3, h4, h5⟩ := I.hi
  have hp := I.pos
  have hj : j ≤ 9223372036854775807 := by simp only [maxLen] at hl; omega
  have hw : IntKind.i64.wrap j = j := wrap_id (by omega) hj
  have hn : ¬ (j.toNat * i.size = 0) := by
    intro h
    rcases Nat.mul_eq_zero.1 h with h | h
    · omega
    · omega
  have hn0 : ¬ (j.toNat = 0) := by omega
  have h48' : ¬ (281474976710656 < Builtin.nextslicecap j.toNat 0 * i.bytes) := by rw [nextslicecap_zero (by omega), h4]; omega
  have h48 : ¬ (281474976710656 < j * (i.bytes : Int)) := by
    rw [h4]
    have : ((j.toNat * bytes : Nat) : Int) = j * bytes := by rw [Int.natCast_mul, Int.toNat_of_nonneg (by omega)]
    omega
  have h63' : ¬ (9223372036854775807 < (j.toNat : Int)) := by omega
  have h63'' : ¬ (9223372036854775807 < j) := by omega
  have hneg : ¬ (j < 0) := by omega
  have hle0 : ¬ (j ≤ 0) := by omega
  have hmax : max j 0 = j := by omega
  have hrun : (Builtin.append_ #[t, u] o.type #[.slice none 0 0, .int .i64 j]).run P w = .ok (.slice (some ⟨w.heap.size, 0, none⟩) j.toNat (grownCap w j.toNat 0 e)) (w.drew.alloc (.cells (Builtin.zeroCells zv.cells j.toNat ++ Builtin.zeroCells zv.cells (grownCap w j.toNat 0 e - j.toNat)) e)) := by
    simp [Builtin.append_, run_underlying I.ht, run_underlying hu, sizeOf, typeInfo, zeroValue, h1, h2, hw, asInt, asIntOf, hneg, hle0, hmax, h63'', h48, hn, hn0, h63', h63'', h48', Question.forced, run_firstCells_none, newRow, grownCap]
  refine Sv_of_wp hg fun a ha => ?_
  unfold Oper.wp execOp
  simp only [ho, resolve, invoke, builtin, Sem.run_bind, Sem.run_pure, Result.andThen_ok, List.map_toArray, List.map_cons, List.map_nil, ha.agree s _ hs, ha.agree x _ hx, hrun]
  have hc : Chg [] w (w.drew.alloc (.cells (Builtin.zeroCells zv.cells j.toNat ++ Builtin.zeroCells zv.cells (grownCap w j.toNat 0 e - j.toNat)) e)) := by
    have h6 : Chg [] w w.drew := Chg.drew w
    exact h6.then (Chg.alloc _ _) (by simp)
  have hge := grownCap_ge w j.toNat 0 e
  refine ⟨_, rfl, h w.heap.size (grownCap w j.toNat 0 e) _ (hS.push hc (r' := oR d e q (some ⟨w.heap.size, 0, none⟩) (grownCap w j.toNat 0 e) []) ?_ fun b hb => ?_)⟩
  · refine ⟨[], ⟨by simp, .inr ⟨w.heap.size, grownCap w j.toNat 0 e, _, rfl, Nat.zero_le _, heap_new w.drew _, Nat.zero_le _, grownCap_le_maxLen w _ _ _ hl, ?_, by simp⟩⟩, rfl⟩
    simp only [Array.size_append, size_zeroCells, h5, ← Nat.add_mul]
    congr 1
    omega
  · have : b = w.heap.size := by simpa [oR, blk] using hb
    omega
theorem R_isnil {T T' : TypeId} {x y : Operand} {A : Option Addr} {n c : Nat} {e : TypeId} (ho : o.op = .binOp .eql T x y T') (hx : ev f x = some (.slice A n c)) (hy : ev f y = some (.slice none 0 0)) (hT : P.underlying T = some (.slice e)) : Runs P o f w (.bool A.isNone) w :=
  R_bin ho hx hy (by cases A <;> simp [eqGuard]) (by
    have h : ∀ d : Nat, (Op.equalIn (d + 1) T (.slice A n c) (.slice none 0 0)).run P w = .ok A.isNone w := fun d => by
      cases A <;> simp [Op.equalIn, run_underlying hT]
    simp only [binOp]
    simp [Op.equal, Op.maxDepth, h 9999])
theorem R_nilnil {T T' : TypeId} {x y : Operand} {e : TypeId} (ho : o.op = .binOp .eql T x y T') (hx : ev f x = some (.slice none 0 0)) (hy : ev f y = some (.slice none 0 0)) (hT : P.underlying T = some (.slice e)) : Runs P o f w (.bool true) w := R_isnil (A := none) ho hx hy hT
theorem R_conviw {s d : TypeId} {x : Operand} {a b : Option TypeDesc} {q r : IntKind} {n : Int} (ho : o.op = .convert s d x) (hx : ev f x = some (.int q n)) (hS : P.underlying s = a) (hT : P.underlying d = b) (ha : a.isSome = true := by rfl) (hb : b = some (.int r) := by rfl) : Runs P o f w (.int r (r.wrap n)) w := by
  subst hS
  subst hb
  refine R_conv ho hx ?_
  cases hs : P.underlying s with
  | none => rw [hs] at ha; cases ha
  | some ds => cases ds <;> simp [convert, run_underlying hs, run_underlying hT, Conv.intToInt]
/-- A variable's array, as a row. -/
theorem R_cutarr {T : TypeId} {x : Operand} {b n sz : Nat} (ho : o.op = .slice T x none none none) (hx : ev f x = some (.pointer (some ⟨b, 0, none⟩))) (hT : P.underlying T = some (.array (P.arrayLen T) (P.elem T))) (hn : P.arrayLen T = n) (hs : (sizeOf (P.elem T)).run P w = .ok sz w) :
    Runs P o f w (.slice (some ⟨b, 0, none⟩) n n) w := fun e he => by
  subst hn
  have h1 := run_sliceAt_array_all (P := P) w T ⟨b, 0, none⟩ hT
  simp [execOp, ho, he x _ hx, h1, hs, slicedAt, Addr.add]
theorem Sp.brd {α : Type} {d : Kd α} {q : Z} {b : Nat} {T : TypeId} {cs : List Value} {xs : List α} (h : Sp X w0 z w rs) (l : List Nat) (i : Nat) (hi : nth rs i = some (bR b T cs)) (hl : l.contains i = false) (hr : Reps d q xs cs) (hk : ∀ x cs, d.K q x cs → d.K (zB w (FF (pick rs l))) x cs := by exact fun _ _ h => h) : Rd d (zB w (FF (pick rs l))) (some ⟨b, 0, none⟩) xs := fun m x hx => by
  obtain ⟨c, h1, h2⟩ := hr.get hx
  refine ⟨_, c, rfl, hk x c h1, fun j u hu => ?_⟩
  have hb : Box w b T cs := h.bx i hi
  have hz : zB w (FF (pick rs l)) b = cellsAt w b := zB_of fun ⟨p, hp, hpk⟩ => by
    obtain ⟨j, hj, hpj⟩ := pick_mem hp
    have hne : i ≠ j := fun e => by subst e; simp at hl; exact hl hj
    exact nth_ap h.sep hi hpj hne b rfl hpk
  rw [add_at]
  unfold cz
  unfold Box at hb
  simp [hz, cellsAt, hb, h2 j u hu]
/-! ### rows that are cleared -/
theorem add_off (a : Addr) (n : Nat) : (a.add n).off = a.off + n := by
  unfold Addr.add
  split
  · rename_i h; rw [h]; rfl
  · rfl
theorem storeSeq {P : Program} : ∀ (vs : List Value) (a : Addr) (i : Nat) (w : World), (∀ u ∈ vs, u.oneCell' = true) → (∃ c e, w.heap[a.block]? = some (.cells c e (0, 0))) → (∀ j, j < vs.length → ∃ u, w.cell? (a.add (i + j)) = some u) →
    ∃ w', (storeCells a vs i).run P w = .ok () w' ∧ Chp (· = a.block) w w' ∧ (∃ c e, w'.heap[a.block]? = some (.cells c e (0, 0))) ∧ (∀ x u, w.cell? x = some u → ∃ u', w'.cell? x = some u' ∧ (u' = u ∨ u' ∈ vs)) ∧
      (∀ j v, vs[j]? = some v → w'.cell? (a.add (i + j)) = some v) ∧ (∀ x, (∀ j, j < vs.length → x ≠ a.add (i + j)) → w'.cell? x = w.cell? x)
  | [], a, i, w, _, hb, _ => ⟨w, by simp [storeCells], Chp.refl _ _, hb, fun x u hu => ⟨u, hu, .inl rfl⟩, fun j v hv => by simp at hv, fun _ _ => rfl⟩
  | v :: vs, a, i, w, h1, hb, hc => by
    obtain ⟨u0, hu0⟩ := hc 0 (by simp)
    rw [Nat.add_zero] at hu0
    have hblk : (a.add i).block = a.block := by unfold Addr.add; split <;> rfl
    have hfr : w.frozen? (a.add i) = false := by
      obtain ⟨c, e, hb⟩ := hb
      simp [World.frozen?, hblk, hb]
    have hold : ∀ x u, w.cell? x = some u → ∃ u', (w.setCell (a.add i) v).cell? x = some u' ∧ (u' = u ∨ u' = v) := fun x u hu => by
      by_cases he : a.add i = x
      · subst he
        exact ⟨v, World.cell?_setCell_same w _ v hu, .inr rfl⟩
      · exact ⟨u, (World.cell?_setCell_other w _ _ v he).trans hu, .inl rfl⟩
    have hb' : ∃ c e, (w.setCell (a.add i) v).heap[a.block]? = some (.cells c e (0, 0)) := by
      obtain ⟨c, e, hb⟩ := hb
      simp [World.setCell, hblk, Array.getElem?_modify, hb]
    obtain ⟨w', h2, h3, h4, h5, h6, h7⟩ := storeSeq vs a (i + 1) (w.setCell (a.add i) v) (fun u hu => h1 u (List.mem_cons_of_mem _ hu)) hb' (fun j hj => by
      obtain ⟨u, hu⟩ := hc (j + 1) (by simp; omega)
      obtain ⟨u', hu', _⟩ := hold _ u hu
      exact ⟨u', by rw [show i + 1 + j = i + (j + 1) from by omega]; exact hu'⟩)
    refine ⟨w', ?_, ?_, h4, fun x u hu => ?_, fun j v' hv => ?_, fun x hx => ?_⟩
    · simp [storeCells, run_store P w (a.add i) v _ (h1 v List.mem_cons_self), hu0, hfr]
      exact h2
    · have h8 : Chg [a.block] w (w.setCell (a.add i) v) := by have := Chg.setCell w (a.add i) v; rwa [hblk] at this
      exact (h8.chp.mono (fun k hk => .inl (by simpa using hk))).trans h3 (fun k hk => .inl hk)
    · obtain ⟨u', h8, h9⟩ := hold x u hu
      obtain ⟨u'', h10, h11⟩ := h5 x u' h8
      refine ⟨u'', h10, ?_⟩
      rcases h11 with rfl | h11
      · rcases h9 with rfl | rfl
        · exact .inl rfl
        · exact .inr List.mem_cons_self
      · exact .inr (List.mem_cons_of_mem _ h11)
    · cases j with
      | zero =>
        obtain rfl : v = v' := by simpa using hv
        have h8 := World.cell?_setCell_same w (a.add i) v hu0
        rw [Nat.add_zero]
        rw [h7 (a.add i) (fun j hj he => ?_)]
        · exact h8
        · have h9 := congrArg Addr.off he
          rw [add_off, add_off] at h9
          omega
      | succ j =>
        have := h6 j v' (by simpa using hv)
        rw [show i + (j + 1) = i + 1 + j from by omega]
        exact this
    · rw [h7 x (fun j hj he => hx (j + 1) (by simp; omega) (by rw [he]; congr 1; omega))]
      exact World.cell?_setCell_other w _ _ v (fun he => hx 0 (by simp) (by rw [← he, Nat.add_zero]))
theorem run_clear {t e : TypeId} {ty : TypeId} {A : Option Addr} {n c : Nat} {zv : Value} (I : P.underlying t = some (.slice e)) (hz : (zeroValue e).run P w = .ok zv w) (w' : World) (h0 : n = 0 ∨ A = none → w' = w)
    (h : ∀ a, A = some a → n ≠ 0 → (storeCells a (Builtin.zeroCells zv.cells n).toList).run P w = .ok () w') : (Builtin.clear_ #[t] ty #[.slice A n c]).run P w = .ok (.tuple #[]) w' := by
  cases A with
  | none => simp [Builtin.clear_, run_underlying I, h0 (.inr rfl)]
  | some a =>
    cases n with
    | zero => simp [Builtin.clear_, run_underlying I, h0 (.inl rfl)]
    | succ n => simp [Builtin.clear_, run_underlying I, hz, h a rfl (by simp)]
theorem zero_list (z : Array Value) (n : Nat) (vs : List Value) (h : z = vs.toArray) : ∀ u ∈ (Builtin.zeroCells z n).toList, u ∈ vs := fun u hu => by
  subst h
  simp only [Builtin.zeroCells, Array.toList_map, List.mem_map] at hu
  obtain ⟨i, hi, rfl⟩ := hu
  have hi' : i < n * vs.length := by simpa using hi
  have hp : 0 < vs.length := by
    rcases Nat.eq_zero_or_pos vs.length with h0 | h0
    · rw [h0] at hi'; omega
    · exact h0
  have hlt : i % vs.length < vs.length := Nat.mod_lt _ hp
  simp [hlt]
theorem cz_cell' {w : World} {a : Addr} {v : Value} (h : w.cell? a = some v) : cz (cellsAt w) a = some v := by
  unfold World.cell? at h
  unfold cz cellsAt
  split at h
  · rename_i c e fr hh
    rw [hh]
    split at h
    · cases h
    · rename_i hs
      rw [if_neg hs]
      exact h
  · cases h
theorem pick_list' {α : Type} {Q : Nat → α → Prop} : ∀ n, (∀ i, i < n → ∃ a, Q i a) → ∃ xs : List α, xs.length = n ∧ ∀ i x, xs[i]? = some x → Q i x
  | 0, _ => ⟨[], rfl, fun i x h => by simp at h⟩
  | n + 1, h => by
    obtain ⟨xs, h1, h2⟩ := pick_list' n (fun i hi => h i (by omega))
    obtain ⟨a, ha⟩ := h n (by omega)
    refine ⟨xs ++ [a], by simp [h1], fun i x hx => ?_⟩
    rcases Nat.lt_or_ge i n with hi | hi
    · rw [List.getElem?_append_left (by omega)] at hx
      exact h2 i x hx
    · rw [List.getElem?_append_right (by omega), h1] at hx
      have h3 : i - n = 0 := by
        have := (List.getElem?_eq_some_iff.1 hx).1
        simp at this
        omega
      rw [h3] at hx
      simp at hx
      subst hx
      have : i = n := by omega
      subst this
      exact ha
/-- Texts of a family are cleared: each cell of it that held a text holds one. -/
theorem S_clear_fam {t e : TypeId} {q : Z} {x : Operand} {A A1 : Option Addr} {c c1 : Nat} {e1 : TypeId} {xs : List St} {l : List (List St)} (hS : Sp X w0 z w rs) (i j : Nat) (hi : nth rs i = some (zR q)) (hj : nth rs j = some (oR (kslice kstr) e1 q A1 c1 l)) (hij : i ≠ j)
    (hg : o.guard = none) (ho : o.op = .call { callee := .builtin .clear, args := #[x], argTypes := #[t] }) (ht : P.underlying t = some (.slice e)) (hz : ∀ w, (zeroValue e).run P w = .ok (vstr []) w) (hx : ev f x = some (.slice A xs.length c)) (hr : Rd kstr q A xs)
    (h : ∀ q' l' w', l'.length = l.length → Sp X w0 z w' (zR q' :: oR (kslice kstr) e1 q' A1 c1 l' :: rest rs 0 [i, j]) → k (.tuple #[]) w') : Sv P N ops Q o f w k := by
  have hZ : (zR q).P w := hS.at_ i hi
  have hO : Own (kslice kstr) e1 0 q w A1 c1 l := hS.at_ j hj
  -- what the clearing does
  have key : ∃ w', (Builtin.clear_ #[t] o.type #[.slice A xs.length c]).run P w = .ok (.tuple #[]) w' ∧ Chp (fun b => q b ≠ none) w w' ∧ (∀ b, q b ≠ none → ∃ c e, w'.heap[b]? = some (.cells c e (0, 0))) ∧
      ∀ y s, w.cell? y = some (vstr s) → ∃ s', w'.cell? y = some (vstr s') := by
    by_cases h0 : xs = [] ∨ A = none
    · have hn : xs.length = 0 ∨ A = none := h0.imp (fun h => by rw [h]; rfl) id
      refine ⟨w, run_clear ht (hz w) w (fun _ => rfl) (fun a ha hne => ?_), Chp.refl _ _, hZ.2, fun y s hy => ⟨s, hy⟩⟩
      rcases hn with hn | hn
      · exact absurd hn hne
      · rw [hn] at ha; cases ha
    · rw [not_or] at h0
      obtain ⟨a, rfl⟩ := Option.ne_none_iff_exists'.1 h0.2
      have hcell : ∀ m, m < xs.length → ∃ s, cz q (a.add m) = some (vstr s) := fun m hm => by
        obtain ⟨a', cs, h1, h2, h3⟩ := hr m xs[m] (List.getElem?_eq_getElem hm)
        obtain rfl := Option.some.inj h1
        have h2' : cs = [vstr xs[m]] := h2
        subst h2'
        have := h3 0 _ rfl
        have hsz : kstr.sz = 1 := rfl
        rw [hsz, Nat.mul_one, Nat.add_zero] at this
        exact ⟨_, this⟩
      have hpos : 0 < xs.length := List.length_pos_iff.2 h0.1
      have hq : q a.block ≠ none := by
        obtain ⟨s, hs⟩ := hcell 0 hpos
        unfold cz at hs
        split at hs
        · cases hs
        · have hb : (a.add 0).block = a.block := by rw [add_zero]
          rw [hb] at hs
          intro hn
          rw [hn] at hs
          cases hs
      have hzl : ∀ u ∈ (Builtin.zeroCells (vstr []).cells xs.length).toList, u = vstr [] := fun u hu => by
        have := zero_list (vstr []).cells xs.length [vstr []] rfl u hu
        simpa using this
      have hlen : (Builtin.zeroCells (vstr []).cells xs.length).toList.length = xs.length := by
        rw [Array.length_toList, size_zeroCells]
        have : (vstr []).cells.size = 1 := rfl
        rw [this, Nat.mul_one]
      obtain ⟨w', h1, h2, h3, h4, _, _⟩ := storeSeq (P := P) (Builtin.zeroCells (vstr []).cells xs.length).toList a 0 w (fun u hu => by rw [hzl u hu]; rfl) (hZ.2 _ hq) (fun m hm => by
        obtain ⟨s, hs⟩ := hcell m (by rw [hlen] at hm; exact hm)
        exact ⟨vstr s, by rw [Nat.zero_add]; exact hZ.1.cell hs⟩)
      refine ⟨w', run_clear ht (hz w) w' (fun hn => ?_) (fun a' ha' _ => ?_), h2.mono (fun b hb => .inl (by rw [hb]; exact hq)), fun b hb => ?_, fun y s hy => ?_⟩
      · rcases hn with hn | hn
        · omega
        · cases hn
      · obtain rfl := Option.some.inj ha'
        exact h1
      · by_cases hba : b = a.block
        · rw [hba]; exact h3
        · rw [h2.block b (hZ.1.lt hb) hba]
          exact hZ.2 b hb
      · obtain ⟨u', h5, h6⟩ := h4 y _ hy
        rcases h6 with rfl | h6
        · exact ⟨s, h5⟩
        · exact ⟨[], by rw [h5, hzl u' h6]⟩
  obtain ⟨w', hrun, hchp, hwr, hstr⟩ := key
  refine Sv_of_wp hg fun ac ha => ?_
  unfold Oper.wp execOp
  simp only [ho, resolve, invoke, builtin, Sem.run_bind, Sem.run_pure, Result.andThen_ok, List.map_toArray, List.map_cons, List.map_nil, ha.agree x _ hx, hrun]
  -- the family, and the rows, anew
  let q' : Z := fun b => if q b = none then none else cellsAt w' b
  have hq' : ∀ b, q' b ≠ none → q b ≠ none := fun b hb hn => hb (by simp [q', hn])
  have hsub : Sub q' w' := fun b cc hb => by
    have : q b ≠ none := hq' b (by rw [hb]; simp)
    simpa [q', this] using hb
  have hap : ∀ b ∈ blk A1, q b = none := fun b hb => by
    have := nth_ap hS.sep hj hi (Ne.symm hij) b hb
    simpa [zR] using this
  have hO1 : Own (kslice kstr) e1 0 q w' A1 c1 l := hO.cong fun b hb => hchp.block b (hO.lt b hb) (by rw [hap b hb]; simp)
  have hcz : ∀ y s, cz q y = some (vstr s) → ∃ s', cz q' y = some (vstr s') := fun y s hy => by
    obtain ⟨s', hs'⟩ := hstr y s (hZ.1.cell hy)
    refine ⟨s', ?_⟩
    unfold cz at hy ⊢
    split at hy
    · cases hy
    · rename_i hsp
      rw [if_neg hsp]
      have hqb : q y.block ≠ none := fun hn => by rw [hn] at hy; cases hy
      have : q' y.block = cellsAt w' y.block := by simp [q', hqb]
      rw [this]
      have h9 := cz_cell' hs'
      unfold cz at h9
      rw [if_neg hsp] at h9
      exact h9
  have hrow : ∀ (B : Option Addr) (ys : List St), Rd kstr q B ys → ∃ ys' : List St, ys'.length = ys.length ∧ Rd kstr q' B ys' := fun B ys hy => by
    have : ∀ m, m < ys.length → ∃ s' : St, ∃ a, B = some a ∧ cz q' (a.add m) = some (vstr s') := fun m hm => by
      obtain ⟨a, cs, h1, h2, h3⟩ := hy m ys[m] (List.getElem?_eq_getElem hm)
      have h2' : cs = [vstr ys[m]] := h2
      subst h2'
      have h4 := h3 0 _ rfl
      have hsz : kstr.sz = 1 := rfl
      rw [hsz, Nat.mul_one, Nat.add_zero] at h4
      obtain ⟨s', hs'⟩ := hcz _ _ h4
      exact ⟨s', a, h1, hs'⟩
    obtain ⟨ys', h1, h2⟩ := pick_list' ys.length this
    refine ⟨ys', h1, fun m s hm => ?_⟩
    obtain ⟨a, h3, h4⟩ := h2 m s hm
    refine ⟨a, [vstr s], h3, rfl, fun jj u hu => ?_⟩
    cases jj with
    | zero =>
      obtain rfl : vstr s = u := by simpa using hu
      have hsz : kstr.sz = 1 := rfl
      rw [hsz, Nat.mul_one, Nat.add_zero]
      exact h4
    | succ jj => simp at hu
  have hreps : ∀ (l : List (List St)) (cs : List Value), Reps (kslice kstr) q l cs → ∃ l' : List (List St), l'.length = l.length ∧ Reps (kslice kstr) q' l' cs := by
    intro l
    induction l with
    | nil => intro cs h; exact ⟨[], rfl, h⟩
    | cons ys l ih =>
      intro cs h
      obtain ⟨c0, r, rfl, ⟨B, cc, rfl, hcap, hrd⟩, h3⟩ := h
      obtain ⟨ys', h4, h5⟩ := hrow B ys hrd
      obtain ⟨l', h6, h7⟩ := ih r h3
      exact ⟨ys' :: l', by simp [h6], _, r, rfl, ⟨B, cc, by rw [h4], by rw [h4]; exact hcap, h5⟩, h7⟩
  obtain ⟨inner, h1, h2⟩ := hO1
  obtain ⟨l', h3, h4⟩ := hreps l inner h2
  have hO' : Own (kslice kstr) e1 0 q' w' A1 c1 l' := ⟨inner, by rw [h3]; exact h1, h4⟩
  have hin := hS.sel [i, j] (by simp [hij])
  have hp : pick rs [i, j] = [zR q, oR (kslice kstr) e1 q A1 c1 l] := by simp [pick, hi, hj]
  have hcall : Sp (FF (pick rs [i, j])) w (zB w (FF (pick rs [i, j]))) w' [zR q', oR (kslice kstr) e1 q' A1 c1 l'] := by
    rw [hp]
    refine ⟨zB_sub _ _, fun b hb => zB_none hb, hchp.mono (fun b hb => .inl ⟨zR q, List.mem_cons_self, hb⟩), ?_, ?_, ?_⟩
    · intro r hr
      rcases List.mem_cons.1 hr with rfl | hr
      · exact ⟨hsub, fun b hb => hwr b (hq' b hb)⟩
      · rw [List.mem_singleton.1 hr]; exact hO'
    · intro r hr b hb
      rcases List.mem_cons.1 hr with rfl | hr
      · exact .inl ⟨zR q, List.mem_cons_self, hq' b hb⟩
      · rw [List.mem_singleton.1 hr] at hb
        exact .inl ⟨_, List.mem_cons_of_mem _ List.mem_cons_self, hb⟩
    · refine List.pairwise_cons.2 ⟨fun r hr b hb hrb => ?_, List.pairwise_singleton _ _⟩
      rw [List.mem_singleton.1 hr] at hrb
      exact hq' b hb (hap b hrb)
  exact ⟨_, rfl, h q' l' w' h3 (hS.call [i, j] (by simp [hij]) hcall)⟩
end
/-! ### methods -/
/-- A method of an interface's value: which function it is, and of which receiver. d: through how many embedded interfaces it is found. -/
def Meth (P : Program) (d : Nat) (v : Value) (name : String) (g : FuncId) (r : Value) : Prop :=
  ∃ t u, v = .iface t u ∧ (∀ fuel w, d ≤ fuel → (method (fuel + 1) t u name).run P w = .ok (g, r) w) ∧ ∀ args w, (callFunc g args).run P w = .ok (.enter g args) w
section
variable {P : Program} {N : Nat} {ops : Array Oper} {Q : Exit → Act → World → Prop} {o : Oper} {f : Fr} {w : World} {k : Value → World → Prop}
theorem S_meth {d : Nat} {v r : Value} {name : String} {g : FuncId} {x : Operand} {l : List Operand} {ts : Array TypeId} {vs : List Value} (hm : Meth P d v name g r) (hd : d < P.types.size + Made.depth) (hg : o.guard = none)
    (ho : o.op = .call { callee := .invoke x name, args := l.toArray, argTypes := ts }) (hxv : ev f x = some v) (hx : evs f l = some vs) (h : Calls P g (r :: vs).toArray w fun e w' => ∃ u, e = .returned u ∧ k u w') : Sv P N ops Q o f w k := by
  obtain ⟨t, u, rfl, h1, h2⟩ := hm
  refine Sv_of_wp hg fun a ha => ?_
  have h3 : l.map a.eval = vs := ha.agree.evs_ hx
  have h4 : a.eval x = .iface t u := ha.agree x _ hxv
  have h5 : P.types.size + Made.depth = (P.types.size + Made.depth - 1) + 1 := by omega
  have h6 : (#[Value.iface t u] ++ vs.toArray : Array Value).extract 1 (#[Value.iface t u] ++ vs.toArray : Array Value).size = vs.toArray := by
    simp
  have hrun : (execOp a.eval o).run P w = .ok (.enter g (r :: vs).toArray) w := by
    have hmm := h1 (P.types.size + Made.depth - 1) w (by omega)
    rw [← h5] at hmm
    simp only [execOp, ho, resolve, Sem.run_bind, Sem.run_pure, Result.andThen_ok, List.map_toArray, h3, h4]
    unfold invoke
    simp only [Sem.run_bind, Sem.run_pure, Result.andThen_ok]
    simp [callMethod, hmm, h2]
  unfold Oper.wp
  rw [hrun, Oper.upon_enter]
  refine h.mono fun e w'' hh => ?_
  obtain ⟨u, rfl, hk⟩ := hh
  exact ⟨u, rfl, hk⟩
end
end Go.Proofs.YtcjaplaifmhajaaDoorG
