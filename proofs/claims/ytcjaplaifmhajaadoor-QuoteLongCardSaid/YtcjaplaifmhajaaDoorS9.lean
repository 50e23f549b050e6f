/- Builders of texts; calls without a body; pointers; texts put behind a row of bytes. -/
import Derived.Test.YtcjaplaifmhajaaDoorS8
import Derived.Lib.Builder
import Derived.Lib.UnsafeStr
import Derived.Lib.Bytealg
import Derived.Lib.AppendStr
import Derived.Lib.MakeNoZero
set_option linter.all false
namespace Go.Proofs.YtcjaplaifmhajaaDoorG
open Go Go.RowKit
section
variable {P : Program} {N : Nat} {ops : Array Oper} {Q : Exit → Act → World → Prop} {o : Oper} {f : Fr} {w w' w0 : World} {v : Value} {k : Value → World → Prop} {X : Nat → Prop} {z : Z} {rs : List Res}
/-! ### calls without a body; pointers -/
theorem R_extern {g : Nat} {l : List Operand} {ts : Array TypeId} {vs : List Value} {r : Value} (ho : o.op = .call { callee := .value (.func g), args := l.toArray, argTypes := ts }) (hx : evs f l = some vs)
    (hr : (callFunc g vs.toArray).run P w = .ok (.value r) w') : Runs P o f w r w' := fun e he => by
  have h1 : l.toArray.map e = vs.toArray := by simp [he.evs_ hx]
  have h2 : e (.func g) = .func (.func g) #[] #[] := he (.func g) _ rfl
  simp only [execOp, ho, resolve, h1, h2, Deferred.ofValue, invoke, Sem.run_bind, Sem.run_pure, Result.andThen_ok]
  simpa [invoke] using hr
theorem R_nilcheck {x : Operand} {a : Addr} (ho : o.op = .nilCheck x) (hx : ev f x = some (.pointer (some a))) : Runs P o f w (.pointer (some a)) w := fun e he => by
  simp [execOp, ho, he x _ hx]
theorem R_peq_nn {T T' t : TypeId} {x y : Operand} (ho : o.op = .binOp .eql T x y T') (hT : P.underlying T = some (.pointer t)) (hx : ev f x = some (.pointer none)) (hy : ev f y = some (.pointer none)) : Runs P o f w (.bool true) w :=
  R_bin ho hx hy rfl (by
    have h : ∀ d : Nat, (Op.equalIn (d + 1) T (.pointer none) (.pointer none)).run P w = .ok true w := fun d => by
      simp [Op.equalIn, run_underlying hT]
    simp only [binOp]
    simp [Op.equal, Op.maxDepth, h 9999])
theorem R_peq_sn {T T' t : TypeId} {x y : Operand} {a : Addr} (ho : o.op = .binOp .eql T x y T') (hT : P.underlying T = some (.pointer t)) (hx : ev f x = some (.pointer (some a))) (hy : ev f y = some (.pointer none)) : Runs P o f w (.bool false) w :=
  R_bin ho hx hy rfl (by
    have h : ∀ d : Nat, (Op.equalIn (d + 1) T (.pointer (some a)) (.pointer none)).run P w = .ok false w := fun d => by
      simp [Op.equalIn, run_underlying hT]
    simp only [binOp]
    simp [Op.equal, Op.maxDepth, h 9999])
theorem R_pne_same {T T' t : TypeId} {x y : Operand} {a : Addr} {n : Nat} (ho : o.op = .binOp .neq T x y T') (hT : P.underlying T = some (.pointer t)) (ht : (P.info? t).map (·.size) = some n) (hx : ev f x = some (.pointer (some a))) (hy : ev f y = some (.pointer (some a))) : Runs P o f w (.bool false) w := by
  obtain ⟨j, hj, _⟩ := Option.map_eq_some_iff.1 ht
  exact R_bin ho hx hy rfl (Lib.run_neq_ptr_same w a hT hj)
theorem Box.shp {b : Nat} {T : TypeId} {cs : List Value} (h : Box w b T cs) : w.shape? b = some (T, cs.length) := by
  unfold Box at h
  simp [World.shape?, h]
theorem R_tounsafe {src dst t T : TypeId} {x : Operand} {b n : Nat} {cs : List Value} (ho : o.op = .convert src dst x) (hx : ev f x = some (.pointer (some ⟨b, 0, none⟩))) (hs : P.underlying src = some (.pointer t)) (hd : P.underlying dst = some .unsafePointer)
    (ht : (P.info? t).map (·.size) = some n) (hn : n ≠ 0) (hb : Box w b T cs) (hl : 0 < cs.length) : Runs P o f w (.pointer (some ⟨b, 0, none⟩)) w := by
  obtain ⟨j, hj, rfl⟩ := Option.map_eq_some_iff.1 ht
  exact R_conv ho hx (Lib.run_to_unsafe w ⟨b, 0, none⟩ hs hd hj hn hb.shp hl)
theorem R_fromunsafe {src dst u T : TypeId} {x : Operand} {b n m : Nat} {cs : List Value} (ho : o.op = .convert src dst x) (hx : ev f x = some (.pointer (some ⟨b, 0, none⟩))) (hs : P.underlying src = some .unsafePointer) (hd : P.underlying dst = some (.pointer u))
    (hu : (P.info? u).map (·.size) = some n) (hb : Box w b T cs) (hm : cs.length = m) (hlies : liesAt P P.depth T (m / P.cellsOf T) 0 u 1 = true) : Runs P o f w (.pointer (some ⟨b, 0, none⟩)) w := by
  obtain ⟨j, hj, rfl⟩ := Option.map_eq_some_iff.1 hu
  subst hm
  exact R_conv ho hx (Lib.run_from_unsafe w ⟨b, 0, none⟩ hs hd hj hb.shp hlies)
theorem R_cut00 {T : TypeId} {x hi : Operand} {A : Option Addr} {n c sz : Nat} (ho : o.op = .slice T x none (some hi) none) (hx : ev f x = some (.slice A n c)) (hh : ev f hi = some (.int .i64 0))
    (hT : P.underlying T = some (.slice (P.elem T))) (hs : (sizeOf (P.elem T)).run P w = .ok sz w) : Runs P o f w (.slice A 0 c) w := fun e he => by
  have h3 := run_slice_h (P := P) (w := w) T A n c hT .i64 0 (by omega) (by omega)
  simp [execOp, ho, he x _ hx, he hi _ hh, run_sliceAt_slice, hT, h3, hs, sliced]
  cases A <;> simp [Addr.add]
/-! ### a text behind a row of bytes -/
theorem strCells_ub (t : St) : Lib.strCells ⟨t.toArray⟩ = (ub t).map (Value.int .u8) := by
  simp [Lib.strCells, ub]
theorem reps_u8 (z : Z) : ∀ xs : List Int, Reps (kint .u8) z xs (xs.map (Value.int .u8))
  | [] => rfl
  | x :: r => ⟨[.int .u8 x], r.map (Value.int .u8), rfl, rfl, reps_u8 z r⟩
theorem S_append_str {T u e : TypeId} {s x : Operand} {A : Option Addr} {c : Nat} {xs : List Int} {t : St} (hS : Sp X w0 z w rs) (i : Nat) (hi : nth rs i = some (oR (kint .u8) e zE A c xs)) (hg : o.guard = none)
    (ho : o.op = .call { callee := .builtin .append, args := #[s, x], argTypes := #[T, u] }) (hT : P.underlying T = some (.slice e)) (hu : P.underlying u = some .string)
    (hI : (P.info? e).map (fun i => (i.zero, i.size, i.bytes)) = some (some (.int .u8 0), 1, 1)) (hs : ev f s = some (.slice A xs.length c)) (hx : ev f x = some (vstr t)) (hb : xs.length + t.length ≤ 140737488355328)
    (h : ∀ A' c' w', Sp X w0 z w' (upd rs i (oR (kint .u8) e zE A' c' (xs ++ ub t))) → k (.slice A' (xs ++ ub t).length c') w') : Sv P N ops Q o f w k := by
  obtain ⟨inf, h1, h2⟩ := Option.map_eq_some_iff.1 hI
  simp only [Prod.mk.injEq] at h2
  obtain ⟨h2, h3, h4⟩ := h2
  obtain ⟨inner, h5, h6⟩ := (hS.at_ i hi : Own (kint .u8) e 0 zE w A c xs)
  have hsz : (⟨t.toArray⟩ : ByteArray).size = t.length := by simp [ByteArray.size]
  obtain ⟨v', w', hrun, h7, h8, h9⟩ := Lib.run_append_own_string (P := P) w 0 T u o.type e inf hT hu h1 h2 h3 h4 _ _ inner h5 ⟨t.toArray⟩ (by rw [hsz]; simp only [maxLen]; omega) (by rw [hsz]; exact hb) (Nat.zero_le _)
  rw [hsz, strCells_ub] at h7
  refine Sv_of_wp hg fun a ha => ?_
  unfold Oper.wp execOp
  have hx' : a.eval x = .string ⟨t.toArray⟩ := ha.agree x _ hx
  simp only [ho, resolve, invoke, builtin, Sem.run_bind, Sem.run_pure, Result.andThen_ok, List.map_toArray, List.map_cons, List.map_nil, ha.agree s _ hs, hx', hrun]
  have hv : ∃ A' c', v' = .slice A' (xs ++ ub t).length c' := by
    rw [List.length_append, ub_len]
    rcases h7.2 with ⟨rfl, h12⟩ | ⟨g, cap, cur, rfl, _⟩
    · exact ⟨none, 0, by rw [h12]⟩
    · exact ⟨_, _, rfl⟩
  obtain ⟨A', c', rfl⟩ := hv
  refine ⟨_, rfl, h A' c' w' (hS.set i hi (r' := oR (kint .u8) e zE A' c' (xs ++ ub t)) ?_ ⟨_, by rw [List.length_append, ub_len] at h7 ⊢; exact h7, h6.append (reps_u8 zE _)⟩ ?_)⟩
  · have := Chg.grown h8
    refine (Chg.chp this).mono fun j hj => .inl ?_
    show j ∈ blk A
    cases A <;> simpa [blk, Value.ownBlock] using hj
  · intro q hq
    have hq' : q ∈ blk A' := hq
    rcases h7.2 with ⟨hn, _⟩ | ⟨g, cap, cur, hv, _, hg', _⟩
    · injection hn with hn1
      subst hn1
      simp [blk] at hq'
    · injection hv with hv1
      subst hv1
      simp [blk] at hq'
      subst hq'
      rcases h5.2 with ⟨hn, hn0⟩ | ⟨g0, cap0, cur0, hv0, _, hg0, hnc, hcm, hcs, _⟩
      · injection hn with hA _ hc0
        subst hA
        subst hc0
        obtain ⟨v2, w2, hrun2, k7, _, _⟩ := Lib.run_append_own_string (P := P) w w.heap.size T u o.type e inf hT hu h1 h2 h3 h4 (.slice none 0 0) 0 inner ⟨by have := h5.1; rw [hn0] at this; simpa using this, .inl ⟨rfl, rfl⟩⟩ ⟨t.toArray⟩ (by rw [hsz]; simp only [maxLen]; omega) (by rw [hsz]; omega) (Nat.le_refl _)
        rw [hn0] at hrun
        rw [hrun] at hrun2
        injection hrun2 with e1 e2
        subst e1
        rcases k7.2 with ⟨hk, _⟩ | ⟨g1, _, _, hk, hk1, _⟩
        · injection hk with hk; cases hk
        · injection hk with hk; injection hk with hk; injection hk with hk; subst hk; exact .inr hk1
      · injection hv0 with hA _ hc0
        subst hA
        subst hc0
        by_cases hroom : xs.length + (⟨t.toArray⟩ : ByteArray).size ≤ c
        · have hcs1 : cur0.size = c := by rw [hcs]; exact Nat.mul_one c
          have hr := Lib.run_append_room_string (P := P) w T u o.type e inf hT hu h1 h3 g0 xs.length c cur0 hg0 ⟨t.toArray⟩ hroom (hcs1.symm ▸ hroom)
          rw [hrun] at hr
          injection hr with e1 _
          injection e1 with e1
          injection e1 with e1
          injection e1 with e1
          subst e1
          exact .inl (by simp [oR, blk])
        · have holds : ∀ j u, inner[j]? = some u → w.cell? ((⟨g0, 0, none⟩ : Addr).add j) = some u := h5.cells (g := g0) rfl
          have hr := Lib.run_append_grow_string (P := P) w T u o.type e inf (.int .u8 0) hT hu h1 h2 ⟨g0, 0, none⟩ xs.length c inner (by rw [h3]; exact h5.1) holds ⟨t.toArray⟩ (by omega) (by rw [hsz]; omega) (by rw [h4]; exact growslice_fits (by rw [hsz]; omega) (by omega))
          rw [hrun] at hr
          injection hr with e1 _
          injection e1 with e1
          injection e1 with e1
          injection e1 with e1
          subst e1
          exact .inr (Nat.le_refl _)
end
end Go.Proofs.YtcjaplaifmhajaaDoorG
