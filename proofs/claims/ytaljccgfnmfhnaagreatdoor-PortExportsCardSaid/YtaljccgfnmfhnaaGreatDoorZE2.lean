/- Walks and laws of this program: part 2. -/
import Derived.Deep.LoopGhost
import Derived.Deep.RegionWith
import Derived.KernelRfl
import Derived.Laws.CopyRow
import Derived.Laws.MakeOwn
import Derived.Laws.RangeAny
import Derived.Laws.Runes
import Derived.Lib.CountLaws
import Derived.Lib.IndexAny
import Derived.Lib.IndexBytes
import Derived.Lib.OthersKept
import Derived.Lib.Replace
import Derived.RegionTactic
import Derived.Shelf.RegionOpenPlain
import Derived.Shelf.Small.Utf8
import Derived.Shelf.Strings.Builder1
import Derived.Shelf.Strings.IndexAnyAll
import Derived.Shelf.Strings.Replace
import Derived.Test.YtaljccgfnmfhnaaGreatDoorProg
import Derived.Test.YtaljccgfnmfhnaaGreatDoorZE1
set_option linter.all false
namespace Go.Proofs.YtaljccgfnmfhnaaGreatDoorG
open Go Go.RowKit
section
variable {α : Type} {d : Kd α} {z : Z}
theorem Reps.split : ∀ {xs : List α} {cs : List Value} (i : Nat), Reps d z xs cs → i ≤ xs.length → Reps d z (xs.take i) (cs.take (i * d.sz)) ∧ Reps d z (xs.drop i) (cs.drop (i * d.sz))
  | xs, cs, 0, h, _ => by simpa [Reps] using h
  | x :: xs, cs, i + 1, h, hi => by
    obtain ⟨c, r, rfl, h1, h2⟩ := h
    obtain ⟨h3, h4⟩ := Reps.split i h2 (by simpa using hi)
    have hl := d.len h1
    have e : (i + 1) * d.sz = c.length + i * d.sz := by rw [hl, Nat.add_mul]; omega
    rw [e, List.take_length_add_append, List.drop_length_add_append]
    exact ⟨⟨c, _, rfl, h1, h3⟩, h4⟩
theorem Reps.setf {y : α} {off : Nat} {news : List Value} : ∀ {xs : List α} {inner : List Value} {j : Nat} (df : α), Reps d z xs inner → j < xs.length → off + news.length ≤ d.sz → (∀ cs, d.K z (xs.getD j df) cs → d.K z y (cs.take off ++ news ++ cs.drop (off + news.length))) →
    Reps d z (xs.set j y) (inner.take (j * d.sz + off) ++ news ++ inner.drop (j * d.sz + off + news.length))
  | x :: xs, inner, 0, df, h, _, ho, hk => by
    obtain ⟨c, r, rfl, h1, h2⟩ := h
    have hl := d.len h1
    refine ⟨c.take off ++ news ++ c.drop (off + news.length), r, ?_, hk c (by simpa using h1), h2⟩
    rw [Nat.zero_mul, Nat.zero_add, List.take_append_of_le_length (by omega), List.drop_append_of_le_length (by omega)]
    simp
  | x :: xs, inner, j + 1, df, h, hj, ho, hk => by
    obtain ⟨c, r, rfl, h1, h2⟩ := h
    have hl := d.len h1
    have e : (j + 1) * d.sz + off = c.length + (j * d.sz + off) := by rw [hl, Nat.add_mul]; omega
    refine ⟨c, r.take (j * d.sz + off) ++ news ++ r.drop (j * d.sz + off + news.length), ?_, h1, Reps.setf df h2 (by simpa using hj) ho (by simpa using hk)⟩
    rw [e, List.take_length_add_append, Nat.add_assoc c.length, List.drop_length_add_append]
    simp
theorem Reps.of_get : ∀ {xs : List α} {cs : List Value}, cs.length = xs.length * d.sz → (∀ i x, xs[i]? = some x → d.K z x ((cs.drop (i * d.sz)).take d.sz)) → Reps d z xs cs
  | [], cs, hl, _ => by simp at hl; simp [Reps, hl]
  | x :: xs, cs, hl, h => by
    refine ⟨cs.take d.sz, cs.drop d.sz, by simp, by simpa using h 0 x rfl, Reps.of_get ?_ fun i y hy => ?_⟩
    · rw [List.length_drop, hl, List.length_cons, Nat.add_mul]; omega
    · have := h (i + 1) y (by simpa using hy)
      rwa [Nat.add_mul, Nat.one_mul, Nat.add_comm, ← List.drop_drop] at this
end
theorem Chg.setRow {w : World} {g : Nat} {cur cs : Array Value} {t : TypeId} {fr : Nat × Nat} : Chg [g] w (w.setRow g cs) :=
  ⟨rfl, rfl, rfl, by simp [World.setRow], fun k hk hn => by
    have hne : g ≠ k := fun e => hn (by simp [e])
    simp only [World.setRow]
    rw [Array.getElem?_modify, if_neg hne]⟩
section
variable {P : Program} {α : Type} {d : Kd α} {e : TypeId} {B : Nat} {q : Z} {w : World} {A : Option Addr} {c : Nat} {xs : List α}
theorem Own.overc {xs' : List α} {news : List Value} {p : Nat} {a : Addr} (h : Own d e B q w A c xs) (hA : A = some a) (h1 : ∀ u ∈ news, u.oneCell' = true) (hp : p + news.length ≤ xs.length * d.sz) (hl : xs'.length = xs.length)
    (hr : ∀ inner, Reps d q xs inner → Reps d q xs' (inner.take p ++ news ++ inner.drop (p + news.length))) :
    ∃ w', (storeCells (a.add p) news 0).run P w = .ok () w' ∧ Chg (blk A) w w' ∧ Own d e B q w' A c xs' := by
  subst hA
  obtain ⟨inner, ⟨h2, h3⟩, h4⟩ := h
  rcases h3 with ⟨he, _⟩ | ⟨g, cap, cur, he, hg, hh, hcap, hmax, hsz, htk⟩
  · cases he
  injection he with h5 h6 h7
  injection h5 with h5
  subst h5
  have hle : xs.length * d.sz ≤ cap * d.sz := Nat.mul_le_mul_right _ hcap
  have hst := run_storeCells_at P g p e news 0 cur w hh (by omega) h1
  rw [Nat.add_zero] at hst
  rw [add_at]
  refine ⟨_, hst, Chg.setRow (cur := cur) (t := e) (fr := (0, 0)), ?_⟩
  have hlt : inner.length = xs.length * d.sz := h2
  have hcl : cur.toList.length = cap * d.sz := by simpa using hsz
  refine ⟨inner.take p ++ news ++ inner.drop (p + news.length), ⟨?_, .inr ⟨g, cap, _, ?_, hg, setRow_heap w g cur _ e (0, 0) hh, ?_, hmax, ?_, ?_⟩⟩, hr inner h4⟩
  · rw [hl]; simp only [List.length_append, List.length_take, List.length_drop]; omega
  · rw [hl, h7]
  · omega
  · simp only [List.size_toArray, List.length_append, List.length_take, List.length_drop]; omega
  · rw [hl, ← htk]
    apply List.ext_getElem?
    intro i
    simp only [List.getElem?_take, List.getElem?_append, List.getElem?_drop, List.length_append, List.length_take, List.length_drop]
    have hmin : min p (min (xs.length * d.sz) cur.toList.length) = p := by omega
    have hmin2 : min p cur.toList.length = p := by omega
    rw [hmin, hmin2]
    by_cases hi : i < xs.length * d.sz
    · rw [if_pos hi]
      by_cases h8 : i < p + news.length
      · rw [if_pos h8, if_pos h8]
        by_cases h9 : i < p
        · simp [h9]; intro h10; omega
        · simp [h9]
      · rw [if_neg h8, if_neg h8, if_pos (by omega)]
    · rw [if_neg hi, if_neg (by omega), if_neg (by omega)]
end
section
variable {P : Program} {N : Sz} {ops : Array Oper} {Q : Exit → Act → World → Prop} {o : Oper} {f : Fr} {w w0 : World} {k : Value → World → Prop} {X : Nat → Prop} {z : Z} {rs : List Res}
theorem Sp.own_set {α : Type} {d : Kd α} {e : TypeId} {q : Z} {A : Option Addr} {c : Nat} {xs xs' : List α} {w' : World} (hS : Sp X w0 z w rs) (i : Nat) (hi : nth rs i = some (oR d e q A c xs)) (hc : Chg (blk A) w w') (ho : Own d e 0 q w' A c xs') : Sp X w0 z w' (upd rs i (oR d e q A c xs')) :=
  hS.set i hi (Chg.chp hc) ho fun k hk => .inl hk
theorem S_setf {α : Type} {d : Kd α} {T e : TypeId} {q : Z} {A : Option Addr} {c : Nat} {xs : List α} {x y : Operand} {a ad : Addr} {j off : Nat} {v : Value} {y' : α} (df : α) (hS : Sp X w0 z w rs) (i : Nat) (hi : nth rs i = some (oR d e q A c xs)) (hg : o.guard = none)
    (ho : o.op = .store T x y) (hA : A = some a) (hj : j < xs.length) (had : ad = a.add (j * d.sz + off)) (hx : ev f x = some (.pointer (some ad))) (hy : ev f y = some v) (hs : ∀ w, (sizeOf T).run P w = .ok v.cells.size w) (h1 : ∀ u ∈ v.cells.toList, u.oneCell' = true) (hof : off + v.cells.size ≤ d.sz)
    (hk : ∀ cs, d.K q (xs.getD j df) cs → d.K q y' (cs.take off ++ v.cells.toList ++ cs.drop (off + v.cells.size))) (h : ∀ w', Sp X w0 z w' (upd rs i (oR d e q A c (xs.set j y'))) → k undef w') : Sv P N ops Q o f w k := by
  subst had
  have hO : Own d e 0 q w A c xs := hS.at_ i hi
  have hle : (j + 1) * d.sz ≤ xs.length * d.sz := Nat.mul_le_mul_right _ hj
  rw [Nat.add_mul] at hle
  obtain ⟨w', h2, h3, h4⟩ := hO.overc (P := P) (xs' := xs.set j y') (news := v.cells.toList) (p := j * d.sz + off) hA h1 (by simp only [Array.length_toList]; omega) (by simp) fun inner hr =>
    hr.setf df hj (by simpa using hof) (by simpa using hk)
  refine Sv_skip hg (w' := w') (fun e' he => ?_) (h w' (hS.own_set i hi h3 h4))
  simp [execOp, ho, he x _ hx, he y _ hy, Instr.storeAt, Instr.sureAddr, storeVar, hs, h2]
theorem S_make {α : Type} {d : Kd α} {t e : TypeId} {q : Z} {l c : Operand} {n : Int} {zc : List Value} {bytes : Nat} (x0 : α) (hS : Sp X w0 z w rs) (hg : o.guard = none) (ho : o.op = .makeSlice t l c) (hl : ev f l = some (.int .i64 n)) (hc : ev f c = some (.int .i64 n))
    (ht : P.underlying t = some (.slice e)) (hi : (P.info? e).map (fun i => (i.zero.map (fun z => z.cells.toList), i.size, i.bytes)) = some (some zc, d.sz, bytes)) (hz : d.K q x0 zc) (hz0 : 0 < d.sz) (h0 : 0 ≤ n) (hb : n * (bytes : Int) ≤ 140737488355328) (hm : n ≤ 9223372036854775807)
    (h : ∀ g w', Sp X w0 z w' (oR d e q (some ⟨g, 0, none⟩) n.toNat (List.replicate n.toNat x0) :: rs) → k (.slice (some ⟨g, 0, none⟩) (List.replicate n.toNat x0).length n.toNat) w') : Sv P N ops Q o f w k := by
  obtain ⟨i, h1, h2⟩ := Option.map_eq_some_iff.1 hi
  simp only [Prod.mk.injEq] at h2
  obtain ⟨h2, h3, h4⟩ := h2
  obtain ⟨zv, h5, h6⟩ := Option.map_eq_some_iff.1 h2
  have hrun := run_make (P := P) w t e i zv ht h1 h5 .i64 .i64 n n h0 (Int.le_refl _) (by rw [h4]; have := Int.mul_comm (bytes : Int) n; omega) hm
  have hzl : zv.cells.size = d.sz := by have := d.len hz; rw [← h6] at this; simpa using this
  have hO : Own d e w.heap.size q (w.alloc (.cells (madeCells zv.cells (n.toNat * i.size)) e)) (some ⟨w.heap.size, 0, none⟩) n.toNat (List.replicate n.toNat x0) := by
    have := Own.new (d := d) (e := e) (w := w) (z := q) (xs := List.replicate n.toNat x0) (cs := (madeCells zv.cells (n.toNat * i.size)).toList) (Reps.of_get (by simp [size_madeCells, h3]) fun j x hx => ?_) (by simp [maxLen]; omega) w.heap.size (Nat.le_refl _)
    · simpa using this
    · have hj : j < n.toNat := by have := (List.getElem?_eq_some_iff.1 hx).1; simpa using this
      obtain rfl : x = x0 := by rw [List.getElem?_replicate] at hx; simp [hj] at hx; exact hx.symm
      have : ((madeCells zv.cells (n.toNat * i.size)).toList.drop (j * d.sz)).take d.sz = zc := by
        rw [← h6]
        apply List.ext_getElem?
        intro u
        have hle : (j + 1) * d.sz ≤ n.toNat * d.sz := Nat.mul_le_mul_right _ hj
        rw [Nat.add_mul] at hle
        rw [List.getElem?_take, List.getElem?_drop]
        by_cases hu : u < d.sz
        · rw [if_pos hu]
          have h7 : j * d.sz + u < n.toNat * i.size := by rw [h3]; omega
          have h8 : (j * d.sz + u) % zv.cells.size = u := by rw [hzl, Nat.add_comm, Nat.add_mul_mod_self_right, Nat.mod_eq_of_lt hu]
          have h9 : u < zv.cells.size := by omega
          simp [madeCells, h7, h8, h9]
        · rw [if_neg hu, List.getElem?_eq_none (by simpa using (by omega : zv.cells.size ≤ u))]
      rw [this]; exact hz
  have hpush : Sp X w0 z (w.alloc (.cells (madeCells zv.cells (n.toNat * i.size)) e)) (oR d e q (some ⟨w.heap.size, 0, none⟩) n.toNat (List.replicate n.toNat x0) :: rs) :=
    hS.push (Chg.alloc w _) (hO.lower (Nat.zero_le _)) fun k hk => hO.base k hk
  refine Sv_val hg (v := .slice (some ⟨w.heap.size, 0, none⟩) n.toNat n.toNat) (fun e' he => ?_) (by have := h w.heap.size _ hpush; simpa using this)
  simp [execOp, ho, he l _ hl, he c _ hc, hrun]
theorem R_cutvl {T : TypeId} {x lo : Operand} {A : Option Addr} {n c sz : Nat} {i : Int} (ho : o.op = .slice T x (some lo) none none) (hx : ev f x = some (.slice A n c)) (hl : ev f lo = some (.int .i64 i))
    (hT : P.underlying T = some (.slice (P.elem T))) (hs : ∀ w, (sizeOf (P.elem T)).run P w = .ok sz w) (h0 : 0 ≤ i) (h1 : i ≤ n) : Runs P o f w (sliced A i.toNat n c sz) w := fun e he => by
  have h3 := run_slice_l (P := P) (w := w) T A n c hT .i64 i h0 h1
  simp [execOp, ho, he x _ hx, he lo _ hl, run_sliceAt_slice, hT, h3, hs]
theorem R_cutvh {T : TypeId} {x hi : Operand} {A : Option Addr} {n c sz : Nat} {j : Int} (ho : o.op = .slice T x none (some hi) none) (hx : ev f x = some (.slice A n c)) (hh : ev f hi = some (.int .i64 j))
    (hT : P.underlying T = some (.slice (P.elem T))) (hs : ∀ w, (sizeOf (P.elem T)).run P w = .ok sz w) (h0 : 0 ≤ j) (h2 : j ≤ c) : Runs P o f w (.slice A j.toNat c) w := fun e he => by
  have h3 := run_slice_h (P := P) (w := w) T A n c hT .i64 j h0 h2
  simp [execOp, ho, he x _ hx, he hi _ hh, run_sliceAt_slice, hT, h3, hs, sliced]
  cases A <;> simp [Addr.add]
theorem Own.srcCut {α : Type} {d : Kd α} {e : TypeId} {q : Z} {B : Nat} {A : Option Addr} {c : Nat} {xs : List α} (h : Own d e B q w A c xs) (lo hi : Nat) (h1 : lo ≤ hi) (h2 : hi ≤ xs.length) : Src w d q (if c = lo then A else A.map (fun a_ : Addr => a_.add (lo * d.sz))) (c - lo) ((xs.take hi).drop lo) := by
  have hcap := h.cap
  obtain ⟨news, h3, h4⟩ := h.cells
  obtain ⟨h5, _⟩ := h3.split hi h2
  have hl : (xs.take hi).length = hi := by rw [List.length_take]; omega
  obtain ⟨_, h6⟩ := h5.split lo (by omega)
  refine ⟨fun hn => ?_, _, h6, fun j u hu => ?_⟩
  · by_cases hc : c = lo
    · omega
    · rw [if_neg hc] at hn
      have : A = none := by cases A <;> simp_all
      have := hcap.nil this
      omega
  · rw [List.getElem?_drop, List.getElem?_take] at hu
    split at hu
    · rename_i hlt
      have hlen := h3.len
      have hc : ¬ c = lo := fun hc => by
        have := hcap.le
        have : hi = lo := by omega
        subst this
        omega
      rw [if_neg hc]
      obtain ⟨ad, h7, h8⟩ := h4 _ u hu
      exact ⟨ad.add (lo * d.sz), by rw [h7]; rfl, by rw [add_add]; exact h8⟩
    · cases hu
theorem S_copy {α : Type} {d : Kd α} {T1 T2 e e' : TypeId} {q : Z} {A A2 : Option Addr} {c c2 lo hi : Nat} {xs ys : List α} {s x : Operand} (hS : Sp X w0 z w rs) (i : Nat) (hi' : nth rs i = some (oR d e q A c xs)) (hg : o.guard = none)
    (ho : o.op = .call { callee := .builtin .copy, args := #[s, x], argTypes := #[T1, T2] }) (hs : ev f s = some (sliced A lo hi c d.sz)) (hlo : lo ≤ hi) (hhi : hi ≤ xs.length) (hx : ev f x = some (.slice A2 ys.length c2)) (hsrc : Src w d q A2 c2 ys)
    (hT : P.underlying T1 = some (.slice e')) (hz : ∀ w, (sizeOf e').run P w = .ok d.sz w)
    (h : ∀ w', Sp X w0 z w' (upd rs i (oR d e q A c (xs.take lo ++ ys.take (hi - lo) ++ xs.drop (lo + min ys.length (hi - lo))))) → k (.int .i64 ((min ys.length (hi - lo) : Nat) : Int)) w') : Sv P N ops Q o f w k := by
  have hO : Own d e 0 q w A c xs := hS.at_ i hi'
  obtain ⟨hcn, news, h1, h2⟩ := hsrc
  obtain ⟨m, hm⟩ : ∃ m, min ys.length (hi - lo) = m := ⟨_, rfl⟩
  have hml : m ≤ ys.length := by omega
  have hmle : m * d.sz ≤ ys.length * d.sz := Nat.mul_le_mul_right _ hml
  obtain ⟨h3, _⟩ := h1.split m hml
  have hnl := h1.len
  have htk : ys.take (hi - lo) = ys.take m := by
    rw [← hm, List.take_eq_take_iff]; omega
  have hlen : (news.take (m * d.sz)).length = m * d.sz := by rw [List.length_take]; omega
  -- the cells that are read
  have hload : (Builtin.firstCells d.sz m (.slice A2 ys.length c2)).run P w = .ok (news.take (m * d.sz)).toArray w := by
    cases A2 with
    | none =>
      have : news = [] := by
        cases news with
        | nil => rfl
        | cons v r => obtain ⟨ad, h5, _⟩ := h2 0 v rfl; cases h5
      subst this
      simp [Builtin.firstCells]
    | some ad =>
      have := run_loadCells (P := P) (w := w) (a := ad) (news.take (m * d.sz)) 0 #[] (fun j u hu => by
        rw [List.getElem?_take] at hu
        split at hu
        · obtain ⟨ad', h5, h6⟩ := h2 j u hu
          injection h5 with h5
          subst h5
          rwa [Nat.zero_add]
        · cases hu)
      rw [hlen] at this
      simp [Builtin.firstCells, loadCells, this]
  have hcap := hO.cap
  obtain ⟨w', h5, h6, h7⟩ : ∃ w', (match (if c = lo then A else A.map (fun a_ : Addr => a_.add (lo * d.sz))) with | some a => storeCells a (news.take (m * d.sz)) 0 | none => pure ()).run P w = .ok () w' ∧ Chg (blk A) w w' ∧ Own d e 0 q w' A c (xs.take lo ++ ys.take m ++ xs.drop (lo + m)) := by
    by_cases hm0 : m = 0
    · subst hm0
      refine ⟨w, ?_, Chg.refl _ _, by simpa using hO⟩
      split <;> simp [storeCells]
    · cases A with
      | none => have := hcap.nil rfl; have := hcap.le; omega
      | some a =>
        have hc : ¬ c = lo := by have := hcap.le; omega
        rw [if_neg hc]
        have hle : (lo + m) * d.sz ≤ xs.length * d.sz := Nat.mul_le_mul_right _ (by omega)
        rw [Nat.add_mul] at hle
        have hlm : (ys.take m).length = m := by rw [List.length_take]; omega
        exact hO.overc (P := P) (xs' := xs.take lo ++ ys.take m ++ xs.drop (lo + m)) (news := news.take (m * d.sz)) (p := lo * d.sz) rfl (h3.one) (by omega) (by simp only [List.length_append, List.length_take, List.length_drop]; omega) fun inner hr => by
          obtain ⟨g1, _⟩ := hr.split lo (by omega)
          obtain ⟨_, g2⟩ := hr.split (lo + m) (by omega)
          rw [hlen, ← Nat.add_mul]
          exact (g1.append h3).append g2
  rw [hm, htk] at h
  refine Sv_val hg (v := .int .i64 (m : Int)) (fun e' he => ?_) (h w' (hS.own_set i hi' h6 h7))
  have hmin : Nat.min ys.length (hi - lo) = m := hm
  have hrun : (Builtin.copy_ #[T1, T2] o.type #[sliced A lo hi c d.sz, .slice A2 ys.length c2]).run P w = .ok (goInt m) w' := by
    unfold sliced
    cases hA : (if c = lo then A else A.map (fun a_ : Addr => a_.add (lo * d.sz))) with
    | none =>
      rw [hA] at h5
      simp at h5
      subst h5
      simp [Builtin.copy_, run_underlying hT, Builtin.lenOf, hz, hmin, hload]
    | some a =>
      rw [hA] at h5
      simp only at h5
      simp [Builtin.copy_, run_underlying hT, Builtin.lenOf, hz, hmin, hload, h5]
  simp [execOp, ho, resolve, invoke, builtin, he s _ hs, he x _ hx, hrun, goInt]
theorem sliced_whole (A : Option Addr) (n c sz : Nat) : Value.slice A n c = sliced A 0 n c sz := by
  unfold sliced
  have : (if c = 0 then A else A.map (fun a_ : Addr => a_.add (0 * sz))) = A := by
    split
    · rfl
    · cases A <;> simp [Addr.add]
  rw [this]; simp
theorem S_copyW {α : Type} {d : Kd α} {T1 T2 e e' : TypeId} {q : Z} {A A2 : Option Addr} {c c2 : Nat} {xs ys : List α} {s x : Operand} (hS : Sp X w0 z w rs) (i : Nat) (hi' : nth rs i = some (oR d e q A c xs)) (hg : o.guard = none)
    (ho : o.op = .call { callee := .builtin .copy, args := #[s, x], argTypes := #[T1, T2] }) (hs : ev f s = some (.slice A xs.length c)) (hx : ev f x = some (.slice A2 ys.length c2)) (hsrc : Src w d q A2 c2 ys)
    (hT : P.underlying T1 = some (.slice e')) (hz : ∀ w, (sizeOf e').run P w = .ok d.sz w)
    (h : ∀ w', Sp X w0 z w' (upd rs i (oR d e q A c (ys.take xs.length ++ xs.drop ys.length))) → k (.int .i64 ((min ys.length xs.length : Nat) : Int)) w') : Sv P N ops Q o f w k := by
  refine S_copy (lo := 0) (hi := xs.length) hS i hi' hg ho (by rw [hs, sliced_whole A _ c d.sz]) (Nat.zero_le _) (Nat.le_refl _) hx hsrc hT hz fun w' hS' => ?_
  have e1 : xs.take 0 ++ ys.take (xs.length - 0) ++ xs.drop (0 + min ys.length (xs.length - 0)) = ys.take xs.length ++ xs.drop ys.length := by
    simp only [List.take_zero, List.nil_append, Nat.sub_zero, Nat.zero_add]
    congr 1
    by_cases hl : ys.length ≤ xs.length
    · rw [Nat.min_eq_left hl]
    · rw [Nat.min_eq_right (by omega), List.drop_length, List.drop_eq_nil_of_le (by omega)]
  rw [e1] at hS'
  exact h w' hS'
theorem R_eq {v v' : Value} (h : Runs P o f w v w) (e : v = v') : Runs P o f w v' w := e ▸ h
theorem ev_cut {α : Type} {xs : List α} {x : Operand} {A : Option Addr} {lo hi c sz : Nat} (h : ev f x = some (sliced A lo hi c sz)) (h2 : hi ≤ xs.length) :
    ev f x = some (.slice (if c = lo then A else A.map (fun a_ : Addr => a_.add (lo * sz))) ((xs.take hi).drop lo).length (c - lo)) := by
  rw [h]
  unfold sliced
  have : ((xs.take hi).drop lo).length = hi - lo := by rw [List.length_drop, List.length_take]; omega
  rw [this]
end
end Go.Proofs.YtaljccgfnmfhnaaGreatDoorG
set_option linter.all false
namespace Go.Proofs.YtaljccgfnmfhnaaGreatDoorG
open Go Go.RowKit
section
variable {α β : Type}
def inR (d : Kd β) (e : TypeId) (row : α → List β) (ys : List (α × Option Addr × Nat)) : Res := allR (ys.map fun y => oR d e zE y.2.1 y.2.2 (row y.1))
def inX (d : Kd β) (e : TypeId) (row : α → List β) (ys : List (α × Option Addr × Nat)) (k : Nat) : Res := allR ((ys.eraseIdx k).map fun y => oR d e zE y.2.1 y.2.2 (row y.1))
variable {d : Kd β} {e e0 : TypeId} {row : α → List β} {ys : List (α × Option Addr × Nat)} {X : Nat → Prop} {w0 w : World} {z : Z} {rs : List Res} {A : Option Addr} {c : Nat}
theorem Sp.inNil (h : Sp X w0 z w rs) (d : Kd β) (e : TypeId) (row : α → List β) : Sp X w0 z w (inR d e row [] :: rs) := (show Sp X w0 z w ([] ++ rs) from h).bunf
theorem nth_two {r1 r2 : Res} {rs : List Res} {i j : Nat} (hi : nth rs i = some r1) (hj : nth rs j = some r2) (hij : i ≠ j) : rs.Perm (r1 :: r2 :: rest rs 0 [i, j]) := by
  have h1 := nth_perm hi
  have key : ∀ (rs : List Res) (n : Nat) (l : List Nat), (∀ i ∈ l, i < n) → rest rs n l = rs := by
    intro rs
    induction rs with
    | nil => intro n l _; rfl
    | cons r rs ih =>
      intro n l hl
      have : l.contains n = false := by
        cases hb : l.contains n with
        | false => rfl
        | true => have := hl n (List.contains_iff_mem.1 hb); omega
      simp only [rest, this, cond_false]
      rw [ih (n + 1) l (fun i hi => by have := hl i hi; omega)]
  have one : ∀ (rs : List Res) (n i : Nat), rest rs n [n + i] = del rs i := by
    intro rs
    induction rs with
    | nil => intro n i; cases i <;> rfl
    | cons r rs ih =>
      intro n i
      cases i with
      | zero => simp only [Nat.add_zero, rest, List.contains_cons, BEq.rfl, Bool.true_or, cond_true, del]; exact key rs (n + 1) [n] (by simp)
      | succ i =>
        have hne : (n == n + (i + 1)) = false := by simp
        simp only [rest, List.contains_cons, hne, List.contains_nil, Bool.or_false, cond_false, del]
        rw [show n + (i + 1) = n + 1 + i from by omega, ih (n + 1) i]
  have two : ∀ (rs : List Res) (n i j : Nat), i ≠ j → nth rs i = some r1 → nth rs j = some r2 → rs.Perm (r1 :: r2 :: rest rs n [n + i, n + j]) := by
    intro rs
    induction rs with
    | nil => intro n i j _ h; cases h
    | cons r rs ih =>
      intro n i j hij h1 h2
      cases i with
      | zero =>
        obtain rfl := Option.some.inj h1
        cases j with
        | zero => exact absurd rfl hij
        | succ j =>
          refine List.Perm.cons _ ?_
          have : rest (r :: rs) n [n + 0, n + (j + 1)] = rest rs (n + 1) [n + 1 + j] := by
            have h3 : ∀ (rs : List Res) (k : Nat), n < k → rest rs k [n + 0, n + (j + 1)] = rest rs k [n + 1 + j] := by
              intro rs
              induction rs with
              | nil => intro k _; rfl
              | cons q rs ih2 =>
                intro k hk
                have h4 : ([n + 0, n + (j + 1)] : List Nat).contains k = ([n + 1 + j] : List Nat).contains k := by
                  have : (k == n) = false := by simp; omega
                  simp only [List.contains_cons, Nat.add_zero, this, Bool.false_or, show n + (j + 1) = n + 1 + j from by omega]
                simp only [rest, h4, ih2 (k + 1) (by omega)]
            have h5 : ([n + 0, n + (j + 1)] : List Nat).contains n = true := by simp
            simp only [rest, h5, cond_true]
            exact h3 rs (n + 1) (by omega)
          rw [this, one]
          exact nth_perm (rs := rs) (i := j) h2
      | succ i =>
        cases j with
        | zero =>
          obtain rfl := Option.some.inj h2
          have h6 := nth_perm (rs := rs) (i := i) h1
          have : rest (r :: rs) n [n + (i + 1), n + 0] = rest rs (n + 1) [n + 1 + i] := by
            have h3 : ∀ (rs : List Res) (k : Nat), n < k → rest rs k [n + (i + 1), n + 0] = rest rs k [n + 1 + i] := by
              intro rs
              induction rs with
              | nil => intro k _; rfl
              | cons q rs ih2 =>
                intro k hk
                have h4 : ([n + (i + 1), n + 0] : List Nat).contains k = ([n + 1 + i] : List Nat).contains k := by
                  have : (k == n) = false := by simp; omega
                  simp only [List.contains_cons, Nat.add_zero, this, Bool.false_or, List.contains_nil, Bool.or_false, show n + (i + 1) = n + 1 + i from by omega]
                simp only [rest, h4, ih2 (k + 1) (by omega)]
            have h5 : ([n + (i + 1), n + 0] : List Nat).contains n = true := by simp
            simp only [rest, h5, cond_true]
            exact h3 rs (n + 1) (by omega)
          rw [this, one]
          exact (h6.cons r).trans (List.Perm.swap _ _ _)
        | succ j =>
          have h7 := ih (n + 1) i j (by omega) h1 h2
          have hc : ([n + (i + 1), n + (j + 1)] : List Nat).contains n = false := by simp
          have : rest (r :: rs) n [n + (i + 1), n + (j + 1)] = r :: rest rs (n + 1) [n + 1 + i, n + 1 + j] := by
            rw [show n + (i + 1) = n + 1 + i from by omega, show n + (j + 1) = n + 1 + j from by omega] at hc ⊢
            simp only [rest, hc, cond_false]
          rw [this]
          exact ((h7.cons r).trans (List.Perm.swap _ _ _)).trans ((List.Perm.swap _ _ _).cons _)
  have := two rs 0 i j hij hi hj
  simpa using this
theorem Sp.inAdd (h : Sp X w0 z w rs) (i j : Nat) {r : List β} (x : α) (hi : nth rs i = some (inR d e row ys)) (hj : nth rs j = some (oR d e zE A c r)) (hij : i ≠ j) (hx : row x = r) : Sp X w0 z w (inR d e row (ys ++ [(x, A, c)]) :: rest rs 0 [i, j]) := by
  subst hx
  have h1 := h.perm (nth_two hi hj hij)
  have h2 : Sp X w0 z w ((ys.map fun y => oR d e zE y.2.1 y.2.2 (row y.1)) ++ (oR d e zE A c (row x) :: rest rs 0 [i, j])) := h1.unb
  have h3 : Sp X w0 z w (((ys ++ [(x, A, c)]).map fun y => oR d e zE y.2.1 y.2.2 (row y.1)) ++ rest rs 0 [i, j]) := by
    simpa using h2
  exact h3.bunf
theorem perm_erase {γ : Type _} : ∀ {ys : List γ} {k : Nat} (df : γ), k < ys.length → ys.Perm (ys.getD k df :: ys.eraseIdx k)
  | y :: ys, 0, df, _ => .refl _
  | y :: ys, k + 1, df, hk => by
    have h1 := perm_erase (ys := ys) (k := k) df (by simpa using hk)
    simpa using (h1.cons y).trans (.swap _ _ _)
theorem Sp.focus (h : Sp X w0 z w rs) (i : Nat) (hi : nth rs i = some (inR d e row ys)) (k : Nat) (hk : k < ys.length) (df : α × Option Addr × Nat) : Sp X w0 z w (oR d e zE (ys.getD k df).2.1 (ys.getD k df).2.2 (row (ys.getD k df).1) :: inX d e row ys k :: del rs i) := by
  have h1 := (h.perm (nth_perm hi)).unb
  have h2 := h1.perm (((perm_erase df hk).map (fun y => oR d e zE y.2.1 y.2.2 (row y.1))).append_right _)
  have h3 : Sp X w0 z w (((ys.eraseIdx k).map fun y => oR d e zE y.2.1 y.2.2 (row y.1)) ++ (oR d e zE (ys.getD k df).2.1 (ys.getD k df).2.2 (row (ys.getD k df).1) :: del rs i)) := h2.perm List.perm_middle.symm
  exact h3.bunf.perm (List.Perm.swap _ _ _)
theorem Sp.unfocus (h : Sp X w0 z w rs) (i j : Nat) {r : List β} (x : α) {k : Nat} (hi : nth rs i = some (inX d e row ys k)) (hj : nth rs j = some (oR d e zE A c r)) (hij : i ≠ j) (hk : k < ys.length) (hx : row x = r) : Sp X w0 z w (inR d e row (ys.set k (x, A, c)) :: rest rs 0 [i, j]) := by
  subst hx
  have h1 := h.perm (nth_two hi hj hij)
  have h2 : Sp X w0 z w (((ys.eraseIdx k).map fun y => oR d e zE y.2.1 y.2.2 (row y.1)) ++ (oR d e zE A c (row x) :: rest rs 0 [i, j])) := h1.unb
  have h3 : (ys.set k (x, A, c)).Perm ((x, A, c) :: ys.eraseIdx k) := by
    have h4 := perm_erase (ys := ys.set k (x, A, c)) (k := k) (x, A, c) (by simpa using hk)
    have h5 : (ys.set k (x, A, c)).getD k (x, A, c) = (x, A, c) := by simp [List.getD, hk]
    have h6 : (ys.set k (x, A, c)).eraseIdx k = ys.eraseIdx k := by
      rw [List.eraseIdx_eq_take_drop_succ, List.eraseIdx_eq_take_drop_succ, List.take_set_of_le (Nat.le_refl _), List.drop_set_of_lt (by omega)]
    rwa [h5, h6] at h4
  have h7 : Sp X w0 z w (((ys.set k (x, A, c)).map fun y => oR d e zE y.2.1 y.2.2 (row y.1)) ++ rest rs 0 [i, j]) := by
    refine h2.perm (List.perm_middle.trans ?_)
    exact ((h3.map (fun y => oR d e zE y.2.1 y.2.2 (row y.1))).append_right _).symm
  exact h7.bunf
theorem Sp.sealr {dM : Kd (α × Option Addr × Nat)} {dk : Kd α} (h : Sp X w0 z w rs) (i j : Nat) (hi : nth rs i = some (oR dM e0 zE A c ys)) (hj : nth rs j = some (inR d e row ys)) (hij : i ≠ j) (hsz : dM.sz = dk.sz)
    (hK : ∀ (q : Z) (y : α × Option Addr × Nat) (cs : List Value), dM.K zE y cs → Cap y.2.1 (row y.1).length y.2.2 → Rd d q y.2.1 (row y.1) → dk.K q y.1 cs) : ∃ q, Sp X w0 z w (zR q :: oR dk e0 q A c (ys.map Prod.fst) :: rest rs 0 [i, j]) := by
  have h1 := h.perm (nth_two hi hj hij)
  have hin : (inR d e row ys).P w := h1.at_ 1 rfl
  have hO : Own dM e0 0 zE w A c ys := h1.at_ 0 rfl
  have hall : ∀ y ∈ ys, Own d e 0 zE w y.2.1 y.2.2 (row y.1) := fun y hy => hin.1 _ (List.mem_map.2 ⟨y, hy, rfl⟩)
  have hF : ∀ k, (inR d e row ys).F k ↔ ∃ y ∈ ys, k ∈ blk y.2.1 := fun k => by
    constructor
    · rintro ⟨r, hr, hk⟩
      obtain ⟨y, hy, rfl⟩ := List.mem_map.1 hr
      exact ⟨y, hy, hk⟩
    · rintro ⟨y, hy, hk⟩
      exact ⟨_, List.mem_map.2 ⟨y, hy, rfl⟩, hk⟩
  classical
  obtain ⟨q, hq⟩ : ∃ q : Z, q = fun b => if (inR d e row ys).F b then cellsAt w b else none := ⟨_, rfl⟩
  have hqt : ∀ b, (inR d e row ys).F b → q b = cellsAt w b := fun b hb => by rw [hq]; simp [hb]
  have hqf : ∀ b, ¬ (inR d e row ys).F b → q b = none := fun b hb => by rw [hq]; simp [hb]
  have hqF : ∀ b, (zR q).F b → (inR d e row ys).F b := fun b hb => by
    by_cases hf : (inR d e row ys).F b
    · exact hf
    · exact absurd (hqf b hf) hb
  refine ⟨q, ?_⟩
  have hrd : ∀ y ∈ ys, Rd d q y.2.1 (row y.1) := fun y hy => (hall y hy).rd (zle_E _) fun k hk => hqt k ((hF k).2 ⟨y, hy, hk⟩)
  have hO' : Own dk e0 0 q w A c (ys.map Prod.fst) := by
    obtain ⟨inner, h2, h3⟩ := hO
    refine ⟨inner, by rw [List.length_map, ← hsz]; exact h2, ?_⟩
    have key : ∀ (l : List (α × Option Addr × Nat)) (inner : List Value), (∀ y ∈ l, y ∈ ys) → Reps dM zE l inner → Reps dk q (l.map Prod.fst) inner := by
      intro l
      induction l with
      | nil => intro inner _ h; exact h
      | cons y l ih =>
        rintro inner hl ⟨cs, r, rfl, h4, h5⟩
        have hy := hl y List.mem_cons_self
        exact ⟨cs, r, rfl, hK q y cs h4 (hall y hy).cap (hrd y hy), ih r (fun y' hy' => hl y' (List.mem_cons_of_mem _ hy')) h5⟩
    exact key ys inner (fun _ h => h) h3
  have hsub : Sub q w := fun b cs hb => by
    by_cases hf : (inR d e row ys).F b
    · rw [hqt b hf] at hb; exact hb
    · rw [hqf b hf] at hb; cases hb
  have hwr : Wr q w := fun b hb => by
    obtain ⟨y, hy, hk⟩ := (hF b).1 (hqF b hb)
    exact (hall y hy).wr b hk
  have h2 := (h1.perm (List.Perm.swap _ _ _)).as (r' := zR q) 0 rfl (fun _ => ⟨hsub, hwr⟩) hqF
  exact h2.as (r' := oR dk e0 q A c (ys.map Prod.fst)) 1 rfl (fun _ => hO') (fun _ h => h)
theorem Sp.reM {dM : Kd α} {ys : List α} (h : Sp X w0 z w rs) (i : Nat) (hi : nth rs i = some (oR dM e0 zE A c ys)) (k : Nat) (y : α) (df : α) (hk : k < ys.length) (hK : ∀ cs, dM.K zE (ys.getD k df) cs → dM.K zE y cs) : Sp X w0 z w (upd rs i (oR dM e0 zE A c (ys.set k y))) :=
  h.as i hi (fun ho => by
    obtain ⟨inner, h1, h2⟩ := (show Own dM e0 0 zE w A c ys from ho)
    refine ⟨inner, by simpa using h1, ?_⟩
    have := Reps.setf (y := y) (off := 0) (news := []) df h2 hk (by simp) (by simpa using hK)
    simpa using this) fun _ h => h
end
end Go.Proofs.YtaljccgfnmfhnaaGreatDoorG
set_option linter.all false
set_option maxHeartbeats 8000000
set_option maxRecDepth 100000
namespace Go.Proofs.YtaljccgfnmfhnaaGreatDoorG
open Go Go.RowKit
structure TStyle where
  Align : Int
  Wrap : Int
  Dir : Int
  deriving DecidableEq, Inhabited
def kdTStyle : Kd TStyle := flat 3 (fun x => [.int .i64 x.Align, .int .i64 x.Wrap, .int .i64 x.Dir]) (fun _ => rfl) (fun x u hu => by simp at hu; rcases hu with rfl | rfl | rfl <;> rfl)
structure TCell where
  Row : Int
  Col : Int
  Text : St
  Style : TStyle
  deriving DecidableEq, Inhabited
def kdTCell : Kd TCell := flat 6 (fun x => [.int .i64 x.Row, .int .i64 x.Col, vstr x.Text, .int .i64 x.Style.Align, .int .i64 x.Style.Wrap, .int .i64 x.Style.Dir]) (fun _ => rfl) (fun x u hu => by simp at hu; rcases hu with rfl | rfl | rfl | rfl | rfl | rfl <;> rfl)
structure TRect where
  Row : Int
  Col : Int
  Rows : Int
  Cols : Int
  deriving DecidableEq, Inhabited
def kdTRect : Kd TRect := flat 4 (fun x => [.int .i64 x.Row, .int .i64 x.Col, .int .i64 x.Rows, .int .i64 x.Cols]) (fun _ => rfl) (fun x u hu => by simp at hu; rcases hu with rfl | rfl | rfl | rfl <;> rfl)
structure TSheet where
  Right : Int
  Widths : List Int
  Heights : List Int
  Cells : List TCell
  Merges : List TRect
  deriving DecidableEq, Inhabited
def kdTSheet : Kd TSheet where
  sz := 5
  K := fun z x cs => ∃ A_Widths c_Widths A_Heights c_Heights A_Cells c_Cells A_Merges c_Merges, cs = [.int .i64 x.Right, .slice A_Widths x.Widths.length c_Widths, .slice A_Heights x.Heights.length c_Heights, .slice A_Cells x.Cells.length c_Cells, .slice A_Merges x.Merges.length c_Merges] ∧ Cap A_Widths x.Widths.length c_Widths ∧ Rd (kint .i64) z A_Widths x.Widths ∧ Cap A_Heights x.Heights.length c_Heights ∧ Rd (kint .i64) z A_Heights x.Heights ∧ Cap A_Cells x.Cells.length c_Cells ∧ Rd kdTCell z A_Cells x.Cells ∧ Cap A_Merges x.Merges.length c_Merges ∧ Rd kdTRect z A_Merges x.Merges
  mono := by
    rintro z z' x cs hz ⟨A_Widths, c_Widths, A_Heights, c_Heights, A_Cells, c_Cells, A_Merges, c_Merges, rfl, hc0, hr0, hc1, hr1, hc2, hr2, hc3, hr3⟩
    exact ⟨_, _, _, _, _, _, _, _, rfl, hc0, hr0.mono hz, hc1, hr1.mono hz, hc2, hr2.mono hz, hc3, hr3.mono hz⟩
  len := by
    rintro z x cs ⟨_, _, _, _, _, _, _, _, rfl, _⟩
    rfl
  one := by
    rintro z x cs ⟨_, _, _, _, _, _, _, _, rfl, _⟩ u hu
    simp at hu
    rcases hu with rfl | rfl | rfl | rfl | rfl <;> rfl
structure Ar2_Int where
  e0 : Int
  e1 : Int
  deriving DecidableEq, Inhabited
structure Ar3_Int where
  e0 : Int
  e1 : Int
  e2 : Int
  deriving DecidableEq, Inhabited
structure TPlain where
  l : List (List St)
  deriving DecidableEq, Inhabited
structure TFault where
  e : Int
  at_ : Int
  deriving DecidableEq, Inhabited
structure TMaker where
  Sheet : TSheet
  deriving DecidableEq, Inhabited
def kMRowSt : Kd (List St × Option Addr × Nat) := flat 1 (fun y => [.slice y.2.1 y.1.length y.2.2]) (fun _ => rfl) (fun y u hu => by simp at hu; subst hu; rfl)
end Go.Proofs.YtaljccgfnmfhnaaGreatDoorG
set_option linter.all false
set_option maxHeartbeats 8000000
set_option maxRecDepth 100000
set_option maxRecDepth 100000
namespace Go.Proofs.YtaljccgfnmfhnaaGreatDoorG
open Go Go.Shelf Go.RowKit Go.Proofs
def rho : Ren := ⟨fun | 119 => 132 | 137 => 131 | 138 => 126 | 143 => 128 | 152 => 122 | 153 => 117 | 154 => 118 | 155 => 104 | 165 => 127 | 166 => 101 | 169 => 102 | 195 => 135 | 197 => 129 | 217 => 141 | 218 => 136 | 219 => 138 | 224 => 133 | 225 => 134 | 226 => 123 | 227 => 124 | 228 => 125 | 240 => 116 | 241 => 137 | 260 => 139 | 266 => 144 | 267 => 143 | 276 => 121 | 277 => 142 | 314 => 145 | n => n, fun | 0 => 0 | 3 => 3 | 4 => 4 | 5 => 5 | 9 => 9 | 20 => 20 | 21 => 21 | 37 => 110 | 46 => 143 | 51 => 175 | 70 => 147 | 72 => 149 | 75 => 64 | 76 => 150 | 80 => 152 | 105 => 193 | 116 => 189 | 117 => 190 | 119 => 202 | 124 => 199 | 127 => 181 | 138 => 204 | 139 => 205 | 146 => 176 | 164 => 131 | n => n, fun | 1 => 1 | 3 => 2 | 4 => 3 | n => n⟩
theorem lays155 : Lays.n155 Tryz.prog rho where
  mixed := by kernel_rfl
  f138 := Tryz.func126.trans (congrArg some (by kernel_rfl))
  f143 := Tryz.func128.trans (congrArg some (by kernel_rfl))
  f154 := Tryz.func118.trans (congrArg some (by kernel_rfl))
  f155 := Tryz.func104.trans (congrArg some (by kernel_rfl))
  f165 := Tryz.func127.trans (congrArg some (by kernel_rfl))
  f166 := Tryz.func101.trans (congrArg some (by kernel_rfl))
  f169 := Tryz.func102.trans (congrArg some (by kernel_rfl))
  f195 := Tryz.func135.trans (congrArg some (by kernel_rfl))
  f197 := Tryz.func129.trans (congrArg some (by kernel_rfl))
  f217 := Tryz.func141.trans (congrArg some (by kernel_rfl))
  f218 := Tryz.func136.trans (congrArg some (by kernel_rfl))
  f219 := Tryz.func138.trans (congrArg some (by kernel_rfl))
  f224 := Tryz.func133.trans (congrArg some (by kernel_rfl))
  f225 := Tryz.func134.trans (congrArg some (by kernel_rfl))
  f240 := Tryz.func116.trans (congrArg some (by kernel_rfl))
  f241 := Tryz.func137.trans (congrArg some (by kernel_rfl))
  f260 := Tryz.func139.trans (congrArg some (by kernel_rfl))
  f266 := Tryz.func144.trans (congrArg some (by kernel_rfl))
  f267 := Tryz.func143.trans (congrArg some (by kernel_rfl))
  f276 := Tryz.func121.trans (congrArg some (by kernel_rfl))
  f277 := Tryz.func142.trans (congrArg some (by kernel_rfl))
  f314 := Tryz.func145.trans (congrArg some (by kernel_rfl))
  t0 := Tryz.underlying0
  a0 := Tryz.isAgg0
  z0 := Tryz.sizeOf0
  v0 := Tryz.zeroValue0
  t3 := Tryz.underlying3
  a3 := Tryz.isAgg3
  z3 := Tryz.sizeOf3
  v3 := Tryz.zeroValue3
  t4 := Tryz.underlying4
  a4 := Tryz.isAgg4
  z4 := Tryz.sizeOf4
  v4 := Tryz.zeroValue4
  t5 := Tryz.underlying5
  a5 := Tryz.isAgg5
  z5 := Tryz.sizeOf5
  v5 := Tryz.zeroValue5
  t9 := Tryz.underlying9
  a9 := Tryz.isAgg9
  z9 := Tryz.sizeOf9
  v9 := Tryz.zeroValue9
  t20 := Tryz.underlying20
  a20 := Tryz.isAgg20
  z20 := Tryz.sizeOf20
  v20 := Tryz.zeroValue20
  t21 := Tryz.underlying21
  a21 := Tryz.isAgg21
  z21 := Tryz.sizeOf21
  v21 := Tryz.zeroValue21
  t37 := Tryz.underlying110
  a37 := Tryz.isAgg110
  z37 := Tryz.sizeOf110
  v37 := Tryz.zeroValue110
  t46 := Tryz.underlying143
  a46 := Tryz.isAgg143
  z46 := Tryz.sizeOf143
  v46 := Tryz.zeroValue143
  t51 := Tryz.underlying175
  a51 := Tryz.isAgg175
  z51 := Tryz.sizeOf175
  v51 := Tryz.zeroValue175
  t70 := Tryz.underlying147
  a70 := Tryz.isAgg147
  z70 := Tryz.sizeOf147
  v70 := Tryz.zeroValue147
  t72 := Tryz.underlying149
  a72 := Tryz.isAgg149
  z72 := Tryz.sizeOf149
  v72 := Tryz.zeroValue149
  t75 := Tryz.underlying64
  a75 := Tryz.isAgg64
  z75 := Tryz.sizeOf64
  v75 := Tryz.zeroValue64
  t76 := Tryz.underlying150
  a76 := Tryz.isAgg150
  z76 := Tryz.sizeOf150
  v76 := Tryz.zeroValue150
  t105 := Tryz.underlying193
  a105 := Tryz.isAgg193
  z105 := Tryz.sizeOf193
  v105 := Tryz.zeroValue193
  t119 := Tryz.underlying202
  a119 := Tryz.isAgg202
  z119 := Tryz.sizeOf202
  t127 := Tryz.underlying181
  a127 := Tryz.isAgg181
  z127 := Tryz.sizeOf181
  v127 := Tryz.zeroValue181
  t138 := Tryz.underlying204
  a138 := Tryz.isAgg204
  z138 := Tryz.sizeOf204
  v138 := Tryz.zeroValue204
  t139 := Tryz.underlying205
  a139 := Tryz.isAgg205
  z139 := Tryz.sizeOf205
  v139 := Tryz.zeroValue205
  t146 := Tryz.underlying176
  a146 := Tryz.isAgg176
  z146 := Tryz.sizeOf176
  v146 := Tryz.zeroValue176
  t164 := Tryz.underlying131
  a164 := Tryz.isAgg131
  z164 := Tryz.sizeOf131
  v164 := Tryz.zeroValue131
  g1 := by kernel_rfl
  g3 := by kernel_rfl
  g4 := by kernel_rfl
theorem lays153 : Lays.n153 Tryz.prog rho where
  mixed := by kernel_rfl
  f119 := Tryz.func132.trans (congrArg some (by kernel_rfl))
  f137 := Tryz.func131.trans (congrArg some (by kernel_rfl))
  f152 := Tryz.func122.trans (congrArg some (by kernel_rfl))
  f153 := Tryz.func117.trans (congrArg some (by kernel_rfl))
  f217 := Tryz.func141.trans (congrArg some (by kernel_rfl))
  f224 := Tryz.func133.trans (congrArg some (by kernel_rfl))
  f225 := Tryz.func134.trans (congrArg some (by kernel_rfl))
  f226 := Tryz.func123.trans (congrArg some (by kernel_rfl))
  f227 := Tryz.func124.trans (congrArg some (by kernel_rfl))
  f228 := Tryz.func125.trans (congrArg some (by kernel_rfl))
  f266 := Tryz.func144.trans (congrArg some (by kernel_rfl))
  t0 := Tryz.underlying0
  a0 := Tryz.isAgg0
  z0 := Tryz.sizeOf0
  v0 := Tryz.zeroValue0
  t3 := Tryz.underlying3
  a3 := Tryz.isAgg3
  z3 := Tryz.sizeOf3
  v3 := Tryz.zeroValue3
  t4 := Tryz.underlying4
  a4 := Tryz.isAgg4
  z4 := Tryz.sizeOf4
  v4 := Tryz.zeroValue4
  t5 := Tryz.underlying5
  a5 := Tryz.isAgg5
  z5 := Tryz.sizeOf5
  v5 := Tryz.zeroValue5
  t9 := Tryz.underlying9
  a9 := Tryz.isAgg9
  z9 := Tryz.sizeOf9
  v9 := Tryz.zeroValue9
  t21 := Tryz.underlying21
  a21 := Tryz.isAgg21
  z21 := Tryz.sizeOf21
  v21 := Tryz.zeroValue21
  t46 := Tryz.underlying143
  a46 := Tryz.isAgg143
  z46 := Tryz.sizeOf143
  v46 := Tryz.zeroValue143
  t116 := Tryz.underlying189
  a116 := Tryz.isAgg189
  z116 := Tryz.sizeOf189
  t117 := Tryz.underlying190
  a117 := Tryz.isAgg190
  z117 := Tryz.sizeOf190
  v117 := Tryz.zeroValue190
  t124 := Tryz.underlying199
  a124 := Tryz.isAgg199
  z124 := Tryz.sizeOf199
  v124 := Tryz.zeroValue199
theorem bextra : Builder.Extra Tryz.prog rho where
  sizeBuilder := by kernel_rfl
  liesBuilder := by kernel_rfl
  t5 := Tryz.underlying5
  a5 := Tryz.isAgg5
  z5 := Tryz.sizeOf5
  v5 := Tryz.zeroValue5
  infoByte := by kernel_rfl
  cellsByte := by kernel_rfl
  sizeByte := by kernel_rfl
  neB5 := by decide
theorem zero116 : (Tryz.prog.info? (rho.t 116)).map (fun i => (i.zero, i.size)) = some (some (.agg (Array.replicate 256 (.bool false))), 256) := by kernel_rfl
end Go.Proofs.YtaljccgfnmfhnaaGreatDoorG
set_option linter.all false
namespace Go.Proofs.YtaljccgfnmfhnaaGreatDoorG
open Go Go.RowKit
def dupS (s : St) : St := s.flatMap fun b => if b = 34 then [34, 34] else [b]
def needS (s : St) : Bool := s.any fun b => b = 34 || b = 44 || b = 13 || b = 10
def fldQ (s : St) : St := if needS s then ([34] ++ dupS s) ++ [34] else s
theorem dupS_cons (b : UInt8) (l : St) : dupS (b :: l) = (if b = 34 then [34, 34] else [b]) ++ dupS l := rfl
theorem dupS_len (s : St) : (dupS s).length ≤ 2 * s.length := by
  induction s with
  | nil => simp [dupS]
  | cons b l ih => rw [dupS_cons]; simp only [List.length_append, List.length_cons]; split <;> simp <;> omega
theorem fldQ_len (s : St) : (fldQ s).length ≤ 2 * s.length + 2 := by
  have := dupS_len s
  unfold fldQ
  split
  · simp; omega
  · omega
theorem repl_dup : ∀ s : St, Lib.replaceK [34] [34, 34] (Lib.count s [34]) s = dupS s
  | [] => rfl
  | b :: l => by
    have ih := repl_dup l
    have h1 : Lib.index (b :: l) [34] = if b = 34 then 0 else if Lib.index l [34] == -1 then -1 else Lib.index l [34] + 1 := by
      rw [Lib.index]
      by_cases h : b = 34
      · subst h; simp
      · have : ([34] : List UInt8).isPrefixOf (b :: l) = false := by simp [List.isPrefixOf]; exact fun e => h e.symm
        rw [this]; simp [h]
    by_cases h : b = 34
    · subst h
      have h0 : Lib.index (34 :: l) [34] = (0 : Nat) := by rw [h1]; rfl
      rw [Lib.count_hit (by simp) h0, Nat.add_comm, Lib.replaceK_hit _ _ _ _ 0 h0]
      simp only [List.length_singleton, Nat.zero_add, List.drop_succ_cons, List.drop_zero, List.take_zero, List.nil_append]
      rw [ih, dupS_cons]
      rfl
    · rw [if_neg h] at h1
      rw [dupS_cons, if_neg h]
      by_cases hm : Lib.index l [34] = -1
      · rw [hm] at h1
        have h2 : Lib.index (b :: l) [34] = -1 := h1
        rw [Lib.count_miss h2]
        rw [Lib.count_miss hm] at ih
        rw [← ih]
        rfl
      · have hge := Lib.index_ge l [34]
        obtain ⟨j, hj⟩ : ∃ j : Nat, Lib.index l [34] = j := ⟨(Lib.index l [34]).toNat, by omega⟩
        have h2 : Lib.index (b :: l) [34] = ((j + 1 : Nat) : Int) := by rw [h1, if_neg (by rw [beq_iff_eq]; exact hm), hj]; rfl
        rw [Lib.count_hit (by simp) h2, Nat.add_comm, Lib.replaceK_hit _ _ _ _ (j + 1) h2]
        rw [Lib.count_hit (by simp) hj, Nat.add_comm, Lib.replaceK_hit _ _ _ _ j hj] at ih
        simp only [List.length_singleton, List.drop_succ_cons, List.take_succ_cons, List.cons_append] at ih ⊢
        rw [ih]
        rfl
theorem replAll_dup (s : St) : Lib.replaceAll s [34] [34, 34] = dupS s := by
  have h : Lib.replaceNum s [34] (-1) = Lib.count s [34] := by unfold Lib.replaceNum; rw [if_pos (.inl (by decide))]
  unfold Lib.replaceAll Lib.replace
  rw [h, if_neg (by decide)]
  exact repl_dup s
theorem anyQ (s : St) : (0 ≤ Lib.indexAny s [34, 44, 13, 10]) ↔ needS s = true := by
  induction s with
  | nil => simp [Lib.indexAny, needS]
  | cons b l ih =>
    have hge := Lib.indexAny_ge [34, 44, 13, 10] l
    have hc : ([34, 44, 13, 10] : List UInt8).contains b = (b = 34 || b = 44 || b = 13 || b = 10 : Bool) := by
      rw [Bool.eq_iff_iff]; simp [or_assoc]
    rw [Lib.indexAny, hc]
    have hn : needS (b :: l) = ((b = 34 || b = 44 || b = 13 || b = 10 : Bool) || needS l) := rfl
    rw [hn]
    cases hb : (b = 34 || b = 44 || b = 13 || b = 10 : Bool)
    · rw [if_neg (by simp), Bool.false_or, ← ih]
      by_cases hm : Lib.indexAny l [34, 44, 13, 10] = -1
      · rw [hm]; simp
      · rw [if_neg (by simpa using hm)]; omega
    · simp
def pieces {α : Type} (bt bh : St) (f : α → St) : List α → St
  | [] => []
  | x :: r => f x ++ bh ++ r.flatMap fun y => bt ++ (f y ++ bh)
theorem pieces_snoc {α : Type} (bt bh : St) (f : α → St) (l : List α) (x : α) : pieces bt bh f (l ++ [x]) = pieces bt bh f l ++ ((if l.length = 0 then [] else bt) ++ (f x ++ bh)) := by
  cases l with
  | nil => simp [pieces]
  | cons y r => simp [pieces, List.append_assoc]
theorem pieces_take {α : Type} (bt bh : St) (f : α → St) (l : List α) (i : Nat) (x : α) (h : l[i]? = some x) : pieces bt bh f (l.take (i + 1)) = pieces bt bh f (l.take i) ++ ((if i = 0 then [] else bt) ++ (f x ++ bh)) := by
  have hi : i < l.length := (List.getElem?_eq_some_iff.1 h).1
  rw [List.take_add_one, h]
  show pieces bt bh f (l.take i ++ [x]) = _
  rw [pieces_snoc, List.length_take, Nat.min_eq_left (by omega)]
theorem pieces_mono {α : Type} (bt bh : St) (f : α → St) (l r : List α) : (pieces bt bh f l).length ≤ (pieces bt bh f (l ++ r)).length := by
  cases l with
  | nil => simp [pieces]
  | cons y t => simp [pieces, List.flatMap_append]
theorem pieces_take_le {α : Type} (bt bh : St) (f : α → St) (l : List α) (i : Nat) : (pieces bt bh f (l.take i)).length ≤ (pieces bt bh f l).length := by
  have := pieces_mono bt bh f (l.take i) (l.drop i)
  rwa [List.take_append_drop] at this
def recQ (r : List St) : St := pieces [44] [] fldQ r
def tabQ (t : List (List St)) : St := pieces [] [13, 10] recQ t
def allT (t : List (List St)) : Bool := t.all fun r => decide (0 < r.length)
def fin2 (b : Bool) (t : List (List St)) : Bool := b && allT t
def fineT (t : List (List St)) : Bool := fin2 (decide (0 < t.length)) t
def FitR (r : List St) : Prop := r.length ≤ 1000000 ∧ (recQ r).length ≤ 70368744177664 ∧ ∀ t ∈ r, t.length ≤ 1000000000
end Go.Proofs.YtaljccgfnmfhnaaGreatDoorG
set_option linter.all false
namespace Go.Proofs.YtaljccgfnmfhnaaGreatDoorG
open Go Go.Shelf Go.RowKit Go.Proofs
theorem own_keep {w w' : World} {B : Nat} {e : TypeId} {v : Value} {n : Nat} {xs : List Value} (h : w.ownsRow B e 1 v n xs) (hk : ∀ k, B ≤ k → k < w.heap.size → w'.heap[k]? = w.heap[k]?) : w'.ownsRow B e 1 v n xs := by
  obtain ⟨h1, h2⟩ := h
  refine ⟨h1, ?_⟩
  rcases h2 with h2 | ⟨g, cap, cur, he, hg, hh, r⟩
  · exact .inl h2
  · exact .inr ⟨g, cap, cur, he, hg, (hk g hg (Array.getElem?_eq_some_iff.1 hh).1).trans hh, r⟩
theorem bld_keep {T e : TypeId} {B b : Nat} {bs : List Value} {w w' : World} (h : Lib.IsBuilder T e B b bs w) (hk : ∀ k, B ≤ k → k < w.heap.size → w'.heap[k]? = w.heap[k]?) : Lib.IsBuilder T e B b bs w' := by
  have key : ∀ p, Lib.BuilderAt T e B b p bs w → Lib.BuilderAt T e B b p bs w' := fun p ⟨hB, v, hb, ho, hn⟩ => ⟨hB, v, (hk b hB (Array.getElem?_eq_some_iff.1 hb).1).trans hb, own_keep ho hk, hn⟩
  exact h.imp (key _) (key _)
theorem wstr (B b : Nat) (bs : List Value) (t : St) (w : World) (h : Lib.IsBuilder 149 5 B b bs w) (hlen : bs.length + t.length ≤ 140737488355328) (hBw : B ≤ w.heap.size) :
    Calls Tryz.prog 101 #[.pointer (some ⟨b, 0, none⟩), vstr t] w fun e w' => e = .returned (.tuple #[.int .i64 t.length, .nilIface]) ∧ (Lib.IsBuilder 149 5 B b (bs ++ Lib.byteCells t) w' ∧ Below B w w') := by
  have hsz : (⟨t.toArray⟩ : ByteArray).size = t.length := by simp [ByteArray.size]
  have := Any.Builder_WriteString { lays155 with } bextra B b bs ⟨t.toArray⟩ w h (by rw [hsz]; exact hlen) hBw
  rw [hsz] at this
  exact Calls.mono this fun e w' ⟨h1, h2, h3⟩ => ⟨h1, .inr h2, h3⟩
theorem bstr (B b : Nat) (t : St) (w : World) (h : Lib.IsBuilder 149 5 B b (Lib.byteCells t) w) (hBw : B ≤ w.heap.size) :
    Calls Tryz.prog 102 #[.pointer (some ⟨b, 0, none⟩)] w fun e w' => e = .returned (vstr t) ∧ Below B w w' := Any.Builder_String_any { lays155 with } bextra B b t w h hBw
theorem bcl (t : St) : (Lib.byteCells t).length = t.length := Lib.byteCells_length t
set_option maxHeartbeats 8000000 in
set_option maxRecDepth 1000000 in
theorem joined_s (f : St → St) (bt bh : St) (w : World) (l : List St) (A : Option Addr) (c : Nat) (K : World → Prop) (hK : ∀ w', Below w.heap.size w w' → K w')
    (hF : ∀ t w, t ∈ l → K w → Calls Tryz.prog 73 #[vstr t] w fun e w' => e = .returned (vstr (f t)) ∧ Below w.heap.size w w')
    (hcell : ∀ i x, l[i]? = some x → ∃ b o, A = some ⟨b, o, none⟩ ∧ b < w.heap.size ∧ w.cell? ⟨b, o + i, none⟩ = some (vstr x)) (hl : l.length ≤ 1000000) (hb : (pieces bt bh f l).length ≤ 70368744177664) :
    Calls Tryz.prog 72 #[.slice A l.length c, vstr bt, vstr bh, .func (.func 73) #[] #[]] w fun e w' => e = .returned (vstr (pieces bt bh f l)) ∧ Below w.heap.size w w' := by
  go_enter Tryz.func72, Tryz.ntmps72
  go_wp2_with fail
  go_loopg [14] l.length (fun g v14 wx => ∃ i : Nat, i + g = l.length ∧ v14 = .int .i64 i ∧ Lib.IsBuilder 149 5 w.heap.size w.heap.size (Lib.byteCells (pieces bt bh f (l.take i))) wx ∧ Below w.heap.size w wx)
  case atStart => exact ⟨0, by omega, rfl, Lib.fresh_isBuilder 149 5 w, (Below.refl _ w).alloc (Nat.le_refl _) _⟩
  case round =>
    obtain ⟨i, hig, rfl, hI, hbw⟩ := hrel
    have hsz0 := hbw.size
    cases gk with
    | zero =>
      obtain rfl : i = l.length := by omega
      rw [List.take_length] at hI
      go_wp2_with (go_at_call 102; refine (bstr _ _ _ _ hI hsz0).mono ?_)
      rintro e w1 ⟨rfl, hb1⟩
      go_wp2
      go_ret
      exact ⟨rfl, hbw.trans hb1⟩
    | succ g =>
      have hi : i < l.length := by omega
      obtain ⟨x, hx⟩ : ∃ x, l[i]? = some x := ⟨_, List.getElem?_eq_getElem hi⟩
      obtain ⟨bk, o, rfl, hbk, hc0⟩ := hcell i x hx
      have hc1 : wr.cell? ⟨bk, o + i, none⟩ = some (vstr x) := by rw [hbw.cell hbk]; exact hc0
      have hmem : x ∈ l := List.mem_of_getElem? hx
      have htk := pieces_take bt bh f l i x hx
      have hle := pieces_take_le bt bh f l (i + 1)
      rw [htk] at hle
      simp only [List.length_append] at hle
      have hcat : (⟨(f x).toArray⟩ : ByteArray) ++ ⟨bh.toArray⟩ = ⟨(f x ++ bh).toArray⟩ := by simp [ByteArray.append, ByteArray.ext_iff]
      have hilt : (i : Int) < (l.length : Int) := by omega
      by_cases h0 : i = 0
      · subst h0
        simp only [Nat.add_zero] at hc1
        go_wp2_with (go_at_call 73; refine (hF x _ hmem (hK _ hbw)).mono ?_)
        rintro e w1 rfl b1
        have hI1 := bld_keep hI (w' := w1) fun k _ hk => b1.block k hk
        have hs1 := b1.size
        go_wp2_with (go_at_call 101; refine (wstr w.heap.size w.heap.size _ (f x ++ bh) _ hI1 (by rw [bcl]; simp only [List.length_append]; omega) (by omega)).mono ?_)
        rintro e w2 ⟨rfl, hI2, b2⟩
        go_wp2
        go_roundg g
        case measure => omega
        case rel => exact ⟨0 + 1, by omega, rfl, by rw [htk, Lib.byteCells_append]; exact hI2, hbw.trans ((b1.mono hsz0).trans b2)⟩
      · have hgt : (0 : Int) < (i : Int) := by omega
        rw [if_neg h0] at htk hle
        go_wp2_with (go_at_call 101; refine (wstr w.heap.size w.heap.size _ bt _ hI (by rw [bcl]; omega) hsz0).mono ?_)
        rintro e w0 ⟨rfl, hI0, b0⟩
        have hs0 := b0.size
        go_wp2_with (go_at_call 73; refine (hF x _ hmem (hK _ (hbw.trans b0))).mono ?_)
        rintro e w1 ⟨rfl, b1⟩
        have hI1 := bld_keep hI0 (w' := w1) fun k _ hk => b1.block k hk
        have hs1 := b1.size
        rw [← Lib.byteCells_append] at hI1
        go_wp2_with (go_at_call 101; refine (wstr w.heap.size w.heap.size _ (f x ++ bh) _ hI1 (by rw [bcl]; simp only [List.length_append]; omega) (by omega)).mono ?_)
        rintro e w2 ⟨rfl, hI2, b2⟩
        go_wp2
        go_roundg g
        case measure => omega
        case rel => exact ⟨i + 1, by omega, rfl, by rw [htk, ← List.append_assoc, Lib.byteCells_append]; exact hI2, hbw.trans (b0.trans ((b1.mono (by omega)).trans b2))⟩
theorem chp_below {Y : Nat → Prop} {a b c : World} (h : Chp Y a b) (k : Below a.heap.size b c) : Chp Y a c :=
  ⟨k.os.trans h.os, k.tape.trans h.tape, k.output.trans h.output, Nat.le_trans h.size k.size, fun i hi hn => (k.block i hi).trans (h.block i hi hn)⟩
theorem chp_chp {Y : Nat → Prop} {a b c : World} (h : Chp Y a b) (k : Chp Y b c) : Chp Y a c := h.trans k fun _ hi => .inl hi
theorem box_keep {w w' : World} {b : Nat} {T : TypeId} {cs : List Value} (h : Box w b T cs) (hk : w'.heap[b]? = w.heap[b]?) : Box w' b T cs := hk.trans h
set_option maxHeartbeats 8000000 in
set_option maxRecDepth 1000000 in
theorem joined_r (f : List St → St) (bt bh : St) (w : World) (l : List (List St)) (A : Option Addr) (c : Nat) (bf : Nat) (fine : Bool) (hbf : Box w bf 4 [.bool fine])
    (hcell : ∀ i xs, l[i]? = some xs → ∃ b o A' c', A = some ⟨b, o, none⟩ ∧ b < w.heap.size ∧ b ≠ bf ∧ w.cell? ⟨b, o + i, none⟩ = some (.slice A' xs.length c') ∧
      ∀ b' w', Chp (· = bf) w w' → Box w' bf 4 [.bool b'] → Calls Tryz.prog 71 #[.slice A' xs.length c', .pointer (some ⟨bf, 0, none⟩)] w' fun e w'' => e = .returned (vstr (f xs)) ∧ Box w'' bf 4 [.bool (b' && decide (0 < xs.length))] ∧ Chp (· = bf) w' w'')
    (hl : l.length ≤ 1000000) (hb : (pieces bt bh f l).length ≤ 70368744177664) :
    Calls Tryz.prog 70 #[.slice A l.length c, vstr bt, vstr bh, .func (.func 71) #[] #[.pointer (some ⟨bf, 0, none⟩)]] w fun e w' => e = .returned (vstr (pieces bt bh f l)) ∧ Box w' bf 4 [.bool (fine && l.all fun xs => decide (0 < xs.length))] ∧ Chp (· = bf) w w' := by
  have hbl : bf < w.heap.size := hbf.lt
  go_enter Tryz.func70, Tryz.ntmps70
  go_wp2_with fail
  go_loopg [14] l.length (fun g v14 wx => ∃ i : Nat, i + g = l.length ∧ v14 = .int .i64 i ∧ Lib.IsBuilder 149 5 w.heap.size w.heap.size (Lib.byteCells (pieces bt bh f (l.take i))) wx ∧ Chp (· = bf) w wx ∧ Box wx bf 4 [.bool (fine && (l.take i).all fun xs => decide (0 < xs.length))])
  case atStart => exact ⟨0, by omega, rfl, Lib.fresh_isBuilder 149 5 w, chp_below (Chp.refl _ w) ((Below.refl _ w).alloc (Nat.le_refl _) _), by simpa using box_keep hbf (Below.heap_alloc w _ bf hbl)⟩
  case round =>
    obtain ⟨i, hig, rfl, hI, hbw, hbx⟩ := hrel
    have hsz0 := hbw.size
    cases gk with
    | zero =>
      obtain rfl : i = l.length := by omega
      rw [List.take_length] at hI hbx
      go_wp2_with (go_at_call 102; refine (bstr _ _ _ _ hI hsz0).mono ?_)
      rintro e w1 ⟨rfl, hb1⟩
      go_wp2
      go_ret
      exact ⟨rfl, box_keep hbx (hb1.block _ hbl), chp_below hbw hb1⟩
    | succ g =>
      have hi : i < l.length := by omega
      obtain ⟨x, hx⟩ : ∃ x, l[i]? = some x := ⟨_, List.getElem?_eq_getElem hi⟩
      obtain ⟨bk, o, A', c', rfl, hbk, hbn, hc0, hF⟩ := hcell i x hx
      have hc1 : wr.cell? ⟨bk, o + i, none⟩ = some (.slice A' x.length c') := by rw [World.cell?_of_block (w := w) (hbw.block bk hbk hbn)]; exact hc0
      have htk := pieces_take bt bh f l i x hx
      have hle := pieces_take_le bt bh f l (i + 1)
      have hall : (fine && (l.take (i + 1)).all fun xs => decide (0 < xs.length)) = ((fine && (l.take i).all fun xs => decide (0 < xs.length)) && decide (0 < x.length)) := by
        rw [List.take_add_one, hx]
        simp [Bool.and_assoc]
      generalize (fine && (l.take i).all fun xs => decide (0 < xs.length)) = fi at *
      rw [htk] at hle
      simp only [List.length_append] at hle
      have hcat : (⟨(f x).toArray⟩ : ByteArray) ++ ⟨bh.toArray⟩ = ⟨(f x ++ bh).toArray⟩ := bytes_append _ _
      have hilt : (i : Int) < (l.length : Int) := by omega
      by_cases h0 : i = 0
      · subst h0
        simp only [Nat.add_zero] at hc1
        go_wp2_with (go_at_call 71; refine (hF fi _ hbw hbx).mono ?_)
        rintro e w1 rfl hbx1 b1
        have hI1 := bld_keep hI (w' := w1) fun k hB hk => b1.block k hk (by rintro rfl; omega)
        have hs1 := b1.size
        go_wp2_with (go_at_call 101; refine (wstr w.heap.size w.heap.size _ (f x ++ bh) _ hI1 (by rw [bcl]; simp only [List.length_append]; omega) (by omega)).mono ?_)
        rintro e w2 ⟨rfl, hI2, b2⟩
        go_wp2
        go_roundg g
        case measure => omega
        case rel => exact ⟨0 + 1, by omega, rfl, by rw [htk, Lib.byteCells_append]; exact hI2, chp_below (chp_chp hbw b1) b2, by rw [hall]; exact box_keep hbx1 (b2.block _ hbl)⟩
      · have hgt : (0 : Int) < (i : Int) := by omega
        rw [if_neg h0] at htk hle
        go_wp2_with (go_at_call 101; refine (wstr w.heap.size w.heap.size _ bt _ hI (by rw [bcl]; omega) hsz0).mono ?_)
        rintro e w0 ⟨rfl, hI0, b0⟩
        have hs0 := b0.size
        go_wp2_with (go_at_call 71; refine (hF fi _ (chp_below hbw b0) (box_keep hbx (b0.block _ hbl))).mono ?_)
        rintro e w1 ⟨rfl, hbx1, b1⟩
        have hI1 := bld_keep hI0 (w' := w1) fun k hB hk => b1.block k hk (by rintro rfl; omega)
        have hs1 := b1.size
        rw [← Lib.byteCells_append] at hI1
        go_wp2_with (go_at_call 101; refine (wstr w.heap.size w.heap.size _ (f x ++ bh) _ hI1 (by rw [bcl]; simp only [List.length_append]; omega) (by omega)).mono ?_)
        rintro e w2 ⟨rfl, hI2, b2⟩
        go_wp2
        go_roundg g
        case measure => omega
        case rel => exact ⟨i + 1, by omega, rfl, by rw [htk, ← List.append_assoc, Lib.byteCells_append]; exact hI2, chp_below (chp_chp (chp_below hbw b0) b1) b2, by rw [hall]; exact box_keep hbx1 (b2.block _ hbl)⟩
end Go.Proofs.YtaljccgfnmfhnaaGreatDoorG
set_option linter.all false
namespace Go.Proofs.YtaljccgfnmfhnaaGreatDoorG
open Go Go.Shelf Go.RowKit Go.Lib Go.Proofs
variable {P : Program} {ρ : Ren}
def four : ByteArray := ⟨#[34, 44, 13, 10]⟩
theorem four_lt (i : Nat) (h : i < four.size) : (four[i]'h).toNat < 128 := by
  have h4 : i < 4 := h
  have : ∀ j : Fin 4, ((four.data.toList)[j.1]'(by have := j.2; simpa [four] using this)).toNat < 128 := by decide
  exact this ⟨i, h4⟩
set_option maxHeartbeats 8000000 in
set_option maxRecDepth 1000000 in
theorem indexRune_bad (L : Lays.n152 P ρ) (w : World) : Calls P (ρ.f 152) #[.string four, .int .i32 65533] w fun e w' => e = .returned (.int .i64 (-1)) ∧ Below w.heap.size w w' := by
  have t3 := L.t3; have a3 := L.a3; have z3 := L.z3; have v3 := L.v3
  have t4 := L.t4; have a4 := L.a4; have z4 := L.z4; have v4 := L.v4
  have t5 := L.t5; have a5 := L.a5; have z5 := L.z5; have v5 := L.v5
  have t9 := L.t9; have a9 := L.a9; have z9 := L.z9; have v9 := L.v9
  have t21 := L.t21; have a21 := L.a21; have z21 := L.z21; have v21 := L.v21
  have F : Aside (∀ (i : Nat) (h : i < four.size), (four[i]'h).toNat < 128) := four_lt
  have hsz : four.size = 4 := rfl
  generalize four = s at *
  go_enter L.f152, Body.n152_ntmps ρ
  go_wp2
  go_loopg [5, 6] 4 (fun g _ _ wx => ∃ i : Nat, i + g = 4 ∧ wx = w.iter s i)
  case atStart => exact ⟨0, by omega, rfl⟩
  case round =>
    obtain ⟨i, hig, rfl⟩ := hrel
    cases gk with
    | zero =>
      obtain rfl : i = 4 := by omega
      have hnx := fun ty => run_next_end (P := P) w s 4 ty (by omega)
      go_wp2
      go_ret
      exact ⟨rfl, ((Below.refl _ w).alloc (Nat.le_refl _) _)⟩
    | succ g =>
      have hi : i < s.size := by omega
      have hb := F.out i hi
      have hnx := fun ty => run_next_ascii (P := P) w s i ty hi hb
      have hne : ¬ (((s[i]'hi).toNat : Int) == 65533) = true := by rw [beq_iff_eq]; omega
      generalize hx : ((s[i]'hi).toNat : Int) = x at *
      go_wp2
      go_roundg g
      case measure => omega
      case rel => exact ⟨i + 1, by omega, rfl⟩
theorem indexByte_high (l : List UInt8) (c : UInt8) (h : ∀ b ∈ l, b.toNat < 128) (hc : 128 ≤ c.toNat) : indexByte l c = -1 := by
  induction l with
  | nil => rfl
  | cons b t ih =>
    have hb := h b (by simp)
    have hne : (b == c) = false := by rw [beq_eq_false_iff_ne]; rintro rfl; omega
    simp [indexByte, hne, ih (fun x hx => h x (by simp [hx]))]
set_option maxHeartbeats 8000000 in
set_option maxRecDepth 1000000 in
theorem indexRune_high (L : Lays.n152 P ρ) (r : Int) (h0 : 128 ≤ r) (h1 : r ≤ 1114111) (hr : ¬ r = 65533) (w : World) : Calls P (ρ.f 152) #[.string four, .int .i32 r] w fun e w' => e = .returned (.int .i64 (-1)) ∧ Below w.heap.size w w' := by
  have mixed := L.mixed
  have u3 := run_underlying L.t3; have t3 := L.t3; have a3 := L.a3; have z3 := L.z3; have v3 := L.v3
  have u4 := run_underlying L.t4; have t4 := L.t4; have a4 := L.a4; have z4 := L.z4; have v4 := L.v4
  have u5 := run_underlying L.t5; have t5 := L.t5; have a5 := L.a5; have z5 := L.z5; have v5 := L.v5
  have u9 := run_underlying L.t9; have t9 := L.t9; have a9 := L.a9; have z9 := L.z9; have v9 := L.v9
  have u21 := run_underlying L.t21; have t21 := L.t21; have a21 := L.a21; have z21 := L.z21; have v21 := L.v21
  have e119 : ∀ args w, (callFunc (ρ.f 119) args).run P w = .ok (.enter (ρ.f 119) args) w := enters_of L.f119 (by kernel_rfl) rfl
  have e137 : ∀ args w, (callFunc (ρ.f 137) args).run P w = .ok (.enter (ρ.f 137) args) w := enters_of L.f137 (by kernel_rfl) rfl
  have F : Aside (∀ (i : Nat) (h : i < four.size), (four[i]'h).toNat < 128) := four_lt
  have hsz : four.size = 4 := rfl
  have hr' : (r == 65533) = false := by rw [beq_eq_false_iff_ne]; exact hr
  generalize four = s at *
  go_enter L.f152, Body.n152_ntmps ρ
  go_wp2_with (go_at_fn (ρ.f 119); refine (Any.utf8_ValidRune { L with } _ _).mono ?_; rintro e w' ⟨rfl, hw⟩; rw [hw])
  · go_ret
    exact ⟨rfl, Below.refl _ _⟩
  · rename_i hv
    have hv' : Utf8.valid r = true := by rw [validRune_eq]; simp [Lib.validRune] at hv; simp [Go.validRune]; omega
    obtain ⟨f2, f4, fl⟩ := encode_facts r hv' h0
    generalize he : Utf8.encode r = e at *
    obtain ⟨i, hi⟩ : ∃ i : Nat, e.size = i + 1 := ⟨e.size - 1, by omega⟩
    have hi4 : i < s.size := by omega
    have hie : i < e.size := by omega
    have hc : 128 ≤ (e[i]'hie).toNat := by simpa [hi] using fl (by omega)
    have hs := F.out i hi4
    have hne : (((s[i]'hi4).toNat : Int) == ((e[i]'hie).toNat : Int)) = false := by rw [beq_eq_false_iff_ne]; omega
    clear fl
    go_step3
    go_wp2
    go_loopg [9] 0 (fun g v9 wx => v9 = .int .i64 i ∧ wx = w)
    case atStart => exact ⟨rfl, rfl⟩
    case round =>
      obtain ⟨rfl, rfl⟩ := hrel
      have hii : (i : Int) < 4 := by omega
      have hix : indexByte (List.take (3 - i) (List.drop (i + 1) s.data.toList)) (e[i]'hie) = -1 := indexByte_high _ _ (fun b hb => by
        have hb' := List.mem_of_mem_drop (List.mem_of_mem_take hb)
        obtain ⟨j, hj, rfl⟩ := List.getElem_of_mem hb'
        exact F.out j (by rw [Lib.size_eq]; exact hj)) hc
      have hij : (i : Int) < (i : Int) + 1 := by omega
      have hi4' : (i : Int) + 1 ≤ 4 := by omega
      have hi5 : i + 1 ≤ 4 := by omega
      have hi0 : (0 : Int) ≤ (i : Int) + 1 := by omega
      have hw1 : IntKind.i64.wrap ((i : Int) + 1) = (i : Int) + 1 := wrap_small _ (by omega) (by omega)
      have hnat : ((i : Int) + 1).toNat = i + 1 := by omega
      go_wp2
      go_step3
      go_wp2
      go_region_o
      go_wp2
      go_region_with_o (go_at_fn (ρ.f 137); refine (Any.strings_IndexByte { L with } _ _ _).mono ?_; rintro e w' ⟨rfl, rfl⟩)
      go_wp2
      refine (?_ : bodyPost P (Body.n152 ρ) (fun e w' => e = .returned (.int .i64 (-1)) ∧ Below wr.heap.size wr w') Exit.ret _ _)
      go_ret
      exact ⟨rfl, Below.drew (Below.drew (Below.refl _ _))⟩
theorem indexRune_any (L : Lays.n152 P ρ) (r : Int) (h0 : 128 ≤ r) (h1 : r ≤ 1114111) (w : World) : Calls P (ρ.f 152) #[.string four, .int .i32 r] w fun e w' => e = .returned (.int .i64 (-1)) ∧ Below w.heap.size w w' := by
  by_cases hr : r = 65533
  · subst hr
    exact indexRune_bad L w
  · exact indexRune_high L r h0 h1 hr w
theorem get_data (s : ByteArray) (k : Nat) (x : UInt8) (h : s.data.toList[k]? = some x) : s.get! k = x := by
  obtain ⟨hk, rfl⟩ := List.getElem?_eq_some_iff.1 h
  have hk' : k < s.size := by rw [Lib.size_eq]; exact hk
  have := get_at s k hk'
  rw [Nat.add_zero] at this
  rw [this]
  rfl
theorem valid_le {c : Int} (h : Utf8.valid c = true) : c ≤ 1114111 := by
  rw [validRune_eq] at h
  have := of_decide_eq_true h
  omega
theorem decode_cases (s : ByteArray) (pos : Nat) (hn : ¬ (s.get! (pos + 0)).toNat < 128) : Utf8.decode s pos = (65533, 1)
    ∨ (∃ c, Utf8.decode s pos = (c, 2) ∧ c ≤ 1114111 ∧ pos + 1 < s.size ∧ (s.get! (pos + 1)).toNat / 64 = 2)
    ∨ (∃ c, Utf8.decode s pos = (c, 3) ∧ c ≤ 1114111 ∧ pos + 2 < s.size ∧ (s.get! (pos + 1)).toNat / 64 = 2 ∧ (s.get! (pos + 2)).toNat / 64 = 2)
    ∨ (∃ c, Utf8.decode s pos = (c, 4) ∧ c ≤ 1114111 ∧ pos + 3 < s.size ∧ (s.get! (pos + 1)).toNat / 64 = 2 ∧ (s.get! (pos + 2)).toNat / 64 = 2 ∧ (s.get! (pos + 3)).toNat / 64 = 2) := by
  unfold Utf8.decode
  simp only [if_neg hn]
  split
  · rename_i h1
    simp only [Bool.and_eq_true, decide_eq_true_eq, beq_iff_eq] at h1
    split
    · exact .inr (.inl ⟨_, rfl, by omega, h1.2.1, h1.2.2⟩)
    · exact .inl rfl
  · split
    · rename_i h1
      simp only [Bool.and_eq_true, decide_eq_true_eq, beq_iff_eq] at h1
      split
      · rename_i h2
        rw [Bool.and_eq_true] at h2
        have := valid_le h2.2
        exact .inr (.inr (.inl ⟨_, rfl, by omega, h1.2.1, h1.1.2.2, h1.2.2⟩))
      · exact .inl rfl
    · split
      · rename_i h1
        simp only [Bool.and_eq_true, decide_eq_true_eq, beq_iff_eq] at h1
        split
        · rename_i h2
          rw [Bool.and_eq_true] at h2
          have := valid_le h2.2
          exact .inr (.inr (.inr ⟨_, rfl, by omega, h1.2.1, h1.1.1.2.2, h1.1.2.2, h1.2.2⟩))
        · exact .inl rfl
      · exact .inl rfl
theorem decode_bytes (s : ByteArray) (pos : Nat) (h : pos < s.size) (ha : 128 ≤ (s[pos]'h).toNat) : (Utf8.decode s pos).1 ≤ 1114111 ∧ pos + (Utf8.decode s pos).2 ≤ s.size ∧ ∀ (j : Nat) b, j < (Utf8.decode s pos).2 → s.data.toList[pos + j]? = some b → 128 ≤ b.toNat := by
  have hd0 : s.get! (pos + 0) = s[pos]'h := get_at s pos h
  have h00 : 128 ≤ (s.get! (pos + 0)).toNat := by rw [hd0]; exact ha
  have key : ∀ (j : Nat) b, s.data.toList[pos + j]? = some b → 128 ≤ (s.get! (pos + j)).toNat → 128 ≤ b.toNat := fun j b hj h1 => by rw [get_data s _ _ hj] at h1; exact h1
  rcases decode_cases s pos (by omega) with e | ⟨c, e, hc, h1, k1⟩ | ⟨c, e, hc, h1, k1, k2⟩ | ⟨c, e, hc, h1, k1, k2, k3⟩
  all_goals (rw [e]; refine ⟨by simp only; omega, by simp only; omega, fun j b hj hb => key j b hb ?_⟩; simp only at hj)
  · obtain rfl : j = 0 := by omega
    exact h00
  · have : j = 0 ∨ j = 1 := by omega
    rcases this with rfl | rfl <;> omega
  · have : j = 0 ∨ j = 1 ∨ j = 2 := by omega
    rcases this with rfl | rfl | rfl <;> omega
  · have : j = 0 ∨ j = 1 ∨ j = 2 ∨ j = 3 := by omega
    rcases this with rfl | rfl | rfl | rfl <;> omega
theorem four_contains (b : UInt8) (h : 128 ≤ b.toNat) : four.data.toList.contains b = false := by
  rw [Bool.eq_false_iff]
  intro hc
  have : b ∈ four.data.toList := by simpa using hc
  simp [four] at this
  rcases this with rfl | rfl | rfl | rfl <;> simp at h
theorem NoAny.many {s chars : List UInt8} {i n : Nat} (h : NoAny s chars i) (hn : ∀ (j : Nat) b, j < n → s[i + j]? = some b → chars.contains b = false) : NoAny s chars (i + n) := fun j b hj hb => by
  by_cases hji : j < i
  · exact h j b hji hb
  · exact hn (j - i) b (by omega) (by rw [show i + (j - i) = j by omega]; exact hb)
set_option maxHeartbeats 8000000 in
set_option maxRecDepth 1000000 in
theorem indexAny_short (L : Lays.n153 P ρ) (s : ByteArray) (w : World) (h8 : s.size ≤ 8) :
    Calls P (ρ.f 153) #[.string s, .string four] w fun e w' => e = .returned (.int .i64 (Lib.indexAny s.data.toList four.data.toList)) ∧ Below w.heap.size w w' := by
  have CR : ∀ (r : Int) (w : World), 128 ≤ r → r ≤ 1114111 → Calls P (ρ.f 152) #[.string four, .int .i32 r] w fun e w' => e = .returned (.int .i64 (-1)) ∧ Below w.heap.size w w' := fun r w h0 h1 => indexRune_any { L with } r h0 h1 w
  have FC : Aside (∀ b : UInt8, 128 ≤ b.toNat → four.data.toList.contains b = false) := four_contains
  have hemp : four.toList.isEmpty = false := by rw [Lib.toList_data]; rfl
  have hn1 : ((four.size : Int) == 1) = false := rfl
  generalize four = chars at *
  have h8z : decide ((8 : Int) < (s.size : Int)) = false := decide_eq_false (by omega)
  have t3 := L.t3; have a3 := L.a3; have z3 := L.z3; have v3 := L.v3
  have t4 := L.t4; have a4 := L.a4; have z4 := L.z4; have v4 := L.v4
  have t5 := L.t5; have a5 := L.a5; have z5 := L.z5; have v5 := L.v5
  have t9 := L.t9; have a9 := L.a9; have z9 := L.z9; have v9 := L.v9
  have t21 := L.t21; have a21 := L.a21; have z21 := L.z21; have v21 := L.v21
  have e152 : ∀ args w, (callFunc (ρ.f 152) args).run P w = .ok (.enter (ρ.f 152) args) w := enters_of L.f152 (by kernel_rfl) rfl
  have e226 : ∀ args w, (callFunc (ρ.f 226) args).run P w = .ok (.enter (ρ.f 226) args) w := enters_of L.f226 (by kernel_rfl) rfl
  go_enter L.f153, Body.n153_ntmps ρ
  go_wp2_with (go_at_fn (ρ.f 226); refine (Any.strings_shouldUseASCIISet { L with } _ _).mono ?_; rintro e w' ⟨rfl, hw⟩; rw [hw, h8z])
  go_loopg [9, 10] s.size (fun g _ _ wx => ∃ i : Nat, i + g = s.size ∧ wx.heap[w.heap.size]? = some (.stringIter s i) ∧ Below w.heap.size w wx ∧ Lib.NoAny s.data.toList chars.data.toList i)
  case atStart => exact ⟨0, by omega, World.iter_heap w s 0, (Below.refl _ w).alloc (Nat.le_refl _) _, Lib.NoAny.zero _ _⟩
  case round =>
    obtain ⟨i, hig, hit, hbw, hno⟩ := hrel
    have HN : Aside (Lib.NoAny s.data.toList chars.data.toList i) := hno
    clear hno
    cases gk with
    | zero =>
      obtain rfl : i = s.size := by omega
      have hnx := fun ty => Lib.run_next_end_at (P := P) wr w.heap.size s s.size ty hit (Nat.lt_irrefl _)
      go_wp2
      go_ret
      exact ⟨by rw [Lib.indexAny_none (by rw [← Lib.size_eq]; exact HN.out)]; rfl, hbw⟩
    | succ g =>
      have hi : i < s.size := by omega
      by_cases h128 : (s[i]'hi).toNat < 128
      · obtain ⟨x, hx⟩ : ∃ x : UInt8, s[i]'hi = x := ⟨_, rfl⟩
        have hxl : s.data.toList[i]? = some x := by rw [← hx]; exact Lib.data_getElem? s i hi
        have hx128 : x.toNat < 128 := by rw [← hx]; exact h128
        have hnx := fun ty => Lib.run_next_ascii_at (P := P) wr w.heap.size s i ty hit hi (by rw [hx]; exact hx128)
        rw [hx] at hnx
        have Hx : Aside (s.data.toList[i]? = some x) := hxl
        have hit2 := Lib.iterAt_heap wr w.heap.size s i (i + 1) hit
        have hbw2 := Lib.below_iterAt hbw (Nat.le_refl _) s (i + 1)
        clear hxl hx h128
        have hcon := Lib.contains_iff_indexByte chars.data.toList x
        have hback : ((x.toNat : Int)).toNat.toUInt8 = x := by simp
        cases hin : chars.data.toList.contains x
        · rw [hin] at hcon
          have hlt : ¬ ((0 : Int) ≤ Lib.indexByte chars.data.toList x) := of_decide_eq_false hcon.symm
          clear hcon
          go_wp2_with (go_at_fn (ρ.f 152); refine (Any.strings_IndexRune_ascii { L with } _ _ _ (by omega) (by omega)).mono ?_; rintro e w' ⟨rfl, hw⟩; rw [hw, hback])
          go_roundg g
          case measure => omega
          case rel => exact ⟨i + 1, by omega, hit2, hbw2, HN.out.succ Hx.out hin⟩
        · rw [hin] at hcon
          have hge : (0 : Int) ≤ Lib.indexByte chars.data.toList x := of_decide_eq_true hcon.symm
          clear hcon
          go_wp2_with (go_at_fn (ρ.f 152); refine (Any.strings_IndexRune_ascii { L with } _ _ _ (by omega) (by omega)).mono ?_; rintro e w' ⟨rfl, hw⟩; rw [hw, hback])
          go_ret
          exact ⟨by rw [Lib.indexAny_hit HN.out Hx.out hin]; rfl, hbw2⟩
      · have hhi : 128 ≤ (s[i]'hi).toNat := by omega
        obtain ⟨d1, d2⟩ := decode_high s i hi hhi
        obtain ⟨d3, d4, d5⟩ := decode_bytes s i hi hhi
        have hnx := fun ty => Lib.run_next_any_at (P := P) wr w.heap.size s i ty hit hi
        have hno2 : Aside (Lib.NoAny s.data.toList chars.data.toList (i + (Utf8.decode s i).2)) := NoAny.many HN.out fun j b hj hb => FC.out b (d5 j b hj hb)
        clear d5
        have hit2 := Lib.iterAt_heap wr w.heap.size s i (i + (Utf8.decode s i).2) hit
        have hbw2 := Lib.below_iterAt hbw (Nat.le_refl _) s (i + (Utf8.decode s i).2)
        have hlt0 : w.heap.size < wr.heap.size := (Array.getElem?_eq_some_iff.1 hit).1
        have hsz2 : w.heap.size < (wr.iterAt w.heap.size s (i + (Utf8.decode s i).2)).heap.size := by rw [Lib.iterAt_size]; exact hlt0
        generalize (Utf8.decode s i).1 = r at *
        generalize (Utf8.decode s i).2 = n at *
        clear h128 hhi
        go_wp2_with (go_at_fn (ρ.f 152); refine (CR _ _ (by omega) (by omega)).mono ?_)
        rintro e W1 ⟨rfl, hb1⟩
        go_wp2
        go_roundg (s.size - (i + n))
        case measure => omega
        case rel => exact ⟨i + n, by omega, (hb1.block _ hsz2).trans hit2, hbw2.trans (hb1.mono (Nat.le_of_lt hsz2)), hno2.out⟩
end Go.Proofs.YtaljccgfnmfhnaaGreatDoorG
set_option linter.all false
namespace Go.Proofs.YtaljccgfnmfhnaaGreatDoorG
open Go Go.Shelf Go.RowKit Go.Proofs
def HM (z : Z) : Prop := ∃ m, z (rho.g 1) = some #[.int .i64 m]
theorem HM.cell {z : Z} (h : HM z) : ∃ m, ∀ w, Sub z w → w.cell? ⟨rho.g 1, 0, none⟩ = some (.int .i64 m) := by
  obtain ⟨m, hm⟩ := h
  refine ⟨m, fun w hw => ?_⟩
  have := hw _ _ hm
  unfold cellsAt at this
  simp only [World.cell?]
  split at this
  · rename_i cs T fz heq
    injection this with this
    subst this
    rw [heq]
    rfl
  · cases this
theorem HM.mono {z z' : Z} (h : HM z) (hz : zle z z') : HM z' := h.imp fun m hm => hz _ _ hm
theorem Sp_below {z : Z} {w w' : World} {rs : List Res} (hI : In z w rs) (h : Below w.heap.size w w') : Sp (FF rs) w z w' rs := by
  refine ⟨hI.sub, hI.dz, ⟨h.os, h.tape, h.output, h.size, fun k hk _ => h.block k hk⟩, fun r hr => r.st (hI.all r hr) fun k hk _ => h.block k hk, fun r hr k hk => .inl ⟨r, hr, hk⟩, hI.sep⟩
theorem Below_sp {z : Z} {w w' : World} {rs : List Res} (h : Sp (FF []) w z w' rs) : Below w.heap.size w w' := h.chg.below FF_nil
theorem sz_st (s : St) : (⟨s.toArray⟩ : ByteArray).size = s.length := by simp [ByteArray.size]
theorem indexAny_calls (a0 : St) (a1 : St) (z : Z) (w : World) (hI : In z w []) (p0 : a1 = ([34, 44, 13, 10] : St)) (p1 : a0.length ≤ 1000000000) :
    Calls Tryz.prog 117 #[vstr a0, vstr a1] w fun e w' => e = .returned (.int .i64 (Lib.indexAny a0 ([34, 44, 13, 10] : St))) ∧ Sp (FF []) w z w' [] := by
  subst p0
  by_cases h8 : a0.length ≤ 8
  · have := indexAny_short lays153 ⟨a0.toArray⟩ w (by rw [sz_st]; exact h8)
    exact Calls.mono this fun e w' ⟨h1, h2⟩ => ⟨h1, Sp_below hI h2⟩
  · obtain ⟨hv, hi⟩ := zero_of_info zero116
    have := Any.strings_IndexAny_long lays153 hv hi ⟨a0.toArray⟩ four w (by decide) (by rw [sz_st]; omega) (by rw [sz_st]; omega) (by decide) (fun j b hj => by
      have hm : b ∈ four.data.toList := List.mem_of_getElem? hj
      simp [four] at hm
      rcases hm with rfl | rfl | rfl | rfl <;> decide)
    exact Calls.mono this fun e w' ⟨h1, h2⟩ => ⟨h1, Sp_below hI (h2 ▸ (((Below.refl _ w).alloc (Nat.le_refl _) _).alloc (by simp) _))⟩
theorem replaceAll_calls (a0 : St) (a1 : St) (a2 : St) (z : Z) (w : World) (hI : In z w []) (p0 : a1 = ([34] : St)) (p1 : a2 = ([34, 34] : St)) (p2 : a0.length ≤ 1000000000) (p3 : HM z) :
    Calls Tryz.prog 104 #[vstr a0, vstr a1, vstr a2] w fun e w' => e = .returned (vstr (dupS a0)) ∧ Sp (FF []) w z w' [] := by
  subst p0 p1
  obtain ⟨m, hm⟩ := p3.cell
  have hc : Lib.countB ⟨a0.toArray⟩ ⟨([34] : St).toArray⟩ ≤ a0.length + 1 := Lib.count_le a0 [34]
  have := Any.strings_ReplaceAll lays155 bextra ⟨a0.toArray⟩ ⟨([34] : St).toArray⟩ ⟨([34, 34] : St).toArray⟩ m w (by rw [sz_st]; omega) (hm w hI.sub) (by rw [sz_st]; decide) (by rw [sz_st, sz_st]; simp only [List.length_cons, List.length_nil]; omega)
  refine Calls.mono this fun e w' ⟨h1, h2⟩ => ⟨?_, Sp_below hI h2⟩
  rw [h1, ← replAll_dup]
end Go.Proofs.YtaljccgfnmfhnaaGreatDoorG
set_option linter.all false
set_option maxHeartbeats 8000000
set_option maxRecDepth 100000
namespace Go.Proofs.YtaljccgfnmfhnaaGreatDoorG
open Go Go.RowKit
theorem ent117 (args : Array Value) (w : World) : (callFunc 117 args).run Tryz.prog w = .ok (.enter 117 args) w := enters Tryz.func117 (by kernel_rfl) rfl args w
theorem ent103 (args : Array Value) (w : World) : (callFunc 103 args).run Tryz.prog w = .ok (.enter 103 args) w := enters Tryz.func103 (by kernel_rfl) rfl args w
theorem ent104 (args : Array Value) (w : World) : (callFunc 104 args).run Tryz.prog w = .ok (.enter 104 args) w := enters Tryz.func104 (by kernel_rfl) rfl args w
end Go.Proofs.YtaljccgfnmfhnaaGreatDoorG
set_option linter.all false
set_option maxHeartbeats 8000000
set_option maxRecDepth 100000
namespace Go.Proofs.YtaljccgfnmfhnaaGreatDoorG
open Go Go.RowKit
theorem containsAny_calls (a0 : St) (a1 : St) (z : Z) (w : World) (hI : In z w [])  (p0 : a1 = ([34, 44, 13, 10] : St)) (p1 : a0.length ≤ 1000000000) :
    Calls Tryz.prog 103 #[vstr a0, vstr a1] w fun e w' => e = .returned (.bool (needS a0)) ∧ Sp (FF []) w z w' [] := by
 have hS := hI.sp
 refine Calls_of (vs := [vstr a0, vstr a1]) (N := 9) Tryz.func103 rfl rfl (Nat.le_of_ble_eq_true rfl) ?_
 refine C_seq <| C_region <| wv rfl rfl rfl (R_assign rfl rfl) ?_
 refine W_nil <| E_then <| C_seq <| C_region <| wv rfl rfl rfl (R_move rfl rfl) <| wv rfl rfl rfl (R_move rfl rfl) ?_
 refine W_cons rfl (by decide) (Sv_call rfl rfl rfl ent117 ?_)
 refine (indexAny_calls a0 a1 _ _ hS.out0  (by assumption) (by omega)).mono ?_
 rintro e_ w1 ⟨rfl, hS_⟩
 refine ⟨_, rfl, ?_⟩
 have hS := hS.call0 hS_
 refine wv rfl rfl rfl (R_bin rfl rfl rfl rfl rfl) <| wv rfl rfl rfl (R_assign rfl rfl) ?_
 refine W_nil <| E_then (C_fr [(4, .bool (decide ((Lib.indexAny a0 ([34, 44, 13, 10] : St)) ≥ 0)))] rfl ?_)
 refine C_ret <| E_ret1 rfl rfl ?_
 exact ⟨Lret1 (Lbool (show (decide ((Lib.indexAny a0 ([34, 44, 13, 10] : St)) ≥ 0)) = (needS a0) by (rw [Bool.eq_iff_iff]; simp only [decide_eq_true_eq]; exact anyQ a0))), hS.fin [] (by decide) rfl⟩
theorem qfield_calls (a0 : St) (z : Z) (w : World) (hI : In z w [])  (p0 : a0.length ≤ 1000000000) (p1 : HM z) :
    Calls Tryz.prog 73 #[vstr a0] w fun e w' => e = .returned (vstr (fldQ a0)) ∧ Sp (FF []) w z w' [] := by
 have hS := hI.sp
 refine Calls_of (vs := [vstr a0]) (N := 11) Tryz.func73 rfl rfl (Nat.le_of_ble_eq_true rfl) ?_
 refine C_seq <| C_region <| wv rfl rfl rfl (R_assign rfl rfl) ?_
 refine W_nil <| E_then <| C_seq <| C_seq <| C_region <| wv rfl rfl rfl (R_move rfl rfl) ?_
 refine W_cons rfl (by decide) (Sv_call rfl rfl rfl ent103 ?_)
 refine (containsAny_calls a0 [34, 44, 13, 10] _ _ hS.out0  (by rfl) (by omega)).mono ?_
 rintro e_ w1 ⟨rfl, hS_⟩
 refine ⟨_, rfl, ?_⟩
 have hS := hS.call0 hS_
 refine wv rfl rfl rfl (R_un rfl rfl rfl) ?_
 refine W_nil <| E_then <| C_ite rfl (fun hC0 => ?_) (fun hC0 => ?_)
 ·have hC0p : ¬ (needS a0 = true) := by simpa using hC0
  refine C_seq <| C_region <| wv rfl rfl rfl (R_move rfl rfl) <| wv rfl rfl rfl (R_assign rfl rfl) ?_
  refine W_nil <| E_then (C_fr [(2, vstr a0)] rfl ?_)
  refine C_ret <| E_then_ret <| E_ret1 rfl rfl ?_
  exact ⟨Lret1 (Lstr (show a0 = fldQ a0 by simp_all [fldQ])), hS.fin [] (by decide) rfl⟩
 ·have hC0p : (needS a0 = true) := by simpa using hC0
  refine C_skip <| E_then <| C_seq ?_
  have hdl := dupS_len a0
  refine C_region <| wv rfl rfl rfl (R_move rfl rfl) ?_
  refine W_cons rfl (by decide) (Sv_call rfl rfl rfl ent104 ?_)
  refine (replaceAll_calls a0 [34] [34, 34] _ _ hS.out0  (by rfl) (by rfl) (by omega) (by exact HM.mono (by assumption) (hS.zl []))).mono ?_
  rintro e_ w3 ⟨rfl, hS_⟩
  refine ⟨_, rfl, ?_⟩
  have hS := hS.call0 hS_
  refine wv rfl rfl rfl (R_stradd rfl rfl rfl (by simp only [List.length_append, List.length_take, List.length_drop, List.length_cons, List.length_nil]; omega)) <| wv rfl rfl rfl (R_stradd rfl rfl rfl (by simp only [List.length_append, List.length_take, List.length_drop, List.length_cons, List.length_nil]; omega)) <| wv rfl rfl rfl (R_assign rfl rfl) ?_
  refine W_nil <| E_then (C_fr [(2, vstr (([34] ++ (dupS a0)) ++ [34]))] rfl ?_)
  refine C_ret <| E_ret1 rfl rfl ?_
  exact ⟨Lret1 (Lstr (show ([34] ++ (dupS a0)) ++ [34] = fldQ a0 by simp_all [fldQ])), hS.fin [] (by decide) rfl⟩
end Go.Proofs.YtaljccgfnmfhnaaGreatDoorG
set_option linter.all false
namespace Go.Proofs.YtaljccgfnmfhnaaGreatDoorG
open Go Go.Shelf Go.RowKit Go.Proofs
theorem Sub_below {z : Z} {w w' : World} (h : Sub z w) (hb : Below w.heap.size w w') : Sub z w' := fun b c hz => by
  rw [cellsAt_congr (hb.block b (h.lt (by rw [hz]; simp)))]
  exact h b c hz
theorem cz_spot {z : Z} {a : Addr} {v : Value} (h : cz z a = some v) : a.spot = none := by
  unfold cz at h
  split at h
  · cases h
  · rename_i hs
    simpa using hs
theorem Rd_cell {α : Type} {d : Kd α} {z : Z} {A : Option Addr} {xs : List α} (h : Rd d z A xs) (hd : d.sz = 1) (hk : ∀ x cs, d.K z x cs → ∃ u r, cs = u :: r) {i : Nat} {x : α} (hx : xs[i]? = some x) :
    ∃ b o cs, A = some ⟨b, o, none⟩ ∧ d.K z x cs ∧ ∀ u r, cs = u :: r → cz z ⟨b, o + i, none⟩ = some u := by
  have hi := (List.getElem?_eq_some_iff.1 hx).1
  obtain ⟨y, hy⟩ : ∃ y, xs[0]? = some y := ⟨_, List.getElem?_eq_getElem (by omega)⟩
  obtain ⟨a, cs0, ha, hk0, hc0⟩ := h 0 y hy
  obtain ⟨u0, r0, rfl⟩ := hk _ _ hk0
  have hs := cz_spot (hc0 0 u0 rfl)
  obtain ⟨a', cs, ha', hk1, hc⟩ := h i x hx
  rw [ha] at ha'
  injection ha' with ha'
  subst ha'
  obtain ⟨b, o, sp⟩ := a
  have hsp : sp = none := by simpa [Addr.add] using hs
  subst hsp
  refine ⟨b, o, cs, ha, hk1, fun u r hr => ?_⟩
  subst hr
  have := hc 0 u rfl
  rw [hd, Nat.mul_one, Nat.add_zero] at this
  rw [← this]
  congr 1
  unfold Addr.add
  split
  · rename_i h0; subst h0; rfl
  · rfl
theorem cz_lt {z : Z} {w : World} (h : Sub z w) {a : Addr} {v : Value} (hc : cz z a = some v) : a.block < w.heap.size := h.lt (by
  intro hn
  unfold cz at hc
  rw [hn] at hc
  split at hc <;> simp at hc)
theorem cz_at {z : Z} {a : Addr} {v : Value} (hc : cz z a = some v) : z a.block ≠ none := by
  intro hn
  unfold cz at hc
  rw [hn] at hc
  split at hc <;> simp at hc
theorem joinedS_calls (a0 : List St) (Aa0 : Option Addr) (ca0 : Nat) (a1 : St) (a2 : St) (z : Z) (w : World) (hI : In z w []) (hra0 : Rd kstr z Aa0 a0) (hca0 : Cap Aa0 a0.length ca0) (p0 : a0.length ≤ 1000000) (p1 : (pieces a1 a2 fldQ a0).length ≤ 70368744177664) (p2 : ∀ t ∈ a0, t.length ≤ 1000000000) (p3 : HM z) :
    Calls Tryz.prog 72 #[.slice Aa0 a0.length ca0, vstr a1, vstr a2, .func (.func 73) #[] #[]] w fun e w' => e = .returned (vstr (pieces a1 a2 fldQ a0)) ∧ Sp (FF []) w z w' [] := by
  refine Calls.mono (joined_s fldQ a1 a2 w a0 Aa0 ca0 (fun w' => Sub z w') (fun w' h => Sub_below hI.sub h) (fun t w' ht hz => ?_) (fun i x hx => ?_) p0 p1) fun e w' ⟨h1, h2⟩ => ⟨h1, Sp_below hI h2⟩
  · exact Calls.mono (qfield_calls t z w' (In.nil hz) (p2 t ht) p3) fun e w'' ⟨h1, h2⟩ => ⟨h1, Below_sp h2⟩
  · obtain ⟨b, o, cs, hA, hk, hc⟩ := Rd_cell hra0 rfl (fun x cs hk => by obtain rfl : cs = _ := hk; exact ⟨_, _, rfl⟩) hx
    obtain rfl : cs = _ := hk
    have hc' := hc _ _ rfl
    exact ⟨b, o, hA, cz_lt hI.sub hc', hI.sub.cell hc'⟩
end Go.Proofs.YtaljccgfnmfhnaaGreatDoorG
set_option linter.all false
set_option maxHeartbeats 8000000
set_option maxRecDepth 100000
namespace Go.Proofs.YtaljccgfnmfhnaaGreatDoorG
open Go Go.RowKit
theorem agg4 (w : World) : (isAgg 4).run Tryz.prog w = .ok false w := by kernel_rfl
theorem size4 (w : World) : (sizeOf 4).run Tryz.prog w = .ok 1 w := by kernel_rfl
theorem ent72 (args : Array Value) (w : World) : (callFunc 72 args).run Tryz.prog w = .ok (.enter 72 args) w := enters Tryz.func72 (by kernel_rfl) rfl args w
end Go.Proofs.YtaljccgfnmfhnaaGreatDoorG
set_option linter.all false
set_option maxHeartbeats 8000000
set_option maxRecDepth 100000
namespace Go.Proofs.YtaljccgfnmfhnaaGreatDoorG
open Go Go.RowKit
theorem print1_calls (a0 : List St) (Aa0 : Option Addr) (ca0 : Nat) (ba1 : Nat) (a1 : Bool) (z : Z) (w : World) (hI : In z w [bR ba1 4 [.bool a1]]) (hra0 : Rd kstr z Aa0 a0) (hca0 : Cap Aa0 a0.length ca0) (p0 : FitR a0) (p1 : HM z) :
    Calls Tryz.prog 71 #[.slice Aa0 a0.length ca0, .pointer (some ⟨ba1, 0, none⟩)] w fun e w' => e = .returned (vstr (recQ a0)) ∧ Sp (FF [bR ba1 4 [.bool a1]]) w z w' [bR ba1 4 [.bool (a1 && decide (0 < a0.length))]] := by
 have hla0 := hca0.le
 have hma0 := hca0.mx
 have hS := hI.sp
 obtain ⟨hf1, hf2, hf3⟩ := p0
 refine Calls_of (vs := [.slice Aa0 a0.length ca0, .pointer (some ⟨ba1, 0, none⟩)]) (N := 12) Tryz.func71 rfl rfl (Nat.le_of_ble_eq_true rfl) ?_
 refine C_seq <| C_region <| wv rfl rfl rfl (R_assign rfl rfl) ?_
 refine W_nil <| E_then <| C_seq <| C_region <| wv rfl rfl rfl (R_load1 rfl rfl agg4 ((hS.bx 0 rfl).cell rfl)) <| wv rfl rfl rfl (R_move rfl rfl) <| wg rfl rfl (Gd.on rfl rfl rfl) (fun hB => R_move rfl rfl) <| wg rfl rfl (Gd.on rfl rfl rfl) (fun hB => Runs.at_ (i := 6) (gl rfl hB) (R_len rfl rfl Tryz.underlying43)) <| wg rfl rfl (Gd.on rfl rfl rfl) (fun hB => Runs.at_ (i := 7) (gl rfl hB) (R_bin rfl rfl rfl rfl rfl)) <| wv rfl rfl rfl (R_pick_and rfl rfl rfl rfl) ?_
 refine W_cons0 rfl (S_store hS 0 rfl rfl rfl rfl rfl size4 (one1 rfl) (Nat.le_of_ble_eq_true rfl) (fun w1 hS => ?_))
 refine W_nil <| E_then (C_fr [(0, .slice Aa0 a0.length ca0)] rfl ?_)
 refine C_seq <| C_region <| wv rfl rfl rfl (R_move rfl rfl) ?_
 refine W_cons rfl (by decide) (Sv_call rfl rfl rfl ent72 ?_)
 refine (joinedS_calls a0 Aa0 ca0 [44] [] _ _ hS.out0 (hra0.mono (hS.zl [])) hca0 (by exact hf1) (by exact hf2) (by exact hf3) (by exact HM.mono (by assumption) (hS.zl []))).mono ?_
 rintro e_ w2 ⟨rfl, hS_⟩
 refine ⟨_, rfl, ?_⟩
 have hS := hS.call0 hS_
 refine wv rfl rfl rfl (R_assign rfl rfl) ?_
 refine W_nil <| E_then <| C_ret ?_
 have hv4 : (a1 && (decide ((a0.length : Int) > 0))) = (a1 && decide (0 < a0.length)) := by (rw [Bool.eq_iff_iff]; simp; done)
 have hS := hS.as 0 rfl (r' := bR ba1 4 [.bool (a1 && decide (0 < a0.length))]) (fun h_ => by rw [← hv4]; exact h_) (fun _ h_ => h_)
 refine E_ret1 rfl rfl ?_
 exact ⟨Lret1 (Lstr (show pieces [44] [] fldQ a0 = recQ a0 by rfl)), hS.fin [0] (by decide) rfl⟩
end Go.Proofs.YtaljccgfnmfhnaaGreatDoorG
set_option linter.all false
namespace Go.Proofs.YtaljccgfnmfhnaaGreatDoorG
open Go Go.Shelf Go.RowKit Go.Proofs
theorem joinedR_calls (a0 : List (List St)) (Aa0 : Option Addr) (ca0 : Nat) (a1 : St) (a2 : St) (ba3 : Nat) (a3 : Bool) (z : Z) (w : World) (hI : In z w [bR ba3 4 [.bool a3]]) (hra0 : Rd (kslice kstr) z Aa0 a0) (hca0 : Cap Aa0 a0.length ca0) (p0 : a0.length ≤ 1000000) (p1 : (pieces a1 a2 recQ a0).length ≤ 70368744177664) (p2 : ∀ r ∈ a0, FitR r) (p3 : HM z) :
    Calls Tryz.prog 70 #[.slice Aa0 a0.length ca0, vstr a1, vstr a2, .func (.func 71) #[] #[.pointer (some ⟨ba3, 0, none⟩)]] w fun e w' => e = .returned (vstr (pieces a1 a2 recQ a0)) ∧ Sp (FF [bR ba3 4 [.bool a3]]) w z w' [bR ba3 4 [.bool (fin2 a3 a0)]] := by
  have hbx : Box w ba3 4 [.bool a3] := hI.all (bR ba3 4 [.bool a3]) (List.mem_singleton.2 rfl)
  have hzb : z ba3 = none := hI.dz ba3 ⟨_, List.mem_singleton.2 rfl, rfl⟩
  have hF : ∀ cs k, FF [bR ba3 4 cs] k ↔ k = ba3 := fun cs k => ⟨fun ⟨r, hr, hk⟩ => by rw [List.mem_singleton.1 hr] at hk; exact hk, fun h => ⟨_, List.mem_singleton.2 rfl, h⟩⟩
  refine Calls.mono (joined_r recQ a1 a2 w a0 Aa0 ca0 ba3 a3 hbx (fun i xs hx => ?_) p0 p1) fun e w' ⟨h1, h2, h3⟩ => ⟨h1, ⟨hI.sub, hI.dz, h3.mono fun k hk => .inl ((hF _ k).2 hk), fun r hr => by rw [List.mem_singleton.1 hr]; exact h2, fun r hr k hk => .inl (by rw [List.mem_singleton.1 hr] at hk; exact (hF _ k).2 hk), List.pairwise_singleton _ _⟩⟩
  obtain ⟨b, o, cs, hA, hk, hc⟩ := Rd_cell hra0 rfl (fun x cs hk => by obtain ⟨A', c', rfl, _⟩ := hk; exact ⟨_, _, rfl⟩) hx
  obtain ⟨A', c', rfl, hcap, hrd⟩ := hk
  have hc' := hc _ _ rfl
  refine ⟨b, o, A', c', hA, cz_lt hI.sub hc', fun hb => cz_at hc' (by rw [hb]; exact hzb), hI.sub.cell hc', fun b' w1 hch hb1 => ?_⟩
  have hsub : Sub z w1 := fun k c hz => by
    rw [cellsAt_congr (hch.block k (hI.sub.lt (by rw [hz]; simp)) (fun hk => by rw [hk, hzb] at hz; cases hz))]
    exact hI.sub k c hz
  have hI1 : In z w1 [bR ba3 4 [.bool b']] := ⟨hsub, fun r hr => by rw [List.mem_singleton.1 hr]; exact hb1, List.pairwise_singleton _ _, fun k hk => by rw [(hF _ k).1 hk]; exact hzb⟩
  refine Calls.mono (print1_calls xs A' c' ba3 b' z w1 hI1 hrd hcap (p2 xs (List.mem_of_getElem? hx)) p3) fun e w' ⟨h1, h2⟩ => ⟨h1, h2.all (bR ba3 4 [.bool (b' && decide (0 < xs.length))]) (List.mem_singleton.2 rfl), h2.chg.mono fun k hk => .inl ((hF _ k).1 hk)⟩
end Go.Proofs.YtaljccgfnmfhnaaGreatDoorG
set_option linter.all false
namespace Go.Proofs.YtaljccgfnmfhnaaGreatDoorG
open Go
inductive Md where
  | F | B | Q | P | R
  deriving DecidableEq, Inhabited
abbrev Tells := List (St × Bool)
def run : Md → St → Nat → St → Tells × Int
  | .F, [], _, _ => ([([], true)], -1)
  | .F, c :: r, at_, _ =>
    if c = 34 then run .Q r (at_ + 1) []
    else if c = 44 then (([], false) :: (run .F r (at_ + 1) []).1, (run .F r (at_ + 1) []).2)
    else if c = 13 then run .R r (at_ + 1) []
    else if c = 10 then ([], at_)
    else run .B r (at_ + 1) [c]
  | .B, [], _, t => ([(t, true)], -1)
  | .B, c :: r, at_, t =>
    if c = 44 then ((t, false) :: (run .F r (at_ + 1) []).1, (run .F r (at_ + 1) []).2)
    else if c = 13 then run .R r (at_ + 1) t
    else if c = 10 ∨ c = 34 then ([], at_)
    else run .B r (at_ + 1) (t ++ [c])
  | .Q, [], at_, _ => ([], at_)
  | .Q, c :: r, at_, t => if c = 34 then run .P r (at_ + 1) t else run .Q r (at_ + 1) (t ++ [c])
  | .P, [], _, t => ([(t, true)], -1)
  | .P, c :: r, at_, t =>
    if c = 34 then run .Q r (at_ + 1) (t ++ [34])
    else if c = 44 then ((t, false) :: (run .F r (at_ + 1) []).1, (run .F r (at_ + 1) []).2)
    else if c = 13 then run .R r (at_ + 1) t
    else ([], at_)
  | .R, [], at_, _ => ([], at_)
  | .R, c :: r, at_, t =>
    if c = 10 then (match r with
      | [] => ([(t, true)], -1)
      | _ :: _ => ((t, true) :: (run .F r (at_ + 1) []).1, (run .F r (at_ + 1) []).2))
    else ([], at_)
theorem drop_at {α : Type} (l : List α) (n : Nat) (d : α) (h : n < l.length) : l.drop n = l.getD n d :: l.drop (n + 1) := by
  rw [List.drop_eq_getElem_cons h]
  simp [List.getD, h]
theorem drop_end {α : Type} {l : List α} {n : Nat} (h : l.length ≤ n) : l.drop n = [] := List.drop_of_length_le h
theorem u8i {c : UInt8} {k : Nat} (hk : k < 256) : ((c.toNat : Int) = (k : Int)) ↔ c = UInt8.ofNat k := by
  constructor
  · intro h
    have h1 : c.toNat = k := by omega
    apply UInt8.toNat_inj.1
    rw [h1]
    simp [Nat.mod_eq_of_lt hk]
  · intro h
    subst h
    simp [Nat.mod_eq_of_lt hk]
theorem u34 {c : UInt8} : ((c.toNat : Int) = 34) ↔ c = 34 := u8i (k := 34) (by decide)
theorem u44 {c : UInt8} : ((c.toNat : Int) = 44) ↔ c = 44 := u8i (k := 44) (by decide)
theorem u13 {c : UInt8} : ((c.toNat : Int) = 13) ↔ c = 13 := u8i (k := 13) (by decide)
theorem u10 {c : UInt8} : ((c.toNat : Int) = 10) ↔ c = 10 := u8i (k := 10) (by decide)
def Left (s : St) (m : Md) (n : Nat) (t : St) (h : Tells) : Prop := (h ++ (run m (s.drop n) n t).1, (run m (s.drop n) n t).2) = run .F s 0 []
section
variable {s : St} {n : Nat} {t : St} {h : Tells}
theorem Left.F_quote (hl : Left s .F n t h) (hn : n < s.length) (hc : s.getD n 0 = 34) : Left s .Q (n + 1) [] h := by
  unfold Left at *
  rw [drop_at s n 0 hn, hc] at hl
  simpa [run] using hl
theorem Left.F_bare (hl : Left s .F n t h) (hc : n < s.length → ¬ s.getD n 0 = 34) : Left s .B n [] h := by
  unfold Left at *
  rcases Nat.lt_or_ge n s.length with hn | hn
  · rw [drop_at s n 0 hn] at *
    rw [← hl]
    have h1 := hc hn
    simp only [run]
    rw [if_neg h1]
    by_cases h2 : s.getD n 0 = 44
    · simp only [h2, if_true]
    · by_cases h3 : s.getD n 0 = 13
      · simp only [h3]; rfl
      · by_cases h4 : s.getD n 0 = 10
        · simp only [h4]; rfl
        · simp only [h1, h2, h3, h4, if_false, or_self, List.nil_append]
  · rw [drop_end hn] at *
    rw [← hl]
    rfl
theorem Left.B_end (hl : Left s .B n t h) (hn : s.length ≤ n) : (h ++ [(t, true)], (-1 : Int)) = run .F s 0 [] := by
  unfold Left at *
  rw [drop_end hn] at hl
  exact hl
theorem Left.B_P (hl : Left s .B n t h) (hn : n < s.length) (hc : s.getD n 0 = 44 ∨ s.getD n 0 = 13) : Left s .P n t h := by
  unfold Left at *
  rw [drop_at s n 0 hn] at *
  rw [← hl]
  rcases hc with hc | hc <;> (rw [hc]; rfl)
theorem Left.B_bad (hl : Left s .B n t h) (hn : n < s.length) (hc : s.getD n 0 = 10 ∨ s.getD n 0 = 34) : (h, (n : Int)) = run .F s 0 [] := by
  unfold Left at *
  rw [drop_at s n 0 hn] at *
  rw [← hl]
  rcases hc with hc | hc <;> (rw [hc]; simp [run])
theorem Left.B_next (hl : Left s .B n t h) (hn : n < s.length) (h1 : ¬ s.getD n 0 = 44) (h2 : ¬ s.getD n 0 = 13) (h3 : ¬ s.getD n 0 = 10) (h4 : ¬ s.getD n 0 = 34) : Left s .B (n + 1) (t ++ [s.getD n 0]) h := by
  unfold Left at *
  rw [drop_at s n 0 hn] at hl
  rw [← hl]
  simp only [run, h1, h2, h3, h4, if_false, or_self]
theorem Left.Q_end (hl : Left s .Q n t h) (hn : s.length ≤ n) : (h, (n : Int)) = run .F s 0 [] := by
  unfold Left at *
  rw [drop_end hn] at hl
  rw [← hl]
  simp [run]
theorem Left.Q_next (hl : Left s .Q n t h) (hn : n < s.length) (h1 : ¬ s.getD n 0 = 34) : Left s .Q (n + 1) (t ++ [s.getD n 0]) h := by
  unfold Left at *
  rw [drop_at s n 0 hn] at hl
  rw [← hl]
  simp only [run, h1, if_false]
theorem Left.Q_quote (hl : Left s .Q n t h) (hn : n < s.length) (h1 : s.getD n 0 = 34) : Left s .P (n + 1) t h := by
  unfold Left at *
  rw [drop_at s n 0 hn] at hl
  rw [← hl]
  simp only [run, h1, if_true]
theorem Left.P_quote (hl : Left s .P n t h) (hn : n < s.length) (h1 : s.getD n 0 = 34) : Left s .Q (n + 1) (t ++ [34]) h := by
  unfold Left at *
  rw [drop_at s n 0 hn] at hl
  rw [← hl]
  simp only [run, h1, if_true]
theorem Left.P_end (hl : Left s .P n t h) (hn : s.length ≤ n) : (h ++ [(t, true)], (-1 : Int)) = run .F s 0 [] := by
  unfold Left at *
  rw [drop_end hn] at hl
  exact hl
theorem Left.P_comma (hl : Left s .P n t h) (hn : n < s.length) (h1 : s.getD n 0 = 44) : Left s .F (n + 1) [] (h ++ [(t, false)]) := by
  unfold Left at *
  rw [drop_at s n 0 hn, h1] at hl
  rw [← hl]
  simp [run]
theorem Left.P_bad (hl : Left s .P n t h) (hn : n < s.length) (h1 : ¬ s.getD n 0 = 34) (h2 : ¬ s.getD n 0 = 44) (h3 : ¬ s.getD n 0 = 13) : (h, (n : Int)) = run .F s 0 [] := by
  unfold Left at *
  rw [drop_at s n 0 hn] at hl
  rw [← hl]
  simp only [run, h1, h2, h3, if_false, List.append_nil]
theorem Left.P_cr (hl : Left s .P n t h) (hn : n < s.length) (h1 : s.getD n 0 = 13) : Left s .R (n + 1) t h := by
  unfold Left at *
  rw [drop_at s n 0 hn, h1] at hl
  rw [← hl]
  simp [run]
theorem Left.R_bad (hl : Left s .R n t h) (h1 : n < s.length → ¬ s.getD n 0 = 10) : (h, (n : Int)) = run .F s 0 [] := by
  unfold Left at *
  rcases Nat.lt_or_ge n s.length with hn | hn
  · rw [drop_at s n 0 hn] at hl
    rw [← hl]
    simp only [run, h1 hn, if_false, List.append_nil]
  · rw [drop_end hn] at hl
    rw [← hl]
    simp [run]
theorem Left.R_more (hl : Left s .R n t h) (hn : n + 1 < s.length) (h1 : s.getD n 0 = 10) : Left s .F (n + 1) [] (h ++ [(t, true)]) := by
  unfold Left at *
  rw [drop_at s n 0 (by omega), drop_at s (n + 1) 0 hn, h1] at hl
  rw [← hl, drop_at s (n + 1) 0 hn]
  simp [run]
theorem Left.R_end (hl : Left s .R n t h) (hn : n + 1 = s.length) (h1 : s.getD n 0 = 10) : (h ++ [(t, true)], (-1 : Int)) = run .F s 0 [] := by
  unfold Left at *
  rw [drop_at s n 0 (by omega), drop_end (show s.length ≤ n + 1 by omega), h1] at hl
  rw [← hl]
  simp [run]
end
theorem snoc_ind {α : Type} {P : List α → Prop} (h0 : P []) (hs : ∀ l x, P l → P (l ++ [x])) (l : List α) : P l := by
  have h : ∀ l : List α, P l.reverse := fun l => by
    induction l with
    | nil => exact h0
    | cons x l ih => rw [List.reverse_cons]; exact hs _ _ ih
  simpa using h l.reverse
def recs : Tells → List (List St) × List St
  | h => h.foldl (fun p x => if x.2 then (p.1 ++ [p.2 ++ [x.1]], []) else (p.1, p.2 ++ [x.1])) ([], [])
theorem recs_snoc (h : Tells) (x : St × Bool) : recs (h ++ [x]) = if x.2 then ((recs h).1 ++ [(recs h).2 ++ [x.1]], []) else ((recs h).1, (recs h).2 ++ [x.1]) := by simp [recs, List.foldl_append]
theorem recs_len (h : Tells) : (recs h).1.length ≤ h.length ∧ (recs h).2.length ≤ h.length := by
  refine snoc_ind (P := fun h => (recs h).1.length ≤ h.length ∧ (recs h).2.length ≤ h.length) (by simp [recs]) (fun h x ih => ?_) h
  rw [recs_snoc, List.length_append]
  split <;> simp <;> omega
def parseS (s : St) : List (List St) × Int × Int :=
  if (s.length : Int) > 65536 then ([], 0, 3) else if (run .F s 0 []).2 ≥ 0 then ([], (run .F s 0 []).2, 2) else ((recs (run .F s 0 []).1).1, 0, 0)
def isBare (c : UInt8) : Bool := decide (¬ (c.toNat : Int) = 34 ∧ ¬ (c.toNat : Int) = 44 ∧ ¬ (c.toNat : Int) = 13 ∧ ¬ (c.toNat : Int) = 10)
def Beh (s : St) (e : Nat) (t : St) (h : Tells) : Prop := (Left s .B e t h ∧ (e < s.length → isBare (s.getD e 0) = false)) ∨ (Left s .P e t h ∧ (e < s.length → ¬ s.getD e 0 = 34))
section
variable {s : St} {e : Nat} {t : St} {h : Tells}
theorem Beh.fin (hb : Beh s e t h) (he : s.length ≤ e) : (h ++ [(t, true)], (-1 : Int)) = run .F s 0 [] := by
  rcases hb with ⟨hl, _⟩ | ⟨hl, _⟩
  · exact hl.B_end he
  · exact hl.P_end he
end
end Go.Proofs.YtaljccgfnmfhnaaGreatDoorG
set_option linter.all false
namespace Go.Proofs.YtaljccgfnmfhnaaGreatDoorG
open Go
theorem step_cases (m : Md) (c : UInt8) (t : St) : (∃ m' t', (m' = .R → c = 13) ∧ ∀ r n, run m (c :: r) n t = run m' r (n + 1) t') ∨ (∃ y, ∀ r n, run m (c :: r) n t = ((y, false) :: (run .F r (n + 1) []).1, (run .F r (n + 1) []).2)) ∨
    (∀ r n, run m (c :: r) n t = ([], (n : Int))) ∨ (m = .R ∧ c = 10) := by
  cases m
  · by_cases h1 : c = 34
    · exact .inl ⟨.Q, [], (fun h => by cases h), fun r n => by simp only [run, h1, if_true]⟩
    · by_cases h2 : c = 44
      · exact .inr (.inl ⟨[], fun r n => by simp only [run]; rw [if_neg h1, if_pos h2]⟩)
      · by_cases h3 : c = 13
        · exact .inl ⟨.R, [], (fun _ => h3), fun r n => by simp only [run]; rw [if_neg h1, if_neg h2, if_pos h3]⟩
        · by_cases h4 : c = 10
          · exact .inr (.inr (.inl fun r n => by simp only [run]; rw [if_neg h1, if_neg h2, if_neg h3, if_pos h4]))
          · exact .inl ⟨.B, [c], (fun h => by cases h), fun r n => by simp only [run]; rw [if_neg h1, if_neg h2, if_neg h3, if_neg h4]⟩
  · by_cases h2 : c = 44
    · exact .inr (.inl ⟨t, fun r n => by simp only [run]; rw [if_pos h2]⟩)
    · by_cases h3 : c = 13
      · exact .inl ⟨.R, t, (fun _ => h3), fun r n => by simp only [run]; rw [if_neg h2, if_pos h3]⟩
      · by_cases h4 : c = 10 ∨ c = 34
        · exact .inr (.inr (.inl fun r n => by simp only [run]; rw [if_neg h2, if_neg h3, if_pos h4]))
        · exact .inl ⟨.B, t ++ [c], (fun h => by cases h), fun r n => by simp only [run]; rw [if_neg h2, if_neg h3, if_neg h4]⟩
  · by_cases h1 : c = 34
    · exact .inl ⟨.P, t, (fun h => by cases h), fun r n => by simp only [run]; rw [if_pos h1]⟩
    · exact .inl ⟨.Q, t ++ [c], (fun h => by cases h), fun r n => by simp only [run]; rw [if_neg h1]⟩
  · by_cases h1 : c = 34
    · exact .inl ⟨.Q, t ++ [34], (fun h => by cases h), fun r n => by simp only [run]; rw [if_pos h1]⟩
    · by_cases h2 : c = 44
      · exact .inr (.inl ⟨t, fun r n => by simp only [run]; rw [if_neg h1, if_pos h2]⟩)
      · by_cases h3 : c = 13
        · exact .inl ⟨.R, t, (fun _ => h3), fun r n => by simp only [run]; rw [if_neg h1, if_neg h2, if_pos h3]⟩
        · exact .inr (.inr (.inl fun r n => by simp only [run]; rw [if_neg h1, if_neg h2, if_neg h3]))
  · by_cases h4 : c = 10
    · exact .inr (.inr (.inr ⟨rfl, h4⟩))
    · exact .inr (.inr (.inl fun r n => by simp only [run]; rw [if_neg h4]))
theorem run_R10 (r : St) (n : Nat) (t : St) (h : r ≠ []) : run .R (10 :: r) n t = ((t, true) :: (run .F r (n + 1) []).1, (run .F r (n + 1) []).2) := by
  cases r with
  | nil => exact absurd rfl h
  | cons a b => rfl
theorem shift : ∀ (l : St) (m : Md) (n n' : Nat) (t : St), (run m l n t).1 = (run m l n' t).1 ∧ ((run m l n t).2 < 0 ↔ (run m l n' t).2 < 0) := by
  intro l
  induction l with
  | nil => intro m n n' t; cases m <;> simp [run] <;> omega
  | cons c r ih =>
    intro m n n' t
    have hr := fun m t => ih m (n + 1) (n' + 1) t
    rcases step_cases m c t with ⟨m', t', _, e⟩ | ⟨y, e⟩ | e | ⟨rfl, rfl⟩
    · rw [e, e]; exact hr _ _
    · rw [e, e]; exact ⟨by rw [(hr _ _).1], (hr _ _).2⟩
    · rw [e, e]; exact ⟨rfl, by simp only; omega⟩
    · by_cases hn : r = []
      · subst hn; exact ⟨rfl, Iff.rfl⟩
      · rw [run_R10 _ _ _ hn, run_R10 _ _ _ hn]; exact ⟨by rw [(hr _ _).1], (hr _ _).2⟩
section
variable {s : St}
end
end Go.Proofs.YtaljccgfnmfhnaaGreatDoorG
set_option linter.all false
set_option maxHeartbeats 8000000
set_option maxRecDepth 100000
namespace Go.Proofs.YtaljccgfnmfhnaaGreatDoorG
open Go Go.RowKit
theorem size5 (w : World) : (sizeOf 5).run Tryz.prog w = .ok 1 w := by kernel_rfl
theorem elem110 : ElemInfo Tryz.prog 110 5 1 1 := ElemInfo.of (z := .int .u8 0) Tryz.underlying110 (by kernel_rfl) rfl (by decide)
theorem agg43 (w : World) : (isAgg 43).run Tryz.prog w = .ok false w := by kernel_rfl
theorem elem43 : ElemInfo Tryz.prog 43 9 1 16 := ElemInfo.of (z := vstr []) Tryz.underlying43 (by kernel_rfl) rfl (by decide)
theorem size43 (w : World) : (sizeOf 43).run Tryz.prog w = .ok 1 w := by kernel_rfl
theorem agg22 (w : World) : (isAgg 22).run Tryz.prog w = .ok false w := by kernel_rfl
theorem elem22 : ElemInfo Tryz.prog 22 43 1 24 := ElemInfo.of (z := .slice none 0 0) Tryz.underlying22 (by kernel_rfl) rfl (by decide)
theorem size22 (w : World) : (sizeOf 22).run Tryz.prog w = .ok 1 w := by kernel_rfl
theorem ent54 (args : Array Value) (w : World) : (callFunc 54 args).run Tryz.prog w = .ok (.enter 54 args) w := enters Tryz.func54 (by kernel_rfl) rfl args w
theorem alloc22 (w : World) : (Instr.alloc 22 true (.tuple #[])).run Tryz.prog w = .ok (.pointer (some ⟨w.heap.size, 0, none⟩)) (w.alloc (.cells [.slice none 0 0].toArray 22)) := by kernel_rfl
theorem alloc43 (w : World) : (Instr.alloc 43 true (.tuple #[])).run Tryz.prog w = .ok (.pointer (some ⟨w.heap.size, 0, none⟩)) (w.alloc (.cells [.slice none 0 0].toArray 43)) := by kernel_rfl
theorem ent53 (args : Array Value) (w : World) : (callFunc 53 args).run Tryz.prog w = .ok (.enter 53 args) w := enters Tryz.func53 (by kernel_rfl) rfl args w
theorem size9 (w : World) : (sizeOf 9).run Tryz.prog w = .ok 1 w := by kernel_rfl
theorem agg9 (w : World) : (isAgg 9).run Tryz.prog w = .ok false w := by kernel_rfl
end Go.Proofs.YtaljccgfnmfhnaaGreatDoorG
set_option linter.all false
set_option maxHeartbeats 8000000
set_option maxRecDepth 100000
namespace Go.Proofs.YtaljccgfnmfhnaaGreatDoorG
open Go Go.RowKit
theorem walk_calls (a0 : St) (ga1 : Nat) (ka1 : List Value) (γa1 : Type) (Ra1 : List (St × Bool) → γa1 → Res) (ya1 : γa1) (zca1 : Z) (z : Z) (w : World) (hI : In z w [Ra1 [] ya1]) (hfa1 : FV Tryz.prog zca1 ga1 ka1 (fun z_ (x_ : St × Bool) vs_ => vs_ = [vstr x_.1, .bool x_.2]) Ra1 (fun h_ _ => h_.length ≤ 100000) (fun h_ x_ => h_ ++ [x_]) (fun _ _ => .tuple #[])) (hza1 : zle zca1 z) (p0 : a0.length ≤ 70000) :
    Calls Tryz.prog 53 #[vstr a0, .func (.func ga1) #[] ka1.toArray] w fun e w' => ∃ (ya1' : γa1), e = .returned (.int .i64 (run .F a0 0 []).2) ∧ Sp (FF [Ra1 [] ya1]) w z w' [Ra1 (run .F a0 0 []).1 ya1'] := by
 have hS := hI.sp
 have hJ0_3 : Left a0 .F 0 [] [] := by simp [Left]
 refine Calls_of (vs := [vstr a0, .func (.func ga1) #[] ka1.toArray]) (N := 126) Tryz.func53 rfl rfl (Nat.le_of_ble_eq_true rfl) ?_
 refine C_seq <| C_region <| wv rfl rfl rfl (R_assign rfl rfl) ?_
 refine W_nil <| E_then <| C_scope rfl [0, 3, 1, 4, 2] (fun l_ m_ f_ w_ => match l_ with | 0 => ∃ (n : Nat) (h : Tells) (t : St) (Ar1 : Option Addr) (cr1 : Nat) (Lr1 : List Nat) (y2 : γa1), f_ = [(0, vstr a0), (1, .func (.func ga1) #[] ka1.toArray), (5, .int .i64 (n : Int)), (6, .slice Ar1 (ub t).length cr1)] ∧ n ≤ a0.length ∧ t.length ≤ n ∧ h.length ≤ n ∧ Left a0 .F n [] h ∧ m_ = 2 * (a0.length - n) + 2 ∧ Sp (FF [Ra1 [] ya1]) w z w_ [oZ (kint .u8) 5 zE Ar1 cr1 (ub t) Lr1, Ra1 h y2] | 3 => ∃ (n : Nat) (h : Tells) (t : St) (Ar3 : Option Addr) (cr3 : Nat) (Lr3 : List Nat) (y4 : γa1), f_ = [(0, vstr a0), (1, .func (.func ga1) #[] ka1.toArray), (5, .int .i64 (n : Int)), (6, .slice Ar3 (ub t).length cr3)] ∧ n ≤ a0.length ∧ t.length ≤ n ∧ h.length ≤ n ∧ Left a0 .B n t h ∧ m_ = 2 * (a0.length - n) + 2 ∧ Sp (FF [Ra1 [] ya1]) w z w_ [oZ (kint .u8) 5 zE Ar3 cr3 (ub t) Lr3, Ra1 h y4] | 1 => ∃ (n : Nat) (h : Tells) (t : St) (Ar5 : Option Addr) (cr5 : Nat) (Lr5 : List Nat) (y6 : γa1), f_ = [(0, vstr a0), (1, .func (.func ga1) #[] ka1.toArray), (5, .int .i64 (n : Int)), (6, .slice Ar5 (ub t).length cr5)] ∧ n ≤ a0.length ∧ t.length ≤ n ∧ h.length ≤ n ∧ Left a0 .Q n t h ∧ m_ = 2 * (a0.length - n) + 2 ∧ Sp (FF [Ra1 [] ya1]) w z w_ [oZ (kint .u8) 5 zE Ar5 cr5 (ub t) Lr5, Ra1 h y6] | 4 => ∃ (n : Nat) (h : Tells) (t : St) (Ar7 : Option Addr) (cr7 : Nat) (Lr7 : List Nat) (y8 : γa1), f_ = [(0, vstr a0), (1, .func (.func ga1) #[] ka1.toArray), (5, .int .i64 (n : Int)), (6, .slice Ar7 (ub t).length cr7)] ∧ n ≤ a0.length ∧ t.length ≤ n ∧ h.length ≤ n ∧ Left a0 .P n t h ∧ (n < a0.length → ¬ a0.getD n 0 = 34) ∧ m_ = 2 * (a0.length - n) + 1 ∧ Sp (FF [Ra1 [] ya1]) w z w_ [oZ (kint .u8) 5 zE Ar7 cr7 (ub t) Lr7, Ra1 h y8] | 2 => ∃ (n : Nat) (h : Tells) (t : St) (Ar9 : Option Addr) (cr9 : Nat) (Lr9 : List Nat) (y10 : γa1), f_ = [(1, .func (.func ga1) #[] ka1.toArray), (6, .slice Ar9 (ub t).length cr9)] ∧ n ≤ a0.length ∧ t.length ≤ n ∧ h.length ≤ n ∧ (h ++ [(t, true)], (-1 : Int)) = run .F a0 0 [] ∧ m_ = 0 ∧ Sp (FF [Ra1 [] ya1]) w z w_ [oZ (kint .u8) 5 zE Ar9 cr9 (ub t) Lr9, Ra1 h y10] | _ => False) ?_ (List.forall_mem_cons.2 ⟨?_, (List.forall_mem_cons.2 ⟨?_, (List.forall_mem_cons.2 ⟨?_, (List.forall_mem_cons.2 ⟨?_, (List.forall_mem_cons.2 ⟨?_, (fun _ h => by cases h)⟩)⟩)⟩)⟩)⟩)
 ·have _s := trivial
  refine C_seq <| C_region <| wv rfl rfl rfl (R_assign rfl rfl) ?_
  refine W_nil <| E_then <| C_seq <| C_region <| wv rfl rfl rfl (R_assign rfl rfl) ?_
  refine W_nil <| E_then <| C_seq <| C_label ?_
  refine E_then <| C_seq <| C_region <| wv rfl rfl rfl (R_move rfl rfl) <| wv rfl rfl rfl (R_slice0 rfl rfl rfl rfl (by kernel_rfl) ⟨_, size5 _⟩) <| wv rfl rfl rfl (R_assign rfl rfl) ?_
  refine W_nil <| E_then <| C_seq <| C_seq <| C_region <| wv rfl rfl rfl (R_move rfl rfl) <| wv rfl rfl rfl (R_move rfl rfl) <| wv rfl rfl rfl (R_strlen rfl rfl Tryz.underlying9) <| wv rfl rfl rfl (R_bin rfl rfl rfl rfl rfl) <| wv rfl rfl rfl (R_move rfl rfl) ?_
  refine W_split (t := 13) rfl (fun hg11 => ?_) (fun hg11 => ?_)
  ·have hg11p : 0 < (a0.length : Int) := by simpa using hg11
   refine W_cons rfl (by decide) (Sv_gt rfl rfl rfl hg11 (Sv_val rfl (R_move rfl rfl) ?_))
   refine W_cons rfl (by decide) (Sv_gt rfl rfl rfl hg11 (Sv_val rfl (R_move rfl rfl) ?_))
   refine W_cons rfl (by decide) (Sv_gt rfl rfl rfl hg11 (Sv_val rfl (R_stridx rfl rfl rfl Tryz.underlying9 (by omega) (by omega)) ?_))
   refine W_cons rfl (by decide) (Sv_gt rfl rfl rfl hg11 (Sv_val rfl (R_bin rfl rfl rfl rfl rfl) ?_))
   refine wv rfl rfl rfl (R_pick_t rfl rfl hg11 rfl) ?_
   refine W_nil <| E_then (C_fr [(0, vstr a0), (1, .func (.func ga1) #[] ka1.toArray), (5, .int .i64 0), (6, .slice none ([] : List Int).length 0), (18, .bool (((a0.getD 0 0).toNat : Int) == 34))] rfl ?_)
   refine C_ite rfl (fun hC0 => ?_) (fun hC0 => ?_)
   ·have hC0p : ((a0.getD 0 0).toNat : Int) = 34 := by simpa using hC0
    refine C_seq <| C_region <| wv rfl rfl rfl (R_move rfl rfl) <| wv rfl rfl rfl (R_add64 rfl rfl rfl (by omega) (by omega)) <| wv rfl rfl rfl (R_assign rfl rfl) ?_
    refine W_nil <| E_then <| C_goto ?_
    refine E_then_goto ?_
    have hS := hS.zrow (kint .u8) 5 none
    have hs13 : ([] : List Int) = ub ([] : St) := by simp [ub]
    have hS := hS.reZ 0 rfl hs13
    have hs14 : 0 + 1 = ((0 + 1 : Nat) : Int) := by omega
    have hh15 : [] = ([] : Tells) := by simp
    have hS := hS.cbr Ra1 1 rfl hh15
    refine E_jump (m := 2 * (a0.length - (0 + 1 : Nat)) + 2) [0, 1, 5, 6] (by decide) (fun _ h_ => by cases h_) ⟨(0 + 1 : Nat), ([] : Tells), ([] : St), none, 0, [], ya1, (by rw [← hs13, ← hs14] <;> rfl), (by omega), (by (simp; done)), (by (simp; done)), (by exact Left.F_quote hJ0_3 (by omega) (u34.1 (by assumption))), rfl, hS.fin [0, 1] (by decide) rfl⟩
   ·have hC0p : ¬ (((a0.getD 0 0).toNat : Int) = 34) := by simpa using hC0
    refine C_skip <| E_then <| C_seq <| C_label ?_
    refine E_then <| C_seq <| C_seq <| C_region <| wv rfl rfl rfl (R_move rfl rfl) <| wv rfl rfl rfl (R_move rfl rfl) <| wv rfl rfl rfl (R_strlen rfl rfl Tryz.underlying9) <| wv rfl rfl rfl (R_bin rfl rfl rfl rfl rfl) ?_
    refine W_nil <| E_then <| C_ite rfl (fun hC1 => ?_) (fun hC1 => ?_)
    ·have hC1p : 0 = (a0.length : Int) := by simpa using hC1
     refine C_goto ?_
     refine E_then_goto ?_
     have hS := hS.zrow (kint .u8) 5 none
     have hs17 : ([] : List Int) = ub ([] : St) := by simp [ub]
     have hS := hS.reZ 0 rfl hs17
     have hh18 : [] = ([] : Tells) := by simp
     have hS := hS.cbr Ra1 1 rfl hh18
     refine E_jump (m := 0) [1, 6] (by decide) (fun _ h_ => by cases h_) ⟨(0 : Nat), ([] : Tells), ([] : St), none, 0, [], ya1, (by rw [← hs17] <;> rfl), (by omega), (by (simp; done)), (by (simp; done)), (by exact Left.B_end (Left.F_bare hJ0_3 (by intro h_; exact mt u34.2 (by assumption))) (by omega)), rfl, hS.fin [0, 1] (by decide) rfl⟩
    ·have hC1p : ¬ (0 = (a0.length : Int)) := by simpa using hC1
     refine C_skip <| E_then (C_fr [(0, vstr a0), (1, .func (.func ga1) #[] ka1.toArray), (5, .int .i64 0), (6, .slice none ([] : List Int).length 0)] rfl ?_)
     refine C_seq <| C_seq <| C_region <| wv rfl rfl rfl (R_move rfl rfl) <| wv rfl rfl rfl (R_move rfl rfl) <| wv rfl rfl rfl (R_stridx rfl rfl rfl Tryz.underlying9 (by omega) (by omega)) ?_
     refine W_nil <| E_then <| C_block <| C_seq <| C_seq <| C_region <| wv rfl rfl rfl (R_bin rfl rfl rfl rfl rfl) <| wv rfl rfl rfl (R_assign rfl rfl) ?_
     refine W_nil <| E_then <| C_ite rfl (fun hC2 => ?_) (fun hC2 => ?_)
     ·have hC2p : ((a0.getD 0 0).toNat : Int) = 44 := by simpa using hC2
      refine C_skip <| E_then <| C_if rfl hC2 ?_
      refine C_goto ?_
      refine E_block_goto ?_
      refine E_then_goto ?_
      have hS := hS.zrow (kint .u8) 5 none
      have hs20 : ([] : List Int) = ub ([] : St) := by simp [ub]
      have hS := hS.reZ 0 rfl hs20
      have hs21 : 0 = ((0 : Nat) : Int) := by omega
      have hh22 : [] = ([] : Tells) := by simp
      have hS := hS.cbr Ra1 1 rfl hh22
      refine E_jump (m := 2 * (a0.length - (0 : Nat)) + 1) [0, 1, 5, 6] (by decide) (fun _ h_ => by cases h_) ⟨(0 : Nat), ([] : Tells), ([] : St), none, 0, [], ya1, (by rw [← hs20, ← hs21] <;> rfl), (by omega), (by (simp; done)), (by (simp; done)), (by exact Left.B_P (Left.F_bare hJ0_3 (by intro h_; exact mt u34.2 (by assumption))) (by omega) (.inl (u44.1 (by assumption)))), (by intro _; have h_ : a0.getD 0 0 = 44 := (u44.1 (by assumption)); rw [h_]; decide), rfl, hS.fin [0, 1] (by decide) rfl⟩
     ·have hC2p : ¬ (((a0.getD 0 0).toNat : Int) = 44) := by simpa using hC2
      refine C_region <| wv rfl rfl rfl (R_bin rfl rfl rfl rfl rfl) <| wv rfl rfl rfl (R_assign rfl rfl) ?_
      refine W_nil <| E_then <| C_ite rfl (fun hC3 => ?_) (fun hC3 => ?_)
      ·have hC3p : ((a0.getD 0 0).toNat : Int) = 13 := by simpa using hC3
       refine C_goto ?_
       refine E_block_goto ?_
       refine E_then_goto ?_
       have hS := hS.zrow (kint .u8) 5 none
       have hs24 : ([] : List Int) = ub ([] : St) := by simp [ub]
       have hS := hS.reZ 0 rfl hs24
       have hs25 : 0 = ((0 : Nat) : Int) := by omega
       have hh26 : [] = ([] : Tells) := by simp
       have hS := hS.cbr Ra1 1 rfl hh26
       refine E_jump (m := 2 * (a0.length - (0 : Nat)) + 1) [0, 1, 5, 6] (by decide) (fun _ h_ => by cases h_) ⟨(0 : Nat), ([] : Tells), ([] : St), none, 0, [], ya1, (by rw [← hs24, ← hs25] <;> rfl), (by omega), (by (simp; done)), (by (simp; done)), (by exact Left.B_P (Left.F_bare hJ0_3 (by intro h_; exact mt u34.2 (by assumption))) (by omega) (.inr (u13.1 (by assumption)))), (by intro _; have h_ : a0.getD 0 0 = 13 := (u13.1 (by assumption)); rw [h_]; decide), rfl, hS.fin [0, 1] (by decide) rfl⟩
      ·have hC3p : ¬ (((a0.getD 0 0).toNat : Int) = 13) := by simpa using hC3
       refine C_seq <| C_seq <| C_region <| wv rfl rfl rfl (R_bin rfl rfl rfl rfl rfl) <| wv rfl rfl rfl (R_assign rfl rfl) ?_
       refine W_nil <| E_then (C_fr [(0, vstr a0), (1, .func (.func ga1) #[] ka1.toArray), (5, .int .i64 0), (6, .slice none ([] : List Int).length 0), (27, .int .u8 ((a0.getD 0 0).toNat : Int)), (31, .bool (((a0.getD 0 0).toNat : Int) == 10))] rfl ?_)
       refine C_ite rfl (fun hC4 => ?_) (fun hC4 => ?_)
       ·have hC4p : ((a0.getD 0 0).toNat : Int) = 10 := by simpa using hC4
        refine C_skip <| E_then <| C_if rfl hC4 ?_
        refine C_seq <| C_region <| wv rfl rfl rfl (R_move rfl rfl) <| wv rfl rfl rfl (R_assign rfl rfl) ?_
        refine W_nil <| E_then (C_fr [(4, .int .i64 0)] rfl ?_)
        refine C_ret <| E_block_ret <| E_then_ret <| E_scope_ret ?_
        have hh27 : [] = (run .F a0 0 []).1 := by (exact congrArg Prod.fst (Left.B_bad (Left.F_bare hJ0_3 (by intro h_; exact mt u34.2 (by assumption))) (by omega) (by exact .inl (u10.1 (by assumption)))))
        have hS := hS.cbr Ra1 0 rfl hh27
        refine E_ret1 rfl rfl ?_
        exact ⟨ya1, Lret1 (Lint (show 0 = (run .F a0 0 []).2 by (exact congrArg Prod.snd (Left.B_bad (Left.F_bare hJ0_3 (by intro h_; exact mt u34.2 (by assumption))) (by omega) (by exact .inl (u10.1 (by assumption))))))), hS.fin [0] (by decide) rfl⟩
       ·have hC4p : ¬ (((a0.getD 0 0).toNat : Int) = 10) := by simpa using hC4
        refine C_region <| wv rfl rfl rfl (R_bin rfl rfl rfl rfl rfl) <| wv rfl rfl rfl (R_assign rfl rfl) ?_
        refine W_nil <| E_then <| C_else rfl hC0 ?_
        refine C_skip <| E_block_normal <| E_then <| C_seq <| C_region <| wv rfl rfl rfl (R_move rfl rfl) <| wv rfl rfl rfl (R_move rfl rfl) <| wv rfl rfl rfl (R_move rfl rfl) <| wv rfl rfl rfl (R_stridx rfl rfl rfl Tryz.underlying9 (by omega) (by omega)) ?_
        refine W_cons rfl (by decide) (S_row (d := (kint .u8)) (q := zE) hS ([((a0.getD 0 0).toNat : Int)] : List Int) rfl (R_buildSlice (ps := [(0, (.tmp 38))]) (vs := [.int .u8 ((a0.getD 0 0).toNat : Int)]) (w' := w.alloc (.cells [.int .u8 ((a0.getD 0 0).toNat : Int)].toArray 5)) (r := .slice (some ⟨w.heap.size, 0, none⟩) 1 1) rfl rfl rfl (by kernel_rfl)) (by simp [Reps, flat, kint]) rfl (by decide) (fun g29 w28 hS => ?_))
        refine W_cons rfl (by decide) (S_append0 zE hS rfl rfl elem110 rfl rfl (hS.sow 0 rfl (fun _ _ h => h)) (by simp) (by (try simp only [List.length_cons, List.length_nil, List.length_append, maxLen]); omega) (by (try simp only [List.length_cons, List.length_nil, List.length_append, maxLen]); omega) (fun Ar31 cr31 w30 hS => ?_))
        have hp32 := hS.cap 0 rfl
        have hlhp32 := hp32.le
        have hmhp32 := hp32.mx
        refine wv rfl rfl rfl (R_assign rfl rfl) ?_
        refine W_nil <| E_then (C_fr [(0, vstr a0), (1, .func (.func ga1) #[] ka1.toArray), (5, .int .i64 0), (6, .slice Ar31 ([((a0.getD 0 0).toNat : Int)] : List Int).length cr31)] rfl ?_)
        refine C_seq <| C_region <| wv rfl rfl rfl (R_move rfl rfl) <| wv rfl rfl rfl (R_add64 rfl rfl rfl (by omega) (by omega)) <| wv rfl rfl rfl (R_assign rfl rfl) ?_
        refine W_nil <| E_then <| C_seq <| C_goto ?_
        refine E_then_goto ?_
        have hS := hS.toZ 0 rfl
        have hs33 : ([((a0.getD 0 0).toNat : Int)] : List Int) = ub ([] ++ [a0.getD 0 0] : St) := by simp [ub]
        have hS := hS.reZ 0 rfl hs33
        have hs34 : 0 + 1 = ((0 + 1 : Nat) : Int) := by omega
        have hh35 : [] = ([] : Tells) := by simp
        have hS := hS.cbr Ra1 2 rfl hh35
        refine E_jump (m := 2 * (a0.length - (0 + 1 : Nat)) + 2) [0, 1, 5, 6] (by decide) (fun _ h_ => by cases h_) ⟨(0 + 1 : Nat), ([] : Tells), ([] ++ [a0.getD 0 0] : St), Ar31, cr31, (blk Ar31), ya1, (by rw [← hs33, ← hs34] <;> rfl), (by omega), (by (simp; done)), (by (simp; done)), (by exact Left.B_next (Left.F_bare hJ0_3 (by intro h_; exact mt u34.2 (by assumption))) (by omega) (mt u44.2 (by assumption)) (mt u13.2 (by assumption)) (mt u10.2 (by assumption)) (mt u34.2 (by assumption))), rfl, hS.fin [0, 2] (by decide) rfl⟩
  ·have hg11p : ¬ (0 < (a0.length : Int)) := by simpa using hg11
   refine W_cons rfl (by decide) (Sv_off rfl rfl rfl (by rw [hg11] <;> rfl) ?_)
   refine W_cons rfl (by decide) (Sv_off rfl rfl rfl (by rw [hg11] <;> rfl) ?_)
   refine W_cons rfl (by decide) (Sv_off rfl rfl rfl (by rw [hg11] <;> rfl) ?_)
   refine W_cons rfl (by decide) (Sv_off rfl rfl rfl (by rw [hg11] <;> rfl) ?_)
   refine wv rfl rfl rfl (R_pick_f rfl rfl hg11 rfl) ?_
   refine W_nil <| E_then (C_fr [(0, vstr a0), (1, .func (.func ga1) #[] ka1.toArray), (5, .int .i64 0), (6, .slice none ([] : List Int).length 0), (18, .bool false)] rfl ?_)
   refine C_else rfl rfl ?_
   refine C_skip <| E_then <| C_seq <| C_label ?_
   refine E_then <| C_seq <| C_seq <| C_region <| wv rfl rfl rfl (R_move rfl rfl) <| wv rfl rfl rfl (R_move rfl rfl) <| wv rfl rfl rfl (R_strlen rfl rfl Tryz.underlying9) <| wv rfl rfl rfl (R_bin rfl rfl rfl rfl rfl) ?_
   refine W_nil <| E_then <| C_ite rfl (fun hC1 => ?_) (fun hC1 => ?_)
   ·have hC1p : 0 = (a0.length : Int) := by simpa using hC1
    refine C_goto ?_
    refine E_then_goto ?_
    have hS := hS.zrow (kint .u8) 5 none
    have hs37 : ([] : List Int) = ub ([] : St) := by simp [ub]
    have hS := hS.reZ 0 rfl hs37
    have hh38 : [] = ([] : Tells) := by simp
    have hS := hS.cbr Ra1 1 rfl hh38
    refine E_jump (m := 0) [1, 6] (by decide) (fun _ h_ => by cases h_) ⟨(0 : Nat), ([] : Tells), ([] : St), none, 0, [], ya1, (by rw [← hs37] <;> rfl), (by omega), (by (simp; done)), (by (simp; done)), (by exact Left.B_end (Left.F_bare hJ0_3 (by intro h_; omega)) (by omega)), rfl, hS.fin [0, 1] (by decide) rfl⟩
   ·have hC1p : ¬ (0 = (a0.length : Int)) := by simpa using hC1
    refine C_skip <| E_then (C_fr [(0, vstr a0), (1, .func (.func ga1) #[] ka1.toArray), (5, .int .i64 0), (6, .slice none ([] : List Int).length 0)] rfl ?_)
    refine C_seq <| C_seq <| C_region <| wv rfl rfl rfl (R_move rfl rfl) <| wv rfl rfl rfl (R_move rfl rfl) <| wv rfl rfl rfl (R_stridx rfl rfl rfl Tryz.underlying9 (by omega) (by omega)) ?_
    refine W_nil <| E_then <| C_block <| C_seq <| C_seq <| C_region <| wv rfl rfl rfl (R_bin rfl rfl rfl rfl rfl) <| wv rfl rfl rfl (R_assign rfl rfl) ?_
    refine W_nil <| E_then <| C_ite rfl (fun hC2 => ?_) (fun hC2 => ?_)
    ·have hC2p : ((a0.getD 0 0).toNat : Int) = 44 := by simpa using hC2
     refine C_skip <| E_then <| C_if rfl hC2 ?_
     refine C_goto ?_
     refine E_block_goto ?_
     refine E_then_goto ?_
     have hS := hS.zrow (kint .u8) 5 none
     have hs40 : ([] : List Int) = ub ([] : St) := by simp [ub]
     have hS := hS.reZ 0 rfl hs40
     have hs41 : 0 = ((0 : Nat) : Int) := by omega
     have hh42 : [] = ([] : Tells) := by simp
     have hS := hS.cbr Ra1 1 rfl hh42
     refine E_jump (m := 2 * (a0.length - (0 : Nat)) + 1) [0, 1, 5, 6] (by decide) (fun _ h_ => by cases h_) ⟨(0 : Nat), ([] : Tells), ([] : St), none, 0, [], ya1, (by rw [← hs40, ← hs41] <;> rfl), (by omega), (by (simp; done)), (by (simp; done)), (by exact Left.B_P (Left.F_bare hJ0_3 (by intro h_; omega)) (by omega) (.inl (u44.1 (by assumption)))), (by intro _; have h_ : a0.getD 0 0 = 44 := (u44.1 (by assumption)); rw [h_]; decide), rfl, hS.fin [0, 1] (by decide) rfl⟩
    ·have hC2p : ¬ (((a0.getD 0 0).toNat : Int) = 44) := by simpa using hC2
     refine C_region <| wv rfl rfl rfl (R_bin rfl rfl rfl rfl rfl) <| wv rfl rfl rfl (R_assign rfl rfl) ?_
     refine W_nil <| E_then <| C_ite rfl (fun hC3 => ?_) (fun hC3 => ?_)
     ·have hC3p : ((a0.getD 0 0).toNat : Int) = 13 := by simpa using hC3
      refine C_goto ?_
      refine E_block_goto ?_
      refine E_then_goto ?_
      have hS := hS.zrow (kint .u8) 5 none
      have hs44 : ([] : List Int) = ub ([] : St) := by simp [ub]
      have hS := hS.reZ 0 rfl hs44
      have hs45 : 0 = ((0 : Nat) : Int) := by omega
      have hh46 : [] = ([] : Tells) := by simp
      have hS := hS.cbr Ra1 1 rfl hh46
      refine E_jump (m := 2 * (a0.length - (0 : Nat)) + 1) [0, 1, 5, 6] (by decide) (fun _ h_ => by cases h_) ⟨(0 : Nat), ([] : Tells), ([] : St), none, 0, [], ya1, (by rw [← hs44, ← hs45] <;> rfl), (by omega), (by (simp; done)), (by (simp; done)), (by exact Left.B_P (Left.F_bare hJ0_3 (by intro h_; omega)) (by omega) (.inr (u13.1 (by assumption)))), (by intro _; have h_ : a0.getD 0 0 = 13 := (u13.1 (by assumption)); rw [h_]; decide), rfl, hS.fin [0, 1] (by decide) rfl⟩
     ·have hC3p : ¬ (((a0.getD 0 0).toNat : Int) = 13) := by simpa using hC3
      refine C_seq <| C_seq <| C_region <| wv rfl rfl rfl (R_bin rfl rfl rfl rfl rfl) <| wv rfl rfl rfl (R_assign rfl rfl) ?_
      refine W_nil <| E_then (C_fr [(0, vstr a0), (1, .func (.func ga1) #[] ka1.toArray), (5, .int .i64 0), (6, .slice none ([] : List Int).length 0), (27, .int .u8 ((a0.getD 0 0).toNat : Int)), (31, .bool (((a0.getD 0 0).toNat : Int) == 10))] rfl ?_)
      refine C_ite rfl (fun hC4 => ?_) (fun hC4 => ?_)
      ·have hC4p : ((a0.getD 0 0).toNat : Int) = 10 := by simpa using hC4
       refine C_skip <| E_then <| C_if rfl hC4 ?_
       refine C_seq <| C_region <| wv rfl rfl rfl (R_move rfl rfl) <| wv rfl rfl rfl (R_assign rfl rfl) ?_
       refine W_nil <| E_then (C_fr [(4, .int .i64 0)] rfl ?_)
       refine C_ret <| E_block_ret <| E_then_ret <| E_scope_ret ?_
       have hh47 : [] = (run .F a0 0 []).1 := by (exact congrArg Prod.fst (Left.B_bad (Left.F_bare hJ0_3 (by intro h_; omega)) (by omega) (by exact .inl (u10.1 (by assumption)))))
       have hS := hS.cbr Ra1 0 rfl hh47
       refine E_ret1 rfl rfl ?_
       exact ⟨ya1, Lret1 (Lint (show 0 = (run .F a0 0 []).2 by (exact congrArg Prod.snd (Left.B_bad (Left.F_bare hJ0_3 (by intro h_; omega)) (by omega) (by exact .inl (u10.1 (by assumption))))))), hS.fin [0] (by decide) rfl⟩
      ·have hC4p : ¬ (((a0.getD 0 0).toNat : Int) = 10) := by simpa using hC4
       refine C_region <| wv rfl rfl rfl (R_bin rfl rfl rfl rfl rfl) <| wv rfl rfl rfl (R_assign rfl rfl) ?_
       refine W_nil <| E_then <| C_ite rfl (fun hC5 => ?_) (fun hC5 => ?_)
       ·have hC5p : ((a0.getD 0 0).toNat : Int) = 34 := by simpa using hC5
        refine C_seq <| C_region <| wv rfl rfl rfl (R_move rfl rfl) <| wv rfl rfl rfl (R_assign rfl rfl) ?_
        refine W_nil <| E_then (C_fr [(4, .int .i64 0)] rfl ?_)
        refine C_ret <| E_block_ret <| E_then_ret <| E_scope_ret ?_
        have hh48 : [] = (run .F a0 0 []).1 := by (exact congrArg Prod.fst (Left.B_bad (Left.F_bare hJ0_3 (by intro h_; omega)) (by omega) (by exact .inr (u34.1 (by assumption)))))
        have hS := hS.cbr Ra1 0 rfl hh48
        refine E_ret1 rfl rfl ?_
        exact ⟨ya1, Lret1 (Lint (show 0 = (run .F a0 0 []).2 by (exact congrArg Prod.snd (Left.B_bad (Left.F_bare hJ0_3 (by intro h_; omega)) (by omega) (by exact .inr (u34.1 (by assumption))))))), hS.fin [0] (by decide) rfl⟩
       ·have hC5p : ¬ (((a0.getD 0 0).toNat : Int) = 34) := by simpa using hC5
        refine C_skip <| E_block_normal <| E_then <| C_seq <| C_region <| wv rfl rfl rfl (R_move rfl rfl) <| wv rfl rfl rfl (R_move rfl rfl) <| wv rfl rfl rfl (R_move rfl rfl) <| wv rfl rfl rfl (R_stridx rfl rfl rfl Tryz.underlying9 (by omega) (by omega)) ?_
        refine W_cons rfl (by decide) (S_row (d := (kint .u8)) (q := zE) hS ([((a0.getD 0 0).toNat : Int)] : List Int) rfl (R_buildSlice (ps := [(0, (.tmp 38))]) (vs := [.int .u8 ((a0.getD 0 0).toNat : Int)]) (w' := w.alloc (.cells [.int .u8 ((a0.getD 0 0).toNat : Int)].toArray 5)) (r := .slice (some ⟨w.heap.size, 0, none⟩) 1 1) rfl rfl rfl (by kernel_rfl)) (by simp [Reps, flat, kint]) rfl (by decide) (fun g50 w49 hS => ?_))
        refine W_cons rfl (by decide) (S_append0 zE hS rfl rfl elem110 rfl rfl (hS.sow 0 rfl (fun _ _ h => h)) (by simp) (by (try simp only [List.length_cons, List.length_nil, List.length_append, maxLen]); omega) (by (try simp only [List.length_cons, List.length_nil, List.length_append, maxLen]); omega) (fun Ar52 cr52 w51 hS => ?_))
        have hp53 := hS.cap 0 rfl
        have hlhp53 := hp53.le
        have hmhp53 := hp53.mx
        refine wv rfl rfl rfl (R_assign rfl rfl) ?_
        refine W_nil <| E_then (C_fr [(0, vstr a0), (1, .func (.func ga1) #[] ka1.toArray), (5, .int .i64 0), (6, .slice Ar52 ([((a0.getD 0 0).toNat : Int)] : List Int).length cr52)] rfl ?_)
        refine C_seq <| C_region <| wv rfl rfl rfl (R_move rfl rfl) <| wv rfl rfl rfl (R_add64 rfl rfl rfl (by omega) (by omega)) <| wv rfl rfl rfl (R_assign rfl rfl) ?_
        refine W_nil <| E_then <| C_seq <| C_goto ?_
        refine E_then_goto ?_
        have hS := hS.toZ 0 rfl
        have hs54 : ([((a0.getD 0 0).toNat : Int)] : List Int) = ub ([] ++ [a0.getD 0 0] : St) := by simp [ub]
        have hS := hS.reZ 0 rfl hs54
        have hs55 : 0 + 1 = ((0 + 1 : Nat) : Int) := by omega
        have hh56 : [] = ([] : Tells) := by simp
        have hS := hS.cbr Ra1 2 rfl hh56
        refine E_jump (m := 2 * (a0.length - (0 + 1 : Nat)) + 2) [0, 1, 5, 6] (by decide) (fun _ h_ => by cases h_) ⟨(0 + 1 : Nat), ([] : Tells), ([] ++ [a0.getD 0 0] : St), Ar52, cr52, (blk Ar52), ya1, (by rw [← hs54, ← hs55] <;> rfl), (by omega), (by (simp; done)), (by (simp; done)), (by exact Left.B_next (Left.F_bare hJ0_3 (by intro h_; exact mt u34.2 (by assumption))) (by omega) (mt u44.2 (by assumption)) (mt u13.2 (by assumption)) (mt u10.2 (by assumption)) (mt u34.2 (by assumption))), rfl, hS.fin [0, 2] (by decide) rfl⟩
 ·refine ⟨_, rfl, ?_⟩
  rintro m_ f_ w57 ⟨n, h, t, Ar1, cr1, Lr1, y2, rfl, hJ0_0, hJ0_1, hJ0_2, hJ0_3, rfl, hS⟩
  have hlr1 := (hS.lez 0 rfl).1
  have hmr1 := (hS.lez 0 rfl).2
  have hub := ub_len t
  refine C_seq <| C_skip <| E_then <| C_seq <| C_region <| wv rfl rfl rfl (R_move rfl rfl) <| wv rfl rfl rfl (R_slice0 rfl rfl rfl rfl (by kernel_rfl) ⟨_, size5 _⟩) <| wv rfl rfl rfl (R_assign rfl rfl) ?_
  refine W_nil <| E_then <| C_seq <| C_seq <| C_region <| wv rfl rfl rfl (R_move rfl rfl) <| wv rfl rfl rfl (R_move rfl rfl) <| wv rfl rfl rfl (R_strlen rfl rfl Tryz.underlying9) <| wv rfl rfl rfl (R_bin rfl rfl rfl rfl rfl) <| wv rfl rfl rfl (R_move rfl rfl) ?_
  refine W_split (t := 13) rfl (fun hg58 => ?_) (fun hg58 => ?_)
  ·have hg58p : (n : Int) < (a0.length : Int) := by simpa using hg58
   refine W_cons rfl (by decide) (Sv_gt rfl rfl rfl hg58 (Sv_val rfl (R_move rfl rfl) ?_))
   refine W_cons rfl (by decide) (Sv_gt rfl rfl rfl hg58 (Sv_val rfl (R_move rfl rfl) ?_))
   refine W_cons rfl (by decide) (Sv_gt rfl rfl rfl hg58 (Sv_val rfl (R_stridx rfl rfl rfl Tryz.underlying9 (by omega) (by omega)) ?_))
   refine W_cons rfl (by decide) (Sv_gt rfl rfl rfl hg58 (Sv_val rfl (R_bin rfl rfl rfl rfl rfl) ?_))
   refine wv rfl rfl rfl (R_pick_t rfl rfl hg58 rfl) ?_
   refine W_nil <| E_then (C_fr [(0, vstr a0), (1, .func (.func ga1) #[] ka1.toArray), (5, .int .i64 (n : Int)), (6, .slice Ar1 ([] : List Int).length 0), (18, .bool (((a0.getD n 0).toNat : Int) == 34))] rfl ?_)
   refine C_ite rfl (fun hC0 => ?_) (fun hC0 => ?_)
   ·have hC0p : ((a0.getD n 0).toNat : Int) = 34 := by simpa using hC0
    refine C_seq <| C_region <| wv rfl rfl rfl (R_move rfl rfl) <| wv rfl rfl rfl (R_add64 rfl rfl rfl (by omega) (by omega)) <| wv rfl rfl rfl (R_assign rfl rfl) ?_
    refine W_nil <| E_then <| C_goto ?_
    refine E_then_goto ?_
    have hS := hS.zrow (kint .u8) 5 Ar1
    have hs60 : ([] : List Int) = ub ([] : St) := by simp [ub]
    have hS := hS.reZ 0 rfl hs60
    have hs61 : (n : Int) + 1 = ((n + 1 : Nat) : Int) := by omega
    have hh62 : h = (h : Tells) := by simp
    have hS := hS.cbr Ra1 2 rfl hh62
    refine E_jump (m := 2 * (a0.length - (n + 1 : Nat)) + 2) [0, 1, 5, 6] (by decide) (fun _ h_ => by cases h_; omega) ⟨(n + 1 : Nat), (h : Tells), ([] : St), Ar1, 0, [], y2, (by rw [← hs60, ← hs61] <;> rfl), (by omega), (by (simp; done)), (by (simp at *; omega)), (by exact Left.F_quote hJ0_3 (by omega) (u34.1 (by assumption))), rfl, hS.fin [0, 2] (by decide) rfl⟩
   ·have hC0p : ¬ (((a0.getD n 0).toNat : Int) = 34) := by simpa using hC0
    refine C_skip <| E_then <| C_seq <| C_label ?_
    refine E_then <| C_seq <| C_seq <| C_region <| wv rfl rfl rfl (R_move rfl rfl) <| wv rfl rfl rfl (R_move rfl rfl) <| wv rfl rfl rfl (R_strlen rfl rfl Tryz.underlying9) <| wv rfl rfl rfl (R_bin rfl rfl rfl rfl rfl) ?_
    refine W_nil <| E_then <| C_ite rfl (fun hC1 => ?_) (fun hC1 => ?_)
    ·have hC1p : (n : Int) = (a0.length : Int) := by simpa using hC1
     refine C_goto ?_
     refine E_then_goto ?_
     have hS := hS.zrow (kint .u8) 5 Ar1
     have hs64 : ([] : List Int) = ub ([] : St) := by simp [ub]
     have hS := hS.reZ 0 rfl hs64
     have hh65 : h = (h : Tells) := by simp
     have hS := hS.cbr Ra1 2 rfl hh65
     refine E_jump (m := 0) [1, 6] (by decide) (fun _ h_ => by cases h_; omega) ⟨(n : Nat), (h : Tells), ([] : St), Ar1, 0, [], y2, (by rw [← hs64] <;> rfl), (by omega), (by (simp; done)), (by (simp at *; omega)), (by exact Left.B_end (Left.F_bare hJ0_3 (by intro h_; exact mt u34.2 (by assumption))) (by omega)), rfl, hS.fin [0, 2] (by decide) rfl⟩
    ·have hC1p : ¬ ((n : Int) = (a0.length : Int)) := by simpa using hC1
     refine C_skip <| E_then (C_fr [(0, vstr a0), (1, .func (.func ga1) #[] ka1.toArray), (5, .int .i64 (n : Int)), (6, .slice Ar1 ([] : List Int).length 0)] rfl ?_)
     refine C_seq <| C_seq <| C_region <| wv rfl rfl rfl (R_move rfl rfl) <| wv rfl rfl rfl (R_move rfl rfl) <| wv rfl rfl rfl (R_stridx rfl rfl rfl Tryz.underlying9 (by omega) (by omega)) ?_
     refine W_nil <| E_then <| C_block <| C_seq <| C_seq <| C_region <| wv rfl rfl rfl (R_bin rfl rfl rfl rfl rfl) <| wv rfl rfl rfl (R_assign rfl rfl) ?_
     refine W_nil <| E_then <| C_ite rfl (fun hC2 => ?_) (fun hC2 => ?_)
     ·have hC2p : ((a0.getD n 0).toNat : Int) = 44 := by simpa using hC2
      refine C_skip <| E_then <| C_if rfl hC2 ?_
      refine C_goto ?_
      refine E_block_goto ?_
      refine E_then_goto ?_
      have hS := hS.zrow (kint .u8) 5 Ar1
      have hs67 : ([] : List Int) = ub ([] : St) := by simp [ub]
      have hS := hS.reZ 0 rfl hs67
      have hs68 : (n : Int) = ((n : Nat) : Int) := by omega
      have hh69 : h = (h : Tells) := by simp
      have hS := hS.cbr Ra1 2 rfl hh69
      refine E_jump (m := 2 * (a0.length - (n : Nat)) + 1) [0, 1, 5, 6] (by decide) (fun _ h_ => by cases h_; omega) ⟨(n : Nat), (h : Tells), ([] : St), Ar1, 0, [], y2, (by rw [← hs67, ← hs68] <;> rfl), (by omega), (by (simp; done)), (by (simp at *; omega)), (by exact Left.B_P (Left.F_bare hJ0_3 (by intro h_; exact mt u34.2 (by assumption))) (by omega) (.inl (u44.1 (by assumption)))), (by intro _; have h_ : a0.getD n 0 = 44 := (u44.1 (by assumption)); rw [h_]; decide), rfl, hS.fin [0, 2] (by decide) rfl⟩
     ·have hC2p : ¬ (((a0.getD n 0).toNat : Int) = 44) := by simpa using hC2
      refine C_region <| wv rfl rfl rfl (R_bin rfl rfl rfl rfl rfl) <| wv rfl rfl rfl (R_assign rfl rfl) ?_
      refine W_nil <| E_then <| C_ite rfl (fun hC3 => ?_) (fun hC3 => ?_)
      ·have hC3p : ((a0.getD n 0).toNat : Int) = 13 := by simpa using hC3
       refine C_goto ?_
       refine E_block_goto ?_
       refine E_then_goto ?_
       have hS := hS.zrow (kint .u8) 5 Ar1
       have hs71 : ([] : List Int) = ub ([] : St) := by simp [ub]
       have hS := hS.reZ 0 rfl hs71
       have hs72 : (n : Int) = ((n : Nat) : Int) := by omega
       have hh73 : h = (h : Tells) := by simp
       have hS := hS.cbr Ra1 2 rfl hh73
       refine E_jump (m := 2 * (a0.length - (n : Nat)) + 1) [0, 1, 5, 6] (by decide) (fun _ h_ => by cases h_; omega) ⟨(n : Nat), (h : Tells), ([] : St), Ar1, 0, [], y2, (by rw [← hs71, ← hs72] <;> rfl), (by omega), (by (simp; done)), (by (simp at *; omega)), (by exact Left.B_P (Left.F_bare hJ0_3 (by intro h_; exact mt u34.2 (by assumption))) (by omega) (.inr (u13.1 (by assumption)))), (by intro _; have h_ : a0.getD n 0 = 13 := (u13.1 (by assumption)); rw [h_]; decide), rfl, hS.fin [0, 2] (by decide) rfl⟩
      ·have hC3p : ¬ (((a0.getD n 0).toNat : Int) = 13) := by simpa using hC3
       refine C_seq <| C_seq <| C_region <| wv rfl rfl rfl (R_bin rfl rfl rfl rfl rfl) <| wv rfl rfl rfl (R_assign rfl rfl) ?_
       refine W_nil <| E_then (C_fr [(0, vstr a0), (1, .func (.func ga1) #[] ka1.toArray), (5, .int .i64 (n : Int)), (6, .slice Ar1 ([] : List Int).length 0), (27, .int .u8 ((a0.getD n 0).toNat : Int)), (31, .bool (((a0.getD n 0).toNat : Int) == 10))] rfl ?_)
       refine C_ite rfl (fun hC4 => ?_) (fun hC4 => ?_)
       ·have hC4p : ((a0.getD n 0).toNat : Int) = 10 := by simpa using hC4
        refine C_skip <| E_then <| C_if rfl hC4 ?_
        refine C_seq <| C_region <| wv rfl rfl rfl (R_move rfl rfl) <| wv rfl rfl rfl (R_assign rfl rfl) ?_
        refine W_nil <| E_then (C_fr [(4, .int .i64 (n : Int))] rfl ?_)
        refine C_ret <| E_block_ret <| E_then_ret <| E_scope_ret ?_
        have hh74 : h = (run .F a0 0 []).1 := by (exact congrArg Prod.fst (Left.B_bad (Left.F_bare hJ0_3 (by intro h_; exact mt u34.2 (by assumption))) (by omega) (by exact .inl (u10.1 (by assumption)))))
        have hS := hS.cbr Ra1 1 rfl hh74
        refine E_ret1 rfl rfl ?_
        exact ⟨y2, Lret1 (Lint (show (n : Int) = (run .F a0 0 []).2 by (exact congrArg Prod.snd (Left.B_bad (Left.F_bare hJ0_3 (by intro h_; exact mt u34.2 (by assumption))) (by omega) (by exact .inl (u10.1 (by assumption))))))), hS.fin [1] (by decide) rfl⟩
       ·have hC4p : ¬ (((a0.getD n 0).toNat : Int) = 10) := by simpa using hC4
        refine C_region <| wv rfl rfl rfl (R_bin rfl rfl rfl rfl rfl) <| wv rfl rfl rfl (R_assign rfl rfl) ?_
        refine W_nil <| E_then <| C_else rfl hC0 ?_
        refine C_skip <| E_block_normal <| E_then <| C_seq <| C_region <| wv rfl rfl rfl (R_move rfl rfl) <| wv rfl rfl rfl (R_move rfl rfl) <| wv rfl rfl rfl (R_move rfl rfl) <| wv rfl rfl rfl (R_stridx rfl rfl rfl Tryz.underlying9 (by omega) (by omega)) ?_
        refine W_cons rfl (by decide) (S_row (d := (kint .u8)) (q := zE) hS ([((a0.getD n 0).toNat : Int)] : List Int) rfl (R_buildSlice (ps := [(0, (.tmp 38))]) (vs := [.int .u8 ((a0.getD n 0).toNat : Int)]) (w' := w57.alloc (.cells [.int .u8 ((a0.getD n 0).toNat : Int)].toArray 5)) (r := .slice (some ⟨w57.heap.size, 0, none⟩) 1 1) rfl rfl rfl (by kernel_rfl)) (by simp [Reps, flat, kint]) rfl (by decide) (fun g76 w75 hS => ?_))
        refine W_cons rfl (by decide) (S_append0 zE hS rfl rfl elem110 rfl rfl (hS.sow 0 rfl (fun _ _ h => h)) (by simp) (by (try simp only [List.length_cons, List.length_nil, List.length_append, maxLen]); omega) (by (try simp only [List.length_cons, List.length_nil, List.length_append, maxLen]); omega) (fun Ar78 cr78 w77 hS => ?_))
        have hp79 := hS.cap 0 rfl
        have hlhp79 := hp79.le
        have hmhp79 := hp79.mx
        refine wv rfl rfl rfl (R_assign rfl rfl) ?_
        refine W_nil <| E_then (C_fr [(0, vstr a0), (1, .func (.func ga1) #[] ka1.toArray), (5, .int .i64 (n : Int)), (6, .slice Ar78 ([((a0.getD n 0).toNat : Int)] : List Int).length cr78)] rfl ?_)
        refine C_seq <| C_region <| wv rfl rfl rfl (R_move rfl rfl) <| wv rfl rfl rfl (R_add64 rfl rfl rfl (by omega) (by omega)) <| wv rfl rfl rfl (R_assign rfl rfl) ?_
        refine W_nil <| E_then <| C_seq <| C_goto ?_
        refine E_then_goto ?_
        have hS := hS.toZ 0 rfl
        have hs80 : ([((a0.getD n 0).toNat : Int)] : List Int) = ub ([] ++ [a0.getD n 0] : St) := by simp [ub]
        have hS := hS.reZ 0 rfl hs80
        have hs81 : (n : Int) + 1 = ((n + 1 : Nat) : Int) := by omega
        have hh82 : h = (h : Tells) := by simp
        have hS := hS.cbr Ra1 3 rfl hh82
        refine E_jump (m := 2 * (a0.length - (n + 1 : Nat)) + 2) [0, 1, 5, 6] (by decide) (fun _ h_ => by cases h_; omega) ⟨(n + 1 : Nat), (h : Tells), ([] ++ [a0.getD n 0] : St), Ar78, cr78, (blk Ar78), y2, (by rw [← hs80, ← hs81] <;> rfl), (by omega), (by (simp; done)), (by (simp at *; omega)), (by exact Left.B_next (Left.F_bare hJ0_3 (by intro h_; exact mt u34.2 (by assumption))) (by omega) (mt u44.2 (by assumption)) (mt u13.2 (by assumption)) (mt u10.2 (by assumption)) (mt u34.2 (by assumption))), rfl, hS.fin [0, 3] (by decide) rfl⟩
  ·have hg58p : ¬ ((n : Int) < (a0.length : Int)) := by simpa using hg58
   refine W_cons rfl (by decide) (Sv_off rfl rfl rfl (by rw [hg58] <;> rfl) ?_)
   refine W_cons rfl (by decide) (Sv_off rfl rfl rfl (by rw [hg58] <;> rfl) ?_)
   refine W_cons rfl (by decide) (Sv_off rfl rfl rfl (by rw [hg58] <;> rfl) ?_)
   refine W_cons rfl (by decide) (Sv_off rfl rfl rfl (by rw [hg58] <;> rfl) ?_)
   refine wv rfl rfl rfl (R_pick_f rfl rfl hg58 rfl) ?_
   refine W_nil <| E_then (C_fr [(0, vstr a0), (1, .func (.func ga1) #[] ka1.toArray), (5, .int .i64 (n : Int)), (6, .slice Ar1 ([] : List Int).length 0), (18, .bool false)] rfl ?_)
   refine C_else rfl rfl ?_
   refine C_skip <| E_then <| C_seq <| C_label ?_
   refine E_then <| C_seq <| C_seq <| C_region <| wv rfl rfl rfl (R_move rfl rfl) <| wv rfl rfl rfl (R_move rfl rfl) <| wv rfl rfl rfl (R_strlen rfl rfl Tryz.underlying9) <| wv rfl rfl rfl (R_bin rfl rfl rfl rfl rfl) ?_
   refine W_nil <| E_then <| C_ite rfl (fun hC1 => ?_) (fun hC1 => ?_)
   ·have hC1p : (n : Int) = (a0.length : Int) := by simpa using hC1
    refine C_goto ?_
    refine E_then_goto ?_
    have hS := hS.zrow (kint .u8) 5 Ar1
    have hs84 : ([] : List Int) = ub ([] : St) := by simp [ub]
    have hS := hS.reZ 0 rfl hs84
    have hh85 : h = (h : Tells) := by simp
    have hS := hS.cbr Ra1 2 rfl hh85
    refine E_jump (m := 0) [1, 6] (by decide) (fun _ h_ => by cases h_; omega) ⟨(n : Nat), (h : Tells), ([] : St), Ar1, 0, [], y2, (by rw [← hs84] <;> rfl), (by omega), (by (simp; done)), (by (simp at *; omega)), (by exact Left.B_end (Left.F_bare hJ0_3 (by intro h_; omega)) (by omega)), rfl, hS.fin [0, 2] (by decide) rfl⟩
   ·have hC1p : ¬ ((n : Int) = (a0.length : Int)) := by simpa using hC1
    refine C_skip <| E_then (C_fr [(0, vstr a0), (1, .func (.func ga1) #[] ka1.toArray), (5, .int .i64 (n : Int)), (6, .slice Ar1 ([] : List Int).length 0)] rfl ?_)
    refine C_seq <| C_seq <| C_region <| wv rfl rfl rfl (R_move rfl rfl) <| wv rfl rfl rfl (R_move rfl rfl) <| wv rfl rfl rfl (R_stridx rfl rfl rfl Tryz.underlying9 (by omega) (by omega)) ?_
    refine W_nil <| E_then <| C_block <| C_seq <| C_seq <| C_region <| wv rfl rfl rfl (R_bin rfl rfl rfl rfl rfl) <| wv rfl rfl rfl (R_assign rfl rfl) ?_
    refine W_nil <| E_then <| C_ite rfl (fun hC2 => ?_) (fun hC2 => ?_)
    ·have hC2p : ((a0.getD n 0).toNat : Int) = 44 := by simpa using hC2
     refine C_skip <| E_then <| C_if rfl hC2 ?_
     refine C_goto ?_
     refine E_block_goto ?_
     refine E_then_goto ?_
     have hS := hS.zrow (kint .u8) 5 Ar1
     have hs87 : ([] : List Int) = ub ([] : St) := by simp [ub]
     have hS := hS.reZ 0 rfl hs87
     have hs88 : (n : Int) = ((n : Nat) : Int) := by omega
     have hh89 : h = (h : Tells) := by simp
     have hS := hS.cbr Ra1 2 rfl hh89
     refine E_jump (m := 2 * (a0.length - (n : Nat)) + 1) [0, 1, 5, 6] (by decide) (fun _ h_ => by cases h_; omega) ⟨(n : Nat), (h : Tells), ([] : St), Ar1, 0, [], y2, (by rw [← hs87, ← hs88] <;> rfl), (by omega), (by (simp; done)), (by (simp at *; omega)), (by exact Left.B_P (Left.F_bare hJ0_3 (by intro h_; omega)) (by omega) (.inl (u44.1 (by assumption)))), (by intro _; have h_ : a0.getD n 0 = 44 := (u44.1 (by assumption)); rw [h_]; decide), rfl, hS.fin [0, 2] (by decide) rfl⟩
    ·have hC2p : ¬ (((a0.getD n 0).toNat : Int) = 44) := by simpa using hC2
     refine C_region <| wv rfl rfl rfl (R_bin rfl rfl rfl rfl rfl) <| wv rfl rfl rfl (R_assign rfl rfl) ?_
     refine W_nil <| E_then <| C_ite rfl (fun hC3 => ?_) (fun hC3 => ?_)
     ·have hC3p : ((a0.getD n 0).toNat : Int) = 13 := by simpa using hC3
      refine C_goto ?_
      refine E_block_goto ?_
      refine E_then_goto ?_
      have hS := hS.zrow (kint .u8) 5 Ar1
      have hs91 : ([] : List Int) = ub ([] : St) := by simp [ub]
      have hS := hS.reZ 0 rfl hs91
      have hs92 : (n : Int) = ((n : Nat) : Int) := by omega
      have hh93 : h = (h : Tells) := by simp
      have hS := hS.cbr Ra1 2 rfl hh93
      refine E_jump (m := 2 * (a0.length - (n : Nat)) + 1) [0, 1, 5, 6] (by decide) (fun _ h_ => by cases h_; omega) ⟨(n : Nat), (h : Tells), ([] : St), Ar1, 0, [], y2, (by rw [← hs91, ← hs92] <;> rfl), (by omega), (by (simp; done)), (by (simp at *; omega)), (by exact Left.B_P (Left.F_bare hJ0_3 (by intro h_; omega)) (by omega) (.inr (u13.1 (by assumption)))), (by intro _; have h_ : a0.getD n 0 = 13 := (u13.1 (by assumption)); rw [h_]; decide), rfl, hS.fin [0, 2] (by decide) rfl⟩
     ·have hC3p : ¬ (((a0.getD n 0).toNat : Int) = 13) := by simpa using hC3
      refine C_seq <| C_seq <| C_region <| wv rfl rfl rfl (R_bin rfl rfl rfl rfl rfl) <| wv rfl rfl rfl (R_assign rfl rfl) ?_
      refine W_nil <| E_then (C_fr [(0, vstr a0), (1, .func (.func ga1) #[] ka1.toArray), (5, .int .i64 (n : Int)), (6, .slice Ar1 ([] : List Int).length 0), (27, .int .u8 ((a0.getD n 0).toNat : Int)), (31, .bool (((a0.getD n 0).toNat : Int) == 10))] rfl ?_)
      refine C_ite rfl (fun hC4 => ?_) (fun hC4 => ?_)
      ·have hC4p : ((a0.getD n 0).toNat : Int) = 10 := by simpa using hC4
       refine C_skip <| E_then <| C_if rfl hC4 ?_
       refine C_seq <| C_region <| wv rfl rfl rfl (R_move rfl rfl) <| wv rfl rfl rfl (R_assign rfl rfl) ?_
       refine W_nil <| E_then (C_fr [(4, .int .i64 (n : Int))] rfl ?_)
       refine C_ret <| E_block_ret <| E_then_ret <| E_scope_ret ?_
       have hh94 : h = (run .F a0 0 []).1 := by (exact congrArg Prod.fst (Left.B_bad (Left.F_bare hJ0_3 (by intro h_; omega)) (by omega) (by exact .inl (u10.1 (by assumption)))))
       have hS := hS.cbr Ra1 1 rfl hh94
       refine E_ret1 rfl rfl ?_
       exact ⟨y2, Lret1 (Lint (show (n : Int) = (run .F a0 0 []).2 by (exact congrArg Prod.snd (Left.B_bad (Left.F_bare hJ0_3 (by intro h_; omega)) (by omega) (by exact .inl (u10.1 (by assumption))))))), hS.fin [1] (by decide) rfl⟩
      ·have hC4p : ¬ (((a0.getD n 0).toNat : Int) = 10) := by simpa using hC4
       refine C_region <| wv rfl rfl rfl (R_bin rfl rfl rfl rfl rfl) <| wv rfl rfl rfl (R_assign rfl rfl) ?_
       refine W_nil <| E_then <| C_ite rfl (fun hC5 => ?_) (fun hC5 => ?_)
       ·have hC5p : ((a0.getD n 0).toNat : Int) = 34 := by simpa using hC5
        refine C_seq <| C_region <| wv rfl rfl rfl (R_move rfl rfl) <| wv rfl rfl rfl (R_assign rfl rfl) ?_
        refine W_nil <| E_then (C_fr [(4, .int .i64 (n : Int))] rfl ?_)
        refine C_ret <| E_block_ret <| E_then_ret <| E_scope_ret ?_
        have hh95 : h = (run .F a0 0 []).1 := by (exact congrArg Prod.fst (Left.B_bad (Left.F_bare hJ0_3 (by intro h_; omega)) (by omega) (by exact .inr (u34.1 (by assumption)))))
        have hS := hS.cbr Ra1 1 rfl hh95
        refine E_ret1 rfl rfl ?_
        exact ⟨y2, Lret1 (Lint (show (n : Int) = (run .F a0 0 []).2 by (exact congrArg Prod.snd (Left.B_bad (Left.F_bare hJ0_3 (by intro h_; omega)) (by omega) (by exact .inr (u34.1 (by assumption))))))), hS.fin [1] (by decide) rfl⟩
       ·have hC5p : ¬ (((a0.getD n 0).toNat : Int) = 34) := by simpa using hC5
        refine C_skip <| E_block_normal <| E_then <| C_seq <| C_region <| wv rfl rfl rfl (R_move rfl rfl) <| wv rfl rfl rfl (R_move rfl rfl) <| wv rfl rfl rfl (R_move rfl rfl) <| wv rfl rfl rfl (R_stridx rfl rfl rfl Tryz.underlying9 (by omega) (by omega)) ?_
        refine W_cons rfl (by decide) (S_row (d := (kint .u8)) (q := zE) hS ([((a0.getD n 0).toNat : Int)] : List Int) rfl (R_buildSlice (ps := [(0, (.tmp 38))]) (vs := [.int .u8 ((a0.getD n 0).toNat : Int)]) (w' := w57.alloc (.cells [.int .u8 ((a0.getD n 0).toNat : Int)].toArray 5)) (r := .slice (some ⟨w57.heap.size, 0, none⟩) 1 1) rfl rfl rfl (by kernel_rfl)) (by simp [Reps, flat, kint]) rfl (by decide) (fun g97 w96 hS => ?_))
        refine W_cons rfl (by decide) (S_append0 zE hS rfl rfl elem110 rfl rfl (hS.sow 0 rfl (fun _ _ h => h)) (by simp) (by (try simp only [List.length_cons, List.length_nil, List.length_append, maxLen]); omega) (by (try simp only [List.length_cons, List.length_nil, List.length_append, maxLen]); omega) (fun Ar99 cr99 w98 hS => ?_))
        have hp100 := hS.cap 0 rfl
        have hlhp100 := hp100.le
        have hmhp100 := hp100.mx
        refine wv rfl rfl rfl (R_assign rfl rfl) ?_
        refine W_nil <| E_then (C_fr [(0, vstr a0), (1, .func (.func ga1) #[] ka1.toArray), (5, .int .i64 (n : Int)), (6, .slice Ar99 ([((a0.getD n 0).toNat : Int)] : List Int).length cr99)] rfl ?_)
        refine C_seq <| C_region <| wv rfl rfl rfl (R_move rfl rfl) <| wv rfl rfl rfl (R_add64 rfl rfl rfl (by omega) (by omega)) <| wv rfl rfl rfl (R_assign rfl rfl) ?_
        refine W_nil <| E_then <| C_seq <| C_goto ?_
        refine E_then_goto ?_
        have hS := hS.toZ 0 rfl
        have hs101 : ([((a0.getD n 0).toNat : Int)] : List Int) = ub ([] ++ [a0.getD n 0] : St) := by simp [ub]
        have hS := hS.reZ 0 rfl hs101
        have hs102 : (n : Int) + 1 = ((n + 1 : Nat) : Int) := by omega
        have hh103 : h = (h : Tells) := by simp
        have hS := hS.cbr Ra1 3 rfl hh103
        refine E_jump (m := 2 * (a0.length - (n + 1 : Nat)) + 2) [0, 1, 5, 6] (by decide) (fun _ h_ => by cases h_; omega) ⟨(n + 1 : Nat), (h : Tells), ([] ++ [a0.getD n 0] : St), Ar99, cr99, (blk Ar99), y2, (by rw [← hs101, ← hs102] <;> rfl), (by omega), (by (simp; done)), (by (simp at *; omega)), (by exact Left.B_next (Left.F_bare hJ0_3 (by intro h_; exact mt u34.2 (by assumption))) (by omega) (mt u44.2 (by assumption)) (mt u13.2 (by assumption)) (mt u10.2 (by assumption)) (mt u34.2 (by assumption))), rfl, hS.fin [0, 3] (by decide) rfl⟩
 ·refine ⟨_, rfl, ?_⟩
  rintro m_ f_ w104 ⟨n, h, t, Ar3, cr3, Lr3, y4, rfl, hJ3_0, hJ3_1, hJ3_2, hJ3_3, rfl, hS⟩
  have hlr3 := (hS.lez 0 rfl).1
  have hmr3 := (hS.lez 0 rfl).2
  have hub := ub_len t
  refine C_seq <| C_skip <| E_then <| C_seq <| C_seq <| C_region <| wv rfl rfl rfl (R_move rfl rfl) <| wv rfl rfl rfl (R_move rfl rfl) <| wv rfl rfl rfl (R_strlen rfl rfl Tryz.underlying9) <| wv rfl rfl rfl (R_bin rfl rfl rfl rfl rfl) ?_
  refine W_nil <| E_then <| C_ite rfl (fun hC1 => ?_) (fun hC1 => ?_)
  ·have hC1p : (n : Int) = (a0.length : Int) := by simpa using hC1
   refine C_goto ?_
   refine E_then_goto ?_
   have hs105 : ub t = ub (t : St) := by simp [ub]
   have hS := hS.reZ 0 rfl hs105
   have hh106 : h = (h : Tells) := by simp
   have hS := hS.cbr Ra1 1 rfl hh106
   refine E_jump (m := 0) [1, 6] (by decide) (fun _ h_ => by cases h_; omega) ⟨(n : Nat), (h : Tells), (t : St), Ar3, cr3, Lr3, y4, (by rw [← hs105] <;> rfl), (by omega), (by (simp at *; omega)), (by (simp at *; omega)), (by exact Left.B_end hJ3_3 (by omega)), rfl, hS.fin [0, 1] (by decide) rfl⟩
  ·have hC1p : ¬ ((n : Int) = (a0.length : Int)) := by simpa using hC1
   refine C_skip <| E_then <| C_seq <| C_seq <| C_region <| wv rfl rfl rfl (R_move rfl rfl) <| wv rfl rfl rfl (R_move rfl rfl) <| wv rfl rfl rfl (R_stridx rfl rfl rfl Tryz.underlying9 (by omega) (by omega)) ?_
   refine W_nil <| E_then (C_fr [(0, vstr a0), (1, .func (.func ga1) #[] ka1.toArray), (5, .int .i64 (n : Int)), (6, .slice Ar3 (ub t).length cr3), (27, .int .u8 ((a0.getD n 0).toNat : Int))] rfl ?_)
   refine C_block <| C_seq <| C_seq <| C_region <| wv rfl rfl rfl (R_bin rfl rfl rfl rfl rfl) <| wv rfl rfl rfl (R_assign rfl rfl) ?_
   refine W_nil <| E_then <| C_ite rfl (fun hC2 => ?_) (fun hC2 => ?_)
   ·have hC2p : ((a0.getD n 0).toNat : Int) = 44 := by simpa using hC2
    refine C_skip <| E_then <| C_if rfl hC2 ?_
    refine C_goto ?_
    refine E_block_goto ?_
    refine E_then_goto ?_
    have hs107 : ub t = ub (t : St) := by simp [ub]
    have hS := hS.reZ 0 rfl hs107
    have hs108 : (n : Int) = ((n : Nat) : Int) := by omega
    have hh109 : h = (h : Tells) := by simp
    have hS := hS.cbr Ra1 1 rfl hh109
    refine E_jump (m := 2 * (a0.length - (n : Nat)) + 1) [0, 1, 5, 6] (by decide) (fun _ h_ => by cases h_; omega) ⟨(n : Nat), (h : Tells), (t : St), Ar3, cr3, Lr3, y4, (by rw [← hs107, ← hs108] <;> rfl), (by omega), (by (simp at *; omega)), (by (simp at *; omega)), (by exact Left.B_P hJ3_3 (by omega) (.inl (u44.1 (by assumption)))), (by intro _; have h_ : a0.getD n 0 = 44 := (u44.1 (by assumption)); rw [h_]; decide), rfl, hS.fin [0, 1] (by decide) rfl⟩
   ·have hC2p : ¬ (((a0.getD n 0).toNat : Int) = 44) := by simpa using hC2
    refine C_region <| wv rfl rfl rfl (R_bin rfl rfl rfl rfl rfl) <| wv rfl rfl rfl (R_assign rfl rfl) ?_
    refine W_nil <| E_then <| C_ite rfl (fun hC3 => ?_) (fun hC3 => ?_)
    ·have hC3p : ((a0.getD n 0).toNat : Int) = 13 := by simpa using hC3
     refine C_goto ?_
     refine E_block_goto ?_
     refine E_then_goto ?_
     have hs110 : ub t = ub (t : St) := by simp [ub]
     have hS := hS.reZ 0 rfl hs110
     have hs111 : (n : Int) = ((n : Nat) : Int) := by omega
     have hh112 : h = (h : Tells) := by simp
     have hS := hS.cbr Ra1 1 rfl hh112
     refine E_jump (m := 2 * (a0.length - (n : Nat)) + 1) [0, 1, 5, 6] (by decide) (fun _ h_ => by cases h_; omega) ⟨(n : Nat), (h : Tells), (t : St), Ar3, cr3, Lr3, y4, (by rw [← hs110, ← hs111] <;> rfl), (by omega), (by (simp at *; omega)), (by (simp at *; omega)), (by exact Left.B_P hJ3_3 (by omega) (.inr (u13.1 (by assumption)))), (by intro _; have h_ : a0.getD n 0 = 13 := (u13.1 (by assumption)); rw [h_]; decide), rfl, hS.fin [0, 1] (by decide) rfl⟩
    ·have hC3p : ¬ (((a0.getD n 0).toNat : Int) = 13) := by simpa using hC3
     refine C_seq <| C_seq <| C_region <| wv rfl rfl rfl (R_bin rfl rfl rfl rfl rfl) <| wv rfl rfl rfl (R_assign rfl rfl) ?_
     refine W_nil <| E_then <| C_ite rfl (fun hC4 => ?_) (fun hC4 => ?_)
     ·have hC4p : ((a0.getD n 0).toNat : Int) = 10 := by simpa using hC4
      refine C_skip <| E_then (C_fr [(0, vstr a0), (1, .func (.func ga1) #[] ka1.toArray), (5, .int .i64 (n : Int)), (6, .slice Ar3 (ub t).length cr3), (31, .bool (((a0.getD n 0).toNat : Int) == 10))] rfl ?_)
      refine C_if rfl hC4 ?_
      refine C_seq <| C_region <| wv rfl rfl rfl (R_move rfl rfl) <| wv rfl rfl rfl (R_assign rfl rfl) ?_
      refine W_nil <| E_then (C_fr [(4, .int .i64 (n : Int))] rfl ?_)
      refine C_ret <| E_block_ret <| E_then_ret <| E_scope_ret ?_
      have hh113 : h = (run .F a0 0 []).1 := by (exact congrArg Prod.fst (Left.B_bad hJ3_3 (by omega) (by exact .inl (u10.1 (by assumption)))))
      have hS := hS.cbr Ra1 1 rfl hh113
      refine E_ret1 rfl rfl ?_
      exact ⟨y4, Lret1 (Lint (show (n : Int) = (run .F a0 0 []).2 by (exact congrArg Prod.snd (Left.B_bad hJ3_3 (by omega) (by exact .inl (u10.1 (by assumption))))))), hS.fin [1] (by decide) rfl⟩
     ·have hC4p : ¬ (((a0.getD n 0).toNat : Int) = 10) := by simpa using hC4
      refine C_region <| wv rfl rfl rfl (R_bin rfl rfl rfl rfl rfl) <| wv rfl rfl rfl (R_assign rfl rfl) ?_
      refine W_nil <| E_then (C_fr [(0, vstr a0), (1, .func (.func ga1) #[] ka1.toArray), (5, .int .i64 (n : Int)), (6, .slice Ar3 (ub t).length cr3), (31, .bool (((a0.getD n 0).toNat : Int) == 34))] rfl ?_)
      refine C_ite rfl (fun hC5 => ?_) (fun hC5 => ?_)
      ·have hC5p : ((a0.getD n 0).toNat : Int) = 34 := by simpa using hC5
       refine C_seq <| C_region <| wv rfl rfl rfl (R_move rfl rfl) <| wv rfl rfl rfl (R_assign rfl rfl) ?_
       refine W_nil <| E_then (C_fr [(4, .int .i64 (n : Int))] rfl ?_)
       refine C_ret <| E_block_ret <| E_then_ret <| E_scope_ret ?_
       have hh114 : h = (run .F a0 0 []).1 := by (exact congrArg Prod.fst (Left.B_bad hJ3_3 (by omega) (by exact .inr (u34.1 (by assumption)))))
       have hS := hS.cbr Ra1 1 rfl hh114
       refine E_ret1 rfl rfl ?_
       exact ⟨y4, Lret1 (Lint (show (n : Int) = (run .F a0 0 []).2 by (exact congrArg Prod.snd (Left.B_bad hJ3_3 (by omega) (by exact .inr (u34.1 (by assumption))))))), hS.fin [1] (by decide) rfl⟩
      ·have hC5p : ¬ (((a0.getD n 0).toNat : Int) = 34) := by simpa using hC5
       refine C_skip <| E_block_normal <| E_then <| C_seq <| C_region <| wv rfl rfl rfl (R_move rfl rfl) <| wv rfl rfl rfl (R_move rfl rfl) <| wv rfl rfl rfl (R_move rfl rfl) <| wv rfl rfl rfl (R_stridx rfl rfl rfl Tryz.underlying9 (by omega) (by omega)) ?_
       refine W_cons rfl (by decide) (S_row (d := (kint .u8)) (q := zE) hS ([((a0.getD n 0).toNat : Int)] : List Int) rfl (R_buildSlice (ps := [(0, (.tmp 38))]) (vs := [.int .u8 ((a0.getD n 0).toNat : Int)]) (w' := w104.alloc (.cells [.int .u8 ((a0.getD n 0).toNat : Int)].toArray 5)) (r := .slice (some ⟨w104.heap.size, 0, none⟩) 1 1) rfl rfl rfl (by kernel_rfl)) (by simp [Reps, flat, kint]) rfl (by decide) (fun g116 w115 hS => ?_))
       refine W_cons rfl (by decide) (S_appendZ hS 1 rfl rfl rfl elem110 rfl rfl (hS.sow 0 rfl (fun _ _ h => h)) (by simp) (by (try simp only [List.length_cons, List.length_nil, List.length_append, maxLen]); omega) (by (try simp only [List.length_cons, List.length_nil, List.length_append, maxLen]); omega) (fun Ar118 cr118 w117 hS => ?_))
       have hp119 := hS.cap 1 rfl
       have hlhp119 := hp119.le
       have hmhp119 := hp119.mx
       refine wv rfl rfl rfl (R_assign rfl rfl) ?_
       refine W_nil <| E_then (C_fr [(0, vstr a0), (1, .func (.func ga1) #[] ka1.toArray), (5, .int .i64 (n : Int)), (6, .slice Ar118 ((ub t) ++ ([((a0.getD n 0).toNat : Int)] : List Int)).length cr118)] rfl ?_)
       refine C_seq <| C_region <| wv rfl rfl rfl (R_move rfl rfl) <| wv rfl rfl rfl (R_add64 rfl rfl rfl (by omega) (by omega)) <| wv rfl rfl rfl (R_assign rfl rfl) ?_
       refine W_nil <| E_then <| C_seq <| C_goto ?_
       refine E_then_goto ?_
       have hS := hS.toZ 1 rfl
       have hs120 : (ub t) ++ ([((a0.getD n 0).toNat : Int)] : List Int) = ub (t ++ [a0.getD n 0] : St) := by simp [ub]
       have hS := hS.reZ 1 rfl hs120
       have hs121 : (n : Int) + 1 = ((n + 1 : Nat) : Int) := by omega
       have hh122 : h = (h : Tells) := by simp
       have hS := hS.cbr Ra1 2 rfl hh122
       refine E_jump (m := 2 * (a0.length - (n + 1 : Nat)) + 2) [0, 1, 5, 6] (by decide) (fun _ h_ => by cases h_; omega) ⟨(n + 1 : Nat), (h : Tells), (t ++ [a0.getD n 0] : St), Ar118, cr118, (blk Ar118), y4, (by rw [← hs120, ← hs121] <;> rfl), (by omega), (by (simp at *; omega)), (by (simp at *; omega)), (by exact Left.B_next hJ3_3 (by omega) (mt u44.2 (by assumption)) (mt u13.2 (by assumption)) (mt u10.2 (by assumption)) (mt u34.2 (by assumption))), rfl, hS.fin [1, 2] (by decide) rfl⟩
 ·refine ⟨_, rfl, ?_⟩
  rintro m_ f_ w123 ⟨n, h, t, Ar5, cr5, Lr5, y6, rfl, hJ1_0, hJ1_1, hJ1_2, hJ1_3, rfl, hS⟩
  have hlr5 := (hS.lez 0 rfl).1
  have hmr5 := (hS.lez 0 rfl).2
  have hub := ub_len t
  refine C_seq <| C_skip <| E_then <| C_seq <| C_seq <| C_region <| wv rfl rfl rfl (R_move rfl rfl) <| wv rfl rfl rfl (R_move rfl rfl) <| wv rfl rfl rfl (R_strlen rfl rfl Tryz.underlying9) <| wv rfl rfl rfl (R_bin rfl rfl rfl rfl rfl) ?_
  refine W_nil <| E_then <| C_ite rfl (fun hC6 => ?_) (fun hC6 => ?_)
  ·have hC6p : (n : Int) = (a0.length : Int) := by simpa using hC6
   refine C_seq <| C_region <| wv rfl rfl rfl (R_move rfl rfl) <| wv rfl rfl rfl (R_assign rfl rfl) ?_
   refine W_nil <| E_then (C_fr [(4, .int .i64 (n : Int))] rfl ?_)
   refine C_ret <| E_then_ret <| E_scope_ret ?_
   have hh124 : h = (run .F a0 0 []).1 := by (exact congrArg Prod.fst (Left.Q_end hJ1_3 (by omega)))
   have hS := hS.cbr Ra1 1 rfl hh124
   refine E_ret1 rfl rfl ?_
   exact ⟨y6, Lret1 (Lint (show (n : Int) = (run .F a0 0 []).2 by (exact congrArg Prod.snd (Left.Q_end hJ1_3 (by omega))))), hS.fin [1] (by decide) rfl⟩
  ·have hC6p : ¬ ((n : Int) = (a0.length : Int)) := by simpa using hC6
   refine C_skip <| E_then <| C_seq <| C_seq <| C_region <| wv rfl rfl rfl (R_move rfl rfl) <| wv rfl rfl rfl (R_move rfl rfl) <| wv rfl rfl rfl (R_stridx rfl rfl rfl Tryz.underlying9 (by omega) (by omega)) <| wv rfl rfl rfl (R_bin rfl rfl rfl rfl rfl) ?_
   refine W_nil <| E_then (C_fr [(0, vstr a0), (1, .func (.func ga1) #[] ka1.toArray), (5, .int .i64 (n : Int)), (6, .slice Ar5 (ub t).length cr5), (51, .bool (((a0.getD n 0).toNat : Int) != 34))] rfl ?_)
   refine C_ite rfl (fun hC7 => ?_) (fun hC7 => ?_)
   ·have hC7p : ¬ ((a0.getD n 0).toNat : Int) = 34 := by simpa using hC7
    refine C_seq <| C_region <| wv rfl rfl rfl (R_move rfl rfl) <| wv rfl rfl rfl (R_move rfl rfl) <| wv rfl rfl rfl (R_move rfl rfl) <| wv rfl rfl rfl (R_stridx rfl rfl rfl Tryz.underlying9 (by omega) (by omega)) ?_
    refine W_cons rfl (by decide) (S_row (d := (kint .u8)) (q := zE) hS ([((a0.getD n 0).toNat : Int)] : List Int) rfl (R_buildSlice (ps := [(0, (.tmp 55))]) (vs := [.int .u8 ((a0.getD n 0).toNat : Int)]) (w' := w123.alloc (.cells [.int .u8 ((a0.getD n 0).toNat : Int)].toArray 5)) (r := .slice (some ⟨w123.heap.size, 0, none⟩) 1 1) rfl rfl rfl (by kernel_rfl)) (by simp [Reps, flat, kint]) rfl (by decide) (fun g126 w125 hS => ?_))
    refine W_cons rfl (by decide) (S_appendZ hS 1 rfl rfl rfl elem110 rfl rfl (hS.sow 0 rfl (fun _ _ h => h)) (by simp) (by (try simp only [List.length_cons, List.length_nil, List.length_append, maxLen]); omega) (by (try simp only [List.length_cons, List.length_nil, List.length_append, maxLen]); omega) (fun Ar128 cr128 w127 hS => ?_))
    have hp129 := hS.cap 1 rfl
    have hlhp129 := hp129.le
    have hmhp129 := hp129.mx
    refine wv rfl rfl rfl (R_assign rfl rfl) ?_
    refine W_nil <| E_then (C_fr [(0, vstr a0), (1, .func (.func ga1) #[] ka1.toArray), (5, .int .i64 (n : Int)), (6, .slice Ar128 ((ub t) ++ ([((a0.getD n 0).toNat : Int)] : List Int)).length cr128)] rfl ?_)
    refine C_seq <| C_region <| wv rfl rfl rfl (R_move rfl rfl) <| wv rfl rfl rfl (R_add64 rfl rfl rfl (by omega) (by omega)) <| wv rfl rfl rfl (R_assign rfl rfl) ?_
    refine W_nil <| E_then <| C_goto ?_
    refine E_then_goto ?_
    have hS := hS.toZ 1 rfl
    have hs130 : (ub t) ++ ([((a0.getD n 0).toNat : Int)] : List Int) = ub (t ++ [a0.getD n 0] : St) := by simp [ub]
    have hS := hS.reZ 1 rfl hs130
    have hs131 : (n : Int) + 1 = ((n + 1 : Nat) : Int) := by omega
    have hh132 : h = (h : Tells) := by simp
    have hS := hS.cbr Ra1 2 rfl hh132
    refine E_jump (m := 2 * (a0.length - (n + 1 : Nat)) + 2) [0, 1, 5, 6] (by decide) (fun _ h_ => by cases h_; omega) ⟨(n + 1 : Nat), (h : Tells), (t ++ [a0.getD n 0] : St), Ar128, cr128, (blk Ar128), y6, (by rw [← hs130, ← hs131] <;> rfl), (by omega), (by (simp at *; omega)), (by (simp at *; omega)), (by exact Left.Q_next hJ1_3 (by omega) (mt u34.2 (by assumption))), rfl, hS.fin [1, 2] (by decide) rfl⟩
   ·have hC7p : ((a0.getD n 0).toNat : Int) = 34 := by simpa using hC7
    refine C_skip <| E_then <| C_seq <| C_region <| wv rfl rfl rfl (R_move rfl rfl) <| wv rfl rfl rfl (R_add64 rfl rfl rfl (by omega) (by omega)) <| wv rfl rfl rfl (R_assign rfl rfl) ?_
    refine W_nil <| E_then <| C_seq <| C_seq <| C_region <| wv rfl rfl rfl (R_move rfl rfl) <| wv rfl rfl rfl (R_move rfl rfl) <| wv rfl rfl rfl (R_strlen rfl rfl Tryz.underlying9) <| wv rfl rfl rfl (R_bin rfl rfl rfl rfl rfl) <| wv rfl rfl rfl (R_move rfl rfl) ?_
    refine W_split (t := 66) rfl (fun hg133 => ?_) (fun hg133 => ?_)
    ·have hg133p : ((n : Int) + 1) < (a0.length : Int) := by simpa using hg133
     refine W_cons rfl (by decide) (Sv_gt rfl rfl rfl hg133 (Sv_val rfl (R_move rfl rfl) ?_))
     refine W_cons rfl (by decide) (Sv_gt rfl rfl rfl hg133 (Sv_val rfl (R_move rfl rfl) ?_))
     refine W_cons rfl (by decide) (Sv_gt rfl rfl rfl hg133 (Sv_val rfl (R_stridx rfl rfl rfl Tryz.underlying9 (by omega) (by omega)) ?_))
     refine W_cons rfl (by decide) (Sv_gt rfl rfl rfl hg133 (Sv_val rfl (R_bin rfl rfl rfl rfl rfl) ?_))
     refine wv rfl rfl rfl (R_pick_t rfl rfl hg133 rfl) ?_
     refine W_nil <| E_then (C_fr [(0, vstr a0), (1, .func (.func ga1) #[] ka1.toArray), (5, .int .i64 ((n : Int) + 1)), (6, .slice Ar5 (ub t).length cr5), (71, .bool (((a0.getD (n + 1) 0).toNat : Int) == 34))] rfl ?_)
     refine C_ite rfl (fun hC8 => ?_) (fun hC8 => ?_)
     ·have hC8p : ((a0.getD (n + 1) 0).toNat : Int) = 34 := by simpa using hC8
      refine C_seq <| C_region <| wv rfl rfl rfl (R_move rfl rfl) ?_
      refine W_cons rfl (by decide) (S_row (d := (kint .u8)) (q := zE) hS ([34] : List Int) rfl (R_buildSlice (ps := [(0, (.const (.int .u8 34)))]) (vs := [.int .u8 34]) (w' := w123.alloc (.cells [.int .u8 34].toArray 5)) (r := .slice (some ⟨w123.heap.size, 0, none⟩) 1 1) rfl rfl rfl (by kernel_rfl)) (by simp [Reps, flat, kint]) rfl (by decide) (fun g135 w134 hS => ?_))
      refine W_cons rfl (by decide) (S_appendZ hS 1 rfl rfl rfl elem110 rfl rfl (hS.sow 0 rfl (fun _ _ h => h)) (by simp) (by (try simp only [List.length_cons, List.length_nil, List.length_append, maxLen]); omega) (by (try simp only [List.length_cons, List.length_nil, List.length_append, maxLen]); omega) (fun Ar137 cr137 w136 hS => ?_))
      have hp138 := hS.cap 1 rfl
      have hlhp138 := hp138.le
      have hmhp138 := hp138.mx
      refine wv rfl rfl rfl (R_assign rfl rfl) ?_
      refine W_nil <| E_then <| C_seq <| C_region <| wv rfl rfl rfl (R_move rfl rfl) <| wv rfl rfl rfl (R_add64 rfl rfl rfl (by omega) (by omega)) <| wv rfl rfl rfl (R_assign rfl rfl) ?_
      refine W_nil <| E_then (C_fr [(0, vstr a0), (1, .func (.func ga1) #[] ka1.toArray), (5, .int .i64 (((n : Int) + 1) + 1)), (6, .slice Ar137 ((ub t) ++ ([34] : List Int)).length cr137)] rfl ?_)
      refine C_goto ?_
      refine E_then_goto ?_
      have hS := hS.toZ 1 rfl
      have hs139 : (ub t) ++ ([34] : List Int) = ub (t ++ [34] : St) := by simp [ub]
      have hS := hS.reZ 1 rfl hs139
      have hs140 : ((n : Int) + 1) + 1 = ((n + 2 : Nat) : Int) := by omega
      have hh141 : h = (h : Tells) := by simp
      have hS := hS.cbr Ra1 2 rfl hh141
      refine E_jump (m := 2 * (a0.length - (n + 2 : Nat)) + 2) [0, 1, 5, 6] (by decide) (fun _ h_ => by cases h_; omega) ⟨(n + 2 : Nat), (h : Tells), (t ++ [34] : St), Ar137, cr137, (blk Ar137), y6, (by rw [← hs139, ← hs140] <;> rfl), (by omega), (by (simp at *; omega)), (by (simp at *; omega)), (by exact Left.P_quote (Left.Q_quote hJ1_3 (by omega) (u34.1 (by assumption))) (by omega) (u34.1 (by assumption))), rfl, hS.fin [1, 2] (by decide) rfl⟩
     ·have hC8p : ¬ (((a0.getD (n + 1) 0).toNat : Int) = 34) := by simpa using hC8
      refine C_skip <| E_then <| C_seq <| C_label ?_
      refine E_then <| C_seq <| C_block <| C_seq <| C_region <| wv rfl rfl rfl (R_move rfl rfl) <| wv rfl rfl rfl (R_move rfl rfl) <| wv rfl rfl rfl (R_strlen rfl rfl Tryz.underlying9) <| wv rfl rfl rfl (R_bin rfl rfl rfl rfl rfl) <| wv rfl rfl rfl (R_assign rfl rfl) ?_
      refine W_nil <| E_then (C_fr [(0, vstr a0), (1, .func (.func ga1) #[] ka1.toArray), (5, .int .i64 ((n : Int) + 1)), (6, .slice Ar5 (ub t).length cr5), (77, .bool (((n : Int) + 1) == (a0.length : Int)))] rfl ?_)
      refine C_ite rfl (fun hC9 => ?_) (fun hC9 => ?_)
      ·have hC9p : ((n : Int) + 1) = (a0.length : Int) := by simpa using hC9
       refine C_goto ?_
       refine E_block_goto ?_
       refine E_then_goto ?_
       have hs142 : ub t = ub (t : St) := by simp [ub]
       have hS := hS.reZ 0 rfl hs142
       have hh143 : h = (h : Tells) := by simp
       have hS := hS.cbr Ra1 1 rfl hh143
       refine E_jump (m := 0) [1, 6] (by decide) (fun _ h_ => by cases h_; omega) ⟨((n + 1) : Nat), (h : Tells), (t : St), Ar5, cr5, Lr5, y6, (by rw [← hs142] <;> rfl), (by omega), (by (simp at *; omega)), (by (simp at *; omega)), (by exact Left.P_end (Left.Q_quote hJ1_3 (by omega) (u34.1 (by assumption))) (by omega)), rfl, hS.fin [0, 1] (by decide) rfl⟩
      ·have hC9p : ¬ (((n : Int) + 1) = (a0.length : Int)) := by simpa using hC9
       refine C_seq <| C_region <| wv rfl rfl rfl (R_move rfl rfl) <| wv rfl rfl rfl (R_move rfl rfl) <| wv rfl rfl rfl (R_stridx rfl rfl rfl Tryz.underlying9 (by omega) (by omega)) <| wv rfl rfl rfl (R_bin rfl rfl rfl rfl rfl) <| wv rfl rfl rfl (R_assign rfl rfl) ?_
       refine W_nil <| E_then (C_fr [(0, vstr a0), (1, .func (.func ga1) #[] ka1.toArray), (5, .int .i64 ((n : Int) + 1)), (6, .slice Ar5 (ub t).length cr5), (82, .bool (((a0.getD (n + 1) 0).toNat : Int) == 44))] rfl ?_)
       refine C_ite rfl (fun hC10 => ?_) (fun hC10 => ?_)
       ·have hC10p : ((a0.getD (n + 1) 0).toNat : Int) = 44 := by simpa using hC10
        refine C_seq <| C_region <| wv rfl rfl rfl (R_move rfl rfl) <| wv rfl rfl rfl (R_move rfl rfl) <| wv rfl rfl rfl (S_bytestrZ (t := t) hS 0 rfl rfl rfl Tryz.underlying110 Tryz.underlying5 Tryz.underlying9) ?_
        refine W_cons rfl (by decide) (S_cb (s := h) (y := y6) hfa1 hS 1 rfl hza1 ((t, false)) (by show List.length _ ≤ _; omega) rfl rfl rfl rfl rfl (fun y145 w144 hS => ?_))
        refine W_nil <| E_then (C_fr [(0, vstr a0), (1, .func (.func ga1) #[] ka1.toArray), (5, .int .i64 ((n : Int) + 1)), (6, .slice Ar5 (ub t).length cr5)] rfl ?_)
        refine C_seq <| C_region <| wv rfl rfl rfl (R_move rfl rfl) <| wv rfl rfl rfl (R_add64 rfl rfl rfl (by omega) (by omega)) <| wv rfl rfl rfl (R_assign rfl rfl) ?_
        refine W_nil <| E_then <| C_goto ?_
        refine E_block_goto ?_
        refine E_then_goto ?_
        have hs146 : ub t = ub (t : St) := by simp [ub]
        have hS := hS.reZ 0 rfl hs146
        have hs147 : ((n : Int) + 1) + 1 = (((n + 1) + 1 : Nat) : Int) := by omega
        have hh148 : h ++ [(t, false)] = (h ++ [(t, false)] : Tells) := by simp
        have hS := hS.cbr Ra1 1 rfl hh148
        refine E_jump (m := 2 * (a0.length - ((n + 1) + 1 : Nat)) + 2) [0, 1, 5, 6] (by decide) (fun _ h_ => by cases h_; omega) ⟨((n + 1) + 1 : Nat), (h ++ [(t, false)] : Tells), (t : St), Ar5, cr5, Lr5, y145, (by rw [← hs146, ← hs147] <;> rfl), (by omega), (by (simp at *; omega)), (by (simp at *; omega)), (by exact Left.P_comma (Left.Q_quote hJ1_3 (by omega) (u34.1 (by assumption))) (by omega) (u44.1 (by assumption))), rfl, hS.fin [0, 1] (by decide) rfl⟩
       ·have hC10p : ¬ (((a0.getD (n + 1) 0).toNat : Int) = 44) := by simpa using hC10
        refine C_seq <| C_region <| wv rfl rfl rfl (R_move rfl rfl) <| wv rfl rfl rfl (R_move rfl rfl) <| wv rfl rfl rfl (R_stridx rfl rfl rfl Tryz.underlying9 (by omega) (by omega)) <| wv rfl rfl rfl (R_bin rfl rfl rfl rfl rfl) <| wv rfl rfl rfl (R_assign rfl rfl) ?_
        refine W_nil <| E_then (C_fr [(0, vstr a0), (1, .func (.func ga1) #[] ka1.toArray), (5, .int .i64 ((n : Int) + 1)), (6, .slice Ar5 (ub t).length cr5), (93, .bool (((a0.getD (n + 1) 0).toNat : Int) != 13))] rfl ?_)
        refine C_ite rfl (fun hC11 => ?_) (fun hC11 => ?_)
        ·have hC11p : ¬ ((a0.getD (n + 1) 0).toNat : Int) = 13 := by simpa using hC11
         refine C_seq <| C_region <| wv rfl rfl rfl (R_move rfl rfl) <| wv rfl rfl rfl (R_assign rfl rfl) ?_
         refine W_nil <| E_then (C_fr [(4, .int .i64 ((n : Int) + 1))] rfl ?_)
         refine C_ret <| E_block_ret <| E_then_ret <| E_scope_ret ?_
         have hh149 : h = (run .F a0 0 []).1 := by (exact congrArg Prod.fst (Left.P_bad (Left.Q_quote hJ1_3 (by omega) (u34.1 (by assumption))) (by omega) (by exact mt u34.2 (by assumption)) (mt u44.2 (by assumption)) (mt u13.2 (by assumption))))
         have hS := hS.cbr Ra1 1 rfl hh149
         refine E_ret1 rfl rfl ?_
         exact ⟨y6, Lret1 (Lint (show (n : Int) + 1 = (run .F a0 0 []).2 by (exact congrArg Prod.snd (Left.P_bad (Left.Q_quote hJ1_3 (by omega) (u34.1 (by assumption))) (by omega) (by exact mt u34.2 (by assumption)) (mt u44.2 (by assumption)) (mt u13.2 (by assumption)))))), hS.fin [1] (by decide) rfl⟩
        ·have hC11p : ((a0.getD (n + 1) 0).toNat : Int) = 13 := by simpa using hC11
         refine C_skip <| E_block_normal <| E_then <| C_seq <| C_region <| wv rfl rfl rfl (R_move rfl rfl) <| wv rfl rfl rfl (R_add64 rfl rfl rfl (by omega) (by omega)) <| wv rfl rfl rfl (R_assign rfl rfl) ?_
         refine W_nil <| E_then <| C_seq <| C_seq <| C_region <| wv rfl rfl rfl (R_move rfl rfl) <| wv rfl rfl rfl (R_move rfl rfl) <| wv rfl rfl rfl (R_strlen rfl rfl Tryz.underlying9) <| wv rfl rfl rfl (R_bin rfl rfl rfl rfl rfl) <| wv rfl rfl rfl (R_move rfl rfl) ?_
         refine W_split (t := 105) rfl (fun hg150 => ?_) (fun hg150 => ?_)
         ·have hg150p : (((n : Int) + 1) + 1) = (a0.length : Int) := by simpa using hg150
          refine W_cons rfl (by decide) (Sv_off rfl rfl rfl (by rw [hg150] <;> rfl) ?_)
          refine W_cons rfl (by decide) (Sv_off rfl rfl rfl (by rw [hg150] <;> rfl) ?_)
          refine W_cons rfl (by decide) (Sv_off rfl rfl rfl (by rw [hg150] <;> rfl) ?_)
          refine W_cons rfl (by decide) (Sv_off rfl rfl rfl (by rw [hg150] <;> rfl) ?_)
          refine wv rfl rfl rfl (R_pick_t rfl rfl hg150 rfl) ?_
          refine W_nil <| E_then (C_fr [(0, vstr a0), (1, .func (.func ga1) #[] ka1.toArray), (5, .int .i64 (((n : Int) + 1) + 1)), (6, .slice Ar5 (ub t).length cr5), (110, .bool true)] rfl ?_)
          refine C_if rfl rfl ?_
          refine C_seq <| C_region <| wv rfl rfl rfl (R_move rfl rfl) <| wv rfl rfl rfl (R_assign rfl rfl) ?_
          refine W_nil <| E_then (C_fr [(4, .int .i64 (((n : Int) + 1) + 1))] rfl ?_)
          refine C_ret <| E_then_ret <| E_scope_ret ?_
          have hh151 : h = (run .F a0 0 []).1 := by (exact congrArg Prod.fst (Left.R_bad (Left.P_cr (Left.Q_quote hJ1_3 (by omega) (u34.1 (by assumption))) (by omega) (u13.1 (by assumption))) (by intro h_; omega)))
          have hS := hS.cbr Ra1 1 rfl hh151
          refine E_ret1 rfl rfl ?_
          exact ⟨y6, Lret1 (Lint (show ((n : Int) + 1) + 1 = (run .F a0 0 []).2 by (exact congrArg Prod.snd (Left.R_bad (Left.P_cr (Left.Q_quote hJ1_3 (by omega) (u34.1 (by assumption))) (by omega) (u13.1 (by assumption))) (by intro h_; omega))))), hS.fin [1] (by decide) rfl⟩
         ·have hg150p : ¬ ((((n : Int) + 1) + 1) = (a0.length : Int)) := by simpa using hg150
          refine W_cons rfl (by decide) (Sv_gt rfl rfl rfl hg150 (Sv_val rfl (R_move rfl rfl) ?_))
          refine W_cons rfl (by decide) (Sv_gt rfl rfl rfl hg150 (Sv_val rfl (R_move rfl rfl) ?_))
          refine W_cons rfl (by decide) (Sv_gt rfl rfl rfl hg150 (Sv_val rfl (R_stridx rfl rfl rfl Tryz.underlying9 (by omega) (by omega)) ?_))
          refine W_cons rfl (by decide) (Sv_gt rfl rfl rfl hg150 (Sv_val rfl (R_bin rfl rfl rfl rfl rfl) ?_))
          refine wv rfl rfl rfl (R_pick_f rfl rfl hg150 rfl) ?_
          refine W_nil <| E_then (C_fr [(0, vstr a0), (1, .func (.func ga1) #[] ka1.toArray), (5, .int .i64 (((n : Int) + 1) + 1)), (6, .slice Ar5 (ub t).length cr5), (110, .bool (((a0.getD (((n : Int) + 1) + 1).toNat 0).toNat : Int) != 10))] rfl ?_)
          refine C_ite rfl (fun hC12 => ?_) (fun hC12 => ?_)
          ·have hC12p : ¬ ((a0.getD (((n : Int) + 1) + 1).toNat 0).toNat : Int) = 10 := by simpa using hC12
           refine C_seq <| C_region <| wv rfl rfl rfl (R_move rfl rfl) <| wv rfl rfl rfl (R_assign rfl rfl) ?_
           refine W_nil <| E_then (C_fr [(4, .int .i64 (((n : Int) + 1) + 1))] rfl ?_)
           refine C_ret <| E_then_ret <| E_scope_ret ?_
           have hh152 : h = (run .F a0 0 []).1 := by (exact congrArg Prod.fst (Left.R_bad (Left.P_cr (Left.Q_quote hJ1_3 (by omega) (u34.1 (by assumption))) (by omega) (u13.1 (by assumption))) (by intro h_; exact mt u10.2 (by assumption))))
           have hS := hS.cbr Ra1 1 rfl hh152
           refine E_ret1 rfl rfl ?_
           exact ⟨y6, Lret1 (Lint (show ((n : Int) + 1) + 1 = (run .F a0 0 []).2 by (exact congrArg Prod.snd (Left.R_bad (Left.P_cr (Left.Q_quote hJ1_3 (by omega) (u34.1 (by assumption))) (by omega) (u13.1 (by assumption))) (by intro h_; exact mt u10.2 (by assumption)))))), hS.fin [1] (by decide) rfl⟩
          ·have hC12p : ((a0.getD (((n : Int) + 1) + 1).toNat 0).toNat : Int) = 10 := by simpa using hC12
           refine C_skip <| E_then <| C_seq <| C_region <| wv rfl rfl rfl (R_move rfl rfl) <| wv rfl rfl rfl (R_move rfl rfl) <| wv rfl rfl rfl (S_bytestrZ (t := t) hS 0 rfl rfl rfl Tryz.underlying110 Tryz.underlying5 Tryz.underlying9) ?_
           refine W_cons rfl (by decide) (S_cb (s := h) (y := y6) hfa1 hS 1 rfl hza1 ((t, true)) (by show List.length _ ≤ _; omega) rfl rfl rfl rfl rfl (fun y154 w153 hS => ?_))
           refine W_nil <| E_then (C_fr [(0, vstr a0), (1, .func (.func ga1) #[] ka1.toArray), (5, .int .i64 (((n : Int) + 1) + 1)), (6, .slice Ar5 (ub t).length cr5)] rfl ?_)
           refine C_seq <| C_region <| wv rfl rfl rfl (R_move rfl rfl) <| wv rfl rfl rfl (R_add64 rfl rfl rfl (by omega) (by omega)) <| wv rfl rfl rfl (R_assign rfl rfl) ?_
           refine W_nil <| E_then <| C_seq <| C_seq <| C_region <| wv rfl rfl rfl (R_move rfl rfl) <| wv rfl rfl rfl (R_move rfl rfl) <| wv rfl rfl rfl (R_strlen rfl rfl Tryz.underlying9) <| wv rfl rfl rfl (R_bin rfl rfl rfl rfl rfl) ?_
           refine W_nil <| E_then (C_fr [(0, vstr a0), (1, .func (.func ga1) #[] ka1.toArray), (5, .int .i64 ((((n : Int) + 1) + 1) + 1)), (6, .slice Ar5 (ub t).length cr5), (121, .bool (decide (((((n : Int) + 1) + 1) + 1) < (a0.length : Int))))] rfl ?_)
           refine C_ite rfl (fun hC13 => ?_) (fun hC13 => ?_)
           ·have hC13p : ((((n : Int) + 1) + 1) + 1) < (a0.length : Int) := by simpa using hC13
            refine C_goto ?_
            refine E_then_goto ?_
            have hs155 : ub t = ub (t : St) := by simp [ub]
            have hS := hS.reZ 0 rfl hs155
            have hs156 : (((n : Int) + 1) + 1) + 1 = (((n + 1) + 2 : Nat) : Int) := by omega
            have hh157 : h ++ [(t, true)] = (h ++ [(t, true)] : Tells) := by simp
            have hS := hS.cbr Ra1 1 rfl hh157
            refine E_jump (m := 2 * (a0.length - ((n + 1) + 2 : Nat)) + 2) [0, 1, 5, 6] (by decide) (fun _ h_ => by cases h_; omega) ⟨((n + 1) + 2 : Nat), (h ++ [(t, true)] : Tells), (t : St), Ar5, cr5, Lr5, y154, (by rw [← hs155, ← hs156] <;> rfl), (by omega), (by (simp at *; omega)), (by (simp at *; omega)), (by exact Left.R_more (Left.P_cr (Left.Q_quote hJ1_3 (by omega) (u34.1 (by assumption))) (by omega) (u13.1 (by assumption))) (by omega) (u10.1 (by assumption))), rfl, hS.fin [0, 1] (by decide) rfl⟩
           ·have hC13p : ¬ (((((n : Int) + 1) + 1) + 1) < (a0.length : Int)) := by simpa using hC13
            refine C_skip <| E_then (C_fr [] rfl ?_)
            refine C_seq <| C_seq <| C_region <| wv rfl rfl rfl (R_assign rfl rfl) ?_
            refine W_nil <| E_then <| C_ret <| E_then_ret <| E_scope_ret ?_
            have hh158 : h ++ [(t, true)] = (run .F a0 0 []).1 := by (exact congrArg Prod.fst (Left.R_end (Left.P_cr (Left.Q_quote hJ1_3 (by omega) (u34.1 (by assumption))) (by omega) (u13.1 (by assumption))) (by omega) (u10.1 (by assumption))))
            have hS := hS.cbr Ra1 1 rfl hh158
            refine E_ret1 rfl rfl ?_
            exact ⟨y154, Lret1 (Lint (show (-1) = (run .F a0 0 []).2 by (exact congrArg Prod.snd (Left.R_end (Left.P_cr (Left.Q_quote hJ1_3 (by omega) (u34.1 (by assumption))) (by omega) (u13.1 (by assumption))) (by omega) (u10.1 (by assumption)))))), hS.fin [1] (by decide) rfl⟩
    ·have hg133p : ¬ (((n : Int) + 1) < (a0.length : Int)) := by simpa using hg133
     refine W_cons rfl (by decide) (Sv_off rfl rfl rfl (by rw [hg133] <;> rfl) ?_)
     refine W_cons rfl (by decide) (Sv_off rfl rfl rfl (by rw [hg133] <;> rfl) ?_)
     refine W_cons rfl (by decide) (Sv_off rfl rfl rfl (by rw [hg133] <;> rfl) ?_)
     refine W_cons rfl (by decide) (Sv_off rfl rfl rfl (by rw [hg133] <;> rfl) ?_)
     refine wv rfl rfl rfl (R_pick_f rfl rfl hg133 rfl) ?_
     refine W_nil <| E_then (C_fr [(0, vstr a0), (1, .func (.func ga1) #[] ka1.toArray), (5, .int .i64 ((n : Int) + 1)), (6, .slice Ar5 (ub t).length cr5), (71, .bool false)] rfl ?_)
     refine C_else rfl rfl ?_
     refine C_skip <| E_then <| C_seq <| C_label ?_
     refine E_then <| C_seq <| C_block <| C_seq <| C_region <| wv rfl rfl rfl (R_move rfl rfl) <| wv rfl rfl rfl (R_move rfl rfl) <| wv rfl rfl rfl (R_strlen rfl rfl Tryz.underlying9) <| wv rfl rfl rfl (R_bin rfl rfl rfl rfl rfl) <| wv rfl rfl rfl (R_assign rfl rfl) ?_
     refine W_nil <| E_then (C_fr [(0, vstr a0), (1, .func (.func ga1) #[] ka1.toArray), (5, .int .i64 ((n : Int) + 1)), (6, .slice Ar5 (ub t).length cr5), (77, .bool (((n : Int) + 1) == (a0.length : Int)))] rfl ?_)
     refine C_ite rfl (fun hC9 => ?_) (fun hC9 => ?_)
     ·have hC9p : ((n : Int) + 1) = (a0.length : Int) := by simpa using hC9
      refine C_goto ?_
      refine E_block_goto ?_
      refine E_then_goto ?_
      have hs159 : ub t = ub (t : St) := by simp [ub]
      have hS := hS.reZ 0 rfl hs159
      have hh160 : h = (h : Tells) := by simp
      have hS := hS.cbr Ra1 1 rfl hh160
      refine E_jump (m := 0) [1, 6] (by decide) (fun _ h_ => by cases h_; omega) ⟨((n + 1) : Nat), (h : Tells), (t : St), Ar5, cr5, Lr5, y6, (by rw [← hs159] <;> rfl), (by omega), (by (simp at *; omega)), (by (simp at *; omega)), (by exact Left.P_end (Left.Q_quote hJ1_3 (by omega) (u34.1 (by assumption))) (by omega)), rfl, hS.fin [0, 1] (by decide) rfl⟩
     ·have hC9p : ¬ (((n : Int) + 1) = (a0.length : Int)) := by simpa using hC9
      refine C_seq <| C_region <| wv rfl rfl rfl (R_move rfl rfl) <| wv rfl rfl rfl (R_move rfl rfl) <| wv rfl rfl rfl (R_stridx rfl rfl rfl Tryz.underlying9 (by omega) (by omega)) <| wv rfl rfl rfl (R_bin rfl rfl rfl rfl rfl) <| wv rfl rfl rfl (R_assign rfl rfl) ?_
      refine W_nil <| E_then (C_fr [(0, vstr a0), (1, .func (.func ga1) #[] ka1.toArray), (5, .int .i64 ((n : Int) + 1)), (6, .slice Ar5 (ub t).length cr5), (82, .bool (((a0.getD (n + 1) 0).toNat : Int) == 44))] rfl ?_)
      refine C_ite rfl (fun hC10 => ?_) (fun hC10 => ?_)
      ·have hC10p : ((a0.getD (n + 1) 0).toNat : Int) = 44 := by simpa using hC10
       refine C_seq <| C_region <| wv rfl rfl rfl (R_move rfl rfl) <| wv rfl rfl rfl (R_move rfl rfl) <| wv rfl rfl rfl (S_bytestrZ (t := t) hS 0 rfl rfl rfl Tryz.underlying110 Tryz.underlying5 Tryz.underlying9) ?_
       refine W_cons rfl (by decide) (S_cb (s := h) (y := y6) hfa1 hS 1 rfl hza1 ((t, false)) (by show List.length _ ≤ _; omega) rfl rfl rfl rfl rfl (fun y162 w161 hS => ?_))
       refine W_nil <| E_then (C_fr [(0, vstr a0), (1, .func (.func ga1) #[] ka1.toArray), (5, .int .i64 ((n : Int) + 1)), (6, .slice Ar5 (ub t).length cr5)] rfl ?_)
       refine C_seq <| C_region <| wv rfl rfl rfl (R_move rfl rfl) <| wv rfl rfl rfl (R_add64 rfl rfl rfl (by omega) (by omega)) <| wv rfl rfl rfl (R_assign rfl rfl) ?_
       refine W_nil <| E_then <| C_goto ?_
       refine E_block_goto ?_
       refine E_then_goto ?_
       have hs163 : ub t = ub (t : St) := by simp [ub]
       have hS := hS.reZ 0 rfl hs163
       have hs164 : ((n : Int) + 1) + 1 = (((n + 1) + 1 : Nat) : Int) := by omega
       have hh165 : h ++ [(t, false)] = (h ++ [(t, false)] : Tells) := by simp
       have hS := hS.cbr Ra1 1 rfl hh165
       refine E_jump (m := 2 * (a0.length - ((n + 1) + 1 : Nat)) + 2) [0, 1, 5, 6] (by decide) (fun _ h_ => by cases h_; omega) ⟨((n + 1) + 1 : Nat), (h ++ [(t, false)] : Tells), (t : St), Ar5, cr5, Lr5, y162, (by rw [← hs163, ← hs164] <;> rfl), (by omega), (by (simp at *; omega)), (by (simp at *; omega)), (by exact Left.P_comma (Left.Q_quote hJ1_3 (by omega) (u34.1 (by assumption))) (by omega) (u44.1 (by assumption))), rfl, hS.fin [0, 1] (by decide) rfl⟩
      ·have hC10p : ¬ (((a0.getD (n + 1) 0).toNat : Int) = 44) := by simpa using hC10
       refine C_seq <| C_region <| wv rfl rfl rfl (R_move rfl rfl) <| wv rfl rfl rfl (R_move rfl rfl) <| wv rfl rfl rfl (R_stridx rfl rfl rfl Tryz.underlying9 (by omega) (by omega)) <| wv rfl rfl rfl (R_bin rfl rfl rfl rfl rfl) <| wv rfl rfl rfl (R_assign rfl rfl) ?_
       refine W_nil <| E_then (C_fr [(0, vstr a0), (1, .func (.func ga1) #[] ka1.toArray), (5, .int .i64 ((n : Int) + 1)), (6, .slice Ar5 (ub t).length cr5), (93, .bool (((a0.getD (n + 1) 0).toNat : Int) != 13))] rfl ?_)
       refine C_ite rfl (fun hC11 => ?_) (fun hC11 => ?_)
       ·have hC11p : ¬ ((a0.getD (n + 1) 0).toNat : Int) = 13 := by simpa using hC11
        refine C_seq <| C_region <| wv rfl rfl rfl (R_move rfl rfl) <| wv rfl rfl rfl (R_assign rfl rfl) ?_
        refine W_nil <| E_then (C_fr [(4, .int .i64 ((n : Int) + 1))] rfl ?_)
        refine C_ret <| E_block_ret <| E_then_ret <| E_scope_ret ?_
        have hh166 : h = (run .F a0 0 []).1 := by (exact congrArg Prod.fst (Left.Q_end hJ1_3 (by omega)))
        have hS := hS.cbr Ra1 1 rfl hh166
        refine E_ret1 rfl rfl ?_
        exact ⟨y6, Lret1 (Lint (show (n : Int) + 1 = (run .F a0 0 []).2 by (exact congrArg Prod.snd (Left.P_bad (Left.Q_quote hJ1_3 (by omega) (u34.1 (by assumption))) (by omega) (by omega) (mt u44.2 (by assumption)) (mt u13.2 (by assumption)))))), hS.fin [1] (by decide) rfl⟩
       ·have hC11p : ((a0.getD (n + 1) 0).toNat : Int) = 13 := by simpa using hC11
        refine C_skip <| E_block_normal <| E_then <| C_seq <| C_region <| wv rfl rfl rfl (R_move rfl rfl) <| wv rfl rfl rfl (R_add64 rfl rfl rfl (by omega) (by omega)) <| wv rfl rfl rfl (R_assign rfl rfl) ?_
        refine W_nil <| E_then <| C_seq <| C_seq <| C_region <| wv rfl rfl rfl (R_move rfl rfl) <| wv rfl rfl rfl (R_move rfl rfl) <| wv rfl rfl rfl (R_strlen rfl rfl Tryz.underlying9) <| wv rfl rfl rfl (R_bin rfl rfl rfl rfl rfl) <| wv rfl rfl rfl (R_move rfl rfl) ?_
        refine W_split (t := 105) rfl (fun hg167 => ?_) (fun hg167 => ?_)
        ·have hg167p : (((n : Int) + 1) + 1) = (a0.length : Int) := by simpa using hg167
         refine W_cons rfl (by decide) (Sv_off rfl rfl rfl (by rw [hg167] <;> rfl) ?_)
         refine W_cons rfl (by decide) (Sv_off rfl rfl rfl (by rw [hg167] <;> rfl) ?_)
         refine W_cons rfl (by decide) (Sv_off rfl rfl rfl (by rw [hg167] <;> rfl) ?_)
         refine W_cons rfl (by decide) (Sv_off rfl rfl rfl (by rw [hg167] <;> rfl) ?_)
         refine wv rfl rfl rfl (R_pick_t rfl rfl hg167 rfl) ?_
         refine W_nil <| E_then (C_fr [(0, vstr a0), (1, .func (.func ga1) #[] ka1.toArray), (5, .int .i64 (((n : Int) + 1) + 1)), (6, .slice Ar5 (ub t).length cr5), (110, .bool true)] rfl ?_)
         refine C_if rfl rfl ?_
         refine C_seq <| C_region <| wv rfl rfl rfl (R_move rfl rfl) <| wv rfl rfl rfl (R_assign rfl rfl) ?_
         refine W_nil <| E_then (C_fr [(4, .int .i64 (((n : Int) + 1) + 1))] rfl ?_)
         refine C_ret <| E_then_ret <| E_scope_ret ?_
         have hh168 : h = (run .F a0 0 []).1 := by (exact congrArg Prod.fst (Left.Q_end hJ1_3 (by omega)))
         have hS := hS.cbr Ra1 1 rfl hh168
         refine E_ret1 rfl rfl ?_
         exact ⟨y6, Lret1 (Lint (show ((n : Int) + 1) + 1 = (run .F a0 0 []).2 by (exact congrArg Prod.snd (Left.R_bad (Left.P_cr (Left.Q_quote hJ1_3 (by omega) (u34.1 (by assumption))) (by omega) (u13.1 (by assumption))) (by intro h_; omega))))), hS.fin [1] (by decide) rfl⟩
        ·have hg167p : ¬ ((((n : Int) + 1) + 1) = (a0.length : Int)) := by simpa using hg167
         refine W_cons rfl (by decide) (Sv_gt rfl rfl rfl hg167 (Sv_val rfl (R_move rfl rfl) ?_))
         refine W_cons rfl (by decide) (Sv_gt rfl rfl rfl hg167 (Sv_val rfl (R_move rfl rfl) ?_))
         refine W_cons rfl (by decide) (Sv_gt rfl rfl rfl hg167 (Sv_val rfl (R_stridx rfl rfl rfl Tryz.underlying9 (by omega) (by omega)) ?_))
         refine W_cons rfl (by decide) (Sv_gt rfl rfl rfl hg167 (Sv_val rfl (R_bin rfl rfl rfl rfl rfl) ?_))
         refine wv rfl rfl rfl (R_pick_f rfl rfl hg167 rfl) ?_
         refine W_nil <| E_then (C_fr [(0, vstr a0), (1, .func (.func ga1) #[] ka1.toArray), (5, .int .i64 (((n : Int) + 1) + 1)), (6, .slice Ar5 (ub t).length cr5), (110, .bool (((a0.getD (((n : Int) + 1) + 1).toNat 0).toNat : Int) != 10))] rfl ?_)
         refine C_ite rfl (fun hC12 => ?_) (fun hC12 => ?_)
         ·have hC12p : ¬ ((a0.getD (((n : Int) + 1) + 1).toNat 0).toNat : Int) = 10 := by simpa using hC12
          refine C_seq <| C_region <| wv rfl rfl rfl (R_move rfl rfl) <| wv rfl rfl rfl (R_assign rfl rfl) ?_
          refine W_nil <| E_then (C_fr [(4, .int .i64 (((n : Int) + 1) + 1))] rfl ?_)
          refine C_ret <| E_then_ret <| E_scope_ret ?_
          have hh169 : h = (run .F a0 0 []).1 := by (exact congrArg Prod.fst (Left.Q_end hJ1_3 (by omega)))
          have hS := hS.cbr Ra1 1 rfl hh169
          refine E_ret1 rfl rfl ?_
          exact ⟨y6, Lret1 (Lint (show ((n : Int) + 1) + 1 = (run .F a0 0 []).2 by (exact congrArg Prod.snd (Left.R_bad (Left.P_cr (Left.Q_quote hJ1_3 (by omega) (u34.1 (by assumption))) (by omega) (u13.1 (by assumption))) (by intro h_; exact mt u10.2 (by assumption)))))), hS.fin [1] (by decide) rfl⟩
         ·have hC12p : ((a0.getD (((n : Int) + 1) + 1).toNat 0).toNat : Int) = 10 := by simpa using hC12
          refine C_skip <| E_then <| C_seq <| C_region <| wv rfl rfl rfl (R_move rfl rfl) <| wv rfl rfl rfl (R_move rfl rfl) <| wv rfl rfl rfl (S_bytestrZ (t := t) hS 0 rfl rfl rfl Tryz.underlying110 Tryz.underlying5 Tryz.underlying9) ?_
          refine W_cons rfl (by decide) (S_cb (s := h) (y := y6) hfa1 hS 1 rfl hza1 ((t, true)) (by show List.length _ ≤ _; omega) rfl rfl rfl rfl rfl (fun y171 w170 hS => ?_))
          refine W_nil <| E_then (C_fr [(0, vstr a0), (1, .func (.func ga1) #[] ka1.toArray), (5, .int .i64 (((n : Int) + 1) + 1)), (6, .slice Ar5 (ub t).length cr5)] rfl ?_)
          refine C_seq <| C_region <| wv rfl rfl rfl (R_move rfl rfl) <| wv rfl rfl rfl (R_add64 rfl rfl rfl (by omega) (by omega)) <| wv rfl rfl rfl (R_assign rfl rfl) ?_
          refine W_nil <| E_then <| C_seq <| C_seq <| C_region <| wv rfl rfl rfl (R_move rfl rfl) <| wv rfl rfl rfl (R_move rfl rfl) <| wv rfl rfl rfl (R_strlen rfl rfl Tryz.underlying9) <| wv rfl rfl rfl (R_bin rfl rfl rfl rfl rfl) ?_
          refine W_nil <| E_then (C_fr [(0, vstr a0), (1, .func (.func ga1) #[] ka1.toArray), (5, .int .i64 ((((n : Int) + 1) + 1) + 1)), (6, .slice Ar5 (ub t).length cr5), (121, .bool (decide (((((n : Int) + 1) + 1) + 1) < (a0.length : Int))))] rfl ?_)
          refine C_ite rfl (fun hC13 => ?_) (fun hC13 => ?_)
          ·have hC13p : ((((n : Int) + 1) + 1) + 1) < (a0.length : Int) := by simpa using hC13
           refine C_goto ?_
           refine E_then_goto ?_
           have hs172 : ub t = ub (t : St) := by simp [ub]
           have hS := hS.reZ 0 rfl hs172
           have hs173 : (((n : Int) + 1) + 1) + 1 = (((n + 1) + 2 : Nat) : Int) := by omega
           have hh174 : h ++ [(t, true)] = (h ++ [(t, true)] : Tells) := by simp
           have hS := hS.cbr Ra1 1 rfl hh174
           refine E_jump (m := 2 * (a0.length - ((n + 1) + 2 : Nat)) + 2) [0, 1, 5, 6] (by decide) (fun _ h_ => by cases h_; omega) ⟨((n + 1) + 2 : Nat), (h ++ [(t, true)] : Tells), (t : St), Ar5, cr5, Lr5, y171, (by rw [← hs172, ← hs173] <;> rfl), (by omega), (by (simp at *; omega)), (by (simp at *; omega)), (by exact Left.R_more (Left.P_cr (Left.Q_quote hJ1_3 (by omega) (u34.1 (by assumption))) (by omega) (u13.1 (by assumption))) (by omega) (u10.1 (by assumption))), rfl, hS.fin [0, 1] (by decide) rfl⟩
          ·have hC13p : ¬ (((((n : Int) + 1) + 1) + 1) < (a0.length : Int)) := by simpa using hC13
           refine C_skip <| E_then (C_fr [] rfl ?_)
           refine C_seq <| C_seq <| C_region <| wv rfl rfl rfl (R_assign rfl rfl) ?_
           refine W_nil <| E_then <| C_ret <| E_then_ret <| E_scope_ret ?_
           have hh175 : h ++ [(t, true)] = (run .F a0 0 []).1 := by (exact congrArg Prod.fst (Left.R_end (Left.P_cr (Left.Q_quote hJ1_3 (by omega) (u34.1 (by assumption))) (by omega) (u13.1 (by assumption))) (by omega) (u10.1 (by assumption))))
           have hS := hS.cbr Ra1 1 rfl hh175
           refine E_ret1 rfl rfl ?_
           exact ⟨y171, Lret1 (Lint (show (-1) = (run .F a0 0 []).2 by (exact congrArg Prod.snd (Left.R_end (Left.P_cr (Left.Q_quote hJ1_3 (by omega) (u34.1 (by assumption))) (by omega) (u13.1 (by assumption))) (by omega) (u10.1 (by assumption)))))), hS.fin [1] (by decide) rfl⟩
 ·refine ⟨_, rfl, ?_⟩
  rintro m_ f_ w176 ⟨n, h, t, Ar7, cr7, Lr7, y8, rfl, hJ4_0, hJ4_1, hJ4_2, hJ4_3, hJ4_4, rfl, hS⟩
  have hlr7 := (hS.lez 0 rfl).1
  have hmr7 := (hS.lez 0 rfl).2
  have hub := ub_len t
  refine C_seq <| C_skip <| E_then <| C_seq <| C_block <| C_seq <| C_region <| wv rfl rfl rfl (R_move rfl rfl) <| wv rfl rfl rfl (R_move rfl rfl) <| wv rfl rfl rfl (R_strlen rfl rfl Tryz.underlying9) <| wv rfl rfl rfl (R_bin rfl rfl rfl rfl rfl) <| wv rfl rfl rfl (R_assign rfl rfl) ?_
  refine W_nil <| E_then <| C_ite rfl (fun hC9 => ?_) (fun hC9 => ?_)
  ·have hC9p : (n : Int) = (a0.length : Int) := by simpa using hC9
   refine C_goto ?_
   refine E_block_goto ?_
   refine E_then_goto ?_
   have hs177 : ub t = ub (t : St) := by simp [ub]
   have hS := hS.reZ 0 rfl hs177
   have hh178 : h = (h : Tells) := by simp
   have hS := hS.cbr Ra1 1 rfl hh178
   refine E_jump (m := 0) [1, 6] (by decide) (fun _ h_ => by cases h_; omega) ⟨(n : Nat), (h : Tells), (t : St), Ar7, cr7, Lr7, y8, (by rw [← hs177] <;> rfl), (by omega), (by (simp at *; omega)), (by (simp at *; omega)), (by exact Left.P_end hJ4_3 (by omega)), rfl, hS.fin [0, 1] (by decide) rfl⟩
  ·have hC9p : ¬ ((n : Int) = (a0.length : Int)) := by simpa using hC9
   refine C_seq <| C_region <| wv rfl rfl rfl (R_move rfl rfl) <| wv rfl rfl rfl (R_move rfl rfl) <| wv rfl rfl rfl (R_stridx rfl rfl rfl Tryz.underlying9 (by omega) (by omega)) <| wv rfl rfl rfl (R_bin rfl rfl rfl rfl rfl) <| wv rfl rfl rfl (R_assign rfl rfl) ?_
   refine W_nil <| E_then (C_fr [(0, vstr a0), (1, .func (.func ga1) #[] ka1.toArray), (5, .int .i64 (n : Int)), (6, .slice Ar7 (ub t).length cr7), (82, .bool (((a0.getD n 0).toNat : Int) == 44))] rfl ?_)
   refine C_ite rfl (fun hC10 => ?_) (fun hC10 => ?_)
   ·have hC10p : ((a0.getD n 0).toNat : Int) = 44 := by simpa using hC10
    refine C_seq <| C_region <| wv rfl rfl rfl (R_move rfl rfl) <| wv rfl rfl rfl (R_move rfl rfl) <| wv rfl rfl rfl (S_bytestrZ (t := t) hS 0 rfl rfl rfl Tryz.underlying110 Tryz.underlying5 Tryz.underlying9) ?_
    refine W_cons rfl (by decide) (S_cb (s := h) (y := y8) hfa1 hS 1 rfl hza1 ((t, false)) (by show List.length _ ≤ _; omega) rfl rfl rfl rfl rfl (fun y180 w179 hS => ?_))
    refine W_nil <| E_then (C_fr [(0, vstr a0), (1, .func (.func ga1) #[] ka1.toArray), (5, .int .i64 (n : Int)), (6, .slice Ar7 (ub t).length cr7)] rfl ?_)
    refine C_seq <| C_region <| wv rfl rfl rfl (R_move rfl rfl) <| wv rfl rfl rfl (R_add64 rfl rfl rfl (by omega) (by omega)) <| wv rfl rfl rfl (R_assign rfl rfl) ?_
    refine W_nil <| E_then <| C_goto ?_
    refine E_block_goto ?_
    refine E_then_goto ?_
    have hs181 : ub t = ub (t : St) := by simp [ub]
    have hS := hS.reZ 0 rfl hs181
    have hs182 : (n : Int) + 1 = ((n + 1 : Nat) : Int) := by omega
    have hh183 : h ++ [(t, false)] = (h ++ [(t, false)] : Tells) := by simp
    have hS := hS.cbr Ra1 1 rfl hh183
    refine E_jump (m := 2 * (a0.length - (n + 1 : Nat)) + 2) [0, 1, 5, 6] (by decide) (fun _ h_ => by cases h_; omega) ⟨(n + 1 : Nat), (h ++ [(t, false)] : Tells), (t : St), Ar7, cr7, Lr7, y180, (by rw [← hs181, ← hs182] <;> rfl), (by omega), (by (simp at *; omega)), (by (simp at *; omega)), (by exact Left.P_comma hJ4_3 (by omega) (u44.1 (by assumption))), rfl, hS.fin [0, 1] (by decide) rfl⟩
   ·have hC10p : ¬ (((a0.getD n 0).toNat : Int) = 44) := by simpa using hC10
    refine C_seq <| C_region <| wv rfl rfl rfl (R_move rfl rfl) <| wv rfl rfl rfl (R_move rfl rfl) <| wv rfl rfl rfl (R_stridx rfl rfl rfl Tryz.underlying9 (by omega) (by omega)) <| wv rfl rfl rfl (R_bin rfl rfl rfl rfl rfl) <| wv rfl rfl rfl (R_assign rfl rfl) ?_
    refine W_nil <| E_then (C_fr [(0, vstr a0), (1, .func (.func ga1) #[] ka1.toArray), (5, .int .i64 (n : Int)), (6, .slice Ar7 (ub t).length cr7), (93, .bool (((a0.getD n 0).toNat : Int) != 13))] rfl ?_)
    refine C_ite rfl (fun hC11 => ?_) (fun hC11 => ?_)
    ·have hC11p : ¬ ((a0.getD n 0).toNat : Int) = 13 := by simpa using hC11
     refine C_seq <| C_region <| wv rfl rfl rfl (R_move rfl rfl) <| wv rfl rfl rfl (R_assign rfl rfl) ?_
     refine W_nil <| E_then (C_fr [(4, .int .i64 (n : Int))] rfl ?_)
     refine C_ret <| E_block_ret <| E_then_ret <| E_scope_ret ?_
     have hh184 : h = (run .F a0 0 []).1 := by (exact congrArg Prod.fst (Left.P_bad hJ4_3 (by omega) (hJ4_4 (by omega)) (mt u44.2 (by assumption)) (mt u13.2 (by assumption))))
     have hS := hS.cbr Ra1 1 rfl hh184
     refine E_ret1 rfl rfl ?_
     exact ⟨y8, Lret1 (Lint (show (n : Int) = (run .F a0 0 []).2 by (exact congrArg Prod.snd (Left.P_bad hJ4_3 (by omega) (hJ4_4 (by omega)) (mt u44.2 (by assumption)) (mt u13.2 (by assumption)))))), hS.fin [1] (by decide) rfl⟩
    ·have hC11p : ((a0.getD n 0).toNat : Int) = 13 := by simpa using hC11
     refine C_skip <| E_block_normal <| E_then <| C_seq <| C_region <| wv rfl rfl rfl (R_move rfl rfl) <| wv rfl rfl rfl (R_add64 rfl rfl rfl (by omega) (by omega)) <| wv rfl rfl rfl (R_assign rfl rfl) ?_
     refine W_nil <| E_then <| C_seq <| C_seq <| C_region <| wv rfl rfl rfl (R_move rfl rfl) <| wv rfl rfl rfl (R_move rfl rfl) <| wv rfl rfl rfl (R_strlen rfl rfl Tryz.underlying9) <| wv rfl rfl rfl (R_bin rfl rfl rfl rfl rfl) <| wv rfl rfl rfl (R_move rfl rfl) ?_
     refine W_split (t := 105) rfl (fun hg185 => ?_) (fun hg185 => ?_)
     ·have hg185p : ((n : Int) + 1) = (a0.length : Int) := by simpa using hg185
      refine W_cons rfl (by decide) (Sv_off rfl rfl rfl (by rw [hg185] <;> rfl) ?_)
      refine W_cons rfl (by decide) (Sv_off rfl rfl rfl (by rw [hg185] <;> rfl) ?_)
      refine W_cons rfl (by decide) (Sv_off rfl rfl rfl (by rw [hg185] <;> rfl) ?_)
      refine W_cons rfl (by decide) (Sv_off rfl rfl rfl (by rw [hg185] <;> rfl) ?_)
      refine wv rfl rfl rfl (R_pick_t rfl rfl hg185 rfl) ?_
      refine W_nil <| E_then (C_fr [(0, vstr a0), (1, .func (.func ga1) #[] ka1.toArray), (5, .int .i64 ((n : Int) + 1)), (6, .slice Ar7 (ub t).length cr7), (110, .bool true)] rfl ?_)
      refine C_if rfl rfl ?_
      refine C_seq <| C_region <| wv rfl rfl rfl (R_move rfl rfl) <| wv rfl rfl rfl (R_assign rfl rfl) ?_
      refine W_nil <| E_then (C_fr [(4, .int .i64 ((n : Int) + 1))] rfl ?_)
      refine C_ret <| E_then_ret <| E_scope_ret ?_
      have hh186 : h = (run .F a0 0 []).1 := by (exact congrArg Prod.fst (Left.R_bad (Left.P_cr hJ4_3 (by omega) (u13.1 (by assumption))) (by intro h_; omega)))
      have hS := hS.cbr Ra1 1 rfl hh186
      refine E_ret1 rfl rfl ?_
      exact ⟨y8, Lret1 (Lint (show (n : Int) + 1 = (run .F a0 0 []).2 by (exact congrArg Prod.snd (Left.R_bad (Left.P_cr hJ4_3 (by omega) (u13.1 (by assumption))) (by intro h_; omega))))), hS.fin [1] (by decide) rfl⟩
     ·have hg185p : ¬ (((n : Int) + 1) = (a0.length : Int)) := by simpa using hg185
      refine W_cons rfl (by decide) (Sv_gt rfl rfl rfl hg185 (Sv_val rfl (R_move rfl rfl) ?_))
      refine W_cons rfl (by decide) (Sv_gt rfl rfl rfl hg185 (Sv_val rfl (R_move rfl rfl) ?_))
      refine W_cons rfl (by decide) (Sv_gt rfl rfl rfl hg185 (Sv_val rfl (R_stridx rfl rfl rfl Tryz.underlying9 (by omega) (by omega)) ?_))
      refine W_cons rfl (by decide) (Sv_gt rfl rfl rfl hg185 (Sv_val rfl (R_bin rfl rfl rfl rfl rfl) ?_))
      refine wv rfl rfl rfl (R_pick_f rfl rfl hg185 rfl) ?_
      refine W_nil <| E_then (C_fr [(0, vstr a0), (1, .func (.func ga1) #[] ka1.toArray), (5, .int .i64 ((n : Int) + 1)), (6, .slice Ar7 (ub t).length cr7), (110, .bool (((a0.getD (n + 1) 0).toNat : Int) != 10))] rfl ?_)
      refine C_ite rfl (fun hC12 => ?_) (fun hC12 => ?_)
      ·have hC12p : ¬ ((a0.getD (n + 1) 0).toNat : Int) = 10 := by simpa using hC12
       refine C_seq <| C_region <| wv rfl rfl rfl (R_move rfl rfl) <| wv rfl rfl rfl (R_assign rfl rfl) ?_
       refine W_nil <| E_then (C_fr [(4, .int .i64 ((n : Int) + 1))] rfl ?_)
       refine C_ret <| E_then_ret <| E_scope_ret ?_
       have hh187 : h = (run .F a0 0 []).1 := by (exact congrArg Prod.fst (Left.R_bad (Left.P_cr hJ4_3 (by omega) (u13.1 (by assumption))) (by intro h_; exact mt u10.2 (by assumption))))
       have hS := hS.cbr Ra1 1 rfl hh187
       refine E_ret1 rfl rfl ?_
       exact ⟨y8, Lret1 (Lint (show (n : Int) + 1 = (run .F a0 0 []).2 by (exact congrArg Prod.snd (Left.R_bad (Left.P_cr hJ4_3 (by omega) (u13.1 (by assumption))) (by intro h_; exact mt u10.2 (by assumption)))))), hS.fin [1] (by decide) rfl⟩
      ·have hC12p : ((a0.getD (n + 1) 0).toNat : Int) = 10 := by simpa using hC12
       refine C_skip <| E_then <| C_seq <| C_region <| wv rfl rfl rfl (R_move rfl rfl) <| wv rfl rfl rfl (R_move rfl rfl) <| wv rfl rfl rfl (S_bytestrZ (t := t) hS 0 rfl rfl rfl Tryz.underlying110 Tryz.underlying5 Tryz.underlying9) ?_
       refine W_cons rfl (by decide) (S_cb (s := h) (y := y8) hfa1 hS 1 rfl hza1 ((t, true)) (by show List.length _ ≤ _; omega) rfl rfl rfl rfl rfl (fun y189 w188 hS => ?_))
       refine W_nil <| E_then (C_fr [(0, vstr a0), (1, .func (.func ga1) #[] ka1.toArray), (5, .int .i64 ((n : Int) + 1)), (6, .slice Ar7 (ub t).length cr7)] rfl ?_)
       refine C_seq <| C_region <| wv rfl rfl rfl (R_move rfl rfl) <| wv rfl rfl rfl (R_add64 rfl rfl rfl (by omega) (by omega)) <| wv rfl rfl rfl (R_assign rfl rfl) ?_
       refine W_nil <| E_then <| C_seq <| C_seq <| C_region <| wv rfl rfl rfl (R_move rfl rfl) <| wv rfl rfl rfl (R_move rfl rfl) <| wv rfl rfl rfl (R_strlen rfl rfl Tryz.underlying9) <| wv rfl rfl rfl (R_bin rfl rfl rfl rfl rfl) ?_
       refine W_nil <| E_then (C_fr [(0, vstr a0), (1, .func (.func ga1) #[] ka1.toArray), (5, .int .i64 (((n : Int) + 1) + 1)), (6, .slice Ar7 (ub t).length cr7), (121, .bool (decide ((((n : Int) + 1) + 1) < (a0.length : Int))))] rfl ?_)
       refine C_ite rfl (fun hC13 => ?_) (fun hC13 => ?_)
       ·have hC13p : (((n : Int) + 1) + 1) < (a0.length : Int) := by simpa using hC13
        refine C_goto ?_
        refine E_then_goto ?_
        have hs190 : ub t = ub (t : St) := by simp [ub]
        have hS := hS.reZ 0 rfl hs190
        have hs191 : ((n : Int) + 1) + 1 = ((n + 2 : Nat) : Int) := by omega
        have hh192 : h ++ [(t, true)] = (h ++ [(t, true)] : Tells) := by simp
        have hS := hS.cbr Ra1 1 rfl hh192
        refine E_jump (m := 2 * (a0.length - (n + 2 : Nat)) + 2) [0, 1, 5, 6] (by decide) (fun _ h_ => by cases h_; omega) ⟨(n + 2 : Nat), (h ++ [(t, true)] : Tells), (t : St), Ar7, cr7, Lr7, y189, (by rw [← hs190, ← hs191] <;> rfl), (by omega), (by (simp at *; omega)), (by (simp at *; omega)), (by exact Left.R_more (Left.P_cr hJ4_3 (by omega) (u13.1 (by assumption))) (by omega) (u10.1 (by assumption))), rfl, hS.fin [0, 1] (by decide) rfl⟩
       ·have hC13p : ¬ ((((n : Int) + 1) + 1) < (a0.length : Int)) := by simpa using hC13
        refine C_skip <| E_then (C_fr [] rfl ?_)
        refine C_seq <| C_seq <| C_region <| wv rfl rfl rfl (R_assign rfl rfl) ?_
        refine W_nil <| E_then <| C_ret <| E_then_ret <| E_scope_ret ?_
        have hh193 : h ++ [(t, true)] = (run .F a0 0 []).1 := by (exact congrArg Prod.fst (Left.R_end (Left.P_cr hJ4_3 (by omega) (u13.1 (by assumption))) (by omega) (u10.1 (by assumption))))
        have hS := hS.cbr Ra1 1 rfl hh193
        refine E_ret1 rfl rfl ?_
        exact ⟨y189, Lret1 (Lint (show (-1) = (run .F a0 0 []).2 by (exact congrArg Prod.snd (Left.R_end (Left.P_cr hJ4_3 (by omega) (u13.1 (by assumption))) (by omega) (u10.1 (by assumption)))))), hS.fin [1] (by decide) rfl⟩
 ·refine ⟨_, rfl, ?_⟩
  rintro m_ f_ w194 ⟨n, h, t, Ar9, cr9, Lr9, y10, rfl, hJ2_0, hJ2_1, hJ2_2, hJ2_3, rfl, hS⟩
  have hlr9 := (hS.lez 0 rfl).1
  have hmr9 := (hS.lez 0 rfl).2
  have hub := ub_len t
  refine C_seq <| C_skip <| E_then <| C_seq <| C_region <| wv rfl rfl rfl (R_move rfl rfl) <| wv rfl rfl rfl (R_move rfl rfl) <| wv rfl rfl rfl (S_bytestrZ (t := t) hS 0 rfl rfl rfl Tryz.underlying110 Tryz.underlying5 Tryz.underlying9) ?_
  refine W_cons rfl (by decide) (S_cb (s := h) (y := y10) hfa1 hS 1 rfl hza1 ((t, true)) (by show List.length _ ≤ _; omega) rfl rfl rfl rfl rfl (fun y196 w195 hS => ?_))
  refine W_nil <| E_then (C_fr [] rfl ?_)
  refine C_seq <| C_region <| wv rfl rfl rfl (R_assign rfl rfl) ?_
  refine W_nil <| E_then <| C_ret <| E_scope_ret ?_
  have hh197 : h ++ [(t, true)] = (run .F a0 0 []).1 := by (exact congrArg Prod.fst (hJ2_3))
  have hS := hS.cbr Ra1 1 rfl hh197
  refine E_ret1 rfl rfl ?_
  exact ⟨y196, Lret1 (Lint (show (-1) = (run .F a0 0 []).2 by (exact congrArg Prod.snd (hJ2_3)))), hS.fin [1] (by decide) rfl⟩
end Go.Proofs.YtaljccgfnmfhnaaGreatDoorG
set_option linter.all false
set_option maxHeartbeats 8000000
set_option maxRecDepth 100000
namespace Go.Proofs.YtaljccgfnmfhnaaGreatDoorG
open Go Go.RowKit
theorem parse1_calls (a0 : St) (a1 : Bool) (ba2 : Nat) (a2 : List St) (Aa2 : Option Addr) (ca2 : Nat) (ba3 : Nat) (a3 : List (List St)) (Aa3 : Option Addr) (ca3 : Nat) (qa3 : Z) (z : Z) (w : World) (hI : In z w [bR ba2 43 [.slice Aa2 a2.length ca2], oR kstr 9 zE Aa2 ca2 a2, bR ba3 22 [.slice Aa3 a3.length ca3], zR qa3, oR (kslice kstr) 43 qa3 Aa3 ca3 a3])  (p0 : a2.length ≤ 100000) (p1 : a3.length ≤ 100000) :
    Calls Tryz.prog 54 #[vstr a0, .bool a1, .pointer (some ⟨ba2, 0, none⟩), .pointer (some ⟨ba3, 0, none⟩)] w fun e w' => ∃ (Aa2' : Option Addr) (ca2' : Nat) (Aa3' : Option Addr) (ca3' : Nat) (qa3' : Z), e = .returned (.tuple #[]) ∧ Sp (FF [bR ba2 43 [.slice Aa2 a2.length ca2], oR kstr 9 zE Aa2 ca2 a2, bR ba3 22 [.slice Aa3 a3.length ca3], zR qa3, oR (kslice kstr) 43 qa3 Aa3 ca3 a3]) w z w' [bR ba2 43 [.slice Aa2' (if a1 = true then [] else a2 ++ [a0]).length ca2'], oR kstr 9 zE Aa2' ca2' (if a1 = true then [] else a2 ++ [a0]), bR ba3 22 [.slice Aa3' (if a1 = true then a3 ++ [a2 ++ [a0]] else a3).length ca3'], zR qa3', oR (kslice kstr) 43 qa3' Aa3' ca3' (if a1 = true then a3 ++ [a2 ++ [a0]] else a3)] := by
 have hS := hI.sp
 have hp1 := hS.cap 1 rfl
 have hlhp1 := hp1.le
 have hmhp1 := hp1.mx
 have hp2 := hS.cap 4 rfl
 have hlhp2 := hp2.le
 have hmhp2 := hp2.mx
 refine Calls_of (vs := [vstr a0, .bool a1, .pointer (some ⟨ba2, 0, none⟩), .pointer (some ⟨ba3, 0, none⟩)]) (N := 15) Tryz.func54 rfl rfl (Nat.le_of_ble_eq_true rfl) ?_
 refine C_seq <| C_region <| wv rfl rfl rfl (R_load1 rfl rfl agg43 ((hS.bx 0 rfl).cell rfl)) <| wv rfl rfl rfl (R_move rfl rfl) ?_
 refine W_cons rfl (by decide) (S_row (d := kstr) (q := zE) hS ([a0] : List St) rfl (R_buildSlice (ps := [(0, (.tmp 7))]) (vs := [vstr a0]) (w' := w.alloc (.cells [vstr a0].toArray 9)) (r := .slice (some ⟨w.heap.size, 0, none⟩) 1 1) rfl rfl rfl (by kernel_rfl)) (by simp [Reps, flat, kstr]) rfl (by decide) (fun g4 w3 hS => ?_))
 refine W_cons rfl (by decide) (S_append hS 2 rfl rfl rfl elem43 rfl rfl (hS.sow 0 rfl (fun _ _ h => h)) (by (try simp only [List.length_cons, List.length_nil, List.length_append, maxLen]); omega) (by (try simp only [List.length_cons, List.length_nil, List.length_append, maxLen]); omega) (fun Ar6 cr6 w5 hS => ?_))
 have hp7 := hS.cap 2 rfl
 have hlhp7 := hp7.le
 have hmhp7 := hp7.mx
 refine W_cons0 rfl (S_store hS 1 rfl rfl rfl rfl rfl size43 (one1 rfl) (Nat.le_of_ble_eq_true rfl) (fun w8 hS => ?_))
 refine W_nil <| E_then (C_fr [(1, .bool a1), (2, .pointer (some ⟨ba2, 0, none⟩)), (3, .pointer (some ⟨ba3, 0, none⟩))] rfl ?_)
 refine C_seq <| C_region <| wv rfl rfl rfl (R_move rfl rfl) ?_
 refine W_nil <| E_then <| C_ite rfl (fun hC0 => ?_) (fun hC0 => ?_)
 ·refine C_region <| wv rfl rfl rfl (R_load1 rfl rfl agg22 ((hS.bx 3 rfl).cell rfl)) <| wv rfl rfl rfl (R_load1 rfl rfl agg43 ((hS.bx 1 rfl).cell rfl)) ?_
  have hcz11 := hS.cap 2 rfl
  obtain ⟨z11, hlez11, hrz11, hS⟩ := hS.fz 2 4 rfl rfl (by decide) (zle_E _)
  have hS := hS.lift 4 rfl hlez11
  refine W_cons rfl (by decide) (S_row (d := (kslice kstr)) (q := z11) hS ([a2 ++ ([a0] : List St)] : List (List St)) rfl (R_buildSlice (ps := [(0, (.tmp 12))]) (vs := [.slice Ar6 (a2 ++ ([a0] : List St)).length cr6]) (w' := w8.alloc (.cells [.slice Ar6 (a2 ++ ([a0] : List St)).length cr6].toArray 43)) (r := .slice (some ⟨w8.heap.size, 0, none⟩) 1 1) rfl rfl rfl (by kernel_rfl)) ⟨_, _, rfl, ⟨_, _, rfl, hcz11, hrz11⟩, rfl⟩ rfl (by decide) (fun g10 w9 hS => ?_))
  refine W_cons rfl (by decide) (S_append hS 5 rfl rfl rfl elem22 rfl rfl (hS.sow 0 rfl (fun _ _ h => h)) (by (try simp only [List.length_cons, List.length_nil, List.length_append, maxLen]); omega) (by (try simp only [List.length_cons, List.length_nil, List.length_append, maxLen]); omega) (fun Ar13 cr13 w12 hS => ?_))
  have hp14 := hS.cap 5 rfl
  have hlhp14 := hp14.le
  have hmhp14 := hp14.mx
  refine W_cons0 rfl (S_store hS 4 rfl rfl rfl rfl rfl size22 (one1 rfl) (Nat.le_of_ble_eq_true rfl) (fun w15 hS => ?_))
  refine W_cons0 rfl (S_store hS 3 rfl rfl rfl rfl rfl size43 (one1 rfl) (Nat.le_of_ble_eq_true rfl) (fun w16 hS => ?_))
  refine W_nil <| E_end_normal ?_
  have hS := hS.nilrow kstr 9 zE
  have hq18 : ([] : List St) = (if a1 = true then [] else a2 ++ [a0]) := by simp [hC0]
  have hS := hS.re 0 rfl hq18
  have hS := hS.as 4 rfl (r' := bR ba2 43 [.slice none (if a1 = true then [] else a2 ++ [a0]).length 0]) (fun h_ => by rw [← hq18]; exact h_) (fun _ h_ => h_)
  have hq19 : a3 ++ ([a2 ++ ([a0] : List St)] : List (List St)) = (if a1 = true then a3 ++ [a2 ++ [a0]] else a3) := by simp [hC0]
  have hS := hS.re 6 rfl hq19
  have hS := hS.as 5 rfl (r' := bR ba3 22 [.slice Ar13 (if a1 = true then a3 ++ [a2 ++ [a0]] else a3).length cr13]) (fun h_ => by rw [← hq19]; exact h_) (fun _ h_ => h_)
  refine E_ret0 rfl  ?_
  exact ⟨none, 0, Ar13, cr13, z11, Lret0 , hS.fin [4, 0, 5, 2, 6] (by decide) rfl⟩
 ·refine C_skip <| E_end_normal ?_
  have hq20 : a2 ++ ([a0] : List St) = (if a1 = true then [] else a2 ++ [a0]) := by simp [hC0]
  have hS := hS.re 2 rfl hq20
  have hS := hS.as 1 rfl (r' := bR ba2 43 [.slice Ar6 (if a1 = true then [] else a2 ++ [a0]).length cr6]) (fun h_ => by rw [← hq20]; exact h_) (fun _ h_ => h_)
  have hq21 : a3 = (if a1 = true then a3 ++ [a2 ++ [a0]] else a3) := by simp [hC0]
  have hS := hS.re 5 rfl hq21
  have hS := hS.as 3 rfl (r' := bR ba3 22 [.slice Aa3 (if a1 = true then a3 ++ [a2 ++ [a0]] else a3).length ca3]) (fun h_ => by rw [← hq21]; exact h_) (fun _ h_ => h_)
  refine E_ret0 rfl  ?_
  exact ⟨Ar6, cr6, Aa3, ca3, qa3, Lret0 , hS.fin [1, 2, 3, 4, 5] (by decide) rfl⟩
def Parse1R (b2 b3 : Nat) (h : Tells) (g : (Option Addr × Nat × Z × Option Addr × Nat)) : Res := allR [bR b2 43 [.slice g.1 (recs h).2.length g.2.1], oR kstr 9 zE g.1 g.2.1 (recs h).2, bR b3 22 [.slice g.2.2.2.1 (recs h).1.length g.2.2.2.2], zR g.2.2.1, oR (kslice kstr) 43 g.2.2.1 g.2.2.2.1 g.2.2.2.2 (recs h).1]
theorem parse1_fv (b2 b3 : Nat) : FV Tryz.prog zE 54 [.pointer (some ⟨b2, 0, none⟩), .pointer (some ⟨b3, 0, none⟩)] (fun _ x_ vs_ => vs_ = [vstr x_.1, .bool x_.2]) (Parse1R b2 b3) (fun h_ _ => h_.length ≤ 100000) (fun h_ x_ => h_ ++ [x_]) (fun _ _ => .tuple #[]) := ⟨ent54, by
  rintro h ⟨A2, c2, q3, A3, c3⟩ ⟨t, e⟩ vs w z _ hI hok rfl
  have hl := recs_len h
  have hok' : h.length ≤ 100000 := hok
  refine (parse1_calls t e b2 (recs h).2 A2 c2 b3 (recs h).1 A3 c3 q3 z w hI.unb (by omega) (by omega)).mono ?_
  rintro e' w' ⟨A2', c2', A3', c3', q3', rfl, hS⟩
  refine ⟨rfl, (A2', c2', q3', A3', c3'), ?_⟩
  have h1 := hS.bun1
  unfold Parse1R
  rw [recs_snoc]
  cases e <;> exact h1⟩
theorem parse_calls (a0 : St) (z : Z) (w : World) (hI : In z w [])   :
    Calls Tryz.prog 25 #[vstr a0] w fun e w' => ∃ (AR0 : Option Addr) (cR0 : Nat) (qR0 : Z), e = .returned (.tuple #[.slice AR0 (parseS a0).1.length cR0, .int .i64 (parseS a0).2.1, .int .i64 (parseS a0).2.2]) ∧ Sp (FF []) w z w' [zR qR0, oR (kslice kstr) 43 qR0 AR0 cR0 (parseS a0).1] := by
 have hS := hI.sp
 refine Calls_of (vs := [vstr a0]) (N := 16) Tryz.func25 rfl rfl (Nat.le_of_ble_eq_true rfl) ?_
 refine C_seq <| C_region <| W_cons rfl (by decide) (S_box hS rfl (R_alloc rfl alloc22) (fun b2 w1 hS => ?_))
 refine wv rfl rfl rfl (R_assign rfl rfl) <| wv rfl rfl rfl (R_assign rfl rfl) ?_
 refine W_nil <| E_then <| C_seq <| C_seq <| C_region <| wv rfl rfl rfl (R_move rfl rfl) <| wv rfl rfl rfl (R_strlen rfl rfl Tryz.underlying9) <| wv rfl rfl rfl (R_bin rfl rfl rfl rfl rfl) ?_
 refine W_nil <| E_then <| C_ite rfl (fun hC0 => ?_) (fun hC0 => ?_)
 ·have hC0p : (a0.length : Int) > 65536 := by simpa using hC0
  refine C_seq <| C_region <| W_cons0 rfl (S_store hS 0 rfl rfl rfl rfl rfl size22 (one1 rfl) (Nat.le_of_ble_eq_true rfl) (fun w3 hS => ?_))
  refine wv rfl rfl rfl (R_assign rfl rfl) <| wv rfl rfl rfl (R_assign rfl rfl) ?_
  refine W_nil <| E_then <| C_ret <| E_then_ret ?_
  obtain ⟨z4, hS⟩ := hS.famx
  have hS := hS.nilrow (kslice kstr) 43 z4
  have hq6 : ([] : List (List St)) = (parseS a0).1 := by unfold parseS; simp only [hC0p, if_true, if_false]; skip
  have hS := hS.re 0 rfl hq6
  refine E_rv3 rfl (RV_cell rfl agg22 ((hS.bx 2 rfl).cell rfl)) (RV_tmp rfl) (RV_tmp rfl) ?_
  exact ⟨none, 0, z4, Lret3 (Lslice hq6) (Lint (show 0 = (parseS a0).2.1 by unfold parseS; simp only [hC0p, if_true, if_false]; skip)) (Lint (show 3 = (parseS a0).2.2 by unfold parseS; simp only [hC0p, if_true, if_false]; skip)), hS.fin [1, 0] (by decide) rfl⟩
 ·have hC0p : ¬ ((a0.length : Int) > 65536) := by simpa using hC0
  refine C_skip <| E_then (C_fr [(0, vstr a0), (2, .pointer (some ⟨b2, 0, none⟩))] rfl ?_)
  refine C_seq <| C_region <| W_cons rfl (by decide) (S_box hS rfl (R_alloc rfl alloc43) (fun b8 w7 hS => ?_))
  refine W_nil <| E_then <| C_seq <| C_region <| wv rfl rfl rfl (R_move rfl rfl) <| wv rfl rfl rfl (R_makeFunc rfl rfl) ?_
  have hS := hS.nilrow kstr 9 zE
  obtain ⟨z11, hS⟩ := hS.famx
  have hS := hS.nilrow (kslice kstr) 43 z11
  have hS := hS.bun [3, 2, 4, 1, 0] (by decide)
  refine W_cons rfl (by decide) (Sv_call rfl rfl rfl ent53 ?_)
  refine (walk_calls a0 54 [.pointer (some ⟨b8, 0, none⟩), .pointer (some ⟨b2, 0, none⟩)] (Option Addr × Nat × Z × Option Addr × Nat) (Parse1R b8 b2) (none, 0, z11, none, 0) zE _ _ (hS.out [0] (by decide)) (parse1_fv _ _) (zle_E _) (by omega)).mono ?_
  rintro e_ w9 ⟨ya1_14', rfl, hS_⟩
  refine ⟨_, rfl, ?_⟩
  have hS := hS.call [0] (by decide) hS_
  obtain ⟨Au15, cu15, qu15, Bu15, ku15⟩ := ya1_14'
  have hS := hS.unb
  refine wv rfl rfl rfl (R_assign rfl rfl) ?_
  refine W_nil <| E_then (C_fr [(2, .pointer (some ⟨b2, 0, none⟩)), (3, .int .i64 (run .F a0 0 []).2)] rfl ?_)
  refine C_seq <| C_seq <| C_region <| wv rfl rfl rfl (R_move rfl rfl) <| wv rfl rfl rfl (R_bin rfl rfl rfl rfl rfl) ?_
  refine W_nil <| E_then <| C_ite rfl (fun hC1 => ?_) (fun hC1 => ?_)
  ·have hC1p : (run .F a0 0 []).2 ≥ 0 := by simpa using hC1
   refine C_seq <| C_region <| wv rfl rfl rfl (R_move rfl rfl) ?_
   refine W_cons0 rfl (S_store hS 2 rfl rfl rfl rfl rfl size22 (one1 rfl) (Nat.le_of_ble_eq_true rfl) (fun w16 hS => ?_))
   refine wv rfl rfl rfl (R_assign rfl rfl) <| wv rfl rfl rfl (R_assign rfl rfl) ?_
   refine W_nil <| E_then <| C_ret <| E_then_ret ?_
   obtain ⟨z17, hS⟩ := hS.famx
   have hS := hS.nilrow (kslice kstr) 43 z17
   have hq19 : ([] : List (List St)) = (parseS a0).1 := by unfold parseS; simp only [hC0p, if_true, if_false]; (split <;> rfl)
   have hS := hS.re 0 rfl hq19
   refine E_rv3 rfl (RV_cell rfl agg22 ((hS.bx 4 rfl).cell rfl)) (RV_tmp rfl) (RV_tmp rfl) ?_
   exact ⟨none, 0, z17, Lret3 (Lslice hq19) (Lint (show (run .F a0 0 []).2 = (parseS a0).2.1 by unfold parseS; simp only [hC0p, if_true, if_false]; (split <;> rfl))) (Lint (show 2 = (parseS a0).2.2 by unfold parseS; simp only [hC0p, if_true, if_false]; (split <;> rfl))), hS.fin [1, 0] (by decide) rfl⟩
  ·have hC1p : ¬ ((run .F a0 0 []).2 ≥ 0) := by simpa using hC1
   refine C_skip <| E_then <| C_seq <| C_region <| wv rfl rfl rfl (R_load1 rfl rfl agg22 ((hS.bx 2 rfl).cell rfl)) ?_
   refine W_cons0 rfl (S_store hS 2 rfl rfl rfl rfl rfl size22 (one1 rfl) (Nat.le_of_ble_eq_true rfl) (fun w20 hS => ?_))
   refine wv rfl rfl rfl (R_assign rfl rfl) <| wv rfl rfl rfl (R_assign rfl rfl) ?_
   refine W_nil <| E_then <| C_ret ?_
   have hq21 : (recs (run .F a0 0 []).1).1 = (parseS a0).1 := by unfold parseS; simp only [hC0p, if_true, if_false]; (split <;> first | rfl | omega)
   have hS := hS.re 4 rfl hq21
   refine E_rv3 rfl (RV_cell rfl agg22 ((hS.bx 2 rfl).cell rfl)) (RV_tmp rfl) (RV_tmp rfl) ?_
   exact ⟨Bu15, ku15, qu15, Lret3 (Lslice hq21) (Lint (show 0 = (parseS a0).2.1 by unfold parseS; simp only [hC0p, if_true, if_false]; (split <;> first | rfl | omega))) (Lint (show 0 = (parseS a0).2.2 by unfold parseS; simp only [hC0p, if_true, if_false]; (split <;> first | rfl | omega))), hS.fin [3, 4] (by decide) rfl⟩
theorem same_calls (a0 : List (List St)) (Aa0 : Option Addr) (ca0 : Nat) (a1 : List (List St)) (Aa1 : Option Addr) (ca1 : Nat) (z : Z) (w : World) (hI : In z w []) (hra0 : Rd (kslice kstr) z Aa0 a0) (hca0 : Cap Aa0 a0.length ca0) (hra1 : Rd (kslice kstr) z Aa1 a1) (hca1 : Cap Aa1 a1.length ca1)  :
    Calls Tryz.prog 14 #[.slice Aa0 a0.length ca0, .slice Aa1 a1.length ca1] w fun e w' => e = .returned (.bool (decide (a0 = a1))) ∧ Sp (FF []) w z w' [] := by
 have hla0 := hca0.le
 have hma0 := hca0.mx
 have hla1 := hca1.le
 have hma1 := hca1.mx
 have hS := hI.sp
 refine Calls_of (vs := [.slice Aa0 a0.length ca0, .slice Aa1 a1.length ca1]) (N := 53) Tryz.func14 rfl rfl (Nat.le_of_ble_eq_true rfl) ?_
 refine C_seq <| C_region <| wv rfl rfl rfl (R_assign rfl rfl) ?_
 refine W_nil <| E_then <| C_seq <| C_seq <| C_region <| wv rfl rfl rfl (R_move rfl rfl) <| wv rfl rfl rfl (R_len rfl rfl Tryz.underlying22) <| wv rfl rfl rfl (R_move rfl rfl) <| wv rfl rfl rfl (R_len rfl rfl Tryz.underlying22) <| wv rfl rfl rfl (R_bin rfl rfl rfl rfl rfl) ?_
 refine W_nil <| E_then (C_fr [(0, .slice Aa0 a0.length ca0), (1, .slice Aa1 a1.length ca1), (11, .bool ((a0.length : Int) != (a1.length : Int)))] rfl ?_)
 refine C_ite rfl (fun hC0 => ?_) (fun hC0 => ?_)
 ·have hC0p : ¬ (a0.length : Int) = (a1.length : Int) := by simpa using hC0
  refine C_seq <| C_region <| wv rfl rfl rfl (R_assign rfl rfl) ?_
  refine W_nil <| E_then <| C_ret <| E_then_ret <| E_ret1 rfl rfl ?_
  exact ⟨Lret1 (Lbool (show false = (decide (a0 = a1)) by (exact (decide_eq_false (fun h_ => by subst h_; (exact absurd rfl (by assumption)))).symm))), hS.fin [] (by decide) rfl⟩
 ·have hC0p : (a0.length : Int) = (a1.length : Int) := by simpa using hC0
  refine C_skip <| E_then <| C_seq <| C_seq <| C_region <| wv rfl rfl rfl (R_assign rfl rfl) ?_
  refine W_nil <| E_then <| C_block <| C_fr [(0, .slice Aa0 a0.length ca0), (1, .slice Aa1 a1.length ca1), (5, .int .i64 0)] rfl ?_
  refine C_loop (fun m_ f_ w_ => ∃ (i : Nat), f_ = [(0, .slice Aa0 a0.length ca0), (1, .slice Aa1 a1.length ca1), (5, .int .i64 (i : Int))] ∧ i ≤ a0.length ∧ a0.take i = a1.take i ∧ m_ = a0.length - i ∧ Sp (FF []) w z w_ []) (a0.length - (0 : Nat)) ⟨(0 : Nat), rfl, (by omega), (by rfl), rfl, hS.fin [] (by decide) rfl⟩ ?_
  rintro m_ f_ w1 ⟨i, rfl, hI0_0, hI0_1, rfl, hS⟩
  refine C_seq <| C_seq <| C_region <| wv rfl rfl rfl (R_move rfl rfl) <| wv rfl rfl rfl (R_move rfl rfl) <| wv rfl rfl rfl (R_len rfl rfl Tryz.underlying22) <| wv rfl rfl rfl (R_bin rfl rfl rfl rfl rfl) ?_
  refine W_nil <| E_then <| C_ite rfl (fun hC1 => ?_) (fun hC1 => ?_)
  ·have hC1p : (i : Int) < (a0.length : Int) := by simpa using hC1
   refine C_skip <| E_then <| C_seq <| C_block <| C_seq <| C_seq <| C_fr [(0, .slice Aa0 a0.length ca0), (1, .slice Aa1 a1.length ca1), (5, .int .i64 (i : Int))] rfl ?_
   obtain ⟨q4, csq4, hAq4, ⟨Aq4, cq4, rfl, hcq4, hrq4⟩, hkq4⟩ := hra0.at_ [] (i := (i : Int)) (by omega) (by omega)
   have hkq4 : ∀ (j_ : Nat) (u_ : Value), ([.slice Aq4 (a0.getD i []).length cq4] : List Value)[j_]? = some u_ → cz z (q4.add (i * 1 + j_)) = some u_ := hkq4
   have hrq4 : Rd kstr z Aq4 ((a0.getD i [])) := hrq4
   have hcq4 : Cap Aq4 ((a0.getD i [])).length cq4 := hcq4
   have hlq4 := hcq4.le
   have hmq4 := hcq4.mx
   obtain ⟨q5, csq5, hAq5, ⟨Aq5, cq5, rfl, hcq5, hrq5⟩, hkq5⟩ := hra1.at_ [] (i := (i : Int)) (by omega) (by omega)
   have hkq5 : ∀ (j_ : Nat) (u_ : Value), ([.slice Aq5 (a1.getD i []).length cq5] : List Value)[j_]? = some u_ → cz z (q5.add (i * 1 + j_)) = some u_ := hkq5
   have hrq5 : Rd kstr z Aq5 ((a1.getD i [])) := hrq5
   have hcq5 : Cap Aq5 ((a1.getD i [])).length cq5 := hcq5
   have hlq5 := hcq5.le
   have hmq5 := hcq5.mx
   refine C_drawn 11 [[], [], [0, 1], [2], [3], [], [], [5, 6], [7], [8], [4, 9]] [18, 19, 20, 21, 22, 23, 24, 25, 26, 27, 28] [0, 1, 5] rfl (by kernel_rfl) (by decide +kernel) [fun v_ _ => v_ = .slice Aa0 a0.length ca0, fun v_ _ => v_ = .int .i64 (i : Int), fun v_ _ => v_ = .pointer (some (q4.add (i * 1))), fun v_ _ => v_ = .slice Aq4 (a0.getD i []).length cq4, fun v_ _ => v_ = .int .i64 ((a0.getD i []).length : Int), fun v_ _ => v_ = .slice Aa1 a1.length ca1, fun v_ _ => v_ = .int .i64 (i : Int), fun v_ _ => v_ = .pointer (some (q5.add (i * 1))), fun v_ _ => v_ = .slice Aq5 (a1.getD i []).length cq5, fun v_ _ => v_ = .int .i64 ((a1.getD i []).length : Int), fun v_ _ => v_ = .bool (((a0.getD i []).length : Int) != ((a1.getD i []).length : Int))] ⟨fun _ _ _ h _ => h, ⟨fun _ _ _ h _ => h, ⟨fun _ _ _ h _ => h, ⟨fun _ _ _ h _ => h, ⟨fun _ _ _ h _ => h, ⟨fun _ _ _ h _ => h, ⟨fun _ _ _ h _ => h, ⟨fun _ _ _ h _ => h, ⟨fun _ _ _ h _ => h, ⟨fun _ _ _ h _ => h, ⟨fun _ _ _ h _ => h, trivial⟩⟩⟩⟩⟩⟩⟩⟩⟩⟩⟩ ⟨fun w2 hc3 => by have hS := hS.chg0 hc3; exact Sv_val rfl (R_move rfl rfl) ⟨Chg.refl _ _, rfl⟩, ⟨fun w2 hc3 => by have hS := hS.chg0 hc3; exact Sv_val rfl (R_move rfl rfl) ⟨Chg.refl _ _, rfl⟩, ⟨fun w2 hc3 => by have hS := hS.chg0 hc3; rintro _ rfl _ rfl; exact Sv_val rfl (R_idx rfl rfl hAq4 rfl Tryz.underlying22 size43 (by omega) (by omega)) ⟨Chg.refl _ _, rfl⟩, ⟨fun w2 hc3 => by have hS := hS.chg0 hc3; rintro _ rfl; exact Sv_val rfl (R_load1 rfl rfl agg43 (hS.sub.cell (hkq4 0 _ rfl))) ⟨Chg.refl _ _, rfl⟩, ⟨fun w2 hc3 => by have hS := hS.chg0 hc3; rintro _ rfl; exact Sv_val rfl (R_len rfl rfl Tryz.underlying43) ⟨Chg.refl _ _, rfl⟩, ⟨fun w2 hc3 => by have hS := hS.chg0 hc3; exact Sv_val rfl (R_move rfl rfl) ⟨Chg.refl _ _, rfl⟩, ⟨fun w2 hc3 => by have hS := hS.chg0 hc3; exact Sv_val rfl (R_move rfl rfl) ⟨Chg.refl _ _, rfl⟩, ⟨fun w2 hc3 => by have hS := hS.chg0 hc3; rintro _ rfl _ rfl; exact Sv_val rfl (R_idx rfl rfl hAq5 rfl Tryz.underlying22 size43 (by omega) (by omega)) ⟨Chg.refl _ _, rfl⟩, ⟨fun w2 hc3 => by have hS := hS.chg0 hc3; rintro _ rfl; exact Sv_val rfl (R_load1 rfl rfl agg43 (hS.sub.cell (hkq5 0 _ rfl))) ⟨Chg.refl _ _, rfl⟩, ⟨fun w2 hc3 => by have hS := hS.chg0 hc3; rintro _ rfl; exact Sv_val rfl (R_len rfl rfl Tryz.underlying43) ⟨Chg.refl _ _, rfl⟩, ⟨fun w2 hc3 => by have hS := hS.chg0 hc3; rintro _ rfl _ rfl; exact Sv_val rfl (R_bin rfl rfl rfl rfl rfl) ⟨Chg.refl _ _, rfl⟩, trivial⟩⟩⟩⟩⟩⟩⟩⟩⟩⟩⟩ ?_
   intro w2 hc3
   have hS := hS.chg0 hc3
   rintro _ rfl _ rfl _ rfl _ rfl _ rfl _ rfl _ rfl _ rfl _ rfl _ rfl _ rfl
   refine An_fr [(0, .slice Aa0 a0.length ca0), (1, .slice Aa1 a1.length ca1), (5, .int .i64 (i : Int)), (28, .bool (((a0.getD i []).length : Int) != ((a1.getD i []).length : Int)))] rfl ?_
   refine An_done (by decide +kernel) <| E_then <| C_ite rfl (fun hC2 => ?_) (fun hC2 => ?_)
   ·have hC2p : ¬ ((a0.getD i []).length : Int) = ((a1.getD i []).length : Int) := by simpa using hC2
    refine C_seq <| C_region <| wv rfl rfl rfl (R_assign rfl rfl) ?_
    refine W_nil <| E_then <| C_ret <| E_then_ret <| E_block_ret <| E_then_ret <| E_then_ret <| E_block_ret <| E_then_ret <| E_ret1 rfl rfl ?_
    exact ⟨Lret1 (Lbool (show false = (decide (a0 = a1)) by (exact (decide_eq_false (fun h_ => by subst h_; (exact absurd rfl (by assumption)))).symm))), hS.fin [] (by decide) rfl⟩
   ·have hC2p : ((a0.getD i []).length : Int) = ((a1.getD i []).length : Int) := by simpa using hC2
    refine C_skip <| E_then <| C_seq <| C_region <| wv rfl rfl rfl (R_assign rfl rfl) ?_
    refine W_nil <| E_then <| C_block <| C_fr [(0, .slice Aa0 a0.length ca0), (1, .slice Aa1 a1.length ca1), (5, .int .i64 (i : Int)), (6, .int .i64 0)] rfl ?_
    refine C_loop (fun m_ f_ w_ => ∃ (k : Nat), f_ = [(0, .slice Aa0 a0.length ca0), (1, .slice Aa1 a1.length ca1), (5, .int .i64 (i : Int)), (6, .int .i64 (k : Int))] ∧ k ≤ (a0.getD i []).length ∧ (a0.getD i []).take k = (a1.getD i []).take k ∧ m_ = (a0.getD i []).length - k ∧ Sp (FF []) w z w_ []) ((a0.getD i []).length - (0 : Nat)) ⟨(0 : Nat), rfl, (by omega), (by rfl), rfl, hS.fin [] (by decide) rfl⟩ ?_
    rintro m_ f_ w6 ⟨k, rfl, hI1_0, hI1_1, rfl, hS⟩
    refine C_seq <| C_seq <| C_region <| wv rfl rfl rfl (R_move rfl rfl) <| wv rfl rfl rfl (R_move rfl rfl) <| wv rfl rfl rfl (R_move rfl rfl) ?_
    obtain ⟨q7, csq7, hAq7, ⟨Aq7, cq7, rfl, hcq7, hrq7⟩, hkq7⟩ := hra0.at_ [] (i := (i : Int)) (by omega) (by omega)
    have hkq7 : ∀ (j_ : Nat) (u_ : Value), ([.slice Aq7 (a0.getD i []).length cq7] : List Value)[j_]? = some u_ → cz z (q7.add (i * 1 + j_)) = some u_ := hkq7
    have hrq7 : Rd kstr z Aq7 ((a0.getD i [])) := hrq7
    have hcq7 : Cap Aq7 ((a0.getD i [])).length cq7 := hcq7
    have hlq7 := hcq7.le
    have hmq7 := hcq7.mx
    refine wv rfl rfl rfl (R_idx rfl rfl hAq7 rfl Tryz.underlying22 size43 (by omega) (by omega)) <| wv rfl rfl rfl (R_load1 rfl rfl agg43 (hS.sub.cell (hkq7 0 _ rfl))) <| wv rfl rfl rfl (R_len rfl rfl Tryz.underlying43) <| wv rfl rfl rfl (R_bin rfl rfl rfl rfl rfl) ?_
    refine W_nil <| E_then (C_fr [(0, .slice Aa0 a0.length ca0), (1, .slice Aa1 a1.length ca1), (5, .int .i64 (i : Int)), (6, .int .i64 (k : Int)), (35, .bool (decide ((k : Int) < ((a0.getD i []).length : Int))))] rfl ?_)
    refine C_ite rfl (fun hC3 => ?_) (fun hC3 => ?_)
    ·have hC3p : (k : Int) < ((a0.getD i []).length : Int) := by simpa using hC3
     refine C_skip <| E_then <| C_seq <| C_block <| C_seq <| C_fr [(0, .slice Aa0 a0.length ca0), (1, .slice Aa1 a1.length ca1), (5, .int .i64 (i : Int)), (6, .int .i64 (k : Int))] rfl ?_
     obtain ⟨q10, csq10, hAq10, ⟨Aq10, cq10, rfl, hcq10, hrq10⟩, hkq10⟩ := hra0.at_ [] (i := (i : Int)) (by omega) (by omega)
     have hkq10 : ∀ (j_ : Nat) (u_ : Value), ([.slice Aq10 (a0.getD i []).length cq10] : List Value)[j_]? = some u_ → cz z (q10.add (i * 1 + j_)) = some u_ := hkq10
     have hrq10 : Rd kstr z Aq10 ((a0.getD i [])) := hrq10
     have hcq10 : Cap Aq10 ((a0.getD i [])).length cq10 := hcq10
     have hlq10 := hcq10.le
     have hmq10 := hcq10.mx
     obtain ⟨q11, csq11, hAq11, rfl, hkq11⟩ := hrq10.at_ ([] : St) (i := (k : Int)) (by omega) (by omega)
     have hkq11 : ∀ (j_ : Nat) (u_ : Value), ([vstr ((a0.getD i []).getD k ([] : St))] : List Value)[j_]? = some u_ → cz z (q11.add (k * 1 + j_)) = some u_ := hkq11
     obtain ⟨q12, csq12, hAq12, ⟨Aq12, cq12, rfl, hcq12, hrq12⟩, hkq12⟩ := hra1.at_ [] (i := (i : Int)) (by omega) (by omega)
     have hkq12 : ∀ (j_ : Nat) (u_ : Value), ([.slice Aq12 (a1.getD i []).length cq12] : List Value)[j_]? = some u_ → cz z (q12.add (i * 1 + j_)) = some u_ := hkq12
     have hrq12 : Rd kstr z Aq12 ((a1.getD i [])) := hrq12
     have hcq12 : Cap Aq12 ((a1.getD i [])).length cq12 := hcq12
     have hlq12 := hcq12.le
     have hmq12 := hcq12.mx
     obtain ⟨q13, csq13, hAq13, rfl, hkq13⟩ := hrq12.at_ ([] : St) (i := (k : Int)) (by omega) (by omega)
     have hkq13 : ∀ (j_ : Nat) (u_ : Value), ([vstr ((a1.getD i []).getD k ([] : St))] : List Value)[j_]? = some u_ → cz z (q13.add (k * 1 + j_)) = some u_ := hkq13
     refine C_drawn 15 [[], [], [0, 1], [2], [], [3, 4], [5], [], [], [7, 8], [9], [], [10, 11], [12], [6, 13]] [38, 39, 40, 41, 42, 43, 44, 45, 46, 47, 48, 49, 50, 51, 52] [0, 1, 5, 6] rfl (by kernel_rfl) (by decide +kernel) [fun v_ _ => v_ = .slice Aa0 a0.length ca0, fun v_ _ => v_ = .int .i64 (i : Int), fun v_ _ => v_ = .pointer (some (q10.add (i * 1))), fun v_ _ => v_ = .slice Aq10 (a0.getD i []).length cq10, fun v_ _ => v_ = .int .i64 (k : Int), fun v_ _ => v_ = .pointer (some (q11.add (k * 1))), fun v_ _ => v_ = vstr ((a0.getD i []).getD k ([] : St)), fun v_ _ => v_ = .slice Aa1 a1.length ca1, fun v_ _ => v_ = .int .i64 (i : Int), fun v_ _ => v_ = .pointer (some (q12.add (i * 1))), fun v_ _ => v_ = .slice Aq12 (a1.getD i []).length cq12, fun v_ _ => v_ = .int .i64 (k : Int), fun v_ _ => v_ = .pointer (some (q13.add (k * 1))), fun v_ _ => v_ = vstr ((a1.getD i []).getD k ([] : St)), fun v_ _ => v_ = .bool (!decide (((a0.getD i []).getD k ([] : St)) = ((a1.getD i []).getD k ([] : St))))] ⟨fun _ _ _ h _ => h, ⟨fun _ _ _ h _ => h, ⟨fun _ _ _ h _ => h, ⟨fun _ _ _ h _ => h, ⟨fun _ _ _ h _ => h, ⟨fun _ _ _ h _ => h, ⟨fun _ _ _ h _ => h, ⟨fun _ _ _ h _ => h, ⟨fun _ _ _ h _ => h, ⟨fun _ _ _ h _ => h, ⟨fun _ _ _ h _ => h, ⟨fun _ _ _ h _ => h, ⟨fun _ _ _ h _ => h, ⟨fun _ _ _ h _ => h, ⟨fun _ _ _ h _ => h, trivial⟩⟩⟩⟩⟩⟩⟩⟩⟩⟩⟩⟩⟩⟩⟩ ⟨fun w8 hc9 => by have hS := hS.chg0 hc9; exact Sv_val rfl (R_move rfl rfl) ⟨Chg.refl _ _, rfl⟩, ⟨fun w8 hc9 => by have hS := hS.chg0 hc9; exact Sv_val rfl (R_move rfl rfl) ⟨Chg.refl _ _, rfl⟩, ⟨fun w8 hc9 => by have hS := hS.chg0 hc9; rintro _ rfl _ rfl; exact Sv_val rfl (R_idx rfl rfl hAq10 rfl Tryz.underlying22 size43 (by omega) (by omega)) ⟨Chg.refl _ _, rfl⟩, ⟨fun w8 hc9 => by have hS := hS.chg0 hc9; rintro _ rfl; exact Sv_val rfl (R_load1 rfl rfl agg43 (hS.sub.cell (hkq10 0 _ rfl))) ⟨Chg.refl _ _, rfl⟩, ⟨fun w8 hc9 => by have hS := hS.chg0 hc9; exact Sv_val rfl (R_move rfl rfl) ⟨Chg.refl _ _, rfl⟩, ⟨fun w8 hc9 => by have hS := hS.chg0 hc9; rintro _ rfl _ rfl; exact Sv_val rfl (R_idx rfl rfl hAq11 rfl Tryz.underlying43 size9 (by omega) (by omega)) ⟨Chg.refl _ _, rfl⟩, ⟨fun w8 hc9 => by have hS := hS.chg0 hc9; rintro _ rfl; exact Sv_val rfl (R_load1 rfl rfl agg9 (hS.sub.cell (hkq11 0 _ rfl))) ⟨Chg.refl _ _, rfl⟩, ⟨fun w8 hc9 => by have hS := hS.chg0 hc9; exact Sv_val rfl (R_move rfl rfl) ⟨Chg.refl _ _, rfl⟩, ⟨fun w8 hc9 => by have hS := hS.chg0 hc9; exact Sv_val rfl (R_move rfl rfl) ⟨Chg.refl _ _, rfl⟩, ⟨fun w8 hc9 => by have hS := hS.chg0 hc9; rintro _ rfl _ rfl; exact Sv_val rfl (R_idx rfl rfl hAq12 rfl Tryz.underlying22 size43 (by omega) (by omega)) ⟨Chg.refl _ _, rfl⟩, ⟨fun w8 hc9 => by have hS := hS.chg0 hc9; rintro _ rfl; exact Sv_val rfl (R_load1 rfl rfl agg43 (hS.sub.cell (hkq12 0 _ rfl))) ⟨Chg.refl _ _, rfl⟩, ⟨fun w8 hc9 => by have hS := hS.chg0 hc9; exact Sv_val rfl (R_move rfl rfl) ⟨Chg.refl _ _, rfl⟩, ⟨fun w8 hc9 => by have hS := hS.chg0 hc9; rintro _ rfl _ rfl; exact Sv_val rfl (R_idx rfl rfl hAq13 rfl Tryz.underlying43 size9 (by omega) (by omega)) ⟨Chg.refl _ _, rfl⟩, ⟨fun w8 hc9 => by have hS := hS.chg0 hc9; rintro _ rfl; exact Sv_val rfl (R_load1 rfl rfl agg9 (hS.sub.cell (hkq13 0 _ rfl))) ⟨Chg.refl _ _, rfl⟩, ⟨fun w8 hc9 => by have hS := hS.chg0 hc9; rintro _ rfl _ rfl; exact Sv_val rfl (R_strneq rfl rfl rfl) ⟨Chg.refl _ _, rfl⟩, trivial⟩⟩⟩⟩⟩⟩⟩⟩⟩⟩⟩⟩⟩⟩⟩ ?_
     intro w8 hc9
     have hS := hS.chg0 hc9
     rintro _ rfl _ rfl _ rfl _ rfl _ rfl _ rfl _ rfl _ rfl _ rfl _ rfl _ rfl _ rfl _ rfl _ rfl _ rfl
     refine An_fr [(0, .slice Aa0 a0.length ca0), (1, .slice Aa1 a1.length ca1), (5, .int .i64 (i : Int)), (6, .int .i64 (k : Int)), (52, .bool (!decide (((a0.getD i []).getD k ([] : St)) = ((a1.getD i []).getD k ([] : St)))))] rfl ?_
     refine An_done (by decide +kernel) <| E_then <| C_ite rfl (fun hC4 => ?_) (fun hC4 => ?_)
     ·have hC4p : ¬ ((a0.getD i []).getD k ([] : St)) = ((a1.getD i []).getD k ([] : St)) := by simpa using hC4
      refine C_seq <| C_region <| wv rfl rfl rfl (R_assign rfl rfl) ?_
      refine W_nil <| E_then (C_fr [(4, .bool false)] rfl ?_)
      refine C_ret <| E_block_ret <| E_then_ret <| E_then_ret <| E_block_ret <| E_block_ret <| E_then_ret <| E_then_ret <| E_block_ret <| E_then_ret <| E_ret1 rfl rfl ?_
      exact ⟨Lret1 (Lbool (show false = (decide (a0 = a1)) by (exact (decide_eq_false (fun h_ => by subst h_; (exact absurd rfl (by assumption)))).symm))), hS.fin [] (by decide) rfl⟩
     ·have hC4p : ((a0.getD i []).getD k ([] : St)) = ((a1.getD i []).getD k ([] : St)) := by simpa using hC4
      refine C_skip <| E_block_normal <| E_then <| C_region <| wv rfl rfl rfl (R_move rfl rfl) <| wv rfl rfl rfl (R_add64 rfl rfl rfl (by omega) (by omega)) <| wv rfl rfl rfl (R_assign rfl rfl) ?_
      refine W_nil <| E_round [0, 1, 5, 6] ?_ ⟨(k + 1 : Nat), rfl, (by omega), (by exact take_more (by omega) (by omega) hI1_1 (by assumption)), rfl, hS.fin [] (by decide) rfl⟩
      omega
    ·have hC3p : ¬ ((k : Int) < ((a0.getD i []).length : Int)) := by simpa using hC3
     refine C_exit <| E_then_exit <| E_then_exit <| E_block_hit ?_
     refine E_block_normal <| E_then <| C_region <| wv rfl rfl rfl (R_move rfl rfl) <| wv rfl rfl rfl (R_add64 rfl rfl rfl (by omega) (by omega)) <| wv rfl rfl rfl (R_assign rfl rfl) ?_
     refine W_nil <| E_round [0, 1, 5] ?_ ⟨(i + 1 : Nat), rfl, (by omega), (by exact take_more (by omega) (by omega) hI0_1 (take_all (by omega) (by omega) hI1_1)), rfl, hS.fin [] (by decide) rfl⟩
     omega
  ·have hC1p : ¬ ((i : Int) < (a0.length : Int)) := by simpa using hC1
   refine C_exit <| E_then_exit <| E_then_exit <| E_block_hit ?_
   refine E_then (C_fr [] rfl ?_)
   refine C_seq <| C_region <| wv rfl rfl rfl (R_assign rfl rfl) ?_
   refine W_nil <| E_then <| C_ret <| E_ret1 rfl rfl ?_
   exact ⟨Lret1 (Lbool (show true = (decide (a0 = a1)) by exact (decide_eq_true (take_all (by omega) (by omega) hI0_1)).symm)), hS.fin [] (by decide) rfl⟩
end Go.Proofs.YtaljccgfnmfhnaaGreatDoorG
set_option linter.all false
namespace Go.Proofs.YtaljccgfnmfhnaaGreatDoorG
open Go Go.RowKit
def printQ (t : List (List St)) : St × Int := if fineT t = false then ([], 1) else if 65536 < (tabQ t).length then ([], 3) else (tabQ t, 0)
theorem printQ_1 {t : List (List St)} (h : fineT t = false) : printQ t = ([], 1) := by unfold printQ; rw [if_pos h]
theorem printQ_3 {t : List (List St)} (h : fineT t = true) (h2 : (65536 : Int) < ((pieces [] [13, 10] recQ t).length : Nat)) : printQ t = ([], 3) := by unfold printQ; rw [if_neg (by rw [h]; simp), if_pos (by unfold tabQ; omega)]
theorem printQ_0 {t : List (List St)} (h : fineT t = true) (h2 : ((pieces [] [13, 10] recQ t).length : Int) ≤ 65536) : printQ t = (tabQ t, 0) := by unfold printQ; rw [if_neg (by rw [h]; simp), if_neg (by unfold tabQ; omega)]
def FitT (t : List (List St)) : Prop := t.length ≤ 1000000 ∧ (tabQ t).length ≤ 70368744177664 ∧ ∀ r ∈ t, FitR r
end Go.Proofs.YtaljccgfnmfhnaaGreatDoorG
set_option linter.all false
namespace Go.Proofs.YtaljccgfnmfhnaaGreatDoorG
open Go Go.RowKit
theorem qgd {α : Type} {l : List α} {n : Nat} (d : α) (h : n < l.length) : l.getD n d = l[n] := by simp [List.getD, List.getElem?_eq_getElem h]
theorem qgetD_mem {α : Type} {l : List α} {n : Nat} (d : α) (h : n < l.length) : l.getD n d ∈ l := by
  rw [qgd d h]
  exact List.getElem_mem h
theorem qtake_snoc {α : Type} (l : List α) (n : Nat) {d : α} (h : n < l.length) : l.take (n + 1) = l.take n ++ [l.getD n d] := by
  rw [qgd d h, List.take_succ_eq_append_getElem h]
def nb1 (r : List St) : Int := (r.map fun t => (t.length : Int)).sum
def nb (l : List (List St)) : Int := (l.map nb1).sum
def nf (l : List (List St)) : Int := (l.map fun r => (r.length : Int)).sum
theorem all_next {t : List (List St)} {i : Nat} (h : allT (t.take i) = true) (hi : i < t.length) (hn : ¬ ((t.getD i []).length : Int) = 0) : allT (t.take (i + 1)) = true := by
  rw [qtake_snoc t i (d := []) hi]
  unfold allT at *
  rw [List.all_append, h, Bool.true_and, List.all_cons, List.all_nil, Bool.and_true, decide_eq_true_eq]
  omega
theorem qu8 (b c : UInt8) : (((b.toNat : Nat) : Int) == ((c.toNat : Nat) : Int)) = decide (b = c) := by
  rw [Bool.eq_iff_iff, beq_iff_eq, decide_eq_true_eq]
  constructor
  · intro h; exact UInt8.toNat_inj.1 (by omega)
  · rintro rfl; rfl
theorem need_next {s : St} {n : Nat} (h : n < s.length) : (((((needS (s.take n)) || (((s.getD n 0).toNat : Int) == 34)) || (((s.getD n 0).toNat : Int) == 44)) || (((s.getD n 0).toNat : Int) == 13)) || (((s.getD n 0).toNat : Int) == 10)) = needS (s.take (n + 1)) := by
  rw [qtake_snoc s n (d := 0) h]
  have e : ∀ l : St, ∀ b, needS (l ++ [b]) = (needS l || (b = 34 || b = 44 || b = 13 || b = 10 : Bool)) := fun l b => by simp [needS]
  rw [e]
  generalize s.getD n 0 = b
  have h1 := qu8 b 34
  have h2 := qu8 b 44
  have h3 := qu8 b 13
  have h4 := qu8 b 10
  rw [show (((34 : UInt8).toNat : Nat) : Int) = 34 from rfl] at h1
  rw [show (((44 : UInt8).toNat : Nat) : Int) = 44 from rfl] at h2
  rw [show (((13 : UInt8).toNat : Nat) : Int) = 13 from rfl] at h3
  rw [show (((10 : UInt8).toNat : Nat) : Int) = 10 from rfl] at h4
  rw [h1, h2, h3, h4]
  simp [Bool.or_assoc]
theorem dup_snoc (l : St) (b : UInt8) : dupS (l ++ [b]) = dupS l ++ (if b = 34 then [34, 34] else [b]) := by simp [dupS]
theorem drop_one {s : St} {n : Nat} (h : n < s.length) : (s.drop n).take ((n + 1) - n) = [s.getD n 0] := by
  rw [qgd 0 h, show n + 1 - n = 1 by omega, List.drop_eq_getElem_cons h]
  rfl
theorem dup_34 {s : St} {n : Nat} (h : n < s.length) (hc : ((s.getD n 0).toNat : Int) = 34) : (([34] ++ dupS (s.take n)) ++ ((s.drop n).take ((n + 1) - n))) ++ [34] = [34] ++ dupS (s.take (n + 1)) := by
  rw [drop_one h, qtake_snoc s n (d := 0) h, dup_snoc, if_pos (UInt8.toNat_inj.1 (by show _ = 34; omega)), show s.getD n 0 = 34 from UInt8.toNat_inj.1 (by show _ = 34; omega)]
  simp
theorem dup_no {s : St} {n : Nat} (h : n < s.length) (hc : ¬ ((s.getD n 0).toNat : Int) = 34) : ([34] ++ dupS (s.take n)) ++ ((s.drop n).take ((n + 1) - n)) = [34] ++ dupS (s.take (n + 1)) := by
  rw [drop_one h, qtake_snoc s n (d := 0) h, dup_snoc, if_neg (fun e => hc (by rw [e]; rfl))]
  simp
theorem dup_take {s : St} (n : Nat) : (dupS (s.take n)).length ≤ 2 * s.length := by
  have h1 := dupS_len (s.take n)
  have h2 : (s.take n).length ≤ s.length := List.length_take_le' n s
  omega
theorem rec_more {r : List St} {k : Nat} (hk : k < r.length) : recQ (r.take (k + 1)) = recQ (r.take k) ++ ((if k = 0 then [] else [44]) ++ fldQ (r.getD k [])) := by
  have := pieces_take [44] [] fldQ r k (r.getD k []) (by rw [qgd [] hk]; exact List.getElem?_eq_getElem hk)
  rw [List.append_nil] at this
  exact this
theorem ub44 : ub [44] = [44] := rfl
theorem ubcr : ub [13, 10] = [13, 10] := rfl
theorem rec_next {u : St} {r : List St} {k : Nat} (hk : k < r.length) (h0 : (k : Int) > 0) : (ub (u ++ recQ (r.take k)) ++ ([44] : List Int)) ++ ub (fldQ (r.getD k ([] : St))) = ub (u ++ recQ (r.take (k + 1))) := by
  rw [rec_more hk, if_neg (by omega), ← ub44, ub_append, ub_append]
  simp
theorem rec_next0 {u : St} {r : List St} {k : Nat} (hk : k < r.length) (h0 : ¬ (k : Int) > 0) : ub (u ++ recQ (r.take k)) ++ ub (fldQ (r.getD k ([] : St))) = ub (u ++ recQ (r.take (k + 1))) := by
  rw [rec_more hk, if_pos (by omega), ub_append]
  simp
theorem tab_more {t : List (List St)} {j : Nat} (hj : j < t.length) : tabQ (t.take (j + 1)) = tabQ (t.take j) ++ (recQ (t.getD j []) ++ [13, 10]) := by
  have := pieces_take [] [13, 10] recQ t j (t.getD j []) (by rw [qgd [] hj]; exact List.getElem?_eq_getElem hj)
  rw [show (if j = 0 then ([] : St) else []) = [] by split <;> rfl, List.nil_append] at this
  exact this
theorem tab_next {t : List (List St)} {j k : Nat} (hj : j < t.length) (hk : (t.getD j []).length ≤ k) : ub (tabQ (t.take j) ++ recQ ((t.getD j []).take k)) ++ ([13, 10] : List Int) = ub (tabQ (t.take (j + 1))) := by
  rw [tab_more hj, ← ubcr, ub_append, List.take_of_length_le hk]
  simp
theorem fine_e0 {t : List (List St)} (h : (t.length : Int) = 0) : printQ t = ([], 1) := printQ_1 (by simp [fineT, fin2]; intro h2; omega)
theorem fine_e1 {t : List (List St)} {i : Nat} (hi : i < t.length) (h : ((t.getD i []).length : Int) = 0) : printQ t = ([], 1) := printQ_1 (by
  have : allT t = false := by
    rw [Bool.eq_false_iff]
    intro ha
    have := List.all_eq_true.1 ha _ (qgetD_mem [] hi)
    rw [decide_eq_true_eq] at this
    omega
  simp [fineT, fin2, this])
theorem fine_ok {t : List (List St)} {i : Nat} (h0 : ¬ (t.length : Int) = 0) (hi : t.length ≤ i) (ha : allT (t.take i) = true) : fineT t = true := by
  rw [List.take_of_length_le hi] at ha
  simp [fineT, fin2, ha]
  omega
theorem fine_e3 {t : List (List St)} {i j : Nat} (h0 : ¬ (t.length : Int) = 0) (hi : t.length ≤ i) (ha : allT (t.take i) = true) (hj : t.length ≤ j) (hb : ((ub (tabQ (t.take j))).length : Int) > 65536) : printQ t = ([], 3) := by
  rw [List.take_of_length_le hj, ub_len] at hb
  exact printQ_3 (fine_ok h0 hi ha) hb
theorem fine_e4 {t : List (List St)} {i j : Nat} (h0 : ¬ (t.length : Int) = 0) (hi : t.length ≤ i) (ha : allT (t.take i) = true) (hj : t.length ≤ j) (hb : ¬ ((ub (tabQ (t.take j))).length : Int) > 65536) : printQ t = (tabQ (t.take j), 0) := by
  rw [List.take_of_length_le hj, ub_len] at hb
  rw [List.take_of_length_le hj]
  exact printQ_0 (fine_ok h0 hi ha) (by unfold tabQ at hb; omega)
theorem rec_le (r : List St) (k : Nat) : (recQ (r.take k)).length ≤ (recQ r).length := pieces_take_le [44] [] fldQ r k
theorem tab_le (t : List (List St)) (j : Nat) : (tabQ (t.take j)).length ≤ (tabQ t).length := pieces_take_le [] [13, 10] recQ t j
theorem tab_room {t : List (List St)} {j k : Nat} (hj : j < t.length) (hk : k < (t.getD j []).length) : (ub (tabQ (t.take j) ++ recQ ((t.getD j []).take k))).length + (fldQ ((t.getD j []).getD k [])).length + 2 ≤ (tabQ t).length := by
  have h1 := tab_le t (j + 1)
  have h2 := rec_le (t.getD j []) (k + 1)
  rw [tab_more hj] at h1
  rw [rec_more hk] at h2
  rw [ub_len]
  simp only [List.length_append, List.length_cons, List.length_nil] at *
  omega
theorem tab_room2 {t : List (List St)} {j k : Nat} (hj : j < t.length) : (ub (tabQ (t.take j) ++ recQ ((t.getD j []).take k))).length + 2 ≤ (tabQ t).length := by
  have h1 := tab_le t (j + 1)
  have h2 := rec_le (t.getD j []) k
  rw [tab_more hj] at h1
  rw [ub_len]
  simp only [List.length_append, List.length_cons, List.length_nil] at *
  omega
end Go.Proofs.YtaljccgfnmfhnaaGreatDoorG
set_option linter.all false
namespace Go.Proofs.YtaljccgfnmfhnaaGreatDoorG
open Go Go.RowKit
theorem recQ_cons2 (x y : St) (r : List St) : recQ (x :: y :: r) = fldQ x ++ 44 :: recQ (y :: r) := by simp [recQ, pieces]
theorem tabQ_cons (r : List St) (t : List (List St)) : tabQ (r :: t) = recQ r ++ ([13, 10] ++ tabQ t) := by
  cases t with
  | nil => simp [tabQ, pieces]
  | cons y t => simp [tabQ, pieces]
theorem recQ_le (r : List St) : ((recQ r).length : Int) ≤ 2 * nb1 r + 3 * r.length := by
  have h : ∀ r : List St, ∀ x, ((recQ (x :: r)).length : Int) ≤ 2 * nb1 (x :: r) + 3 * (x :: r).length := by
    intro r
    induction r with
    | nil => intro x; have := fldQ_len x; simp [recQ, pieces, nb1]; omega
    | cons y r ih =>
      intro x
      have h1 := ih y
      have h2 := fldQ_len x
      rw [recQ_cons2]
      simp only [List.length_append, List.length_cons, nb1, List.map_cons, List.sum_cons] at *
      omega
  cases r with
  | nil => simp [recQ, pieces, nb1]
  | cons x r => exact h r x
theorem tabQ_le (t : List (List St)) : ((tabQ t).length : Int) ≤ 2 * nb t + 3 * nf t + 2 * t.length := by
  induction t with
  | nil => simp [tabQ, pieces, nb, nf]
  | cons r t ih =>
    have := recQ_le r
    rw [tabQ_cons]
    simp only [List.length_append, List.length_cons, List.length_nil, nb, nf, List.map_cons, List.sum_cons] at *
    omega
theorem dup_ge (s : St) : s.length ≤ (dupS s).length := by
  induction s with
  | nil => simp
  | cons b l ih => rw [dupS_cons]; simp only [List.length_append, List.length_cons]; split <;> simp <;> omega
theorem fld_ge (s : St) : s.length ≤ (fldQ s).length := by
  have := dup_ge s
  unfold fldQ
  split
  · simp; omega
  · omega
theorem rec_ge : ∀ r : List St, r.length ≤ (recQ r).length + 1 ∧ ∀ t ∈ r, t.length ≤ (recQ r).length
  | [] => ⟨by simp, by simp⟩
  | [x] => by
    have := fld_ge x
    refine ⟨by simp, fun t ht => ?_⟩
    rw [List.mem_singleton.1 ht]
    simp [recQ, pieces]
    exact this
  | x :: y :: r => by
    obtain ⟨h1, h2⟩ := rec_ge (y :: r)
    have h3 := fld_ge x
    rw [recQ_cons2]
    simp only [List.length_append, List.length_cons] at *
    refine ⟨by omega, fun t ht => ?_⟩
    rcases List.mem_cons.1 ht with rfl | ht
    · omega
    · have := h2 t ht; omega
theorem tab_ge : ∀ t : List (List St), 2 * t.length ≤ (tabQ t).length ∧ ∀ r ∈ t, (recQ r).length ≤ (tabQ t).length
  | [] => ⟨by simp, by simp⟩
  | r :: t => by
    obtain ⟨h1, h2⟩ := tab_ge t
    rw [tabQ_cons]
    simp only [List.length_append, List.length_cons, List.length_nil]
    refine ⟨by omega, fun q hq => ?_⟩
    rcases List.mem_cons.1 hq with rfl | hq
    · omega
    · have := h2 q hq; omega
theorem fit_of {t : List (List St)} (h : (tabQ t).length ≤ 900000) : FitT t := by
  obtain ⟨h1, h2⟩ := tab_ge t
  refine ⟨by omega, by omega, fun r hr => ?_⟩
  have h3 := h2 r hr
  obtain ⟨h4, h5⟩ := rec_ge r
  exact ⟨by omega, by omega, fun t ht => by have := h5 t ht; omega⟩
def wt (h : Tells) : Nat := (h.map fun x => 2 * x.1.length + 5).sum
theorem wt_run : ∀ (l : St) (m : Md) (n : Nat) (t : St), wt (run m l n t).1 ≤ 7 * l.length + 2 * t.length + 5 := by
  intro l
  induction l with
  | nil => intro m n t; cases m <;> simp [run, wt]
  | cons c r ih =>
    intro m n t
    have hr := fun m t => ih m (n + 1) t
    have h1 := hr .F []; have h2 := hr .Q []; have h3 := hr .R []; have h4 := hr .B [c]; have h5 := hr .R t; have h6 := hr .B (t ++ [c]); have h7 := hr .P t; have h8 := hr .Q (t ++ [c]); have h9 := hr .Q (t ++ [34])
    clear ih hr
    simp only [wt, List.length_append, List.length_cons, List.length_nil] at *
    cases m <;> unfold run <;> (repeat' split) <;> (try simp only [List.map_cons, List.map_nil, List.sum_cons, List.sum_nil, List.length_nil]) <;> omega
end Go.Proofs.YtaljccgfnmfhnaaGreatDoorG
set_option linter.all false
set_option maxHeartbeats 8000000
set_option maxRecDepth 100000
namespace Go.Proofs.YtaljccgfnmfhnaaGreatDoorG
open Go Go.RowKit
theorem alloc4 (w : World) : (Instr.alloc 4 true (.tuple #[])).run Tryz.prog w = .ok (.pointer (some ⟨w.heap.size, 0, none⟩)) (w.alloc (.cells [.bool false].toArray 4)) := by kernel_rfl
theorem ent70 (args : Array Value) (w : World) : (callFunc 70 args).run Tryz.prog w = .ok (.enter 70 args) w := enters Tryz.func70 (by kernel_rfl) rfl args w
theorem ent25 (args : Array Value) (w : World) : (callFunc 25 args).run Tryz.prog w = .ok (.enter 25 args) w := enters Tryz.func25 (by kernel_rfl) rfl args w
theorem ent35 (args : Array Value) (w : World) : (callFunc 35 args).run Tryz.prog w = .ok (.enter 35 args) w := enters Tryz.func35 (by kernel_rfl) rfl args w
end Go.Proofs.YtaljccgfnmfhnaaGreatDoorG
set_option linter.all false
set_option maxHeartbeats 8000000
set_option maxRecDepth 100000
namespace Go.Proofs.YtaljccgfnmfhnaaGreatDoorG
open Go Go.RowKit
theorem qprint_calls (a0 : List (List St)) (Aa0 : Option Addr) (ca0 : Nat) (z : Z) (w : World) (hI : In z w []) (hra0 : Rd (kslice kstr) z Aa0 a0) (hca0 : Cap Aa0 a0.length ca0) (p0 : FitT a0) (p1 : HM z) :
    Calls Tryz.prog 35 #[.slice Aa0 a0.length ca0] w fun e w' => e = .returned (.tuple #[vstr (printQ a0).1, .int .i64 (printQ a0).2]) ∧ Sp (FF []) w z w' [] := by
 have hla0 := hca0.le
 have hma0 := hca0.mx
 have hS := hI.sp
 obtain ⟨hf1, hf2, hf3⟩ := p0
 refine Calls_of (vs := [.slice Aa0 a0.length ca0]) (N := 20) Tryz.func35 rfl rfl (Nat.le_of_ble_eq_true rfl) ?_
 refine C_seq <| C_region <| wv rfl rfl rfl (R_assign rfl rfl) <| wv rfl rfl rfl (R_assign rfl rfl) ?_
 refine W_nil <| E_then <| C_seq <| C_region <| wv rfl rfl rfl (R_move rfl rfl) <| wv rfl rfl rfl (R_len rfl rfl Tryz.underlying22) <| wv rfl rfl rfl (R_bin rfl rfl rfl rfl rfl) ?_
 refine W_cons rfl (by decide) (S_box hS rfl (R_alloc rfl alloc4) (fun b2 w1 hS => ?_))
 refine W_cons0 rfl (S_store hS 0 rfl rfl rfl rfl rfl size4 (one1 rfl) (Nat.le_of_ble_eq_true rfl) (fun w3 hS => ?_))
 refine W_nil <| E_then (C_fr [(0, .slice Aa0 a0.length ca0), (4, .pointer (some ⟨b2, 0, none⟩))] rfl ?_)
 refine C_seq <| C_region <| wv rfl rfl rfl (R_move rfl rfl) <| wv rfl rfl rfl (R_makeFunc rfl rfl) ?_
 refine W_cons rfl (by decide) (Sv_call rfl rfl rfl ent70 ?_)
 refine (joinedR_calls a0 Aa0 ca0 [] [13, 10] b2 (decide ((a0.length : Int) > 0)) _ _ (hS.out [0] (by decide)) (hra0.mono (hS.zl [0])) hca0 (by exact hf1) (by exact hf2) (by exact hf3) (by exact HM.mono (by assumption) (hS.zl [0]))).mono ?_
 rintro e_ w4 ⟨rfl, hS_⟩
 refine ⟨_, rfl, ?_⟩
 have hS := hS.call [0] (by decide) hS_
 refine wv rfl rfl rfl (R_assign rfl rfl) ?_
 refine W_nil <| E_then <| C_seq <| C_block <| C_seq <| C_region <| wv rfl rfl rfl (R_load1 rfl rfl agg4 ((hS.bx 0 rfl).cell rfl)) <| wv rfl rfl rfl (R_un rfl rfl rfl) <| wv rfl rfl rfl (R_assign rfl rfl) ?_
 refine W_nil <| E_then (C_fr [(5, vstr (pieces [] [13, 10] recQ a0)), (12, .bool (!(fin2 (decide ((a0.length : Int) > 0)) a0)))] rfl ?_)
 refine C_ite rfl (fun hC0 => ?_) (fun hC0 => ?_)
 ·have hC0p : ¬ (fin2 (decide ((a0.length : Int) > 0)) a0 = true) := by simpa using hC0
  refine C_seq <| C_region <| wv rfl rfl rfl (R_assign rfl rfl) <| wv rfl rfl rfl (R_assign rfl rfl) ?_
  refine W_nil <| E_then <| C_ret <| E_block_ret <| E_then_ret <| E_ret2 rfl rfl rfl ?_
  exact ⟨Lret2 (Lstr (show [] = (printQ a0).1 by (exact congrArg Prod.fst (printQ_1 (by simpa [fineT] using hC0)).symm))) (Lint (show 1 = (printQ a0).2 by (exact congrArg Prod.snd (printQ_1 (by simpa [fineT] using hC0)).symm))), hS.fin [] (by decide) rfl⟩
 ·have hC0p : (fin2 (decide ((a0.length : Int) > 0)) a0 = true) := by simpa using hC0
  refine C_seq <| C_region <| wv rfl rfl rfl (R_move rfl rfl) <| wv rfl rfl rfl (R_strlen rfl rfl Tryz.underlying9) <| wv rfl rfl rfl (R_bin rfl rfl rfl rfl rfl) <| wv rfl rfl rfl (R_assign rfl rfl) ?_
  refine W_nil <| E_then <| C_ite rfl (fun hC1 => ?_) (fun hC1 => ?_)
  ·have hC1p : ((pieces [] [13, 10] recQ a0).length : Int) > 65536 := by simpa using hC1
   refine C_seq <| C_region <| wv rfl rfl rfl (R_assign rfl rfl) <| wv rfl rfl rfl (R_assign rfl rfl) ?_
   refine W_nil <| E_then (C_fr [(2, vstr []), (3, .int .i64 3)] rfl ?_)
   refine C_ret <| E_block_ret <| E_then_ret <| E_ret2 rfl rfl rfl ?_
   exact ⟨Lret2 (Lstr (show [] = (printQ a0).1 by (exact congrArg Prod.fst (printQ_3 (by simpa [fineT] using hC0) (by omega)).symm))) (Lint (show 3 = (printQ a0).2 by (exact congrArg Prod.snd (printQ_3 (by simpa [fineT] using hC0) (by omega)).symm))), hS.fin [] (by decide) rfl⟩
  ·have hC1p : ¬ (((pieces [] [13, 10] recQ a0).length : Int) > 65536) := by simpa using hC1
   refine C_skip <| E_block_normal <| E_then (C_fr [(5, vstr (pieces [] [13, 10] recQ a0))] rfl ?_)
   refine C_seq <| C_region <| wv rfl rfl rfl (R_move rfl rfl) <| wv rfl rfl rfl (R_assign rfl rfl) <| wv rfl rfl rfl (R_assign rfl rfl) ?_
   refine W_nil <| E_then <| C_ret <| E_ret2 rfl rfl rfl ?_
   exact ⟨Lret2 (Lstr (show pieces [] [13, 10] recQ a0 = (printQ a0).1 by (exact congrArg Prod.fst (printQ_0 (by simpa [fineT] using hC0) (by omega)).symm))) (Lint (show 0 = (printQ a0).2 by (exact congrArg Prod.snd (printQ_0 (by simpa [fineT] using hC0) (by omega)).symm))), hS.fin [] (by decide) rfl⟩
end Go.Proofs.YtaljccgfnmfhnaaGreatDoorG
set_option linter.all false
namespace Go.Proofs.YtaljccgfnmfhnaaGreatDoorG
open Go Go.RowKit
abbrev Rows := List (List St)
def idxF {α : Type} (p : α → Bool) : List α → Int → Int
  | [], _ => -1
  | x :: r, i => bif p x then i else idxF p r (i + 1)
def hasF {α : Type} (p : α → Bool) (l : List α) : Bool := decide (idxF p l 0 ≥ 0)
theorem dropD {α : Type} {l : List α} {n : Nat} (d : α) (h : n < l.length) : l.drop n = l.getD n d :: l.drop (n + 1) := by
  rw [List.drop_eq_getElem_cons h]
  simp [List.getD, h]
theorem idxF_next {α : Type} {p : α → Bool} {l : List α} {n : Nat} {d : α} {i : Int} (h : n < l.length) (hp : p (l.getD n d) = false) : idxF p (l.drop n) i = idxF p (l.drop (n + 1)) (i + 1) := by
  rw [dropD d h]
  simp only [idxF, hp, cond_false]
theorem idxF_hit {α : Type} {p : α → Bool} {l : List α} {n : Nat} {d : α} {i : Int} (h : n < l.length) (hp : p (l.getD n d) = true) : idxF p (l.drop n) i = i := by
  rw [dropD d h]
  simp only [idxF, hp, cond_true]
theorem idxF_end {α : Type} {p : α → Bool} {l : List α} {n : Nat} {i : Int} (h : l.length ≤ n) : idxF p (l.drop n) i = -1 := by
  rw [List.drop_of_length_le h]
  rfl
theorem idxF_any {α : Type} (p : α → Bool) : ∀ (l : List α) (i : Int), 0 ≤ i → (idxF p l i ≥ 0 ↔ l.any p = true) := by
  intro l
  induction l with
  | nil => intro i _; simp [idxF]
  | cons x r ih =>
    intro i hi
    cases hp : p x with
    | true => simp [idxF, hp, hi]
    | false => simp only [idxF, hp, cond_false, List.any_cons, Bool.false_or]; exact ih (i + 1) (by omega)
theorem idxF_bd {α : Type} (p : α → Bool) : ∀ (l : List α) (i : Int), idxF p l i = -1 ∨ i ≤ idxF p l i ∧ idxF p l i < i + l.length := by
  intro l
  induction l with
  | nil => intro i; exact .inl rfl
  | cons x r ih =>
    intro i
    have e : ((x :: r).length : Int) = r.length + 1 := by simp
    cases hp : p x with
    | true => right; simp only [idxF, hp, cond_true]; omega
    | false =>
      simp only [idxF, hp, cond_false]
      rcases ih (i + 1) with h | h
      · exact .inl h
      · right; omega
theorem hasF_any {α : Type} (p : α → Bool) (l : List α) : hasF p l = l.any p := by
  rw [Bool.eq_iff_iff, hasF, decide_eq_true_iff]
  exact idxF_any p l 0 (Int.le_refl _)
def widthS (l : Rows) : Int := l.foldl (fun n r => max n (r.length : Int)) 0
theorem widthS_next (l : Rows) (i : Nat) (h : i < l.length) : widthS (l.take (i + 1)) = max (widthS (l.take i)) ((l.getD i []).length : Int) := by
  unfold widthS
  rw [List.take_succ_eq_append_getElem h, List.foldl_append]
  simp [List.getD, h]
theorem widthS_all (l : Rows) (i : Nat) (h : l.length ≤ i) : widthS (l.take i) = widthS l := by rw [List.take_of_length_le h]
theorem foldl_max (l : Rows) : ∀ n : Int, n ≤ l.foldl (fun n r => max n (r.length : Int)) n ∧ (∀ r ∈ l, (r.length : Int) ≤ l.foldl (fun n r => max n (r.length : Int)) n) ∧ (l.foldl (fun n r => max n (r.length : Int)) n = n ∨ ∃ r ∈ l, l.foldl (fun n r => max n (r.length : Int)) n = r.length) := by
  induction l with
  | nil => intro n; simp
  | cons x l ih =>
    intro n
    obtain ⟨h1, h2, h3⟩ := ih (max n x.length)
    simp only [List.foldl_cons]
    refine ⟨by omega, fun r hr => ?_, ?_⟩
    · rcases List.mem_cons.1 hr with rfl | hr
      · omega
      · exact h2 r hr
    · rcases h3 with h3 | ⟨r, hr, h3⟩
      · rw [h3]
        by_cases hx : (x.length : Int) ≤ n
        · left; omega
        · right; exact ⟨x, List.mem_cons_self, by omega⟩
      · right; exact ⟨r, List.mem_cons_of_mem _ hr, h3⟩
theorem widthS_nonneg (l : Rows) : 0 ≤ widthS l := (foldl_max l 0).1
theorem widthS_ge (l : Rows) : ∀ r ∈ l, (r.length : Int) ≤ widthS l := (foldl_max l 0).2.1
theorem widthS_at (l : Rows) : widthS l = 0 ∨ ∃ r ∈ l, widthS l = r.length := (foldl_max l 0).2.2
theorem widthS_le (l : Rows) {n : Int} (h0 : 0 ≤ n) (h : ∀ r ∈ l, (r.length : Int) ≤ n) : widthS l ≤ n := by
  rcases widthS_at l with h1 | ⟨r, hr, h1⟩
  · omega
  · rw [h1]; exact h r hr
theorem getD_mem {α : Type} {l : List α} {n : Nat} (d : α) (h : n < l.length) : l.getD n d ∈ l := by simp [List.getD, h]
def checkS (l : Rows) : Int :=
  if widthS l = 0 then 1 else if hasF (fun r => (r.length : Int) != widthS l) l = true then 1
  else if hasF (fun t => decide ((t.length : Int) > 1024)) l.flatten = true then 3 else if (l.length : Int) > 24 then 3 else if widthS l > 16 then 3 else 0
def totS (l : Rows) : Int := (l.flatten.length : Int)
theorem flat_next (l : Rows) (i : Nat) (h : i < l.length) : (l.take (i + 1)).flatten = (l.take i).flatten ++ l.getD i [] := by
  rw [List.take_succ_eq_append_getElem h, List.flatten_append]
  congr 1
  simp [List.getD, h]
theorem totS_next (l : Rows) (i : Nat) (h : i < l.length) : totS (l.take (i + 1)) = totS (l.take i) + ((l.getD i []).length : Int) := by
  unfold totS
  rw [flat_next l i h, List.length_append]
  omega
theorem totS_bd (l : Rows) (h : widthS l ≤ 10000) (i : Nat) : 0 ≤ totS (l.take i) ∧ totS (l.take i) ≤ 10000 * (i : Int) := by
  induction i with
  | zero => simp [totS]
  | succ i ih =>
    rcases Nat.lt_or_ge i l.length with hi | hi
    · rw [totS_next l i hi]
      have := widthS_ge l _ (getD_mem (n := i) [] hi)
      omega
    · rw [List.take_of_length_le (by omega)] at *
      omega
theorem width_all {l : Rows} {n : Int} (h0 : 0 < l.length) (h : ∀ r ∈ l, (r.length : Int) = n) : widthS l = n := by
  have h1 := h _ (getD_mem (n := 0) [] h0)
  have h2 := widthS_ge l _ (getD_mem (n := 0) [] h0)
  have h3 := widthS_le l (n := n) (by omega) fun r hr => Int.le_of_eq (h r hr)
  omega
def laidS (rows cols : Int) (fld : Int → Int → St) : Rows := (List.range rows.toNat).map fun (r : Nat) => (List.range cols.toNat).map fun (c : Nat) => fld (r : Int) (c : Int)
theorem laidS_next {cols : Int} {fld : Int → Int → St} {i : Nat} : (List.range (i + 1)).map (fun (r : Nat) => (List.range cols.toNat).map fun (c : Nat) => fld (r : Int) (c : Int)) = (List.range i).map (fun (r : Nat) => (List.range cols.toNat).map fun (c : Nat) => fld (r : Int) (c : Int)) ++ [(List.range cols.toNat).map fun (c : Nat) => fld (i : Int) (c : Int)] := by
  rw [List.range_succ, List.map_append]
  rfl
theorem row_next {α : Type} (g : Nat → α) (i : Nat) : (List.range (i + 1)).map g = (List.range i).map g ++ [g i] := by rw [List.range_succ, List.map_append]; rfl
structure ISh (P : Program) (K : Nat) (zc : Z) (v : Value) (rows cols : Int) (fld : Int → Int → St) : Prop where
  size : ∃ d g r, d ≤ K ∧ Meth P d v "parquetry/table.size" g r ∧ ∀ {w z}, zle zc z → In z w [] → Calls P g [r].toArray w fun e w' => e = .returned (.tuple #[.int .i64 rows, .int .i64 cols]) ∧ Sp (FF []) w z w' []
  field : ∃ d g r, d ≤ K ∧ Meth P d v "parquetry/table.field" g r ∧ ∀ {w z} (a b : Int), zle zc z → In z w [] → 0 ≤ a → 0 ≤ b → Calls P g [r, .int .i64 a, .int .i64 b].toArray w fun e w' => e = .returned (vstr (fld a b)) ∧ Sp (FF []) w z w' []
section
variable {P : Program} {N : Sz} {ops : Array Oper} {Q : Exit → Act → World → Prop} {o : Oper} {f : Fr} {w w0 : World} {k : Value → World → Prop} {X : Nat → Prop} {z zc : Z} {rs : List Res} {v : Value} {rows cols : Int} {fld : Int → Int → St} {K : Nat}
theorem S_ivsize (H : ISh P K zc v rows cols fld) (hS : Sp X w0 z w rs) (hz : zle zc z) (hK : K ≤ 10) (hP : 20 < P.types.size + Made.depth) {x : Operand} {ts : Array TypeId} (hg : o.guard = none)
    (ho : o.op = .call { callee := .invoke x "parquetry/table.size", args := #[], argTypes := ts }) (hxv : ev f x = some v)
    (hk : ∀ w', Sp X w0 z w' rs → k (.tuple #[.int .i64 rows, .int .i64 cols]) w') : Sv P N ops Q o f w k := by
  obtain ⟨d, g, r, h1, h2, h3⟩ := H.size
  refine S_meth (l := []) (vs := []) h2 (by omega) hg ho hxv rfl ((h3 (hz.trans (hS.zl [])) hS.out0).mono ?_)
  rintro e w' ⟨rfl, h4⟩
  exact ⟨_, rfl, hk w' (hS.call0 h4)⟩
theorem S_ivfield (H : ISh P K zc v rows cols fld) (hS : Sp X w0 z w rs) (hz : zle zc z) (hK : K ≤ 10) (hP : 20 < P.types.size + Made.depth) {x y1 y2 : Operand} {ts : Array TypeId} {a b : Int} (hg : o.guard = none)
    (ho : o.op = .call { callee := .invoke x "parquetry/table.field", args := #[y1, y2], argTypes := ts }) (hxv : ev f x = some v) (h1 : ev f y1 = some (.int .i64 a)) (h2 : ev f y2 = some (.int .i64 b)) (ha : 0 ≤ a) (hb : 0 ≤ b)
    (hk : ∀ w', Sp X w0 z w' rs → k (vstr (fld a b)) w') : Sv P N ops Q o f w k := by
  obtain ⟨d, g, r, h3, h4, h5⟩ := H.field
  refine S_meth (l := [y1, y2]) (vs := [.int .i64 a, .int .i64 b]) h4 (by omega) hg ho hxv (by simp [evs, h1, h2]) ((h5 a b (hz.trans (hS.zl [])) hS.out0 ha hb).mono ?_)
  rintro e w' ⟨rfl, h6⟩
  exact ⟨_, rfl, hk w' (hS.call0 h6)⟩
end
def fldS (l : Rows) (a b : Int) : St := (l.getD a.toNat []).getD b.toNat []
theorem fldS_a {l : Rows} {a b : Int} (h : a ≥ (l.length : Int)) : ([] : St) = fldS l a b := by
  unfold fldS
  have : l.getD a.toNat [] = [] := by simp only [List.getD]; rw [List.getElem?_eq_none (by omega)]; rfl
  rw [this]
  rfl
theorem fldS_b {l : Rows} {a b : Int} (h : b ≥ ((l.getD a.toNat []).length : Int)) : ([] : St) = fldS l a b := by
  unfold fldS
  simp only [List.getD] at h ⊢
  rw [List.getElem?_eq_none (l := l[a.toNat]?.getD []) (by omega)]
  rfl
def fillS (l : Rows) : Rows := laidS (max (l.length : Int) 1) (max (widthS l) 1) (fldS l)
theorem laidS_len (rows cols : Int) (fld : Int → Int → St) : (laidS rows cols fld).length = rows.toNat := by simp [laidS]
theorem laidS_row {rows cols : Int} {fld : Int → Int → St} {r : List St} (h : r ∈ laidS rows cols fld) : r.length = cols.toNat := by
  unfold laidS at h
  rw [List.mem_map] at h
  obtain ⟨i, _, rfl⟩ := h
  simp
theorem fill_len (l : Rows) : ((fillS l).length : Int) = max (l.length : Int) 1 := by
  unfold fillS
  rw [laidS_len]
  omega
end Go.Proofs.YtaljccgfnmfhnaaGreatDoorG
set_option linter.all false
namespace Go.Proofs.YtaljccgfnmfhnaaGreatDoorG
open Go
section
variable {m n : Int} {f g : Int → Int → St}
theorem width_laid (hm : 1 ≤ m) (hn : 0 ≤ n) : widthS (laidS m n f) = n := by
  refine width_all (by rw [laidS_len]; omega) fun r hr => ?_
  rw [laidS_row hr]
  omega
end
theorem fill_w (l : Rows) : widthS (fillS l) = max (widthS l) 1 ∧ ((fillS l).length : Int) = max (l.length : Int) 1 := ⟨width_laid (by omega) (by omega), fill_len l⟩
structure Seen (P : Int → Int → Prop) (s : Int × Int) : Prop where
  r1 : 1 ≤ s.1
  c1 : 1 ≤ s.2
  r : s.1 = 1 ∨ ∃ a b : Int, P a b ∧ s.1 = a + 1
  c : s.2 = 1 ∨ ∃ a b : Int, P a b ∧ s.2 = b + 1
  all : ∀ a b : Int, P a b → a < s.1 ∧ b < s.2
theorem Seen.add {P : Int → Int → Prop} {s : Int × Int} (h : Seen P s) (i k : Int) (hi : 0 ≤ i) (hk : 0 ≤ k) : Seen (fun a b => P a b ∨ (a = i ∧ b = k)) (max s.1 (i + 1), max s.2 (k + 1)) := by
  obtain ⟨h1, h2, h3, h4, h5⟩ := h
  refine ⟨by simp only; omega, by simp only; omega, ?_, ?_, ?_⟩
  · by_cases hc : s.1 ≤ i + 1
    · right; exact ⟨i, k, .inr ⟨rfl, rfl⟩, by simp only; omega⟩
    · rcases h3 with h3 | ⟨a, b, h3, h6⟩
      · left; simp only; omega
      · right; exact ⟨a, b, .inl h3, by simp only; omega⟩
  · by_cases hc : s.2 ≤ k + 1
    · right; exact ⟨i, k, .inr ⟨rfl, rfl⟩, by simp only; omega⟩
    · rcases h4 with h4 | ⟨a, b, h4, h6⟩
      · left; simp only; omega
      · right; exact ⟨a, b, .inl h4, by simp only; omega⟩
  · rintro a b (h6 | ⟨rfl, rfl⟩)
    · have := h5 a b h6
      simp only
      omega
    · simp only
      omega
theorem Seen.of {P Q : Int → Int → Prop} {s : Int × Int} (h : Seen P s) (hPQ : ∀ a b, P a b ↔ Q a b) : Seen Q s := by
  have : P = Q := funext fun a => funext fun b => propext (hPQ a b)
  rwa [← this]
end Go.Proofs.YtaljccgfnmfhnaaGreatDoorG
set_option linter.all false
set_option maxHeartbeats 8000000
set_option maxRecDepth 100000
namespace Go.Proofs.YtaljccgfnmfhnaaGreatDoorG
open Go Go.RowKit
theorem ent89 (args : Array Value) (w : World) : (callFunc 89 args).run Tryz.prog w = .ok (.enter 89 args) w := enters Tryz.func89 (by kernel_rfl) rfl args w
theorem ent90 (args : Array Value) (w : World) : (callFunc 90 args).run Tryz.prog w = .ok (.enter 90 args) w := enters Tryz.func90 (by kernel_rfl) rfl args w
theorem agg3 (w : World) : (isAgg 3).run Tryz.prog w = .ok false w := by kernel_rfl
theorem ent57 (args : Array Value) (w : World) : (callFunc 57 args).run Tryz.prog w = .ok (.enter 57 args) w := enters Tryz.func57 (by kernel_rfl) rfl args w
theorem ent60 (args : Array Value) (w : World) : (callFunc 60 args).run Tryz.prog w = .ok (.enter 60 args) w := enters Tryz.func60 (by kernel_rfl) rfl args w
theorem bigP : 20 < Tryz.prog.types.size + Made.depth := by decide +kernel
theorem fld88_0 (a : Addr) (w : World) : (Instr.fieldAt 88 (.pointer (some a)) 0).run Tryz.prog w = .ok (.pointer (some (a.add 0))) w := by kernel_rfl
theorem ent55 (args : Array Value) (w : World) : (callFunc 55 args).run Tryz.prog w = .ok (.enter 55 args) w := enters Tryz.func55 (by kernel_rfl) rfl args w
theorem ent164 (args : Array Value) (w : World) : (callFunc 164 args).run Tryz.prog w = .ok (.enter 164 args) w := enters Tryz.func164 (by kernel_rfl) rfl args w
theorem ent163 (args : Array Value) (w : World) : (callFunc 163 args).run Tryz.prog w = .ok (.enter 163 args) w := enters Tryz.func163 (by kernel_rfl) rfl args w
theorem conc88 : Tryz.prog.concrete 88 = true := by kernel_rfl
theorem ent52 (args : Array Value) (w : World) : (callFunc 52 args).run Tryz.prog w = .ok (.enter 52 args) w := enters Tryz.func52 (by kernel_rfl) rfl args w
theorem ent91 (args : Array Value) (w : World) : (callFunc 91 args).run Tryz.prog w = .ok (.enter 91 args) w := enters Tryz.func91 (by kernel_rfl) rfl args w
theorem alloc3 (w : World) : (Instr.alloc 3 true (.tuple #[])).run Tryz.prog w = .ok (.pointer (some ⟨w.heap.size, 0, none⟩)) (w.alloc (.cells [.int .i64 0].toArray 3)) := by kernel_rfl
theorem size3 (w : World) : (sizeOf 3).run Tryz.prog w = .ok 1 w := by kernel_rfl
theorem ent56 (args : Array Value) (w : World) : (callFunc 56 args).run Tryz.prog w = .ok (.enter 56 args) w := enters Tryz.func56 (by kernel_rfl) rfl args w
theorem ent59 (args : Array Value) (w : World) : (callFunc 59 args).run Tryz.prog w = .ok (.enter 59 args) w := enters Tryz.func59 (by kernel_rfl) rfl args w
theorem ent58 (args : Array Value) (w : World) : (callFunc 58 args).run Tryz.prog w = .ok (.enter 58 args) w := enters Tryz.func58 (by kernel_rfl) rfl args w
end Go.Proofs.YtaljccgfnmfhnaaGreatDoorG
