/- Pieces of memory, kept apart from each other: what a call has at a point of its walk. -/
import Derived.Test.YtcjaplaifmhajaaDoorG7
set_option linter.all false
namespace Go.Proofs.YtcjaplaifmhajaaDoorG
open Go Go.RowKit
/-- How the world turns: but for some blocks, and new ones, it stays. -/
structure Chp (X : Nat → Prop) (w w' : World) : Prop where
  os : w'.os = w.os
  tape : w'.tape = w.tape
  output : w'.output = w.output
  size : w.heap.size ≤ w'.heap.size
  block : ∀ k, k < w.heap.size → ¬ X k → w'.heap[k]? = w.heap[k]?
section
variable {X Y : Nat → Prop} {w w' a b c : World}
theorem Chp.refl (X : Nat → Prop) (w : World) : Chp X w w := ⟨rfl, rfl, rfl, Nat.le_refl _, fun _ _ _ => rfl⟩
theorem Chp.trans (h : Chp X a b) (k : Chp Y b c) (hY : ∀ i, Y i → X i ∨ a.heap.size ≤ i) : Chp X a c :=
  ⟨k.os.trans h.os, k.tape.trans h.tape, k.output.trans h.output, Nat.le_trans h.size k.size, fun i hi hn =>
    (k.block i (Nat.lt_of_lt_of_le hi h.size) (fun hy => (hY i hy).elim hn (fun h' => by omega))).trans (h.block i hi hn)⟩
theorem Chp.mono (h : Chp X a b) (hY : ∀ i, X i → Y i ∨ a.heap.size ≤ i) : Chp Y a b :=
  ⟨h.os, h.tape, h.output, h.size, fun i hi hn => h.block i hi (fun hx => (hY i hx).elim hn (fun h' => by omega))⟩
theorem Chg.chp {L : List Nat} (h : Chg L w w') : Chp (· ∈ L) w w' := ⟨h.os, h.tape, h.output, h.size, h.block⟩
theorem Chg.chp0 (h : Chg [] w w') : Chp X w w' := ⟨h.os, h.tape, h.output, h.size, fun k hk _ => h.block k hk (by simp)⟩
theorem Chp.below (h : Chp X w w') (hX : ∀ k, ¬ X k) : Below w.heap.size w w' := ⟨h.os, h.tape, h.output, h.size, fun k hk => h.block k hk (hX k)⟩
end
/-- A piece of memory: its blocks, and what they hold. -/
structure Res where
  F : Nat → Prop
  P : World → Prop
  st : ∀ {w w'}, P w → (∀ k, k < w.heap.size → F k → w'.heap[k]? = w.heap[k]?) → P w'
  lt : ∀ {w k}, P w → F k → k < w.heap.size
/-- Cells that can be written. -/
def Wr (q : Z) (w : World) : Prop := ∀ b, q b ≠ none → ∃ c e, w.heap[b]? = some (.cells c e (0, 0))
/-- A part of the heap that is only read. -/
def zR (q : Z) : Res where
  F := fun k => q k ≠ none
  P := fun w => Sub q w ∧ Wr q w
  st := fun {w w'} h hc => ⟨fun b c hb => by
    rw [cellsAt_congr (hc b (h.1.lt (by rw [hb]; simp)) (by rw [hb]; simp))]
    exact h.1 b c hb, fun b hb => by
    rw [hc b (h.1.lt hb) hb]
    exact h.2 b hb⟩
  lt := fun h hk => h.1.lt hk
theorem Own.cong {α : Type} {d : Kd α} {e : TypeId} {B : Nat} {z : Z} {w w' : World} {A : Option Addr} {c : Nat} {xs : List α} (h : Own d e B z w A c xs) (hc : ∀ k ∈ blk A, w'.heap[k]? = w.heap[k]?) : Own d e B z w' A c xs := by
  obtain ⟨inner, ⟨h1, h2⟩, h3⟩ := h
  refine ⟨inner, ⟨h1, ?_⟩, h3⟩
  rcases h2 with h2 | ⟨g, cap, cur, he, hg, hh, r⟩
  · exact .inl h2
  · refine .inr ⟨g, cap, cur, he, hg, ?_, r⟩
    injection he with h4
    subst h4
    rw [hc g (by simp [blk])]
    exact hh
/-- A row. -/
def oR {α : Type} (d : Kd α) (e : TypeId) (q : Z) (A : Option Addr) (c : Nat) (xs : List α) : Res where
  F := fun k => k ∈ blk A
  P := fun w => Own d e 0 q w A c xs
  st := fun {w w'} h hc => h.cong fun k hk => hc k (h.lt k hk) hk
  lt := fun {w k} h hk => h.lt k hk
/-- A row, or an empty one that is cut of all its room. -/
def oZ {α : Type} (d : Kd α) (e : TypeId) (q : Z) (A : Option Addr) (c : Nat) (xs : List α) (L : List Nat) : Res where
  F := fun k => k ∈ L
  P := fun w => OwnZ d e 0 q w A c xs L
  st := fun {w w'} h hc => by
    have hlt := h.lt
    rcases h with ⟨rfl, h⟩ | h
    · exact .inl ⟨rfl, h.cong fun k hk => hc k (hlt k hk) hk⟩
    · exact .inr h
  lt := fun {w k} h hk => h.lt k hk
/-- A variable. -/
def bR (b : Nat) (T : TypeId) (cs : List Value) : Res where
  F := fun k => k = b
  P := fun w => Box w b T cs
  st := fun {w w'} h hc => by
    show w'.heap[b]? = _
    rw [hc b h.lt rfl]
    exact h
  lt := fun {w k} h hk => by rw [hk]; exact h.lt
def nth : List Res → Nat → Option Res
  | [], _ => none
  | r :: _, 0 => some r
  | _ :: l, i + 1 => nth l i
def upd : List Res → Nat → Res → List Res
  | [], _, _ => []
  | _ :: l, 0, r => r :: l
  | q :: l, i + 1, r => q :: upd l i r
def del : List Res → Nat → List Res
  | [], _ => []
  | _ :: l, 0 => l
  | q :: l, i + 1 => q :: del l i
def pick (rs : List Res) : List Nat → List Res
  | [] => []
  | i :: l => match nth rs i with
    | some r => r :: pick rs l
    | none => pick rs l
/-- What is not among some places. -/
def rest : List Res → Nat → List Nat → List Res
  | [], _, _ => []
  | r :: rs, i, l => bif l.contains i then rest rs (i + 1) l else r :: rest rs (i + 1) l
def FF (rs : List Res) (k : Nat) : Prop := ∃ r ∈ rs, r.F k
def Ap (r q : Res) : Prop := ∀ k, r.F k → ¬ q.F k
theorem Ap.symm {r q : Res} (h : Ap r q) : Ap q r := fun k hk hr => h k hr hk
/-- What a call is handed of memory, beside what is only read. -/
structure In (z : Z) (w : World) (rs : List Res) : Prop where
  sub : Sub z w
  all : ∀ r ∈ rs, r.P w
  sep : rs.Pairwise Ap
  dz : ∀ k, FF rs k → z k = none
structure Sp (X : Nat → Prop) (w0 : World) (z : Z) (w : World) (rs : List Res) : Prop where
  z0 : Sub z w0
  dz : ∀ k, X k → z k = none
  chg : Chp X w0 w
  all : ∀ r ∈ rs, r.P w
  new : ∀ r ∈ rs, ∀ k, r.F k → X k ∨ w0.heap.size ≤ k
  sep : rs.Pairwise Ap
theorem In.sp {z : Z} {w : World} {rs : List Res} (h : In z w rs) : Sp (FF rs) w z w rs :=
  ⟨h.sub, h.dz, Chp.refl _ _, h.all, fun r hr k hk => .inl ⟨r, hr, hk⟩, h.sep⟩
theorem In.nil {z : Z} {w : World} (h : Sub z w) : In z w [] := ⟨h, (fun _ h => by cases h), List.Pairwise.nil, fun k ⟨_, h, _⟩ => by cases h⟩
theorem Sp.start {z : Z} {w : World} (h : Sub z w) : Sp (FF []) w z w [] := (In.nil h).sp
theorem FF_nil (k : Nat) : ¬ FF [] k := fun ⟨_, h, _⟩ => by cases h
theorem nth_mem {r : Res} : ∀ {rs : List Res} {i : Nat}, nth rs i = some r → r ∈ rs
  | [], _, h => by cases h
  | q :: l, 0, h => by obtain rfl := Option.some.inj h; exact List.mem_cons_self
  | q :: l, i + 1, h => List.mem_cons_of_mem _ (nth_mem (i := i) h)
theorem del_sub {r : Res} : ∀ {rs : List Res} {i : Nat}, r ∈ del rs i → r ∈ rs
  | [], _, h => h
  | q :: l, 0, h => List.mem_cons_of_mem _ h
  | q :: l, i + 1, h => by
    rcases List.mem_cons.1 h with rfl | h
    · exact List.mem_cons_self
    · exact List.mem_cons_of_mem _ (del_sub h)
theorem upd_mem {q r : Res} : ∀ {rs : List Res} {i : Nat}, q ∈ upd rs i r → q = r ∨ q ∈ del rs i
  | [], _, h => by cases h
  | p :: l, 0, h => by
    rcases List.mem_cons.1 h with rfl | h
    · exact .inl rfl
    · exact .inr h
  | p :: l, i + 1, h => by
    rcases List.mem_cons.1 h with rfl | h
    · exact .inr List.mem_cons_self
    · exact (upd_mem h).imp id (List.mem_cons_of_mem _)
theorem sep_del : ∀ {rs : List Res} {i : Nat}, rs.Pairwise Ap → (del rs i).Pairwise Ap
  | [], _, h => h
  | q :: l, 0, h => (List.pairwise_cons.1 h).2
  | q :: l, i + 1, h => by
    obtain ⟨h1, h2⟩ := List.pairwise_cons.1 h
    exact List.pairwise_cons.2 ⟨fun r hr => h1 r (del_sub hr), sep_del h2⟩
theorem sep_nth {r q : Res} : ∀ {rs : List Res} {i : Nat}, rs.Pairwise Ap → nth rs i = some r → q ∈ del rs i → Ap r q
  | [], _, _, h, _ => by cases h
  | p :: l, 0, hs, h, hq => by
    obtain rfl := Option.some.inj h
    exact (List.pairwise_cons.1 hs).1 q hq
  | p :: l, i + 1, hs, h, hq => by
    obtain ⟨h1, h2⟩ := List.pairwise_cons.1 hs
    rcases List.mem_cons.1 hq with rfl | hq
    · exact (h1 r (nth_mem (i := i) h)).symm
    · exact sep_nth h2 (show nth l i = some r from h) hq
theorem sep_upd {r' : Res} : ∀ {rs : List Res} {i : Nat}, rs.Pairwise Ap → (∀ q ∈ del rs i, Ap r' q) → (upd rs i r').Pairwise Ap
  | [], _, h, _ => h
  | q :: l, 0, h, hr => List.pairwise_cons.2 ⟨hr, (List.pairwise_cons.1 h).2⟩
  | q :: l, i + 1, h, hr => by
    obtain ⟨h1, h2⟩ := List.pairwise_cons.1 h
    refine List.pairwise_cons.2 ⟨fun r hm => ?_, sep_upd h2 (fun q' hq' => hr q' (List.mem_cons_of_mem _ hq'))⟩
    rcases upd_mem hm with rfl | hm
    · exact (hr q List.mem_cons_self).symm
    · exact h1 r (del_sub hm)
theorem nth_ap {r q : Res} : ∀ {rs : List Res} {i j : Nat}, rs.Pairwise Ap → nth rs i = some r → nth rs j = some q → i ≠ j → Ap r q
  | [], _, _, _, h, _, _ => by cases h
  | p :: l, 0, 0, _, _, _, h => absurd rfl h
  | p :: l, 0, j + 1, hs, h, hq, _ => by
    obtain rfl := Option.some.inj h
    exact (List.pairwise_cons.1 hs).1 q (nth_mem (i := j) hq)
  | p :: l, i + 1, 0, hs, h, hq, _ => by
    obtain rfl := Option.some.inj hq
    exact ((List.pairwise_cons.1 hs).1 r (nth_mem (i := i) h)).symm
  | p :: l, i + 1, j + 1, hs, h, hq, hn => nth_ap (List.pairwise_cons.1 hs).2 (show nth l i = some r from h) (show nth l j = some q from hq) (by omega)
section
variable {X : Nat → Prop} {w0 w w' : World} {z : Z} {rs : List Res} {r r' : Res} {i j : Nat}
theorem Sp.at_ (h : Sp X w0 z w rs) (i : Nat) (hi : nth rs i = some r) : r.P w := h.all r (nth_mem hi)
theorem Sp.sub (h : Sp X w0 z w rs) : Sub z w := fun b c hb => by
  have hlt := h.z0.lt (b := b) (by rw [hb]; simp)
  rw [cellsAt_congr (h.chg.block b hlt (fun hx => by rw [h.dz b hx] at hb; cases hb))]
  exact h.z0 b c hb
theorem Sp.zn (h : Sp X w0 z w rs) (hr : r ∈ rs) {k : Nat} (hk : r.F k) : z k = none := by
  rcases h.new r hr k hk with hx | hx
  · exact h.dz k hx
  · cases hz : z k with
    | none => rfl
    | some c =>
      have := h.z0.lt (b := k) (by rw [hz]; simp)
      omega
/-- One piece turns into another one. -/
theorem Sp.set (h : Sp X w0 z w rs) (i : Nat) (hi : nth rs i = some r) (hc : Chp r.F w w') (hP : r'.P w') (hF : ∀ k, r'.F k → r.F k ∨ w.heap.size ≤ k) : Sp X w0 z w' (upd rs i r') := by
  have hm := nth_mem hi
  have hold : ∀ q ∈ del rs i, q.P w' := fun q hq => q.st (h.all q (del_sub hq)) fun k hlt hk => hc.block k hlt (fun hr => sep_nth h.sep hi hq k hr hk)
  refine ⟨h.z0, h.dz, h.chg.trans hc (h.new r hm), fun q hq => ?_, fun q hq k hk => ?_, sep_upd h.sep fun q hq k hk hqk => ?_⟩
  · rcases upd_mem hq with rfl | hq
    · exact hP
    · exact hold q hq
  · rcases upd_mem hq with rfl | hq
    · rcases hF k hk with h1 | h1
      · exact h.new r hm k h1
      · exact .inr (Nat.le_trans h.chg.size h1)
    · exact h.new q (del_sub hq) k hk
  · rcases hF k hk with h1 | h1
    · exact sep_nth h.sep hi hq k h1 hqk
    · have := q.lt (h.all q (del_sub hq)) hqk
      omega
/-- A new piece. -/
theorem Sp.push (h : Sp X w0 z w rs) (hc : Chg [] w w') (hP : r'.P w') (hF : ∀ k, r'.F k → w.heap.size ≤ k) : Sp X w0 z w' (r' :: rs) := by
  have hc' : Chp (fun _ => False) w w' := hc.chp0
  refine ⟨h.z0, h.dz, h.chg.trans hc' (fun i hi => hi.elim), fun q hq => ?_, fun q hq k hk => ?_, List.pairwise_cons.2 ⟨fun q hq k hk hqk => ?_, h.sep⟩⟩
  · rcases List.mem_cons.1 hq with rfl | hq
    · exact hP
    · exact q.st (h.all q hq) fun k hlt _ => hc'.block k hlt id
  · rcases List.mem_cons.1 hq with rfl | hq
    · exact .inr (Nat.le_trans h.chg.size (hF k hk))
    · exact h.new q hq k hk
  · have := hF k hk
    have := q.lt (h.all q hq) hqk
    omega
/-- Only new blocks: all stays. -/
theorem Sp.chg0 (h : Sp X w0 z w rs) (hc : Chg [] w w') : Sp X w0 z w' rs := by
  have hc' : Chp (fun _ => False) w w' := hc.chp0
  exact ⟨h.z0, h.dz, h.chg.trans hc' (fun i hi => hi.elim), fun q hq => q.st (h.all q hq) fun k hlt _ => hc'.block k hlt id, h.new, h.sep⟩
/-- The same piece, told otherwise. -/
theorem Sp.as (h : Sp X w0 z w rs) (i : Nat) (hi : nth rs i = some r) (hP : r.P w → r'.P w) (hF : ∀ k, r'.F k → r.F k) : Sp X w0 z w (upd rs i r') :=
  h.set i hi (Chp.refl _ _) (hP (h.at_ i hi)) fun k hk => .inl (hF k hk)
theorem Sp.cons (h : Sp X w0 z w rs) (hP : r'.P w) (hF : ∀ k, ¬ r'.F k) : Sp X w0 z w (r' :: rs) :=
  h.push (Chg.refl _ _) hP (fun k hk => absurd hk (hF k))
theorem pick_mem {l : List Nat} {q : Res} (h : q ∈ pick rs l) : ∃ i ∈ l, nth rs i = some q := by
  induction l with
  | nil => cases h
  | cons i l ih =>
    unfold pick at h
    split at h
    · rename_i r hr
      rcases List.mem_cons.1 h with rfl | h
      · exact ⟨i, List.mem_cons_self, hr⟩
      · obtain ⟨j, hj, hq⟩ := ih h
        exact ⟨j, List.mem_cons_of_mem _ hj, hq⟩
    · obtain ⟨j, hj, hq⟩ := ih h
      exact ⟨j, List.mem_cons_of_mem _ hj, hq⟩
theorem sep_pick (hs : rs.Pairwise Ap) : ∀ {l : List Nat}, l.Nodup → (pick rs l).Pairwise Ap
  | [], _ => List.Pairwise.nil
  | i :: l, hl => by
    obtain ⟨h1, h2⟩ := List.nodup_cons.1 hl
    unfold pick
    split
    · rename_i r hr
      refine List.pairwise_cons.2 ⟨fun q hq => ?_, sep_pick hs h2⟩
      obtain ⟨j, hj, hqj⟩ := pick_mem hq
      exact nth_ap hs hr hqj (fun e => h1 (e ▸ hj))
    · exact sep_pick hs h2
/-- Some of the pieces, in any order. -/
theorem Sp.sel (h : Sp X w0 z w rs) (l : List Nat) (hl : l.Nodup) : Sp X w0 z w (pick rs l) :=
  ⟨h.z0, h.dz, h.chg, fun q hq => by obtain ⟨i, _, hi⟩ := pick_mem hq; exact h.all q (nth_mem hi), fun q hq => by obtain ⟨i, _, hi⟩ := pick_mem hq; exact h.new q (nth_mem hi), sep_pick h.sep hl⟩
/-- The rest of the heap, while a call has some pieces. -/
noncomputable def zB (w : World) (F : Nat → Prop) : Z := fun b => open Classical in if F b then none else cellsAt w b
theorem zB_sub (w : World) (F : Nat → Prop) : Sub (zB w F) w := fun b c h => by
  unfold zB at h
  split at h
  · cases h
  · exact h
theorem zB_none {w : World} {F : Nat → Prop} {k : Nat} (h : F k) : zB w F k = none := by simp [zB, h]
theorem zB_of {w : World} {F : Nat → Prop} {k : Nat} (h : ¬ F k) : zB w F k = cellsAt w k := by simp [zB, h]
theorem Sp.out (h : Sp X w0 z w rs) (l : List Nat) (hl : l.Nodup) : In (zB w (FF (pick rs l))) w (pick rs l) :=
  ⟨zB_sub _ _, (h.sel l hl).all, (h.sel l hl).sep, fun k hk => zB_none hk⟩
theorem Sp.out0 (h : Sp X w0 z w rs) : In (zB w (FF [])) w [] := In.nil (zB_sub _ _)
theorem Sp.zl (h : Sp X w0 z w rs) (l : List Nat) : zle z (zB w (FF (pick rs l))) := fun b c hb => by
  rw [zB_of (fun ⟨q, hq, hk⟩ => by obtain ⟨i, _, hi⟩ := pick_mem hq; rw [h.zn (nth_mem hi) hk] at hb; cases hb)]
  exact h.sub b c hb
theorem Sp.zq {q : Z} (h : Sp X w0 z w rs) (l : List Nat) (i : Nat) (hi : nth rs i = some (zR q)) (hl : l.contains i = false) : zle q (zB w (FF (pick rs l))) := fun b c hb => by
  rw [zB_of (fun ⟨p, hp, hk⟩ => by
    obtain ⟨j, hj, hpj⟩ := pick_mem hp
    have hne : i ≠ j := fun e => by subst e; simp at hl; exact hl hj
    exact nth_ap h.sep hi hpj hne b (show q b ≠ none by rw [hb]; simp) hk)]
  exact (h.at_ i hi : (zR q).P w).1 b c hb
theorem Own.rd {α : Type} {d : Kd α} {e : TypeId} {B : Nat} {q z : Z} {w : World} {A : Option Addr} {c : Nat} {xs : List α} (h : Own d e B q w A c xs) (hq : zle q z) (hb : ∀ k ∈ blk A, z k = cellsAt w k) : Rd d z A xs := fun i x hx => by
  obtain ⟨inner, ⟨h1, h2⟩, h3⟩ := h
  obtain ⟨cs, h4, h5⟩ := h3.get hx
  have hlt : i < xs.length := (List.getElem?_eq_some_iff.1 hx).1
  rcases h2 with ⟨he, hn⟩ | ⟨g, cap, cur, he, hg, hh, hcap, hmax, hsz, htk⟩
  · omega
  · injection he with h6 h7 h8
    subst h6
    refine ⟨_, cs, rfl, d.mono hq h4, fun j u hu => ?_⟩
    have h9 := h5 j u hu
    have hz' : z g = some cur := by rw [hb g (by simp [blk])]; simp [cellsAt, hh]
    have hget : cur[i * d.sz + j]? = some u := by
      rw [← htk, List.getElem?_take] at h9
      split at h9
      · simpa using h9
      · cases h9
    rw [add_at]
    unfold cz
    simp [hz', hget]
theorem Sp.ow {α : Type} {d : Kd α} {e : TypeId} {q : Z} {A : Option Addr} {c : Nat} {xs : List α} (h : Sp X w0 z w rs) (l : List Nat) (i : Nat) (hi : nth rs i = some (oR d e q A c xs)) (hl : l.contains i = false) (hq : zle q (zB w (FF (pick rs l)))) : Rd d (zB w (FF (pick rs l))) A xs :=
  (h.at_ i hi : Own d e 0 q w A c xs).rd hq fun k hk => zB_of fun ⟨p, hp, hpk⟩ => by
    obtain ⟨j, hj, hpj⟩ := pick_mem hp
    have hne : i ≠ j := fun e => by subst e; simp at hl; exact hl hj
    exact nth_ap h.sep hi hpj hne k hk hpk
end
end Go.Proofs.YtcjaplaifmhajaaDoorG
