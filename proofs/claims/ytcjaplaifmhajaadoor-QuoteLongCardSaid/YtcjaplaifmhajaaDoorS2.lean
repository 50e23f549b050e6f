/- Operations on pieces of memory. -/
import Derived.Test.YtcjaplaifmhajaaDoorS1
set_option linter.all false
namespace Go.Proofs.YtcjaplaifmhajaaDoorG
open Go Go.RowKit
theorem rest_mem {q : Res} {l : List Nat} : ∀ {rs : List Res} {n : Nat}, q ∈ rest rs n l → ∃ k, nth rs k = some q ∧ l.contains (n + k) = false
  | [], _, h => by cases h
  | r :: rs, n, h => by
    unfold rest at h
    cases hb : l.contains n with
    | true =>
      rw [hb] at h
      obtain ⟨k, h1, h2⟩ := rest_mem (rs := rs) h
      exact ⟨k + 1, h1, by rw [show n + (k + 1) = n + 1 + k from by omega]; exact h2⟩
    | false =>
      rw [hb] at h
      rcases List.mem_cons.1 h with rfl | h
      · exact ⟨0, rfl, by simpa using hb⟩
      · obtain ⟨k, h1, h2⟩ := rest_mem (rs := rs) h
        exact ⟨k + 1, h1, by rw [show n + (k + 1) = n + 1 + k from by omega]; exact h2⟩
theorem rest_sub {q : Res} {l : List Nat} {rs : List Res} {n : Nat} (h : q ∈ rest rs n l) : q ∈ rs := by
  obtain ⟨k, hk, _⟩ := rest_mem h
  exact nth_mem hk
theorem sep_rest {l : List Nat} : ∀ {rs : List Res} {n : Nat}, rs.Pairwise Ap → (rest rs n l).Pairwise Ap
  | [], _, h => h
  | r :: rs, n, h => by
    obtain ⟨h1, h2⟩ := List.pairwise_cons.1 h
    unfold rest
    cases l.contains n with
    | true => exact sep_rest h2
    | false => exact List.pairwise_cons.2 ⟨fun q hq => h1 q (rest_sub hq), sep_rest h2⟩
theorem ap_rest {rs : List Res} {i : Nat} {l : List Nat} {r q : Res} (hs : rs.Pairwise Ap) (hi : nth rs i = some r) (hil : l.contains i = true) (hq : q ∈ rest rs 0 l) : Ap r q := by
  obtain ⟨k, h1, h2⟩ := rest_mem hq
  exact nth_ap hs hi h1 (fun e => by subst e; rw [Nat.zero_add] at h2; rw [h2] at hil; cases hil)
section
variable {X : Nat → Prop} {w0 w w' : World} {z : Z} {rs out : List Res} {r r1 r2 r' : Res} {i j : Nat}
/-- What a call leaves. -/
theorem Sp.call (h : Sp X w0 z w rs) (l : List Nat) (hl : l.Nodup) (hc : Sp (FF (pick rs l)) w (zB w (FF (pick rs l))) w' out) : Sp X w0 z w' (out ++ rest rs 0 l) := by
  have hX : ∀ k, FF (pick rs l) k → X k ∨ w0.heap.size ≤ k := fun k ⟨q, hq, hk⟩ => by
    obtain ⟨i, _, hi⟩ := pick_mem hq
    exact h.new q (nth_mem hi) k hk
  have hap : ∀ q ∈ rest rs 0 l, ∀ k, q.F k → ¬ FF (pick rs l) k := fun q hq k hk ⟨p, hp, hpk⟩ => by
    obtain ⟨i, hil, hi⟩ := pick_mem hp
    exact ap_rest h.sep hi (List.contains_iff_mem.2 hil) hq k hpk hk
  refine ⟨h.z0, h.dz, h.chg.trans hc.chg hX, fun q hq => ?_, fun q hq k hk => ?_, ?_⟩
  · rcases List.mem_append.1 hq with hq | hq
    · exact hc.all q hq
    · exact q.st (h.all q (rest_sub hq)) fun k hlt hk => hc.chg.block k hlt (hap q hq k hk)
  · rcases List.mem_append.1 hq with hq | hq
    · rcases hc.new q hq k hk with h1 | h1
      · exact hX k h1
      · exact .inr (Nat.le_trans h.chg.size h1)
    · exact h.new q (rest_sub hq) k hk
  · refine List.pairwise_append.2 ⟨hc.sep, sep_rest h.sep, fun p hp q hq k hpk hqk => ?_⟩
    rcases hc.new p hp k hpk with h1 | h1
    · exact hap q hq k hqk h1
    · have := q.lt (h.all q (rest_sub hq)) hqk
      omega
theorem rest_nil : ∀ {rs : List Res} {n : Nat}, rest rs n [] = rs
  | [], _ => rfl
  | r :: rs, n => by unfold rest; simp [rest_nil]
theorem Sp.call0 (h : Sp X w0 z w rs) (hc : Sp (FF []) w (zB w (FF [])) w' out) : Sp X w0 z w' (out ++ rs) := by
  have := h.call [] List.nodup_nil hc
  rwa [rest_nil] at this
/-- Two pieces become one. -/
theorem Sp.join (h : Sp X w0 z w rs) (i j : Nat) (hi : nth rs i = some r1) (hj : nth rs j = some r2) (hP : r'.P w) (hF : ∀ k, r'.F k → r1.F k ∨ r2.F k) : Sp X w0 z w (r' :: rest rs 0 [i, j]) := by
  refine ⟨h.z0, h.dz, h.chg, fun q hq => ?_, fun q hq k hk => ?_, List.pairwise_cons.2 ⟨fun q hq k hk hqk => ?_, sep_rest h.sep⟩⟩
  · rcases List.mem_cons.1 hq with rfl | hq
    · exact hP
    · exact h.all q (rest_sub hq)
  · rcases List.mem_cons.1 hq with rfl | hq
    · rcases hF k hk with h1 | h1
      · exact h.new r1 (nth_mem hi) k h1
      · exact h.new r2 (nth_mem hj) k h1
    · exact h.new q (rest_sub hq) k hk
  · rcases hF k hk with h1 | h1
    · exact ap_rest h.sep hi (by simp) hq k h1 hqk
    · exact ap_rest h.sep hj (by simp) hq k h1 hqk
theorem zE_none (k : Nat) : ¬ (zR zE).F k := fun h => h rfl
/-- A family of rows that are only read: none yet. -/
theorem Sp.fam (h : Sp X w0 z w rs) : Sp X w0 z w (zR zE :: rs) := h.cons ⟨Sub.E _, fun b hb => absurd rfl hb⟩ zE_none
theorem Own.wr {α : Type} {d : Kd α} {e : TypeId} {B : Nat} {q : Z} {w : World} {A : Option Addr} {c : Nat} {xs : List α} (h : Own d e B q w A c xs) (b : Nat) (hb : b ∈ blk A) : ∃ c e, w.heap[b]? = some (.cells c e (0, 0)) := by
  obtain ⟨inner, ⟨h1, h2⟩, h3⟩ := h
  rcases h2 with ⟨he, hn⟩ | ⟨g, cap, cur, he, hg, hh, r⟩
  · injection he with h4; subst h4; simp [blk] at hb
  · injection he with h4; subst h4
    have : b = g := by simpa [blk] using hb
    rw [this]
    exact ⟨_, _, hh⟩
/-- A row that will not be written any more joins such a family. -/
theorem Sp.fz {α : Type} {d : Kd α} {e : TypeId} {q q' : Z} {A : Option Addr} {c : Nat} {xs : List α} (h : Sp X w0 z w rs) (i j : Nat) (hi : nth rs i = some (oR d e q A c xs)) (hj : nth rs j = some (zR q')) (hij : i ≠ j) (hq : zle q q') :
    ∃ q'', zle q' q'' ∧ Rd d q'' A xs ∧ Sp X w0 z w (zR q'' :: rest rs 0 [i, j]) := by
  have hO : Own d e 0 q w A c xs := h.at_ i hi
  have hZ : Sub q' w := (h.at_ j hj : (zR q').P w).1
  have hW : Wr q' w := (h.at_ j hj : (zR q').P w).2
  have hn : ∀ k ∈ blk A, q' k = none := fun k hk => by
    have := nth_ap h.sep hi hj hij k hk
    simpa [zR] using this
  obtain ⟨h1, h2, h3⟩ := (hO.mono hq).lend hZ hn
  refine ⟨_, h2, h3, h.join i j hi hj ⟨h1, fun b hb => ?_⟩ fun k hk => ?_⟩
  · by_cases hbq : q' b = none
    · have h4 : zAt w A b ≠ none := by simpa [zor, hbq] using hb
      have h5 : b ∈ blk A := by
        unfold zAt at h4
        split at h4
        · assumption
        · exact absurd rfl h4
      exact hO.wr b h5
    · exact hW b hbq
  by_cases hb : k ∈ blk A
  · exact .inl hb
  · right
    have : zor q' (zAt w A) k = q' k := by simp [zor, zAt, hb]
    intro hh
    exact hk (this.trans hh)
theorem Sp.lift {α : Type} {d : Kd α} {e : TypeId} {q q' : Z} {A : Option Addr} {c : Nat} {xs : List α} (h : Sp X w0 z w rs) (i : Nat) (hi : nth rs i = some (oR d e q A c xs)) (hq : zle q q') : Sp X w0 z w (upd rs i (oR d e q' A c xs)) :=
  h.as i hi (fun h => Own.mono h hq) (fun _ h => h)
/-- The end: what is handed back. -/
theorem Sp.fin (h : Sp X w0 z w rs) (l : List Nat) (hl : l.Nodup) (hp : pick rs l = out) : Sp X w0 z w out := hp ▸ h.sel l hl
theorem Sp.eqs (h : Sp X w0 z w rs) (hp : rs = out) : Sp X w0 z w out := hp ▸ h
end
/-! ### reading elements of a row of the call's own -/
section
variable {α : Type} {d : Kd α} {e : TypeId} {B : Nat} {q : Z} {w : World} {A : Option Addr} {c : Nat} {xs : List α}
theorem Own.el (h : Own d e B q w A c xs) (df : α) {i : Int} (h0 : 0 ≤ i) (h1 : i < xs.length) :
    ∃ a cs, A = some a ∧ d.K q (xs.getD i.toNat df) cs ∧ ∀ j u, cs[j]? = some u → w.cell? (a.add (i.toNat * d.sz + j)) = some u := by
  have hi : i.toNat < xs.length := by omega
  have hx : xs[i.toNat]? = some (xs.getD i.toNat df) := by simp [List.getD, List.getElem?_eq_getElem hi]
  obtain ⟨inner, ⟨h2, h3⟩, h4⟩ := h
  obtain ⟨cs, h5, h6⟩ := h4.get hx
  rcases h3 with ⟨he, hn⟩ | ⟨g, cap, cur, he, hg, hh, hcap, hmax, hsz, htk⟩
  · omega
  · injection he with h7
    subst h7
    refine ⟨_, cs, rfl, h5, fun j u hu => ?_⟩
    have h9 := h6 j u hu
    rw [← htk, List.getElem?_take] at h9
    split at h9
    · rw [add_at]
      exact cell_of rfl (c := cur) (by simp [cellsAt, hh]) (by simpa using h9)
    · cases h9
theorem Own.ix (h : Own d e B q w A c xs) (df : α) {i : Int} (h0 : 0 ≤ i) (h1 : i < xs.length) : ∃ a, A = some a ∧ xs[i.toNat]? = some (xs.getD i.toNat df) := by
  obtain ⟨a, _, h2, _⟩ := h.el df h0 h1
  have hi : i.toNat < xs.length := by omega
  exact ⟨a, h2, by simp [List.getD, List.getElem?_eq_getElem hi]⟩
theorem Own.cellAt {a : Addr} {i : Nat} {x : α} {es : List Value} (h : Own d e B q w A c xs) (hA : A = some a) (hx : xs[i]? = some x) (hk : ∀ cs, d.K q x cs → cs = es) (j : Nat) (u : Value) (hu : es[j]? = some u) : w.cell? (a.add (i * d.sz + j)) = some u := by
  have hi : i < xs.length := (List.getElem?_eq_some_iff.1 hx).1
  obtain ⟨a', cs, h2, h3, h4⟩ := h.el x (i := (i : Int)) (by omega) (by omega)
  rw [hA] at h2
  obtain rfl := Option.some.inj h2
  have h5 : xs.getD i x = x := by simp [List.getD, hx]
  simp only [Int.toNat_natCast] at h3 h4
  rw [h5] at h3
  rw [hk cs h3] at h4
  exact h4 j u hu
end
/-! ### operations -/
/-- Where values come from that are appended. -/
def Src {α : Type} (w : World) (d : Kd α) (q : Z) (A : Option Addr) (c : Nat) (ys : List α) : Prop :=
  (A = none → c = 0) ∧ ∃ news, Reps d q ys news ∧ ∀ j u, news[j]? = some u → ∃ ad, A = some ad ∧ w.cell? (ad.add j) = some u
section
variable {α : Type} {d : Kd α} {e : TypeId} {q q' : Z} {A : Option Addr} {c : Nat} {ys : List α} {X : Nat → Prop} {w0 w : World} {z : Z} {rs : List Res}
theorem Sp.srd (h : Sub z w) (hr : Rd d z A ys) (hc : Cap A ys.length c) (hk : ∀ x cs, d.K z x cs → d.K q x cs) : Src w d q A c ys := by
  obtain ⟨news, h1, h2⟩ := hr.cells h
  exact ⟨hc.nil, news, Reps.to hk h1, h2⟩
theorem Sp.sow (h : Sp X w0 z w rs) (i : Nat) (hi : nth rs i = some (oR d e q' A c ys)) (hk : ∀ x cs, d.K q' x cs → d.K q x cs) : Src w d q A c ys := by
  have hO : Own d e 0 q' w A c ys := h.at_ i hi
  obtain ⟨news, h1, h2⟩ := hO.cells
  exact ⟨hO.cap.nil, news, Reps.to hk h1, h2⟩
end
section
variable {P : Program} {N : Nat} {ops : Array Oper} {Q : Exit → Act → World → Prop} {o : Oper} {f : Fr} {w w0 : World} {k : Value → World → Prop} {X : Nat → Prop} {z : Z} {rs : List Res}
theorem S_box {T : TypeId} {cs : List Value} (hS : Sp X w0 z w rs) (hg : o.guard = none) (hr : Runs P o f w (.pointer (some ⟨w.heap.size, 0, none⟩)) (w.alloc (.cells cs.toArray T)))
    (h : ∀ b w', Sp X w0 z w' (bR b T cs :: rs) → k (.pointer (some ⟨b, 0, none⟩)) w') : Sv P N ops Q o f w k :=
  Sv_box hg hr fun b w' hc hn hB => h b w' (hS.push hc hB fun j hj => by
    have : j = b := hj
    rw [this]; exact hn)
theorem S_row {α : Type} {d : Kd α} {e : TypeId} {q : Z} {cs : List Value} {n : Nat} (hS : Sp X w0 z w rs) (xs : List α) (hg : o.guard = none) (hr : Runs P o f w (.slice (some ⟨w.heap.size, 0, none⟩) n n) (w.alloc (.cells cs.toArray e)))
    (hp : Reps d q xs cs) (hn : xs.length = n) (hm : n ≤ maxLen) (h : ∀ g w', Sp X w0 z w' (oR d e q (some ⟨g, 0, none⟩) n xs :: rs) → k (.slice (some ⟨g, 0, none⟩) xs.length n) w') : Sv P N ops Q o f w k :=
  Sv_row xs hg hr hp hn hm fun g w' hc hg' hO => h g w' (hS.push hc (r' := oR d e q (some ⟨g, 0, none⟩) n xs) (hO.lower (Nat.zero_le _)) fun j hj => by
    have : j = g := by simpa [oR, blk] using hj
    rw [this]; exact hg')
theorem S_store {T T' : TypeId} {x y : Operand} {b j : Nat} {v : Value} {cs : List Value} (hS : Sp X w0 z w rs) (i : Nat) (hi : nth rs i = some (bR b T' cs)) (hg : o.guard = none) (ho : o.op = .store T x y) (hx : ev f x = some (.pointer (some ⟨b, j, none⟩))) (hy : ev f y = some v)
    (hs : ∀ w, (sizeOf T).run P w = .ok v.cells.size w) (h1 : ∀ u ∈ v.cells.toList, u.oneCell' = true) (hl : j + v.cells.size ≤ cs.length)
    (h : ∀ w', Sp X w0 z w' (upd rs i (bR b T' (setFrom cs j v.cells.toList))) → k undef w') : Sv P N ops Q o f w k :=
  Sv_store hg ho hx hy hs h1 (hS.at_ i hi) hl fun w' hc hB => h w' (hS.set i hi (hc.chp.mono fun k hk => .inl (show k = b by simpa using hk)) hB fun k hk => .inl hk)
theorem S_append {α : Type} {d : Kd α} {t e : TypeId} {bytes : Nat} {q : Z} {s x : Operand} {A A2 : Option Addr} {c c2 : Nat} {xs ys : List α} (hS : Sp X w0 z w rs) (i : Nat) (hi : nth rs i = some (oR d e q A c xs)) (hg : o.guard = none)
    (ho : o.op = .call { callee := .builtin .append, args := #[s, x], argTypes := #[t, t] }) (I : ElemInfo P t e d.sz bytes) (hs : ev f s = some (.slice A xs.length c))
    (hx : ev f x = some (.slice A2 ys.length c2)) (hy : Src w d q A2 c2 ys) (hb : (xs.length + ys.length) * bytes ≤ 140737488355328) (hl : xs.length + ys.length ≤ maxLen)
    (h : ∀ A' c' w', Sp X w0 z w' (upd rs i (oR d e q A' c' (xs ++ ys))) → k (.slice A' (xs ++ ys).length c') w') : Sv P N ops Q o f w k := by
  obtain ⟨h1, news, h2, h3⟩ := hy
  refine Sv_append hg ho I hs (hS.at_ i hi) hx h1 h2 h3 hb hl (Nat.zero_le _) fun A' c' w' hO hc hk => h A' c' w' ?_
  exact hS.set i hi hc.chp hO hk
theorem S_append_nil {α : Type} {d : Kd α} {t e : TypeId} {bytes : Nat} (q : Z) {s x : Operand} {A2 : Option Addr} {c2 : Nat} {ys : List α} (hS : Sp X w0 z w rs) (hg : o.guard = none)
    (ho : o.op = .call { callee := .builtin .append, args := #[s, x], argTypes := #[t, t] }) (I : ElemInfo P t e d.sz bytes) (hs : ev f s = some (.slice none 0 0))
    (hx : ev f x = some (.slice A2 ys.length c2)) (hy : Src w d q A2 c2 ys) (hb : ys.length * bytes ≤ 140737488355328) (hl : ys.length ≤ maxLen)
    (h : ∀ A' c' w', Sp X w0 z w' (oR d e q A' c' ys :: rs) → k (.slice A' ys.length c') w') : Sv P N ops Q o f w k := by
  have hS1 : Sp X w0 z w (oR d e q none 0 ([] : List α) :: rs) := hS.cons (Own.nil d e 0 q w) (fun k hk => by simp [oR, blk] at hk)
  exact S_append (xs := []) hS1 0 rfl hg ho I hs hx hy (by simpa using hb) (by simpa using hl) h
theorem S_appendZ {α : Type} {d : Kd α} {t e : TypeId} {bytes : Nat} {q : Z} {s x : Operand} {A A2 : Option Addr} {c c2 : Nat} {xs ys : List α} {L : List Nat} (hS : Sp X w0 z w rs) (i : Nat) (hi : nth rs i = some (oZ d e q A c xs L)) (hg : o.guard = none)
    (ho : o.op = .call { callee := .builtin .append, args := #[s, x], argTypes := #[t, t] }) (I : ElemInfo P t e d.sz bytes) (hs : ev f s = some (.slice A xs.length c))
    (hx : ev f x = some (.slice A2 ys.length c2)) (hy : Src w d q A2 c2 ys) (hn : 0 < ys.length) (hb : (xs.length + ys.length) * bytes ≤ 140737488355328) (hl : xs.length + ys.length ≤ maxLen)
    (h : ∀ A' c' w', Sp X w0 z w' (upd rs i (oR d e q A' c' (xs ++ ys))) → k (.slice A' (xs ++ ys).length c') w') : Sv P N ops Q o f w k := by
  obtain ⟨h1, news, h2, h3⟩ := hy
  refine Sv_appendZ hg ho I hs (hS.at_ i hi) hx h1 h2 h3 hn hb hl (Nat.zero_le _) fun A' c' w' hO hc hk => h A' c' w' ?_
  exact hS.set i hi hc.chp hO hk
theorem S_append0 {α : Type} {d : Kd α} {t e : TypeId} {bytes : Nat} (q : Z) {s x : Operand} {A A2 : Option Addr} {c2 : Nat} {ys : List α} (hS : Sp X w0 z w rs) (hg : o.guard = none)
    (ho : o.op = .call { callee := .builtin .append, args := #[s, x], argTypes := #[t, t] }) (I : ElemInfo P t e d.sz bytes) (hs : ev f s = some (.slice A 0 0))
    (hx : ev f x = some (.slice A2 ys.length c2)) (hy : Src w d q A2 c2 ys) (hn : 0 < ys.length) (hb : ys.length * bytes ≤ 140737488355328) (hl : ys.length ≤ maxLen)
    (h : ∀ A' c' w', Sp X w0 z w' (oR d e q A' c' ys :: rs) → k (.slice A' ys.length c') w') : Sv P N ops Q o f w k := by
  obtain ⟨h1, news, h2, h3⟩ := hy
  exact Sv_append0 (B := 0) hg ho I hs hx h1 h2 h3 hn hb hl (Nat.zero_le _) fun A' c' w' hO hc hk => h A' c' w' (hS.push hc hO hk)
/-- Bytes to text. -/
theorem S_bytestr {S T e e' : TypeId} {x : Operand} {A : Option Addr} {c : Nat} {t : St} {q : Z} (hS : Sp X w0 z w rs) (i : Nat) (hi : nth rs i = some (oR (kint .u8) e' q A c (ub t))) (ho : o.op = .convert S T x) (hx : ev f x = some (.slice A (ub t).length c)) (hS' : P.underlying S = some (.slice e)) (he : P.underlying e = some (.int .u8)) (hT : P.underlying T = some .string) : Runs P o f w (vstr t) w := by
  have hO : Own (kint .u8) e' 0 q w A c (ub t) := hS.at_ i hi
  obtain ⟨inner, h1, h2⟩ := hO
  have hO' : Own (kint .u8) e' 0 zE w A c (ub t) := ⟨inner, h1, Reps.to (z := q) (z' := zE) (fun _ _ h => h) h2⟩
  exact R_bytestrZ ho hx hS' he hT (.inl ⟨rfl, hO'⟩)
theorem S_bytestrZ {S T e e' : TypeId} {x : Operand} {A : Option Addr} {c : Nat} {t : St} {L : List Nat} (hS : Sp X w0 z w rs) (i : Nat) (hi : nth rs i = some (oZ (kint .u8) e' zE A c (ub t) L)) (ho : o.op = .convert S T x) (hx : ev f x = some (.slice A (ub t).length c)) (hS' : P.underlying S = some (.slice e)) (he : P.underlying e = some (.int .u8)) (hT : P.underlying T = some .string) : Runs P o f w (vstr t) w :=
  R_bytestrZ ho hx hS' he hT (hS.at_ i hi)
theorem Cap.of {α : Type} {d : Kd α} {e : TypeId} {q : Z} {A : Option Addr} {c : Nat} {xs : List α} (hS : Sp X w0 z w rs) (i : Nat) (hi : nth rs i = some (oR d e q A c xs)) : Cap A xs.length c := (hS.at_ i hi : Own d e 0 q w A c xs).cap
end
/-! ### a function that is handed in -/
/-- R: its state's piece of memory; step: the state behind a call; ret: what it yields. zc: what it reads beside. -/
structure FV (P : Program) (zc : Z) (g : FuncId) (caps : List Value) {α σ γ : Type} (Arg : Z → α → List Value → Prop) (R : σ → γ → Res) (ok : σ → α → Prop) (step : σ → α → σ) (ret : σ → α → Value) : Prop where
  hf : ∀ args w, (callFunc g args).run P w = .ok (.enter g args) w
  call : ∀ {s y x vs w z}, zle zc z → In z w [R s y] → ok s x → Arg z x vs → Calls P g (vs ++ caps).toArray w fun e w' => e = .returned (ret s x) ∧ ∃ y', Sp (FF [R s y]) w z w' [R (step s x) y']
section
variable {P : Program} {N : Nat} {ops : Array Oper} {Q : Exit → Act → World → Prop} {o : Oper} {f : Fr} {w w0 : World} {k : Value → World → Prop} {X : Nat → Prop} {z zc : Z} {rs : List Res} {g : FuncId} {caps : List Value} {α σ γ : Type} {Arg : Z → α → List Value → Prop} {R : σ → γ → Res} {ok : σ → α → Prop} {step : σ → α → σ} {ret : σ → α → Value}
theorem S_cb (H : FV P zc g caps Arg R ok step ret) (hS : Sp X w0 z w rs) (i : Nat) {s : σ} {y : γ} (hi : nth rs i = some (R s y)) (hz : zle zc z) (x : α) (hok : ok s x) {fx : Operand} {l : List Operand} {ts : Array TypeId} {vs : List Value} (hg : o.guard = none)
    (ho : o.op = .call { callee := .value fx, args := l.toArray, argTypes := ts }) (hxv : ev f fx = some (.func (.func g) #[] caps.toArray)) (hx : evs f l = some vs) (hA : Arg (zB w (FF [R s y])) x vs)
    (hk : ∀ y' w', Sp X w0 z w' (upd rs i (R (step s x) y')) → k (ret s x) w') : Sv P N ops Q o f w k := by
  have hp : pick rs [i] = [R s y] := by simp [pick, hi]
  have h1 := hS.out [i] (by simp)
  have h2 := hS.zl [i]
  rw [hp] at h1 h2
  refine Sv_of_wp hg (wp_callv ho hxv hx H.hf ((H.call (hz.trans h2) h1 hok hA).mono ?_))
  rintro e w' ⟨rfl, y', h3⟩
  refine ⟨_, rfl, hk y' w' (hS.set i hi (h3.chg.mono fun j hj => .inl ?_) (h3.at_ 0 rfl) fun j hj => ?_)⟩
  · obtain ⟨q, hq, hqj⟩ := hj
    rw [List.mem_singleton.1 hq] at hqj
    exact hqj
  · rcases h3.new (R (step s x) y') List.mem_cons_self j hj with h4 | h4
    · obtain ⟨q, hq, hqj⟩ := h4
      rw [List.mem_singleton.1 hq] at hqj
      exact .inl hqj
    · exact .inr h4
end
end Go.Proofs.YtcjaplaifmhajaaDoorG
