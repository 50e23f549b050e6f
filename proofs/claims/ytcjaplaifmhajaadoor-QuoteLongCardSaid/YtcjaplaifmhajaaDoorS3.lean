/- Ends of calls, and rows that are told otherwise. -/
import Derived.Test.YtcjaplaifmhajaaDoorS2
set_option linter.all false
namespace Go.Proofs.YtcjaplaifmhajaaDoorG
open Go Go.RowKit
section
variable {P : Program} {N : Nat} {fn : Func} {R : Ending → World → Prop} {f : Fr} {w : World}
/-- What a call's result is. -/
def rvS (tmps : Array Value) (r : ResultVar) : Sem Value := match r with
  | .tmp t => pure (tmps.getD t undef)
  | .cell ad t => do loadVar t (← asAddr (tmps.getD ad undef))
theorem results_eq (fn : Func) (tmps : Array Value) : results fn tmps = (do
    let vs ← fn.results.mapM (rvS tmps)
    pure (if h : vs.size = 1 then vs[0] else .tuple vs)) := by
  unfold results
  congr 1
def RV (P : Program) (N : Nat) (f : Fr) (w : World) (r : ResultVar) (v : Value) : Prop := ∀ a, Holds N f a → (rvS a.tmps r).run P w = .ok v w
theorem RV_tmp {t : Nat} {v : Value} (h : look f t = some v) : RV P N f w (.tmp t) v := fun a ha => by
  have := ha.at_ t v h
  simp [rvS, this]
theorem RV_cell {t : Nat} {T : TypeId} {ad : Addr} {v : Value} (h : look f t = some (.pointer (some ad))) (hag : ∀ w, (isAgg T).run P w = .ok false w) (hc : w.cell? ad = some v) : RV P N f w (.cell t T) v := fun a ha => by
  have := ha.at_ t _ h
  simp [rvS, this, asAddr, loadVar, hag, hc]
theorem RV_cellN {t : Nat} {T : TypeId} {ad : Addr} {n : Nat} {cs : List Value} (h : look f t = some (.pointer (some ad))) (hag : ∀ w, (isAgg T).run P w = .ok true w) (hs : ∀ w, (sizeOf T).run P w = .ok n w) (hn : cs.length = n) (hc : ∀ j u, cs[j]? = some u → w.cell? (ad.add j) = some u) : RV P N f w (.cell t T) (.agg cs.toArray) := fun a ha => by
  subst hn
  have h1 := ha.at_ t _ h
  have h2 := run_loadCells (P := P) (w := w) (a := ad) cs 0 #[] (fun j u hu => by rw [Nat.zero_add]; exact hc j u hu)
  simp [rvS, h1, asAddr, loadVar, hag, hs, loadCells, h2]
theorem E_rv1 {r : ResultVar} {v : Value} (hr : fn.results = #[r]) (h1 : RV P N f w r v) (h : R (.returned v) w) : E N (bodyPost P fn R) .ret f w := fun a ha => by
  refine ⟨ha.defers, v, ?_, h⟩
  have h1' := h1 a ha
  rw [results_eq]
  simp [hr, h1']
theorem E_rv2 {r1 r2 : ResultVar} {v1 v2 : Value} (hr : fn.results = #[r1, r2]) (h1 : RV P N f w r1 v1) (h2 : RV P N f w r2 v2) (h : R (.returned (.tuple #[v1, v2])) w) : E N (bodyPost P fn R) .ret f w := fun a ha => by
  refine ⟨ha.defers, _, ?_, h⟩
  have h1' := h1 a ha
  have h2' := h2 a ha
  rw [results_eq]
  simp [hr, h1', h2']
theorem E_rv3 {r1 r2 r3 : ResultVar} {v1 v2 v3 : Value} (hr : fn.results = #[r1, r2, r3]) (h1 : RV P N f w r1 v1) (h2 : RV P N f w r2 v2) (h3 : RV P N f w r3 v3) (h : R (.returned (.tuple #[v1, v2, v3])) w) : E N (bodyPost P fn R) .ret f w := fun a ha => by
  refine ⟨ha.defers, _, ?_, h⟩
  have h1' := h1 a ha
  have h2' := h2 a ha
  have h3' := h3 a ha
  rw [results_eq]
  simp [hr, h1', h2', h3']
theorem E_ret3 {t u s : Nat} {v x y : Value} (hr : fn.results = #[.tmp t, .tmp u, .tmp s]) (hv : look f t = some v) (hx : look f u = some x) (hy : look f s = some y) (h : R (.returned (.tuple #[v, x, y])) w) : E N (bodyPost P fn R) .ret f w :=
  E_rv3 hr (RV_tmp hv) (RV_tmp hx) (RV_tmp hy) h
end
theorem R_makeFunc {P : Program} {o : Oper} {f : Fr} {w : World} {g : Nat} {l : List Operand} {vs : List Value} (ho : o.op = .makeFunc (.func g) #[] l.toArray) (hx : evs f l = some vs) : Runs P o f w (.func (.func g) #[] vs.toArray) w := fun e he => by
  have h1 : l.map e = vs := he.evs_ hx
  simp [execOp, ho, h1, Instr.makeFunc]
theorem Lret0 : Ending.returned (.tuple #[]) = .returned (.tuple #[]) := rfl
theorem Lret3 {v u x y s t : Value} (h : v = u) (k : x = y) (l : s = t) : Ending.returned (.tuple #[v, x, s]) = .returned (.tuple #[u, y, t]) := by rw [h, k, l]
section
variable {X : Nat → Prop} {w0 w : World} {z : Z} {rs : List Res}
theorem Sp.re {α : Type} {d : Kd α} {e : TypeId} {q : Z} {A : Option Addr} {c : Nat} {xs ys : List α} (h : Sp X w0 z w rs) (i : Nat) (hi : nth rs i = some (oR d e q A c xs)) (hx : xs = ys) : Sp X w0 z w (upd rs i (oR d e q A c ys)) :=
  h.as i hi (fun h => hx ▸ h) (fun _ h => h)
theorem Sp.nilrow {α : Type} (h : Sp X w0 z w rs) (d : Kd α) (e : TypeId) (q : Z) : Sp X w0 z w (oR d e q none 0 ([] : List α) :: rs) := h.cons (Own.nil d e 0 q w) (fun k hk => by simp [oR, blk] at hk)
theorem Sp.famx (h : Sp X w0 z w rs) : ∃ q, Sp X w0 z w (zR q :: rs) := ⟨_, h.fam⟩
theorem Sp.reZ {α : Type} {d : Kd α} {e : TypeId} {q : Z} {A : Option Addr} {c : Nat} {xs ys : List α} {L : List Nat} (h : Sp X w0 z w rs) (i : Nat) (hi : nth rs i = some (oZ d e q A c xs L)) (hx : xs = ys) : Sp X w0 z w (upd rs i (oZ d e q A c ys L)) :=
  h.as i hi (fun h => hx ▸ h) (fun _ h => h)
theorem Sp.zrow {α : Type} (h : Sp X w0 z w rs) (d : Kd α) (e : TypeId) (A : Option Addr) : Sp X w0 z w (oZ d e zE A 0 ([] : List α) [] :: rs) := h.cons (OwnZ.zero d e 0 zE w A) (fun k hk => by cases hk)
theorem Sp.toZ {α : Type} {d : Kd α} {e : TypeId} {A : Option Addr} {c : Nat} {xs : List α} (h : Sp X w0 z w rs) (i : Nat) (hi : nth rs i = some (oR d e zE A c xs)) : Sp X w0 z w (upd rs i (oZ d e zE A c xs (blk A))) := h.as i hi (fun h => .inl ⟨rfl, h⟩) (fun _ h => h)
theorem Sp.cbr {σ γ : Type} (R : σ → γ → Res) {s s' : σ} {y : γ} (h : Sp X w0 z w rs) (i : Nat) (hi : nth rs i = some (R s y)) (hs : s = s') : Sp X w0 z w (upd rs i (R s' y)) := h.as i hi (fun h => hs ▸ h) (fun _ h => hs ▸ h)
theorem Sp.bx {b : Nat} {T : TypeId} {cs : List Value} (h : Sp X w0 z w rs) (i : Nat) (hi : nth rs i = some (bR b T cs)) : Box w b T cs := h.at_ i hi
theorem Sp.rw {α : Type} {d : Kd α} {e : TypeId} {q : Z} {A : Option Addr} {c : Nat} {xs : List α} (h : Sp X w0 z w rs) (i : Nat) (hi : nth rs i = some (oR d e q A c xs)) : Own d e 0 q w A c xs := h.at_ i hi
theorem Sp.zs {q : Z} (h : Sp X w0 z w rs) (i : Nat) (hi : nth rs i = some (zR q)) : Sub q w := (h.at_ i hi : (zR q).P w).1
theorem Sp.cap {α : Type} {d : Kd α} {e : TypeId} {q : Z} {A : Option Addr} {c : Nat} {xs : List α} (h : Sp X w0 z w rs) (i : Nat) (hi : nth rs i = some (oR d e q A c xs)) : Cap A xs.length c := (h.rw i hi).cap
theorem Sp.lez {α : Type} {d : Kd α} {e : TypeId} {q : Z} {A : Option Addr} {c : Nat} {xs : List α} {L : List Nat} (h : Sp X w0 z w rs) (i : Nat) (hi : nth rs i = some (oZ d e q A c xs L)) : xs.length ≤ c ∧ c ≤ 9223372036854775807 := ⟨(h.at_ i hi : OwnZ d e 0 q w A c xs L).le, (h.at_ i hi : OwnZ d e 0 q w A c xs L).mx⟩
/-- Two families become one. -/
theorem Sp.merge {q q' : Z} (h : Sp X w0 z w rs) (i j : Nat) (hi : nth rs i = some (zR q)) (hj : nth rs j = some (zR q')) (hij : i ≠ j) : ∃ q'', zle q q'' ∧ zle q' q'' ∧ Sp X w0 z w (zR q'' :: rest rs 0 [i, j]) := by
  have h1 : (zR q).P w := h.at_ i hi
  have h2 : (zR q').P w := h.at_ j hj
  refine ⟨zor q q', zle_or q q', zle_or' fun b hb => ?_, h.join i j hi hj ⟨h1.1.or h2.1, fun b hb => ?_⟩ fun k hk => ?_⟩
  · have := nth_ap h.sep hj hi (Ne.symm hij) b hb
    simpa [zR] using this
  · by_cases hbq : q b = none
    · exact h2.2 b (by simpa [zor, hbq] using hb)
    · exact h1.2 b hbq
  · by_cases hb : q k = none
    · right
      show q' k ≠ none
      intro hh
      exact hk (by simp [zor, hb, hh])
    · exact .inl hb
/-- Some pieces as one. -/
def allR (l : List Res) : Res where
  F := FF l
  P := fun w => (∀ r ∈ l, r.P w) ∧ l.Pairwise Ap
  st := fun {w w'} h hc => ⟨fun r hr => r.st (h.1 r hr) fun k hlt hk => hc k hlt ⟨r, hr, hk⟩, h.2⟩
  lt := fun {w k} h ⟨r, hr, hk⟩ => r.lt (h.1 r hr) hk
theorem FF_all {l : List Res} {k : Nat} : FF [allR l] k ↔ FF l k := ⟨fun ⟨r, hr, hk⟩ => by rw [List.mem_singleton.1 hr] at hk; exact hk, fun h => ⟨allR l, List.mem_cons_self, h⟩⟩
theorem FF_all' {l : List Res} : FF [allR l] = FF l := funext fun k => propext FF_all
theorem Sp.bun (h : Sp X w0 z w rs) (l : List Nat) (hl : l.Nodup) : Sp X w0 z w (allR (pick rs l) :: rest rs 0 l) := by
  refine ⟨h.z0, h.dz, h.chg, fun q hq => ?_, fun q hq k hk => ?_, List.pairwise_cons.2 ⟨fun q hq k hk hqk => ?_, sep_rest h.sep⟩⟩
  · rcases List.mem_cons.1 hq with rfl | hq
    · exact ⟨(h.sel l hl).all, (h.sel l hl).sep⟩
    · exact h.all q (rest_sub hq)
  · rcases List.mem_cons.1 hq with rfl | hq
    · obtain ⟨r, hr, hk⟩ := hk
      exact (h.sel l hl).new r hr k hk
    · exact h.new q (rest_sub hq) k hk
  · obtain ⟨r, hr, hk⟩ := hk
    obtain ⟨i, hil, hi⟩ := pick_mem hr
    exact ap_rest h.sep hi (List.contains_iff_mem.2 hil) hq k hk hqk
theorem Sp.unb {l : List Res} (h : Sp X w0 z w (allR l :: rs)) : Sp X w0 z w (l ++ rs) := by
  have h1 : (allR l).P w := h.all _ List.mem_cons_self
  obtain ⟨h2, h3⟩ := List.pairwise_cons.1 h.sep
  refine ⟨h.z0, h.dz, h.chg, fun q hq => ?_, fun q hq k hk => ?_, List.pairwise_append.2 ⟨h1.2, h3, fun r hr q hq k hk hqk => h2 q hq k ⟨r, hr, hk⟩ hqk⟩⟩
  · rcases List.mem_append.1 hq with hq | hq
    · exact h1.1 q hq
    · exact h.all q (List.mem_cons_of_mem _ hq)
  · rcases List.mem_append.1 hq with hq | hq
    · exact h.new _ List.mem_cons_self k ⟨q, hq, hk⟩
    · exact h.new q (List.mem_cons_of_mem _ hq) k hk
theorem In.unb {l : List Res} (h : In z w [allR l]) : In z w l := by
  have h1 : (allR l).P w := h.all _ List.mem_cons_self
  exact ⟨h.sub, h1.1, h1.2, fun k hk => h.dz k (FF_all.2 hk)⟩
theorem Sp.bun1 {l out : List Res} (h : Sp (FF l) w0 z w out) : Sp (FF [allR l]) w0 z w [allR out] := by
  rw [FF_all']
  refine ⟨h.z0, h.dz, h.chg, fun q hq => ?_, fun q hq k hk => ?_, List.pairwise_singleton _ _⟩
  · rw [List.mem_singleton.1 hq]; exact ⟨h.all, h.sep⟩
  · rw [List.mem_singleton.1 hq] at hk
    obtain ⟨r, hr, hk⟩ := hk
    exact h.new r hr k hk
end
/-! ### rows, compared one by one -/
theorem take_more {α : Type} {a b : List α} {i : Nat} {d : α} (ha : i < a.length) (hb : i < b.length) (h : a.take i = b.take i) (hx : a.getD i d = b.getD i d) : a.take (i + 1) = b.take (i + 1) := by
  rw [List.take_succ_eq_append_getElem ha, List.take_succ_eq_append_getElem hb, h]
  simp only [List.getD, List.getElem?_eq_getElem ha, List.getElem?_eq_getElem hb, Option.getD_some] at hx
  rw [hx]
theorem take_all {α : Type} {a b : List α} {i : Nat} (ha : a.length ≤ i) (hl : a.length = b.length) (h : a.take i = b.take i) : a = b := by
  rwa [List.take_of_length_le ha, List.take_of_length_le (by omega)] at h
end Go.Proofs.YtcjaplaifmhajaaDoorG
