/- A row of texts, joined: the contract in the walks' own form. -/
import Derived.Test.YtcjaplaifmhajaaDoorE1
set_option linter.all false
namespace Go.Proofs.YtcjaplaifmhajaaDoorG
open Go Go.Shelf Go.RowKit Go.Proofs
theorem Sub_below {z : Z} {w w' : World} (h : Sub z w) (hb : Below w.heap.size w w') : Sub z w' := fun b c hz => by
  rw [cellsAt_congr (hb.block b (h.lt (by rw [hz]; simp)))]
  exact h b c hz
theorem cz_spot {z : Z} {a : Addr} {v : Value} (h : cz z a = some v) : a.spot = none := by
  unfold cz at h
  split at h
  · cases h
  · rename_i hs
    simpa using hs
theorem Rd_cell {α : Type} {d : Kd α} {z : Z} {A : Option Addr} {xs : List α} (h : Rd d z A xs) (hd : d.sz = 1) (hk : ∀ x cs, d.K z x cs → ∃ u r, cs = u :: r) {i : Nat} {x : α} (hx : xs[i]? = some x) :
    ∃ b o cs, A = some ⟨b, o, none⟩ ∧ d.K z x cs ∧ ∀ u r, cs = u :: r → cz z ⟨b, o + i, none⟩ = some u := by
  have hi := (List.getElem?_eq_some_iff.1 hx).1
  obtain ⟨y, hy⟩ : ∃ y, xs[0]? = some y := ⟨_, List.getElem?_eq_getElem (by omega)⟩
  obtain ⟨a, cs0, ha, hk0, hc0⟩ := h 0 y hy
  obtain ⟨u0, r0, rfl⟩ := hk _ _ hk0
  have hs := cz_spot (hc0 0 u0 rfl)
  obtain ⟨a', cs, ha', hk1, hc⟩ := h i x hx
  rw [ha] at ha'
  injection ha' with ha'
  subst ha'
  obtain ⟨b, o, sp⟩ := a
  have hsp : sp = none := by simpa [Addr.add] using hs
  subst hsp
  refine ⟨b, o, cs, ha, hk1, fun u r hr => ?_⟩
  subst hr
  have := hc 0 u rfl
  rw [hd, Nat.mul_one, Nat.add_zero] at this
  rw [← this]
  congr 1
  unfold Addr.add
  split
  · rename_i h0; subst h0; rfl
  · rfl
theorem cz_lt {z : Z} {w : World} (h : Sub z w) {a : Addr} {v : Value} (hc : cz z a = some v) : a.block < w.heap.size := h.lt (by
  intro hn
  unfold cz at hc
  rw [hn] at hc
  split at hc <;> simp at hc)
theorem cz_at {z : Z} {a : Addr} {v : Value} (hc : cz z a = some v) : z a.block ≠ none := by
  intro hn
  unfold cz at hc
  rw [hn] at hc
  split at hc <;> simp at hc
theorem joinedS_calls (a0 : List St) (Aa0 : Option Addr) (ca0 : Nat) (a1 : St) (a2 : St) (z : Z) (w : World) (hI : In z w []) (hra0 : Rd kstr z Aa0 a0) (hca0 : Cap Aa0 a0.length ca0) (p0 : a0.length ≤ 1000000) (p1 : (pieces a1 a2 fldQ a0).length ≤ 70368744177664) (p2 : ∀ t ∈ a0, t.length ≤ 1000000000) (p3 : HM z) :
    Calls Tryd.prog 24 #[.slice Aa0 a0.length ca0, vstr a1, vstr a2, .func (.func 10) #[] #[]] w fun e w' => e = .returned (vstr (pieces a1 a2 fldQ a0)) ∧ Sp (FF []) w z w' [] := by
  refine Calls.mono (joined_s fldQ a1 a2 w a0 Aa0 ca0 (fun w' => Sub z w') (fun w' h => Sub_below hI.sub h) (fun t w' ht hz => ?_) (fun i x hx => ?_) p0 p1) fun e w' ⟨h1, h2⟩ => ⟨h1, Sp_below hI h2⟩
  · exact Calls.mono (qfield_calls t z w' (In.nil hz) (p2 t ht) p3) fun e w'' ⟨h1, h2⟩ => ⟨h1, Below_sp h2⟩
  · obtain ⟨b, o, cs, hA, hk, hc⟩ := Rd_cell hra0 rfl (fun x cs hk => by obtain rfl : cs = _ := hk; exact ⟨_, _, rfl⟩) hx
    obtain rfl : cs = _ := hk
    have hc' := hc _ _ rfl
    exact ⟨b, o, hA, cz_lt hI.sub hc', hI.sub.cell hc'⟩
end Go.Proofs.YtcjaplaifmhajaaDoorG
