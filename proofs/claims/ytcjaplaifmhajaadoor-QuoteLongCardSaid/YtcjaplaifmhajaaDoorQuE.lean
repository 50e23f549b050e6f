/- Records, joined: the contract in the walks' own form. -/
import Derived.Test.YtcjaplaifmhajaaDoorF1
set_option linter.all false
namespace Go.Proofs.YtcjaplaifmhajaaDoorG
open Go Go.Shelf Go.RowKit Go.Proofs
theorem joinedR_calls (a0 : List (List St)) (Aa0 : Option Addr) (ca0 : Nat) (a1 : St) (a2 : St) (ba3 : Nat) (a3 : Bool) (z : Z) (w : World) (hI : In z w [bR ba3 4 [.bool a3]]) (hra0 : Rd (kslice kstr) z Aa0 a0) (hca0 : Cap Aa0 a0.length ca0) (p0 : a0.length ≤ 1000000) (p1 : (pieces a1 a2 recQ a0).length ≤ 70368744177664) (p2 : ∀ r ∈ a0, FitR r) (p3 : HM z) :
    Calls Tryd.prog 22 #[.slice Aa0 a0.length ca0, vstr a1, vstr a2, .func (.func 23) #[] #[.pointer (some ⟨ba3, 0, none⟩)]] w fun e w' => e = .returned (vstr (pieces a1 a2 recQ a0)) ∧ Sp (FF [bR ba3 4 [.bool a3]]) w z w' [bR ba3 4 [.bool (fin2 a3 a0)]] := by
  have hbx : Box w ba3 4 [.bool a3] := hI.all (bR ba3 4 [.bool a3]) (List.mem_singleton.2 rfl)
  have hzb : z ba3 = none := hI.dz ba3 ⟨_, List.mem_singleton.2 rfl, rfl⟩
  have hF : ∀ cs k, FF [bR ba3 4 cs] k ↔ k = ba3 := fun cs k => ⟨fun ⟨r, hr, hk⟩ => by rw [List.mem_singleton.1 hr] at hk; exact hk, fun h => ⟨_, List.mem_singleton.2 rfl, h⟩⟩
  refine Calls.mono (joined_r recQ a1 a2 w a0 Aa0 ca0 ba3 a3 hbx (fun i xs hx => ?_) p0 p1) fun e w' ⟨h1, h2, h3⟩ => ⟨h1, ⟨hI.sub, hI.dz, h3.mono fun k hk => .inl ((hF _ k).2 hk), fun r hr => by rw [List.mem_singleton.1 hr]; exact h2, fun r hr k hk => .inl (by rw [List.mem_singleton.1 hr] at hk; exact (hF _ k).2 hk), List.pairwise_singleton _ _⟩⟩
  obtain ⟨b, o, cs, hA, hk, hc⟩ := Rd_cell hra0 rfl (fun x cs hk => by obtain ⟨A', c', rfl, _⟩ := hk; exact ⟨_, _, rfl⟩) hx
  obtain ⟨A', c', rfl, hcap, hrd⟩ := hk
  have hc' := hc _ _ rfl
  refine ⟨b, o, A', c', hA, cz_lt hI.sub hc', fun hb => cz_at hc' (by rw [hb]; exact hzb), hI.sub.cell hc', fun b' w1 hch hb1 => ?_⟩
  have hsub : Sub z w1 := fun k c hz => by
    rw [cellsAt_congr (hch.block k (hI.sub.lt (by rw [hz]; simp)) (fun hk => by rw [hk, hzb] at hz; cases hz))]
    exact hI.sub k c hz
  have hI1 : In z w1 [bR ba3 4 [.bool b']] := ⟨hsub, fun r hr => by rw [List.mem_singleton.1 hr]; exact hb1, List.pairwise_singleton _ _, fun k hk => by rw [(hF _ k).1 hk]; exact hzb⟩
  refine Calls.mono (print1_calls xs A' c' ba3 b' z w1 hI1 hrd hcap (p2 xs (List.mem_of_getElem? hx)) p3) fun e w' ⟨h1, h2⟩ => ⟨h1, h2.all (bR ba3 4 [.bool (b' && decide (0 < xs.length))]) (List.mem_singleton.2 rfl), h2.chg.mono fun k hk => .inl ((hF _ k).1 hk)⟩
end Go.Proofs.YtcjaplaifmhajaaDoorG
