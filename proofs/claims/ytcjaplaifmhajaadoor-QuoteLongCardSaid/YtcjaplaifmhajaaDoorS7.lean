/- Complex numbers as elements; elements of arrays, by a number that is not known. -/
import Derived.Test.YtcjaplaifmhajaaDoorS6
set_option linter.all false
namespace Go.Proofs.YtcjaplaifmhajaaDoorG
open Go Go.RowKit
def kcx : Kd Cx := flat 1 (fun x => [.complex .f64 x.re.bits x.im.bits]) (fun _ => rfl) (fun _ => one1 rfl)
def vcx (x : Cx) : Value := .complex .f64 x.re.bits x.im.bits
section
variable {P : Program}
theorem R_aridx_cx {o : Oper} {f : Fr} {w : World} {T e : TypeId} {len : Nat} {x i : Operand} {xs : List Cx} {q : IntKind} {iv : Int} (ho : o.op = .index T x i) (hx : ev f x = some (.agg (xs.map vcx).toArray)) (hi : ev f i = some (.int q iv))
    (hT : P.underlying T = some (.array len e)) (hag : ∀ w, (isAgg e).run P w = .ok false w) (hs : ∀ w, (sizeOf e).run P w = .ok 1 w) (hl : xs.length = len) (h0 : 0 ≤ iv) (h1 : iv < xs.length) :
    Runs P o f w (.complex .f64 (xs.getD iv.toNat default).re.bits (xs.getD iv.toNat default).im.bits) w := by
  intro ρ he
  subst hl
  have h2 : iv.toNat < xs.length := by omega
  simp [execOp, ho, he x _ hx, he i _ hi, Instr.index, asIntOf, run_underlying hT, h0, h1, part, hag, hs, h2, List.getD, vcx]
theorem boxar {w : World} {b : Nat} {T : TypeId} {xs : List Int} {q : IntKind} (h : Box w b T (xs.map (Value.int q))) {k : Nat} (hk : k < xs.length) : w.cell? ((⟨b, 0, none⟩ : Addr).add (k * 1)) = some (.int q (xs.getD k 0)) := by
  have h1 := h.cell (j := k) (v := .int q (xs.getD k 0)) (by simp [List.getD, hk])
  rw [show ((⟨b, 0, none⟩ : Addr).add (k * 1)) = ⟨b, k, none⟩ by simp [Addr.add]; exact fun h => h.symm]
  exact h1
end
end Go.Proofs.YtcjaplaifmhajaaDoorG
