/- The types' own structures, and their kinds. -/
import Derived.Test.YtgjnhmidbapjmaaS3
set_option linter.all false
namespace Go.Proofs.YtgjnhmidbapjmaaG
open Go Go.RowKit
structure TPlain where
  l : List (List St)
  deriving DecidableEq, Inhabited
def kdTPlain : Kd TPlain where
  sz := 1
  K := fun z x cs => ∃ A_l c_l, cs = [.slice A_l x.l.length c_l] ∧ Cap A_l x.l.length c_l ∧ Rd (kslice kstr) z A_l x.l
  mono := by
    rintro z z' x cs hz ⟨A_l, c_l, rfl, hc0, hr0⟩
    exact ⟨_, _, rfl, hc0, hr0.mono hz⟩
  len := by
    rintro z x cs ⟨_, _, rfl, _⟩
    rfl
  one := by
    rintro z x cs ⟨_, _, rfl, _⟩ u hu
    simp at hu
    rcases hu with rfl <;> rfl
end Go.Proofs.YtgjnhmidbapjmaaG
