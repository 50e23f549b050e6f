/- What quoting answers, in plain Lean. -/
import Derived.Test.YtcjaplaifmhajaaDoorQuS
import Derived.Test.YtcjaplaifmhajaaDoorCsvP
set_option linter.all false
namespace Go.Proofs.YtcjaplaifmhajaaDoorG
open Go Go.RowKit
def printQ (t : List (List St)) : St × Int := if fineT t = false then ([], 1) else if 65536 < (tabQ t).length then ([], 3) else (tabQ t, 0)
theorem printQ_1 {t : List (List St)} (h : fineT t = false) : printQ t = ([], 1) := by unfold printQ; rw [if_pos h]
theorem printQ_3 {t : List (List St)} (h : fineT t = true) (h2 : (65536 : Int) < ((pieces [] [13, 10] recQ t).length : Nat)) : printQ t = ([], 3) := by unfold printQ; rw [if_neg (by rw [h]; simp), if_pos (by unfold tabQ; omega)]
theorem printQ_0 {t : List (List St)} (h : fineT t = true) (h2 : ((pieces [] [13, 10] recQ t).length : Int) ≤ 65536) : printQ t = (tabQ t, 0) := by unfold printQ; rw [if_neg (by rw [h]; simp), if_neg (by unfold tabQ; omega)]
def FitT (t : List (List St)) : Prop := t.length ≤ 1000000 ∧ (tabQ t).length ≤ 70368744177664 ∧ ∀ r ∈ t, FitR r
def tidyQ (s : St) : St × Int × Int := if (parseS s).2.2 ≠ 0 then ([], (parseS s).2.1, (parseS s).2.2) else ((printQ (parseS s).1).1, 0, (printQ (parseS s).1).2)
end Go.Proofs.YtcjaplaifmhajaaDoorG
