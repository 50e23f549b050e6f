/- The types' own structures, and their kinds. -/
import Derived.Test.YtibniimdfahiiaaG5
set_option linter.all false
namespace Go.Proofs.YtibniimdfahiiaaG
open Go Go.RowKit
structure TRect where
  Row : Int
  Col : Int
  Rows : Int
  Cols : Int
  deriving DecidableEq, Inhabited
def kdTRect : Kd TRect := flat 4 (fun x => [.int .i64 x.Row, .int .i64 x.Col, .int .i64 x.Rows, .int .i64 x.Cols]) (fun _ => rfl) (fun x u hu => by simp at hu; rcases hu with rfl | rfl | rfl | rfl <;> rfl)
end Go.Proofs.YtibniimdfahiiaaG
