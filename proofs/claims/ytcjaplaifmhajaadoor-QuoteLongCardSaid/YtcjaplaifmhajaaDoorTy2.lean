/- The types' own structures, and their kinds. -/
import Derived.Test.YtcjaplaifmhajaaDoorS8
set_option linter.all false
namespace Go.Proofs.YtcjaplaifmhajaaDoorG
open Go Go.RowKit

end Go.Proofs.YtcjaplaifmhajaaDoorG
