/- Walks, each function once: what it computes. -/
import Derived.Test.YtcjaplaifmhajaaDoorV0
set_option linter.all false
namespace Go.Proofs.YtcjaplaifmhajaaDoorG
open Go Go.RowKit

end Go.Proofs.YtcjaplaifmhajaaDoorG
