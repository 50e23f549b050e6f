/- Facts of the program's own functions and types. -/
import Derived.Test.YtcjaplaifmhajaaDoorE1
import Derived.Test.YtcjaplaifmhajaaDoorQuD
set_option linter.all false
namespace Go.Proofs.YtcjaplaifmhajaaDoorG
open Go Go.RowKit
theorem agg4 (w : World) : (isAgg 4).run Tryd.prog w = .ok false w := by kernel_rfl
theorem size4 (w : World) : (sizeOf 4).run Tryd.prog w = .ok 1 w := by kernel_rfl
theorem ent24 (args : Array Value) (w : World) : (callFunc 24 args).run Tryd.prog w = .ok (.enter 24 args) w := enters Tryd.func24 (by kernel_rfl) rfl args w
end Go.Proofs.YtcjaplaifmhajaaDoorG
