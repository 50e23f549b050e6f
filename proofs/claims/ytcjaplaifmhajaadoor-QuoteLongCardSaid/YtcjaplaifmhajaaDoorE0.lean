/- Facts of the program's own functions and types. -/
import Derived.Test.YtcjaplaifmhajaaDoorProg
import Derived.Test.YtcjaplaifmhajaaDoorTy2
import Derived.KernelRfl
import Derived.Test.YtcjaplaifmhajaaDoorQuC
set_option linter.all false
namespace Go.Proofs.YtcjaplaifmhajaaDoorG
open Go Go.RowKit
theorem ent28 (args : Array Value) (w : World) : (callFunc 28 args).run Tryd.prog w = .ok (.enter 28 args) w := enters Tryd.func28 (by kernel_rfl) rfl args w
theorem ent20 (args : Array Value) (w : World) : (callFunc 20 args).run Tryd.prog w = .ok (.enter 20 args) w := enters Tryd.func20 (by kernel_rfl) rfl args w
theorem ent21 (args : Array Value) (w : World) : (callFunc 21 args).run Tryd.prog w = .ok (.enter 21 args) w := enters Tryd.func21 (by kernel_rfl) rfl args w
end Go.Proofs.YtcjaplaifmhajaaDoorG
