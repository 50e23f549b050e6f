/- Facts of the program's own functions and types. -/
import Derived.Test.YtcjaplaifmhajaaDoorK3
import Derived.Test.YtcjaplaifmhajaaDoorQuU
set_option linter.all false
namespace Go.Proofs.YtcjaplaifmhajaaDoorG
open Go Go.RowKit
theorem alloc4 (w : World) : (Instr.alloc 4 true (.tuple #[])).run Tryd.prog w = .ok (.pointer (some ⟨w.heap.size, 0, none⟩)) (w.alloc (.cells [.bool false].toArray 4)) := by kernel_rfl
theorem ent22 (args : Array Value) (w : World) : (callFunc 22 args).run Tryd.prog w = .ok (.enter 22 args) w := enters Tryd.func22 (by kernel_rfl) rfl args w
theorem ent19 (args : Array Value) (w : World) : (callFunc 19 args).run Tryd.prog w = .ok (.enter 19 args) w := enters Tryd.func19 (by kernel_rfl) rfl args w
theorem ent14 (args : Array Value) (w : World) : (callFunc 14 args).run Tryd.prog w = .ok (.enter 14 args) w := enters Tryd.func14 (by kernel_rfl) rfl args w
end Go.Proofs.YtcjaplaifmhajaaDoorG
