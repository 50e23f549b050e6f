/- Facts of the program's own functions and types. -/
import Derived.Test.YtcjaplaifmhajaaDoorF1
import Derived.Test.YtcjaplaifmhajaaDoorQuE
import Derived.Test.YtcjaplaifmhajaaDoorCsvP
set_option linter.all false
namespace Go.Proofs.YtcjaplaifmhajaaDoorG
open Go Go.RowKit
theorem size5 (w : World) : (sizeOf 5).run Tryd.prog w = .ok 1 w := by kernel_rfl
theorem elem44 : ElemInfo Tryd.prog 44 5 1 1 := ElemInfo.of (z := .int .u8 0) Tryd.underlying44 (by kernel_rfl) rfl (by decide)
theorem agg33 (w : World) : (isAgg 33).run Tryd.prog w = .ok false w := by kernel_rfl
theorem elem33 : ElemInfo Tryd.prog 33 9 1 16 := ElemInfo.of (z := vstr []) Tryd.underlying33 (by kernel_rfl) rfl (by decide)
theorem size33 (w : World) : (sizeOf 33).run Tryd.prog w = .ok 1 w := by kernel_rfl
theorem agg25 (w : World) : (isAgg 25).run Tryd.prog w = .ok false w := by kernel_rfl
theorem elem25 : ElemInfo Tryd.prog 25 33 1 24 := ElemInfo.of (z := .slice none 0 0) Tryd.underlying25 (by kernel_rfl) rfl (by decide)
theorem size25 (w : World) : (sizeOf 25).run Tryd.prog w = .ok 1 w := by kernel_rfl
theorem ent27 (args : Array Value) (w : World) : (callFunc 27 args).run Tryd.prog w = .ok (.enter 27 args) w := enters Tryd.func27 (by kernel_rfl) rfl args w
theorem alloc25 (w : World) : (Instr.alloc 25 true (.tuple #[])).run Tryd.prog w = .ok (.pointer (some ⟨w.heap.size, 0, none⟩)) (w.alloc (.cells [.slice none 0 0].toArray 25)) := by kernel_rfl
theorem alloc33 (w : World) : (Instr.alloc 33 true (.tuple #[])).run Tryd.prog w = .ok (.pointer (some ⟨w.heap.size, 0, none⟩)) (w.alloc (.cells [.slice none 0 0].toArray 33)) := by kernel_rfl
theorem ent26 (args : Array Value) (w : World) : (callFunc 26 args).run Tryd.prog w = .ok (.enter 26 args) w := enters Tryd.func26 (by kernel_rfl) rfl args w
theorem ent42 (args : Array Value) (w : World) : (callFunc 42 args).run Tryd.prog w = .ok (.enter 42 args) w := enters Tryd.func42 (by kernel_rfl) rfl args w
theorem ent32 (args : Array Value) (w : World) : (callFunc 32 args).run Tryd.prog w = .ok (.enter 32 args) w := enters Tryd.func32 (by kernel_rfl) rfl args w
theorem size9 (w : World) : (sizeOf 9).run Tryd.prog w = .ok 1 w := by kernel_rfl
theorem agg9 (w : World) : (isAgg 9).run Tryd.prog w = .ok false w := by kernel_rfl
end Go.Proofs.YtcjaplaifmhajaaDoorG
