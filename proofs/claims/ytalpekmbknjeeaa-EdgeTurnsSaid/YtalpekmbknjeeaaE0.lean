/- Facts of the program's own functions and types. -/
import Derived.Test.YtalpekmbknjeeaaU4
import Derived.Test.YtalpekmbknjeeaaEdgP
set_option linter.all false
namespace Go.Proofs.YtalpekmbknjeeaaG
open Go Go.RowKit
theorem alloc51 (w : World) : (Instr.alloc 51 true (.tuple #[])).run Try.prog w = .ok (.pointer (some ⟨w.heap.size, 0, none⟩)) (w.alloc (.cells [.complex .f64 0 0, .complex .f64 0 0, .complex .f64 0 0, .complex .f64 0 0].toArray 51)) := by kernel_rfl
theorem size51 (w : World) : (sizeOf 51).run Try.prog w = .ok 4 w := by kernel_rfl
theorem agg51 (w : World) : (isAgg 51).run Try.prog w = .ok true w := by kernel_rfl
theorem alloc66 (w : World) : (Instr.alloc 66 true (.tuple #[])).run Try.prog w = .ok (.pointer (some ⟨w.heap.size, 0, none⟩)) (w.alloc (.cells [.int .i32 0, .int .i32 0, .int .i32 0, .int .i32 0, .int .i32 0, .int .i32 0, .int .i32 0, .int .i32 0, .int .i32 0, .int .i32 0, .int .i32 0, .int .i32 0, .int .i32 0, .int .i32 0, .int .i32 0, .int .i32 0].toArray 66)) := by kernel_rfl
theorem size66 (w : World) : (sizeOf 66).run Try.prog w = .ok 16 w := by kernel_rfl
theorem agg66 (w : World) : (isAgg 66).run Try.prog w = .ok true w := by kernel_rfl
theorem fld50_0 (a : Addr) (w : World) : (Instr.fieldAt 50 (.pointer (some a)) 0).run Try.prog w = .ok (.pointer (some (a.add 0))) w := by kernel_rfl
theorem ent20 (args : Array Value) (w : World) : (callFunc 20 args).run Try.prog w = .ok (.enter 20 args) w := enters Try.func20 (by kernel_rfl) rfl args w
theorem agg50 (w : World) : (isAgg 50).run Try.prog w = .ok true w := by kernel_rfl
theorem size50 (w : World) : (sizeOf 50).run Try.prog w = .ok 9 w := by kernel_rfl
theorem ent79 (args : Array Value) (w : World) : (callFunc 79 args).run Try.prog w = .ok (.enter 79 args) w := enters Try.func79 (by kernel_rfl) rfl args w
theorem fld50_2 (a : Addr) (w : World) : (Instr.fieldAt 50 (.pointer (some a)) 2).run Try.prog w = .ok (.pointer (some (a.add 6))) w := by kernel_rfl
theorem fld50_1 (a : Addr) (w : World) : (Instr.fieldAt 50 (.pointer (some a)) 1).run Try.prog w = .ok (.pointer (some (a.add 5))) w := by kernel_rfl
theorem fld50_3 (a : Addr) (w : World) : (Instr.fieldAt 50 (.pointer (some a)) 3).run Try.prog w = .ok (.pointer (some (a.add 7))) w := by kernel_rfl
theorem agg4 (w : World) : (isAgg 4).run Try.prog w = .ok false w := by kernel_rfl
theorem fld50_4 (a : Addr) (w : World) : (Instr.fieldAt 50 (.pointer (some a)) 4).run Try.prog w = .ok (.pointer (some (a.add 8))) w := by kernel_rfl
theorem ent55 (args : Array Value) (w : World) : (callFunc 55 args).run Try.prog w = .ok (.enter 55 args) w := enters Try.func55 (by kernel_rfl) rfl args w
theorem size42 (w : World) : (sizeOf 42).run Try.prog w = .ok 1 w := by kernel_rfl
theorem agg42 (w : World) : (isAgg 42).run Try.prog w = .ok false w := by kernel_rfl
theorem ent24 (args : Array Value) (w : World) : (callFunc 24 args).run Try.prog w = .ok (.enter 24 args) w := enters Try.func24 (by kernel_rfl) rfl args w
theorem alloc50 (w : World) : (Instr.alloc 50 true (.tuple #[])).run Try.prog w = .ok (.pointer (some ⟨w.heap.size, 0, none⟩)) (w.alloc (.cells [.int .i64 0, .slice none 0 0, .slice none 0 0, .slice none 0 0, .slice none 0 0, .int .i64 0, .int .i64 0, .bool false, .bool false].toArray 50)) := by kernel_rfl
theorem ent25 (args : Array Value) (w : World) : (callFunc 25 args).run Try.prog w = .ok (.enter 25 args) w := enters Try.func25 (by kernel_rfl) rfl args w
theorem ent26 (args : Array Value) (w : World) : (callFunc 26 args).run Try.prog w = .ok (.enter 26 args) w := enters Try.func26 (by kernel_rfl) rfl args w
theorem ent35 (args : Array Value) (w : World) : (callFunc 35 args).run Try.prog w = .ok (.enter 35 args) w := enters Try.func35 (by kernel_rfl) rfl args w
theorem ent34 (args : Array Value) (w : World) : (callFunc 34 args).run Try.prog w = .ok (.enter 34 args) w := enters Try.func34 (by kernel_rfl) rfl args w
theorem ent36 (args : Array Value) (w : World) : (callFunc 36 args).run Try.prog w = .ok (.enter 36 args) w := enters Try.func36 (by kernel_rfl) rfl args w
theorem size21 (w : World) : (sizeOf 21).run Try.prog w = .ok 1 w := by kernel_rfl
theorem agg21 (w : World) : (isAgg 21).run Try.prog w = .ok false w := by kernel_rfl
theorem ent27 (args : Array Value) (w : World) : (callFunc 27 args).run Try.prog w = .ok (.enter 27 args) w := enters Try.func27 (by kernel_rfl) rfl args w
theorem ent84 (args : Array Value) (w : World) : (callFunc 84 args).run Try.prog w = .ok (.enter 84 args) w := enters Try.func84 (by kernel_rfl) rfl args w
theorem ent85 (args : Array Value) (w : World) : (callFunc 85 args).run Try.prog w = .ok (.enter 85 args) w := enters Try.func85 (by kernel_rfl) rfl args w
theorem ent28 (args : Array Value) (w : World) : (callFunc 28 args).run Try.prog w = .ok (.enter 28 args) w := enters Try.func28 (by kernel_rfl) rfl args w
theorem ent62 (args : Array Value) (w : World) : (callFunc 62 args).run Try.prog w = .ok (.enter 62 args) w := enters Try.func62 (by kernel_rfl) rfl args w
theorem ent63 (args : Array Value) (w : World) : (callFunc 63 args).run Try.prog w = .ok (.enter 63 args) w := enters Try.func63 (by kernel_rfl) rfl args w
theorem ent29 (args : Array Value) (w : World) : (callFunc 29 args).run Try.prog w = .ok (.enter 29 args) w := enters Try.func29 (by kernel_rfl) rfl args w
theorem ent37 (args : Array Value) (w : World) : (callFunc 37 args).run Try.prog w = .ok (.enter 37 args) w := enters Try.func37 (by kernel_rfl) rfl args w
end Go.Proofs.YtalpekmbknjeeaaG
