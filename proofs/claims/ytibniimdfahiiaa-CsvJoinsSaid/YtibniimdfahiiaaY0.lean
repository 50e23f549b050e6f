/- Facts of the program's own functions and types. -/
import Derived.Test.YtibniimdfahiiaaProg
import Derived.Test.YtibniimdfahiiaaCsvP
import Derived.KernelRfl
set_option linter.all false
namespace Go.Proofs.YtibniimdfahiiaaG
open Go Go.RowKit
theorem size5 (w : World) : (sizeOf 5).run Try.prog w = .ok 1 w := by kernel_rfl
theorem elem69 : ElemInfo Try.prog 69 5 1 1 := ElemInfo.of (z := .int .u8 0) Try.underlying69 (by kernel_rfl) rfl (by decide)
theorem agg56 (w : World) : (isAgg 56).run Try.prog w = .ok false w := by kernel_rfl
theorem elem56 : ElemInfo Try.prog 56 9 1 16 := ElemInfo.of (z := vstr []) Try.underlying56 (by kernel_rfl) rfl (by decide)
theorem size56 (w : World) : (sizeOf 56).run Try.prog w = .ok 1 w := by kernel_rfl
theorem agg42 (w : World) : (isAgg 42).run Try.prog w = .ok false w := by kernel_rfl
theorem elem42 : ElemInfo Try.prog 42 56 1 24 := ElemInfo.of (z := .slice none 0 0) Try.underlying42 (by kernel_rfl) rfl (by decide)
theorem size42 (w : World) : (sizeOf 42).run Try.prog w = .ok 1 w := by kernel_rfl
theorem ent45 (args : Array Value) (w : World) : (callFunc 45 args).run Try.prog w = .ok (.enter 45 args) w := enters Try.func45 (by kernel_rfl) rfl args w
theorem agg3 (w : World) : (isAgg 3).run Try.prog w = .ok false w := by kernel_rfl
theorem size3 (w : World) : (sizeOf 3).run Try.prog w = .ok 1 w := by kernel_rfl
theorem ent47 (args : Array Value) (w : World) : (callFunc 47 args).run Try.prog w = .ok (.enter 47 args) w := enters Try.func47 (by kernel_rfl) rfl args w
theorem alloc42 (w : World) : (Instr.alloc 42 true (.tuple #[])).run Try.prog w = .ok (.pointer (some ⟨w.heap.size, 0, none⟩)) (w.alloc (.cells [.slice none 0 0].toArray 42)) := by kernel_rfl
theorem alloc56 (w : World) : (Instr.alloc 56 true (.tuple #[])).run Try.prog w = .ok (.pointer (some ⟨w.heap.size, 0, none⟩)) (w.alloc (.cells [.slice none 0 0].toArray 56)) := by kernel_rfl
theorem ent44 (args : Array Value) (w : World) : (callFunc 44 args).run Try.prog w = .ok (.enter 44 args) w := enters Try.func44 (by kernel_rfl) rfl args w
theorem alloc3 (w : World) : (Instr.alloc 3 true (.tuple #[])).run Try.prog w = .ok (.pointer (some ⟨w.heap.size, 0, none⟩)) (w.alloc (.cells [.int .i64 0].toArray 3)) := by kernel_rfl
theorem ent51 (args : Array Value) (w : World) : (callFunc 51 args).run Try.prog w = .ok (.enter 51 args) w := enters Try.func51 (by kernel_rfl) rfl args w
theorem ent48 (args : Array Value) (w : World) : (callFunc 48 args).run Try.prog w = .ok (.enter 48 args) w := enters Try.func48 (by kernel_rfl) rfl args w
theorem size9 (w : World) : (sizeOf 9).run Try.prog w = .ok 1 w := by kernel_rfl
theorem agg9 (w : World) : (isAgg 9).run Try.prog w = .ok false w := by kernel_rfl
theorem ent26 (args : Array Value) (w : World) : (callFunc 26 args).run Try.prog w = .ok (.enter 26 args) w := enters Try.func26 (by kernel_rfl) rfl args w
theorem ent29 (args : Array Value) (w : World) : (callFunc 29 args).run Try.prog w = .ok (.enter 29 args) w := enters Try.func29 (by kernel_rfl) rfl args w
theorem ent43 (args : Array Value) (w : World) : (callFunc 43 args).run Try.prog w = .ok (.enter 43 args) w := enters Try.func43 (by kernel_rfl) rfl args w
theorem ent28 (args : Array Value) (w : World) : (callFunc 28 args).run Try.prog w = .ok (.enter 28 args) w := enters Try.func28 (by kernel_rfl) rfl args w
theorem ent25 (args : Array Value) (w : World) : (callFunc 25 args).run Try.prog w = .ok (.enter 25 args) w := enters Try.func25 (by kernel_rfl) rfl args w
theorem ent35 (args : Array Value) (w : World) : (callFunc 35 args).run Try.prog w = .ok (.enter 35 args) w := enters Try.func35 (by kernel_rfl) rfl args w
theorem ent36 (args : Array Value) (w : World) : (callFunc 36 args).run Try.prog w = .ok (.enter 36 args) w := enters Try.func36 (by kernel_rfl) rfl args w
theorem ent27 (args : Array Value) (w : World) : (callFunc 27 args).run Try.prog w = .ok (.enter 27 args) w := enters Try.func27 (by kernel_rfl) rfl args w
end Go.Proofs.YtibniimdfahiiaaG
