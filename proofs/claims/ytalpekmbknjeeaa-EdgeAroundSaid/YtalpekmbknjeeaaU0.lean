/- Facts of the program's own functions and types. -/
import Derived.Test.YtalpekmbknjeeaaProg
import Derived.Test.YtalpekmbknjeeaaTy2
import Derived.KernelRfl
import Derived.Test.YtalpekmbknjeeaaSheW
import Derived.Test.YtalpekmbknjeeaaAxS
set_option linter.all false
namespace Go.Proofs.YtalpekmbknjeeaaG
open Go Go.RowKit
theorem size3 (w : World) : (sizeOf 3).run Try.prog w = .ok 1 w := by kernel_rfl
theorem agg3 (w : World) : (isAgg 3).run Try.prog w = .ok false w := by kernel_rfl
theorem ent66 (args : Array Value) (w : World) : (callFunc 66 args).run Try.prog w = .ok (.enter 66 args) w := enters Try.func66 (by kernel_rfl) rfl args w
theorem elem22 : ElemInfo Try.prog 22 3 1 8 := ElemInfo.of (z := .int .i64 0) Try.underlying22 (by kernel_rfl) rfl (by decide)
theorem ent83 (args : Array Value) (w : World) : (callFunc 83 args).run Try.prog w = .ok (.enter 83 args) w := enters Try.func83 (by kernel_rfl) rfl args w
theorem ent61 (args : Array Value) (w : World) : (callFunc 61 args).run Try.prog w = .ok (.enter 61 args) w := enters Try.func61 (by kernel_rfl) rfl args w
theorem ent90 (args : Array Value) (w : World) : (callFunc 90 args).run Try.prog w = .ok (.enter 90 args) w := enters Try.func90 (by kernel_rfl) rfl args w
theorem ent77 (args : Array Value) (w : World) : (callFunc 77 args).run Try.prog w = .ok (.enter 77 args) w := enters Try.func77 (by kernel_rfl) rfl args w
theorem ent78 (args : Array Value) (w : World) : (callFunc 78 args).run Try.prog w = .ok (.enter 78 args) w := enters Try.func78 (by kernel_rfl) rfl args w
theorem ent43 (args : Array Value) (w : World) : (callFunc 43 args).run Try.prog w = .ok (.enter 43 args) w := enters Try.func43 (by kernel_rfl) rfl args w
theorem ent54 (args : Array Value) (w : World) : (callFunc 54 args).run Try.prog w = .ok (.enter 54 args) w := enters Try.func54 (by kernel_rfl) rfl args w
theorem fld39_0 (a : Addr) (w : World) : (Instr.fieldAt 39 (.pointer (some a)) 0).run Try.prog w = .ok (.pointer (some (a.add 0))) w := by kernel_rfl
theorem fld39_2 (a : Addr) (w : World) : (Instr.fieldAt 39 (.pointer (some a)) 2).run Try.prog w = .ok (.pointer (some (a.add 2))) w := by kernel_rfl
theorem fld39_1 (a : Addr) (w : World) : (Instr.fieldAt 39 (.pointer (some a)) 1).run Try.prog w = .ok (.pointer (some (a.add 1))) w := by kernel_rfl
theorem fld39_3 (a : Addr) (w : World) : (Instr.fieldAt 39 (.pointer (some a)) 3).run Try.prog w = .ok (.pointer (some (a.add 3))) w := by kernel_rfl
theorem agg39 (w : World) : (isAgg 39).run Try.prog w = .ok true w := by kernel_rfl
theorem size39 (w : World) : (sizeOf 39).run Try.prog w = .ok 4 w := by kernel_rfl
theorem ent41 (args : Array Value) (w : World) : (callFunc 41 args).run Try.prog w = .ok (.enter 41 args) w := enters Try.func41 (by kernel_rfl) rfl args w
theorem ent42 (args : Array Value) (w : World) : (callFunc 42 args).run Try.prog w = .ok (.enter 42 args) w := enters Try.func42 (by kernel_rfl) rfl args w
theorem ent21 (args : Array Value) (w : World) : (callFunc 21 args).run Try.prog w = .ok (.enter 21 args) w := enters Try.func21 (by kernel_rfl) rfl args w
theorem ent92 (args : Array Value) (w : World) : (callFunc 92 args).run Try.prog w = .ok (.enter 92 args) w := enters Try.func92 (by kernel_rfl) rfl args w
theorem ent93 (args : Array Value) (w : World) : (callFunc 93 args).run Try.prog w = .ok (.enter 93 args) w := enters Try.func93 (by kernel_rfl) rfl args w
theorem size60 (w : World) : (sizeOf 60).run Try.prog w = .ok 6 w := by kernel_rfl
theorem agg60 (w : World) : (isAgg 60).run Try.prog w = .ok true w := by kernel_rfl
theorem ent75 (args : Array Value) (w : World) : (callFunc 75 args).run Try.prog w = .ok (.enter 75 args) w := enters Try.func75 (by kernel_rfl) rfl args w
theorem ent64 (args : Array Value) (w : World) : (callFunc 64 args).run Try.prog w = .ok (.enter 64 args) w := enters Try.func64 (by kernel_rfl) rfl args w
theorem ent76 (args : Array Value) (w : World) : (callFunc 76 args).run Try.prog w = .ok (.enter 76 args) w := enters Try.func76 (by kernel_rfl) rfl args w
theorem alloc39 (w : World) : (Instr.alloc 39 true (.tuple #[])).run Try.prog w = .ok (.pointer (some ⟨w.heap.size, 0, none⟩)) (w.alloc (.cells [.int .i64 0, .int .i64 0, .int .i64 0, .int .i64 0].toArray 39)) := by kernel_rfl
theorem fld26_2 (a : Addr) (w : World) : (Instr.fieldAt 26 (.pointer (some a)) 2).run Try.prog w = .ok (.pointer (some (a.add 2))) w := by kernel_rfl
theorem agg22 (w : World) : (isAgg 22).run Try.prog w = .ok false w := by kernel_rfl
theorem fld26_1 (a : Addr) (w : World) : (Instr.fieldAt 26 (.pointer (some a)) 1).run Try.prog w = .ok (.pointer (some (a.add 1))) w := by kernel_rfl
theorem ent87 (args : Array Value) (w : World) : (callFunc 87 args).run Try.prog w = .ok (.enter 87 args) w := enters Try.func87 (by kernel_rfl) rfl args w
theorem ent86 (args : Array Value) (w : World) : (callFunc 86 args).run Try.prog w = .ok (.enter 86 args) w := enters Try.func86 (by kernel_rfl) rfl args w
theorem fld60_2 (a : Addr) (w : World) : (Instr.fieldAt 60 (.pointer (some a)) 2).run Try.prog w = .ok (.pointer (some (a.add 2))) w := by kernel_rfl
theorem agg9 (w : World) : (isAgg 9).run Try.prog w = .ok false w := by kernel_rfl
theorem ent67 (args : Array Value) (w : World) : (callFunc 67 args).run Try.prog w = .ok (.enter 67 args) w := enters Try.func67 (by kernel_rfl) rfl args w
theorem fld26_3 (a : Addr) (w : World) : (Instr.fieldAt 26 (.pointer (some a)) 3).run Try.prog w = .ok (.pointer (some (a.add 3))) w := by kernel_rfl
theorem agg23 (w : World) : (isAgg 23).run Try.prog w = .ok false w := by kernel_rfl
theorem ent46 (args : Array Value) (w : World) : (callFunc 46 args).run Try.prog w = .ok (.enter 46 args) w := enters Try.func46 (by kernel_rfl) rfl args w
theorem ent68 (args : Array Value) (w : World) : (callFunc 68 args).run Try.prog w = .ok (.enter 68 args) w := enters Try.func68 (by kernel_rfl) rfl args w
theorem fld26_4 (a : Addr) (w : World) : (Instr.fieldAt 26 (.pointer (some a)) 4).run Try.prog w = .ok (.pointer (some (a.add 4))) w := by kernel_rfl
theorem agg24 (w : World) : (isAgg 24).run Try.prog w = .ok false w := by kernel_rfl
theorem ent88 (args : Array Value) (w : World) : (callFunc 88 args).run Try.prog w = .ok (.enter 88 args) w := enters Try.func88 (by kernel_rfl) rfl args w
theorem ent95 (args : Array Value) (w : World) : (callFunc 95 args).run Try.prog w = .ok (.enter 95 args) w := enters Try.func95 (by kernel_rfl) rfl args w
theorem ent94 (args : Array Value) (w : World) : (callFunc 94 args).run Try.prog w = .ok (.enter 94 args) w := enters Try.func94 (by kernel_rfl) rfl args w
theorem alloc81 (w : World) : (Instr.alloc 81 true (.tuple #[])).run Try.prog w = .ok (.pointer (some ⟨w.heap.size, 0, none⟩)) (w.alloc (.cells [.int .i64 0, .int .i64 0].toArray 81)) := by kernel_rfl
theorem fld60_0 (a : Addr) (w : World) : (Instr.fieldAt 60 (.pointer (some a)) 0).run Try.prog w = .ok (.pointer (some (a.add 0))) w := by kernel_rfl
theorem fld60_1 (a : Addr) (w : World) : (Instr.fieldAt 60 (.pointer (some a)) 1).run Try.prog w = .ok (.pointer (some (a.add 1))) w := by kernel_rfl
theorem size81 (w : World) : (sizeOf 81).run Try.prog w = .ok 2 w := by kernel_rfl
theorem agg81 (w : World) : (isAgg 81).run Try.prog w = .ok true w := by kernel_rfl
theorem fld58_0 (a : Addr) (w : World) : (Instr.fieldAt 58 (.pointer (some a)) 0).run Try.prog w = .ok (.pointer (some (a.add 0))) w := by kernel_rfl
theorem fld58_1 (a : Addr) (w : World) : (Instr.fieldAt 58 (.pointer (some a)) 1).run Try.prog w = .ok (.pointer (some (a.add 1))) w := by kernel_rfl
theorem fld58_2 (a : Addr) (w : World) : (Instr.fieldAt 58 (.pointer (some a)) 2).run Try.prog w = .ok (.pointer (some (a.add 2))) w := by kernel_rfl
theorem ent52 (args : Array Value) (w : World) : (callFunc 52 args).run Try.prog w = .ok (.enter 52 args) w := enters Try.func52 (by kernel_rfl) rfl args w
theorem ent89 (args : Array Value) (w : World) : (callFunc 89 args).run Try.prog w = .ok (.enter 89 args) w := enters Try.func89 (by kernel_rfl) rfl args w
theorem ent53 (args : Array Value) (w : World) : (callFunc 53 args).run Try.prog w = .ok (.enter 53 args) w := enters Try.func53 (by kernel_rfl) rfl args w
theorem fld60_3 (a : Addr) (w : World) : (Instr.fieldAt 60 (.pointer (some a)) 3).run Try.prog w = .ok (.pointer (some (a.add 3))) w := by kernel_rfl
theorem agg58 (w : World) : (isAgg 58).run Try.prog w = .ok true w := by kernel_rfl
theorem size58 (w : World) : (sizeOf 58).run Try.prog w = .ok 3 w := by kernel_rfl
theorem ent73 (args : Array Value) (w : World) : (callFunc 73 args).run Try.prog w = .ok (.enter 73 args) w := enters Try.func73 (by kernel_rfl) rfl args w
theorem eqv95 (x y : Ar3_Int) : EqV Try.prog 95 2 (.agg #[.int .i64 x.e0, .int .i64 x.e1, .int .i64 x.e2]) (.agg #[.int .i64 y.e0, .int .i64 y.e1, .int .i64 y.e2]) (decide (x = y)) := by
  have e : decide (x = y) = (decide (x.e0 = y.e0) && (decide (x.e1 = y.e1) && (decide (x.e2 = y.e2) && true))) := by cases x; cases y; simp [Bool.eq_iff_iff]
  rw [e]
  exact EqV.array (n := 1) Try.underlying95 (fun w => by kernel_rfl) (EqE.cons (a := (.int .i64 x.e0)) (b := (.int .i64 y.e0)) (fun w => by kernel_rfl) (fun w => by kernel_rfl) (EqV.int Try.underlying3) (EqE.cons (a := (.int .i64 x.e1)) (b := (.int .i64 y.e1)) (fun w => by kernel_rfl) (fun w => by kernel_rfl) (EqV.int Try.underlying3) (EqE.cons (a := (.int .i64 x.e2)) (b := (.int .i64 y.e2)) (fun w => by kernel_rfl) (fun w => by kernel_rfl) (EqV.int Try.underlying3) EqE.nil)))
theorem eqg95 : Try.prog.eqGuardType Try.prog.depth 95 = false := by kernel_rfl
theorem ent72 (args : Array Value) (w : World) : (callFunc 72 args).run Try.prog w = .ok (.enter 72 args) w := enters Try.func72 (by kernel_rfl) rfl args w
theorem ent74 (args : Array Value) (w : World) : (callFunc 74 args).run Try.prog w = .ok (.enter 74 args) w := enters Try.func74 (by kernel_rfl) rfl args w
theorem fld26_0 (a : Addr) (w : World) : (Instr.fieldAt 26 (.pointer (some a)) 0).run Try.prog w = .ok (.pointer (some (a.add 0))) w := by kernel_rfl
theorem ent69 (args : Array Value) (w : World) : (callFunc 69 args).run Try.prog w = .ok (.enter 69 args) w := enters Try.func69 (by kernel_rfl) rfl args w
theorem ent70 (args : Array Value) (w : World) : (callFunc 70 args).run Try.prog w = .ok (.enter 70 args) w := enters Try.func70 (by kernel_rfl) rfl args w
theorem ent71 (args : Array Value) (w : World) : (callFunc 71 args).run Try.prog w = .ok (.enter 71 args) w := enters Try.func71 (by kernel_rfl) rfl args w
theorem ent48 (args : Array Value) (w : World) : (callFunc 48 args).run Try.prog w = .ok (.enter 48 args) w := enters Try.func48 (by kernel_rfl) rfl args w
theorem ent39 (args : Array Value) (w : World) : (callFunc 39 args).run Try.prog w = .ok (.enter 39 args) w := enters Try.func39 (by kernel_rfl) rfl args w
theorem ent51 (args : Array Value) (w : World) : (callFunc 51 args).run Try.prog w = .ok (.enter 51 args) w := enters Try.func51 (by kernel_rfl) rfl args w
theorem ent65 (args : Array Value) (w : World) : (callFunc 65 args).run Try.prog w = .ok (.enter 65 args) w := enters Try.func65 (by kernel_rfl) rfl args w
theorem agg26 (w : World) : (isAgg 26).run Try.prog w = .ok true w := by kernel_rfl
theorem size26 (w : World) : (sizeOf 26).run Try.prog w = .ok 5 w := by kernel_rfl
theorem ent38 (args : Array Value) (w : World) : (callFunc 38 args).run Try.prog w = .ok (.enter 38 args) w := enters Try.func38 (by kernel_rfl) rfl args w
theorem ent47 (args : Array Value) (w : World) : (callFunc 47 args).run Try.prog w = .ok (.enter 47 args) w := enters Try.func47 (by kernel_rfl) rfl args w
theorem ent49 (args : Array Value) (w : World) : (callFunc 49 args).run Try.prog w = .ok (.enter 49 args) w := enters Try.func49 (by kernel_rfl) rfl args w
theorem ent50 (args : Array Value) (w : World) : (callFunc 50 args).run Try.prog w = .ok (.enter 50 args) w := enters Try.func50 (by kernel_rfl) rfl args w
theorem ent44 (args : Array Value) (w : World) : (callFunc 44 args).run Try.prog w = .ok (.enter 44 args) w := enters Try.func44 (by kernel_rfl) rfl args w
theorem ent45 (args : Array Value) (w : World) : (callFunc 45 args).run Try.prog w = .ok (.enter 45 args) w := enters Try.func45 (by kernel_rfl) rfl args w
theorem alloc60 (w : World) : (Instr.alloc 60 true (.tuple #[])).run Try.prog w = .ok (.pointer (some ⟨w.heap.size, 0, none⟩)) (w.alloc (.cells [.int .i64 0, .int .i64 0, vstr [], .int .i64 0, .int .i64 0, .int .i64 0].toArray 60)) := by kernel_rfl
theorem ent40 (args : Array Value) (w : World) : (callFunc 40 args).run Try.prog w = .ok (.enter 40 args) w := enters Try.func40 (by kernel_rfl) rfl args w
theorem eqv81 (x y : Ar2_Int) : EqV Try.prog 81 2 (.agg #[.int .i64 x.e0, .int .i64 x.e1]) (.agg #[.int .i64 y.e0, .int .i64 y.e1]) (decide (x = y)) := by
  have e : decide (x = y) = (decide (x.e0 = y.e0) && (decide (x.e1 = y.e1) && true)) := by cases x; cases y; simp [Bool.eq_iff_iff]
  rw [e]
  exact EqV.array (n := 1) Try.underlying81 (fun w => by kernel_rfl) (EqE.cons (a := (.int .i64 x.e0)) (b := (.int .i64 y.e0)) (fun w => by kernel_rfl) (fun w => by kernel_rfl) (EqV.int Try.underlying3) (EqE.cons (a := (.int .i64 x.e1)) (b := (.int .i64 y.e1)) (fun w => by kernel_rfl) (fun w => by kernel_rfl) (EqV.int Try.underlying3) EqE.nil))
theorem eqg81 : Try.prog.eqGuardType Try.prog.depth 81 = false := by kernel_rfl
theorem ent23 (args : Array Value) (w : World) : (callFunc 23 args).run Try.prog w = .ok (.enter 23 args) w := enters Try.func23 (by kernel_rfl) rfl args w
theorem ent91 (args : Array Value) (w : World) : (callFunc 91 args).run Try.prog w = .ok (.enter 91 args) w := enters Try.func91 (by kernel_rfl) rfl args w
theorem ent82 (args : Array Value) (w : World) : (callFunc 82 args).run Try.prog w = .ok (.enter 82 args) w := enters Try.func82 (by kernel_rfl) rfl args w
theorem eqv39 (x y : TRect) : EqV Try.prog 39 2 (.agg #[.int .i64 x.Row, .int .i64 x.Col, .int .i64 x.Rows, .int .i64 x.Cols]) (.agg #[.int .i64 y.Row, .int .i64 y.Col, .int .i64 y.Rows, .int .i64 y.Cols]) (decide (x = y)) := by
  have e : decide (x = y) = (decide (x.Row = y.Row) && (decide (x.Col = y.Col) && (decide (x.Rows = y.Rows) && (decide (x.Cols = y.Cols) && true)))) := by cases x; cases y; simp [Bool.eq_iff_iff]
  rw [e]
  exact EqV.struct Try.underlying39 (by kernel_rfl) (EqF.cons (a := (.int .i64 x.Row)) (b := (.int .i64 y.Row)) (by decide) (fun w => by kernel_rfl) (fun w => by kernel_rfl) (EqV.int Try.underlying3) (EqF.cons (a := (.int .i64 x.Col)) (b := (.int .i64 y.Col)) (by decide) (fun w => by kernel_rfl) (fun w => by kernel_rfl) (EqV.int Try.underlying3) (EqF.cons (a := (.int .i64 x.Rows)) (b := (.int .i64 y.Rows)) (by decide) (fun w => by kernel_rfl) (fun w => by kernel_rfl) (EqV.int Try.underlying3) (EqF.cons (a := (.int .i64 x.Cols)) (b := (.int .i64 y.Cols)) (by decide) (fun w => by kernel_rfl) (fun w => by kernel_rfl) (EqV.int Try.underlying3) EqF.nil))))
theorem eqg39 : Try.prog.eqGuardType Try.prog.depth 39 = false := by kernel_rfl
theorem ent30 (args : Array Value) (w : World) : (callFunc 30 args).run Try.prog w = .ok (.enter 30 args) w := enters Try.func30 (by kernel_rfl) rfl args w
theorem ent31 (args : Array Value) (w : World) : (callFunc 31 args).run Try.prog w = .ok (.enter 31 args) w := enters Try.func31 (by kernel_rfl) rfl args w
theorem eqv58 (x y : TStyle) : EqV Try.prog 58 2 (.agg #[.int .i64 x.Align, .int .i64 x.Wrap, .int .i64 x.Dir]) (.agg #[.int .i64 y.Align, .int .i64 y.Wrap, .int .i64 y.Dir]) (decide (x = y)) := by
  have e : decide (x = y) = (decide (x.Align = y.Align) && (decide (x.Wrap = y.Wrap) && (decide (x.Dir = y.Dir) && true))) := by cases x; cases y; simp [Bool.eq_iff_iff]
  rw [e]
  exact EqV.struct Try.underlying58 (by kernel_rfl) (EqF.cons (a := (.int .i64 x.Align)) (b := (.int .i64 y.Align)) (by decide) (fun w => by kernel_rfl) (fun w => by kernel_rfl) (EqV.int Try.underlying3) (EqF.cons (a := (.int .i64 x.Wrap)) (b := (.int .i64 y.Wrap)) (by decide) (fun w => by kernel_rfl) (fun w => by kernel_rfl) (EqV.int Try.underlying3) (EqF.cons (a := (.int .i64 x.Dir)) (b := (.int .i64 y.Dir)) (by decide) (fun w => by kernel_rfl) (fun w => by kernel_rfl) (EqV.int Try.underlying3) EqF.nil)))
theorem eqg58 : Try.prog.eqGuardType Try.prog.depth 58 = false := by kernel_rfl
theorem eqv60 (x y : TCell) : EqV Try.prog 60 3 (.agg #[.int .i64 x.Row, .int .i64 x.Col, vstr x.Text, .int .i64 x.Style.Align, .int .i64 x.Style.Wrap, .int .i64 x.Style.Dir]) (.agg #[.int .i64 y.Row, .int .i64 y.Col, vstr y.Text, .int .i64 y.Style.Align, .int .i64 y.Style.Wrap, .int .i64 y.Style.Dir]) (decide (x = y)) := by
  have e : decide (x = y) = (decide (x.Row = y.Row) && (decide (x.Col = y.Col) && (decide (x.Text = y.Text) && (decide (x.Style = y.Style) && true)))) := by cases x; cases y; simp [Bool.eq_iff_iff]
  rw [e]
  exact EqV.struct Try.underlying60 (by kernel_rfl) (EqF.cons (a := (.int .i64 x.Row)) (b := (.int .i64 y.Row)) (by decide) (fun w => by kernel_rfl) (fun w => by kernel_rfl) ((EqV.int Try.underlying3).up 1) (EqF.cons (a := (.int .i64 x.Col)) (b := (.int .i64 y.Col)) (by decide) (fun w => by kernel_rfl) (fun w => by kernel_rfl) ((EqV.int Try.underlying3).up 1) (EqF.cons (a := (vstr x.Text)) (b := (vstr y.Text)) (by decide) (fun w => by kernel_rfl) (fun w => by kernel_rfl) ((EqV.str Try.underlying9).up 1) (EqF.cons (a := (.agg #[.int .i64 x.Style.Align, .int .i64 x.Style.Wrap, .int .i64 x.Style.Dir])) (b := (.agg #[.int .i64 y.Style.Align, .int .i64 y.Style.Wrap, .int .i64 y.Style.Dir])) (by decide) (fun w => by kernel_rfl) (fun w => by kernel_rfl) (eqv58 x.Style y.Style) EqF.nil))))
theorem eqg60 : Try.prog.eqGuardType Try.prog.depth 60 = false := by kernel_rfl
theorem alloc26 (w : World) : (Instr.alloc 26 true (.tuple #[])).run Try.prog w = .ok (.pointer (some ⟨w.heap.size, 0, none⟩)) (w.alloc (.cells [.int .i64 0, .slice none 0 0, .slice none 0 0, .slice none 0 0, .slice none 0 0].toArray 26)) := by kernel_rfl
theorem elem23 : ElemInfo Try.prog 23 60 6 56 := ElemInfo.of (z := .agg #[.int .i64 0, .int .i64 0, vstr [], .int .i64 0, .int .i64 0, .int .i64 0]) Try.underlying23 (by kernel_rfl) rfl (by decide)
theorem elem24 : ElemInfo Try.prog 24 39 4 32 := ElemInfo.of (z := .agg #[.int .i64 0, .int .i64 0, .int .i64 0, .int .i64 0]) Try.underlying24 (by kernel_rfl) rfl (by decide)
theorem ent80 (args : Array Value) (w : World) : (callFunc 80 args).run Try.prog w = .ok (.enter 80 args) w := enters Try.func80 (by kernel_rfl) rfl args w
theorem ent81 (args : Array Value) (w : World) : (callFunc 81 args).run Try.prog w = .ok (.enter 81 args) w := enters Try.func81 (by kernel_rfl) rfl args w
theorem ent56 (args : Array Value) (w : World) : (callFunc 56 args).run Try.prog w = .ok (.enter 56 args) w := enters Try.func56 (by kernel_rfl) rfl args w
theorem ent57 (args : Array Value) (w : World) : (callFunc 57 args).run Try.prog w = .ok (.enter 57 args) w := enters Try.func57 (by kernel_rfl) rfl args w
theorem ent58 (args : Array Value) (w : World) : (callFunc 58 args).run Try.prog w = .ok (.enter 58 args) w := enters Try.func58 (by kernel_rfl) rfl args w
theorem ent59 (args : Array Value) (w : World) : (callFunc 59 args).run Try.prog w = .ok (.enter 59 args) w := enters Try.func59 (by kernel_rfl) rfl args w
theorem ent60 (args : Array Value) (w : World) : (callFunc 60 args).run Try.prog w = .ok (.enter 60 args) w := enters Try.func60 (by kernel_rfl) rfl args w
end Go.Proofs.YtalpekmbknjeeaaG
