/- Facts of the program's own functions and types. -/
import Derived.Test.YtgjnhmidbapjmaaProg
import Derived.Test.YtgjnhmidbapjmaaTy2
import Derived.Test.YtgjnhmidbapjmaaSheW
import Derived.KernelRfl
set_option linter.all false
namespace Go.Proofs.YtgjnhmidbapjmaaG
open Go Go.RowKit
theorem size3 (w : World) : (sizeOf 3).run Try.prog w = .ok 1 w := by kernel_rfl
theorem agg3 (w : World) : (isAgg 3).run Try.prog w = .ok false w := by kernel_rfl
theorem ent98 (args : Array Value) (w : World) : (callFunc 98 args).run Try.prog w = .ok (.enter 98 args) w := enters Try.func98 (by kernel_rfl) rfl args w
theorem size46 (w : World) : (sizeOf 46).run Try.prog w = .ok 6 w := by kernel_rfl
theorem agg46 (w : World) : (isAgg 46).run Try.prog w = .ok true w := by kernel_rfl
theorem ent56 (args : Array Value) (w : World) : (callFunc 56 args).run Try.prog w = .ok (.enter 56 args) w := enters Try.func56 (by kernel_rfl) rfl args w
theorem size33 (w : World) : (sizeOf 33).run Try.prog w = .ok 4 w := by kernel_rfl
theorem agg33 (w : World) : (isAgg 33).run Try.prog w = .ok true w := by kernel_rfl
theorem ent79 (args : Array Value) (w : World) : (callFunc 79 args).run Try.prog w = .ok (.enter 79 args) w := enters Try.func79 (by kernel_rfl) rfl args w
theorem fld33_0 (a : Addr) (w : World) : (Instr.fieldAt 33 (.pointer (some a)) 0).run Try.prog w = .ok (.pointer (some (a.add 0))) w := by kernel_rfl
theorem fld33_2 (a : Addr) (w : World) : (Instr.fieldAt 33 (.pointer (some a)) 2).run Try.prog w = .ok (.pointer (some (a.add 2))) w := by kernel_rfl
theorem ent48 (args : Array Value) (w : World) : (callFunc 48 args).run Try.prog w = .ok (.enter 48 args) w := enters Try.func48 (by kernel_rfl) rfl args w
theorem fld33_1 (a : Addr) (w : World) : (Instr.fieldAt 33 (.pointer (some a)) 1).run Try.prog w = .ok (.pointer (some (a.add 1))) w := by kernel_rfl
theorem fld33_3 (a : Addr) (w : World) : (Instr.fieldAt 33 (.pointer (some a)) 3).run Try.prog w = .ok (.pointer (some (a.add 3))) w := by kernel_rfl
theorem alloc33 (w : World) : (Instr.alloc 33 true (.tuple #[])).run Try.prog w = .ok (.pointer (some ⟨w.heap.size, 0, none⟩)) (w.alloc (.cells [.int .i64 0, .int .i64 0, .int .i64 0, .int .i64 0].toArray 33)) := by kernel_rfl
theorem fld39_2 (a : Addr) (w : World) : (Instr.fieldAt 39 (.pointer (some a)) 2).run Try.prog w = .ok (.pointer (some (a.add 2))) w := by kernel_rfl
theorem agg35 (w : World) : (isAgg 35).run Try.prog w = .ok false w := by kernel_rfl
theorem fld39_1 (a : Addr) (w : World) : (Instr.fieldAt 39 (.pointer (some a)) 1).run Try.prog w = .ok (.pointer (some (a.add 1))) w := by kernel_rfl
theorem ent95 (args : Array Value) (w : World) : (callFunc 95 args).run Try.prog w = .ok (.enter 95 args) w := enters Try.func95 (by kernel_rfl) rfl args w
theorem ent94 (args : Array Value) (w : World) : (callFunc 94 args).run Try.prog w = .ok (.enter 94 args) w := enters Try.func94 (by kernel_rfl) rfl args w
theorem fld46_2 (a : Addr) (w : World) : (Instr.fieldAt 46 (.pointer (some a)) 2).run Try.prog w = .ok (.pointer (some (a.add 2))) w := by kernel_rfl
theorem agg9 (w : World) : (isAgg 9).run Try.prog w = .ok false w := by kernel_rfl
theorem ent84 (args : Array Value) (w : World) : (callFunc 84 args).run Try.prog w = .ok (.enter 84 args) w := enters Try.func84 (by kernel_rfl) rfl args w
theorem fld39_3 (a : Addr) (w : World) : (Instr.fieldAt 39 (.pointer (some a)) 3).run Try.prog w = .ok (.pointer (some (a.add 3))) w := by kernel_rfl
theorem agg36 (w : World) : (isAgg 36).run Try.prog w = .ok false w := by kernel_rfl
theorem ent62 (args : Array Value) (w : World) : (callFunc 62 args).run Try.prog w = .ok (.enter 62 args) w := enters Try.func62 (by kernel_rfl) rfl args w
theorem ent85 (args : Array Value) (w : World) : (callFunc 85 args).run Try.prog w = .ok (.enter 85 args) w := enters Try.func85 (by kernel_rfl) rfl args w
theorem fld39_4 (a : Addr) (w : World) : (Instr.fieldAt 39 (.pointer (some a)) 4).run Try.prog w = .ok (.pointer (some (a.add 4))) w := by kernel_rfl
theorem agg37 (w : World) : (isAgg 37).run Try.prog w = .ok false w := by kernel_rfl
theorem ent96 (args : Array Value) (w : World) : (callFunc 96 args).run Try.prog w = .ok (.enter 96 args) w := enters Try.func96 (by kernel_rfl) rfl args w
theorem ent101 (args : Array Value) (w : World) : (callFunc 101 args).run Try.prog w = .ok (.enter 101 args) w := enters Try.func101 (by kernel_rfl) rfl args w
theorem ent100 (args : Array Value) (w : World) : (callFunc 100 args).run Try.prog w = .ok (.enter 100 args) w := enters Try.func100 (by kernel_rfl) rfl args w
theorem ent99 (args : Array Value) (w : World) : (callFunc 99 args).run Try.prog w = .ok (.enter 99 args) w := enters Try.func99 (by kernel_rfl) rfl args w
theorem alloc75 (w : World) : (Instr.alloc 75 true (.tuple #[])).run Try.prog w = .ok (.pointer (some ⟨w.heap.size, 0, none⟩)) (w.alloc (.cells [.int .i64 0, .int .i64 0].toArray 75)) := by kernel_rfl
theorem fld46_0 (a : Addr) (w : World) : (Instr.fieldAt 46 (.pointer (some a)) 0).run Try.prog w = .ok (.pointer (some (a.add 0))) w := by kernel_rfl
theorem fld46_1 (a : Addr) (w : World) : (Instr.fieldAt 46 (.pointer (some a)) 1).run Try.prog w = .ok (.pointer (some (a.add 1))) w := by kernel_rfl
theorem size75 (w : World) : (sizeOf 75).run Try.prog w = .ok 2 w := by kernel_rfl
theorem agg75 (w : World) : (isAgg 75).run Try.prog w = .ok true w := by kernel_rfl
theorem fld44_0 (a : Addr) (w : World) : (Instr.fieldAt 44 (.pointer (some a)) 0).run Try.prog w = .ok (.pointer (some (a.add 0))) w := by kernel_rfl
theorem fld44_1 (a : Addr) (w : World) : (Instr.fieldAt 44 (.pointer (some a)) 1).run Try.prog w = .ok (.pointer (some (a.add 1))) w := by kernel_rfl
theorem fld44_2 (a : Addr) (w : World) : (Instr.fieldAt 44 (.pointer (some a)) 2).run Try.prog w = .ok (.pointer (some (a.add 2))) w := by kernel_rfl
theorem ent58 (args : Array Value) (w : World) : (callFunc 58 args).run Try.prog w = .ok (.enter 58 args) w := enters Try.func58 (by kernel_rfl) rfl args w
theorem ent97 (args : Array Value) (w : World) : (callFunc 97 args).run Try.prog w = .ok (.enter 97 args) w := enters Try.func97 (by kernel_rfl) rfl args w
theorem ent59 (args : Array Value) (w : World) : (callFunc 59 args).run Try.prog w = .ok (.enter 59 args) w := enters Try.func59 (by kernel_rfl) rfl args w
theorem fld46_3 (a : Addr) (w : World) : (Instr.fieldAt 46 (.pointer (some a)) 3).run Try.prog w = .ok (.pointer (some (a.add 3))) w := by kernel_rfl
theorem agg44 (w : World) : (isAgg 44).run Try.prog w = .ok true w := by kernel_rfl
theorem size44 (w : World) : (sizeOf 44).run Try.prog w = .ok 3 w := by kernel_rfl
theorem ent90 (args : Array Value) (w : World) : (callFunc 90 args).run Try.prog w = .ok (.enter 90 args) w := enters Try.func90 (by kernel_rfl) rfl args w
theorem eqv102 (x y : Ar3_Int) : EqV Try.prog 102 2 (.agg #[.int .i64 x.e0, .int .i64 x.e1, .int .i64 x.e2]) (.agg #[.int .i64 y.e0, .int .i64 y.e1, .int .i64 y.e2]) (decide (x = y)) := by
  have e : decide (x = y) = (decide (x.e0 = y.e0) && (decide (x.e1 = y.e1) && (decide (x.e2 = y.e2) && true))) := by cases x; cases y; simp [Bool.eq_iff_iff]
  rw [e]
  exact EqV.array (n := 1) Try.underlying102 (fun w => by kernel_rfl) (EqE.cons (a := (.int .i64 x.e0)) (b := (.int .i64 y.e0)) (fun w => by kernel_rfl) (fun w => by kernel_rfl) (EqV.int Try.underlying3) (EqE.cons (a := (.int .i64 x.e1)) (b := (.int .i64 y.e1)) (fun w => by kernel_rfl) (fun w => by kernel_rfl) (EqV.int Try.underlying3) (EqE.cons (a := (.int .i64 x.e2)) (b := (.int .i64 y.e2)) (fun w => by kernel_rfl) (fun w => by kernel_rfl) (EqV.int Try.underlying3) EqE.nil)))
theorem eqg102 : Try.prog.eqGuardType Try.prog.depth 102 = false := by kernel_rfl
theorem ent89 (args : Array Value) (w : World) : (callFunc 89 args).run Try.prog w = .ok (.enter 89 args) w := enters Try.func89 (by kernel_rfl) rfl args w
theorem ent91 (args : Array Value) (w : World) : (callFunc 91 args).run Try.prog w = .ok (.enter 91 args) w := enters Try.func91 (by kernel_rfl) rfl args w
theorem fld39_0 (a : Addr) (w : World) : (Instr.fieldAt 39 (.pointer (some a)) 0).run Try.prog w = .ok (.pointer (some (a.add 0))) w := by kernel_rfl
theorem ent86 (args : Array Value) (w : World) : (callFunc 86 args).run Try.prog w = .ok (.enter 86 args) w := enters Try.func86 (by kernel_rfl) rfl args w
theorem ent87 (args : Array Value) (w : World) : (callFunc 87 args).run Try.prog w = .ok (.enter 87 args) w := enters Try.func87 (by kernel_rfl) rfl args w
theorem ent88 (args : Array Value) (w : World) : (callFunc 88 args).run Try.prog w = .ok (.enter 88 args) w := enters Try.func88 (by kernel_rfl) rfl args w
theorem ent64 (args : Array Value) (w : World) : (callFunc 64 args).run Try.prog w = .ok (.enter 64 args) w := enters Try.func64 (by kernel_rfl) rfl args w
theorem ent52 (args : Array Value) (w : World) : (callFunc 52 args).run Try.prog w = .ok (.enter 52 args) w := enters Try.func52 (by kernel_rfl) rfl args w
theorem ent27 (args : Array Value) (w : World) : (callFunc 27 args).run Try.prog w = .ok (.enter 27 args) w := enters Try.func27 (by kernel_rfl) rfl args w
theorem ent80 (args : Array Value) (w : World) : (callFunc 80 args).run Try.prog w = .ok (.enter 80 args) w := enters Try.func80 (by kernel_rfl) rfl args w
theorem agg39 (w : World) : (isAgg 39).run Try.prog w = .ok true w := by kernel_rfl
theorem size39 (w : World) : (sizeOf 39).run Try.prog w = .ok 5 w := by kernel_rfl
theorem ent51 (args : Array Value) (w : World) : (callFunc 51 args).run Try.prog w = .ok (.enter 51 args) w := enters Try.func51 (by kernel_rfl) rfl args w
theorem ent63 (args : Array Value) (w : World) : (callFunc 63 args).run Try.prog w = .ok (.enter 63 args) w := enters Try.func63 (by kernel_rfl) rfl args w
theorem ent65 (args : Array Value) (w : World) : (callFunc 65 args).run Try.prog w = .ok (.enter 65 args) w := enters Try.func65 (by kernel_rfl) rfl args w
theorem ent66 (args : Array Value) (w : World) : (callFunc 66 args).run Try.prog w = .ok (.enter 66 args) w := enters Try.func66 (by kernel_rfl) rfl args w
theorem ent60 (args : Array Value) (w : World) : (callFunc 60 args).run Try.prog w = .ok (.enter 60 args) w := enters Try.func60 (by kernel_rfl) rfl args w
theorem ent61 (args : Array Value) (w : World) : (callFunc 61 args).run Try.prog w = .ok (.enter 61 args) w := enters Try.func61 (by kernel_rfl) rfl args w
theorem alloc46 (w : World) : (Instr.alloc 46 true (.tuple #[])).run Try.prog w = .ok (.pointer (some ⟨w.heap.size, 0, none⟩)) (w.alloc (.cells [.int .i64 0, .int .i64 0, vstr [], .int .i64 0, .int .i64 0, .int .i64 0].toArray 46)) := by kernel_rfl
theorem ent53 (args : Array Value) (w : World) : (callFunc 53 args).run Try.prog w = .ok (.enter 53 args) w := enters Try.func53 (by kernel_rfl) rfl args w
theorem eqv75 (x y : Ar2_Int) : EqV Try.prog 75 2 (.agg #[.int .i64 x.e0, .int .i64 x.e1]) (.agg #[.int .i64 y.e0, .int .i64 y.e1]) (decide (x = y)) := by
  have e : decide (x = y) = (decide (x.e0 = y.e0) && (decide (x.e1 = y.e1) && true)) := by cases x; cases y; simp [Bool.eq_iff_iff]
  rw [e]
  exact EqV.array (n := 1) Try.underlying75 (fun w => by kernel_rfl) (EqE.cons (a := (.int .i64 x.e0)) (b := (.int .i64 y.e0)) (fun w => by kernel_rfl) (fun w => by kernel_rfl) (EqV.int Try.underlying3) (EqE.cons (a := (.int .i64 x.e1)) (b := (.int .i64 y.e1)) (fun w => by kernel_rfl) (fun w => by kernel_rfl) (EqV.int Try.underlying3) EqE.nil))
theorem eqg75 : Try.prog.eqGuardType Try.prog.depth 75 = false := by kernel_rfl
theorem ent35 (args : Array Value) (w : World) : (callFunc 35 args).run Try.prog w = .ok (.enter 35 args) w := enters Try.func35 (by kernel_rfl) rfl args w
theorem ent57 (args : Array Value) (w : World) : (callFunc 57 args).run Try.prog w = .ok (.enter 57 args) w := enters Try.func57 (by kernel_rfl) rfl args w
theorem ent31 (args : Array Value) (w : World) : (callFunc 31 args).run Try.prog w = .ok (.enter 31 args) w := enters Try.func31 (by kernel_rfl) rfl args w
theorem elem37 : ElemInfo Try.prog 37 33 4 32 := ElemInfo.of (z := .agg #[.int .i64 0, .int .i64 0, .int .i64 0, .int .i64 0]) Try.underlying37 (by kernel_rfl) rfl (by decide)
theorem elem35 : ElemInfo Try.prog 35 3 1 8 := ElemInfo.of (z := .int .i64 0) Try.underlying35 (by kernel_rfl) rfl (by decide)
theorem eqv44 (x y : TStyle) : EqV Try.prog 44 2 (.agg #[.int .i64 x.Align, .int .i64 x.Wrap, .int .i64 x.Dir]) (.agg #[.int .i64 y.Align, .int .i64 y.Wrap, .int .i64 y.Dir]) (decide (x = y)) := by
  have e : decide (x = y) = (decide (x.Align = y.Align) && (decide (x.Wrap = y.Wrap) && (decide (x.Dir = y.Dir) && true))) := by cases x; cases y; simp [Bool.eq_iff_iff]
  rw [e]
  exact EqV.struct Try.underlying44 (by kernel_rfl) (EqF.cons (a := (.int .i64 x.Align)) (b := (.int .i64 y.Align)) (by decide) (fun w => by kernel_rfl) (fun w => by kernel_rfl) (EqV.int Try.underlying3) (EqF.cons (a := (.int .i64 x.Wrap)) (b := (.int .i64 y.Wrap)) (by decide) (fun w => by kernel_rfl) (fun w => by kernel_rfl) (EqV.int Try.underlying3) (EqF.cons (a := (.int .i64 x.Dir)) (b := (.int .i64 y.Dir)) (by decide) (fun w => by kernel_rfl) (fun w => by kernel_rfl) (EqV.int Try.underlying3) EqF.nil)))
theorem eqg44 : Try.prog.eqGuardType Try.prog.depth 44 = false := by kernel_rfl
theorem eqv46 (x y : TCell) : EqV Try.prog 46 3 (.agg #[.int .i64 x.Row, .int .i64 x.Col, vstr x.Text, .int .i64 x.Style.Align, .int .i64 x.Style.Wrap, .int .i64 x.Style.Dir]) (.agg #[.int .i64 y.Row, .int .i64 y.Col, vstr y.Text, .int .i64 y.Style.Align, .int .i64 y.Style.Wrap, .int .i64 y.Style.Dir]) (decide (x = y)) := by
  have e : decide (x = y) = (decide (x.Row = y.Row) && (decide (x.Col = y.Col) && (decide (x.Text = y.Text) && (decide (x.Style = y.Style) && true)))) := by cases x; cases y; simp [Bool.eq_iff_iff]
  rw [e]
  exact EqV.struct Try.underlying46 (by kernel_rfl) (EqF.cons (a := (.int .i64 x.Row)) (b := (.int .i64 y.Row)) (by decide) (fun w => by kernel_rfl) (fun w => by kernel_rfl) ((EqV.int Try.underlying3).up 1) (EqF.cons (a := (.int .i64 x.Col)) (b := (.int .i64 y.Col)) (by decide) (fun w => by kernel_rfl) (fun w => by kernel_rfl) ((EqV.int Try.underlying3).up 1) (EqF.cons (a := (vstr x.Text)) (b := (vstr y.Text)) (by decide) (fun w => by kernel_rfl) (fun w => by kernel_rfl) ((EqV.str Try.underlying9).up 1) (EqF.cons (a := (.agg #[.int .i64 x.Style.Align, .int .i64 x.Style.Wrap, .int .i64 x.Style.Dir])) (b := (.agg #[.int .i64 y.Style.Align, .int .i64 y.Style.Wrap, .int .i64 y.Style.Dir])) (by decide) (fun w => by kernel_rfl) (fun w => by kernel_rfl) (eqv44 x.Style y.Style) EqF.nil))))
theorem eqg46 : Try.prog.eqGuardType Try.prog.depth 46 = false := by kernel_rfl
theorem elem36 : ElemInfo Try.prog 36 46 6 56 := ElemInfo.of (z := .agg #[.int .i64 0, .int .i64 0, vstr [], .int .i64 0, .int .i64 0, .int .i64 0]) Try.underlying36 (by kernel_rfl) rfl (by decide)
theorem eqv33 (x y : TRect) : EqV Try.prog 33 2 (.agg #[.int .i64 x.Row, .int .i64 x.Col, .int .i64 x.Rows, .int .i64 x.Cols]) (.agg #[.int .i64 y.Row, .int .i64 y.Col, .int .i64 y.Rows, .int .i64 y.Cols]) (decide (x = y)) := by
  have e : decide (x = y) = (decide (x.Row = y.Row) && (decide (x.Col = y.Col) && (decide (x.Rows = y.Rows) && (decide (x.Cols = y.Cols) && true)))) := by cases x; cases y; simp [Bool.eq_iff_iff]
  rw [e]
  exact EqV.struct Try.underlying33 (by kernel_rfl) (EqF.cons (a := (.int .i64 x.Row)) (b := (.int .i64 y.Row)) (by decide) (fun w => by kernel_rfl) (fun w => by kernel_rfl) (EqV.int Try.underlying3) (EqF.cons (a := (.int .i64 x.Col)) (b := (.int .i64 y.Col)) (by decide) (fun w => by kernel_rfl) (fun w => by kernel_rfl) (EqV.int Try.underlying3) (EqF.cons (a := (.int .i64 x.Rows)) (b := (.int .i64 y.Rows)) (by decide) (fun w => by kernel_rfl) (fun w => by kernel_rfl) (EqV.int Try.underlying3) (EqF.cons (a := (.int .i64 x.Cols)) (b := (.int .i64 y.Cols)) (by decide) (fun w => by kernel_rfl) (fun w => by kernel_rfl) (EqV.int Try.underlying3) EqF.nil))))
theorem eqg33 : Try.prog.eqGuardType Try.prog.depth 33 = false := by kernel_rfl
theorem ent72 (args : Array Value) (w : World) : (callFunc 72 args).run Try.prog w = .ok (.enter 72 args) w := enters Try.func72 (by kernel_rfl) rfl args w
theorem ent73 (args : Array Value) (w : World) : (callFunc 73 args).run Try.prog w = .ok (.enter 73 args) w := enters Try.func73 (by kernel_rfl) rfl args w
theorem ent74 (args : Array Value) (w : World) : (callFunc 74 args).run Try.prog w = .ok (.enter 74 args) w := enters Try.func74 (by kernel_rfl) rfl args w
theorem ent78 (args : Array Value) (w : World) : (callFunc 78 args).run Try.prog w = .ok (.enter 78 args) w := enters Try.func78 (by kernel_rfl) rfl args w
theorem ent49 (args : Array Value) (w : World) : (callFunc 49 args).run Try.prog w = .ok (.enter 49 args) w := enters Try.func49 (by kernel_rfl) rfl args w
theorem ent70 (args : Array Value) (w : World) : (callFunc 70 args).run Try.prog w = .ok (.enter 70 args) w := enters Try.func70 (by kernel_rfl) rfl args w
theorem ent71 (args : Array Value) (w : World) : (callFunc 71 args).run Try.prog w = .ok (.enter 71 args) w := enters Try.func71 (by kernel_rfl) rfl args w
theorem alloc39 (w : World) : (Instr.alloc 39 true (.tuple #[])).run Try.prog w = .ok (.pointer (some ⟨w.heap.size, 0, none⟩)) (w.alloc (.cells [.int .i64 0, .slice none 0 0, .slice none 0 0, .slice none 0 0, .slice none 0 0].toArray 39)) := by kernel_rfl
theorem ent67 (args : Array Value) (w : World) : (callFunc 67 args).run Try.prog w = .ok (.enter 67 args) w := enters Try.func67 (by kernel_rfl) rfl args w
theorem size35 (w : World) : (sizeOf 35).run Try.prog w = .ok 1 w := by kernel_rfl
theorem ent68 (args : Array Value) (w : World) : (callFunc 68 args).run Try.prog w = .ok (.enter 68 args) w := enters Try.func68 (by kernel_rfl) rfl args w
theorem ent69 (args : Array Value) (w : World) : (callFunc 69 args).run Try.prog w = .ok (.enter 69 args) w := enters Try.func69 (by kernel_rfl) rfl args w
theorem size36 (w : World) : (sizeOf 36).run Try.prog w = .ok 1 w := by kernel_rfl
theorem size37 (w : World) : (sizeOf 37).run Try.prog w = .ok 1 w := by kernel_rfl
theorem ent50 (args : Array Value) (w : World) : (callFunc 50 args).run Try.prog w = .ok (.enter 50 args) w := enters Try.func50 (by kernel_rfl) rfl args w
theorem ent33 (args : Array Value) (w : World) : (callFunc 33 args).run Try.prog w = .ok (.enter 33 args) w := enters Try.func33 (by kernel_rfl) rfl args w
theorem ent36 (args : Array Value) (w : World) : (callFunc 36 args).run Try.prog w = .ok (.enter 36 args) w := enters Try.func36 (by kernel_rfl) rfl args w
theorem ent28 (args : Array Value) (w : World) : (callFunc 28 args).run Try.prog w = .ok (.enter 28 args) w := enters Try.func28 (by kernel_rfl) rfl args w
theorem ent29 (args : Array Value) (w : World) : (callFunc 29 args).run Try.prog w = .ok (.enter 29 args) w := enters Try.func29 (by kernel_rfl) rfl args w
theorem ent37 (args : Array Value) (w : World) : (callFunc 37 args).run Try.prog w = .ok (.enter 37 args) w := enters Try.func37 (by kernel_rfl) rfl args w
theorem ent30 (args : Array Value) (w : World) : (callFunc 30 args).run Try.prog w = .ok (.enter 30 args) w := enters Try.func30 (by kernel_rfl) rfl args w
theorem ent38 (args : Array Value) (w : World) : (callFunc 38 args).run Try.prog w = .ok (.enter 38 args) w := enters Try.func38 (by kernel_rfl) rfl args w
theorem ent39 (args : Array Value) (w : World) : (callFunc 39 args).run Try.prog w = .ok (.enter 39 args) w := enters Try.func39 (by kernel_rfl) rfl args w
theorem ent40 (args : Array Value) (w : World) : (callFunc 40 args).run Try.prog w = .ok (.enter 40 args) w := enters Try.func40 (by kernel_rfl) rfl args w
theorem ent41 (args : Array Value) (w : World) : (callFunc 41 args).run Try.prog w = .ok (.enter 41 args) w := enters Try.func41 (by kernel_rfl) rfl args w
theorem zero3 (w : World) : (zeroValue 3).run Try.prog w = .ok (.int .i64 0) w := by kernel_rfl
theorem zero46 (w : World) : (zeroValue 46).run Try.prog w = .ok (.agg #[.int .i64 0, .int .i64 0, vstr [], .int .i64 0, .int .i64 0, .int .i64 0]) w := by kernel_rfl
theorem zero33 (w : World) : (zeroValue 33).run Try.prog w = .ok (.agg #[.int .i64 0, .int .i64 0, .int .i64 0, .int .i64 0]) w := by kernel_rfl
theorem ent92 (args : Array Value) (w : World) : (callFunc 92 args).run Try.prog w = .ok (.enter 92 args) w := enters Try.func92 (by kernel_rfl) rfl args w
theorem ent93 (args : Array Value) (w : World) : (callFunc 93 args).run Try.prog w = .ok (.enter 93 args) w := enters Try.func93 (by kernel_rfl) rfl args w
theorem ent81 (args : Array Value) (w : World) : (callFunc 81 args).run Try.prog w = .ok (.enter 81 args) w := enters Try.func81 (by kernel_rfl) rfl args w
theorem ent82 (args : Array Value) (w : World) : (callFunc 82 args).run Try.prog w = .ok (.enter 82 args) w := enters Try.func82 (by kernel_rfl) rfl args w
theorem ent83 (args : Array Value) (w : World) : (callFunc 83 args).run Try.prog w = .ok (.enter 83 args) w := enters Try.func83 (by kernel_rfl) rfl args w
theorem ent55 (args : Array Value) (w : World) : (callFunc 55 args).run Try.prog w = .ok (.enter 55 args) w := enters Try.func55 (by kernel_rfl) rfl args w
theorem ent54 (args : Array Value) (w : World) : (callFunc 54 args).run Try.prog w = .ok (.enter 54 args) w := enters Try.func54 (by kernel_rfl) rfl args w
theorem ent32 (args : Array Value) (w : World) : (callFunc 32 args).run Try.prog w = .ok (.enter 32 args) w := enters Try.func32 (by kernel_rfl) rfl args w
theorem ent34 (args : Array Value) (w : World) : (callFunc 34 args).run Try.prog w = .ok (.enter 34 args) w := enters Try.func34 (by kernel_rfl) rfl args w
end Go.Proofs.YtgjnhmidbapjmaaG
