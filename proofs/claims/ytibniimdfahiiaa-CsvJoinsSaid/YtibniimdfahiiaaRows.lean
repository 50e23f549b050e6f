/-
  No cell of these rows narrows 'for every input' (looked for: loops, veiled, ifaces, maps, wideKeys, modest, calm, conditions, laid).
  DERIVED. THE GIVEN ROWS OF THIS SEAT. 9 by the template 'for every input the law returns true; each argument reads behind the call as it read before'; 0 by the template 'total and deterministic' (their statements: YtibniimdfahiiaaTotals.lean).
  GIVEN WITH THE SEED: the statements are not yours to turn. If you find one false, say at which input.
  Laid BY PROGRAM, IN A SANDBOX (cutbox-rows.mjs): the forced cells as the released guide's own fill.sh prints them over the translation a00c5513010bf95b… (all of the seat's roots in one cut). By AI agents, Wed Nov 11 2026. No macro, syntax, notation, axiom, sorry.
-/
import Derived.Test.YtibniimdfahiiaaChecked
import GoSem.Claim
import GoSem.ClaimJoined
import GoSem.ClaimMapViews
import Derived.JoinedTies
import Derived.KernelRfl
namespace Go.Proofs.Ytibniimdfahiiaa
/- THE CELL 'sum', in the pinned program and in every row, IS THE sha256 OF THE DUMP (.gsa) THAT YtibniimdfahiiaaProg.lean LOADS. Nothing in Lean hashes anything: it is a label: what it is worth is what the hold of that sum in a sandbox is worth. -/
noncomputable def Try.pinned : Pinned := { name := "ytibniimdfahiiaa", sum := "a00c5513010bf95b66a52ce4f2c2b2a7a1b724028f07e1fcccc471bf19baaddc", checked := Try.checked }
namespace Rows
def none {H : Type} : Left H := { results := [], args := [] }

/-- 'parquetrylaw23.AxisStarts': WHATEVER THE INPUT: true; the input reads as it did. -/
def axisStartsSpec : ChangeSpec := { name := "axisStarts", fn := fun _ => fun
  | [d1, d2] => { results := [.lit (.bool true)], args := [d1, d2] }
  | _ => none }
def axisStartsRow : OpenClaim := { program := "ytibniimdfahiiaa", sum := "a00c5513010bf95b66a52ce4f2c2b2a7a1b724028f07e1fcccc471bf19baaddc", func := "parquetry/parquetrylaw23.AxisStarts", spec := "axisStarts", apart := false }
def AxisStartsSaid : Prop := axisStartsRow.holds Try.pinned (OpenSpec.ofChange axisStartsSpec)

/-- ITS FALSE NEIGHBOUR: 'it returns false'. Refute it at one input. -/
def axisStartsWrong : ChangeSpec := { name := "axisStarts", fn := fun _ => fun
  | [d1, d2] => { results := [.lit (.bool false)], args := [d1, d2] }
  | _ => none }
def AxisStartsWrongFalsely : Prop := axisStartsRow.holds Try.pinned (OpenSpec.ofChange axisStartsWrong)

/-- 'parquetrylaw23.AxisBoxes': WHATEVER THE INPUT: true; the input reads as it did. -/
def axisBoxesSpec : ChangeSpec := { name := "axisBoxes", fn := fun _ => fun
  | [d1, d2, d3] => { results := [.lit (.bool true)], args := [d1, d2, d3] }
  | _ => none }
def axisBoxesRow : OpenClaim := { program := "ytibniimdfahiiaa", sum := "a00c5513010bf95b66a52ce4f2c2b2a7a1b724028f07e1fcccc471bf19baaddc", func := "parquetry/parquetrylaw23.AxisBoxes", spec := "axisBoxes", apart := false }
def AxisBoxesSaid : Prop := axisBoxesRow.holds Try.pinned (OpenSpec.ofChange axisBoxesSpec)

/-- ITS FALSE NEIGHBOUR: 'it returns false'. Refute it at one input. -/
def axisBoxesWrong : ChangeSpec := { name := "axisBoxes", fn := fun _ => fun
  | [d1, d2, d3] => { results := [.lit (.bool false)], args := [d1, d2, d3] }
  | _ => none }
def AxisBoxesWrongFalsely : Prop := axisBoxesRow.holds Try.pinned (OpenSpec.ofChange axisBoxesWrong)

/-- 'parquetrylaw23.AxisEach': WHATEVER THE INPUT: true; the input reads as it did. -/
def axisEachSpec : ChangeSpec := { name := "axisEach", fn := fun _ => fun
  | [d] => { results := [.lit (.bool true)], args := [d] }
  | _ => none }
def axisEachRow : OpenClaim := { program := "ytibniimdfahiiaa", sum := "a00c5513010bf95b66a52ce4f2c2b2a7a1b724028f07e1fcccc471bf19baaddc", func := "parquetry/parquetrylaw23.AxisEach", spec := "axisEach", apart := false }
def AxisEachSaid : Prop := axisEachRow.holds Try.pinned (OpenSpec.ofChange axisEachSpec)

/-- ITS FALSE NEIGHBOUR: 'it returns false'. Refute it at one input. -/
def axisEachWrong : ChangeSpec := { name := "axisEach", fn := fun _ => fun
  | [d] => { results := [.lit (.bool false)], args := [d] }
  | _ => none }
def AxisEachWrongFalsely : Prop := axisEachRow.holds Try.pinned (OpenSpec.ofChange axisEachWrong)

/-- 'parquetrylaw23.AxisSide': WHATEVER THE INPUT: true; the input reads as it did. -/
def axisSideSpec : ChangeSpec := { name := "axisSide", fn := fun _ => fun
  | [d1, d2, d3, d4, d5] => { results := [.lit (.bool true)], args := [d1, d2, d3, d4, d5] }
  | _ => none }
def axisSideRow : OpenClaim := { program := "ytibniimdfahiiaa", sum := "a00c5513010bf95b66a52ce4f2c2b2a7a1b724028f07e1fcccc471bf19baaddc", func := "parquetry/parquetrylaw23.AxisSide", spec := "axisSide", apart := false }
def AxisSideSaid : Prop := axisSideRow.holds Try.pinned (OpenSpec.ofChange axisSideSpec)

/-- ITS FALSE NEIGHBOUR: 'it returns false'. Refute it at one input. -/
def axisSideWrong : ChangeSpec := { name := "axisSide", fn := fun _ => fun
  | [d1, d2, d3, d4, d5] => { results := [.lit (.bool false)], args := [d1, d2, d3, d4, d5] }
  | _ => none }
def AxisSideWrongFalsely : Prop := axisSideRow.holds Try.pinned (OpenSpec.ofChange axisSideWrong)

/-- 'parquetrylaw07.CsvFirst': WHATEVER THE INPUT: true; the input reads as it did. -/
def csvFirstSpec : ChangeSpec := { name := "csvFirst", fn := fun _ => fun
  | [d1, d2] => { results := [.lit (.bool true)], args := [d1, d2] }
  | _ => none }
def csvFirstRow : OpenClaim := { program := "ytibniimdfahiiaa", sum := "a00c5513010bf95b66a52ce4f2c2b2a7a1b724028f07e1fcccc471bf19baaddc", func := "parquetry/parquetrylaw07.CsvFirst", spec := "csvFirst", unfollowed := true, recurses := true, apart := false }
def CsvFirstSaid : Prop := csvFirstRow.holds Try.pinned (OpenSpec.ofChange csvFirstSpec)

/-- ITS FALSE NEIGHBOUR: 'it returns false'. Refute it at one input. -/
def csvFirstWrong : ChangeSpec := { name := "csvFirst", fn := fun _ => fun
  | [d1, d2] => { results := [.lit (.bool false)], args := [d1, d2] }
  | _ => none }
def CsvFirstWrongFalsely : Prop := csvFirstRow.holds Try.pinned (OpenSpec.ofChange csvFirstWrong)

/-- 'parquetrylaw07.CsvJoins': WHATEVER THE INPUT: true; the input reads as it did. -/
def csvJoinsSpec : ChangeSpec := { name := "csvJoins", fn := fun _ => fun
  | [d1, d2] => { results := [.lit (.bool true)], args := [d1, d2] }
  | _ => none }
def csvJoinsRow : OpenClaim := { program := "ytibniimdfahiiaa", sum := "a00c5513010bf95b66a52ce4f2c2b2a7a1b724028f07e1fcccc471bf19baaddc", func := "parquetry/parquetrylaw07.CsvJoins", spec := "csvJoins", unfollowed := true, recurses := true, apart := false }
def CsvJoinsSaid : Prop := csvJoinsRow.holds Try.pinned (OpenSpec.ofChange csvJoinsSpec)

/-- ITS FALSE NEIGHBOUR: 'it returns false'. Refute it at one input. -/
def csvJoinsWrong : ChangeSpec := { name := "csvJoins", fn := fun _ => fun
  | [d1, d2] => { results := [.lit (.bool false)], args := [d1, d2] }
  | _ => none }
def CsvJoinsWrongFalsely : Prop := csvJoinsRow.holds Try.pinned (OpenSpec.ofChange csvJoinsWrong)

/-- 'parquetrylaw23.AxisScreens': WHATEVER THE INPUT: true; the input reads as it did. -/
def axisScreensSpec : ChangeSpec := { name := "axisScreens", fn := fun _ => fun
  | [d1, d2, d3, d4, d5, d6] => { results := [.lit (.bool true)], args := [d1, d2, d3, d4, d5, d6] }
  | _ => none }
def axisScreensRow : OpenClaim := { program := "ytibniimdfahiiaa", sum := "a00c5513010bf95b66a52ce4f2c2b2a7a1b724028f07e1fcccc471bf19baaddc", func := "parquetry/parquetrylaw23.AxisScreens", spec := "axisScreens", apart := false }
def AxisScreensSaid : Prop := axisScreensRow.holds Try.pinned (OpenSpec.ofChange axisScreensSpec)

/-- ITS FALSE NEIGHBOUR: 'it returns false'. Refute it at one input. -/
def axisScreensWrong : ChangeSpec := { name := "axisScreens", fn := fun _ => fun
  | [d1, d2, d3, d4, d5, d6] => { results := [.lit (.bool false)], args := [d1, d2, d3, d4, d5, d6] }
  | _ => none }
def AxisScreensWrongFalsely : Prop := axisScreensRow.holds Try.pinned (OpenSpec.ofChange axisScreensWrong)

/-- 'parquetrylaw23.AxisBack': WHATEVER THE INPUT: true; the input reads as it did. -/
def axisBackSpec : ChangeSpec := { name := "axisBack", fn := fun _ => fun
  | [d1, d2, d3, d4, d5, d6] => { results := [.lit (.bool true)], args := [d1, d2, d3, d4, d5, d6] }
  | _ => none }
def axisBackRow : OpenClaim := { program := "ytibniimdfahiiaa", sum := "a00c5513010bf95b66a52ce4f2c2b2a7a1b724028f07e1fcccc471bf19baaddc", func := "parquetry/parquetrylaw23.AxisBack", spec := "axisBack", apart := false }
def AxisBackSaid : Prop := axisBackRow.holds Try.pinned (OpenSpec.ofChange axisBackSpec)

/-- ITS FALSE NEIGHBOUR: 'it returns false'. Refute it at one input. -/
def axisBackWrong : ChangeSpec := { name := "axisBack", fn := fun _ => fun
  | [d1, d2, d3, d4, d5, d6] => { results := [.lit (.bool false)], args := [d1, d2, d3, d4, d5, d6] }
  | _ => none }
def AxisBackWrongFalsely : Prop := axisBackRow.holds Try.pinned (OpenSpec.ofChange axisBackWrong)

/-- 'parquetrylaw07.CsvParses': WHATEVER THE INPUT: true; the input reads as it did. -/
def csvParsesSpec : ChangeSpec := { name := "csvParses", fn := fun _ => fun
  | [d] => { results := [.lit (.bool true)], args := [d] }
  | _ => none }
def csvParsesRow : OpenClaim := { program := "ytibniimdfahiiaa", sum := "a00c5513010bf95b66a52ce4f2c2b2a7a1b724028f07e1fcccc471bf19baaddc", func := "parquetry/parquetrylaw07.CsvParses", spec := "csvParses", unfollowed := true, recurses := true, apart := false }
def CsvParsesSaid : Prop := csvParsesRow.holds Try.pinned (OpenSpec.ofChange csvParsesSpec)

/-- ITS FALSE NEIGHBOUR: 'it returns false'. Refute it at one input. -/
def csvParsesWrong : ChangeSpec := { name := "csvParses", fn := fun _ => fun
  | [d] => { results := [.lit (.bool false)], args := [d] }
  | _ => none }
def CsvParsesWrongFalsely : Prop := csvParsesRow.holds Try.pinned (OpenSpec.ofChange csvParsesWrong)

/- THE SECOND FORM. 'bulk': how many values and letters a reading holds, each counted each time it is reached (what is shared counts as often as it is met; a slice's spare places count too). A statement '..UptoSaid' is the law's where the arguments, and the package variables that the reading takes, are together of bulk at most 1048576: NARROWER than '..Said'. Prove '..Said' where nothing that the law and all that it calls make is longer than what came in: it says more and counts as full. Else prove '..UptoSaid'. A law counts once. -/
mutual
def uptoBulk {H : Type} : DataW H → Nat
  | .lit (.string bytes) => bytes.length + 1
  | .lit _ => 1
  | .nil => 1
  | .ptr d => uptoBulk d + 1
  | .slice elems spare => uptoBulkAll elems + uptoBulkAll spare + 1
  | .agg parts => uptoBulkAll parts + 1
  | .iface _ d => uptoBulk d + 1
  | .map entries => uptoBulkEntries entries + 1
  | .held _ => 1
def uptoBulkAll {H : Type} : List (DataW H) → Nat
  | [] => 0
  | d :: r => uptoBulk d + uptoBulkAll r
def uptoBulkEntries {H : Type} : List (Lit × DataW H) → Nat
  | [] => 0
  | x :: r => uptoBulkEntry x + uptoBulkEntries r
def uptoBulkEntry {H : Type} : Lit × DataW H → Nat
  | (.string bytes, d) => bytes.length + uptoBulk d + 1
  | (_, d) => uptoBulk d + 1
 end
def uptoSmall : (H : Type) → List (DataW H) → Bool := fun _ ds => decide (uptoBulkAll ds ≤ 1048576)
def OpenSpec.upto (s : _root_.Go.ChangeSpec) : _root_.Go.OpenSpec := { _root_.Go.OpenSpec.ofChange s with cond := some uptoSmall }

/-- 'parquetrylaw23.AxisStarts', WHERE WHAT IT READS IS OF BULK AT MOST 1048576: true; the input reads as it did. -/
def axisStartsUptoRow : OpenClaim := { program := "ytibniimdfahiiaa", sum := "a00c5513010bf95b66a52ce4f2c2b2a7a1b724028f07e1fcccc471bf19baaddc", func := "parquetry/parquetrylaw23.AxisStarts", spec := "axisStarts", apart := false, narrowed := true }
def AxisStartsUptoSaid : Prop := axisStartsUptoRow.holds Try.pinned (OpenSpec.upto axisStartsSpec)

/-- 'parquetrylaw23.AxisBoxes', WHERE WHAT IT READS IS OF BULK AT MOST 1048576: true; the input reads as it did. -/
def axisBoxesUptoRow : OpenClaim := { program := "ytibniimdfahiiaa", sum := "a00c5513010bf95b66a52ce4f2c2b2a7a1b724028f07e1fcccc471bf19baaddc", func := "parquetry/parquetrylaw23.AxisBoxes", spec := "axisBoxes", apart := false, narrowed := true }
def AxisBoxesUptoSaid : Prop := axisBoxesUptoRow.holds Try.pinned (OpenSpec.upto axisBoxesSpec)

/-- 'parquetrylaw23.AxisEach', WHERE WHAT IT READS IS OF BULK AT MOST 1048576: true; the input reads as it did. -/
def axisEachUptoRow : OpenClaim := { program := "ytibniimdfahiiaa", sum := "a00c5513010bf95b66a52ce4f2c2b2a7a1b724028f07e1fcccc471bf19baaddc", func := "parquetry/parquetrylaw23.AxisEach", spec := "axisEach", apart := false, narrowed := true }
def AxisEachUptoSaid : Prop := axisEachUptoRow.holds Try.pinned (OpenSpec.upto axisEachSpec)

/-- 'parquetrylaw23.AxisSide', WHERE WHAT IT READS IS OF BULK AT MOST 1048576: true; the input reads as it did. -/
def axisSideUptoRow : OpenClaim := { program := "ytibniimdfahiiaa", sum := "a00c5513010bf95b66a52ce4f2c2b2a7a1b724028f07e1fcccc471bf19baaddc", func := "parquetry/parquetrylaw23.AxisSide", spec := "axisSide", apart := false, narrowed := true }
def AxisSideUptoSaid : Prop := axisSideUptoRow.holds Try.pinned (OpenSpec.upto axisSideSpec)

/-- 'parquetrylaw07.CsvFirst', WHERE WHAT IT READS IS OF BULK AT MOST 1048576: true; the input reads as it did. -/
def csvFirstUptoRow : OpenClaim := { program := "ytibniimdfahiiaa", sum := "a00c5513010bf95b66a52ce4f2c2b2a7a1b724028f07e1fcccc471bf19baaddc", func := "parquetry/parquetrylaw07.CsvFirst", spec := "csvFirst", unfollowed := true, recurses := true, apart := false, narrowed := true }
def CsvFirstUptoSaid : Prop := csvFirstUptoRow.holds Try.pinned (OpenSpec.upto csvFirstSpec)

/-- 'parquetrylaw07.CsvJoins', WHERE WHAT IT READS IS OF BULK AT MOST 1048576: true; the input reads as it did. -/
def csvJoinsUptoRow : OpenClaim := { program := "ytibniimdfahiiaa", sum := "a00c5513010bf95b66a52ce4f2c2b2a7a1b724028f07e1fcccc471bf19baaddc", func := "parquetry/parquetrylaw07.CsvJoins", spec := "csvJoins", unfollowed := true, recurses := true, apart := false, narrowed := true }
def CsvJoinsUptoSaid : Prop := csvJoinsUptoRow.holds Try.pinned (OpenSpec.upto csvJoinsSpec)

/-- 'parquetrylaw23.AxisScreens', WHERE WHAT IT READS IS OF BULK AT MOST 1048576: true; the input reads as it did. -/
def axisScreensUptoRow : OpenClaim := { program := "ytibniimdfahiiaa", sum := "a00c5513010bf95b66a52ce4f2c2b2a7a1b724028f07e1fcccc471bf19baaddc", func := "parquetry/parquetrylaw23.AxisScreens", spec := "axisScreens", apart := false, narrowed := true }
def AxisScreensUptoSaid : Prop := axisScreensUptoRow.holds Try.pinned (OpenSpec.upto axisScreensSpec)

/-- 'parquetrylaw23.AxisBack', WHERE WHAT IT READS IS OF BULK AT MOST 1048576: true; the input reads as it did. -/
def axisBackUptoRow : OpenClaim := { program := "ytibniimdfahiiaa", sum := "a00c5513010bf95b66a52ce4f2c2b2a7a1b724028f07e1fcccc471bf19baaddc", func := "parquetry/parquetrylaw23.AxisBack", spec := "axisBack", apart := false, narrowed := true }
def AxisBackUptoSaid : Prop := axisBackUptoRow.holds Try.pinned (OpenSpec.upto axisBackSpec)

/-- 'parquetrylaw07.CsvParses', WHERE WHAT IT READS IS OF BULK AT MOST 1048576: true; the input reads as it did. -/
def csvParsesUptoRow : OpenClaim := { program := "ytibniimdfahiiaa", sum := "a00c5513010bf95b66a52ce4f2c2b2a7a1b724028f07e1fcccc471bf19baaddc", func := "parquetry/parquetrylaw07.CsvParses", spec := "csvParses", unfollowed := true, recurses := true, apart := false, narrowed := true }
def CsvParsesUptoSaid : Prop := csvParsesUptoRow.holds Try.pinned (OpenSpec.upto csvParsesSpec)

end Rows
end Go.Proofs.Ytibniimdfahiiaa
