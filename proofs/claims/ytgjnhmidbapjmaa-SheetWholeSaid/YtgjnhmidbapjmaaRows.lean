/-
  No cell of these rows narrows 'for every input' (looked for: loops, veiled, ifaces, maps, wideKeys, modest, calm, conditions, laid).
  DERIVED. THE GIVEN ROWS OF THIS SEAT. 9 by the template 'for every input the law returns true; each argument reads behind the call as it read before'; 0 by the template 'total and deterministic' (their statements: YtgjnhmidbapjmaaTotals.lean).
  GIVEN WITH THE SEED: the statements are not yours to turn. If you find one false, say at which input.
  Laid BY PROGRAM, IN A SANDBOX (cutbox-rows.mjs): the forced cells as the released guide's own fill.sh prints them over the translation baebfb53c8b27e40… (all of the seat's roots in one cut). By AI agents, Wed Nov 11 2026. No macro, syntax, notation, axiom, sorry.
-/
import Derived.Test.YtgjnhmidbapjmaaChecked
import GoSem.Claim
import GoSem.ClaimJoined
import GoSem.ClaimMapViews
import Derived.JoinedTies
import Derived.KernelRfl
namespace Go.Proofs.Ytgjnhmidbapjmaa
/- THE CELL 'sum', in the pinned program and in every row, IS THE sha256 OF THE DUMP (.gsa) THAT YtgjnhmidbapjmaaProg.lean LOADS. Nothing in Lean hashes anything: it is a label: what it is worth is what the hold of that sum in a sandbox is worth. -/
noncomputable def Try.pinned : Pinned := { name := "ytgjnhmidbapjmaa", sum := "baebfb53c8b27e40be0d798a858e2b87e7d2fe5b0b5f6496b1b8aa3bc6708278", checked := Try.checked }
namespace Rows
def none {H : Type} : Left H := { results := [], args := [] }

/-- 'parquetrylaw09.TableChecks': WHATEVER THE INPUT: true; the input reads as it did. -/
def tableChecksSpec : ChangeSpec := { name := "tableChecks", fn := fun _ => fun
  | [d] => { results := [.lit (.bool true)], args := [d] }
  | _ => none }
def tableChecksRow : OpenClaim := { program := "ytgjnhmidbapjmaa", sum := "baebfb53c8b27e40be0d798a858e2b87e7d2fe5b0b5f6496b1b8aa3bc6708278", func := "parquetry/parquetrylaw09.TableChecks", spec := "tableChecks", unfollowed := true, recurses := true, apart := false }
def TableChecksSaid : Prop := tableChecksRow.holds Try.pinned (OpenSpec.ofChange tableChecksSpec)

/-- ITS FALSE NEIGHBOUR: 'it returns false'. Refute it at one input. -/
def tableChecksWrong : ChangeSpec := { name := "tableChecks", fn := fun _ => fun
  | [d] => { results := [.lit (.bool false)], args := [d] }
  | _ => none }
def TableChecksWrongFalsely : Prop := tableChecksRow.holds Try.pinned (OpenSpec.ofChange tableChecksWrong)

/-- 'parquetrylaw09.TableMakes': WHATEVER THE INPUT: true; the input reads as it did. -/
def tableMakesSpec : ChangeSpec := { name := "tableMakes", fn := fun _ => fun
  | [d] => { results := [.lit (.bool true)], args := [d] }
  | _ => none }
def tableMakesRow : OpenClaim := { program := "ytgjnhmidbapjmaa", sum := "baebfb53c8b27e40be0d798a858e2b87e7d2fe5b0b5f6496b1b8aa3bc6708278", func := "parquetry/parquetrylaw09.TableMakes", spec := "tableMakes", unfollowed := true, recurses := true, apart := false }
def TableMakesSaid : Prop := tableMakesRow.holds Try.pinned (OpenSpec.ofChange tableMakesSpec)

/-- ITS FALSE NEIGHBOUR: 'it returns false'. Refute it at one input. -/
def tableMakesWrong : ChangeSpec := { name := "tableMakes", fn := fun _ => fun
  | [d] => { results := [.lit (.bool false)], args := [d] }
  | _ => none }
def TableMakesWrongFalsely : Prop := tableMakesRow.holds Try.pinned (OpenSpec.ofChange tableMakesWrong)

/-- 'parquetrylaw09.TableStays': WHATEVER THE INPUT: true; the input reads as it did. -/
def tableStaysSpec : ChangeSpec := { name := "tableStays", fn := fun _ => fun
  | [d] => { results := [.lit (.bool true)], args := [d] }
  | _ => none }
def tableStaysRow : OpenClaim := { program := "ytgjnhmidbapjmaa", sum := "baebfb53c8b27e40be0d798a858e2b87e7d2fe5b0b5f6496b1b8aa3bc6708278", func := "parquetry/parquetrylaw09.TableStays", spec := "tableStays", unfollowed := true, recurses := true, apart := false }
def TableStaysSaid : Prop := tableStaysRow.holds Try.pinned (OpenSpec.ofChange tableStaysSpec)

/-- ITS FALSE NEIGHBOUR: 'it returns false'. Refute it at one input. -/
def tableStaysWrong : ChangeSpec := { name := "tableStays", fn := fun _ => fun
  | [d] => { results := [.lit (.bool false)], args := [d] }
  | _ => none }
def TableStaysWrongFalsely : Prop := tableStaysRow.holds Try.pinned (OpenSpec.ofChange tableStaysWrong)

/-- 'parquetrylaw09.TableTurns': WHATEVER THE INPUT: true; the input reads as it did. -/
def tableTurnsSpec : ChangeSpec := { name := "tableTurns", fn := fun _ => fun
  | [d] => { results := [.lit (.bool true)], args := [d] }
  | _ => none }
def tableTurnsRow : OpenClaim := { program := "ytgjnhmidbapjmaa", sum := "baebfb53c8b27e40be0d798a858e2b87e7d2fe5b0b5f6496b1b8aa3bc6708278", func := "parquetry/parquetrylaw09.TableTurns", spec := "tableTurns", unfollowed := true, recurses := true, apart := false }
def TableTurnsSaid : Prop := tableTurnsRow.holds Try.pinned (OpenSpec.ofChange tableTurnsSpec)

/-- ITS FALSE NEIGHBOUR: 'it returns false'. Refute it at one input. -/
def tableTurnsWrong : ChangeSpec := { name := "tableTurns", fn := fun _ => fun
  | [d] => { results := [.lit (.bool false)], args := [d] }
  | _ => none }
def TableTurnsWrongFalsely : Prop := tableTurnsRow.holds Try.pinned (OpenSpec.ofChange tableTurnsWrong)

/-- 'parquetrylaw21.SheetMeets': WHATEVER THE INPUT: true; the input reads as it did. -/
def sheetMeetsSpec : ChangeSpec := { name := "sheetMeets", fn := fun _ => fun
  | [d1, d2] => { results := [.lit (.bool true)], args := [d1, d2] }
  | _ => none }
def sheetMeetsRow : OpenClaim := { program := "ytgjnhmidbapjmaa", sum := "baebfb53c8b27e40be0d798a858e2b87e7d2fe5b0b5f6496b1b8aa3bc6708278", func := "parquetry/parquetrylaw21.SheetMeets", spec := "sheetMeets", unfollowed := true, recurses := true, apart := false }
def SheetMeetsSaid : Prop := sheetMeetsRow.holds Try.pinned (OpenSpec.ofChange sheetMeetsSpec)

/-- ITS FALSE NEIGHBOUR: 'it returns false'. Refute it at one input. -/
def sheetMeetsWrong : ChangeSpec := { name := "sheetMeets", fn := fun _ => fun
  | [d1, d2] => { results := [.lit (.bool false)], args := [d1, d2] }
  | _ => none }
def SheetMeetsWrongFalsely : Prop := sheetMeetsRow.holds Try.pinned (OpenSpec.ofChange sheetMeetsWrong)

/-- 'parquetrylaw21.SheetGets': WHATEVER THE INPUT: true; the input reads as it did. -/
def sheetGetsSpec : ChangeSpec := { name := "sheetGets", fn := fun _ => fun
  | [d1, d2, d3] => { results := [.lit (.bool true)], args := [d1, d2, d3] }
  | _ => none }
def sheetGetsRow : OpenClaim := { program := "ytgjnhmidbapjmaa", sum := "baebfb53c8b27e40be0d798a858e2b87e7d2fe5b0b5f6496b1b8aa3bc6708278", func := "parquetry/parquetrylaw21.SheetGets", spec := "sheetGets", unfollowed := true, recurses := true, apart := false }
def SheetGetsSaid : Prop := sheetGetsRow.holds Try.pinned (OpenSpec.ofChange sheetGetsSpec)

/-- ITS FALSE NEIGHBOUR: 'it returns false'. Refute it at one input. -/
def sheetGetsWrong : ChangeSpec := { name := "sheetGets", fn := fun _ => fun
  | [d1, d2, d3] => { results := [.lit (.bool false)], args := [d1, d2, d3] }
  | _ => none }
def SheetGetsWrongFalsely : Prop := sheetGetsRow.holds Try.pinned (OpenSpec.ofChange sheetGetsWrong)

/-- 'parquetrylaw21.SheetWhole': WHATEVER THE INPUT: true; the input reads as it did. -/
def sheetWholeSpec : ChangeSpec := { name := "sheetWhole", fn := fun _ => fun
  | [d] => { results := [.lit (.bool true)], args := [d] }
  | _ => none }
def sheetWholeRow : OpenClaim := { program := "ytgjnhmidbapjmaa", sum := "baebfb53c8b27e40be0d798a858e2b87e7d2fe5b0b5f6496b1b8aa3bc6708278", func := "parquetry/parquetrylaw21.SheetWhole", spec := "sheetWhole", unfollowed := true, recurses := true, apart := false }
def SheetWholeSaid : Prop := sheetWholeRow.holds Try.pinned (OpenSpec.ofChange sheetWholeSpec)

/-- ITS FALSE NEIGHBOUR: 'it returns false'. Refute it at one input. -/
def sheetWholeWrong : ChangeSpec := { name := "sheetWhole", fn := fun _ => fun
  | [d] => { results := [.lit (.bool false)], args := [d] }
  | _ => none }
def SheetWholeWrongFalsely : Prop := sheetWholeRow.holds Try.pinned (OpenSpec.ofChange sheetWholeWrong)

/-- 'parquetrylaw21.SheetMeeting': WHATEVER THE INPUT: true; the input reads as it did. -/
def sheetMeetingSpec : ChangeSpec := { name := "sheetMeeting", fn := fun _ => fun
  | [d1, d2] => { results := [.lit (.bool true)], args := [d1, d2] }
  | _ => none }
def sheetMeetingRow : OpenClaim := { program := "ytgjnhmidbapjmaa", sum := "baebfb53c8b27e40be0d798a858e2b87e7d2fe5b0b5f6496b1b8aa3bc6708278", func := "parquetry/parquetrylaw21.SheetMeeting", spec := "sheetMeeting", unfollowed := true, recurses := true, apart := false }
def SheetMeetingSaid : Prop := sheetMeetingRow.holds Try.pinned (OpenSpec.ofChange sheetMeetingSpec)

/-- ITS FALSE NEIGHBOUR: 'it returns false'. Refute it at one input. -/
def sheetMeetingWrong : ChangeSpec := { name := "sheetMeeting", fn := fun _ => fun
  | [d1, d2] => { results := [.lit (.bool false)], args := [d1, d2] }
  | _ => none }
def SheetMeetingWrongFalsely : Prop := sheetMeetingRow.holds Try.pinned (OpenSpec.ofChange sheetMeetingWrong)

/-- 'parquetrylaw21.SheetOwns': WHATEVER THE INPUT: true; the input reads as it did. -/
def sheetOwnsSpec : ChangeSpec := { name := "sheetOwns", fn := fun _ => fun
  | [d1, d2] => { results := [.lit (.bool true)], args := [d1, d2] }
  | _ => none }
def sheetOwnsRow : OpenClaim := { program := "ytgjnhmidbapjmaa", sum := "baebfb53c8b27e40be0d798a858e2b87e7d2fe5b0b5f6496b1b8aa3bc6708278", func := "parquetry/parquetrylaw21.SheetOwns", spec := "sheetOwns", unfollowed := true, recurses := true, apart := false }
def SheetOwnsSaid : Prop := sheetOwnsRow.holds Try.pinned (OpenSpec.ofChange sheetOwnsSpec)

/-- ITS FALSE NEIGHBOUR: 'it returns false'. Refute it at one input. -/
def sheetOwnsWrong : ChangeSpec := { name := "sheetOwns", fn := fun _ => fun
  | [d1, d2] => { results := [.lit (.bool false)], args := [d1, d2] }
  | _ => none }
def SheetOwnsWrongFalsely : Prop := sheetOwnsRow.holds Try.pinned (OpenSpec.ofChange sheetOwnsWrong)

/- THE SECOND FORM. 'bulk': how many values and letters a reading holds, each counted each time it is reached (what is shared counts as often as it is met; a slice's spare places count too). A statement '..UptoSaid' is the law's where the arguments, and the package variables that the reading takes, are together of bulk at most 1048576: NARROWER than '..Said'. Prove '..Said' where nothing that the law and all that it calls make is longer than what came in: it says more and counts as full. Else prove '..UptoSaid'. A law counts once. -/
mutual
def uptoBulk {H : Type} : DataW H → Nat
  | .lit (.string bytes) => bytes.length + 1
  | .lit _ => 1
  | .nil => 1
  | .ptr d => uptoBulk d + 1
  | .slice elems spare => uptoBulkAll elems + uptoBulkAll spare + 1
  | .agg parts => uptoBulkAll parts + 1
  | .iface _ d => uptoBulk d + 1
  | .map entries => uptoBulkEntries entries + 1
  | .held _ => 1
def uptoBulkAll {H : Type} : List (DataW H) → Nat
  | [] => 0
  | d :: r => uptoBulk d + uptoBulkAll r
def uptoBulkEntries {H : Type} : List (Lit × DataW H) → Nat
  | [] => 0
  | x :: r => uptoBulkEntry x + uptoBulkEntries r
def uptoBulkEntry {H : Type} : Lit × DataW H → Nat
  | (.string bytes, d) => bytes.length + uptoBulk d + 1
  | (_, d) => uptoBulk d + 1
 end
def uptoSmall : (H : Type) → List (DataW H) → Bool := fun _ ds => decide (uptoBulkAll ds ≤ 1048576)
def OpenSpec.upto (s : _root_.Go.ChangeSpec) : _root_.Go.OpenSpec := { _root_.Go.OpenSpec.ofChange s with cond := some uptoSmall }

/-- 'parquetrylaw09.TableChecks', WHERE WHAT IT READS IS OF BULK AT MOST 1048576: true; the input reads as it did. -/
def tableChecksUptoRow : OpenClaim := { program := "ytgjnhmidbapjmaa", sum := "baebfb53c8b27e40be0d798a858e2b87e7d2fe5b0b5f6496b1b8aa3bc6708278", func := "parquetry/parquetrylaw09.TableChecks", spec := "tableChecks", unfollowed := true, recurses := true, apart := false, narrowed := true }
def TableChecksUptoSaid : Prop := tableChecksUptoRow.holds Try.pinned (OpenSpec.upto tableChecksSpec)

/-- 'parquetrylaw09.TableMakes', WHERE WHAT IT READS IS OF BULK AT MOST 1048576: true; the input reads as it did. -/
def tableMakesUptoRow : OpenClaim := { program := "ytgjnhmidbapjmaa", sum := "baebfb53c8b27e40be0d798a858e2b87e7d2fe5b0b5f6496b1b8aa3bc6708278", func := "parquetry/parquetrylaw09.TableMakes", spec := "tableMakes", unfollowed := true, recurses := true, apart := false, narrowed := true }
def TableMakesUptoSaid : Prop := tableMakesUptoRow.holds Try.pinned (OpenSpec.upto tableMakesSpec)

/-- 'parquetrylaw09.TableStays', WHERE WHAT IT READS IS OF BULK AT MOST 1048576: true; the input reads as it did. -/
def tableStaysUptoRow : OpenClaim := { program := "ytgjnhmidbapjmaa", sum := "baebfb53c8b27e40be0d798a858e2b87e7d2fe5b0b5f6496b1b8aa3bc6708278", func := "parquetry/parquetrylaw09.TableStays", spec := "tableStays", unfollowed := true, recurses := true, apart := false, narrowed := true }
def TableStaysUptoSaid : Prop := tableStaysUptoRow.holds Try.pinned (OpenSpec.upto tableStaysSpec)

/-- 'parquetrylaw09.TableTurns', WHERE WHAT IT READS IS OF BULK AT MOST 1048576: true; the input reads as it did. -/
def tableTurnsUptoRow : OpenClaim := { program := "ytgjnhmidbapjmaa", sum := "baebfb53c8b27e40be0d798a858e2b87e7d2fe5b0b5f6496b1b8aa3bc6708278", func := "parquetry/parquetrylaw09.TableTurns", spec := "tableTurns", unfollowed := true, recurses := true, apart := false, narrowed := true }
def TableTurnsUptoSaid : Prop := tableTurnsUptoRow.holds Try.pinned (OpenSpec.upto tableTurnsSpec)

/-- 'parquetrylaw21.SheetMeets', WHERE WHAT IT READS IS OF BULK AT MOST 1048576: true; the input reads as it did. -/
def sheetMeetsUptoRow : OpenClaim := { program := "ytgjnhmidbapjmaa", sum := "baebfb53c8b27e40be0d798a858e2b87e7d2fe5b0b5f6496b1b8aa3bc6708278", func := "parquetry/parquetrylaw21.SheetMeets", spec := "sheetMeets", unfollowed := true, recurses := true, apart := false, narrowed := true }
def SheetMeetsUptoSaid : Prop := sheetMeetsUptoRow.holds Try.pinned (OpenSpec.upto sheetMeetsSpec)

/-- 'parquetrylaw21.SheetGets', WHERE WHAT IT READS IS OF BULK AT MOST 1048576: true; the input reads as it did. -/
def sheetGetsUptoRow : OpenClaim := { program := "ytgjnhmidbapjmaa", sum := "baebfb53c8b27e40be0d798a858e2b87e7d2fe5b0b5f6496b1b8aa3bc6708278", func := "parquetry/parquetrylaw21.SheetGets", spec := "sheetGets", unfollowed := true, recurses := true, apart := false, narrowed := true }
def SheetGetsUptoSaid : Prop := sheetGetsUptoRow.holds Try.pinned (OpenSpec.upto sheetGetsSpec)

/-- 'parquetrylaw21.SheetWhole', WHERE WHAT IT READS IS OF BULK AT MOST 1048576: true; the input reads as it did. -/
def sheetWholeUptoRow : OpenClaim := { program := "ytgjnhmidbapjmaa", sum := "baebfb53c8b27e40be0d798a858e2b87e7d2fe5b0b5f6496b1b8aa3bc6708278", func := "parquetry/parquetrylaw21.SheetWhole", spec := "sheetWhole", unfollowed := true, recurses := true, apart := false, narrowed := true }
def SheetWholeUptoSaid : Prop := sheetWholeUptoRow.holds Try.pinned (OpenSpec.upto sheetWholeSpec)

/-- 'parquetrylaw21.SheetMeeting', WHERE WHAT IT READS IS OF BULK AT MOST 1048576: true; the input reads as it did. -/
def sheetMeetingUptoRow : OpenClaim := { program := "ytgjnhmidbapjmaa", sum := "baebfb53c8b27e40be0d798a858e2b87e7d2fe5b0b5f6496b1b8aa3bc6708278", func := "parquetry/parquetrylaw21.SheetMeeting", spec := "sheetMeeting", unfollowed := true, recurses := true, apart := false, narrowed := true }
def SheetMeetingUptoSaid : Prop := sheetMeetingUptoRow.holds Try.pinned (OpenSpec.upto sheetMeetingSpec)

/-- 'parquetrylaw21.SheetOwns', WHERE WHAT IT READS IS OF BULK AT MOST 1048576: true; the input reads as it did. -/
def sheetOwnsUptoRow : OpenClaim := { program := "ytgjnhmidbapjmaa", sum := "baebfb53c8b27e40be0d798a858e2b87e7d2fe5b0b5f6496b1b8aa3bc6708278", func := "parquetry/parquetrylaw21.SheetOwns", spec := "sheetOwns", unfollowed := true, recurses := true, apart := false, narrowed := true }
def SheetOwnsUptoSaid : Prop := sheetOwnsUptoRow.holds Try.pinned (OpenSpec.upto sheetOwnsSpec)

end Rows
end Go.Proofs.Ytgjnhmidbapjmaa
