/-
  No cell of these rows narrows 'for every input' (looked for: loops, veiled, ifaces, maps, wideKeys, modest, calm, conditions, laid).
  DERIVED. THE GIVEN ROWS OF THIS SEAT. 5 by the template 'for every input the law returns true; each argument reads behind the call as it read before'; 0 by the template 'total and deterministic' (their statements: YtalpekmbknjeeaaTotals.lean).
  GIVEN WITH THE SEED: the statements are not yours to turn. If you find one false, say at which input.
  Laid BY PROGRAM, IN A SANDBOX (cutbox-rows.mjs): the forced cells as the released guide's own fill.sh prints them over the translation dec414fe15cf872a… (all of the seat's roots in one cut). By AI agents, Wed Nov 11 2026. No macro, syntax, notation, axiom, sorry.
-/
import Derived.Test.YtalpekmbknjeeaaChecked
import GoSem.Claim
import GoSem.ClaimJoined
import GoSem.ClaimMapViews
import Derived.JoinedTies
import Derived.KernelRfl
namespace Go.Proofs.Ytalpekmbknjeeaa
/- THE CELL 'sum', in the pinned program and in every row, IS THE sha256 OF THE DUMP (.gsa) THAT YtalpekmbknjeeaaProg.lean LOADS. Nothing in Lean hashes anything: it is a label: what it is worth is what the hold of that sum in a sandbox is worth. -/
noncomputable def Try.pinned : Pinned := { name := "ytalpekmbknjeeaa", sum := "dec414fe15cf872af071920675f4d8defc310a783d00066fa5f77f1e91e0c29f", checked := Try.checked }
namespace Rows
def none {H : Type} : Left H := { results := [], args := [] }

/-- 'parquetrylaw24.EdgeArms': WHATEVER THE INPUT: true; the input reads as it did. -/
def edgeArmsSpec : ChangeSpec := { name := "edgeArms", fn := fun _ => fun
  | [d1, d2, d3] => { results := [.lit (.bool true)], args := [d1, d2, d3] }
  | _ => none }
def edgeArmsRow : OpenClaim := { program := "ytalpekmbknjeeaa", sum := "dec414fe15cf872af071920675f4d8defc310a783d00066fa5f77f1e91e0c29f", func := "parquetry/parquetrylaw24.EdgeArms", spec := "edgeArms", unfollowed := true, recurses := true, apart := false }
def EdgeArmsSaid : Prop := edgeArmsRow.holds Try.pinned (OpenSpec.ofChange edgeArmsSpec)

/-- ITS FALSE NEIGHBOUR: 'it returns false'. Refute it at one input. -/
def edgeArmsWrong : ChangeSpec := { name := "edgeArms", fn := fun _ => fun
  | [d1, d2, d3] => { results := [.lit (.bool false)], args := [d1, d2, d3] }
  | _ => none }
def EdgeArmsWrongFalsely : Prop := edgeArmsRow.holds Try.pinned (OpenSpec.ofChange edgeArmsWrong)

/-- 'parquetrylaw24.EdgeSigns': WHATEVER THE INPUT: true; the input reads as it did. -/
def edgeSignsSpec : ChangeSpec := { name := "edgeSigns", fn := fun _ => fun
  | [d1, d2] => { results := [.lit (.bool true)], args := [d1, d2] }
  | _ => none }
def edgeSignsRow : OpenClaim := { program := "ytalpekmbknjeeaa", sum := "dec414fe15cf872af071920675f4d8defc310a783d00066fa5f77f1e91e0c29f", func := "parquetry/parquetrylaw24.EdgeSigns", spec := "edgeSigns", unfollowed := true, recurses := true, apart := false }
def EdgeSignsSaid : Prop := edgeSignsRow.holds Try.pinned (OpenSpec.ofChange edgeSignsSpec)

/-- ITS FALSE NEIGHBOUR: 'it returns false'. Refute it at one input. -/
def edgeSignsWrong : ChangeSpec := { name := "edgeSigns", fn := fun _ => fun
  | [d1, d2] => { results := [.lit (.bool false)], args := [d1, d2] }
  | _ => none }
def EdgeSignsWrongFalsely : Prop := edgeSignsRow.holds Try.pinned (OpenSpec.ofChange edgeSignsWrong)

/-- 'parquetrylaw24.EdgeBoth': WHATEVER THE INPUT: true; the input reads as it did. -/
def edgeBothSpec : ChangeSpec := { name := "edgeBoth", fn := fun _ => fun
  | [d1, d2, d3] => { results := [.lit (.bool true)], args := [d1, d2, d3] }
  | _ => none }
def edgeBothRow : OpenClaim := { program := "ytalpekmbknjeeaa", sum := "dec414fe15cf872af071920675f4d8defc310a783d00066fa5f77f1e91e0c29f", func := "parquetry/parquetrylaw24.EdgeBoth", spec := "edgeBoth", unfollowed := true, recurses := true, apart := false }
def EdgeBothSaid : Prop := edgeBothRow.holds Try.pinned (OpenSpec.ofChange edgeBothSpec)

/-- ITS FALSE NEIGHBOUR: 'it returns false'. Refute it at one input. -/
def edgeBothWrong : ChangeSpec := { name := "edgeBoth", fn := fun _ => fun
  | [d1, d2, d3] => { results := [.lit (.bool false)], args := [d1, d2, d3] }
  | _ => none }
def EdgeBothWrongFalsely : Prop := edgeBothRow.holds Try.pinned (OpenSpec.ofChange edgeBothWrong)

/-- 'parquetrylaw24.EdgeTurns': WHATEVER THE INPUT: true; the input reads as it did. -/
def edgeTurnsSpec : ChangeSpec := { name := "edgeTurns", fn := fun _ => fun
  | [d] => { results := [.lit (.bool true)], args := [d] }
  | _ => none }
def edgeTurnsRow : OpenClaim := { program := "ytalpekmbknjeeaa", sum := "dec414fe15cf872af071920675f4d8defc310a783d00066fa5f77f1e91e0c29f", func := "parquetry/parquetrylaw24.EdgeTurns", spec := "edgeTurns", unfollowed := true, recurses := true, apart := false }
def EdgeTurnsSaid : Prop := edgeTurnsRow.holds Try.pinned (OpenSpec.ofChange edgeTurnsSpec)

/-- ITS FALSE NEIGHBOUR: 'it returns false'. Refute it at one input. -/
def edgeTurnsWrong : ChangeSpec := { name := "edgeTurns", fn := fun _ => fun
  | [d] => { results := [.lit (.bool false)], args := [d] }
  | _ => none }
def EdgeTurnsWrongFalsely : Prop := edgeTurnsRow.holds Try.pinned (OpenSpec.ofChange edgeTurnsWrong)

/-- 'parquetrylaw24.EdgeAround': WHATEVER THE INPUT: true; the input reads as it did. -/
def edgeAroundSpec : ChangeSpec := { name := "edgeAround", fn := fun _ => fun
  | [d1, d2, d3] => { results := [.lit (.bool true)], args := [d1, d2, d3] }
  | _ => none }
def edgeAroundRow : OpenClaim := { program := "ytalpekmbknjeeaa", sum := "dec414fe15cf872af071920675f4d8defc310a783d00066fa5f77f1e91e0c29f", func := "parquetry/parquetrylaw24.EdgeAround", spec := "edgeAround", unfollowed := true, recurses := true, apart := false }
def EdgeAroundSaid : Prop := edgeAroundRow.holds Try.pinned (OpenSpec.ofChange edgeAroundSpec)

/-- ITS FALSE NEIGHBOUR: 'it returns false'. Refute it at one input. -/
def edgeAroundWrong : ChangeSpec := { name := "edgeAround", fn := fun _ => fun
  | [d1, d2, d3] => { results := [.lit (.bool false)], args := [d1, d2, d3] }
  | _ => none }
def EdgeAroundWrongFalsely : Prop := edgeAroundRow.holds Try.pinned (OpenSpec.ofChange edgeAroundWrong)

/- THE SECOND FORM. 'bulk': how many values and letters a reading holds, each counted each time it is reached (what is shared counts as often as it is met; a slice's spare places count too). A statement '..UptoSaid' is the law's where the arguments, and the package variables that the reading takes, are together of bulk at most 1048576: NARROWER than '..Said'. Prove '..Said' where nothing that the law and all that it calls make is longer than what came in: it says more and counts as full. Else prove '..UptoSaid'. A law counts once. -/
mutual
def uptoBulk {H : Type} : DataW H → Nat
  | .lit (.string bytes) => bytes.length + 1
  | .lit _ => 1
  | .nil => 1
  | .ptr d => uptoBulk d + 1
  | .slice elems spare => uptoBulkAll elems + uptoBulkAll spare + 1
  | .agg parts => uptoBulkAll parts + 1
  | .iface _ d => uptoBulk d + 1
  | .map entries => uptoBulkEntries entries + 1
  | .held _ => 1
def uptoBulkAll {H : Type} : List (DataW H) → Nat
  | [] => 0
  | d :: r => uptoBulk d + uptoBulkAll r
def uptoBulkEntries {H : Type} : List (Lit × DataW H) → Nat
  | [] => 0
  | x :: r => uptoBulkEntry x + uptoBulkEntries r
def uptoBulkEntry {H : Type} : Lit × DataW H → Nat
  | (.string bytes, d) => bytes.length + uptoBulk d + 1
  | (_, d) => uptoBulk d + 1
 end
def uptoSmall : (H : Type) → List (DataW H) → Bool := fun _ ds => decide (uptoBulkAll ds ≤ 1048576)
def OpenSpec.upto (s : _root_.Go.ChangeSpec) : _root_.Go.OpenSpec := { _root_.Go.OpenSpec.ofChange s with cond := some uptoSmall }

/-- 'parquetrylaw24.EdgeArms', WHERE WHAT IT READS IS OF BULK AT MOST 1048576: true; the input reads as it did. -/
def edgeArmsUptoRow : OpenClaim := { program := "ytalpekmbknjeeaa", sum := "dec414fe15cf872af071920675f4d8defc310a783d00066fa5f77f1e91e0c29f", func := "parquetry/parquetrylaw24.EdgeArms", spec := "edgeArms", unfollowed := true, recurses := true, apart := false, narrowed := true }
def EdgeArmsUptoSaid : Prop := edgeArmsUptoRow.holds Try.pinned (OpenSpec.upto edgeArmsSpec)

/-- 'parquetrylaw24.EdgeSigns', WHERE WHAT IT READS IS OF BULK AT MOST 1048576: true; the input reads as it did. -/
def edgeSignsUptoRow : OpenClaim := { program := "ytalpekmbknjeeaa", sum := "dec414fe15cf872af071920675f4d8defc310a783d00066fa5f77f1e91e0c29f", func := "parquetry/parquetrylaw24.EdgeSigns", spec := "edgeSigns", unfollowed := true, recurses := true, apart := false, narrowed := true }
def EdgeSignsUptoSaid : Prop := edgeSignsUptoRow.holds Try.pinned (OpenSpec.upto edgeSignsSpec)

/-- 'parquetrylaw24.EdgeBoth', WHERE WHAT IT READS IS OF BULK AT MOST 1048576: true; the input reads as it did. -/
def edgeBothUptoRow : OpenClaim := { program := "ytalpekmbknjeeaa", sum := "dec414fe15cf872af071920675f4d8defc310a783d00066fa5f77f1e91e0c29f", func := "parquetry/parquetrylaw24.EdgeBoth", spec := "edgeBoth", unfollowed := true, recurses := true, apart := false, narrowed := true }
def EdgeBothUptoSaid : Prop := edgeBothUptoRow.holds Try.pinned (OpenSpec.upto edgeBothSpec)

/-- 'parquetrylaw24.EdgeTurns', WHERE WHAT IT READS IS OF BULK AT MOST 1048576: true; the input reads as it did. -/
def edgeTurnsUptoRow : OpenClaim := { program := "ytalpekmbknjeeaa", sum := "dec414fe15cf872af071920675f4d8defc310a783d00066fa5f77f1e91e0c29f", func := "parquetry/parquetrylaw24.EdgeTurns", spec := "edgeTurns", unfollowed := true, recurses := true, apart := false, narrowed := true }
def EdgeTurnsUptoSaid : Prop := edgeTurnsUptoRow.holds Try.pinned (OpenSpec.upto edgeTurnsSpec)

/-- 'parquetrylaw24.EdgeAround', WHERE WHAT IT READS IS OF BULK AT MOST 1048576: true; the input reads as it did. -/
def edgeAroundUptoRow : OpenClaim := { program := "ytalpekmbknjeeaa", sum := "dec414fe15cf872af071920675f4d8defc310a783d00066fa5f77f1e91e0c29f", func := "parquetry/parquetrylaw24.EdgeAround", spec := "edgeAround", unfollowed := true, recurses := true, apart := false, narrowed := true }
def EdgeAroundUptoSaid : Prop := edgeAroundUptoRow.holds Try.pinned (OpenSpec.upto edgeAroundSpec)

end Rows
end Go.Proofs.Ytalpekmbknjeeaa
