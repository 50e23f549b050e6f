/-
  DERIVED. GIVEN WITH THE SEED: THE CARDS: each row of YtaljccgfnmfhnaaGreatDoorRows.lean that lists a variable, with what it lists TIED to the program's text (the seventh form; the later family's looks); each row that meets fmt, with fmt's text TOLD by the authors' own Lean function (tested against real Go, not proved from fmt's source: count such statements apart). THE CARD IS WHAT COUNTS. Prove the row's statement (the work); the ties are given (YtaljccgfnmfhnaaGreatDoorTie.lean); close each card by the builder's one call (the guide's Derived/Test/ToyasCard.lean, 'card_holds'). Laid BY PROGRAM, IN A SANDBOX (cutbox-door.mjs). By AI agents, Wed Nov 11 2026. No macro, syntax, notation, axiom, sorry.
-/
import Derived.Test.YtaljccgfnmfhnaaGreatDoorRows
import GoSem.ClaimSeven
namespace Go.Proofs.YtaljccgfnmfhnaaGreatDoor
namespace Rows

/-- THE TIED CARD OF 'parquetrylaw29.PortImports'. -/
def portImportsCard : Claim7 := { stood := { row := portImportsRow, standIns := [], harness := (true, "b41ae3f3b77925751c3f610a7e27b3ff1430829beedde898386914f5c6ed347f"), looks := true }, kinds := [], alts := [], laidByText := true, laidKinds := [.data, .handle, .pinned], laidTests := true, laidLooks := .later }
def PortImportsCardSaid : Prop := Claim7.holds Tryz.pinned (.plain (OpenSpec.ofChange portImportsSpec)) portImportsCard

/-- THE TIED CARD OF 'parquetrylaw29.PortExports'. -/
def portExportsCard : Claim7 := { stood := { row := portExportsRow, standIns := [], harness := (true, "b41ae3f3b77925751c3f610a7e27b3ff1430829beedde898386914f5c6ed347f"), looks := true }, kinds := [], alts := [], laidByText := true, laidKinds := [.data, .handle, .pinned], laidTests := true, laidLooks := .later }
def PortExportsCardSaid : Prop := Claim7.holds Tryz.pinned (.plain (OpenSpec.ofChange portExportsSpec)) portExportsCard

/-- THE TIED CARD OF 'parquetrylaw29.PortReads'. -/
def portReadsCard : Claim7 := { stood := { row := portReadsRow, standIns := [], harness := (true, "b41ae3f3b77925751c3f610a7e27b3ff1430829beedde898386914f5c6ed347f"), looks := true }, kinds := [], alts := [], laidByText := true, laidKinds := [.data, .handle, .pinned], laidTests := true, laidLooks := .later }
def PortReadsCardSaid : Prop := Claim7.holds Tryz.pinned (.plain (OpenSpec.ofChange portReadsSpec)) portReadsCard

/-- THE TIED CARD OF 'parquetrylaw29.PortBack'. -/
def portBackCard : Claim7 := { stood := { row := portBackRow, standIns := [], harness := (true, "b41ae3f3b77925751c3f610a7e27b3ff1430829beedde898386914f5c6ed347f"), looks := true }, kinds := [], alts := [], laidByText := true, laidKinds := [.data, .handle, .pinned], laidTests := true, laidLooks := .later }
def PortBackCardSaid : Prop := Claim7.holds Tryz.pinned (.plain (OpenSpec.ofChange portBackSpec)) portBackCard

/-- THE TIED CARD OF 'parquetrylaw29.PortBytes'. -/
def portBytesCard : Claim7 := { stood := { row := portBytesRow, standIns := [], harness := (true, "b41ae3f3b77925751c3f610a7e27b3ff1430829beedde898386914f5c6ed347f"), looks := true }, kinds := [], alts := [], laidByText := true, laidKinds := [.data, .handle, .pinned], laidTests := true, laidLooks := .later }
def PortBytesCardSaid : Prop := Claim7.holds Tryz.pinned (.plain (OpenSpec.ofChange portBytesSpec)) portBytesCard

/-- THE SECOND FORM's CARD OF 'parquetrylaw29.PortImports'. -/
def portImportsUptoCard : Claim7 := { stood := { row := portImportsUptoRow, standIns := [], harness := (true, "b41ae3f3b77925751c3f610a7e27b3ff1430829beedde898386914f5c6ed347f"), looks := true }, kinds := [], alts := [], laidByText := true, laidKinds := [.data, .handle, .pinned], laidTests := true, laidLooks := .later }
def PortImportsUptoCardSaid : Prop := Claim7.holds Tryz.pinned (.plain (OpenSpec.upto portImportsSpec)) portImportsUptoCard

/-- THE SECOND FORM's CARD OF 'parquetrylaw29.PortExports'. -/
def portExportsUptoCard : Claim7 := { stood := { row := portExportsUptoRow, standIns := [], harness := (true, "b41ae3f3b77925751c3f610a7e27b3ff1430829beedde898386914f5c6ed347f"), looks := true }, kinds := [], alts := [], laidByText := true, laidKinds := [.data, .handle, .pinned], laidTests := true, laidLooks := .later }
def PortExportsUptoCardSaid : Prop := Claim7.holds Tryz.pinned (.plain (OpenSpec.upto portExportsSpec)) portExportsUptoCard

/-- THE SECOND FORM's CARD OF 'parquetrylaw29.PortReads'. -/
def portReadsUptoCard : Claim7 := { stood := { row := portReadsUptoRow, standIns := [], harness := (true, "b41ae3f3b77925751c3f610a7e27b3ff1430829beedde898386914f5c6ed347f"), looks := true }, kinds := [], alts := [], laidByText := true, laidKinds := [.data, .handle, .pinned], laidTests := true, laidLooks := .later }
def PortReadsUptoCardSaid : Prop := Claim7.holds Tryz.pinned (.plain (OpenSpec.upto portReadsSpec)) portReadsUptoCard

/-- THE SECOND FORM's CARD OF 'parquetrylaw29.PortBack'. -/
def portBackUptoCard : Claim7 := { stood := { row := portBackUptoRow, standIns := [], harness := (true, "b41ae3f3b77925751c3f610a7e27b3ff1430829beedde898386914f5c6ed347f"), looks := true }, kinds := [], alts := [], laidByText := true, laidKinds := [.data, .handle, .pinned], laidTests := true, laidLooks := .later }
def PortBackUptoCardSaid : Prop := Claim7.holds Tryz.pinned (.plain (OpenSpec.upto portBackSpec)) portBackUptoCard

/-- THE SECOND FORM's CARD OF 'parquetrylaw29.PortBytes'. -/
def portBytesUptoCard : Claim7 := { stood := { row := portBytesUptoRow, standIns := [], harness := (true, "b41ae3f3b77925751c3f610a7e27b3ff1430829beedde898386914f5c6ed347f"), looks := true }, kinds := [], alts := [], laidByText := true, laidKinds := [.data, .handle, .pinned], laidTests := true, laidLooks := .later }
def PortBytesUptoCardSaid : Prop := Claim7.holds Tryz.pinned (.plain (OpenSpec.upto portBytesSpec)) portBytesUptoCard
end Rows
end Go.Proofs.YtaljccgfnmfhnaaGreatDoor
