/-
  DERIVED. GIVEN WITH THE SEED: THE CARDS: each row of YtbpednchkndocaaGreatDoorRows.lean that lists a variable, with what it lists TIED to the program's text (the seventh form; the later family's looks); each row that meets fmt, with fmt's text TOLD by the authors' own Lean function (tested against real Go, not proved from fmt's source: count such statements apart). THE CARD IS WHAT COUNTS. Prove the row's statement (the work); the ties are given (YtbpednchkndocaaGreatDoorTie.lean); close each card by the builder's one call (the guide's Derived/Test/ToyasCard.lean, 'card_holds'). Laid BY PROGRAM, IN A SANDBOX (cutbox-door.mjs). By AI agents, Wed Nov 11 2026. No macro, syntax, notation, axiom, sorry.
-/
import Derived.Test.YtbpednchkndocaaGreatDoorRows
import GoSem.ClaimSeven
namespace Go.Proofs.YtbpednchkndocaaGreatDoor
namespace Rows

/-- THE TIED CARD OF 'overspilllaw26.SheetinTakes'. -/
def sheetinTakesCard : Claim7 := { stood := { row := sheetinTakesRow, standIns := [], harness := (true, "31083580b51fcb8622ddbfb5214a89cf723d01a3c9c33d8a6c7ebbaa5bc92c35"), looks := false }, kinds := [], alts := [], laidByText := true, laidKinds := [.data, .data, .data, .data, .listed, .data, .pinned], laidTests := true, laidLooks := .later }
def SheetinTakesCardSaid : Prop := Claim7.holds Tryz.pinned (.plain (OpenSpec.ofChange sheetinTakesSpec)) sheetinTakesCard

/-- THE TIED CARD OF 'overspilllaw27.SheetoutBack'. -/
def sheetoutBackCard : Claim7 := { stood := { row := sheetoutBackRow, standIns := [], harness := (true, "31083580b51fcb8622ddbfb5214a89cf723d01a3c9c33d8a6c7ebbaa5bc92c35"), looks := false }, kinds := [], alts := [], laidByText := true, laidKinds := [.data, .data, .data, .data, .listed, .data, .pinned], laidTests := true, laidLooks := .later }
def SheetoutBackCardSaid : Prop := Claim7.holds Tryz.pinned (.plain (OpenSpec.ofChange sheetoutBackSpec)) sheetoutBackCard

/-- THE TIED CARD OF 'overspilllaw32.ScreensNext'. -/
def screensNextCard : Claim7 := { stood := { row := screensNextRow, standIns := [], harness := (true, "31083580b51fcb8622ddbfb5214a89cf723d01a3c9c33d8a6c7ebbaa5bc92c35"), looks := false }, kinds := [], alts := [], laidByText := true, laidKinds := [.data, .data, .data, .data], laidTests := true, laidLooks := .later }
def ScreensNextCardSaid : Prop := Claim7.holds Tryz.pinned (.plain (OpenSpec.ofChange screensNextSpec)) screensNextCard

/-- THE TIED CARD OF 'overspilllaw40.BlankMakes'. -/
def blankMakesCard : Claim7 := { stood := { row := blankMakesRow, standIns := [], harness := (true, "31083580b51fcb8622ddbfb5214a89cf723d01a3c9c33d8a6c7ebbaa5bc92c35"), looks := false }, kinds := [], alts := [], laidByText := true, laidKinds := [.data, .data, .data, .data], laidTests := true, laidLooks := .later }
def BlankMakesCardSaid : Prop := Claim7.holds Tryz.pinned (.plain (OpenSpec.ofChange blankMakesSpec)) blankMakesCard

/-- THE TIED CARD OF 'overspilllaw28.StripsParses'. -/
def stripsParsesCard : Claim7 := { stood := { row := stripsParsesRow, standIns := [], harness := (true, "31083580b51fcb8622ddbfb5214a89cf723d01a3c9c33d8a6c7ebbaa5bc92c35"), looks := false }, kinds := [], alts := [], laidByText := true, laidKinds := [.data, .data, .data, .data, .listed, .data, .pinned], laidTests := true, laidLooks := .later }
def StripsParsesCardSaid : Prop := Claim7.holds Tryz.pinned (.plain (OpenSpec.ofChange stripsParsesSpec)) stripsParsesCard

/-- THE TIED CARD OF 'overspilllaw28.StripsWrites'. -/
def stripsWritesCard : Claim7 := { stood := { row := stripsWritesRow, standIns := [], harness := (true, "31083580b51fcb8622ddbfb5214a89cf723d01a3c9c33d8a6c7ebbaa5bc92c35"), looks := false }, kinds := [], alts := [], laidByText := true, laidKinds := [.data, .data, .data, .data, .listed, .data, .pinned], laidTests := true, laidLooks := .later }
def StripsWritesCardSaid : Prop := Claim7.holds Tryz.pinned (.plain (OpenSpec.ofChange stripsWritesSpec)) stripsWritesCard

/-- THE TIED CARD OF 'overspilllaw28.StripsOnce'. -/
def stripsOnceCard : Claim7 := { stood := { row := stripsOnceRow, standIns := [], harness := (true, "31083580b51fcb8622ddbfb5214a89cf723d01a3c9c33d8a6c7ebbaa5bc92c35"), looks := false }, kinds := [], alts := [], laidByText := true, laidKinds := [.data, .data, .data, .data, .listed, .data, .pinned], laidTests := true, laidLooks := .later }
def StripsOnceCardSaid : Prop := Claim7.holds Tryz.pinned (.plain (OpenSpec.ofChange stripsOnceSpec)) stripsOnceCard

/-- THE TIED CARD OF 'overspilllaw28.StripsChecks'. -/
def stripsChecksCard : Claim7 := { stood := { row := stripsChecksRow, standIns := [], harness := (true, "31083580b51fcb8622ddbfb5214a89cf723d01a3c9c33d8a6c7ebbaa5bc92c35"), looks := false }, kinds := [], alts := [], laidByText := true, laidKinds := [.data, .data, .data, .data, .listed, .data, .pinned], laidTests := true, laidLooks := .later }
def StripsChecksCardSaid : Prop := Claim7.holds Tryz.pinned (.plain (OpenSpec.ofChange stripsChecksSpec)) stripsChecksCard

/-- THE TIED CARD OF 'overspilllaw28.StripsBack'. -/
def stripsBackCard : Claim7 := { stood := { row := stripsBackRow, standIns := [], harness := (true, "31083580b51fcb8622ddbfb5214a89cf723d01a3c9c33d8a6c7ebbaa5bc92c35"), looks := false }, kinds := [], alts := [], laidByText := true, laidKinds := [.data, .data, .data, .data, .listed, .data, .pinned], laidTests := true, laidLooks := .later }
def StripsBackCardSaid : Prop := Claim7.holds Tryz.pinned (.plain (OpenSpec.ofChange stripsBackSpec)) stripsBackCard

/-- THE SECOND FORM's CARD OF 'overspilllaw26.SheetinTakes'. -/
def sheetinTakesUptoCard : Claim7 := { stood := { row := sheetinTakesUptoRow, standIns := [], harness := (true, "31083580b51fcb8622ddbfb5214a89cf723d01a3c9c33d8a6c7ebbaa5bc92c35"), looks := false }, kinds := [], alts := [], laidByText := true, laidKinds := [.data, .data, .data, .data, .listed, .data, .pinned], laidTests := true, laidLooks := .later }
def SheetinTakesUptoCardSaid : Prop := Claim7.holds Tryz.pinned (.plain (OpenSpec.upto sheetinTakesSpec)) sheetinTakesUptoCard

/-- THE SECOND FORM's CARD OF 'overspilllaw27.SheetoutBack'. -/
def sheetoutBackUptoCard : Claim7 := { stood := { row := sheetoutBackUptoRow, standIns := [], harness := (true, "31083580b51fcb8622ddbfb5214a89cf723d01a3c9c33d8a6c7ebbaa5bc92c35"), looks := false }, kinds := [], alts := [], laidByText := true, laidKinds := [.data, .data, .data, .data, .listed, .data, .pinned], laidTests := true, laidLooks := .later }
def SheetoutBackUptoCardSaid : Prop := Claim7.holds Tryz.pinned (.plain (OpenSpec.upto sheetoutBackSpec)) sheetoutBackUptoCard

/-- THE SECOND FORM's CARD OF 'overspilllaw32.ScreensNext'. -/
def screensNextUptoCard : Claim7 := { stood := { row := screensNextUptoRow, standIns := [], harness := (true, "31083580b51fcb8622ddbfb5214a89cf723d01a3c9c33d8a6c7ebbaa5bc92c35"), looks := false }, kinds := [], alts := [], laidByText := true, laidKinds := [.data, .data, .data, .data], laidTests := true, laidLooks := .later }
def ScreensNextUptoCardSaid : Prop := Claim7.holds Tryz.pinned (.plain (OpenSpec.upto screensNextSpec)) screensNextUptoCard

/-- THE SECOND FORM's CARD OF 'overspilllaw40.BlankMakes'. -/
def blankMakesUptoCard : Claim7 := { stood := { row := blankMakesUptoRow, standIns := [], harness := (true, "31083580b51fcb8622ddbfb5214a89cf723d01a3c9c33d8a6c7ebbaa5bc92c35"), looks := false }, kinds := [], alts := [], laidByText := true, laidKinds := [.data, .data, .data, .data], laidTests := true, laidLooks := .later }
def BlankMakesUptoCardSaid : Prop := Claim7.holds Tryz.pinned (.plain (OpenSpec.upto blankMakesSpec)) blankMakesUptoCard

/-- THE SECOND FORM's CARD OF 'overspilllaw28.StripsParses'. -/
def stripsParsesUptoCard : Claim7 := { stood := { row := stripsParsesUptoRow, standIns := [], harness := (true, "31083580b51fcb8622ddbfb5214a89cf723d01a3c9c33d8a6c7ebbaa5bc92c35"), looks := false }, kinds := [], alts := [], laidByText := true, laidKinds := [.data, .data, .data, .data, .listed, .data, .pinned], laidTests := true, laidLooks := .later }
def StripsParsesUptoCardSaid : Prop := Claim7.holds Tryz.pinned (.plain (OpenSpec.upto stripsParsesSpec)) stripsParsesUptoCard

/-- THE SECOND FORM's CARD OF 'overspilllaw28.StripsWrites'. -/
def stripsWritesUptoCard : Claim7 := { stood := { row := stripsWritesUptoRow, standIns := [], harness := (true, "31083580b51fcb8622ddbfb5214a89cf723d01a3c9c33d8a6c7ebbaa5bc92c35"), looks := false }, kinds := [], alts := [], laidByText := true, laidKinds := [.data, .data, .data, .data, .listed, .data, .pinned], laidTests := true, laidLooks := .later }
def StripsWritesUptoCardSaid : Prop := Claim7.holds Tryz.pinned (.plain (OpenSpec.upto stripsWritesSpec)) stripsWritesUptoCard

/-- THE SECOND FORM's CARD OF 'overspilllaw28.StripsOnce'. -/
def stripsOnceUptoCard : Claim7 := { stood := { row := stripsOnceUptoRow, standIns := [], harness := (true, "31083580b51fcb8622ddbfb5214a89cf723d01a3c9c33d8a6c7ebbaa5bc92c35"), looks := false }, kinds := [], alts := [], laidByText := true, laidKinds := [.data, .data, .data, .data, .listed, .data, .pinned], laidTests := true, laidLooks := .later }
def StripsOnceUptoCardSaid : Prop := Claim7.holds Tryz.pinned (.plain (OpenSpec.upto stripsOnceSpec)) stripsOnceUptoCard

/-- THE SECOND FORM's CARD OF 'overspilllaw28.StripsChecks'. -/
def stripsChecksUptoCard : Claim7 := { stood := { row := stripsChecksUptoRow, standIns := [], harness := (true, "31083580b51fcb8622ddbfb5214a89cf723d01a3c9c33d8a6c7ebbaa5bc92c35"), looks := false }, kinds := [], alts := [], laidByText := true, laidKinds := [.data, .data, .data, .data, .listed, .data, .pinned], laidTests := true, laidLooks := .later }
def StripsChecksUptoCardSaid : Prop := Claim7.holds Tryz.pinned (.plain (OpenSpec.upto stripsChecksSpec)) stripsChecksUptoCard

/-- THE SECOND FORM's CARD OF 'overspilllaw28.StripsBack'. -/
def stripsBackUptoCard : Claim7 := { stood := { row := stripsBackUptoRow, standIns := [], harness := (true, "31083580b51fcb8622ddbfb5214a89cf723d01a3c9c33d8a6c7ebbaa5bc92c35"), looks := false }, kinds := [], alts := [], laidByText := true, laidKinds := [.data, .data, .data, .data, .listed, .data, .pinned], laidTests := true, laidLooks := .later }
def StripsBackUptoCardSaid : Prop := Claim7.holds Tryz.pinned (.plain (OpenSpec.upto stripsBackSpec)) stripsBackUptoCard
end Rows
end Go.Proofs.YtbpednchkndocaaGreatDoor
