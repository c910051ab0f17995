/-
  DERIVED. GIVEN WITH THE SEED: THE CARDS: each row of YtbfojhfiemcnpaaGreatDoorRows.lean that lists a variable, with what it lists TIED to the program's text (the seventh form; the later family's looks); each row that meets fmt, with fmt's text TOLD by the authors' own Lean function (tested against real Go, not proved from fmt's source: count such statements apart). THE CARD IS WHAT COUNTS. Prove the row's statement (the work); the ties are given (YtbfojhfiemcnpaaGreatDoorTie.lean); close each card by the builder's one call (the guide's Derived/Test/ToyasCard.lean, 'card_holds'). Laid BY PROGRAM, IN A SANDBOX (cutbox-door.mjs). By AI agents, Wed Nov 11 2026. No macro, syntax, notation, axiom, sorry.
-/
import Derived.Test.YtbfojhfiemcnpaaGreatDoorRows
import GoSem.ClaimSeven
namespace Go.Proofs.YtbfojhfiemcnpaaGreatDoor
namespace Rows

/-- THE TIED CARD OF 'overspilllaw26.SheetinTakes'. -/
def sheetinTakesCard : Claim7 := { stood := { row := sheetinTakesRow, standIns := [], harness := (true, "1ad8b0d1fc77f07fd93ebb51cb244c36cf89cff03efe65c1e537ab558ad9b85d"), looks := false }, kinds := [], alts := [], laidByText := true, laidKinds := [.data, .data, .data, .data, .listed, .data, .pinned], laidTests := true, laidLooks := .later }
def SheetinTakesCardSaid : Prop := Claim7.holds Tryz.pinned (.plain (OpenSpec.ofChange sheetinTakesSpec)) sheetinTakesCard

/-- THE TIED CARD OF 'overspilllaw26.SheetinMay'. -/
def sheetinMayCard : Claim7 := { stood := { row := sheetinMayRow, standIns := [], harness := (true, "1ad8b0d1fc77f07fd93ebb51cb244c36cf89cff03efe65c1e537ab558ad9b85d"), looks := false }, kinds := [], alts := [], laidByText := true, laidKinds := [.data, .data, .data, .data, .listed, .data, .pinned], laidTests := true, laidLooks := .later }
def SheetinMayCardSaid : Prop := Claim7.holds Tryz.pinned (.plain (OpenSpec.ofChange sheetinMaySpec)) sheetinMayCard

/-- THE TIED CARD OF 'overspilllaw27.SheetoutOnce'. -/
def sheetoutOnceCard : Claim7 := { stood := { row := sheetoutOnceRow, standIns := [], harness := (true, "1ad8b0d1fc77f07fd93ebb51cb244c36cf89cff03efe65c1e537ab558ad9b85d"), looks := false }, kinds := [], alts := [], laidByText := true, laidKinds := [.data, .data, .data, .data, .listed, .data, .pinned], laidTests := true, laidLooks := .later }
def SheetoutOnceCardSaid : Prop := Claim7.holds Tryz.pinned (.plain (OpenSpec.ofChange sheetoutOnceSpec)) sheetoutOnceCard

/-- THE TIED CARD OF 'overspilllaw27.SheetoutBack'. -/
def sheetoutBackCard : Claim7 := { stood := { row := sheetoutBackRow, standIns := [], harness := (true, "1ad8b0d1fc77f07fd93ebb51cb244c36cf89cff03efe65c1e537ab558ad9b85d"), looks := false }, kinds := [], alts := [], laidByText := true, laidKinds := [.data, .data, .data, .data, .listed, .data, .pinned], laidTests := true, laidLooks := .later }
def SheetoutBackCardSaid : Prop := Claim7.holds Tryz.pinned (.plain (OpenSpec.ofChange sheetoutBackSpec)) sheetoutBackCard

/-- THE SECOND FORM's CARD OF 'overspilllaw26.SheetinTakes'. -/
def sheetinTakesUptoCard : Claim7 := { stood := { row := sheetinTakesUptoRow, standIns := [], harness := (true, "1ad8b0d1fc77f07fd93ebb51cb244c36cf89cff03efe65c1e537ab558ad9b85d"), looks := false }, kinds := [], alts := [], laidByText := true, laidKinds := [.data, .data, .data, .data, .listed, .data, .pinned], laidTests := true, laidLooks := .later }
def SheetinTakesUptoCardSaid : Prop := Claim7.holds Tryz.pinned (.plain (OpenSpec.upto sheetinTakesSpec)) sheetinTakesUptoCard

/-- THE SECOND FORM's CARD OF 'overspilllaw26.SheetinMay'. -/
def sheetinMayUptoCard : Claim7 := { stood := { row := sheetinMayUptoRow, standIns := [], harness := (true, "1ad8b0d1fc77f07fd93ebb51cb244c36cf89cff03efe65c1e537ab558ad9b85d"), looks := false }, kinds := [], alts := [], laidByText := true, laidKinds := [.data, .data, .data, .data, .listed, .data, .pinned], laidTests := true, laidLooks := .later }
def SheetinMayUptoCardSaid : Prop := Claim7.holds Tryz.pinned (.plain (OpenSpec.upto sheetinMaySpec)) sheetinMayUptoCard

/-- THE SECOND FORM's CARD OF 'overspilllaw27.SheetoutOnce'. -/
def sheetoutOnceUptoCard : Claim7 := { stood := { row := sheetoutOnceUptoRow, standIns := [], harness := (true, "1ad8b0d1fc77f07fd93ebb51cb244c36cf89cff03efe65c1e537ab558ad9b85d"), looks := false }, kinds := [], alts := [], laidByText := true, laidKinds := [.data, .data, .data, .data, .listed, .data, .pinned], laidTests := true, laidLooks := .later }
def SheetoutOnceUptoCardSaid : Prop := Claim7.holds Tryz.pinned (.plain (OpenSpec.upto sheetoutOnceSpec)) sheetoutOnceUptoCard

/-- THE SECOND FORM's CARD OF 'overspilllaw27.SheetoutBack'. -/
def sheetoutBackUptoCard : Claim7 := { stood := { row := sheetoutBackUptoRow, standIns := [], harness := (true, "1ad8b0d1fc77f07fd93ebb51cb244c36cf89cff03efe65c1e537ab558ad9b85d"), looks := false }, kinds := [], alts := [], laidByText := true, laidKinds := [.data, .data, .data, .data, .listed, .data, .pinned], laidTests := true, laidLooks := .later }
def SheetoutBackUptoCardSaid : Prop := Claim7.holds Tryz.pinned (.plain (OpenSpec.upto sheetoutBackSpec)) sheetoutBackUptoCard
end Rows
end Go.Proofs.YtbfojhfiemcnpaaGreatDoor
