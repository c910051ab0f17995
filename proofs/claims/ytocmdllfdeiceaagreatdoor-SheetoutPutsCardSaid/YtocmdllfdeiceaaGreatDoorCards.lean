/-
  DERIVED. GIVEN WITH THE SEED: THE CARDS: each row of YtocmdllfdeiceaaGreatDoorRows.lean that lists a variable, with what it lists TIED to the program's text (the seventh form; the later family's looks); each row that meets fmt, with fmt's text TOLD by the authors' own Lean function (tested against real Go, not proved from fmt's source: count such statements apart). THE CARD IS WHAT COUNTS. Prove the row's statement (the work); the ties are given (YtocmdllfdeiceaaGreatDoorTie.lean); close each card by the builder's one call (the guide's Derived/Test/ToyasCard.lean, 'card_holds'). Laid BY PROGRAM, IN A SANDBOX (cutbox-door.mjs). By AI agents, Wed Nov 11 2026. No macro, syntax, notation, axiom, sorry.
-/
import Derived.Test.YtocmdllfdeiceaaGreatDoorRows
import GoSem.ClaimSeven
namespace Go.Proofs.YtocmdllfdeiceaaGreatDoor
namespace Rows

/-- THE TIED CARD OF 'overspilllaw27.SheetoutPuts'. -/
def sheetoutPutsCard : Claim7 := { stood := { row := sheetoutPutsRow, standIns := [], harness := (true, "f29dc7259cdcea027c560693c281892986f80f2cded5cd9fc1a0b2958c123d69"), looks := false }, kinds := [], alts := [], laidByText := true, laidKinds := [.data, .data, .data, .listed, .data], laidTests := true, laidLooks := .later }
def SheetoutPutsCardSaid : Prop := Claim7.holds Tryz.pinned (.plain (OpenSpec.ofChange sheetoutPutsSpec)) sheetoutPutsCard

/-- THE TIED CARD OF 'overspilllaw26.SheetinTakes'. -/
def sheetinTakesCard : Claim7 := { stood := { row := sheetinTakesRow, standIns := [], harness := (true, "f29dc7259cdcea027c560693c281892986f80f2cded5cd9fc1a0b2958c123d69"), looks := false }, kinds := [], alts := [], laidByText := true, laidKinds := [.data, .data, .data, .data, .listed, .data, .pinned], laidTests := true, laidLooks := .later }
def SheetinTakesCardSaid : Prop := Claim7.holds Tryz.pinned (.plain (OpenSpec.ofChange sheetinTakesSpec)) sheetinTakesCard

/-- THE SECOND FORM's CARD OF 'overspilllaw27.SheetoutPuts'. -/
def sheetoutPutsUptoCard : Claim7 := { stood := { row := sheetoutPutsUptoRow, standIns := [], harness := (true, "f29dc7259cdcea027c560693c281892986f80f2cded5cd9fc1a0b2958c123d69"), looks := false }, kinds := [], alts := [], laidByText := true, laidKinds := [.data, .data, .data, .listed, .data], laidTests := true, laidLooks := .later }
def SheetoutPutsUptoCardSaid : Prop := Claim7.holds Tryz.pinned (.plain (OpenSpec.upto sheetoutPutsSpec)) sheetoutPutsUptoCard

/-- THE SECOND FORM's CARD OF 'overspilllaw26.SheetinTakes'. -/
def sheetinTakesUptoCard : Claim7 := { stood := { row := sheetinTakesUptoRow, standIns := [], harness := (true, "f29dc7259cdcea027c560693c281892986f80f2cded5cd9fc1a0b2958c123d69"), looks := false }, kinds := [], alts := [], laidByText := true, laidKinds := [.data, .data, .data, .data, .listed, .data, .pinned], laidTests := true, laidLooks := .later }
def SheetinTakesUptoCardSaid : Prop := Claim7.holds Tryz.pinned (.plain (OpenSpec.upto sheetinTakesSpec)) sheetinTakesUptoCard
end Rows
end Go.Proofs.YtocmdllfdeiceaaGreatDoor
