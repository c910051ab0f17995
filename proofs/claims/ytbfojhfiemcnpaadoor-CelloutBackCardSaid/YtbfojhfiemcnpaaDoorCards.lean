/-
  DERIVED. GIVEN WITH THE SEED: THE CARDS: each row of YtbfojhfiemcnpaaDoorRows.lean that lists a variable, with what it lists TIED to the program's text (the seventh form; the later family's looks); each row that meets fmt, with fmt's text TOLD by the authors' own Lean function (tested against real Go, not proved from fmt's source: count such statements apart). THE CARD IS WHAT COUNTS. Prove the row's statement (the work); the ties are given (YtbfojhfiemcnpaaDoorTie.lean); close each card by the builder's one call (the guide's Derived/Test/ToyasCard.lean, 'card_holds'). Laid BY PROGRAM, IN A SANDBOX (cutbox-door.mjs). By AI agents, Wed Nov 11 2026. No macro, syntax, notation, axiom, sorry.
-/
import Derived.Test.YtbfojhfiemcnpaaDoorRows
import GoSem.ClaimSeven
namespace Go.Proofs.YtbfojhfiemcnpaaDoor
namespace Rows

/-- THE TIED CARD OF 'overspilllaw21.CellinSame'. -/
def cellinSameCard : Claim7 := { stood := { row := cellinSameRow, standIns := [], harness := (true, "1521d6a040045f6bb913b5ed209848132ffc2fb1fefcb5eb45fd07f9b8f6bea7"), looks := false }, kinds := [], alts := [], laidByText := true, laidKinds := [.data, .data, .data, .data, .listed, .data, .pinned], laidTests := true, laidLooks := .later }
def CellinSameCardSaid : Prop := Claim7.holds Tryd.pinned (.plain (OpenSpec.ofChange cellinSameSpec)) cellinSameCard

/-- THE TIED CARD OF 'overspilllaw22.CelloutOnce'. -/
def celloutOnceCard : Claim7 := { stood := { row := celloutOnceRow, standIns := [], harness := (true, "1521d6a040045f6bb913b5ed209848132ffc2fb1fefcb5eb45fd07f9b8f6bea7"), looks := false }, kinds := [], alts := [], laidByText := true, laidKinds := [.data, .data, .data, .data, .listed, .data, .pinned], laidTests := true, laidLooks := .later }
def CelloutOnceCardSaid : Prop := Claim7.holds Tryd.pinned (.plain (OpenSpec.ofChange celloutOnceSpec)) celloutOnceCard

/-- THE TIED CARD OF 'overspilllaw22.CelloutBack'. -/
def celloutBackCard : Claim7 := { stood := { row := celloutBackRow, standIns := [], harness := (true, "1521d6a040045f6bb913b5ed209848132ffc2fb1fefcb5eb45fd07f9b8f6bea7"), looks := false }, kinds := [], alts := [], laidByText := true, laidKinds := [.data, .data, .data, .data, .listed, .data, .pinned], laidTests := true, laidLooks := .later }
def CelloutBackCardSaid : Prop := Claim7.holds Tryd.pinned (.plain (OpenSpec.ofChange celloutBackSpec)) celloutBackCard

/-- THE SECOND FORM's CARD OF 'overspilllaw21.CellinSame'. -/
def cellinSameUptoCard : Claim7 := { stood := { row := cellinSameUptoRow, standIns := [], harness := (true, "1521d6a040045f6bb913b5ed209848132ffc2fb1fefcb5eb45fd07f9b8f6bea7"), looks := false }, kinds := [], alts := [], laidByText := true, laidKinds := [.data, .data, .data, .data, .listed, .data, .pinned], laidTests := true, laidLooks := .later }
def CellinSameUptoCardSaid : Prop := Claim7.holds Tryd.pinned (.plain (OpenSpec.upto cellinSameSpec)) cellinSameUptoCard

/-- THE SECOND FORM's CARD OF 'overspilllaw22.CelloutOnce'. -/
def celloutOnceUptoCard : Claim7 := { stood := { row := celloutOnceUptoRow, standIns := [], harness := (true, "1521d6a040045f6bb913b5ed209848132ffc2fb1fefcb5eb45fd07f9b8f6bea7"), looks := false }, kinds := [], alts := [], laidByText := true, laidKinds := [.data, .data, .data, .data, .listed, .data, .pinned], laidTests := true, laidLooks := .later }
def CelloutOnceUptoCardSaid : Prop := Claim7.holds Tryd.pinned (.plain (OpenSpec.upto celloutOnceSpec)) celloutOnceUptoCard

/-- THE SECOND FORM's CARD OF 'overspilllaw22.CelloutBack'. -/
def celloutBackUptoCard : Claim7 := { stood := { row := celloutBackUptoRow, standIns := [], harness := (true, "1521d6a040045f6bb913b5ed209848132ffc2fb1fefcb5eb45fd07f9b8f6bea7"), looks := false }, kinds := [], alts := [], laidByText := true, laidKinds := [.data, .data, .data, .data, .listed, .data, .pinned], laidTests := true, laidLooks := .later }
def CelloutBackUptoCardSaid : Prop := Claim7.holds Tryd.pinned (.plain (OpenSpec.upto celloutBackSpec)) celloutBackUptoCard
end Rows
end Go.Proofs.YtbfojhfiemcnpaaDoor
