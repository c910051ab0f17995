/-
  DERIVED. GIVEN WITH THE SEED: THE CARDS: each row of YtdihjnifoikbeaaDoorRows.lean that lists a variable, with what it lists TIED to the program's text (the seventh form; the later family's looks); each row that meets fmt, with fmt's text TOLD by the authors' own Lean function (tested against real Go, not proved from fmt's source: count such statements apart). THE CARD IS WHAT COUNTS. Prove the row's statement (the work); the ties are given (YtdihjnifoikbeaaDoorTie.lean); close each card by the builder's one call (the guide's Derived/Test/ToyasCard.lean, 'card_holds'). Laid BY PROGRAM, IN A SANDBOX (cutbox-door.mjs). By AI agents, Wed Nov 11 2026. No macro, syntax, notation, axiom, sorry.
-/
import Derived.Test.YtdihjnifoikbeaaDoorRows
import GoSem.ClaimSeven
namespace Go.Proofs.YtdihjnifoikbeaaDoor
namespace Rows

/-- THE TIED CARD OF 'overspilllaw40.BlankOf'. -/
def blankOfCard : Claim7 := { stood := { row := blankOfRow, standIns := [], harness := (true, "f052de7696871659b80246a6eecdd08aec792617328bef7c3609d79e0bb5bf41"), looks := false }, kinds := [], alts := [], laidByText := true, laidKinds := [.data, .data, .data, .listed, .data], laidTests := true, laidLooks := .later }
def BlankOfCardSaid : Prop := Claim7.holds Tryd.pinned (.plain (OpenSpec.ofChange blankOfSpec)) blankOfCard

/-- THE TIED CARD OF 'overspilllaw21.CellinTakes'. -/
def cellinTakesCard : Claim7 := { stood := { row := cellinTakesRow, standIns := [], harness := (true, "f052de7696871659b80246a6eecdd08aec792617328bef7c3609d79e0bb5bf41"), looks := false }, kinds := [], alts := [], laidByText := true, laidKinds := [.data, .data, .data, .data, .listed, .data, .pinned], laidTests := true, laidLooks := .later }
def CellinTakesCardSaid : Prop := Claim7.holds Tryd.pinned (.plain (OpenSpec.ofChange cellinTakesSpec)) cellinTakesCard

/-- THE TIED CARD OF 'overspilllaw21.CellinSame'. -/
def cellinSameCard : Claim7 := { stood := { row := cellinSameRow, standIns := [], harness := (true, "f052de7696871659b80246a6eecdd08aec792617328bef7c3609d79e0bb5bf41"), looks := false }, kinds := [], alts := [], laidByText := true, laidKinds := [.data, .data, .data, .data, .listed, .data, .pinned], laidTests := true, laidLooks := .later }
def CellinSameCardSaid : Prop := Claim7.holds Tryd.pinned (.plain (OpenSpec.ofChange cellinSameSpec)) cellinSameCard

/-- THE TIED CARD OF 'overspilllaw22.CelloutOnce'. -/
def celloutOnceCard : Claim7 := { stood := { row := celloutOnceRow, standIns := [], harness := (true, "f052de7696871659b80246a6eecdd08aec792617328bef7c3609d79e0bb5bf41"), looks := false }, kinds := [], alts := [], laidByText := true, laidKinds := [.data, .data, .data, .data, .listed, .data, .pinned], laidTests := true, laidLooks := .later }
def CelloutOnceCardSaid : Prop := Claim7.holds Tryd.pinned (.plain (OpenSpec.ofChange celloutOnceSpec)) celloutOnceCard

/-- THE TIED CARD OF 'overspilllaw22.CelloutBack'. -/
def celloutBackCard : Claim7 := { stood := { row := celloutBackRow, standIns := [], harness := (true, "f052de7696871659b80246a6eecdd08aec792617328bef7c3609d79e0bb5bf41"), looks := false }, kinds := [], alts := [], laidByText := true, laidKinds := [.data, .data, .data, .data, .listed, .data, .pinned], laidTests := true, laidLooks := .later }
def CelloutBackCardSaid : Prop := Claim7.holds Tryd.pinned (.plain (OpenSpec.ofChange celloutBackSpec)) celloutBackCard

/-- THE SECOND FORM's CARD OF 'overspilllaw40.BlankOf'. -/
def blankOfUptoCard : Claim7 := { stood := { row := blankOfUptoRow, standIns := [], harness := (true, "f052de7696871659b80246a6eecdd08aec792617328bef7c3609d79e0bb5bf41"), looks := false }, kinds := [], alts := [], laidByText := true, laidKinds := [.data, .data, .data, .listed, .data], laidTests := true, laidLooks := .later }
def BlankOfUptoCardSaid : Prop := Claim7.holds Tryd.pinned (.plain (OpenSpec.upto blankOfSpec)) blankOfUptoCard

/-- THE SECOND FORM's CARD OF 'overspilllaw21.CellinTakes'. -/
def cellinTakesUptoCard : Claim7 := { stood := { row := cellinTakesUptoRow, standIns := [], harness := (true, "f052de7696871659b80246a6eecdd08aec792617328bef7c3609d79e0bb5bf41"), looks := false }, kinds := [], alts := [], laidByText := true, laidKinds := [.data, .data, .data, .data, .listed, .data, .pinned], laidTests := true, laidLooks := .later }
def CellinTakesUptoCardSaid : Prop := Claim7.holds Tryd.pinned (.plain (OpenSpec.upto cellinTakesSpec)) cellinTakesUptoCard

/-- THE SECOND FORM's CARD OF 'overspilllaw21.CellinSame'. -/
def cellinSameUptoCard : Claim7 := { stood := { row := cellinSameUptoRow, standIns := [], harness := (true, "f052de7696871659b80246a6eecdd08aec792617328bef7c3609d79e0bb5bf41"), looks := false }, kinds := [], alts := [], laidByText := true, laidKinds := [.data, .data, .data, .data, .listed, .data, .pinned], laidTests := true, laidLooks := .later }
def CellinSameUptoCardSaid : Prop := Claim7.holds Tryd.pinned (.plain (OpenSpec.upto cellinSameSpec)) cellinSameUptoCard

/-- THE SECOND FORM's CARD OF 'overspilllaw22.CelloutOnce'. -/
def celloutOnceUptoCard : Claim7 := { stood := { row := celloutOnceUptoRow, standIns := [], harness := (true, "f052de7696871659b80246a6eecdd08aec792617328bef7c3609d79e0bb5bf41"), looks := false }, kinds := [], alts := [], laidByText := true, laidKinds := [.data, .data, .data, .data, .listed, .data, .pinned], laidTests := true, laidLooks := .later }
def CelloutOnceUptoCardSaid : Prop := Claim7.holds Tryd.pinned (.plain (OpenSpec.upto celloutOnceSpec)) celloutOnceUptoCard

/-- THE SECOND FORM's CARD OF 'overspilllaw22.CelloutBack'. -/
def celloutBackUptoCard : Claim7 := { stood := { row := celloutBackUptoRow, standIns := [], harness := (true, "f052de7696871659b80246a6eecdd08aec792617328bef7c3609d79e0bb5bf41"), looks := false }, kinds := [], alts := [], laidByText := true, laidKinds := [.data, .data, .data, .data, .listed, .data, .pinned], laidTests := true, laidLooks := .later }
def CelloutBackUptoCardSaid : Prop := Claim7.holds Tryd.pinned (.plain (OpenSpec.upto celloutBackSpec)) celloutBackUptoCard
end Rows
end Go.Proofs.YtdihjnifoikbeaaDoor
