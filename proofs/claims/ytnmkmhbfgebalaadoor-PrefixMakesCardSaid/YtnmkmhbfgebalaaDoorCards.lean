/-
  DERIVED. GIVEN WITH THE SEED: THE CARDS: each row of YtnmkmhbfgebalaaDoorRows.lean that lists a variable, with what it lists TIED to the program's text (the seventh form; the later family's looks); each row that meets fmt, with fmt's text TOLD by the authors' own Lean function (tested against real Go, not proved from fmt's source: count such statements apart). THE CARD IS WHAT COUNTS. Prove the row's statement (the work); the ties are given (YtnmkmhbfgebalaaDoorTie.lean); close each card by the builder's one call (the guide's Derived/Test/ToyasCard.lean, 'card_holds'). Laid BY PROGRAM, IN A SANDBOX (cutbox-door.mjs). By AI agents, Wed Nov 11 2026. No macro, syntax, notation, axiom, sorry.
-/
import Derived.Test.YtnmkmhbfgebalaaDoorRows
import GoSem.ClaimSeven
namespace Go.Proofs.YtnmkmhbfgebalaaDoor
namespace Rows

/-- THE TIED CARD OF 'overspilllaw11.ScanAt'. -/
def scanAtCard : Claim7 := { stood := { row := scanAtRow, standIns := [], harness := (true, "78b12b386e7202ffbf0de6e2de98b6ddd4e80df44694cb74e4ab23e96ad18dcf"), looks := false }, kinds := [], alts := [], laidByText := true, laidKinds := [.data], laidTests := true, laidLooks := .later }
def ScanAtCardSaid : Prop := Claim7.holds Tryd.pinned (.plain (OpenSpec.ofChange scanAtSpec)) scanAtCard

/-- THE TIED CARD OF 'overspilllaw11.ScanLater'. -/
def scanLaterCard : Claim7 := { stood := { row := scanLaterRow, standIns := [], harness := (true, "78b12b386e7202ffbf0de6e2de98b6ddd4e80df44694cb74e4ab23e96ad18dcf"), looks := false }, kinds := [], alts := [], laidByText := true, laidKinds := [.data], laidTests := true, laidLooks := .later }
def ScanLaterCardSaid : Prop := Claim7.holds Tryd.pinned (.plain (OpenSpec.ofChange scanLaterSpec)) scanLaterCard

/-- THE TIED CARD OF 'overspilllaw11.ScanTurns'. -/
def scanTurnsCard : Claim7 := { stood := { row := scanTurnsRow, standIns := [], harness := (true, "78b12b386e7202ffbf0de6e2de98b6ddd4e80df44694cb74e4ab23e96ad18dcf"), looks := false }, kinds := [], alts := [], laidByText := true, laidKinds := [.data], laidTests := true, laidLooks := .later }
def ScanTurnsCardSaid : Prop := Claim7.holds Tryd.pinned (.plain (OpenSpec.ofChange scanTurnsSpec)) scanTurnsCard

/-- THE TIED CARD OF 'overspilllaw08.MvdRows'. -/
def mvdRowsCard : Claim7 := { stood := { row := mvdRowsRow, standIns := [], harness := (true, "78b12b386e7202ffbf0de6e2de98b6ddd4e80df44694cb74e4ab23e96ad18dcf"), looks := false }, kinds := [], alts := [], laidByText := true, laidKinds := [.data], laidTests := true, laidLooks := .later }
def MvdRowsCardSaid : Prop := Claim7.holds Tryd.pinned (.plain (OpenSpec.ofChange mvdRowsSpec)) mvdRowsCard

/-- THE TIED CARD OF 'overspilllaw08.MvdTakes'. -/
def mvdTakesCard : Claim7 := { stood := { row := mvdTakesRow, standIns := [], harness := (true, "78b12b386e7202ffbf0de6e2de98b6ddd4e80df44694cb74e4ab23e96ad18dcf"), looks := false }, kinds := [], alts := [], laidByText := true, laidKinds := [.data], laidTests := true, laidLooks := .later }
def MvdTakesCardSaid : Prop := Claim7.holds Tryd.pinned (.plain (OpenSpec.ofChange mvdTakesSpec)) mvdTakesCard

/-- THE TIED CARD OF 'overspilllaw08.MvdBack'. -/
def mvdBackCard : Claim7 := { stood := { row := mvdBackRow, standIns := [], harness := (true, "78b12b386e7202ffbf0de6e2de98b6ddd4e80df44694cb74e4ab23e96ad18dcf"), looks := false }, kinds := [], alts := [], laidByText := true, laidKinds := [.data], laidTests := true, laidLooks := .later }
def MvdBackCardSaid : Prop := Claim7.holds Tryd.pinned (.plain (OpenSpec.ofChange mvdBackSpec)) mvdBackCard

/-- THE TIED CARD OF 'overspilllaw05.PrefixTakes'. -/
def prefixTakesCard : Claim7 := { stood := { row := prefixTakesRow, standIns := [], harness := (true, "78b12b386e7202ffbf0de6e2de98b6ddd4e80df44694cb74e4ab23e96ad18dcf"), looks := false }, kinds := [], alts := [], laidByText := true, laidKinds := [.data, .pinned], laidTests := true, laidLooks := .later }
def PrefixTakesCardSaid : Prop := Claim7.holds Tryd.pinned (.plain (OpenSpec.ofChange prefixTakesSpec)) prefixTakesCard

/-- THE TIED CARD OF 'overspilllaw05.PrefixBack'. -/
def prefixBackCard : Claim7 := { stood := { row := prefixBackRow, standIns := [], harness := (true, "78b12b386e7202ffbf0de6e2de98b6ddd4e80df44694cb74e4ab23e96ad18dcf"), looks := false }, kinds := [], alts := [], laidByText := true, laidKinds := [.data, .pinned], laidTests := true, laidLooks := .later }
def PrefixBackCardSaid : Prop := Claim7.holds Tryd.pinned (.plain (OpenSpec.ofChange prefixBackSpec)) prefixBackCard

/-- THE TIED CARD OF 'overspilllaw05.PrefixMakes'. -/
def prefixMakesCard : Claim7 := { stood := { row := prefixMakesRow, standIns := [], harness := (true, "78b12b386e7202ffbf0de6e2de98b6ddd4e80df44694cb74e4ab23e96ad18dcf"), looks := false }, kinds := [], alts := [], laidByText := true, laidKinds := [.data, .pinned], laidTests := true, laidLooks := .later }
def PrefixMakesCardSaid : Prop := Claim7.holds Tryd.pinned (.plain (OpenSpec.ofChange prefixMakesSpec)) prefixMakesCard

/-- THE TIED CARD OF 'overspilllaw05.PrefixNone'. -/
def prefixNoneCard : Claim7 := { stood := { row := prefixNoneRow, standIns := [], harness := (true, "78b12b386e7202ffbf0de6e2de98b6ddd4e80df44694cb74e4ab23e96ad18dcf"), looks := false }, kinds := [], alts := [], laidByText := true, laidKinds := [.data, .pinned], laidTests := true, laidLooks := .later }
def PrefixNoneCardSaid : Prop := Claim7.holds Tryd.pinned (.plain (OpenSpec.ofChange prefixNoneSpec)) prefixNoneCard

/-- THE TIED CARD OF 'overspilllaw07.CbpyRows'. -/
def cbpyRowsCard : Claim7 := { stood := { row := cbpyRowsRow, standIns := [], harness := (true, "78b12b386e7202ffbf0de6e2de98b6ddd4e80df44694cb74e4ab23e96ad18dcf"), looks := false }, kinds := [], alts := [], laidByText := true, laidKinds := [.data, .pinned], laidTests := true, laidLooks := .later }
def CbpyRowsCardSaid : Prop := Claim7.holds Tryd.pinned (.plain (OpenSpec.ofChange cbpyRowsSpec)) cbpyRowsCard

/-- THE TIED CARD OF 'overspilllaw07.CbpyTakes'. -/
def cbpyTakesCard : Claim7 := { stood := { row := cbpyTakesRow, standIns := [], harness := (true, "78b12b386e7202ffbf0de6e2de98b6ddd4e80df44694cb74e4ab23e96ad18dcf"), looks := false }, kinds := [], alts := [], laidByText := true, laidKinds := [.data, .pinned], laidTests := true, laidLooks := .later }
def CbpyTakesCardSaid : Prop := Claim7.holds Tryd.pinned (.plain (OpenSpec.ofChange cbpyTakesSpec)) cbpyTakesCard

/-- THE SECOND FORM's CARD OF 'overspilllaw11.ScanAt'. -/
def scanAtUptoCard : Claim7 := { stood := { row := scanAtUptoRow, standIns := [], harness := (true, "78b12b386e7202ffbf0de6e2de98b6ddd4e80df44694cb74e4ab23e96ad18dcf"), looks := false }, kinds := [], alts := [], laidByText := true, laidKinds := [.data], laidTests := true, laidLooks := .later }
def ScanAtUptoCardSaid : Prop := Claim7.holds Tryd.pinned (.plain (OpenSpec.upto scanAtSpec)) scanAtUptoCard

/-- THE SECOND FORM's CARD OF 'overspilllaw11.ScanLater'. -/
def scanLaterUptoCard : Claim7 := { stood := { row := scanLaterUptoRow, standIns := [], harness := (true, "78b12b386e7202ffbf0de6e2de98b6ddd4e80df44694cb74e4ab23e96ad18dcf"), looks := false }, kinds := [], alts := [], laidByText := true, laidKinds := [.data], laidTests := true, laidLooks := .later }
def ScanLaterUptoCardSaid : Prop := Claim7.holds Tryd.pinned (.plain (OpenSpec.upto scanLaterSpec)) scanLaterUptoCard

/-- THE SECOND FORM's CARD OF 'overspilllaw11.ScanTurns'. -/
def scanTurnsUptoCard : Claim7 := { stood := { row := scanTurnsUptoRow, standIns := [], harness := (true, "78b12b386e7202ffbf0de6e2de98b6ddd4e80df44694cb74e4ab23e96ad18dcf"), looks := false }, kinds := [], alts := [], laidByText := true, laidKinds := [.data], laidTests := true, laidLooks := .later }
def ScanTurnsUptoCardSaid : Prop := Claim7.holds Tryd.pinned (.plain (OpenSpec.upto scanTurnsSpec)) scanTurnsUptoCard

/-- THE SECOND FORM's CARD OF 'overspilllaw08.MvdRows'. -/
def mvdRowsUptoCard : Claim7 := { stood := { row := mvdRowsUptoRow, standIns := [], harness := (true, "78b12b386e7202ffbf0de6e2de98b6ddd4e80df44694cb74e4ab23e96ad18dcf"), looks := false }, kinds := [], alts := [], laidByText := true, laidKinds := [.data], laidTests := true, laidLooks := .later }
def MvdRowsUptoCardSaid : Prop := Claim7.holds Tryd.pinned (.plain (OpenSpec.upto mvdRowsSpec)) mvdRowsUptoCard

/-- THE SECOND FORM's CARD OF 'overspilllaw08.MvdTakes'. -/
def mvdTakesUptoCard : Claim7 := { stood := { row := mvdTakesUptoRow, standIns := [], harness := (true, "78b12b386e7202ffbf0de6e2de98b6ddd4e80df44694cb74e4ab23e96ad18dcf"), looks := false }, kinds := [], alts := [], laidByText := true, laidKinds := [.data], laidTests := true, laidLooks := .later }
def MvdTakesUptoCardSaid : Prop := Claim7.holds Tryd.pinned (.plain (OpenSpec.upto mvdTakesSpec)) mvdTakesUptoCard

/-- THE SECOND FORM's CARD OF 'overspilllaw08.MvdBack'. -/
def mvdBackUptoCard : Claim7 := { stood := { row := mvdBackUptoRow, standIns := [], harness := (true, "78b12b386e7202ffbf0de6e2de98b6ddd4e80df44694cb74e4ab23e96ad18dcf"), looks := false }, kinds := [], alts := [], laidByText := true, laidKinds := [.data], laidTests := true, laidLooks := .later }
def MvdBackUptoCardSaid : Prop := Claim7.holds Tryd.pinned (.plain (OpenSpec.upto mvdBackSpec)) mvdBackUptoCard

/-- THE SECOND FORM's CARD OF 'overspilllaw05.PrefixTakes'. -/
def prefixTakesUptoCard : Claim7 := { stood := { row := prefixTakesUptoRow, standIns := [], harness := (true, "78b12b386e7202ffbf0de6e2de98b6ddd4e80df44694cb74e4ab23e96ad18dcf"), looks := false }, kinds := [], alts := [], laidByText := true, laidKinds := [.data, .pinned], laidTests := true, laidLooks := .later }
def PrefixTakesUptoCardSaid : Prop := Claim7.holds Tryd.pinned (.plain (OpenSpec.upto prefixTakesSpec)) prefixTakesUptoCard

/-- THE SECOND FORM's CARD OF 'overspilllaw05.PrefixBack'. -/
def prefixBackUptoCard : Claim7 := { stood := { row := prefixBackUptoRow, standIns := [], harness := (true, "78b12b386e7202ffbf0de6e2de98b6ddd4e80df44694cb74e4ab23e96ad18dcf"), looks := false }, kinds := [], alts := [], laidByText := true, laidKinds := [.data, .pinned], laidTests := true, laidLooks := .later }
def PrefixBackUptoCardSaid : Prop := Claim7.holds Tryd.pinned (.plain (OpenSpec.upto prefixBackSpec)) prefixBackUptoCard

/-- THE SECOND FORM's CARD OF 'overspilllaw05.PrefixMakes'. -/
def prefixMakesUptoCard : Claim7 := { stood := { row := prefixMakesUptoRow, standIns := [], harness := (true, "78b12b386e7202ffbf0de6e2de98b6ddd4e80df44694cb74e4ab23e96ad18dcf"), looks := false }, kinds := [], alts := [], laidByText := true, laidKinds := [.data, .pinned], laidTests := true, laidLooks := .later }
def PrefixMakesUptoCardSaid : Prop := Claim7.holds Tryd.pinned (.plain (OpenSpec.upto prefixMakesSpec)) prefixMakesUptoCard

/-- THE SECOND FORM's CARD OF 'overspilllaw05.PrefixNone'. -/
def prefixNoneUptoCard : Claim7 := { stood := { row := prefixNoneUptoRow, standIns := [], harness := (true, "78b12b386e7202ffbf0de6e2de98b6ddd4e80df44694cb74e4ab23e96ad18dcf"), looks := false }, kinds := [], alts := [], laidByText := true, laidKinds := [.data, .pinned], laidTests := true, laidLooks := .later }
def PrefixNoneUptoCardSaid : Prop := Claim7.holds Tryd.pinned (.plain (OpenSpec.upto prefixNoneSpec)) prefixNoneUptoCard

/-- THE SECOND FORM's CARD OF 'overspilllaw07.CbpyRows'. -/
def cbpyRowsUptoCard : Claim7 := { stood := { row := cbpyRowsUptoRow, standIns := [], harness := (true, "78b12b386e7202ffbf0de6e2de98b6ddd4e80df44694cb74e4ab23e96ad18dcf"), looks := false }, kinds := [], alts := [], laidByText := true, laidKinds := [.data, .pinned], laidTests := true, laidLooks := .later }
def CbpyRowsUptoCardSaid : Prop := Claim7.holds Tryd.pinned (.plain (OpenSpec.upto cbpyRowsSpec)) cbpyRowsUptoCard

/-- THE SECOND FORM's CARD OF 'overspilllaw07.CbpyTakes'. -/
def cbpyTakesUptoCard : Claim7 := { stood := { row := cbpyTakesUptoRow, standIns := [], harness := (true, "78b12b386e7202ffbf0de6e2de98b6ddd4e80df44694cb74e4ab23e96ad18dcf"), looks := false }, kinds := [], alts := [], laidByText := true, laidKinds := [.data, .pinned], laidTests := true, laidLooks := .later }
def CbpyTakesUptoCardSaid : Prop := Claim7.holds Tryd.pinned (.plain (OpenSpec.upto cbpyTakesSpec)) cbpyTakesUptoCard
end Rows
end Go.Proofs.YtnmkmhbfgebalaaDoor
