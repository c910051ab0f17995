/-
  DERIVED. GIVEN WITH THE SEED: THE CARDS: each row of YtammpekpmjboiaaDoorRows.lean that lists a variable, with what it lists TIED to the program's text (the seventh form; the later family's looks); each row that meets fmt, with fmt's text TOLD by the authors' own Lean function (tested against real Go, not proved from fmt's source: count such statements apart). THE CARD IS WHAT COUNTS. Prove the row's statement (the work); the ties are given (YtammpekpmjboiaaDoorTie.lean); close each card by the builder's one call (the guide's Derived/Test/ToyasCard.lean, 'card_holds'). Laid BY PROGRAM, IN A SANDBOX (cutbox-door.mjs). By AI agents, Wed Nov 11 2026. No macro, syntax, notation, axiom, sorry.
-/
import Derived.Test.YtammpekpmjboiaaDoorRows
import GoSem.ClaimSeven
namespace Go.Proofs.YtammpekpmjboiaaDoor
namespace Rows

/-- THE TIED CARD OF 'overspilllaw05.PrefixNone'. -/
def prefixNoneCard : Claim7 := { stood := { row := prefixNoneRow, standIns := [], harness := (true, "8a3d72a034850726458460ed00d10cf3169c840004ceeecef305b00663bfa8f4"), looks := false }, kinds := [], alts := [], laidByText := true, laidKinds := [.data, .pinned], laidTests := true, laidLooks := .later }
def PrefixNoneCardSaid : Prop := Claim7.holds Tryd.pinned (.plain (OpenSpec.ofChange prefixNoneSpec)) prefixNoneCard

/-- THE TIED CARD OF 'overspilllaw07.CbpyRows'. -/
def cbpyRowsCard : Claim7 := { stood := { row := cbpyRowsRow, standIns := [], harness := (true, "8a3d72a034850726458460ed00d10cf3169c840004ceeecef305b00663bfa8f4"), looks := false }, kinds := [], alts := [], laidByText := true, laidKinds := [.data, .pinned], laidTests := true, laidLooks := .later }
def CbpyRowsCardSaid : Prop := Claim7.holds Tryd.pinned (.plain (OpenSpec.ofChange cbpyRowsSpec)) cbpyRowsCard

/-- THE TIED CARD OF 'overspilllaw07.CbpyTakes'. -/
def cbpyTakesCard : Claim7 := { stood := { row := cbpyTakesRow, standIns := [], harness := (true, "8a3d72a034850726458460ed00d10cf3169c840004ceeecef305b00663bfa8f4"), looks := false }, kinds := [], alts := [], laidByText := true, laidKinds := [.data, .pinned], laidTests := true, laidLooks := .later }
def CbpyTakesCardSaid : Prop := Claim7.holds Tryd.pinned (.plain (OpenSpec.ofChange cbpyTakesSpec)) cbpyTakesCard

/-- THE TIED CARD OF 'overspilllaw07.CbpyBack'. -/
def cbpyBackCard : Claim7 := { stood := { row := cbpyBackRow, standIns := [], harness := (true, "8a3d72a034850726458460ed00d10cf3169c840004ceeecef305b00663bfa8f4"), looks := false }, kinds := [], alts := [], laidByText := true, laidKinds := [.data, .pinned], laidTests := true, laidLooks := .later }
def CbpyBackCardSaid : Prop := Claim7.holds Tryd.pinned (.plain (OpenSpec.ofChange cbpyBackSpec)) cbpyBackCard

/-- THE TIED CARD OF 'overspilllaw22.CelloutPuts'. -/
def celloutPutsCard : Claim7 := { stood := { row := celloutPutsRow, standIns := [], harness := (true, "8a3d72a034850726458460ed00d10cf3169c840004ceeecef305b00663bfa8f4"), looks := false }, kinds := [], alts := [], laidByText := true, laidKinds := [.data, .data, .data, .listed, .data], laidTests := true, laidLooks := .later }
def CelloutPutsCardSaid : Prop := Claim7.holds Tryd.pinned (.plain (OpenSpec.ofChange celloutPutsSpec)) celloutPutsCard

/-- THE TIED CARD OF 'overspilllaw06.McbpcRows'. -/
def mcbpcRowsCard : Claim7 := { stood := { row := mcbpcRowsRow, standIns := [], harness := (true, "8a3d72a034850726458460ed00d10cf3169c840004ceeecef305b00663bfa8f4"), looks := false }, kinds := [], alts := [], laidByText := true, laidKinds := [.data, .listed, .data, .pinned], laidTests := true, laidLooks := .later }
def McbpcRowsCardSaid : Prop := Claim7.holds Tryd.pinned (.plain (OpenSpec.ofChange mcbpcRowsSpec)) mcbpcRowsCard

/-- THE TIED CARD OF 'overspilllaw06.McbpcTakes'. -/
def mcbpcTakesCard : Claim7 := { stood := { row := mcbpcTakesRow, standIns := [], harness := (true, "8a3d72a034850726458460ed00d10cf3169c840004ceeecef305b00663bfa8f4"), looks := false }, kinds := [], alts := [], laidByText := true, laidKinds := [.data, .listed, .data, .pinned], laidTests := true, laidLooks := .later }
def McbpcTakesCardSaid : Prop := Claim7.holds Tryd.pinned (.plain (OpenSpec.ofChange mcbpcTakesSpec)) mcbpcTakesCard

/-- THE TIED CARD OF 'overspilllaw06.McbpcBack'. -/
def mcbpcBackCard : Claim7 := { stood := { row := mcbpcBackRow, standIns := [], harness := (true, "8a3d72a034850726458460ed00d10cf3169c840004ceeecef305b00663bfa8f4"), looks := false }, kinds := [], alts := [], laidByText := true, laidKinds := [.data, .listed, .data, .pinned], laidTests := true, laidLooks := .later }
def McbpcBackCardSaid : Prop := Claim7.holds Tryd.pinned (.plain (OpenSpec.ofChange mcbpcBackSpec)) mcbpcBackCard

/-- THE SECOND FORM's CARD OF 'overspilllaw05.PrefixNone'. -/
def prefixNoneUptoCard : Claim7 := { stood := { row := prefixNoneUptoRow, standIns := [], harness := (true, "8a3d72a034850726458460ed00d10cf3169c840004ceeecef305b00663bfa8f4"), looks := false }, kinds := [], alts := [], laidByText := true, laidKinds := [.data, .pinned], laidTests := true, laidLooks := .later }
def PrefixNoneUptoCardSaid : Prop := Claim7.holds Tryd.pinned (.plain (OpenSpec.upto prefixNoneSpec)) prefixNoneUptoCard

/-- THE SECOND FORM's CARD OF 'overspilllaw07.CbpyRows'. -/
def cbpyRowsUptoCard : Claim7 := { stood := { row := cbpyRowsUptoRow, standIns := [], harness := (true, "8a3d72a034850726458460ed00d10cf3169c840004ceeecef305b00663bfa8f4"), looks := false }, kinds := [], alts := [], laidByText := true, laidKinds := [.data, .pinned], laidTests := true, laidLooks := .later }
def CbpyRowsUptoCardSaid : Prop := Claim7.holds Tryd.pinned (.plain (OpenSpec.upto cbpyRowsSpec)) cbpyRowsUptoCard

/-- THE SECOND FORM's CARD OF 'overspilllaw07.CbpyTakes'. -/
def cbpyTakesUptoCard : Claim7 := { stood := { row := cbpyTakesUptoRow, standIns := [], harness := (true, "8a3d72a034850726458460ed00d10cf3169c840004ceeecef305b00663bfa8f4"), looks := false }, kinds := [], alts := [], laidByText := true, laidKinds := [.data, .pinned], laidTests := true, laidLooks := .later }
def CbpyTakesUptoCardSaid : Prop := Claim7.holds Tryd.pinned (.plain (OpenSpec.upto cbpyTakesSpec)) cbpyTakesUptoCard

/-- THE SECOND FORM's CARD OF 'overspilllaw07.CbpyBack'. -/
def cbpyBackUptoCard : Claim7 := { stood := { row := cbpyBackUptoRow, standIns := [], harness := (true, "8a3d72a034850726458460ed00d10cf3169c840004ceeecef305b00663bfa8f4"), looks := false }, kinds := [], alts := [], laidByText := true, laidKinds := [.data, .pinned], laidTests := true, laidLooks := .later }
def CbpyBackUptoCardSaid : Prop := Claim7.holds Tryd.pinned (.plain (OpenSpec.upto cbpyBackSpec)) cbpyBackUptoCard

/-- THE SECOND FORM's CARD OF 'overspilllaw22.CelloutPuts'. -/
def celloutPutsUptoCard : Claim7 := { stood := { row := celloutPutsUptoRow, standIns := [], harness := (true, "8a3d72a034850726458460ed00d10cf3169c840004ceeecef305b00663bfa8f4"), looks := false }, kinds := [], alts := [], laidByText := true, laidKinds := [.data, .data, .data, .listed, .data], laidTests := true, laidLooks := .later }
def CelloutPutsUptoCardSaid : Prop := Claim7.holds Tryd.pinned (.plain (OpenSpec.upto celloutPutsSpec)) celloutPutsUptoCard

/-- THE SECOND FORM's CARD OF 'overspilllaw06.McbpcRows'. -/
def mcbpcRowsUptoCard : Claim7 := { stood := { row := mcbpcRowsUptoRow, standIns := [], harness := (true, "8a3d72a034850726458460ed00d10cf3169c840004ceeecef305b00663bfa8f4"), looks := false }, kinds := [], alts := [], laidByText := true, laidKinds := [.data, .listed, .data, .pinned], laidTests := true, laidLooks := .later }
def McbpcRowsUptoCardSaid : Prop := Claim7.holds Tryd.pinned (.plain (OpenSpec.upto mcbpcRowsSpec)) mcbpcRowsUptoCard

/-- THE SECOND FORM's CARD OF 'overspilllaw06.McbpcTakes'. -/
def mcbpcTakesUptoCard : Claim7 := { stood := { row := mcbpcTakesUptoRow, standIns := [], harness := (true, "8a3d72a034850726458460ed00d10cf3169c840004ceeecef305b00663bfa8f4"), looks := false }, kinds := [], alts := [], laidByText := true, laidKinds := [.data, .listed, .data, .pinned], laidTests := true, laidLooks := .later }
def McbpcTakesUptoCardSaid : Prop := Claim7.holds Tryd.pinned (.plain (OpenSpec.upto mcbpcTakesSpec)) mcbpcTakesUptoCard

/-- THE SECOND FORM's CARD OF 'overspilllaw06.McbpcBack'. -/
def mcbpcBackUptoCard : Claim7 := { stood := { row := mcbpcBackUptoRow, standIns := [], harness := (true, "8a3d72a034850726458460ed00d10cf3169c840004ceeecef305b00663bfa8f4"), looks := false }, kinds := [], alts := [], laidByText := true, laidKinds := [.data, .listed, .data, .pinned], laidTests := true, laidLooks := .later }
def McbpcBackUptoCardSaid : Prop := Claim7.holds Tryd.pinned (.plain (OpenSpec.upto mcbpcBackSpec)) mcbpcBackUptoCard
end Rows
end Go.Proofs.YtammpekpmjboiaaDoor
