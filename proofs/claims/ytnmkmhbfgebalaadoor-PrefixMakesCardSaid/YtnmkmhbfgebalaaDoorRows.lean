/-
  NARROWER THAN 'FOR EVERY INPUT', by the rows' own cells (each row's printed sentence says how): ScanAt: laid · ScanLater: laid · ScanTurns: laid · MvdRows: laid · MvdTakes: laid · MvdBack: laid · PrefixTakes: laid · PrefixBack: laid · PrefixMakes: laid · PrefixNone: laid · CbpyRows: laid · CbpyTakes: laid.
  DERIVED. THE GIVEN ROWS OF THIS SEAT. 12 by the template 'for every input the law returns true; each argument reads behind the call as it read before'; 0 by the template 'total and deterministic' (their statements: YtnmkmhbfgebalaaDoorTotals.lean).
  GIVEN WITH THE SEED: the statements are not yours to turn. If you find one false, say at which input.
  Laid BY PROGRAM, IN A SANDBOX (cutbox-rows.mjs): the forced cells as the released guide's own fill.sh prints them over the translation 688a294c492c7642… (all of the seat's roots in one cut). By AI agents, Wed Nov 11 2026. No macro, syntax, notation, axiom, sorry.
-/
import Derived.Test.YtnmkmhbfgebalaaDoorChecked
import GoSem.PinnedTables
import GoSem.Claim
import GoSem.ClaimJoined
import GoSem.ClaimMapViews
import Derived.JoinedTies
import Derived.KernelRfl
namespace Go.Proofs.YtnmkmhbfgebalaaDoor
/- THE CELL 'sum', in the pinned program and in every row, IS THE sha256 OF THE DUMP (.gsa) THAT YtnmkmhbfgebalaaDoorProg.lean LOADS. Nothing in Lean hashes anything: it is a label: what it is worth is what the hold of that sum in a sandbox is worth. -/
noncomputable def Tryd.pinned : Pinned := { name := "ytnmkmhbfgebalaadoor", sum := "688a294c492c764295a1eca00b55c669d922973470bd89ced489130b9e0f775d", checked := Tryd.checked }
namespace Rows
def none {H : Type} : Left H := { results := [], args := [] }

/- WHAT THE LISTED PACKAGE-LEVEL VARIABLES READ AS WHEN THE CALL BEGINS. Each datum BY PROGRAM (the guide's laid-datum.mjs) off the statement by which the dump's own 'gosem.cut.vars' lays the variable. In a bare row this is a premise. The card (YtnmkmhbfgebalaaDoorCards.lean) ties it to the program's text. -/
def laid_overspill_scan_places {H : Type} : DataW H := .agg [.lit (.int .i64 0), .lit (.int .i64 1), .lit (.int .i64 8), .lit (.int .i64 16), .lit (.int .i64 9), .lit (.int .i64 2), .lit (.int .i64 3), .lit (.int .i64 10), .lit (.int .i64 17), .lit (.int .i64 24), .lit (.int .i64 32), .lit (.int .i64 25), .lit (.int .i64 18), .lit (.int .i64 11), .lit (.int .i64 4), .lit (.int .i64 5), .lit (.int .i64 12), .lit (.int .i64 19), .lit (.int .i64 26), .lit (.int .i64 33), .lit (.int .i64 40), .lit (.int .i64 48), .lit (.int .i64 41), .lit (.int .i64 34), .lit (.int .i64 27), .lit (.int .i64 20), .lit (.int .i64 13), .lit (.int .i64 6), .lit (.int .i64 7), .lit (.int .i64 14), .lit (.int .i64 21), .lit (.int .i64 28), .lit (.int .i64 35), .lit (.int .i64 42), .lit (.int .i64 49), .lit (.int .i64 56), .lit (.int .i64 57), .lit (.int .i64 50), .lit (.int .i64 43), .lit (.int .i64 36), .lit (.int .i64 29), .lit (.int .i64 22), .lit (.int .i64 15), .lit (.int .i64 23), .lit (.int .i64 30), .lit (.int .i64 37), .lit (.int .i64 44), .lit (.int .i64 51), .lit (.int .i64 58), .lit (.int .i64 59), .lit (.int .i64 52), .lit (.int .i64 45), .lit (.int .i64 38), .lit (.int .i64 31), .lit (.int .i64 39), .lit (.int .i64 46), .lit (.int .i64 53), .lit (.int .i64 60), .lit (.int .i64 61), .lit (.int .i64 54), .lit (.int .i64 47), .lit (.int .i64 55), .lit (.int .i64 62), .lit (.int .i64 63)]
def laid_overspill_mvd_codes {H : Type} : DataW H := .agg [.lit (.int .i64 1), .lit (.int .i64 1), .lit (.int .i64 1), .lit (.int .i64 1), .lit (.int .i64 3), .lit (.int .i64 5), .lit (.int .i64 4), .lit (.int .i64 3), .lit (.int .i64 11), .lit (.int .i64 10), .lit (.int .i64 9), .lit (.int .i64 17), .lit (.int .i64 16), .lit (.int .i64 15), .lit (.int .i64 14), .lit (.int .i64 13), .lit (.int .i64 12), .lit (.int .i64 11), .lit (.int .i64 10), .lit (.int .i64 9), .lit (.int .i64 8), .lit (.int .i64 7), .lit (.int .i64 6), .lit (.int .i64 5), .lit (.int .i64 4), .lit (.int .i64 7), .lit (.int .i64 6), .lit (.int .i64 5), .lit (.int .i64 4), .lit (.int .i64 3), .lit (.int .i64 2), .lit (.int .i64 3), .lit (.int .i64 2)]
def laid_unicode_utf8_acceptRanges {H : Type} : DataW H := .agg [.agg [.lit (.int .u8 128), .lit (.int .u8 191)], .agg [.lit (.int .u8 160), .lit (.int .u8 191)], .agg [.lit (.int .u8 128), .lit (.int .u8 159)], .agg [.lit (.int .u8 144), .lit (.int .u8 191)], .agg [.lit (.int .u8 128), .lit (.int .u8 143)], .agg [.lit (.int .u8 0), .lit (.int .u8 0)], .agg [.lit (.int .u8 0), .lit (.int .u8 0)], .agg [.lit (.int .u8 0), .lit (.int .u8 0)], .agg [.lit (.int .u8 0), .lit (.int .u8 0)], .agg [.lit (.int .u8 0), .lit (.int .u8 0)], .agg [.lit (.int .u8 0), .lit (.int .u8 0)], .agg [.lit (.int .u8 0), .lit (.int .u8 0)], .agg [.lit (.int .u8 0), .lit (.int .u8 0)], .agg [.lit (.int .u8 0), .lit (.int .u8 0)], .agg [.lit (.int .u8 0), .lit (.int .u8 0)], .agg [.lit (.int .u8 0), .lit (.int .u8 0)]]
/-- One of Go's own tables, pinned by name: the form's constant. -/
def laid_unicode_utf8_first : DataW Unit := Go.Pinned.utf8First

/-- 'overspilllaw11.ScanAt': WHATEVER THE INPUT: true; the input reads as it did. -/
def scanAtSpec : ChangeSpec := { name := "scanAt", fn := fun _ => fun
  | [d] => { results := [.lit (.bool true)], args := [d] }
  | _ => none }
def scanAtRow : OpenClaim := { program := "ytnmkmhbfgebalaadoor", sum := "688a294c492c764295a1eca00b55c669d922973470bd89ced489130b9e0f775d", func := "overspill/overspilllaw11.ScanAt", spec := "scanAt", named := ["overspill/scan.places"], apart := false, laid := [("overspill/scan.places", laid_overspill_scan_places)] }
def ScanAtSaid : Prop := scanAtRow.holds Tryd.pinned (OpenSpec.ofChange scanAtSpec)

/-- ITS FALSE NEIGHBOUR: 'it returns false'. Refute it at one input. -/
def scanAtWrong : ChangeSpec := { name := "scanAt", fn := fun _ => fun
  | [d] => { results := [.lit (.bool false)], args := [d] }
  | _ => none }
def ScanAtWrongFalsely : Prop := scanAtRow.holds Tryd.pinned (OpenSpec.ofChange scanAtWrong)

/-- 'overspilllaw11.ScanLater': WHATEVER THE INPUT: true; the input reads as it did. -/
def scanLaterSpec : ChangeSpec := { name := "scanLater", fn := fun _ => fun
  | [d1, d2, d3] => { results := [.lit (.bool true)], args := [d1, d2, d3] }
  | _ => none }
def scanLaterRow : OpenClaim := { program := "ytnmkmhbfgebalaadoor", sum := "688a294c492c764295a1eca00b55c669d922973470bd89ced489130b9e0f775d", func := "overspill/overspilllaw11.ScanLater", spec := "scanLater", named := ["overspill/scan.places"], apart := false, laid := [("overspill/scan.places", laid_overspill_scan_places)] }
def ScanLaterSaid : Prop := scanLaterRow.holds Tryd.pinned (OpenSpec.ofChange scanLaterSpec)

/-- ITS FALSE NEIGHBOUR: 'it returns false'. Refute it at one input. -/
def scanLaterWrong : ChangeSpec := { name := "scanLater", fn := fun _ => fun
  | [d1, d2, d3] => { results := [.lit (.bool false)], args := [d1, d2, d3] }
  | _ => none }
def ScanLaterWrongFalsely : Prop := scanLaterRow.holds Tryd.pinned (OpenSpec.ofChange scanLaterWrong)

/-- 'overspilllaw11.ScanTurns': WHATEVER THE INPUT: true; the input reads as it did. -/
def scanTurnsSpec : ChangeSpec := { name := "scanTurns", fn := fun _ => fun
  | [d] => { results := [.lit (.bool true)], args := [d] }
  | _ => none }
def scanTurnsRow : OpenClaim := { program := "ytnmkmhbfgebalaadoor", sum := "688a294c492c764295a1eca00b55c669d922973470bd89ced489130b9e0f775d", func := "overspill/overspilllaw11.ScanTurns", spec := "scanTurns", named := ["overspill/scan.places"], apart := false, laid := [("overspill/scan.places", laid_overspill_scan_places)] }
def ScanTurnsSaid : Prop := scanTurnsRow.holds Tryd.pinned (OpenSpec.ofChange scanTurnsSpec)

/-- ITS FALSE NEIGHBOUR: 'it returns false'. Refute it at one input. -/
def scanTurnsWrong : ChangeSpec := { name := "scanTurns", fn := fun _ => fun
  | [d] => { results := [.lit (.bool false)], args := [d] }
  | _ => none }
def ScanTurnsWrongFalsely : Prop := scanTurnsRow.holds Tryd.pinned (OpenSpec.ofChange scanTurnsWrong)

/-- 'overspilllaw08.MvdRows': WHATEVER THE INPUT: true; the input reads as it did. -/
def mvdRowsSpec : ChangeSpec := { name := "mvdRows", fn := fun _ => fun
  | [d] => { results := [.lit (.bool true)], args := [d] }
  | _ => none }
def mvdRowsRow : OpenClaim := { program := "ytnmkmhbfgebalaadoor", sum := "688a294c492c764295a1eca00b55c669d922973470bd89ced489130b9e0f775d", func := "overspill/overspilllaw08.MvdRows", spec := "mvdRows", named := ["overspill/mvd.codes"], apart := false, laid := [("overspill/mvd.codes", laid_overspill_mvd_codes)] }
def MvdRowsSaid : Prop := mvdRowsRow.holds Tryd.pinned (OpenSpec.ofChange mvdRowsSpec)

/-- ITS FALSE NEIGHBOUR: 'it returns false'. Refute it at one input. -/
def mvdRowsWrong : ChangeSpec := { name := "mvdRows", fn := fun _ => fun
  | [d] => { results := [.lit (.bool false)], args := [d] }
  | _ => none }
def MvdRowsWrongFalsely : Prop := mvdRowsRow.holds Tryd.pinned (OpenSpec.ofChange mvdRowsWrong)

/-- 'overspilllaw08.MvdTakes': WHATEVER THE INPUT: true; the input reads as it did. -/
def mvdTakesSpec : ChangeSpec := { name := "mvdTakes", fn := fun _ => fun
  | [d1, d2] => { results := [.lit (.bool true)], args := [d1, d2] }
  | _ => none }
def mvdTakesRow : OpenClaim := { program := "ytnmkmhbfgebalaadoor", sum := "688a294c492c764295a1eca00b55c669d922973470bd89ced489130b9e0f775d", func := "overspill/overspilllaw08.MvdTakes", spec := "mvdTakes", named := ["overspill/mvd.codes"], apart := false, laid := [("overspill/mvd.codes", laid_overspill_mvd_codes)] }
def MvdTakesSaid : Prop := mvdTakesRow.holds Tryd.pinned (OpenSpec.ofChange mvdTakesSpec)

/-- ITS FALSE NEIGHBOUR: 'it returns false'. Refute it at one input. -/
def mvdTakesWrong : ChangeSpec := { name := "mvdTakes", fn := fun _ => fun
  | [d1, d2] => { results := [.lit (.bool false)], args := [d1, d2] }
  | _ => none }
def MvdTakesWrongFalsely : Prop := mvdTakesRow.holds Tryd.pinned (OpenSpec.ofChange mvdTakesWrong)

/-- 'overspilllaw08.MvdBack': WHATEVER THE INPUT: true; the input reads as it did. -/
def mvdBackSpec : ChangeSpec := { name := "mvdBack", fn := fun _ => fun
  | [d1, d2] => { results := [.lit (.bool true)], args := [d1, d2] }
  | _ => none }
def mvdBackRow : OpenClaim := { program := "ytnmkmhbfgebalaadoor", sum := "688a294c492c764295a1eca00b55c669d922973470bd89ced489130b9e0f775d", func := "overspill/overspilllaw08.MvdBack", spec := "mvdBack", named := ["overspill/mvd.codes"], apart := false, laid := [("overspill/mvd.codes", laid_overspill_mvd_codes)] }
def MvdBackSaid : Prop := mvdBackRow.holds Tryd.pinned (OpenSpec.ofChange mvdBackSpec)

/-- ITS FALSE NEIGHBOUR: 'it returns false'. Refute it at one input. -/
def mvdBackWrong : ChangeSpec := { name := "mvdBack", fn := fun _ => fun
  | [d1, d2] => { results := [.lit (.bool false)], args := [d1, d2] }
  | _ => none }
def MvdBackWrongFalsely : Prop := mvdBackRow.holds Tryd.pinned (OpenSpec.ofChange mvdBackWrong)

/-- 'overspilllaw05.PrefixTakes': WHATEVER THE INPUT: true; the input reads as it did. -/
def prefixTakesSpec : ChangeSpec := { name := "prefixTakes", fn := fun _ => fun
  | [d1, d2, d3] => { results := [.lit (.bool true)], args := [d1, d2, d3] }
  | _ => none }
def prefixTakesRow : OpenClaim := { program := "ytnmkmhbfgebalaadoor", sum := "688a294c492c764295a1eca00b55c669d922973470bd89ced489130b9e0f775d", func := "overspill/overspilllaw05.PrefixTakes", spec := "prefixTakes", inPlace := ["internal/bytealg.IndexByteString", "internal/bytealg.IndexString"], named := ["unicode/utf8.first", "unicode/utf8.acceptRanges", "internal/bytealg.MaxLen"], apart := false, laid := [("unicode/utf8.acceptRanges", laid_unicode_utf8_acceptRanges), ("unicode/utf8.first", laid_unicode_utf8_first)] }
def PrefixTakesSaid : Prop := prefixTakesRow.holds Tryd.pinned (OpenSpec.ofChange prefixTakesSpec)

/-- ITS FALSE NEIGHBOUR: 'it returns false'. Refute it at one input. -/
def prefixTakesWrong : ChangeSpec := { name := "prefixTakes", fn := fun _ => fun
  | [d1, d2, d3] => { results := [.lit (.bool false)], args := [d1, d2, d3] }
  | _ => none }
def PrefixTakesWrongFalsely : Prop := prefixTakesRow.holds Tryd.pinned (OpenSpec.ofChange prefixTakesWrong)

/-- 'overspilllaw05.PrefixBack': WHATEVER THE INPUT: true; the input reads as it did. -/
def prefixBackSpec : ChangeSpec := { name := "prefixBack", fn := fun _ => fun
  | [d1, d2] => { results := [.lit (.bool true)], args := [d1, d2] }
  | _ => none }
def prefixBackRow : OpenClaim := { program := "ytnmkmhbfgebalaadoor", sum := "688a294c492c764295a1eca00b55c669d922973470bd89ced489130b9e0f775d", func := "overspill/overspilllaw05.PrefixBack", spec := "prefixBack", inPlace := ["internal/bytealg.IndexByteString", "internal/bytealg.IndexString"], named := ["unicode/utf8.first", "unicode/utf8.acceptRanges", "internal/bytealg.MaxLen"], apart := false, laid := [("unicode/utf8.acceptRanges", laid_unicode_utf8_acceptRanges), ("unicode/utf8.first", laid_unicode_utf8_first)] }
def PrefixBackSaid : Prop := prefixBackRow.holds Tryd.pinned (OpenSpec.ofChange prefixBackSpec)

/-- ITS FALSE NEIGHBOUR: 'it returns false'. Refute it at one input. -/
def prefixBackWrong : ChangeSpec := { name := "prefixBack", fn := fun _ => fun
  | [d1, d2] => { results := [.lit (.bool false)], args := [d1, d2] }
  | _ => none }
def PrefixBackWrongFalsely : Prop := prefixBackRow.holds Tryd.pinned (OpenSpec.ofChange prefixBackWrong)

/-- 'overspilllaw05.PrefixMakes': WHATEVER THE INPUT: true; the input reads as it did. -/
def prefixMakesSpec : ChangeSpec := { name := "prefixMakes", fn := fun _ => fun
  | [d1, d2] => { results := [.lit (.bool true)], args := [d1, d2] }
  | _ => none }
def prefixMakesRow : OpenClaim := { program := "ytnmkmhbfgebalaadoor", sum := "688a294c492c764295a1eca00b55c669d922973470bd89ced489130b9e0f775d", func := "overspill/overspilllaw05.PrefixMakes", spec := "prefixMakes", inPlace := ["internal/bytealg.IndexByteString", "internal/bytealg.IndexString"], named := ["unicode/utf8.first", "unicode/utf8.acceptRanges", "internal/bytealg.MaxLen"], apart := false, laid := [("unicode/utf8.acceptRanges", laid_unicode_utf8_acceptRanges), ("unicode/utf8.first", laid_unicode_utf8_first)] }
def PrefixMakesSaid : Prop := prefixMakesRow.holds Tryd.pinned (OpenSpec.ofChange prefixMakesSpec)

/-- ITS FALSE NEIGHBOUR: 'it returns false'. Refute it at one input. -/
def prefixMakesWrong : ChangeSpec := { name := "prefixMakes", fn := fun _ => fun
  | [d1, d2] => { results := [.lit (.bool false)], args := [d1, d2] }
  | _ => none }
def PrefixMakesWrongFalsely : Prop := prefixMakesRow.holds Tryd.pinned (OpenSpec.ofChange prefixMakesWrong)

/-- 'overspilllaw05.PrefixNone': WHATEVER THE INPUT: true; the input reads as it did. -/
def prefixNoneSpec : ChangeSpec := { name := "prefixNone", fn := fun _ => fun
  | [d1, d2] => { results := [.lit (.bool true)], args := [d1, d2] }
  | _ => none }
def prefixNoneRow : OpenClaim := { program := "ytnmkmhbfgebalaadoor", sum := "688a294c492c764295a1eca00b55c669d922973470bd89ced489130b9e0f775d", func := "overspill/overspilllaw05.PrefixNone", spec := "prefixNone", inPlace := ["internal/bytealg.IndexByteString", "internal/bytealg.IndexString"], named := ["unicode/utf8.first", "unicode/utf8.acceptRanges", "internal/bytealg.MaxLen"], apart := false, laid := [("unicode/utf8.acceptRanges", laid_unicode_utf8_acceptRanges), ("unicode/utf8.first", laid_unicode_utf8_first)] }
def PrefixNoneSaid : Prop := prefixNoneRow.holds Tryd.pinned (OpenSpec.ofChange prefixNoneSpec)

/-- ITS FALSE NEIGHBOUR: 'it returns false'. Refute it at one input. -/
def prefixNoneWrong : ChangeSpec := { name := "prefixNone", fn := fun _ => fun
  | [d1, d2] => { results := [.lit (.bool false)], args := [d1, d2] }
  | _ => none }
def PrefixNoneWrongFalsely : Prop := prefixNoneRow.holds Tryd.pinned (OpenSpec.ofChange prefixNoneWrong)

/-- 'overspilllaw07.CbpyRows': WHATEVER THE INPUT: true; the input reads as it did. -/
def cbpyRowsSpec : ChangeSpec := { name := "cbpyRows", fn := fun _ => fun
  | [d1, d2] => { results := [.lit (.bool true)], args := [d1, d2] }
  | _ => none }
def cbpyRowsRow : OpenClaim := { program := "ytnmkmhbfgebalaadoor", sum := "688a294c492c764295a1eca00b55c669d922973470bd89ced489130b9e0f775d", func := "overspill/overspilllaw07.CbpyRows", spec := "cbpyRows", inPlace := ["internal/bytealg.IndexByteString", "internal/bytealg.IndexString"], named := ["unicode/utf8.first", "unicode/utf8.acceptRanges", "internal/bytealg.MaxLen"], apart := false, laid := [("unicode/utf8.acceptRanges", laid_unicode_utf8_acceptRanges), ("unicode/utf8.first", laid_unicode_utf8_first)] }
def CbpyRowsSaid : Prop := cbpyRowsRow.holds Tryd.pinned (OpenSpec.ofChange cbpyRowsSpec)

/-- ITS FALSE NEIGHBOUR: 'it returns false'. Refute it at one input. -/
def cbpyRowsWrong : ChangeSpec := { name := "cbpyRows", fn := fun _ => fun
  | [d1, d2] => { results := [.lit (.bool false)], args := [d1, d2] }
  | _ => none }
def CbpyRowsWrongFalsely : Prop := cbpyRowsRow.holds Tryd.pinned (OpenSpec.ofChange cbpyRowsWrong)

/-- 'overspilllaw07.CbpyTakes': WHATEVER THE INPUT: true; the input reads as it did. -/
def cbpyTakesSpec : ChangeSpec := { name := "cbpyTakes", fn := fun _ => fun
  | [d1, d2, d3] => { results := [.lit (.bool true)], args := [d1, d2, d3] }
  | _ => none }
def cbpyTakesRow : OpenClaim := { program := "ytnmkmhbfgebalaadoor", sum := "688a294c492c764295a1eca00b55c669d922973470bd89ced489130b9e0f775d", func := "overspill/overspilllaw07.CbpyTakes", spec := "cbpyTakes", inPlace := ["internal/bytealg.IndexByteString", "internal/bytealg.IndexString"], named := ["unicode/utf8.first", "unicode/utf8.acceptRanges", "internal/bytealg.MaxLen"], apart := false, laid := [("unicode/utf8.acceptRanges", laid_unicode_utf8_acceptRanges), ("unicode/utf8.first", laid_unicode_utf8_first)] }
def CbpyTakesSaid : Prop := cbpyTakesRow.holds Tryd.pinned (OpenSpec.ofChange cbpyTakesSpec)

/-- ITS FALSE NEIGHBOUR: 'it returns false'. Refute it at one input. -/
def cbpyTakesWrong : ChangeSpec := { name := "cbpyTakes", fn := fun _ => fun
  | [d1, d2, d3] => { results := [.lit (.bool false)], args := [d1, d2, d3] }
  | _ => none }
def CbpyTakesWrongFalsely : Prop := cbpyTakesRow.holds Tryd.pinned (OpenSpec.ofChange cbpyTakesWrong)

/- THE SECOND FORM. 'bulk': how many values and letters a reading holds, each counted each time it is reached (what is shared counts as often as it is met; a slice's spare places count too). A statement '..UptoSaid' is the law's where the arguments, and the package variables that the reading takes, are together of bulk at most 1048576: NARROWER than '..Said'. Prove '..Said' where nothing that the law and all that it calls make is longer than what came in: it says more and counts as full. Else prove '..UptoSaid'. A law counts once. -/
mutual
def uptoBulk {H : Type} : DataW H → Nat
  | .lit (.string bytes) => bytes.length + 1
  | .lit _ => 1
  | .nil => 1
  | .ptr d => uptoBulk d + 1
  | .slice elems spare => uptoBulkAll elems + uptoBulkAll spare + 1
  | .agg parts => uptoBulkAll parts + 1
  | .iface _ d => uptoBulk d + 1
  | .map entries => uptoBulkEntries entries + 1
  | .held _ => 1
def uptoBulkAll {H : Type} : List (DataW H) → Nat
  | [] => 0
  | d :: r => uptoBulk d + uptoBulkAll r
def uptoBulkEntries {H : Type} : List (Lit × DataW H) → Nat
  | [] => 0
  | x :: r => uptoBulkEntry x + uptoBulkEntries r
def uptoBulkEntry {H : Type} : Lit × DataW H → Nat
  | (.string bytes, d) => bytes.length + uptoBulk d + 1
  | (_, d) => uptoBulk d + 1
 end
def uptoSmall : (H : Type) → List (DataW H) → Bool := fun _ ds => decide (uptoBulkAll ds ≤ 1048576)
def OpenSpec.upto (s : _root_.Go.ChangeSpec) : _root_.Go.OpenSpec := { _root_.Go.OpenSpec.ofChange s with cond := some uptoSmall }

/-- 'overspilllaw11.ScanAt', WHERE WHAT IT READS IS OF BULK AT MOST 1048576: true; the input reads as it did. -/
def scanAtUptoRow : OpenClaim := { program := "ytnmkmhbfgebalaadoor", sum := "688a294c492c764295a1eca00b55c669d922973470bd89ced489130b9e0f775d", func := "overspill/overspilllaw11.ScanAt", spec := "scanAt", named := ["overspill/scan.places"], apart := false, laid := [("overspill/scan.places", laid_overspill_scan_places)], narrowed := true }
def ScanAtUptoSaid : Prop := scanAtUptoRow.holds Tryd.pinned (OpenSpec.upto scanAtSpec)

/-- 'overspilllaw11.ScanLater', WHERE WHAT IT READS IS OF BULK AT MOST 1048576: true; the input reads as it did. -/
def scanLaterUptoRow : OpenClaim := { program := "ytnmkmhbfgebalaadoor", sum := "688a294c492c764295a1eca00b55c669d922973470bd89ced489130b9e0f775d", func := "overspill/overspilllaw11.ScanLater", spec := "scanLater", named := ["overspill/scan.places"], apart := false, laid := [("overspill/scan.places", laid_overspill_scan_places)], narrowed := true }
def ScanLaterUptoSaid : Prop := scanLaterUptoRow.holds Tryd.pinned (OpenSpec.upto scanLaterSpec)

/-- 'overspilllaw11.ScanTurns', WHERE WHAT IT READS IS OF BULK AT MOST 1048576: true; the input reads as it did. -/
def scanTurnsUptoRow : OpenClaim := { program := "ytnmkmhbfgebalaadoor", sum := "688a294c492c764295a1eca00b55c669d922973470bd89ced489130b9e0f775d", func := "overspill/overspilllaw11.ScanTurns", spec := "scanTurns", named := ["overspill/scan.places"], apart := false, laid := [("overspill/scan.places", laid_overspill_scan_places)], narrowed := true }
def ScanTurnsUptoSaid : Prop := scanTurnsUptoRow.holds Tryd.pinned (OpenSpec.upto scanTurnsSpec)

/-- 'overspilllaw08.MvdRows', WHERE WHAT IT READS IS OF BULK AT MOST 1048576: true; the input reads as it did. -/
def mvdRowsUptoRow : OpenClaim := { program := "ytnmkmhbfgebalaadoor", sum := "688a294c492c764295a1eca00b55c669d922973470bd89ced489130b9e0f775d", func := "overspill/overspilllaw08.MvdRows", spec := "mvdRows", named := ["overspill/mvd.codes"], apart := false, laid := [("overspill/mvd.codes", laid_overspill_mvd_codes)], narrowed := true }
def MvdRowsUptoSaid : Prop := mvdRowsUptoRow.holds Tryd.pinned (OpenSpec.upto mvdRowsSpec)

/-- 'overspilllaw08.MvdTakes', WHERE WHAT IT READS IS OF BULK AT MOST 1048576: true; the input reads as it did. -/
def mvdTakesUptoRow : OpenClaim := { program := "ytnmkmhbfgebalaadoor", sum := "688a294c492c764295a1eca00b55c669d922973470bd89ced489130b9e0f775d", func := "overspill/overspilllaw08.MvdTakes", spec := "mvdTakes", named := ["overspill/mvd.codes"], apart := false, laid := [("overspill/mvd.codes", laid_overspill_mvd_codes)], narrowed := true }
def MvdTakesUptoSaid : Prop := mvdTakesUptoRow.holds Tryd.pinned (OpenSpec.upto mvdTakesSpec)

/-- 'overspilllaw08.MvdBack', WHERE WHAT IT READS IS OF BULK AT MOST 1048576: true; the input reads as it did. -/
def mvdBackUptoRow : OpenClaim := { program := "ytnmkmhbfgebalaadoor", sum := "688a294c492c764295a1eca00b55c669d922973470bd89ced489130b9e0f775d", func := "overspill/overspilllaw08.MvdBack", spec := "mvdBack", named := ["overspill/mvd.codes"], apart := false, laid := [("overspill/mvd.codes", laid_overspill_mvd_codes)], narrowed := true }
def MvdBackUptoSaid : Prop := mvdBackUptoRow.holds Tryd.pinned (OpenSpec.upto mvdBackSpec)

/-- 'overspilllaw05.PrefixTakes', WHERE WHAT IT READS IS OF BULK AT MOST 1048576: true; the input reads as it did. -/
def prefixTakesUptoRow : OpenClaim := { program := "ytnmkmhbfgebalaadoor", sum := "688a294c492c764295a1eca00b55c669d922973470bd89ced489130b9e0f775d", func := "overspill/overspilllaw05.PrefixTakes", spec := "prefixTakes", inPlace := ["internal/bytealg.IndexByteString", "internal/bytealg.IndexString"], named := ["unicode/utf8.first", "unicode/utf8.acceptRanges", "internal/bytealg.MaxLen"], apart := false, laid := [("unicode/utf8.acceptRanges", laid_unicode_utf8_acceptRanges), ("unicode/utf8.first", laid_unicode_utf8_first)], narrowed := true }
def PrefixTakesUptoSaid : Prop := prefixTakesUptoRow.holds Tryd.pinned (OpenSpec.upto prefixTakesSpec)

/-- 'overspilllaw05.PrefixBack', WHERE WHAT IT READS IS OF BULK AT MOST 1048576: true; the input reads as it did. -/
def prefixBackUptoRow : OpenClaim := { program := "ytnmkmhbfgebalaadoor", sum := "688a294c492c764295a1eca00b55c669d922973470bd89ced489130b9e0f775d", func := "overspill/overspilllaw05.PrefixBack", spec := "prefixBack", inPlace := ["internal/bytealg.IndexByteString", "internal/bytealg.IndexString"], named := ["unicode/utf8.first", "unicode/utf8.acceptRanges", "internal/bytealg.MaxLen"], apart := false, laid := [("unicode/utf8.acceptRanges", laid_unicode_utf8_acceptRanges), ("unicode/utf8.first", laid_unicode_utf8_first)], narrowed := true }
def PrefixBackUptoSaid : Prop := prefixBackUptoRow.holds Tryd.pinned (OpenSpec.upto prefixBackSpec)

/-- 'overspilllaw05.PrefixMakes', WHERE WHAT IT READS IS OF BULK AT MOST 1048576: true; the input reads as it did. -/
def prefixMakesUptoRow : OpenClaim := { program := "ytnmkmhbfgebalaadoor", sum := "688a294c492c764295a1eca00b55c669d922973470bd89ced489130b9e0f775d", func := "overspill/overspilllaw05.PrefixMakes", spec := "prefixMakes", inPlace := ["internal/bytealg.IndexByteString", "internal/bytealg.IndexString"], named := ["unicode/utf8.first", "unicode/utf8.acceptRanges", "internal/bytealg.MaxLen"], apart := false, laid := [("unicode/utf8.acceptRanges", laid_unicode_utf8_acceptRanges), ("unicode/utf8.first", laid_unicode_utf8_first)], narrowed := true }
def PrefixMakesUptoSaid : Prop := prefixMakesUptoRow.holds Tryd.pinned (OpenSpec.upto prefixMakesSpec)

/-- 'overspilllaw05.PrefixNone', WHERE WHAT IT READS IS OF BULK AT MOST 1048576: true; the input reads as it did. -/
def prefixNoneUptoRow : OpenClaim := { program := "ytnmkmhbfgebalaadoor", sum := "688a294c492c764295a1eca00b55c669d922973470bd89ced489130b9e0f775d", func := "overspill/overspilllaw05.PrefixNone", spec := "prefixNone", inPlace := ["internal/bytealg.IndexByteString", "internal/bytealg.IndexString"], named := ["unicode/utf8.first", "unicode/utf8.acceptRanges", "internal/bytealg.MaxLen"], apart := false, laid := [("unicode/utf8.acceptRanges", laid_unicode_utf8_acceptRanges), ("unicode/utf8.first", laid_unicode_utf8_first)], narrowed := true }
def PrefixNoneUptoSaid : Prop := prefixNoneUptoRow.holds Tryd.pinned (OpenSpec.upto prefixNoneSpec)

/-- 'overspilllaw07.CbpyRows', WHERE WHAT IT READS IS OF BULK AT MOST 1048576: true; the input reads as it did. -/
def cbpyRowsUptoRow : OpenClaim := { program := "ytnmkmhbfgebalaadoor", sum := "688a294c492c764295a1eca00b55c669d922973470bd89ced489130b9e0f775d", func := "overspill/overspilllaw07.CbpyRows", spec := "cbpyRows", inPlace := ["internal/bytealg.IndexByteString", "internal/bytealg.IndexString"], named := ["unicode/utf8.first", "unicode/utf8.acceptRanges", "internal/bytealg.MaxLen"], apart := false, laid := [("unicode/utf8.acceptRanges", laid_unicode_utf8_acceptRanges), ("unicode/utf8.first", laid_unicode_utf8_first)], narrowed := true }
def CbpyRowsUptoSaid : Prop := cbpyRowsUptoRow.holds Tryd.pinned (OpenSpec.upto cbpyRowsSpec)

/-- 'overspilllaw07.CbpyTakes', WHERE WHAT IT READS IS OF BULK AT MOST 1048576: true; the input reads as it did. -/
def cbpyTakesUptoRow : OpenClaim := { program := "ytnmkmhbfgebalaadoor", sum := "688a294c492c764295a1eca00b55c669d922973470bd89ced489130b9e0f775d", func := "overspill/overspilllaw07.CbpyTakes", spec := "cbpyTakes", inPlace := ["internal/bytealg.IndexByteString", "internal/bytealg.IndexString"], named := ["unicode/utf8.first", "unicode/utf8.acceptRanges", "internal/bytealg.MaxLen"], apart := false, laid := [("unicode/utf8.acceptRanges", laid_unicode_utf8_acceptRanges), ("unicode/utf8.first", laid_unicode_utf8_first)], narrowed := true }
def CbpyTakesUptoSaid : Prop := cbpyTakesUptoRow.holds Tryd.pinned (OpenSpec.upto cbpyTakesSpec)

end Rows
end Go.Proofs.YtnmkmhbfgebalaaDoor
