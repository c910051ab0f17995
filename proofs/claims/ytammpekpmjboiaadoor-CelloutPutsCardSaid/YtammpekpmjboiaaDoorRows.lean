/-
  NARROWER THAN 'FOR EVERY INPUT', by the rows' own cells (each row's printed sentence says how): PrefixNone: laid · CbpyRows: laid · CbpyTakes: laid · CbpyBack: laid · CelloutPuts: laid · McbpcRows: laid · McbpcTakes: laid · McbpcBack: laid.
  DERIVED. THE GIVEN ROWS OF THIS SEAT. 8 by the template 'for every input the law returns true; each argument reads behind the call as it read before'; 0 by the template 'total and deterministic' (their statements: YtammpekpmjboiaaDoorTotals.lean).
  GIVEN WITH THE SEED: the statements are not yours to turn. If you find one false, say at which input.
  Laid BY PROGRAM, IN A SANDBOX (cutbox-rows.mjs): the forced cells as the released guide's own fill.sh prints them over the translation cd4c828759e80d68… (all of the seat's roots in one cut). By AI agents, Wed Nov 11 2026. No macro, syntax, notation, axiom, sorry.
-/
import Derived.Test.YtammpekpmjboiaaDoorChecked
import GoSem.PinnedTables
import GoSem.Claim
import GoSem.ClaimJoined
import GoSem.ClaimMapViews
import Derived.JoinedTies
import Derived.KernelRfl
namespace Go.Proofs.YtammpekpmjboiaaDoor
/- THE CELL 'sum', in the pinned program and in every row, IS THE sha256 OF THE DUMP (.gsa) THAT YtammpekpmjboiaaDoorProg.lean LOADS. Nothing in Lean hashes anything: it is a label: what it is worth is what the hold of that sum in a sandbox is worth. -/
noncomputable def Tryd.pinned : Pinned := { name := "ytammpekpmjboiaadoor", sum := "cd4c828759e80d685528a06eed0d4e38e6f2e312eae7dfc5d09059a7358eb83d", checked := Tryd.checked }
namespace Rows
def none {H : Type} : Left H := { results := [], args := [] }

/- WHAT THE LISTED PACKAGE-LEVEL VARIABLES READ AS WHEN THE CALL BEGINS. Each datum BY PROGRAM (the guide's laid-datum.mjs) off the statement by which the dump's own 'gosem.cut.vars' lays the variable. In a bare row this is a premise. The card (YtammpekpmjboiaaDoorCards.lean) ties it to the program's text. -/
def laid_unicode_utf8_acceptRanges {H : Type} : DataW H := .agg [.agg [.lit (.int .u8 128), .lit (.int .u8 191)], .agg [.lit (.int .u8 160), .lit (.int .u8 191)], .agg [.lit (.int .u8 128), .lit (.int .u8 159)], .agg [.lit (.int .u8 144), .lit (.int .u8 191)], .agg [.lit (.int .u8 128), .lit (.int .u8 143)], .agg [.lit (.int .u8 0), .lit (.int .u8 0)], .agg [.lit (.int .u8 0), .lit (.int .u8 0)], .agg [.lit (.int .u8 0), .lit (.int .u8 0)], .agg [.lit (.int .u8 0), .lit (.int .u8 0)], .agg [.lit (.int .u8 0), .lit (.int .u8 0)], .agg [.lit (.int .u8 0), .lit (.int .u8 0)], .agg [.lit (.int .u8 0), .lit (.int .u8 0)], .agg [.lit (.int .u8 0), .lit (.int .u8 0)], .agg [.lit (.int .u8 0), .lit (.int .u8 0)], .agg [.lit (.int .u8 0), .lit (.int .u8 0)], .agg [.lit (.int .u8 0), .lit (.int .u8 0)]]
/-- One of Go's own tables, pinned by name: the form's constant. -/
def laid_unicode_utf8_first : DataW Unit := Go.Pinned.utf8First
def laid_overspill_mvd_codes {H : Type} : DataW H := .agg [.lit (.int .i64 1), .lit (.int .i64 1), .lit (.int .i64 1), .lit (.int .i64 1), .lit (.int .i64 3), .lit (.int .i64 5), .lit (.int .i64 4), .lit (.int .i64 3), .lit (.int .i64 11), .lit (.int .i64 10), .lit (.int .i64 9), .lit (.int .i64 17), .lit (.int .i64 16), .lit (.int .i64 15), .lit (.int .i64 14), .lit (.int .i64 13), .lit (.int .i64 12), .lit (.int .i64 11), .lit (.int .i64 10), .lit (.int .i64 9), .lit (.int .i64 8), .lit (.int .i64 7), .lit (.int .i64 6), .lit (.int .i64 5), .lit (.int .i64 4), .lit (.int .i64 7), .lit (.int .i64 6), .lit (.int .i64 5), .lit (.int .i64 4), .lit (.int .i64 3), .lit (.int .i64 2), .lit (.int .i64 3), .lit (.int .i64 2)]
def laid_overspill_tcoef_codes {H : Type} : DataW H := .agg [.lit (.int .i64 2), .lit (.int .i64 15), .lit (.int .i64 21), .lit (.int .i64 23), .lit (.int .i64 31), .lit (.int .i64 37), .lit (.int .i64 36), .lit (.int .i64 33), .lit (.int .i64 32), .lit (.int .i64 7), .lit (.int .i64 6), .lit (.int .i64 32), .lit (.int .i64 6), .lit (.int .i64 20), .lit (.int .i64 30), .lit (.int .i64 15), .lit (.int .i64 33), .lit (.int .i64 80), .lit (.int .i64 14), .lit (.int .i64 29), .lit (.int .i64 14), .lit (.int .i64 81), .lit (.int .i64 13), .lit (.int .i64 35), .lit (.int .i64 13), .lit (.int .i64 12), .lit (.int .i64 34), .lit (.int .i64 82), .lit (.int .i64 11), .lit (.int .i64 12), .lit (.int .i64 83), .lit (.int .i64 19), .lit (.int .i64 11), .lit (.int .i64 84), .lit (.int .i64 18), .lit (.int .i64 10), .lit (.int .i64 17), .lit (.int .i64 9), .lit (.int .i64 16), .lit (.int .i64 8), .lit (.int .i64 22), .lit (.int .i64 85), .lit (.int .i64 21), .lit (.int .i64 20), .lit (.int .i64 28), .lit (.int .i64 27), .lit (.int .i64 33), .lit (.int .i64 32), .lit (.int .i64 31), .lit (.int .i64 30), .lit (.int .i64 29), .lit (.int .i64 28), .lit (.int .i64 27), .lit (.int .i64 26), .lit (.int .i64 34), .lit (.int .i64 35), .lit (.int .i64 86), .lit (.int .i64 87), .lit (.int .i64 7), .lit (.int .i64 25), .lit (.int .i64 5), .lit (.int .i64 15), .lit (.int .i64 4), .lit (.int .i64 14), .lit (.int .i64 13), .lit (.int .i64 12), .lit (.int .i64 19), .lit (.int .i64 18), .lit (.int .i64 17), .lit (.int .i64 16), .lit (.int .i64 26), .lit (.int .i64 25), .lit (.int .i64 24), .lit (.int .i64 23), .lit (.int .i64 22), .lit (.int .i64 21), .lit (.int .i64 20), .lit (.int .i64 19), .lit (.int .i64 24), .lit (.int .i64 23), .lit (.int .i64 22), .lit (.int .i64 21), .lit (.int .i64 20), .lit (.int .i64 19), .lit (.int .i64 18), .lit (.int .i64 17), .lit (.int .i64 7), .lit (.int .i64 6), .lit (.int .i64 5), .lit (.int .i64 4), .lit (.int .i64 36), .lit (.int .i64 37), .lit (.int .i64 38), .lit (.int .i64 39), .lit (.int .i64 88), .lit (.int .i64 89), .lit (.int .i64 90), .lit (.int .i64 91), .lit (.int .i64 92), .lit (.int .i64 93), .lit (.int .i64 94), .lit (.int .i64 95)]
def laid_overspill_tcoef_lengths {H : Type} : DataW H := .agg [.lit (.int .i64 2), .lit (.int .i64 4), .lit (.int .i64 6), .lit (.int .i64 7), .lit (.int .i64 8), .lit (.int .i64 9), .lit (.int .i64 9), .lit (.int .i64 10), .lit (.int .i64 10), .lit (.int .i64 11), .lit (.int .i64 11), .lit (.int .i64 11), .lit (.int .i64 3), .lit (.int .i64 6), .lit (.int .i64 8), .lit (.int .i64 10), .lit (.int .i64 11), .lit (.int .i64 12), .lit (.int .i64 4), .lit (.int .i64 8), .lit (.int .i64 10), .lit (.int .i64 12), .lit (.int .i64 5), .lit (.int .i64 9), .lit (.int .i64 10), .lit (.int .i64 5), .lit (.int .i64 9), .lit (.int .i64 12), .lit (.int .i64 5), .lit (.int .i64 10), .lit (.int .i64 12), .lit (.int .i64 6), .lit (.int .i64 10), .lit (.int .i64 12), .lit (.int .i64 6), .lit (.int .i64 10), .lit (.int .i64 6), .lit (.int .i64 10), .lit (.int .i64 6), .lit (.int .i64 10), .lit (.int .i64 7), .lit (.int .i64 12), .lit (.int .i64 7), .lit (.int .i64 7), .lit (.int .i64 8), .lit (.int .i64 8), .lit (.int .i64 9), .lit (.int .i64 9), .lit (.int .i64 9), .lit (.int .i64 9), .lit (.int .i64 9), .lit (.int .i64 9), .lit (.int .i64 9), .lit (.int .i64 9), .lit (.int .i64 11), .lit (.int .i64 11), .lit (.int .i64 12), .lit (.int .i64 12), .lit (.int .i64 4), .lit (.int .i64 9), .lit (.int .i64 11), .lit (.int .i64 6), .lit (.int .i64 11), .lit (.int .i64 6), .lit (.int .i64 6), .lit (.int .i64 6), .lit (.int .i64 7), .lit (.int .i64 7), .lit (.int .i64 7), .lit (.int .i64 7), .lit (.int .i64 8), .lit (.int .i64 8), .lit (.int .i64 8), .lit (.int .i64 8), .lit (.int .i64 8), .lit (.int .i64 8), .lit (.int .i64 8), .lit (.int .i64 8), .lit (.int .i64 9), .lit (.int .i64 9), .lit (.int .i64 9), .lit (.int .i64 9), .lit (.int .i64 9), .lit (.int .i64 9), .lit (.int .i64 9), .lit (.int .i64 9), .lit (.int .i64 10), .lit (.int .i64 10), .lit (.int .i64 10), .lit (.int .i64 10), .lit (.int .i64 11), .lit (.int .i64 11), .lit (.int .i64 11), .lit (.int .i64 11), .lit (.int .i64 12), .lit (.int .i64 12), .lit (.int .i64 12), .lit (.int .i64 12), .lit (.int .i64 12), .lit (.int .i64 12), .lit (.int .i64 12), .lit (.int .i64 12)]
def laid_unicode_White_Space {H : Type} : DataW H := .ptr (.agg [.slice [.agg [.lit (.int .u16 9), .lit (.int .u16 13), .lit (.int .u16 1)], .agg [.lit (.int .u16 32), .lit (.int .u16 133), .lit (.int .u16 101)], .agg [.lit (.int .u16 160), .lit (.int .u16 5760), .lit (.int .u16 5600)], .agg [.lit (.int .u16 8192), .lit (.int .u16 8202), .lit (.int .u16 1)], .agg [.lit (.int .u16 8232), .lit (.int .u16 8233), .lit (.int .u16 1)], .agg [.lit (.int .u16 8239), .lit (.int .u16 8287), .lit (.int .u16 48)], .agg [.lit (.int .u16 12288), .lit (.int .u16 12288), .lit (.int .u16 1)]] [], .nil, .lit (.int .i64 2)])
def laid_strings_asciiSpace {H : Type} : DataW H := .agg [.lit (.int .u8 0), .lit (.int .u8 0), .lit (.int .u8 0), .lit (.int .u8 0), .lit (.int .u8 0), .lit (.int .u8 0), .lit (.int .u8 0), .lit (.int .u8 0), .lit (.int .u8 0), .lit (.int .u8 1), .lit (.int .u8 1), .lit (.int .u8 1), .lit (.int .u8 1), .lit (.int .u8 1), .lit (.int .u8 0), .lit (.int .u8 0), .lit (.int .u8 0), .lit (.int .u8 0), .lit (.int .u8 0), .lit (.int .u8 0), .lit (.int .u8 0), .lit (.int .u8 0), .lit (.int .u8 0), .lit (.int .u8 0), .lit (.int .u8 0), .lit (.int .u8 0), .lit (.int .u8 0), .lit (.int .u8 0), .lit (.int .u8 0), .lit (.int .u8 0), .lit (.int .u8 0), .lit (.int .u8 0), .lit (.int .u8 1), .lit (.int .u8 0), .lit (.int .u8 0), .lit (.int .u8 0), .lit (.int .u8 0), .lit (.int .u8 0), .lit (.int .u8 0), .lit (.int .u8 0), .lit (.int .u8 0), .lit (.int .u8 0), .lit (.int .u8 0), .lit (.int .u8 0), .lit (.int .u8 0), .lit (.int .u8 0), .lit (.int .u8 0), .lit (.int .u8 0), .lit (.int .u8 0), .lit (.int .u8 0), .lit (.int .u8 0), .lit (.int .u8 0), .lit (.int .u8 0), .lit (.int .u8 0), .lit (.int .u8 0), .lit (.int .u8 0), .lit (.int .u8 0), .lit (.int .u8 0), .lit (.int .u8 0), .lit (.int .u8 0), .lit (.int .u8 0), .lit (.int .u8 0), .lit (.int .u8 0), .lit (.int .u8 0), .lit (.int .u8 0), .lit (.int .u8 0), .lit (.int .u8 0), .lit (.int .u8 0), .lit (.int .u8 0), .lit (.int .u8 0), .lit (.int .u8 0), .lit (.int .u8 0), .lit (.int .u8 0), .lit (.int .u8 0), .lit (.int .u8 0), .lit (.int .u8 0), .lit (.int .u8 0), .lit (.int .u8 0), .lit (.int .u8 0), .lit (.int .u8 0), .lit (.int .u8 0), .lit (.int .u8 0), .lit (.int .u8 0), .lit (.int .u8 0), .lit (.int .u8 0), .lit (.int .u8 0), .lit (.int .u8 0), .lit (.int .u8 0), .lit (.int .u8 0), .lit (.int .u8 0), .lit (.int .u8 0), .lit (.int .u8 0), .lit (.int .u8 0), .lit (.int .u8 0), .lit (.int .u8 0), .lit (.int .u8 0), .lit (.int .u8 0), .lit (.int .u8 0), .lit (.int .u8 0), .lit (.int .u8 0), .lit (.int .u8 0), .lit (.int .u8 0), .lit (.int .u8 0), .lit (.int .u8 0), .lit (.int .u8 0), .lit (.int .u8 0), .lit (.int .u8 0), .lit (.int .u8 0), .lit (.int .u8 0), .lit (.int .u8 0), .lit (.int .u8 0), .lit (.int .u8 0), .lit (.int .u8 0), .lit (.int .u8 0), .lit (.int .u8 0), .lit (.int .u8 0), .lit (.int .u8 0), .lit (.int .u8 0), .lit (.int .u8 0), .lit (.int .u8 0), .lit (.int .u8 0), .lit (.int .u8 0), .lit (.int .u8 0), .lit (.int .u8 0), .lit (.int .u8 0), .lit (.int .u8 0), .lit (.int .u8 0), .lit (.int .u8 0), .lit (.int .u8 0), .lit (.int .u8 0), .lit (.int .u8 0), .lit (.int .u8 0), .lit (.int .u8 0), .lit (.int .u8 0), .lit (.int .u8 0), .lit (.int .u8 0), .lit (.int .u8 0), .lit (.int .u8 0), .lit (.int .u8 0), .lit (.int .u8 0), .lit (.int .u8 0), .lit (.int .u8 0), .lit (.int .u8 0), .lit (.int .u8 0), .lit (.int .u8 0), .lit (.int .u8 0), .lit (.int .u8 0), .lit (.int .u8 0), .lit (.int .u8 0), .lit (.int .u8 0), .lit (.int .u8 0), .lit (.int .u8 0), .lit (.int .u8 0), .lit (.int .u8 0), .lit (.int .u8 0), .lit (.int .u8 0), .lit (.int .u8 0), .lit (.int .u8 0), .lit (.int .u8 0), .lit (.int .u8 0), .lit (.int .u8 0), .lit (.int .u8 0), .lit (.int .u8 0), .lit (.int .u8 0), .lit (.int .u8 0), .lit (.int .u8 0), .lit (.int .u8 0), .lit (.int .u8 0), .lit (.int .u8 0), .lit (.int .u8 0), .lit (.int .u8 0), .lit (.int .u8 0), .lit (.int .u8 0), .lit (.int .u8 0), .lit (.int .u8 0), .lit (.int .u8 0), .lit (.int .u8 0), .lit (.int .u8 0), .lit (.int .u8 0), .lit (.int .u8 0), .lit (.int .u8 0), .lit (.int .u8 0), .lit (.int .u8 0), .lit (.int .u8 0), .lit (.int .u8 0), .lit (.int .u8 0), .lit (.int .u8 0), .lit (.int .u8 0), .lit (.int .u8 0), .lit (.int .u8 0), .lit (.int .u8 0), .lit (.int .u8 0), .lit (.int .u8 0), .lit (.int .u8 0), .lit (.int .u8 0), .lit (.int .u8 0), .lit (.int .u8 0), .lit (.int .u8 0), .lit (.int .u8 0), .lit (.int .u8 0), .lit (.int .u8 0), .lit (.int .u8 0), .lit (.int .u8 0), .lit (.int .u8 0), .lit (.int .u8 0), .lit (.int .u8 0), .lit (.int .u8 0), .lit (.int .u8 0), .lit (.int .u8 0), .lit (.int .u8 0), .lit (.int .u8 0), .lit (.int .u8 0), .lit (.int .u8 0), .lit (.int .u8 0), .lit (.int .u8 0), .lit (.int .u8 0), .lit (.int .u8 0), .lit (.int .u8 0), .lit (.int .u8 0), .lit (.int .u8 0), .lit (.int .u8 0), .lit (.int .u8 0), .lit (.int .u8 0), .lit (.int .u8 0), .lit (.int .u8 0), .lit (.int .u8 0), .lit (.int .u8 0), .lit (.int .u8 0), .lit (.int .u8 0), .lit (.int .u8 0), .lit (.int .u8 0), .lit (.int .u8 0), .lit (.int .u8 0), .lit (.int .u8 0), .lit (.int .u8 0), .lit (.int .u8 0), .lit (.int .u8 0), .lit (.int .u8 0), .lit (.int .u8 0), .lit (.int .u8 0), .lit (.int .u8 0), .lit (.int .u8 0), .lit (.int .u8 0), .lit (.int .u8 0), .lit (.int .u8 0), .lit (.int .u8 0), .lit (.int .u8 0), .lit (.int .u8 0), .lit (.int .u8 0), .lit (.int .u8 0), .lit (.int .u8 0), .lit (.int .u8 0), .lit (.int .u8 0), .lit (.int .u8 0), .lit (.int .u8 0), .lit (.int .u8 0)]

/-- 'overspilllaw05.PrefixNone': WHATEVER THE INPUT: true; the input reads as it did. -/
def prefixNoneSpec : ChangeSpec := { name := "prefixNone", fn := fun _ => fun
  | [d1, d2] => { results := [.lit (.bool true)], args := [d1, d2] }
  | _ => none }
def prefixNoneRow : OpenClaim := { program := "ytammpekpmjboiaadoor", sum := "cd4c828759e80d685528a06eed0d4e38e6f2e312eae7dfc5d09059a7358eb83d", func := "overspill/overspilllaw05.PrefixNone", spec := "prefixNone", inPlace := ["internal/bytealg.IndexByteString", "internal/bytealg.IndexString"], named := ["unicode/utf8.first", "unicode/utf8.acceptRanges", "internal/bytealg.MaxLen"], apart := false, laid := [("unicode/utf8.acceptRanges", laid_unicode_utf8_acceptRanges), ("unicode/utf8.first", laid_unicode_utf8_first)] }
def PrefixNoneSaid : Prop := prefixNoneRow.holds Tryd.pinned (OpenSpec.ofChange prefixNoneSpec)

/-- ITS FALSE NEIGHBOUR: 'it returns false'. Refute it at one input. -/
def prefixNoneWrong : ChangeSpec := { name := "prefixNone", fn := fun _ => fun
  | [d1, d2] => { results := [.lit (.bool false)], args := [d1, d2] }
  | _ => none }
def PrefixNoneWrongFalsely : Prop := prefixNoneRow.holds Tryd.pinned (OpenSpec.ofChange prefixNoneWrong)

/-- 'overspilllaw07.CbpyRows': WHATEVER THE INPUT: true; the input reads as it did. -/
def cbpyRowsSpec : ChangeSpec := { name := "cbpyRows", fn := fun _ => fun
  | [d1, d2] => { results := [.lit (.bool true)], args := [d1, d2] }
  | _ => none }
def cbpyRowsRow : OpenClaim := { program := "ytammpekpmjboiaadoor", sum := "cd4c828759e80d685528a06eed0d4e38e6f2e312eae7dfc5d09059a7358eb83d", func := "overspill/overspilllaw07.CbpyRows", spec := "cbpyRows", inPlace := ["internal/bytealg.IndexByteString", "internal/bytealg.IndexString"], named := ["unicode/utf8.first", "unicode/utf8.acceptRanges", "internal/bytealg.MaxLen"], apart := false, laid := [("unicode/utf8.acceptRanges", laid_unicode_utf8_acceptRanges), ("unicode/utf8.first", laid_unicode_utf8_first)] }
def CbpyRowsSaid : Prop := cbpyRowsRow.holds Tryd.pinned (OpenSpec.ofChange cbpyRowsSpec)

/-- ITS FALSE NEIGHBOUR: 'it returns false'. Refute it at one input. -/
def cbpyRowsWrong : ChangeSpec := { name := "cbpyRows", fn := fun _ => fun
  | [d1, d2] => { results := [.lit (.bool false)], args := [d1, d2] }
  | _ => none }
def CbpyRowsWrongFalsely : Prop := cbpyRowsRow.holds Tryd.pinned (OpenSpec.ofChange cbpyRowsWrong)

/-- 'overspilllaw07.CbpyTakes': WHATEVER THE INPUT: true; the input reads as it did. -/
def cbpyTakesSpec : ChangeSpec := { name := "cbpyTakes", fn := fun _ => fun
  | [d1, d2, d3] => { results := [.lit (.bool true)], args := [d1, d2, d3] }
  | _ => none }
def cbpyTakesRow : OpenClaim := { program := "ytammpekpmjboiaadoor", sum := "cd4c828759e80d685528a06eed0d4e38e6f2e312eae7dfc5d09059a7358eb83d", func := "overspill/overspilllaw07.CbpyTakes", spec := "cbpyTakes", inPlace := ["internal/bytealg.IndexByteString", "internal/bytealg.IndexString"], named := ["unicode/utf8.first", "unicode/utf8.acceptRanges", "internal/bytealg.MaxLen"], apart := false, laid := [("unicode/utf8.acceptRanges", laid_unicode_utf8_acceptRanges), ("unicode/utf8.first", laid_unicode_utf8_first)] }
def CbpyTakesSaid : Prop := cbpyTakesRow.holds Tryd.pinned (OpenSpec.ofChange cbpyTakesSpec)

/-- ITS FALSE NEIGHBOUR: 'it returns false'. Refute it at one input. -/
def cbpyTakesWrong : ChangeSpec := { name := "cbpyTakes", fn := fun _ => fun
  | [d1, d2, d3] => { results := [.lit (.bool false)], args := [d1, d2, d3] }
  | _ => none }
def CbpyTakesWrongFalsely : Prop := cbpyTakesRow.holds Tryd.pinned (OpenSpec.ofChange cbpyTakesWrong)

/-- 'overspilllaw07.CbpyBack': WHATEVER THE INPUT: true; the input reads as it did. -/
def cbpyBackSpec : ChangeSpec := { name := "cbpyBack", fn := fun _ => fun
  | [d1, d2, d3] => { results := [.lit (.bool true)], args := [d1, d2, d3] }
  | _ => none }
def cbpyBackRow : OpenClaim := { program := "ytammpekpmjboiaadoor", sum := "cd4c828759e80d685528a06eed0d4e38e6f2e312eae7dfc5d09059a7358eb83d", func := "overspill/overspilllaw07.CbpyBack", spec := "cbpyBack", inPlace := ["internal/bytealg.IndexByteString", "internal/bytealg.IndexString"], named := ["unicode/utf8.first", "unicode/utf8.acceptRanges", "internal/bytealg.MaxLen"], apart := false, laid := [("unicode/utf8.acceptRanges", laid_unicode_utf8_acceptRanges), ("unicode/utf8.first", laid_unicode_utf8_first)] }
def CbpyBackSaid : Prop := cbpyBackRow.holds Tryd.pinned (OpenSpec.ofChange cbpyBackSpec)

/-- ITS FALSE NEIGHBOUR: 'it returns false'. Refute it at one input. -/
def cbpyBackWrong : ChangeSpec := { name := "cbpyBack", fn := fun _ => fun
  | [d1, d2, d3] => { results := [.lit (.bool false)], args := [d1, d2, d3] }
  | _ => none }
def CbpyBackWrongFalsely : Prop := cbpyBackRow.holds Tryd.pinned (OpenSpec.ofChange cbpyBackWrong)

/-- 'overspilllaw22.CelloutPuts': WHATEVER THE INPUT: true; the input reads as it did. -/
def celloutPutsSpec : ChangeSpec := { name := "celloutPuts", fn := fun _ => fun
  | [d1, d2, d3] => { results := [.lit (.bool true)], args := [d1, d2, d3] }
  | _ => none }
def celloutPutsRow : OpenClaim := { program := "ytammpekpmjboiaadoor", sum := "cd4c828759e80d685528a06eed0d4e38e6f2e312eae7dfc5d09059a7358eb83d", func := "overspill/overspilllaw22.CelloutPuts", spec := "celloutPuts", unfollowed := true, recurses := true, named := ["overspill/tcoef.codes", "overspill/tcoef.lengths", "strings.asciiSpace", "unicode.White_Space", "overspill/mvd.codes"], apart := false, laid := [("overspill/mvd.codes", laid_overspill_mvd_codes), ("overspill/tcoef.codes", laid_overspill_tcoef_codes), ("overspill/tcoef.lengths", laid_overspill_tcoef_lengths), ("unicode.White_Space", laid_unicode_White_Space), ("strings.asciiSpace", laid_strings_asciiSpace)] }
def CelloutPutsSaid : Prop := celloutPutsRow.holds Tryd.pinned (OpenSpec.ofChange celloutPutsSpec)

/-- ITS FALSE NEIGHBOUR: 'it returns false'. Refute it at one input. -/
def celloutPutsWrong : ChangeSpec := { name := "celloutPuts", fn := fun _ => fun
  | [d1, d2, d3] => { results := [.lit (.bool false)], args := [d1, d2, d3] }
  | _ => none }
def CelloutPutsWrongFalsely : Prop := celloutPutsRow.holds Tryd.pinned (OpenSpec.ofChange celloutPutsWrong)

/-- 'overspilllaw06.McbpcRows': WHATEVER THE INPUT: true; the input reads as it did. -/
def mcbpcRowsSpec : ChangeSpec := { name := "mcbpcRows", fn := fun _ => fun
  | [d1, d2, d3] => { results := [.lit (.bool true)], args := [d1, d2, d3] }
  | _ => none }
def mcbpcRowsRow : OpenClaim := { program := "ytammpekpmjboiaadoor", sum := "cd4c828759e80d685528a06eed0d4e38e6f2e312eae7dfc5d09059a7358eb83d", func := "overspill/overspilllaw06.McbpcRows", spec := "mcbpcRows", inPlace := ["internal/bytealg.IndexByteString", "internal/bytealg.IndexString"], unfollowed := true, recurses := true, named := ["strings.asciiSpace", "unicode.White_Space", "unicode/utf8.first", "unicode/utf8.acceptRanges", "internal/bytealg.MaxLen"], apart := false, laid := [("unicode/utf8.acceptRanges", laid_unicode_utf8_acceptRanges), ("unicode.White_Space", laid_unicode_White_Space), ("strings.asciiSpace", laid_strings_asciiSpace), ("unicode/utf8.first", laid_unicode_utf8_first)] }
def McbpcRowsSaid : Prop := mcbpcRowsRow.holds Tryd.pinned (OpenSpec.ofChange mcbpcRowsSpec)

/-- ITS FALSE NEIGHBOUR: 'it returns false'. Refute it at one input. -/
def mcbpcRowsWrong : ChangeSpec := { name := "mcbpcRows", fn := fun _ => fun
  | [d1, d2, d3] => { results := [.lit (.bool false)], args := [d1, d2, d3] }
  | _ => none }
def McbpcRowsWrongFalsely : Prop := mcbpcRowsRow.holds Tryd.pinned (OpenSpec.ofChange mcbpcRowsWrong)

/-- 'overspilllaw06.McbpcTakes': WHATEVER THE INPUT: true; the input reads as it did. -/
def mcbpcTakesSpec : ChangeSpec := { name := "mcbpcTakes", fn := fun _ => fun
  | [d1, d2, d3] => { results := [.lit (.bool true)], args := [d1, d2, d3] }
  | _ => none }
def mcbpcTakesRow : OpenClaim := { program := "ytammpekpmjboiaadoor", sum := "cd4c828759e80d685528a06eed0d4e38e6f2e312eae7dfc5d09059a7358eb83d", func := "overspill/overspilllaw06.McbpcTakes", spec := "mcbpcTakes", inPlace := ["internal/bytealg.IndexByteString", "internal/bytealg.IndexString"], unfollowed := true, recurses := true, named := ["strings.asciiSpace", "unicode.White_Space", "unicode/utf8.first", "unicode/utf8.acceptRanges", "internal/bytealg.MaxLen"], apart := false, laid := [("unicode/utf8.acceptRanges", laid_unicode_utf8_acceptRanges), ("unicode.White_Space", laid_unicode_White_Space), ("strings.asciiSpace", laid_strings_asciiSpace), ("unicode/utf8.first", laid_unicode_utf8_first)] }
def McbpcTakesSaid : Prop := mcbpcTakesRow.holds Tryd.pinned (OpenSpec.ofChange mcbpcTakesSpec)

/-- ITS FALSE NEIGHBOUR: 'it returns false'. Refute it at one input. -/
def mcbpcTakesWrong : ChangeSpec := { name := "mcbpcTakes", fn := fun _ => fun
  | [d1, d2, d3] => { results := [.lit (.bool false)], args := [d1, d2, d3] }
  | _ => none }
def McbpcTakesWrongFalsely : Prop := mcbpcTakesRow.holds Tryd.pinned (OpenSpec.ofChange mcbpcTakesWrong)

/-- 'overspilllaw06.McbpcBack': WHATEVER THE INPUT: true; the input reads as it did. -/
def mcbpcBackSpec : ChangeSpec := { name := "mcbpcBack", fn := fun _ => fun
  | [d1, d2, d3] => { results := [.lit (.bool true)], args := [d1, d2, d3] }
  | _ => none }
def mcbpcBackRow : OpenClaim := { program := "ytammpekpmjboiaadoor", sum := "cd4c828759e80d685528a06eed0d4e38e6f2e312eae7dfc5d09059a7358eb83d", func := "overspill/overspilllaw06.McbpcBack", spec := "mcbpcBack", inPlace := ["internal/bytealg.IndexByteString", "internal/bytealg.IndexString"], unfollowed := true, recurses := true, named := ["strings.asciiSpace", "unicode.White_Space", "unicode/utf8.first", "unicode/utf8.acceptRanges", "internal/bytealg.MaxLen"], apart := false, laid := [("unicode/utf8.acceptRanges", laid_unicode_utf8_acceptRanges), ("unicode.White_Space", laid_unicode_White_Space), ("strings.asciiSpace", laid_strings_asciiSpace), ("unicode/utf8.first", laid_unicode_utf8_first)] }
def McbpcBackSaid : Prop := mcbpcBackRow.holds Tryd.pinned (OpenSpec.ofChange mcbpcBackSpec)

/-- ITS FALSE NEIGHBOUR: 'it returns false'. Refute it at one input. -/
def mcbpcBackWrong : ChangeSpec := { name := "mcbpcBack", fn := fun _ => fun
  | [d1, d2, d3] => { results := [.lit (.bool false)], args := [d1, d2, d3] }
  | _ => none }
def McbpcBackWrongFalsely : Prop := mcbpcBackRow.holds Tryd.pinned (OpenSpec.ofChange mcbpcBackWrong)

/- THE SECOND FORM. 'bulk': how many values and letters a reading holds, each counted each time it is reached (what is shared counts as often as it is met; a slice's spare places count too). A statement '..UptoSaid' is the law's where the arguments, and the package variables that the reading takes, are together of bulk at most 1048576: NARROWER than '..Said'. Prove '..Said' where nothing that the law and all that it calls make is longer than what came in: it says more and counts as full. Else prove '..UptoSaid'. A law counts once. -/
mutual
def uptoBulk {H : Type} : DataW H → Nat
  | .lit (.string bytes) => bytes.length + 1
  | .lit _ => 1
  | .nil => 1
  | .ptr d => uptoBulk d + 1
  | .slice elems spare => uptoBulkAll elems + uptoBulkAll spare + 1
  | .agg parts => uptoBulkAll parts + 1
  | .iface _ d => uptoBulk d + 1
  | .map entries => uptoBulkEntries entries + 1
  | .held _ => 1
def uptoBulkAll {H : Type} : List (DataW H) → Nat
  | [] => 0
  | d :: r => uptoBulk d + uptoBulkAll r
def uptoBulkEntries {H : Type} : List (Lit × DataW H) → Nat
  | [] => 0
  | x :: r => uptoBulkEntry x + uptoBulkEntries r
def uptoBulkEntry {H : Type} : Lit × DataW H → Nat
  | (.string bytes, d) => bytes.length + uptoBulk d + 1
  | (_, d) => uptoBulk d + 1
 end
def uptoSmall : (H : Type) → List (DataW H) → Bool := fun _ ds => decide (uptoBulkAll ds ≤ 1048576)
def OpenSpec.upto (s : _root_.Go.ChangeSpec) : _root_.Go.OpenSpec := { _root_.Go.OpenSpec.ofChange s with cond := some uptoSmall }

/-- 'overspilllaw05.PrefixNone', WHERE WHAT IT READS IS OF BULK AT MOST 1048576: true; the input reads as it did. -/
def prefixNoneUptoRow : OpenClaim := { program := "ytammpekpmjboiaadoor", sum := "cd4c828759e80d685528a06eed0d4e38e6f2e312eae7dfc5d09059a7358eb83d", func := "overspill/overspilllaw05.PrefixNone", spec := "prefixNone", inPlace := ["internal/bytealg.IndexByteString", "internal/bytealg.IndexString"], named := ["unicode/utf8.first", "unicode/utf8.acceptRanges", "internal/bytealg.MaxLen"], apart := false, laid := [("unicode/utf8.acceptRanges", laid_unicode_utf8_acceptRanges), ("unicode/utf8.first", laid_unicode_utf8_first)], narrowed := true }
def PrefixNoneUptoSaid : Prop := prefixNoneUptoRow.holds Tryd.pinned (OpenSpec.upto prefixNoneSpec)

/-- 'overspilllaw07.CbpyRows', WHERE WHAT IT READS IS OF BULK AT MOST 1048576: true; the input reads as it did. -/
def cbpyRowsUptoRow : OpenClaim := { program := "ytammpekpmjboiaadoor", sum := "cd4c828759e80d685528a06eed0d4e38e6f2e312eae7dfc5d09059a7358eb83d", func := "overspill/overspilllaw07.CbpyRows", spec := "cbpyRows", inPlace := ["internal/bytealg.IndexByteString", "internal/bytealg.IndexString"], named := ["unicode/utf8.first", "unicode/utf8.acceptRanges", "internal/bytealg.MaxLen"], apart := false, laid := [("unicode/utf8.acceptRanges", laid_unicode_utf8_acceptRanges), ("unicode/utf8.first", laid_unicode_utf8_first)], narrowed := true }
def CbpyRowsUptoSaid : Prop := cbpyRowsUptoRow.holds Tryd.pinned (OpenSpec.upto cbpyRowsSpec)

/-- 'overspilllaw07.CbpyTakes', WHERE WHAT IT READS IS OF BULK AT MOST 1048576: true; the input reads as it did. -/
def cbpyTakesUptoRow : OpenClaim := { program := "ytammpekpmjboiaadoor", sum := "cd4c828759e80d685528a06eed0d4e38e6f2e312eae7dfc5d09059a7358eb83d", func := "overspill/overspilllaw07.CbpyTakes", spec := "cbpyTakes", inPlace := ["internal/bytealg.IndexByteString", "internal/bytealg.IndexString"], named := ["unicode/utf8.first", "unicode/utf8.acceptRanges", "internal/bytealg.MaxLen"], apart := false, laid := [("unicode/utf8.acceptRanges", laid_unicode_utf8_acceptRanges), ("unicode/utf8.first", laid_unicode_utf8_first)], narrowed := true }
def CbpyTakesUptoSaid : Prop := cbpyTakesUptoRow.holds Tryd.pinned (OpenSpec.upto cbpyTakesSpec)

/-- 'overspilllaw07.CbpyBack', WHERE WHAT IT READS IS OF BULK AT MOST 1048576: true; the input reads as it did. -/
def cbpyBackUptoRow : OpenClaim := { program := "ytammpekpmjboiaadoor", sum := "cd4c828759e80d685528a06eed0d4e38e6f2e312eae7dfc5d09059a7358eb83d", func := "overspill/overspilllaw07.CbpyBack", spec := "cbpyBack", inPlace := ["internal/bytealg.IndexByteString", "internal/bytealg.IndexString"], named := ["unicode/utf8.first", "unicode/utf8.acceptRanges", "internal/bytealg.MaxLen"], apart := false, laid := [("unicode/utf8.acceptRanges", laid_unicode_utf8_acceptRanges), ("unicode/utf8.first", laid_unicode_utf8_first)], narrowed := true }
def CbpyBackUptoSaid : Prop := cbpyBackUptoRow.holds Tryd.pinned (OpenSpec.upto cbpyBackSpec)

/-- 'overspilllaw22.CelloutPuts', WHERE WHAT IT READS IS OF BULK AT MOST 1048576: true; the input reads as it did. -/
def celloutPutsUptoRow : OpenClaim := { program := "ytammpekpmjboiaadoor", sum := "cd4c828759e80d685528a06eed0d4e38e6f2e312eae7dfc5d09059a7358eb83d", func := "overspill/overspilllaw22.CelloutPuts", spec := "celloutPuts", unfollowed := true, recurses := true, named := ["overspill/tcoef.codes", "overspill/tcoef.lengths", "strings.asciiSpace", "unicode.White_Space", "overspill/mvd.codes"], apart := false, laid := [("overspill/mvd.codes", laid_overspill_mvd_codes), ("overspill/tcoef.codes", laid_overspill_tcoef_codes), ("overspill/tcoef.lengths", laid_overspill_tcoef_lengths), ("unicode.White_Space", laid_unicode_White_Space), ("strings.asciiSpace", laid_strings_asciiSpace)], narrowed := true }
def CelloutPutsUptoSaid : Prop := celloutPutsUptoRow.holds Tryd.pinned (OpenSpec.upto celloutPutsSpec)

/-- 'overspilllaw06.McbpcRows', WHERE WHAT IT READS IS OF BULK AT MOST 1048576: true; the input reads as it did. -/
def mcbpcRowsUptoRow : OpenClaim := { program := "ytammpekpmjboiaadoor", sum := "cd4c828759e80d685528a06eed0d4e38e6f2e312eae7dfc5d09059a7358eb83d", func := "overspill/overspilllaw06.McbpcRows", spec := "mcbpcRows", inPlace := ["internal/bytealg.IndexByteString", "internal/bytealg.IndexString"], unfollowed := true, recurses := true, named := ["strings.asciiSpace", "unicode.White_Space", "unicode/utf8.first", "unicode/utf8.acceptRanges", "internal/bytealg.MaxLen"], apart := false, laid := [("unicode/utf8.acceptRanges", laid_unicode_utf8_acceptRanges), ("unicode.White_Space", laid_unicode_White_Space), ("strings.asciiSpace", laid_strings_asciiSpace), ("unicode/utf8.first", laid_unicode_utf8_first)], narrowed := true }
def McbpcRowsUptoSaid : Prop := mcbpcRowsUptoRow.holds Tryd.pinned (OpenSpec.upto mcbpcRowsSpec)

/-- 'overspilllaw06.McbpcTakes', WHERE WHAT IT READS IS OF BULK AT MOST 1048576: true; the input reads as it did. -/
def mcbpcTakesUptoRow : OpenClaim := { program := "ytammpekpmjboiaadoor", sum := "cd4c828759e80d685528a06eed0d4e38e6f2e312eae7dfc5d09059a7358eb83d", func := "overspill/overspilllaw06.McbpcTakes", spec := "mcbpcTakes", inPlace := ["internal/bytealg.IndexByteString", "internal/bytealg.IndexString"], unfollowed := true, recurses := true, named := ["strings.asciiSpace", "unicode.White_Space", "unicode/utf8.first", "unicode/utf8.acceptRanges", "internal/bytealg.MaxLen"], apart := false, laid := [("unicode/utf8.acceptRanges", laid_unicode_utf8_acceptRanges), ("unicode.White_Space", laid_unicode_White_Space), ("strings.asciiSpace", laid_strings_asciiSpace), ("unicode/utf8.first", laid_unicode_utf8_first)], narrowed := true }
def McbpcTakesUptoSaid : Prop := mcbpcTakesUptoRow.holds Tryd.pinned (OpenSpec.upto mcbpcTakesSpec)

/-- 'overspilllaw06.McbpcBack', WHERE WHAT IT READS IS OF BULK AT MOST 1048576: true; the input reads as it did. -/
def mcbpcBackUptoRow : OpenClaim := { program := "ytammpekpmjboiaadoor", sum := "cd4c828759e80d685528a06eed0d4e38e6f2e312eae7dfc5d09059a7358eb83d", func := "overspill/overspilllaw06.McbpcBack", spec := "mcbpcBack", inPlace := ["internal/bytealg.IndexByteString", "internal/bytealg.IndexString"], unfollowed := true, recurses := true, named := ["strings.asciiSpace", "unicode.White_Space", "unicode/utf8.first", "unicode/utf8.acceptRanges", "internal/bytealg.MaxLen"], apart := false, laid := [("unicode/utf8.acceptRanges", laid_unicode_utf8_acceptRanges), ("unicode.White_Space", laid_unicode_White_Space), ("strings.asciiSpace", laid_strings_asciiSpace), ("unicode/utf8.first", laid_unicode_utf8_first)], narrowed := true }
def McbpcBackUptoSaid : Prop := mcbpcBackUptoRow.holds Tryd.pinned (OpenSpec.upto mcbpcBackSpec)

end Rows
end Go.Proofs.YtammpekpmjboiaaDoor
