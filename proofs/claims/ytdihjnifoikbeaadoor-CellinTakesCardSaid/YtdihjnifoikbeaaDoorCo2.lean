/- Cells: what may be one, in parts. -/
import Derived.Test.YtdihjnifoikbeaaDoorCo1
import Derived.Test.YtdihjnifoikbeaaDoorPl
import Derived.Test.YtdihjnifoikbeaaDoorPn
set_option linter.unusedSimpArgs false
set_option linter.unusedVariables false
set_option maxRecDepth 100000
namespace Go.Proofs.YtdihjnifoikbeaaDoor.Av.Co
open Go Bt Tc Wr Bl
attribute [local irreducible] AGo ACalls
variable {gl : List (Nat × List D)}
structure Cel where
  stuff : Int
  skip : Bool
  kind : Int
  step : Int
  mx : Int
  my : Int
  d0 : Int
  d1 : Int
  d2 : Int
  d3 : Int
  d4 : Int
  d5 : Int
  e0 : List Ev
  e1 : List Ev
  e2 : List Ev
  e3 : List Ev
  e4 : List Ev
  e5 : List Ev
abbrev evS (l : List Ev) : D := .sl 3 (evsD l)
abbrev In (n : Int) : D := .int .i64 n
abbrev celD (c : Cel) : D := .agg [In c.stuff, .bool c.skip, In c.kind, In c.step, In c.mx, In c.my, In c.d0, In c.d1, In c.d2, In c.d3, In c.d4, In c.d5, evS c.e0, evS c.e1, evS c.e2, evS c.e3, evS c.e4, evS c.e5]
def intraS (k : Int) : Bool := decide (k = 3 ∨ k = 4)
def steppedS (k : Int) : Bool := decide (k = 1 ∨ k = 4)
attribute [local irreducible] evsD
def I64 (n : Int) : Prop := -9223372036854775808 ≤ n ∧ n ≤ 9223372036854775807
end Go.Proofs.YtdihjnifoikbeaaDoor.Av.Co
