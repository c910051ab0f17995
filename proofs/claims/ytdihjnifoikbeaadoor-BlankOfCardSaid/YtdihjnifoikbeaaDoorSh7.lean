/- The vector that is foretold: the document's answer. -/
import Derived.Test.YtdihjnifoikbeaaDoorSh6
set_option linter.unusedSimpArgs false
set_option linter.unusedVariables false
set_option maxRecDepth 100000
namespace Go.Proofs.YtdihjnifoikbeaaDoor.Av.Sh
open Go Bt
attribute [local irreducible] AGo ACalls
variable {gl : List (Nat × List D)}
attribute [local irreducible] vD
attribute [local irreducible] mid
end Go.Proofs.YtdihjnifoikbeaaDoor.Av.Sh
