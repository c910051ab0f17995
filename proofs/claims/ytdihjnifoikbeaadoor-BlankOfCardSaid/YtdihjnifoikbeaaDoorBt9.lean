/- The document's Pack, of long rows. -/
import Derived.Test.YtdihjnifoikbeaaDoorPd
set_option linter.unusedSimpArgs false
set_option linter.unusedVariables false
set_option maxRecDepth 100000
namespace Go.Proofs.YtdihjnifoikbeaaDoor.Av.Bt
open Go
attribute [local irreducible] AGo ACalls
variable {gl : List (Nat × List D)}
attribute [local irreducible] packB numS
end Go.Proofs.YtdihjnifoikbeaaDoor.Av.Bt
