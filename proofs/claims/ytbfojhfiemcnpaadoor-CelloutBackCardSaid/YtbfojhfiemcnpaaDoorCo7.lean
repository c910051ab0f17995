/- Cells: the reference's Right. -/
import Derived.Test.YtbfojhfiemcnpaaDoorCo6
set_option linter.unusedSimpArgs false
set_option linter.unusedVariables false
set_option maxRecDepth 100000
namespace Go.Proofs.YtbfojhfiemcnpaaDoor.Av.Co
open Go Bt Tc Wr Bl
attribute [local irreducible] AGo ACalls
variable {gl : List (Nat × List D)}
attribute [local irreducible] evsD
attribute [local irreducible] noEv
end Go.Proofs.YtbfojhfiemcnpaaDoor.Av.Co
