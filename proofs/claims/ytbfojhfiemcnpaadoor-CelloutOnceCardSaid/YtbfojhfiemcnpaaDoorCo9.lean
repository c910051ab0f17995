/- Cells: the reference's Row. -/
import Derived.Test.YtbfojhfiemcnpaaDoorCo8
set_option linter.unusedSimpArgs false
set_option linter.unusedVariables false
set_option maxRecDepth 100000
namespace Go.Proofs.YtbfojhfiemcnpaaDoor.Av.Co
open Go Bt Tc Wr Bl Mb Cb Mv
attribute [local irreducible] AGo ACalls
variable {gl : List (Nat × List D)}
attribute [local irreducible] evsD mbRow codedS cbRow stRow mrow blRow blMay wrapS stIs chroma bitS' intraS steppedS
end Go.Proofs.YtbfojhfiemcnpaaDoor.Av.Co
