/- mcbpc: the reference's Take. The laws of mcbpc. -/
import Derived.Test.YtbfojhfiemcnpaaDoorMb4
import Derived.Test.YtbfojhfiemcnpaaDoorMb3
/- mcbpc: the reference's Take. -/
set_option linter.unusedSimpArgs false
set_option linter.unusedVariables false
set_option maxRecDepth 100000
namespace Go.Proofs.YtbfojhfiemcnpaaDoor.Av.Mb
open Go Bt Px
attribute [local irreducible] AGo ACalls
variable {gl : List (Nat × List D)}
theorem mbRs_lit (b : Bool) : mbRs b = if b = true then wdI.flatten else wdJ.flatten := by unfold mbRs; cases b <;> decide +kernel
attribute [local irreducible] mbX qfin
end Go.Proofs.YtbfojhfiemcnpaaDoor.Av.Mb

/- The laws of mcbpc. -/
set_option linter.unusedSimpArgs false
set_option linter.unusedVariables false
set_option maxRecDepth 100000
namespace Go.Proofs.YtbfojhfiemcnpaaDoor.Av.Mb
open Go Bt Px
attribute [local irreducible] AGo ACalls
variable {gl : List (Nat × List D)}
attribute [local irreducible] mbX bitsF qfin mbRow mbIs showN packN
end Go.Proofs.YtbfojhfiemcnpaaDoor.Av.Mb
