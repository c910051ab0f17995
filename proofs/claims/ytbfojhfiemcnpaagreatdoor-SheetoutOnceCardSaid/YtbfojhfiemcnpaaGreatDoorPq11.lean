/- mcbpc: the reference's Take. The laws of mcbpc. -/
import Derived.Test.YtbfojhfiemcnpaaGreatDoorPy7
set_option linter.unusedVariables false
set_option linter.unusedSimpArgs false
set_option maxRecDepth 100000
set_option maxHeartbeats 64000000
namespace Go.Proofs.YtbfojhfiemcnpaaGreatDoor.Av
namespace Mb
open Go Bt Px
attribute [local irreducible] aa ACalls
variable {gl : List (Nat × List D)}
theorem FJ (b : Bool) : jK b = if b = true then wdI.flatten else wdJ.flatten := by unfold jK; cases b <;> decide +kernel
attribute [local irreducible] mbX zV
end Mb
namespace Mb
open Go Bt Px
attribute [local irreducible] aa ACalls
variable {gl : List (Nat × List D)}
attribute [local irreducible] mbX aC zV fV lT iY bR
end Mb
end Go.Proofs.YtbfojhfiemcnpaaGreatDoor.Av
