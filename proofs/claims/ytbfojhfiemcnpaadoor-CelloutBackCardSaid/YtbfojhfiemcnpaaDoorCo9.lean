/- Cells: the reference's Row. -/
import Derived.Test.YtbfojhfiemcnpaaDoorCo8
set_option linter.unusedSimpArgs false
set_option linter.unusedVariables false
set_option maxRecDepth 100000
namespace Go.Proofs.YtbfojhfiemcnpaaDoor.Av.Co
open Go Bt Tc Wr Bl Mb Cb Mv
attribute [local irreducible] AGo ACalls
variable {gl : List (Nat × List D)}
theorem put_app (w : List UInt8) (b : Bool) (px py : Int) (c : Cel) : putRow w b px py c = w ++ putRow [] b px py c := by
  unfold putRow
  split <;> simp only [List.append_assoc, List.nil_append]
attribute [local irreducible] evsD mbRow codedS cbRow stRow mrow blRow blMay wrapS stIs chroma bitS' intraS steppedS
end Go.Proofs.YtbfojhfiemcnpaaDoor.Av.Co
