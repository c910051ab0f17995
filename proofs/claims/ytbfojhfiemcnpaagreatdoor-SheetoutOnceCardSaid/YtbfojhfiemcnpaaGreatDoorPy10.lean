/- Cells: the reference's Row. Cells as arguments. -/
import Derived.Test.YtbfojhfiemcnpaaGreatDoorCo6
set_option linter.unusedVariables false
set_option linter.unusedSimpArgs false
set_option maxRecDepth 100000
set_option maxHeartbeats 64000000
namespace Go.Proofs.YtbfojhfiemcnpaaGreatDoor.Av
namespace Co
open Go Bt Tc Wr Bl Mb Cb Mv
attribute [local irreducible] aa ACalls
variable {gl : List (Nat × List D)}
theorem Ic (w : List UInt8) (b : Bool) (px py : Int) (c : Cel) : putRow w b px py c = w ++ putRow [] b px py c := by
 unfold putRow
 split <;> simp only [List.append_assoc, List.nil_append]
attribute [local irreducible] bG fV eB jU ou nA iO dM bN rY kP jO aK cT
end Co
section
open Go
theorem cL.agg {cs ds : List D} (hl : ds.length = cs.length) (hone : ∀ d ∈ ds, d.one = true) (h : ∀ (i : Nat) (c d : D), cs[i]? = some c → ds[i]? = some d → cL c d) : cL (.agg cs) (.agg ds) := fun imm v hv => by
 cases hv with
 | agg vs _ h1 h2 h3 =>
  refine .agg vs ds (by omega) hone fun i d hd => ?_
  have hi : i < cs.length := by have := aF hd; omega
  exact h i _ d (List.getElem?_eq_getElem hi) hd imm _ (h3 i _ (List.getElem?_eq_getElem hi))
end
namespace Co
open Go Bt Tc
def D5 (l : List Ev) : Prop := l.length ≤ 9223372036854775807 ∧ ∀ e ∈ l, A7 e
structure NB (c : Cel) : Prop where
 stuff : I64 c.stuff
 kind : I64 c.kind
 step : I64 c.step
 x : I64 c.mx
 y : I64 c.my
 e0 : D5 c.e0
 e1 : D5 c.e1
 e2 : D5 c.e2
 e3 : D5 c.e3
 e4 : D5 c.e4
 e5 : D5 c.e5
end Co
end Go.Proofs.YtbfojhfiemcnpaaGreatDoor.Av
