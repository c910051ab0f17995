/- Cells: which blocks are coded; whether a cell may be. -/
import Derived.Test.YtbfojhfiemcnpaaGreatDoorCo2
set_option linter.unusedVariables false
set_option linter.unusedSimpArgs false
set_option maxRecDepth 100000
set_option maxHeartbeats 64000000
namespace Go.Proofs.YtbfojhfiemcnpaaGreatDoor.Av
namespace Co
open Go Bt Tc Wr Bl
attribute [local irreducible] aa ACalls
variable {gl : List (Nat × List D)}
attribute [local irreducible] bg iM
theorem F8 (c : Cel) : ACalls (cxg gl) 86 [.d (jm c)] [] (fun r H => r = I (dU c) ∧ H = []) := by
 obtain ⟨st, sk, ki, sp, mx, my, d0, d1, d2, d3, d4, d5, e0, e1, e2, e3, e4, e5⟩ := c
 unfold dU
 refine ACalls.enter Tryz.func86 rfl Tryz.ntmps86 (by kernel_rfl) rfl ?_; simp only [au, nm, Nat.reduceAdd]
 repeat' (first | (apply aa.st; rfl) | (apply aa.q true; rfl; rfl; rfl; rfl; first | exact True.intro | omega | (simp only [tn, Int.reduceToNat]; omega) | (exact ⟨by omega, Nat.le_of_ble_eq_true rfl⟩)) | (apply aa.exit; rfl) | (apply aa.af; rfl; first | omega | rfl) | (apply aa.ae; rfl; omega) | (apply aa.box; (iterate 6 rfl); simp only [nm, nz, Nat.reduceAdd]) | apply aa.dM | apply aa.lpU | intro _ | (apply aa.dw ; rfl) | (apply aa.aC; rfl; rfl; rfl; rfl))
 all_goals first | exact ⟨congrArg I (by simp only [Gr, Gs, not_false_eq_true, *]; rfl), rfl⟩
def nY (l : List Ev) : Prop := l.length ≤ 1000000 ∧ ∀ e ∈ l, Bn e
structure nZ (c : Cel) : Prop where
 x : I64 c.mx
 y : I64 c.my
 step : I64 c.step
 e0 : nY c.e0
 e1 : nY c.e1
 e2 : nY c.e2
 e3 : nY c.e3
 e4 : nY c.e4
 e5 : nY c.e5
def qx (c : Cel) : Bool := di (aH c.kind) c.d0 c.e0 && di (aH c.kind) c.d1 c.e1 && di (aH c.kind) c.d2 c.e2 && di (aH c.kind) c.d3 c.e3 && di (aH c.kind) c.d4 c.e4 && di (aH c.kind) c.d5 c.e5
def fV (b : Bool) (c : Cel) : Bool := aH c.kind || (b && decide (c.kind = 0 ∨ c.kind = 1))
def pY (c : Cel) : Bool := (qN c.step == cE c.kind) && (qN c.step || decide (c.step = 0))
def eu (b : Bool) (c : Cel) : Bool := if c.stuff < 0 ∨ 64 < c.stuff then false else if c.skip = true then b && wZ c else fV b c && pY c && lH c && qx c
end Co
end Go.Proofs.YtbfojhfiemcnpaaGreatDoor.Av
