/- Cells: which blocks are coded; whether a cell may be. -/
import Derived.Test.YtbfojhfiemcnpaaGreatDoorCo2
set_option linter.unusedVariables false
set_option linter.unusedSimpArgs false
set_option maxRecDepth 100000
set_option maxHeartbeats 64000000
namespace Go.Proofs.YtbfojhfiemcnpaaGreatDoor.Av
namespace Co
open Go Bt Tc Wr Bl
attribute [local irreducible] aa ACalls
variable {gl : List (Nat × List D)}
attribute [local irreducible] bG jO
theorem Cq (c : Cel) : ACalls (cxg gl) 86 [.d (lH c)] [] (fun r H => r = I (eB c) ∧ H = []) := by
 obtain ⟨st, sk, ki, sp, mx, my, d0, d1, d2, d3, d4, d5, e0, e1, e2, e3, e4, e5⟩ := c
 unfold eB
 refine ACalls.enter Tryz.func86 rfl Tryz.ntmps86 (by kernel_rfl) rfl ?_; simp only [aB, nm, Nat.reduceAdd]
 repeat' (first | refine aa.aD ?_ | (apply aa.q true; rfl; rfl; rfl; rfl; first | exact True.intro | omega | (simp only [tn, Int.reduceToNat]; omega) | (exact ⟨by omega, Nat.le_of_ble_eq_true rfl⟩)) | refine aa.bO ?_ | refine aa.ah ?_ | refine aa.af ?_ | (refine aa.aP ?_; simp only [nm, nz, Nat.reduceAdd]) | apply aa.dP | apply aa.lpU | intro _ | (apply aa.eu ; rfl) | refine aa.au ?_)
 all_goals first | exact ⟨congrArg I (by simp only [Jn, Jo, not_false_eq_true, *]; rfl), rfl⟩
def oG (l : List Ev) : Prop := l.length ≤ 1000000 ∧ ∀ e ∈ l, A7 e
structure lu (c : Cel) : Prop where
 x : I64 c.mx
 y : I64 c.my
 step : I64 c.step
 e0 : oG c.e0
 e1 : oG c.e1
 e2 : oG c.e2
 e3 : oG c.e3
 e4 : oG c.e4
 e5 : oG c.e5
def mK (c : Cel) : Bool := dM (aK c.kind) c.d0 c.e0 && dM (aK c.kind) c.d1 c.e1 && dM (aK c.kind) c.d2 c.e2 && dM (aK c.kind) c.d3 c.e3 && dM (aK c.kind) c.d4 c.e4 && dM (aK c.kind) c.d5 c.e5
def fU (b : Bool) (c : Cel) : Bool := aK c.kind || (b && decide (c.kind = 0 ∨ c.kind = 1))
def pI (c : Cel) : Bool := (rY c.step == cT c.kind) && (rY c.step || decide (c.step = 0))
def dE (b : Bool) (c : Cel) : Bool := if c.stuff < 0 ∨ 64 < c.stuff then false else if c.skip = true then b && zo c else fU b c && pI c && jV c && mK c
end Co
end Go.Proofs.YtbfojhfiemcnpaaGreatDoor.Av
