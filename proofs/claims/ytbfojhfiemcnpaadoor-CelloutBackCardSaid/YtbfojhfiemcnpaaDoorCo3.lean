/- Cells: which blocks are coded; whether a cell may be. -/
import Derived.Test.YtbfojhfiemcnpaaDoorCo2
set_option linter.unusedSimpArgs false
set_option linter.unusedVariables false
set_option maxRecDepth 100000
namespace Go.Proofs.YtbfojhfiemcnpaaDoor.Av.Co
open Go Bt Tc Wr Bl
attribute [local irreducible] AGo ACalls
variable {gl : List (Nat × List D)}
attribute [local irreducible] evsD bitS'
set_option maxHeartbeats 40000000 in
theorem coded_c (c : Cel) : ACalls (cxg gl) 30 [.d (celD c)] [] (fun r H => r = I (codedS c) ∧ H = []) := by
  obtain ⟨st, sk, ki, sp, mx, my, d0, d1, d2, d3, d4, d5, e0, e1, e2, e3, e4, e5⟩ := c
  unfold codedS
  refine ACalls.enter Tryd.func30 rfl Tryd.ntmps30 (by kernel_rfl) rfl ?_; simp only [argEnv, Nat.reduceAdd, List.length_nil, List.length_cons]
  repeat' (first | apply AGo.seq | apply AGo.block | apply AGo.blk | apply AGo.skip | apply AGo.nil | (apply AGo.region; rfl) | (apply AGo.q true; rfl; rfl; rfl; rfl; first | exact True.intro | omega | (simp only [Int.toNat_natCast, Int.reduceToNat, IntKind.bits]; omega) | (exact ⟨by omega, Nat.le_of_ble_eq_true rfl⟩)) | (apply AGo.exit; rfl) | (apply AGo.condDT; rfl; first | omega | rfl) | (apply AGo.condDF; rfl; omega) | (apply AGo.box; (iterate 6 rfl); simp only [nm, Nat.reduceAdd, spliceA, AV.cells, D.cells]) | apply AGo.loopU | apply AGo.lpU | intro _ | (apply AGo.condD' ; rfl) | (apply AGo.retN; rfl; rfl; rfl; rfl))
  all_goals first | exact ⟨congrArg I (by simp only [bit_pos, bit_neg, not_false_eq_true, *]; rfl), rfl⟩ | trace_state
/-- what a cell's events may be -/
def EvsOk (l : List Ev) : Prop := l.length ≤ 1000000 ∧ ∀ e ∈ l, EvOk e
structure CelOk (c : Cel) : Prop where
  x : I64 c.mx
  y : I64 c.my
  step : I64 c.step
  e0 : EvsOk c.e0
  e1 : EvsOk c.e1
  e2 : EvsOk c.e2
  e3 : EvsOk c.e3
  e4 : EvsOk c.e4
  e5 : EvsOk c.e5
def blksMay (c : Cel) : Bool := blMay (intraS c.kind) c.d0 c.e0 && blMay (intraS c.kind) c.d1 c.e1 && blMay (intraS c.kind) c.d2 c.e2 && blMay (intraS c.kind) c.d3 c.e3 && blMay (intraS c.kind) c.d4 c.e4 && blMay (intraS c.kind) c.d5 c.e5
def headMay (b : Bool) (c : Cel) : Bool := intraS c.kind || (b && decide (c.kind = 0 ∨ c.kind = 1))
def stepMay (c : Cel) : Bool := (stIs c.step == steppedS c.kind) && (stIs c.step || decide (c.step = 0))
def rightS (b : Bool) (c : Cel) : Bool := if c.stuff < 0 ∨ 64 < c.stuff then false else if c.skip = true then b && bareS c else headMay b c && stepMay c && vectorS c && blksMay c
end Go.Proofs.YtbfojhfiemcnpaaDoor.Av.Co
