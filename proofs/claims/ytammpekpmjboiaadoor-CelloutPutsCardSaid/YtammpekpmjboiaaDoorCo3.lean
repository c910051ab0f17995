/- Cells: which blocks are coded; whether a cell may be. -/
import Derived.Test.YtammpekpmjboiaaDoorCo2
set_option linter.unusedSimpArgs false
set_option linter.unusedVariables false
set_option maxRecDepth 100000
namespace Go.Proofs.YtammpekpmjboiaaDoor.Av.Co
open Go Bt Tc Wr Bl
attribute [local irreducible] AGo ACalls
variable {gl : List (Nat × List D)}
attribute [local irreducible] evsD bitS'
set_option maxHeartbeats 40000000 in
theorem coded_c (c : Cel) : ACalls (cxg gl) 58 [.d (celD c)] [] (fun r H => r = I (codedS c) ∧ H = []) := by
  obtain ⟨st, sk, ki, sp, mx, my, d0, d1, d2, d3, d4, d5, e0, e1, e2, e3, e4, e5⟩ := c
  unfold codedS
  refine ACalls.enter Tryd.func58 rfl Tryd.ntmps58 (by kernel_rfl) rfl ?_; simp only [argEnv, Nat.reduceAdd, List.length_nil, List.length_cons]
  repeat' (first | apply AGo.seq | apply AGo.block | apply AGo.blk | apply AGo.skip | apply AGo.nil | apply AGo.qnil | apply AGo.snil | (apply AGo.region; rfl) | ((first | apply AGo.q true | apply AGo.qq true | apply AGo.sq true); rfl; rfl; rfl; rfl; first | exact True.intro | omega | (simp only [Int.toNat_natCast, Int.reduceToNat, IntKind.bits]; omega) | (exact ⟨by omega, Nat.le_of_ble_eq_true rfl⟩)) | (apply AGo.drawT; rfl; rfl; rfl; decide +kernel) | (apply AGo.drawQ; rfl; rfl; decide +kernel) | (apply AGo.exit; rfl) | (apply AGo.condDT; rfl; first | omega | rfl) | (apply AGo.condDF; rfl; omega) | (apply AGo.condT; rfl) | (apply AGo.condF; rfl) | (apply AGo.alloc; (iterate 5 rfl); simp only [nm, Nat.reduceAdd, spliceA, AV.cells, D.cells]) | (apply AGo.box; (iterate 6 rfl); simp only [nm, Nat.reduceAdd, spliceA, AV.cells, D.cells]) | (apply AGo.store; (iterate 9 rfl); exact Nat.le_of_ble_eq_true rfl; simp only [nm, Nat.reduceAdd, spliceA, AV.cells, D.cells]) | ((first | apply AGo.build | apply AGo.qbuild); (iterate 5 rfl); simp only [nm, Nat.reduceAdd, spliceA, AV.cells, D.cells, mkAgg, unDs, AV.unD]) | ((first | apply AGo.unguard | apply AGo.qunguard | apply AGo.sunguard); rfl; rfl) | ((first | apply AGo.gT | apply AGo.qgT | apply AGo.sgT); rfl; rfl; rfl; first | omega | rfl) | ((first | apply AGo.gF | apply AGo.qgF | apply AGo.sgF); rfl; rfl; rfl; omega) | (apply AGo.cBT; rfl; first | (simp only [bT]; omega)) | (apply AGo.cBF; rfl; first | (simp only [bF]; omega) | exact ndF rfl) | ((first | apply AGo.gBT | apply AGo.qgBT | apply AGo.sgBT); rfl; rfl; rfl; first | (simp only [bT]; omega)) | ((first | apply AGo.gBF | apply AGo.qgBF | apply AGo.sgBF); rfl; rfl; rfl; first | (simp only [bF]; omega) | exact ndF rfl) | ((first | apply AGo.skipOp | apply AGo.qskipOp | apply AGo.sskipOp); rfl; rfl; rfl) | (apply AGo.buildSlice; (iterate 11 rfl)) | apply AGo.loopU | apply AGo.lpU | intro _ | (apply AGo.condD' ; rfl) | ((first | apply AGo.gD | apply AGo.qgD | apply AGo.sgD); rfl; rfl; rfl) | ((first | apply AGo.gS | apply AGo.qgS | apply AGo.sgS); rfl; rfl; rfl) | (apply AGo.condB; rfl) | (apply AGo.retN; rfl; rfl; rfl; rfl) | (apply AGo.retL; rfl; rfl; rfl; rfl) | (apply AGo.retL2; rfl; rfl; rfl; rfl) | (apply AGo.outL; rfl; rfl))
  all_goals first | exact ⟨congrArg I (by simp only [bit_pos, bit_neg, not_false_eq_true, *]; rfl), rfl⟩ | trace_state
/-- what a cell's events may be -/
def EvsOk (l : List Ev) : Prop := l.length ≤ 1000000 ∧ ∀ e ∈ l, EvOk e
structure CelOk (c : Cel) : Prop where
  x : I64 c.mx
  y : I64 c.my
  step : I64 c.step
  e0 : EvsOk c.e0
  e1 : EvsOk c.e1
  e2 : EvsOk c.e2
  e3 : EvsOk c.e3
  e4 : EvsOk c.e4
  e5 : EvsOk c.e5
def blksMay (c : Cel) : Bool := blMay (intraS c.kind) c.d0 c.e0 && blMay (intraS c.kind) c.d1 c.e1 && blMay (intraS c.kind) c.d2 c.e2 && blMay (intraS c.kind) c.d3 c.e3 && blMay (intraS c.kind) c.d4 c.e4 && blMay (intraS c.kind) c.d5 c.e5
def headMay (b : Bool) (c : Cel) : Bool := intraS c.kind || (b && decide (c.kind = 0 ∨ c.kind = 1))
def stepMay (c : Cel) : Bool := (stIs c.step == steppedS c.kind) && (stIs c.step || decide (c.step = 0))
def rightS (b : Bool) (c : Cel) : Bool := if c.stuff < 0 ∨ 64 < c.stuff then false else if c.skip = true then b && bareS c else headMay b c && stepMay c && vectorS c && blksMay c
end Go.Proofs.YtammpekpmjboiaaDoor.Av.Co
