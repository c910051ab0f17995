/- cbpy: the rows, Row. -/
import Derived.Test.YtdihjnifoikbeaaDoorPd
import Derived.Test.YtdihjnifoikbeaaDoorPn
set_option linter.unusedSimpArgs false
set_option linter.unusedVariables false
set_option maxRecDepth 100000
namespace Go.Proofs.YtdihjnifoikbeaaDoor.Av.Cb
open Go Bt
attribute [local irreducible] AGo ACalls
variable {gl : List (Nat × List D)}
def cbR : List (List UInt8) := [[48, 48, 49, 49], [48, 48, 49, 48, 49], [48, 48, 49, 48, 48], [49, 48, 48, 49], [48, 48, 48, 49, 49], [48, 49, 49, 49], [48, 48, 48, 48, 49, 48], [49, 48, 49, 49], [48, 48, 48, 49, 48], [48, 48, 48, 48, 49, 49], [48, 49, 48, 49], [49, 48, 49, 48], [48, 49, 48, 48], [49, 48, 48, 48], [48, 49, 49, 48], [49, 49]]
def trn (b : Bool) (p : Int) : Int := if b = true then p else 15 - p
theorem crows_c : ACalls (cxg gl) 102 [] [] (fun r H => r = .d (.agg (cbR.map .str)) ∧ H = []) := by
  refine ACalls.enter Tryd.func102 rfl Tryd.ntmps102 (by kernel_rfl) rfl ?_; simp only [argEnv, Nat.reduceAdd, List.length_nil, List.length_cons]
  repeat' (first | apply AGo.seq | apply AGo.nil | (apply AGo.region; rfl) | (apply AGo.alloc; (iterate 5 rfl); simp only [nm, Nat.reduceAdd, spliceA, AV.cells, D.cells]) | (apply AGo.store; (iterate 9 rfl); exact Nat.le_of_ble_eq_true rfl; simp only [nm, Nat.reduceAdd, spliceA, AV.cells, D.cells]) | (apply AGo.build; (iterate 5 rfl); simp only [nm, Nat.reduceAdd, spliceA, AV.cells, D.cells, mkAgg, unDs, AV.unD]) | intro _ | (apply AGo.retN; rfl; rfl; rfl; rfl))
  all_goals first | exact ⟨rfl, rfl⟩ | trace_state
theorem turned_c (b : Bool) (p : Int) (h : 0 ≤ p ∧ p ≤ 15) : ACalls (cxg gl) 103 [B b, I p] [] (fun r H => r = I (trn b p) ∧ H = []) := by
  cases b
  · refine ACalls.enter Tryd.func103 rfl Tryd.ntmps103 (by kernel_rfl) rfl ?_; simp only [argEnv, Nat.reduceAdd, List.length_nil, List.length_cons]
    repeat' (first | apply AGo.seq | apply AGo.skip | apply AGo.nil | (apply AGo.region; rfl) | (apply AGo.q true; rfl; rfl; rfl; rfl; first | exact True.intro | omega | (simp only [Int.toNat_natCast, Int.reduceToNat, IntKind.bits]; omega)) | (apply AGo.condT; rfl) | (apply AGo.condF; rfl) | intro _ | (apply AGo.retN; rfl; rfl; rfl; rfl))
    all_goals first | exact ⟨rfl, rfl⟩ | trace_state
  · refine ACalls.enter Tryd.func103 rfl Tryd.ntmps103 (by kernel_rfl) rfl ?_; simp only [argEnv, Nat.reduceAdd, List.length_nil, List.length_cons]
    repeat' (first | apply AGo.seq | apply AGo.skip | apply AGo.nil | (apply AGo.region; rfl) | (apply AGo.q true; rfl; rfl; rfl; rfl; first | exact True.intro | omega | (simp only [Int.toNat_natCast, Int.reduceToNat, IntKind.bits]; omega)) | (apply AGo.condT; rfl) | (apply AGo.condF; rfl) | intro _ | (apply AGo.retN; rfl; rfl; rfl; rfl))
    all_goals first | exact ⟨rfl, rfl⟩ | trace_state
def cbV : List (List UInt8) := cbR.reverse
theorem rcrows_c : ACalls (cxg gl) 96 [] [] (fun r H => r = .d (.sl 1 (rowsD cbV)) ∧ H = []) := by
  unfold rowsD
  refine ACalls.enter Tryd.func96 rfl Tryd.ntmps96 (by kernel_rfl) rfl ?_; simp only [argEnv, Nat.reduceAdd, List.length_nil, List.length_cons]
  repeat' (first | apply AGo.seq | apply AGo.nil | (apply AGo.region; rfl) | (apply AGo.q true; rfl; rfl; rfl; rfl; first | exact True.intro | omega | (simp only [Int.toNat_natCast, Int.reduceToNat, IntKind.bits]; omega)) | (apply AGo.buildSlice; (iterate 11 rfl)) | intro _ | (apply AGo.retN; rfl; rfl; rfl; rfl))
  all_goals first | exact ⟨rfl, rfl⟩ | trace_state
theorem trn_bd (b : Bool) (p : Int) (h : 0 ≤ p ∧ p ≤ 15) : 0 ≤ trn b p ∧ trn b p ≤ 15 := by unfold trn; split <;> omega
attribute [local irreducible] rowsD cbV cbR
end Go.Proofs.YtdihjnifoikbeaaDoor.Av.Cb
