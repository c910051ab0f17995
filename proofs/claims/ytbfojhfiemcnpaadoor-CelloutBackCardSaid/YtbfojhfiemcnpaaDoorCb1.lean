/- cbpy: the rows, Row. -/
import Derived.Test.YtbfojhfiemcnpaaDoorPd
import Derived.Test.YtbfojhfiemcnpaaDoorPn
set_option linter.unusedSimpArgs false
set_option linter.unusedVariables false
set_option maxRecDepth 100000
namespace Go.Proofs.YtbfojhfiemcnpaaDoor.Av.Cb
open Go Bt
attribute [local irreducible] AGo ACalls
variable {gl : List (Nat × List D)}
def cbR : List (List UInt8) := [[48, 48, 49, 49], [48, 48, 49, 48, 49], [48, 48, 49, 48, 48], [49, 48, 48, 49], [48, 48, 48, 49, 49], [48, 49, 49, 49], [48, 48, 48, 48, 49, 48], [49, 48, 49, 49], [48, 48, 48, 49, 48], [48, 48, 48, 48, 49, 49], [48, 49, 48, 49], [49, 48, 49, 48], [48, 49, 48, 48], [49, 48, 48, 48], [48, 49, 49, 48], [49, 49]]
def trn (b : Bool) (p : Int) : Int := if b = true then p else 15 - p
def cbRow (b : Bool) (p : Int) : List UInt8 := if p < 0 ∨ 15 < p then [] else cbR.getD (trn b p).toNat []
theorem crows_c : ACalls (cxg gl) 49 [] [] (fun r H => r = .d (.agg (cbR.map .str)) ∧ H = []) := by
  refine ACalls.enter Tryd.func49 rfl Tryd.ntmps49 (by kernel_rfl) rfl ?_; simp only [argEnv, Nat.reduceAdd, List.length_nil, List.length_cons]
  repeat' (first | apply AGo.seq | apply AGo.nil | (apply AGo.region; rfl) | (apply AGo.alloc; (iterate 5 rfl); simp only [nm, Nat.reduceAdd, spliceA, AV.cells, D.cells]) | (apply AGo.store; (iterate 9 rfl); exact Nat.le_of_ble_eq_true rfl; simp only [nm, Nat.reduceAdd, spliceA, AV.cells, D.cells]) | (apply AGo.build; (iterate 5 rfl); simp only [nm, Nat.reduceAdd, spliceA, AV.cells, D.cells, mkAgg, unDs, AV.unD]) | intro _ | (apply AGo.retN; rfl; rfl; rfl; rfl))
  all_goals first | exact ⟨rfl, rfl⟩ | trace_state
theorem turned_c (b : Bool) (p : Int) (h : 0 ≤ p ∧ p ≤ 15) : ACalls (cxg gl) 50 [B b, I p] [] (fun r H => r = I (trn b p) ∧ H = []) := by
  cases b
  · refine ACalls.enter Tryd.func50 rfl Tryd.ntmps50 (by kernel_rfl) rfl ?_; simp only [argEnv, Nat.reduceAdd, List.length_nil, List.length_cons]
    repeat' (first | apply AGo.seq | apply AGo.skip | apply AGo.nil | (apply AGo.region; rfl) | (apply AGo.q true; rfl; rfl; rfl; rfl; first | exact True.intro | omega | (simp only [Int.toNat_natCast, Int.reduceToNat, IntKind.bits]; omega)) | (apply AGo.condT; rfl) | (apply AGo.condF; rfl) | intro _ | (apply AGo.retN; rfl; rfl; rfl; rfl))
    all_goals first | exact ⟨rfl, rfl⟩ | trace_state
  · refine ACalls.enter Tryd.func50 rfl Tryd.ntmps50 (by kernel_rfl) rfl ?_; simp only [argEnv, Nat.reduceAdd, List.length_nil, List.length_cons]
    repeat' (first | apply AGo.seq | apply AGo.skip | apply AGo.nil | (apply AGo.region; rfl) | (apply AGo.q true; rfl; rfl; rfl; rfl; first | exact True.intro | omega | (simp only [Int.toNat_natCast, Int.reduceToNat, IntKind.bits]; omega)) | (apply AGo.condT; rfl) | (apply AGo.condF; rfl) | intro _ | (apply AGo.retN; rfl; rfl; rfl; rfl))
    all_goals first | exact ⟨rfl, rfl⟩ | trace_state
set_option maxHeartbeats 4000000 in
theorem cbrow_c (b : Bool) (p : Int) : ACalls (cxg gl) 28 [B b, I p] [] (fun r H => r = .tup [S (cbRow b p), B (decide (0 ≤ p ∧ p ≤ 15))] ∧ H = []) := by
  by_cases h : p < 0 ∨ 15 < p
  · rw [decide_eq_false (by omega)]
    unfold cbRow
    rw [if_pos h]
    refine ACalls.enter Tryd.func28 rfl Tryd.ntmps28 (by kernel_rfl) rfl ?_; simp only [argEnv, Nat.reduceAdd, List.length_nil, List.length_cons]
    repeat' (first | apply AGo.seq | apply AGo.skip | apply AGo.nil | (apply AGo.region; rfl) | (apply AGo.q true; rfl; rfl; rfl; rfl; first | exact True.intro | omega | (simp only [Int.toNat_natCast, Int.reduceToNat, IntKind.bits]; omega)) | (apply AGo.condDT; rfl; first | omega | rfl) | (apply AGo.condDF; rfl; omega) | (apply AGo.condT; rfl) | (apply AGo.unguard; rfl; rfl) | (apply AGo.gF; rfl; rfl; rfl; omega) | (apply AGo.skipOp; rfl; rfl; rfl) | intro _ | (apply AGo.gD; rfl; rfl; rfl) | (apply AGo.retN; rfl; rfl; rfl; rfl))
    all_goals first | exact ⟨rfl, rfl⟩ | trace_state
  · rw [decide_eq_true (by omega)]
    unfold cbRow
    rw [if_neg h]
    have ht : 0 ≤ trn b p ∧ trn b p ≤ 15 := by unfold trn; split <;> omega
    have g : (cbR.map D.str).getD (trn b p).toNat .top = .str (cbR.getD (trn b p).toNat []) := by
      have hl : cbR.length = 16 := rfl
      have h2 : (trn b p).toNat < 16 := by omega
      simp [List.getD, hl, h2]
    have hl : (cbR.map D.str).length = 16 := rfl
    have t := turned_c (gl := gl) b p (by omega)
    refine ACalls.enter Tryd.func28 rfl Tryd.ntmps28 (by kernel_rfl) rfl ?_; simp only [argEnv, Nat.reduceAdd, List.length_nil, List.length_cons]
    repeat' (first | apply AGo.seq | apply AGo.skip | apply AGo.nil | (apply AGo.region; rfl) | (apply AGo.q true; rfl; rfl; rfl; rfl; first | exact True.intro | omega | (simp only [Int.toNat_natCast, Int.reduceToNat, IntKind.bits]; omega) | (rw [hl]; omega)) | (apply AGo.callP (crows_c); (iterate 6 rfl)) | (apply AGo.callP (t); (iterate 6 rfl)) | (apply AGo.condDT; rfl; first | omega | rfl) | (apply AGo.condDF; rfl; omega) | (apply AGo.condT; rfl) | (apply AGo.unguard; rfl; rfl) | (apply AGo.gF; rfl; rfl; rfl; omega) | (apply AGo.skipOp; rfl; rfl; rfl) | intro _ | (apply AGo.gD; rfl; rfl; rfl) | (apply AGo.retN; rfl; rfl; rfl; rfl))
    all_goals first | exact ⟨by simp only [g], rfl⟩ | trace_state
theorem cbR_ok : ∀ i : _root_.Fin 16, cbR.getD i.val [] ≠ [] ∧ (cbR.getD i.val []).length ≤ 6 ∧ (cbR.getD i.val []).all isDig = true := by decide +kernel
theorem trn_bd (b : Bool) (p : Int) (h : 0 ≤ p ∧ p ≤ 15) : 0 ≤ trn b p ∧ trn b p ≤ 15 := by unfold trn; split <;> omega
theorem cbRow_in (b : Bool) (p : Int) (h : 0 ≤ p ∧ p ≤ 15) : cbRow b p = cbR.getD (trn b p).toNat [] := by unfold cbRow; rw [if_neg (by omega)]
theorem cbRow_ok (b : Bool) (p : Int) (h : 0 ≤ p ∧ p ≤ 15) : cbRow b p ≠ [] ∧ (cbRow b p).length ≤ 6 ∧ (cbRow b p).all isDig = true := by
  rw [cbRow_in b p h]
  have := trn_bd b p h
  exact cbR_ok ⟨(trn b p).toNat, by omega⟩
attribute [local irreducible] rowsD cbR
end Go.Proofs.YtbfojhfiemcnpaaDoor.Av.Cb
