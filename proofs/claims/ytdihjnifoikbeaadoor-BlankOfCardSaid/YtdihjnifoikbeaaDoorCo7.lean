/- Cells: the reference's Right. -/
import Derived.Test.YtdihjnifoikbeaaDoorCo6
set_option linter.unusedSimpArgs false
set_option linter.unusedVariables false
set_option maxRecDepth 100000
namespace Go.Proofs.YtdihjnifoikbeaaDoor.Av.Co
open Go Bt Tc Wr Bl
attribute [local irreducible] AGo ACalls
variable {gl : List (Nat × List D)}
theorem rintra_c (k : Int) : ACalls (cxg gl) 43 [I k] [] (fun r H => r = B (intraS k) ∧ H = []) := by
  by_cases h : k = 3 ∨ k = 4
  · rw [show intraS k = true from decide_eq_true h]
    rcases h with rfl | rfl
    all_goals
      refine ACalls.enter Tryd.func43 rfl Tryd.ntmps43 (by kernel_rfl) rfl ?_; simp only [argEnv, Nat.reduceAdd, List.length_nil, List.length_cons]
      repeat' (first | apply AGo.seq | apply AGo.nil | (apply AGo.region; rfl) | (apply AGo.q true; rfl; rfl; rfl; rfl; first | exact True.intro | omega | (simp only [Int.toNat_natCast, Int.reduceToNat, IntKind.bits]; omega)) | (apply AGo.unguard; rfl; rfl) | (apply AGo.gT; rfl; rfl; rfl; first | omega | rfl) | (apply AGo.gF; rfl; rfl; rfl; omega) | (apply AGo.skipOp; rfl; rfl; rfl) | intro _ | (apply AGo.retN; rfl; rfl; rfl; rfl))
      all_goals first | exact ⟨rfl, rfl⟩ | trace_state
  · rw [show intraS k = false from decide_eq_false h]
    refine ACalls.enter Tryd.func43 rfl Tryd.ntmps43 (by kernel_rfl) rfl ?_; simp only [argEnv, Nat.reduceAdd, List.length_nil, List.length_cons]
    repeat' (first | apply AGo.seq | apply AGo.nil | (apply AGo.region; rfl) | (apply AGo.q true; rfl; rfl; rfl; rfl; first | exact True.intro | omega | (simp only [Int.toNat_natCast, Int.reduceToNat, IntKind.bits]; omega)) | (apply AGo.unguard; rfl; rfl) | (apply AGo.gT; rfl; rfl; rfl; first | omega | rfl) | (apply AGo.gF; rfl; rfl; rfl; omega) | (apply AGo.skipOp; rfl; rfl; rfl) | intro _ | (apply AGo.retN; rfl; rfl; rfl; rfl))
    all_goals first | exact ⟨rfl, rfl⟩ | exact ⟨congrArg B (by simp only [bF]; omega), rfl⟩ | trace_state
attribute [local irreducible] evsD
theorem noEv_pos {l : List Ev} (h : 0 < ((evsD l).length : Int)) : noEv l = false := by unfold noEv; exact decide_eq_false (by omega)
theorem noEv_neg {l : List Ev} (h : ¬ 0 < ((evsD l).length : Int)) : noEv l = true := by unfold noEv; exact decide_eq_true (by omega)
attribute [local irreducible] noEv
set_option maxHeartbeats 40000000 in
theorem rzero_c (c : Cel) : ACalls (cxg gl) 112 [.d (celD c)] [] (fun r H => r = B (bareS c) ∧ H = []) := by
  obtain ⟨st, sk, ki, sp, mx, my, d0, d1, d2, d3, d4, d5, e0, e1, e2, e3, e4, e5⟩ := c
  unfold bareS
  refine ACalls.enter Tryd.func112 rfl Tryd.ntmps112 (by kernel_rfl) rfl ?_; simp only [argEnv, Nat.reduceAdd, List.length_nil, List.length_cons]
  repeat' (first | apply AGo.seq | apply AGo.block | apply AGo.blk | apply AGo.skip | apply AGo.nil | (apply AGo.region; rfl) | (apply AGo.q true; rfl; rfl; rfl; rfl; first | exact True.intro | omega | (simp only [Int.toNat_natCast, Int.reduceToNat, IntKind.bits]; omega) | (exact ⟨by omega, Nat.le_of_ble_eq_true rfl⟩)) | (apply AGo.exit; rfl) | (apply AGo.condDT; rfl; first | omega | rfl) | (apply AGo.condDF; rfl; omega) | (apply AGo.condT; rfl) | (apply AGo.box; (iterate 6 rfl); simp only [nm, Nat.reduceAdd, spliceA, AV.cells, D.cells]) | (apply AGo.unguard; rfl; rfl) | (apply AGo.skipOp; rfl; rfl; rfl) | apply AGo.loopU | apply AGo.lpU | intro _ | (apply AGo.gD; rfl; rfl; rfl) | (apply AGo.condB; rfl) | (apply AGo.retN; rfl; rfl; rfl; rfl))
  all_goals first | exact ⟨congrArg B (by simp_all [noEv_pos, noEv_neg]), rfl⟩ | trace_state
end Go.Proofs.YtdihjnifoikbeaaDoor.Av.Co
