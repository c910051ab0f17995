/- Numbers that wrap; the rows of steps. -/
import Derived.Test.YtdihjnifoikbeaaDoorPd
import Derived.Test.YtdihjnifoikbeaaDoorPn
set_option linter.unusedSimpArgs false
set_option linter.unusedVariables false
set_option maxRecDepth 100000
namespace Go.Proofs.YtdihjnifoikbeaaDoor.Av.Co
open Go Bt
attribute [local irreducible] AGo ACalls
variable {gl : List (Nat × List D)}
def wrapS (n : Int) : Int := (n + 32) % 64 - 32
theorem tmod64 (n : Int) : n.tmod 64 = if 0 ≤ n then n % 64 else -((-n) % 64) := by
  split
  · rename_i h; exact Int.tmod_eq_emod_of_nonneg h
  · rename_i h
    have := Int.neg_tmod (-n) 64
    rw [Int.neg_neg] at this
    rw [this, Int.tmod_eq_emod_of_nonneg (by omega)]
theorem tmod64_bd (n : Int) : -63 ≤ n.tmod 64 ∧ n.tmod 64 ≤ 63 := by rw [tmod64]; split <;> omega
theorem wrapS_bd (n : Int) : -32 ≤ wrapS n ∧ wrapS n ≤ 31 := by unfold wrapS; omega
set_option maxHeartbeats 4000000 in
theorem wrap_c (n : Int) (h : -9223372036854775808 ≤ n ∧ n ≤ 9223372036854775807) : ACalls (cxg gl) 67 [I n] [] (fun r H => r = I (wrapS n) ∧ H = []) := by
  have hb := tmod64_bd n
  have e := tmod64 n
  refine ACalls.enter Tryd.func67 rfl Tryd.ntmps67 (by kernel_rfl) rfl ?_; simp only [argEnv, Nat.reduceAdd, List.length_nil, List.length_cons]
  repeat' (first | apply AGo.seq | apply AGo.block | apply AGo.blk | apply AGo.skip | apply AGo.nil | (apply AGo.region; rfl) | (apply AGo.q false; rfl; rfl; rfl; rfl; first | exact True.intro | omega | (simp only [Int.toNat_natCast, Int.reduceToNat, IntKind.bits]; omega) | decide) | intro _ | (apply AGo.condD' ; rfl) | (apply AGo.retN; rfl; rfl; rfl; rfl))
  all_goals first | exact ⟨congrArg I (by unfold wrapS; split at e <;> omega), rfl⟩ | trace_state
set_option maxHeartbeats 4000000 in
theorem rwrap_c (n : Int) (h : -9223372036854775808 ≤ n ∧ n ≤ 9223372036854775807) : ACalls (cxg gl) 55 [I n] [] (fun r H => r = I (wrapS n) ∧ H = []) := by
  have hb := tmod64_bd n
  have e := tmod64 n
  refine ACalls.enter Tryd.func55 rfl Tryd.ntmps55 (by kernel_rfl) rfl ?_; simp only [argEnv, Nat.reduceAdd, List.length_nil, List.length_cons]
  repeat' (first | apply AGo.seq | apply AGo.skip | apply AGo.nil | (apply AGo.region; rfl) | (apply AGo.q false; rfl; rfl; rfl; rfl; first | exact True.intro | omega | (simp only [Int.toNat_natCast, Int.reduceToNat, IntKind.bits]; omega) | decide) | intro _ | (apply AGo.condD' ; rfl) | (apply AGo.retN; rfl; rfl; rfl; rfl))
  all_goals first | exact ⟨congrArg I (by unfold wrapS; split at e <;> omega), rfl⟩ | trace_state
end Go.Proofs.YtdihjnifoikbeaaDoor.Av.Co
