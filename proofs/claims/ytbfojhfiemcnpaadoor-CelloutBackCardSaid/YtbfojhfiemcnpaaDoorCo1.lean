/- Numbers that wrap; the rows of steps. -/
import Derived.Test.YtbfojhfiemcnpaaDoorPd
import Derived.Test.YtbfojhfiemcnpaaDoorPn
set_option linter.unusedSimpArgs false
set_option linter.unusedVariables false
set_option maxRecDepth 100000
namespace Go.Proofs.YtbfojhfiemcnpaaDoor.Av.Co
open Go Bt
attribute [local irreducible] AGo ACalls
variable {gl : List (Nat × List D)}
def wrapS (n : Int) : Int := (n + 32) % 64 - 32
theorem tmod64 (n : Int) : n.tmod 64 = if 0 ≤ n then n % 64 else -((-n) % 64) := by
  split
  · rename_i h; exact Int.tmod_eq_emod_of_nonneg h
  · rename_i h
    have := Int.neg_tmod (-n) 64
    rw [Int.neg_neg] at this
    rw [this, Int.tmod_eq_emod_of_nonneg (by omega)]
theorem tmod64_bd (n : Int) : -63 ≤ n.tmod 64 ∧ n.tmod 64 ≤ 63 := by rw [tmod64]; split <;> omega
theorem wrapS_bd (n : Int) : -32 ≤ wrapS n ∧ wrapS n ≤ 31 := by unfold wrapS; omega
set_option maxHeartbeats 4000000 in
theorem wrap_c (n : Int) (h : -9223372036854775808 ≤ n ∧ n ≤ 9223372036854775807) : ACalls (cxg gl) 34 [I n] [] (fun r H => r = I (wrapS n) ∧ H = []) := by
  have hb := tmod64_bd n
  have e := tmod64 n
  refine ACalls.enter Tryd.func34 rfl Tryd.ntmps34 (by kernel_rfl) rfl ?_; simp only [argEnv, Nat.reduceAdd, List.length_nil, List.length_cons]
  repeat' (first | apply AGo.seq | apply AGo.block | apply AGo.blk | apply AGo.skip | apply AGo.nil | (apply AGo.region; rfl) | (apply AGo.q false; rfl; rfl; rfl; rfl; first | exact True.intro | omega | (simp only [Int.toNat_natCast, Int.reduceToNat, IntKind.bits]; omega) | decide) | intro _ | (apply AGo.condD' ; rfl) | (apply AGo.retN; rfl; rfl; rfl; rfl))
  all_goals first | exact ⟨congrArg I (by unfold wrapS; split at e <;> omega), rfl⟩ | trace_state
def stRow (n : Int) : List UInt8 := if n = -1 then [48, 48] else if n = -2 then [48, 49] else if n = 1 then [49, 48] else if n = 2 then [49, 49] else []
def stIs (n : Int) : Bool := decide (n = -1 ∨ n = -2 ∨ n = 1 ∨ n = 2)
theorem strow_c (n : Int) : ACalls (cxg gl) 32 [I n] [] (fun r H => r = .tup [S (stRow n), B (stIs n)] ∧ H = []) := by
  by_cases h : n = -1 ∨ n = -2 ∨ n = 1 ∨ n = 2
  · rcases h with rfl | rfl | rfl | rfl
    all_goals
      refine ACalls.enter Tryd.func32 rfl Tryd.ntmps32 (by kernel_rfl) rfl ?_; simp only [argEnv, Nat.reduceAdd, List.length_nil, List.length_cons]
      repeat' (first | apply AGo.seq | apply AGo.block | apply AGo.blk | apply AGo.skip | apply AGo.nil | (apply AGo.region; rfl) | (apply AGo.q true; rfl; rfl; rfl; rfl; first | exact True.intro | omega | (simp only [Int.toNat_natCast, Int.reduceToNat, IntKind.bits]; omega)) | (apply AGo.condDT; rfl; first | omega | rfl) | (apply AGo.condDF; rfl; omega) | intro _ | (apply AGo.retN; rfl; rfl; rfl; rfl))
      all_goals first | exact ⟨rfl, rfl⟩ | trace_state
  · unfold stRow stIs
    rw [if_neg (by omega), if_neg (by omega), if_neg (by omega), if_neg (by omega), decide_eq_false h]
    refine ACalls.enter Tryd.func32 rfl Tryd.ntmps32 (by kernel_rfl) rfl ?_; simp only [argEnv, Nat.reduceAdd, List.length_nil, List.length_cons]
    repeat' (first | apply AGo.seq | apply AGo.block | apply AGo.blk | apply AGo.skip | apply AGo.nil | (apply AGo.region; rfl) | (apply AGo.q true; rfl; rfl; rfl; rfl; first | exact True.intro | omega | (simp only [Int.toNat_natCast, Int.reduceToNat, IntKind.bits]; omega)) | (apply AGo.condDT; rfl; first | omega | rfl) | (apply AGo.condDF; rfl; omega) | intro _ | (apply AGo.retN; rfl; rfl; rfl; rfl))
    all_goals first | exact ⟨rfl, rfl⟩ | (exfalso; omega) | trace_state
end Go.Proofs.YtbfojhfiemcnpaaDoor.Av.Co
