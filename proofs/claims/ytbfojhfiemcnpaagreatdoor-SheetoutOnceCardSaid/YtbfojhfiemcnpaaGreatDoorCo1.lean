/- Numbers that wrap; the rows of steps. -/
import Derived.Test.YtbfojhfiemcnpaaGreatDoorPd
import Derived.Test.YtbfojhfiemcnpaaGreatDoorPn
set_option linter.unusedVariables false
set_option linter.unusedSimpArgs false
set_option maxRecDepth 100000
set_option maxHeartbeats 64000000
namespace Go.Proofs.YtbfojhfiemcnpaaGreatDoor.Av
namespace Co
open Go Bt
attribute [local irreducible] aa ACalls
variable {gl : List (Nat × List D)}
def bN (n : Int) : Int := (n + 32) % 64 - 32
theorem Ef (n : Int) : n.tmod 64 = if 0 ≤ n then n % 64 else -((-n) % 64) := by
 split
 ·rename_i h; exact Int.tmod_eq_emod_of_nonneg h
 ·rename_i h
  have := Int.neg_tmod (-n) 64
  rw [Int.neg_neg] at this
  rw [this, Int.tmod_eq_emod_of_nonneg (by omega)]
theorem CL (n : Int) : -63 ≤ n.tmod 64 ∧ n.tmod 64 ≤ 63 := by rw [Ef]; split <;> omega
theorem iA (n : Int) : -32 ≤ bN n ∧ bN n ≤ 31 := by unfold bN; omega
theorem ku (n : Int) (h : -9223372036854775808 ≤ n ∧ n ≤ 9223372036854775807) : ACalls (cxg gl) 90 [I n] [] (fun r H => r = I (bN n) ∧ H = []) := by
 have hb := CL n
 have e := Ef n
 refine ACalls.enter Tryz.func90 rfl Tryz.ntmps90 (by kernel_rfl) rfl ?_; simp only [aB, nm, Nat.reduceAdd]
 repeat' (first | refine aa.aD ?_ | (apply aa.q false; rfl; rfl; rfl; rfl; first | exact True.intro | omega | (simp only [tn, Int.reduceToNat]; omega) | decide) | intro _ | (apply aa.eu ; rfl) | refine aa.au ?_)
 all_goals first | exact ⟨congrArg I (by unfold bN; split at e <;> omega), rfl⟩
def ou (n : Int) : List UInt8 := if n = -1 then [48, 48] else if n = -2 then [48, 49] else if n = 1 then [49, 48] else if n = 2 then [49, 49] else []
def rY (n : Int) : Bool := decide (n = -1 ∨ n = -2 ∨ n = 1 ∨ n = 2)
theorem Bg (n : Int) : ACalls (cxg gl) 88 [I n] [] (fun r H => r = .bW [S (ou n), B (rY n)] ∧ H = []) := by
 by_cases h : n = -1 ∨ n = -2 ∨ n = 1 ∨ n = 2
 ·rcases h with rfl | rfl | rfl | rfl
  all_goals
   refine ACalls.enter Tryz.func88 rfl Tryz.ntmps88 (by kernel_rfl) rfl ?_; simp only [aB, nm, Nat.reduceAdd]
   repeat' (first | refine aa.aD ?_ | refine aa.aY true ?_ | refine aa.ah ?_ | refine aa.af ?_ | intro _ | refine aa.au ?_)
   all_goals first | exact ⟨rfl, rfl⟩
 ·unfold ou rY
  rw [if_neg (by omega), if_neg (by omega), if_neg (by omega), if_neg (by omega), decide_eq_false h]
  refine ACalls.enter Tryz.func88 rfl Tryz.ntmps88 (by kernel_rfl) rfl ?_; simp only [aB, nm, Nat.reduceAdd]
  repeat' (first | refine aa.aD ?_ | refine aa.aY true ?_ | refine aa.ah ?_ | refine aa.af ?_ | intro _ | refine aa.au ?_)
  all_goals first | exact ⟨rfl, rfl⟩ | omega
end Co
end Go.Proofs.YtbfojhfiemcnpaaGreatDoor.Av
