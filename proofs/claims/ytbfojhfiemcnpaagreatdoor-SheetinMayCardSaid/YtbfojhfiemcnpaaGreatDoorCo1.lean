/- Numbers that wrap; the rows of steps. -/
import Derived.Test.YtbfojhfiemcnpaaGreatDoorPd
import Derived.Test.YtbfojhfiemcnpaaGreatDoorPn
set_option linter.unusedVariables false
set_option linter.unusedSimpArgs false
set_option maxRecDepth 100000
set_option maxHeartbeats 64000000
namespace Go.Proofs.YtbfojhfiemcnpaaGreatDoor.Av
namespace Co
open Go Bt
attribute [local irreducible] aa ACalls
variable {gl : List (Nat × List D)}
def dz (n : Int) : Int := (n + 32) % 64 - 32
theorem Bz (n : Int) : n.tmod 64 = if 0 ≤ n then n % 64 else -((-n) % 64) := by
 split
 ·rename_i h; exact Int.tmod_eq_emod_of_nonneg h
 ·rename_i h
  have := Int.neg_tmod (-n) 64
  rw [Int.neg_neg] at this
  rw [this, Int.tmod_eq_emod_of_nonneg (by omega)]
theorem zW (n : Int) : -63 ≤ n.tmod 64 ∧ n.tmod 64 ≤ 63 := by rw [Bz]; split <;> omega
theorem qA (n : Int) : -32 ≤ dz n ∧ dz n ≤ 31 := by unfold dz; omega
theorem qz (n : Int) (h : -9223372036854775808 ≤ n ∧ n ≤ 9223372036854775807) : ACalls (cxg gl) 90 [I n] [] (fun r H => r = I (dz n) ∧ H = []) := by
 have hb := zW n
 have e := Bz n
 refine ACalls.enter Tryz.func90 rfl Tryz.ntmps90 (by kernel_rfl) rfl ?_; simp only [au, nm, Nat.reduceAdd]
 repeat' (first | (apply aa.st; rfl) | (apply aa.q false; rfl; rfl; rfl; rfl; first | exact True.intro | omega | (simp only [tn, Int.reduceToNat]; omega) | decide) | intro _ | (apply aa.dw ; rfl) | (apply aa.aC; rfl; rfl; rfl; rfl))
 all_goals first | exact ⟨congrArg I (by unfold dz; split at e <;> omega), rfl⟩
def qM (n : Int) : List UInt8 := if n = -1 then [48, 48] else if n = -2 then [48, 49] else if n = 1 then [49, 48] else if n = 2 then [49, 49] else []
def qN (n : Int) : Bool := decide (n = -1 ∨ n = -2 ∨ n = 1 ∨ n = 2)
theorem EW (n : Int) : ACalls (cxg gl) 88 [I n] [] (fun r H => r = .bG [S (qM n), B (qN n)] ∧ H = []) := by
 by_cases h : n = -1 ∨ n = -2 ∨ n = 1 ∨ n = 2
 ·rcases h with rfl | rfl | rfl | rfl
  all_goals
   refine ACalls.enter Tryz.func88 rfl Tryz.ntmps88 (by kernel_rfl) rfl ?_; simp only [au, nm, Nat.reduceAdd]
   repeat' (first | (apply aa.st; rfl) | (apply aa.q true; rfl; rfl; rfl; rfl; first | exact True.intro | omega | (simp only [tn, Int.reduceToNat]; omega)) | (apply aa.af; rfl; first | omega | rfl) | (apply aa.ae; rfl; omega) | intro _ | (apply aa.aC; rfl; rfl; rfl; rfl))
   all_goals first | exact ⟨rfl, rfl⟩
 ·unfold qM qN
  rw [if_neg (by omega), if_neg (by omega), if_neg (by omega), if_neg (by omega), decide_eq_false h]
  refine ACalls.enter Tryz.func88 rfl Tryz.ntmps88 (by kernel_rfl) rfl ?_; simp only [au, nm, Nat.reduceAdd]
  repeat' (first | (apply aa.st; rfl) | (apply aa.q true; rfl; rfl; rfl; rfl; first | exact True.intro | omega | (simp only [tn, Int.reduceToNat]; omega)) | (apply aa.af; rfl; first | omega | rfl) | (apply aa.ae; rfl; omega) | intro _ | (apply aa.aC; rfl; rfl; rfl; rfl))
  all_goals first | exact ⟨rfl, rfl⟩ | omega
end Co
end Go.Proofs.YtbfojhfiemcnpaaGreatDoor.Av
