/- mcbpc: row, Row. -/
import Derived.Test.YtbfojhfiemcnpaaGreatDoorMb1
set_option linter.unusedVariables false
set_option linter.unusedSimpArgs false
set_option maxRecDepth 100000
set_option maxHeartbeats 64000000
namespace Go.Proofs.YtbfojhfiemcnpaaGreatDoor.Av
namespace Mb
open Go Bt
attribute [local irreducible] aa ACalls
variable {gl : List (Nat × List D)}
def kG (b : Bool) (k : Int) : List UInt8 := if k < 0 ∨ 5 < k then [] else (if b = true then txI else txJ).getD k.toNat []
def eB (b : Bool) (k : Int) : List (List UInt8) := if k < 0 ∨ 5 < k then [] else (if b = true then wdI else wdJ).getD k.toNat []
def dY (b : Bool) (k c : Int) : List UInt8 := if 0 ≤ c ∧ c < (eB b k).length then (eB b k).getD c.toNat [] else []
def jW (b : Bool) (k c : Int) : Bool := decide (0 ≤ c ∧ c < ((eB b k).length : Int))
theorem kinds (k : Int) : k = 0 ∨ k = 1 ∨ k = 2 ∨ k = 3 ∨ k = 4 ∨ k = 5 ∨ (k < 0 ∨ 5 < k) := by omega
theorem wA (b : Bool) (k : Int) : dB (kG b k) (eB b k) := by
 obtain ⟨h0, h1, h2, h3, h4, h5, h6, h7, h8⟩ := xZ
 rcases kinds k with rfl | rfl | rfl | rfl | rfl | rfl | h
 all_goals cases b
 any_goals (first | exact h0 | exact h1 | exact h2 | exact h3 | exact h4 | exact h5 | exact h6 | exact h7 | exact h8)
 all_goals
  unfold kG eB
  rw [if_pos h, if_pos h]
  exact h6
theorem CU (k : Int) (h : k ≠ 3) (h4 : k ≠ 4) (h5 : k ≠ 5) : kG false k = [] := by
 rcases kinds k with rfl | rfl | rfl | rfl | rfl | rfl | h
 any_goals rfl
 any_goals omega
 unfold kG; rw [if_pos h]
theorem CR (b : Bool) (k : Int) (h : k < 0 ∨ 5 < k) : kG b k = [] := by unfold kG; rw [if_pos h]
theorem yL (b : Bool) (k : Int) : ACalls (cxg gl) 138 [B b, I k] [] (fun r H => r = S (kG b k) ∧ H = []) := by
 cases b
 ·by_cases h : k = 3 ∨ k = 4 ∨ k = 5
  ·rcases h with rfl | rfl | rfl
   all_goals
    refine ACalls.enter Tryz.func138 rfl Tryz.ntmps138 (by kernel_rfl) rfl ?_; simp only [au, nm, Nat.reduceAdd]
    repeat' (first | (apply aa.st; rfl) | (apply aa.q true; rfl; rfl; rfl; rfl; first | exact True.intro | omega | (simp only [tn, Int.reduceToNat]; omega)) | (apply aa.af; rfl; first | omega | rfl) | (apply aa.ae; rfl; omega) | (apply aa.aB; rfl) | (apply aa.ak; rfl) | intro _ | (apply aa.aC; rfl; rfl; rfl; rfl))
    all_goals first | exact ⟨rfl, rfl⟩
  ·rw [CU k (by omega) (by omega) (by omega)]
   refine ACalls.enter Tryz.func138 rfl Tryz.ntmps138 (by kernel_rfl) rfl ?_; simp only [au, nm, Nat.reduceAdd]
   repeat' (first | (apply aa.st; rfl) | (apply aa.q true; rfl; rfl; rfl; rfl; first | exact True.intro | omega | (simp only [tn, Int.reduceToNat]; omega)) | (apply aa.af; rfl; first | omega | rfl) | (apply aa.ae; rfl; omega) | (apply aa.aB; rfl) | (apply aa.ak; rfl) | intro _ | (apply aa.aC; rfl; rfl; rfl; rfl))
   all_goals first | exact ⟨rfl, rfl⟩
 ·have h : k = 0 ∨ k = 1 ∨ k = 2 ∨ k = 3 ∨ k = 4 ∨ k = 5 ∨ ((k < 0 ∨ 5 < k) ∧ kG true k = []) := by
   rcases kinds k with h | h | h | h | h | h | h
   any_goals omega
   have := CR true k h
   exact .inr (.inr (.inr (.inr (.inr (.inr ⟨h, this⟩)))))
  rcases h with rfl | rfl | rfl | rfl | rfl | rfl | ⟨h, e⟩
  any_goals rw [e]
  all_goals
   refine ACalls.enter Tryz.func138 rfl Tryz.ntmps138 (by kernel_rfl) rfl ?_; simp only [au, nm, Nat.reduceAdd]
   repeat' (first | (apply aa.st; rfl) | (apply aa.q true; rfl; rfl; rfl; rfl; first | exact True.intro | omega | (simp only [tn, Int.reduceToNat]; omega)) | (apply aa.af; rfl; first | omega | rfl) | (apply aa.ae; rfl; omega) | (apply aa.aB; rfl) | (apply aa.ak; rfl) | intro _ | (apply aa.aC; rfl; rfl; rfl; rfl))
   all_goals first | exact ⟨rfl, rfl⟩
attribute [local irreducible] kG eB gM
theorem zf (b : Bool) (k c : Int) : ACalls (cxg gsp) 119 [B b, I k, I c] [] (fun r H => r = .bG [S (dY b k c), B (jW b k c)] ∧ H = []) := by
 have f1 := wA b k
 have r1 := yL (gl := gsp) b k
 have hl := Ad (eB b k)
 unfold dB at f1
 unfold dY jW
 by_cases h : 0 ≤ c ∧ c < ((eB b k).length : Int)
 ·rw [if_pos h, decide_eq_true h]
  have g := Ae (eB b k) c.toNat (by omega)
  refine ACalls.enter Tryz.func119 rfl Tryz.ntmps119 (by kernel_rfl) rfl ?_; simp only [au, nm, Nat.reduceAdd]
  repeat' (first | (apply aa.st; rfl) | (apply aa.q true; rfl; rfl; rfl; rfl; first | exact True.intro | omega | (simp only [tn, Int.reduceToNat]; omega) | (rw [hl]; omega)) | (apply aa.ah [] ( f1); (iterate 6 rfl); decide; rfl; rfl; simp only [ny, nh, Nat.reduceAdd, Nat.reduceSub]) | (apply aa.aA (r1); (iterate 6 rfl)) | (apply aa.af; rfl; first | omega | rfl) | (apply aa.ae; rfl; omega) | (apply aa.aB; rfl) | (apply aa.aj; rfl; rfl) | (apply aa.gF; rfl; rfl; rfl; omega) | (apply aa.az; rfl; rfl; rfl) | (apply aa.fM; (iterate 7 rfl); exact g) | intro _ | (apply aa.gD; rfl; rfl; rfl) | (apply aa.aC; rfl; rfl; rfl; rfl))
  all_goals first | exact ⟨rfl, rfl⟩ | omega
 ·rw [if_neg h, decide_eq_false h]
  refine ACalls.enter Tryz.func119 rfl Tryz.ntmps119 (by kernel_rfl) rfl ?_; simp only [au, nm, Nat.reduceAdd]
  repeat' (first | (apply aa.st; rfl) | (apply aa.q true; rfl; rfl; rfl; rfl; first | exact True.intro | omega | (simp only [tn, Int.reduceToNat]; omega) | (rw [hl]; omega)) | (apply aa.ah [] ( f1); (iterate 6 rfl); decide; rfl; rfl; simp only [ny, nh, Nat.reduceAdd, Nat.reduceSub]) | (apply aa.aA (r1); (iterate 6 rfl)) | (apply aa.af; rfl; first | omega | rfl) | (apply aa.ae; rfl; omega) | (apply aa.aB; rfl) | (apply aa.aj; rfl; rfl) | (apply aa.gF; rfl; rfl; rfl; omega) | (apply aa.az; rfl; rfl; rfl) | intro _ | (apply aa.gD; rfl; rfl; rfl) | (apply aa.aC; rfl; rfl; rfl; rfl))
  all_goals first | exact ⟨rfl, rfl⟩ | omega
end Mb
end Go.Proofs.YtbfojhfiemcnpaaGreatDoor.Av
