/- mcbpc: row, Row. -/
import Derived.Test.YtbfojhfiemcnpaaGreatDoorMb1
set_option linter.unusedVariables false
set_option linter.unusedSimpArgs false
set_option maxRecDepth 100000
set_option maxHeartbeats 64000000
namespace Go.Proofs.YtbfojhfiemcnpaaGreatDoor.Av
namespace Mb
open Go Bt
attribute [local irreducible] aa ACalls
variable {gl : List (Nat × List D)}
def mD (b : Bool) (k : Int) : List UInt8 := if k < 0 ∨ 5 < k then [] else (if b = true then txI else txJ).getD k.toNat []
def gu (b : Bool) (k : Int) : List (List UInt8) := if k < 0 ∨ 5 < k then [] else (if b = true then wdI else wdJ).getD k.toNat []
def fV (b : Bool) (k c : Int) : List UInt8 := if 0 ≤ c ∧ c < (gu b k).length then (gu b k).getD c.toNat [] else []
def lT (b : Bool) (k c : Int) : Bool := decide (0 ≤ c ∧ c < ((gu b k).length : Int))
theorem kinds (k : Int) : k = 0 ∨ k = 1 ∨ k = 2 ∨ k = 3 ∨ k = 4 ∨ k = 5 ∨ (k < 0 ∨ 5 < k) := by omega
theorem yG (b : Bool) (k : Int) : eZ (mD b k) (gu b k) := by
 obtain ⟨h0, h1, h2, h3, h4, h5, h6, h7, h8⟩ := Az
 rcases kinds k with rfl | rfl | rfl | rfl | rfl | rfl | h
 all_goals cases b
 any_goals (first | exact h0 | exact h1 | exact h2 | exact h3 | exact h4 | exact h5 | exact h6 | exact h7 | exact h8)
 all_goals
  unfold mD gu
  rw [if_pos h, if_pos h]
  exact h6
theorem FH (k : Int) (h : k ≠ 3) (h4 : k ≠ 4) (h5 : k ≠ 5) : mD false k = [] := by
 rcases kinds k with rfl | rfl | rfl | rfl | rfl | rfl | h
 any_goals rfl
 any_goals omega
 unfold mD; rw [if_pos h]
theorem FG (b : Bool) (k : Int) (h : k < 0 ∨ 5 < k) : mD b k = [] := by unfold mD; rw [if_pos h]
theorem Bn (b : Bool) (k : Int) : ACalls (cxg gl) 138 [B b, I k] [] (fun r H => r = S (mD b k) ∧ H = []) := by
 cases b
 ·by_cases h : k = 3 ∨ k = 4 ∨ k = 5
  ·rcases h with rfl | rfl | rfl
   all_goals
    refine ACalls.enter Tryz.func138 rfl Tryz.ntmps138 (by kernel_rfl) rfl ?_; simp only [aB, nm, Nat.reduceAdd]
    repeat' (first | refine aa.aD ?_ | refine aa.aY true ?_ | refine aa.ah ?_ | refine aa.af ?_ | refine aa.av ?_ | refine aa.ai ?_ | intro _ | refine aa.au ?_)
    all_goals first | exact ⟨rfl, rfl⟩
  ·rw [FH k (by omega) (by omega) (by omega)]
   refine ACalls.enter Tryz.func138 rfl Tryz.ntmps138 (by kernel_rfl) rfl ?_; simp only [aB, nm, Nat.reduceAdd]
   repeat' (first | refine aa.aD ?_ | refine aa.aY true ?_ | refine aa.ah ?_ | refine aa.af ?_ | refine aa.av ?_ | refine aa.ai ?_ | intro _ | refine aa.au ?_)
   all_goals first | exact ⟨rfl, rfl⟩
 ·have h : k = 0 ∨ k = 1 ∨ k = 2 ∨ k = 3 ∨ k = 4 ∨ k = 5 ∨ ((k < 0 ∨ 5 < k) ∧ mD true k = []) := by
   rcases kinds k with h | h | h | h | h | h | h
   any_goals omega
   have := FG true k h
   exact .inr (.inr (.inr (.inr (.inr (.inr ⟨h, this⟩)))))
  rcases h with rfl | rfl | rfl | rfl | rfl | rfl | ⟨h, e⟩
  any_goals rw [e]
  all_goals
   refine ACalls.enter Tryz.func138 rfl Tryz.ntmps138 (by kernel_rfl) rfl ?_; simp only [aB, nm, Nat.reduceAdd]
   repeat' (first | refine aa.aD ?_ | refine aa.aY true ?_ | refine aa.ah ?_ | refine aa.af ?_ | refine aa.av ?_ | refine aa.ai ?_ | intro _ | refine aa.au ?_)
   all_goals first | exact ⟨rfl, rfl⟩
attribute [local irreducible] mD gu jf
theorem BJ (b : Bool) (k c : Int) : ACalls (cxg gsp) 119 [B b, I k, I c] [] (fun r H => r = .bW [S (fV b k c), B (lT b k c)] ∧ H = []) := by
 have f1 := yG b k
 have r1 := Bn (gl := gsp) b k
 have hl := CV (gu b k)
 unfold eZ at f1
 unfold fV lT
 by_cases h : 0 ≤ c ∧ c < ((gu b k).length : Int)
 ·rw [if_pos h, decide_eq_true h]
  have g := CX (gu b k) c.toNat (by omega)
  refine ACalls.enter Tryz.func119 rfl Tryz.ntmps119 (by kernel_rfl) rfl ?_; simp only [aB, nm, Nat.reduceAdd]
  repeat' (first | refine aa.aD ?_ | (apply aa.q true; rfl; rfl; rfl; rfl; first | exact True.intro | omega | (simp only [tn, Int.reduceToNat]; omega) | (rw [hl]; omega)) | (refine aa.ae [] ( f1) ?_; simp only [ny, nh, Nat.reduceAdd, Nat.reduceSub]) | refine aa.ak (r1) ?_ | refine aa.ah ?_ | refine aa.af ?_ | refine aa.av ?_ | refine aa.aj ?_ | refine aa.bh ?_ | refine aa.aA ?_ | (apply aa.iH; (iterate 7 rfl); exact g) | intro _ | (apply aa.gD; rfl; rfl; rfl) | refine aa.au ?_)
  all_goals first | exact ⟨rfl, rfl⟩ | omega
 ·rw [if_neg h, decide_eq_false h]
  refine ACalls.enter Tryz.func119 rfl Tryz.ntmps119 (by kernel_rfl) rfl ?_; simp only [aB, nm, Nat.reduceAdd]
  repeat' (first | refine aa.aD ?_ | (apply aa.q true; rfl; rfl; rfl; rfl; first | exact True.intro | omega | (simp only [tn, Int.reduceToNat]; omega) | (rw [hl]; omega)) | (refine aa.ae [] ( f1) ?_; simp only [ny, nh, Nat.reduceAdd, Nat.reduceSub]) | refine aa.ak (r1) ?_ | refine aa.ah ?_ | refine aa.af ?_ | refine aa.av ?_ | refine aa.aj ?_ | refine aa.bh ?_ | refine aa.aA ?_ | intro _ | (apply aa.gD; rfl; rfl; rfl) | refine aa.au ?_)
  all_goals first | exact ⟨rfl, rfl⟩ | omega
end Mb
end Go.Proofs.YtbfojhfiemcnpaaGreatDoor.Av
