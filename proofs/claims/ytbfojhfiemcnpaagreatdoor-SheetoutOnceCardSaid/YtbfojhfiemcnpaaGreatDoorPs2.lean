/- Vectors that may be. Vectors that may be: motion.May. Vectors that may be: the document's answer. -/
import Derived.Test.YtbfojhfiemcnpaaGreatDoorPy2
set_option linter.unusedVariables false
set_option linter.unusedSimpArgs false
set_option maxRecDepth 100000
set_option maxHeartbeats 64000000
namespace Go.Proofs.YtbfojhfiemcnpaaGreatDoor.Av
namespace Sh
open Go Bt
attribute [local irreducible] aa ACalls
variable {gl : List (Nat × List D)}
def inS (x w : Int) : Bool := decide (0 ≤ x ∧ (x + 1) / 2 + 16 ≤ w)
theorem xJ (x w : Int) (hx : -1000000 ≤ x ∧ x ≤ 1000000) : ACalls (cxg gl) 82 [I x, I 16, I w] [] (fun r H => r = B (inS x w) ∧ H = []) := by
 unfold inS
 by_cases h0 : 0 ≤ x
 ·by_cases h1 : (x + 1) / 2 + 16 ≤ w
  ·rw [decide_eq_true ⟨h0, h1⟩]
   refine ACalls.enter Tryz.func82 rfl Tryz.ntmps82 (by kernel_rfl) rfl ?_; simp only [aB, nm, Nat.reduceAdd]
   repeat' (first | refine aa.aD ?_ | refine aa.aY true ?_ | refine aa.aj ?_ | refine aa.cN ?_ | refine aa.bh ?_ | refine aa.aA ?_ | intro _ | refine aa.au ?_)
   all_goals first | exact ⟨rfl, rfl⟩ | exact ⟨congrArg B (by simp only [bT, bF]; omega), rfl⟩ | exact ⟨congrArg B (decide_eq_true h1), rfl⟩
  ·rw [decide_eq_false (fun h => h1 h.2)]
   refine ACalls.enter Tryz.func82 rfl Tryz.ntmps82 (by kernel_rfl) rfl ?_; simp only [aB, nm, Nat.reduceAdd]
   repeat' (first | refine aa.aD ?_ | refine aa.aY true ?_ | refine aa.aj ?_ | refine aa.cN ?_ | refine aa.bh ?_ | refine aa.aA ?_ | intro _ | refine aa.au ?_)
   all_goals first | exact ⟨rfl, rfl⟩ | exact ⟨congrArg B (decide_eq_false h1), rfl⟩
 ·rw [decide_eq_false (fun h => h0 h.1)]
  refine ACalls.enter Tryz.func82 rfl Tryz.ntmps82 (by kernel_rfl) rfl ?_; simp only [aB, nm, Nat.reduceAdd]
  repeat' (first | refine aa.aD ?_ | refine aa.aY true ?_ | refine aa.aj ?_ | refine aa.cN ?_ | refine aa.bh ?_ | refine aa.aA ?_ | intro _ | refine aa.au ?_)
  all_goals first | exact ⟨rfl, rfl⟩
end Sh
namespace Sh
open Go Bt
attribute [local irreducible] aa ACalls
variable {gl : List (Nat × List D)}
def De (v : Int) : Bool := decide (-32 ≤ v ∧ v ≤ 31)
def qd (f n : Int) (p : Int × Int) : Bool := De p.1 && De p.2 && inS (32 * (n % fA f) + p.1) (fW f) && inS (32 * (n / fA f) + p.2) (fH f)
theorem Gn {f : Int} (h : fOk f = true) : 2 ≤ fA f ∧ fA f ≤ 88 ∧ 2 ≤ fD f ∧ fD f ≤ 72 := by
 have hb := uy h
 have : f = 1 ∨ f = 2 ∨ f = 3 ∨ f = 4 ∨ f = 5 ∨ f = 6 := by omega
 rcases this with rfl | rfl | rfl | rfl | rfl | rfl <;> decide
attribute [local irreducible] inS fW fH
theorem Fu (f n : Int) (p : Int × Int) (hf : fOk f = true) (hn : 0 ≤ n ∧ n < fA f * fD f) :
  ACalls (cxg gl) 45 [I f, I n, .d (pD p)] [] (fun r H => r = B (qd f n p) ∧ H = []) := by
 have hc := iQ (gl := gl) f
 have hs := wm (gl := gl) f
 rw [hf] at hs
 have hb := Gn hf
 have hw := MG f
 have hh := MJ f
 have hm : 0 ≤ fA f * fD f ∧ fA f * fD f ≤ 88 * 72 := ⟨Int.mul_nonneg (by omega) (by omega), Int.mul_le_mul (by omega) (by omega) (by omega) (by omega)⟩
 obtain ⟨d1, d2, d3, d4, d5, d6, d7, d8⟩ := vJ n (fA f) hn.1 (by omega)
 unfold qd
 generalize fA f = A at *
 generalize fD f = E at *
 have hm3 : -9223372036854775808 ≤ A * E ∧ A * E ≤ 9223372036854775807 := ⟨by omega, by omega⟩
 by_cases hx : -32 ≤ p.1 ∧ p.1 ≤ 31
 ·by_cases hy : -32 ≤ p.2 ∧ p.2 ≤ 31
  ·rw [show De p.1 = true from decide_eq_true hx, show De p.2 = true from decide_eq_true hy]
   have w1 := xJ (gl := gl) (32 * (n % A) + p.1) (fW f) (by omega)
   have w2 := xJ (gl := gl) (32 * (n / A) + p.2) (fH f) (by omega)
   generalize inS (32 * (n % A) + p.1) (fW f) = b1 at *
   generalize inS (32 * (n / A) + p.2) (fH f) = b2 at *
   cases b1
   all_goals
    refine ACalls.enter Tryz.func45 rfl Tryz.ntmps45 (by kernel_rfl) rfl ?_; simp only [aB, nm, Nat.reduceAdd]
    repeat' (first | refine aa.aD ?_ | ((first | apply aa.q true | apply aa.qq true); rfl; rfl; rfl; rfl; first | exact True.intro | omega | (simp only [tn, Int.reduceToNat]; omega) | (exact hm3) | ((refine ⟨?_, Nat.le_of_ble_eq_true rfl⟩; omega))) | refine aa.ak (hc) ?_ | refine aa.aL (hc) ?_ | refine aa.ak (hs) ?_ | refine aa.aL (hs) ?_ | refine aa.ak (w1) ?_ | refine aa.aL (w1) ?_ | refine aa.ak (w2) ?_ | refine aa.aL (w2) ?_ | refine aa.aR ?_ | refine aa.bO ?_ | refine aa.ah ?_ | refine aa.af ?_ | refine aa.av ?_ | (refine aa.aP ?_; simp only [nm, nz, Nat.reduceAdd]) | refine aa.aj ?_ | refine aa.aX ?_ | refine aa.bh ?_ | refine aa.aA ?_ | refine aa.j6 ?_ | apply aa.dP | apply aa.lpU | intro _ | (apply aa.gD; rfl; rfl; rfl) | refine aa.au ?_)
    all_goals first | exact ⟨rfl, rfl⟩ | omega
  ·rw [show De p.2 = false from decide_eq_false hy, Bool.and_false]
   refine ACalls.enter Tryz.func45 rfl Tryz.ntmps45 (by kernel_rfl) rfl ?_; simp only [aB, nm, Nat.reduceAdd]
   repeat' (first | refine aa.aD ?_ | ((first | apply aa.q true | apply aa.qq true); rfl; rfl; rfl; rfl; first | exact True.intro | omega | (simp only [tn, Int.reduceToNat]; omega) | (exact hm3) | ((refine ⟨?_, Nat.le_of_ble_eq_true rfl⟩; omega))) | refine aa.ak (hc) ?_ | refine aa.aL (hc) ?_ | refine aa.ak (hs) ?_ | refine aa.aL (hs) ?_ | refine aa.aR ?_ | refine aa.bO ?_ | refine aa.ah ?_ | refine aa.af ?_ | refine aa.av ?_ | (refine aa.aP ?_; simp only [nm, nz, Nat.reduceAdd]) | refine aa.aj ?_ | refine aa.aX ?_ | refine aa.bh ?_ | refine aa.aA ?_ | refine aa.j6 ?_ | apply aa.dP | apply aa.lpU | intro _ | (apply aa.gD; rfl; rfl; rfl) | refine aa.au ?_)
   all_goals first | exact ⟨rfl, rfl⟩ | omega
 ·rw [show De p.1 = false from decide_eq_false hx]
  refine ACalls.enter Tryz.func45 rfl Tryz.ntmps45 (by kernel_rfl) rfl ?_; simp only [aB, nm, Nat.reduceAdd]
  repeat' (first | refine aa.aD ?_ | ((first | apply aa.q true | apply aa.qq true); rfl; rfl; rfl; rfl; first | exact True.intro | omega | (simp only [tn, Int.reduceToNat]; omega) | (exact hm3) | ((refine ⟨?_, Nat.le_of_ble_eq_true rfl⟩; omega))) | refine aa.ak (hc) ?_ | refine aa.aL (hc) ?_ | refine aa.ak (hs) ?_ | refine aa.aL (hs) ?_ | refine aa.aR ?_ | refine aa.bO ?_ | refine aa.ah ?_ | refine aa.af ?_ | refine aa.av ?_ | (refine aa.aP ?_; simp only [nm, nz, Nat.reduceAdd]) | refine aa.aj ?_ | refine aa.aX ?_ | refine aa.bh ?_ | refine aa.aA ?_ | refine aa.j6 ?_ | apply aa.dP | apply aa.lpU | intro _ | (apply aa.gD; rfl; rfl; rfl) | refine aa.au ?_)
  all_goals first | exact ⟨rfl, rfl⟩ | omega
end Sh
namespace Sh
open Go Bt
attribute [local irreducible] aa ACalls
variable {gl : List (Nat × List D)}
attribute [local irreducible] inS fW fH fR fL
end Sh
end Go.Proofs.YtbfojhfiemcnpaaGreatDoor.Av
