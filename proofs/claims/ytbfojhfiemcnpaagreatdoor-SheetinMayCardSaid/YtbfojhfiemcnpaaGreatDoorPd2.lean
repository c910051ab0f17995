/- Contracts that hold over any tables: readers of bits. The reference's rows of bits: Show. The reference's rows of a table: begins, Take. The plain law of tables of rows: reading digit by digit. -/
import Derived.Test.YtbfojhfiemcnpaaGreatDoorPd
set_option linter.unusedVariables false
set_option linter.unusedSimpArgs false
set_option maxRecDepth 100000
set_option maxHeartbeats 64000000
namespace Go.Proofs.YtbfojhfiemcnpaaGreatDoor.Av
namespace Bt
open Go
attribute [local irreducible] aa ACalls
variable {gl : List (Nat × List D)}
abbrev Rd (s : List UInt8) (at' : Int) : aF := .cells [S s, I at']
abbrev Bj (x : Int × Int) : AV := .bG [I x.1, I x.2]
theorem vY (s : List UInt8) : ACalls (cxg gl) 7 [S s] [] (fun r H => r = .ptr 0 0 ∧ H = [Rd s 0]) := by
 refine ACalls.enter Tryz.func7 rfl Tryz.ntmps7 (by kernel_rfl) rfl ?_; simp only [au, nm, Nat.reduceAdd]
 repeat (first | (apply aa.st; rfl) | (apply aa.q true; rfl; rfl; rfl; rfl; first | exact True.intro | omega | (simp only [tn, Int.reduceToNat]; omega)) | (apply aa.box; (iterate 6 rfl); simp only [nm, nz, Nat.reduceAdd]) | (apply aa.build; (iterate 5 rfl); simp only [nm, nz, Nat.reduceAdd, bA, cH, AV.unD]))
 (apply aa.vI 1; rfl; rfl; rfl; rfl; rfl)
 exact ⟨rfl, rfl⟩
def pk1 (s : List UInt8) (p : Int) : Int × Int := if 8 * (s.length : Int) - p < 1 then (0, 2) else (dG s p, 0)
def tk1 (s : List UInt8) (p : Int) : Int := if 8 * (s.length : Int) - p < 1 then p else p + 1
theorem yX (s : List UInt8) (p : Int) (h0 : 0 ≤ p) (hs : s.length < 1000000000000000) (h1 : p ≤ 8 * (s.length : Int)) : ACalls (cxg gl) 106 [.ptr 0 0, I 1] [Rd s p] (fun r H => r = Bj (pk1 s p) ∧ H = [Rd s p]) := by
 refine ACalls.enter Tryz.func106 rfl Tryz.ntmps106 (by kernel_rfl) rfl ?_; simp only [au, nm, Nat.reduceAdd]
 by_cases hp : 8 * (s.length : Int) - p < 1
 ·repeat' (first | (apply aa.st; rfl) | ((first | apply aa.q true | apply aa.qq true); rfl; rfl; rfl; rfl; first | exact True.intro | omega | (simp only [tn, Int.reduceToNat]; omega)) | (apply aa.aY; rfl; rfl; decide +kernel) | (apply aa.exit; rfl) | (apply aa.af; rfl; first | omega | rfl) | (apply aa.ae; rfl; omega) | (apply aa.ak; rfl) | apply aa.dM | apply aa.lpU | intro _ | (apply aa.aC; rfl; rfl; rfl; rfl))
  refine ⟨?_, rfl⟩
  simp [pk1, hp]
 ·repeat' (first | (apply aa.st; rfl) | ((first | apply aa.q true | apply aa.qq true); rfl; rfl; rfl; rfl; first | exact True.intro | omega | (simp only [tn, Int.reduceToNat]; omega) | (exact ⟨wU _ _ _, by decide⟩) | (simp only [Int.zero_mul, Int.toNat_zero, Nat.zero_or, Int.toNat_natCast, Int.reduceToNat, Nat.and_one_is_mod]; omega)) | (apply aa.aY; rfl; rfl; decide +kernel) | (apply aa.exit; rfl) | (apply aa.af; rfl; first | omega | rfl) | (apply aa.ae; rfl; omega) | (apply aa.ak; rfl) | apply aa.dM | apply aa.lpU | intro _ | (apply aa.aC; rfl; rfl; rfl; rfl))
  refine ⟨?_, rfl⟩
  have b1 := wU s (p / 8).toNat (7 - p % 8).toNat
  simp only [pk1, if_neg hp, Int.zero_add, Int.add_zero, Int.zero_mul, Int.toNat_zero, Nat.zero_or, Int.toNat_natCast, Int.reduceToNat, Nat.and_one_is_mod, dG]
  revert b1
  generalize bt s (p / 8).toNat / 2 ^ (7 - p % 8).toNat = A
  intro b1
  congr 4
  omega
theorem lJ (s : List UInt8) (p : Int) (h0 : 0 ≤ p) (hs : s.length < 1000000000000000) (h1 : p ≤ 8 * (s.length : Int)) : ACalls (cxg gl) 99 [.ptr 0 0, I 1] [Rd s p] (fun r H => r = Bj (pk1 s p) ∧ H = [Rd s (tk1 s p)]) := by
 refine ACalls.enter Tryz.func99 rfl Tryz.ntmps99 (by kernel_rfl) rfl ?_; simp only [au, nm, Nat.reduceAdd]
 by_cases hp : 8 * (s.length : Int) - p < 1
 ·have e : (pk1 s p).2 = 2 := by simp [pk1, hp]
  repeat' (first | (apply aa.st; rfl) | (apply aa.q true; rfl; rfl; rfl; rfl; first | exact True.intro | omega | (simp only [tn, Int.reduceToNat]; omega)) | (apply aa.ah [0] ( yX s p h0 hs h1); (iterate 6 rfl); decide; rfl; rfl; simp only [ny, nh, Nat.reduceAdd, Nat.reduceSub]) | (apply aa.af; rfl; first | omega | rfl) | (apply aa.ae; rfl; omega) | (apply aa.store; (iterate 9 rfl); exact Nat.le_of_ble_eq_true rfl; simp only [nm, nz, Nat.reduceAdd]) | intro _ | (apply aa.aC; rfl; rfl; rfl; rfl))
  refine ⟨rfl, ?_⟩
  simp [tk1, hp]
 ·have e : (pk1 s p).2 = 0 := by simp [pk1, hp]
  repeat' (first | (apply aa.st; rfl) | (apply aa.q true; rfl; rfl; rfl; rfl; first | exact True.intro | omega | (simp only [tn, Int.reduceToNat]; omega)) | (apply aa.ah [0] ( yX s p h0 hs h1); (iterate 6 rfl); decide; rfl; rfl; simp only [ny, nh, Nat.reduceAdd, Nat.reduceSub]) | (apply aa.af; rfl; first | omega | rfl) | (apply aa.ae; rfl; omega) | (apply aa.store; (iterate 9 rfl); exact Nat.le_of_ble_eq_true rfl; simp only [nm, nz, Nat.reduceAdd]) | intro _ | (apply aa.aC; rfl; rfl; rfl; rfl))
  refine ⟨rfl, ?_⟩
  simp [tk1, hp]
theorem nV (s : List UInt8) (p : Int) : ACalls (cxg gl) 14 [.ptr 0 0] [Rd s p] (fun r H => r = I p ∧ H = [Rd s p]) := by
 refine ACalls.enter Tryz.func14 rfl Tryz.ntmps14 (by kernel_rfl) rfl ?_; simp only [au, nm, Nat.reduceAdd]
 repeat' (first | (apply aa.st; rfl) | (apply aa.q true; rfl; rfl; rfl; rfl; first | exact True.intro | omega | (simp only [tn, Int.reduceToNat]; omega)) | (apply aa.ak; rfl) | intro _ | (apply aa.aC; rfl; rfl; rfl; rfl))
 exact ⟨rfl, rfl⟩
theorem BW (s : List UInt8) (p q : Int) (hs : s.length < 1000000000000000) : ACalls (cxg gl) 8 [.ptr 0 0, I q] [Rd s p] (fun r H => r = I (if q < 0 ∨ 8 * (s.length : Int) < q then 1 else 0) ∧ H = [Rd s (if q < 0 ∨ 8 * (s.length : Int) < q then p else q)]) := by
 refine ACalls.enter Tryz.func8 rfl Tryz.ntmps8 (by kernel_rfl) rfl ?_; simp only [au, nm, Nat.reduceAdd]
 by_cases hq : q < 0 ∨ 8 * (s.length : Int) < q
 ·rw [if_pos hq, if_pos hq]
  repeat' (first | (apply aa.st; rfl) | (apply aa.q true; rfl; rfl; rfl; rfl; first | exact True.intro | omega | (simp only [tn, Int.reduceToNat]; omega)) | (apply aa.af; rfl; first | omega | rfl) | (apply aa.ae; rfl; omega) | (apply aa.aB; rfl) | (apply aa.store; (iterate 9 rfl); exact Nat.le_of_ble_eq_true rfl; simp only [nm, nz, Nat.reduceAdd]) | (apply aa.aj; rfl; rfl) | (apply aa.gF; rfl; rfl; rfl; omega) | (apply aa.az; rfl; rfl; rfl) | intro _ | (apply aa.gD; rfl; rfl; rfl) | (apply aa.aC; rfl; rfl; rfl; rfl))
  all_goals first | omega | exact ⟨rfl, rfl⟩
 ·rw [if_neg hq, if_neg hq]
  repeat' (first | (apply aa.st; rfl) | (apply aa.q true; rfl; rfl; rfl; rfl; first | exact True.intro | omega | (simp only [tn, Int.reduceToNat]; omega)) | (apply aa.af; rfl; first | omega | rfl) | (apply aa.ae; rfl; omega) | (apply aa.aB; rfl) | (apply aa.store; (iterate 9 rfl); exact Nat.le_of_ble_eq_true rfl; simp only [nm, nz, Nat.reduceAdd]) | (apply aa.aj; rfl; rfl) | (apply aa.gF; rfl; rfl; rfl; omega) | (apply aa.az; rfl; rfl; rfl) | intro _ | (apply aa.gD; rfl; rfl; rfl) | (apply aa.aC; rfl; rfl; rfl; rfl))
  all_goals first | omega | exact ⟨rfl, rfl⟩
theorem dO (s : List UInt8) (p q : Int) (hs : s.length < 1000000000000000) (h : 0 ≤ q ∧ q ≤ 8 * (s.length : Int)) : ACalls (cxg gl) 8 [.ptr 0 0, I q] [Rd s p] (fun r H => r = I 0 ∧ H = [Rd s q]) := by
 have := BW (gl := gl) s p q hs
 rwa [if_neg (by omega), if_neg (by omega)] at this
theorem BX (s : List UInt8) (p q : Int) (hs : s.length < 1000000000000000) (h : q < 0 ∨ 8 * (s.length : Int) < q) : ACalls (cxg gl) 8 [.ptr 0 0, I q] [Rd s p] (fun r H => r = I 1 ∧ H = [Rd s p]) := by
 have := BW (gl := gl) s p q hs
 rwa [if_pos h, if_pos h] at this
end Bt
namespace Bt
open Go
attribute [local irreducible] aa ACalls
variable {gl : List (Nat × List D)}
end Bt
namespace Bt
open Go
attribute [local irreducible] aa ACalls
variable {gl : List (Nat × List D)}
def iJ (w : List UInt8) : List (List UInt8) → Nat → Option Nat
 | [], _ => none
 | r :: rs, i => if r = w then some i else iJ w rs (i + 1)
attribute [local irreducible] gM
end Bt
namespace Bt
open Go
inductive RR where
 | done (i : Nat) (c : Nat) | fail | next (w : List UInt8)
def gY (rows : List (List UInt8)) (w : List UInt8) (x : UInt8) : RR :=
 match iJ (w ++ [x]) rows 0 with
 | some i => .done i (w.length + 1)
 | none => if rows.any (fun r => (w ++ [x]).isPrefixOf r) then .next (w ++ [x]) else .fail
def bR (rows : List (List UInt8)) : List UInt8 → List UInt8 → Int × Int × Nat
 | [], _ => (0, 2, 0)
 | x :: r, w => match gY rows w x with
  | .done i c => ((i : Int), 0, c)
  | .fail => (0, 3, 0)
  | .next w' => bR rows r w'
end Bt
end Go.Proofs.YtbfojhfiemcnpaaGreatDoor.Av
