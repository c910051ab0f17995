/- Cells: what may be one, in parts. -/
import Derived.Test.YtbfojhfiemcnpaaGreatDoorCo1
import Derived.Test.YtbfojhfiemcnpaaGreatDoorPl
set_option linter.unusedVariables false
set_option linter.unusedSimpArgs false
set_option maxRecDepth 100000
set_option maxHeartbeats 64000000
namespace Go.Proofs.YtbfojhfiemcnpaaGreatDoor.Av
namespace Co
open Go Bt Tc Wr Bl
attribute [local irreducible] aa ACalls
variable {gl : List (Nat × List D)}
structure Cel where
 stuff : Int
 skip : Bool
 kind : Int
 step : Int
 mx : Int
 my : Int
 d0 : Int
 d1 : Int
 d2 : Int
 d3 : Int
 d4 : Int
 d5 : Int
 e0 : List Ev
 e1 : List Ev
 e2 : List Ev
 e3 : List Ev
 e4 : List Ev
 e5 : List Ev
abbrev evS (l : List Ev) : D := .sl 3 (bg l)
abbrev In (n : Int) : D := .int .i64 n
abbrev jm (c : Cel) : D := .agg [In c.stuff, .bool c.skip, In c.kind, In c.step, In c.mx, In c.my, In c.d0, In c.d1, In c.d2, In c.d3, In c.d4, In c.d5, evS c.e0, evS c.e1, evS c.e2, evS c.e3, evS c.e4, evS c.e5]
def aH (k : Int) : Bool := decide (k = 3 ∨ k = 4)
def cE (k : Int) : Bool := decide (k = 1 ∨ k = 4)
theorem zm (k : Int) : ACalls (cxg gl) 85 [I k] [] (fun r H => r = B (aH k) ∧ H = []) := by
 by_cases h : k = 3 ∨ k = 4
 ·rw [show aH k = true from decide_eq_true h]
  rcases h with rfl | rfl
  all_goals
   refine ACalls.enter Tryz.func85 rfl Tryz.ntmps85 (by kernel_rfl) rfl ?_; simp only [au, nm, Nat.reduceAdd]
   repeat' (first | (apply aa.st; rfl) | (apply aa.q true; rfl; rfl; rfl; rfl; first | exact True.intro | omega | (simp only [tn, Int.reduceToNat]; omega)) | (apply aa.aj; rfl; rfl) | (apply aa.gT; rfl; rfl; rfl; first | omega | rfl) | (apply aa.gF; rfl; rfl; rfl; omega) | (apply aa.az; rfl; rfl; rfl) | intro _ | (apply aa.aC; rfl; rfl; rfl; rfl))
   all_goals first | exact ⟨rfl, rfl⟩
 ·rw [show aH k = false from decide_eq_false h]
  refine ACalls.enter Tryz.func85 rfl Tryz.ntmps85 (by kernel_rfl) rfl ?_; simp only [au, nm, Nat.reduceAdd]
  repeat' (first | (apply aa.st; rfl) | (apply aa.q true; rfl; rfl; rfl; rfl; first | exact True.intro | omega | (simp only [tn, Int.reduceToNat]; omega)) | (apply aa.aj; rfl; rfl) | (apply aa.gT; rfl; rfl; rfl; first | omega | rfl) | (apply aa.gF; rfl; rfl; rfl; omega) | (apply aa.az; rfl; rfl; rfl) | intro _ | (apply aa.aC; rfl; rfl; rfl; rfl))
  all_goals first | exact ⟨rfl, rfl⟩ | exact ⟨congrArg B (by simp only [bF]; omega), rfl⟩
theorem Aa (k : Int) : ACalls (cxg gl) 87 [I k] [] (fun r H => r = B (cE k) ∧ H = []) := by
 by_cases h : k = 1 ∨ k = 4
 ·rw [show cE k = true from decide_eq_true h]
  rcases h with rfl | rfl
  all_goals
   refine ACalls.enter Tryz.func87 rfl Tryz.ntmps87 (by kernel_rfl) rfl ?_; simp only [au, nm, Nat.reduceAdd]
   repeat' (first | (apply aa.st; rfl) | (apply aa.q true; rfl; rfl; rfl; rfl; first | exact True.intro | omega | (simp only [tn, Int.reduceToNat]; omega)) | (apply aa.aj; rfl; rfl) | (apply aa.gT; rfl; rfl; rfl; first | omega | rfl) | (apply aa.gF; rfl; rfl; rfl; omega) | (apply aa.az; rfl; rfl; rfl) | intro _ | (apply aa.aC; rfl; rfl; rfl; rfl))
   all_goals first | exact ⟨rfl, rfl⟩
 ·rw [show cE k = false from decide_eq_false h]
  refine ACalls.enter Tryz.func87 rfl Tryz.ntmps87 (by kernel_rfl) rfl ?_; simp only [au, nm, Nat.reduceAdd]
  repeat' (first | (apply aa.st; rfl) | (apply aa.q true; rfl; rfl; rfl; rfl; first | exact True.intro | omega | (simp only [tn, Int.reduceToNat]; omega)) | (apply aa.aj; rfl; rfl) | (apply aa.gT; rfl; rfl; rfl; first | omega | rfl) | (apply aa.gF; rfl; rfl; rfl; omega) | (apply aa.az; rfl; rfl; rfl) | intro _ | (apply aa.aC; rfl; rfl; rfl; rfl))
  all_goals first | exact ⟨rfl, rfl⟩ | exact ⟨congrArg B (by simp only [bF]; omega), rfl⟩
def xL (l : List Ev) : Bool := decide (((bg l).length : Int) = 0)
def wZ (c : Cel) : Bool := (decide (c.kind = 0) && decide (c.step = 0) && decide ([c.mx, c.my] = [0, 0]) && decide ([c.d0, c.d1, c.d2, c.d3, c.d4, c.d5] = [0, 0, 0, 0, 0, 0])) && xL c.e0 && xL c.e1 && xL c.e2 && xL c.e3 && xL c.e4 && xL c.e5
attribute [local irreducible] bg
theorem IE (c : Cel) : ACalls (cxg gl) 116 [.d (jm c)] [] (fun r H => r = B (wZ c) ∧ H = []) := by
 obtain ⟨st, sk, ki, sp, mx, my, d0, d1, d2, d3, d4, d5, e0, e1, e2, e3, e4, e5⟩ := c
 unfold wZ xL
 refine ACalls.enter Tryz.func116 rfl Tryz.ntmps116 (by kernel_rfl) rfl ?_; simp only [au, nm, Nat.reduceAdd]
 repeat' (first | (apply aa.st; rfl) | (apply aa.q true; rfl; rfl; rfl; rfl; first | exact True.intro | omega | (simp only [tn, Int.reduceToNat]; omega) | (exact ⟨by omega, Nat.le_of_ble_eq_true rfl⟩)) | (apply aa.exit; rfl) | (apply aa.af; rfl; first | omega | rfl) | (apply aa.ae; rfl; omega) | (apply aa.box; (iterate 6 rfl); simp only [nm, nz, Nat.reduceAdd]) | (apply aa.build; (iterate 5 rfl); simp only [nm, nz, Nat.reduceAdd, bA, cH, AV.unD]) | (apply aa.aj; rfl; rfl) | (apply aa.az; rfl; rfl; rfl) | (apply aa.opx; (apply mU; (iterate 12 rfl)); rfl; rfl; rfl) | apply aa.dM | apply aa.lpU | intro _ | (apply aa.gD; rfl; rfl; rfl) | (apply aa.aC; rfl; rfl; rfl; rfl))
 all_goals first | exact ⟨congrArg B (by simp_all), rfl⟩
def lH (c : Cel) : Bool := if aH c.kind = true then decide ([c.mx, c.my] = [0, 0]) else decide (dz c.mx = c.mx) && decide (dz c.my = c.my)
def I64 (n : Int) : Prop := -9223372036854775808 ≤ n ∧ n ≤ 9223372036854775807
theorem Bu (c : Cel) (hx : I64 c.mx) (hy : I64 c.my) : ACalls (cxg gl) 117 [.d (jm c)] [] (fun r H => r = B (lH c) ∧ H = []) := by
 obtain ⟨st, sk, ki, sp, mx, my, d0, d1, d2, d3, d4, d5, e0, e1, e2, e3, e4, e5⟩ := c
 have ic := zm (gl := gl) ki
 have w1 := qz (gl := gl) mx hx
 have w2 := qz (gl := gl) my hy
 unfold lH
 simp only
 cases hI : aH ki with
 | true =>
  rw [hI] at ic
  refine ACalls.enter Tryz.func117 rfl Tryz.ntmps117 (by kernel_rfl) rfl ?_; simp only [au, nm, Nat.reduceAdd]
  repeat' (first | (apply aa.st; rfl) | ((first | apply aa.q true | apply aa.qq true); rfl; rfl; rfl; rfl; first | exact True.intro | omega | (simp only [tn, Int.reduceToNat]; omega)) | (apply aa.aA (ic); (iterate 6 rfl)) | (apply aa.bD (ic); (iterate 7 rfl)) | (apply aa.aY; rfl; rfl; decide +kernel) | (apply aa.aB; rfl) | (apply aa.ak; rfl) | (apply aa.box; (iterate 6 rfl); simp only [nm, nz, Nat.reduceAdd]) | (apply aa.build; (iterate 5 rfl); simp only [nm, nz, Nat.reduceAdd, bA, cH, AV.unD]) | (apply aa.aT; rfl; rfl) | (apply aa.mV; rfl; rfl; rfl) | (apply aa.opx; (apply mU; (iterate 12 rfl)); rfl; rfl; rfl) | intro _ | (apply aa.qgD; rfl; rfl; rfl) | (apply aa.aC; rfl; rfl; rfl; rfl))
  all_goals first | exact ⟨rfl, rfl⟩
 | false =>
  rw [hI] at ic
  refine ACalls.enter Tryz.func117 rfl Tryz.ntmps117 (by kernel_rfl) rfl ?_; simp only [au, nm, Nat.reduceAdd]
  repeat' (first | (apply aa.st; rfl) | ((first | apply aa.q true | apply aa.qq true); rfl; rfl; rfl; rfl; first | exact True.intro | omega | (simp only [tn, Int.reduceToNat]; omega)) | (apply aa.aA (ic); (iterate 6 rfl)) | (apply aa.bD (ic); (iterate 7 rfl)) | (apply aa.aA (w1); (iterate 6 rfl)) | (apply aa.bD (w1); (iterate 7 rfl)) | (apply aa.aA (w2); (iterate 6 rfl)) | (apply aa.bD (w2); (iterate 7 rfl)) | (apply aa.aY; rfl; rfl; decide +kernel) | (apply aa.aB; rfl) | (apply aa.ak; rfl) | (apply aa.box; (iterate 6 rfl); simp only [nm, nz, Nat.reduceAdd]) | (apply aa.build; (iterate 5 rfl); simp only [nm, nz, Nat.reduceAdd, bA, cH, AV.unD]) | (apply aa.aT; rfl; rfl) | (apply aa.mV; rfl; rfl; rfl) | intro _ | (apply aa.qgD; rfl; rfl; rfl) | (apply aa.aC; rfl; rfl; rfl; rfl))
  all_goals first | exact ⟨congrArg B (by simp_all), rfl⟩
def iM (l : List Ev) : Int := if 0 < ((bg l).length : Int) then 1 else 0
def dU (c : Cel) : Int := 32 * iM c.e0 + 16 * iM c.e1 + 8 * iM c.e2 + 4 * iM c.e3 + 2 * iM c.e4 + iM c.e5
theorem ku (l : List Ev) : 0 ≤ iM l ∧ iM l ≤ 1 := by unfold iM; split <;> omega
theorem Gr {l : List Ev} (h : 0 < ((bg l).length : Int)) : iM l = 1 := by unfold iM; rw [if_pos h]
theorem Gs {l : List Ev} (h : ¬ 0 < ((bg l).length : Int)) : iM l = 0 := by unfold iM; rw [if_neg h]
end Co
end Go.Proofs.YtbfojhfiemcnpaaGreatDoor.Av
