/- Cells: what may be one, in parts. -/
import Derived.Test.YtbfojhfiemcnpaaGreatDoorCo1
import Derived.Test.YtbfojhfiemcnpaaGreatDoorPl
set_option linter.unusedVariables false
set_option linter.unusedSimpArgs false
set_option maxRecDepth 100000
set_option maxHeartbeats 64000000
namespace Go.Proofs.YtbfojhfiemcnpaaGreatDoor.Av
namespace Co
open Go Bt Tc Wr Bl
attribute [local irreducible] aa ACalls
variable {gl : List (Nat × List D)}
structure Cel where
 stuff : Int
 skip : Bool
 kind : Int
 step : Int
 mx : Int
 my : Int
 d0 : Int
 d1 : Int
 d2 : Int
 d3 : Int
 d4 : Int
 d5 : Int
 e0 : List Ev
 e1 : List Ev
 e2 : List Ev
 e3 : List Ev
 e4 : List Ev
 e5 : List Ev
abbrev evS (l : List Ev) : D := .sl 3 (bG l)
abbrev In (n : Int) : D := .int .i64 n
abbrev lH (c : Cel) : D := .agg [In c.stuff, .bool c.skip, In c.kind, In c.step, In c.mx, In c.my, In c.d0, In c.d1, In c.d2, In c.d3, In c.d4, In c.d5, evS c.e0, evS c.e1, evS c.e2, evS c.e3, evS c.e4, evS c.e5]
def aK (k : Int) : Bool := decide (k = 3 ∨ k = 4)
def cT (k : Int) : Bool := decide (k = 1 ∨ k = 4)
theorem wZ (k : Int) : ACalls (cxg gl) 85 [I k] [] (fun r H => r = B (aK k) ∧ H = []) := by
 by_cases h : k = 3 ∨ k = 4
 ·rw [show aK k = true from decide_eq_true h]
  rcases h with rfl | rfl
  all_goals
   refine ACalls.enter Tryz.func85 rfl Tryz.ntmps85 (by kernel_rfl) rfl ?_; simp only [aB, nm, Nat.reduceAdd]
   repeat' (first | refine aa.aD ?_ | refine aa.aY true ?_ | refine aa.aj ?_ | refine aa.cN ?_ | refine aa.bh ?_ | refine aa.aA ?_ | intro _ | refine aa.au ?_)
   all_goals first | exact ⟨rfl, rfl⟩
 ·rw [show aK k = false from decide_eq_false h]
  refine ACalls.enter Tryz.func85 rfl Tryz.ntmps85 (by kernel_rfl) rfl ?_; simp only [aB, nm, Nat.reduceAdd]
  repeat' (first | refine aa.aD ?_ | refine aa.aY true ?_ | refine aa.aj ?_ | refine aa.cN ?_ | refine aa.bh ?_ | refine aa.aA ?_ | intro _ | refine aa.au ?_)
  all_goals first | exact ⟨rfl, rfl⟩ | exact ⟨congrArg B (by simp only [bF]; omega), rfl⟩
theorem u9 (k : Int) : ACalls (cxg gl) 87 [I k] [] (fun r H => r = B (cT k) ∧ H = []) := by
 by_cases h : k = 1 ∨ k = 4
 ·rw [show cT k = true from decide_eq_true h]
  rcases h with rfl | rfl
  all_goals
   refine ACalls.enter Tryz.func87 rfl Tryz.ntmps87 (by kernel_rfl) rfl ?_; simp only [aB, nm, Nat.reduceAdd]
   repeat' (first | refine aa.aD ?_ | refine aa.aY true ?_ | refine aa.aj ?_ | refine aa.cN ?_ | refine aa.bh ?_ | refine aa.aA ?_ | intro _ | refine aa.au ?_)
   all_goals first | exact ⟨rfl, rfl⟩
 ·rw [show cT k = false from decide_eq_false h]
  refine ACalls.enter Tryz.func87 rfl Tryz.ntmps87 (by kernel_rfl) rfl ?_; simp only [aB, nm, Nat.reduceAdd]
  repeat' (first | refine aa.aD ?_ | refine aa.aY true ?_ | refine aa.aj ?_ | refine aa.cN ?_ | refine aa.bh ?_ | refine aa.aA ?_ | intro _ | refine aa.au ?_)
  all_goals first | exact ⟨rfl, rfl⟩ | exact ⟨congrArg B (by simp only [bF]; omega), rfl⟩
def Ac (l : List Ev) : Bool := decide (((bG l).length : Int) = 0)
def zo (c : Cel) : Bool := (decide (c.kind = 0) && decide (c.step = 0) && decide ([c.mx, c.my] = [0, 0]) && decide ([c.d0, c.d1, c.d2, c.d3, c.d4, c.d5] = [0, 0, 0, 0, 0, 0])) && Ac c.e0 && Ac c.e1 && Ac c.e2 && Ac c.e3 && Ac c.e4 && Ac c.e5
attribute [local irreducible] bG
theorem Lp (c : Cel) : ACalls (cxg gl) 116 [.d (lH c)] [] (fun r H => r = B (zo c) ∧ H = []) := by
 obtain ⟨st, sk, ki, sp, mx, my, d0, d1, d2, d3, d4, d5, e0, e1, e2, e3, e4, e5⟩ := c
 unfold zo Ac
 refine ACalls.enter Tryz.func116 rfl Tryz.ntmps116 (by kernel_rfl) rfl ?_; simp only [aB, nm, Nat.reduceAdd]
 repeat' (first | refine aa.aD ?_ | (apply aa.q true; rfl; rfl; rfl; rfl; first | exact True.intro | omega | (simp only [tn, Int.reduceToNat]; omega) | (exact ⟨by omega, Nat.le_of_ble_eq_true rfl⟩)) | refine aa.bO ?_ | refine aa.ah ?_ | refine aa.af ?_ | (refine aa.aP ?_; simp only [nm, nz, Nat.reduceAdd]) | (refine aa.bz ?_; simp only [nm, nz, Nat.reduceAdd, bS, dF, AV.unD]) | refine aa.aj ?_ | refine aa.aA ?_ | (apply aa.opx; (apply pR; (iterate 12 rfl)); rfl; rfl; rfl) | apply aa.dP | apply aa.lpU | intro _ | (apply aa.gD; rfl; rfl; rfl) | refine aa.au ?_)
 all_goals first | exact ⟨congrArg B (by simp_all), rfl⟩
def jV (c : Cel) : Bool := if aK c.kind = true then decide ([c.mx, c.my] = [0, 0]) else decide (bN c.mx = c.mx) && decide (bN c.my = c.my)
def I64 (n : Int) : Prop := -9223372036854775808 ≤ n ∧ n ≤ 9223372036854775807
theorem Eb (c : Cel) (hx : I64 c.mx) (hy : I64 c.my) : ACalls (cxg gl) 117 [.d (lH c)] [] (fun r H => r = B (jV c) ∧ H = []) := by
 obtain ⟨st, sk, ki, sp, mx, my, d0, d1, d2, d3, d4, d5, e0, e1, e2, e3, e4, e5⟩ := c
 have ic := wZ (gl := gl) ki
 have w1 := ku (gl := gl) mx hx
 have w2 := ku (gl := gl) my hy
 unfold jV
 simp only
 cases hI : aK ki with
 | true =>
  rw [hI] at ic
  refine ACalls.enter Tryz.func117 rfl Tryz.ntmps117 (by kernel_rfl) rfl ?_; simp only [aB, nm, Nat.reduceAdd]
  repeat' (first | refine aa.aD ?_ | refine aa.aY true ?_ | refine aa.dL true ?_ | refine aa.ak (ic) ?_ | refine aa.aL (ic) ?_ | refine aa.aR ?_ | refine aa.av ?_ | refine aa.ai ?_ | (refine aa.aP ?_; simp only [nm, nz, Nat.reduceAdd]) | (refine aa.bz ?_; simp only [nm, nz, Nat.reduceAdd, bS, dF, AV.unD]) | refine aa.aX ?_ | refine aa.j6 ?_ | (apply aa.opx; (apply pR; (iterate 12 rfl)); rfl; rfl; rfl) | intro _ | (apply aa.qgD; rfl; rfl; rfl) | refine aa.au ?_)
  all_goals first | exact ⟨rfl, rfl⟩
 | false =>
  rw [hI] at ic
  refine ACalls.enter Tryz.func117 rfl Tryz.ntmps117 (by kernel_rfl) rfl ?_; simp only [aB, nm, Nat.reduceAdd]
  repeat' (first | refine aa.aD ?_ | refine aa.aY true ?_ | refine aa.dL true ?_ | refine aa.ak (ic) ?_ | refine aa.aL (ic) ?_ | refine aa.ak (w1) ?_ | refine aa.aL (w1) ?_ | refine aa.ak (w2) ?_ | refine aa.aL (w2) ?_ | refine aa.aR ?_ | refine aa.av ?_ | refine aa.ai ?_ | (refine aa.aP ?_; simp only [nm, nz, Nat.reduceAdd]) | (refine aa.bz ?_; simp only [nm, nz, Nat.reduceAdd, bS, dF, AV.unD]) | refine aa.aX ?_ | refine aa.j6 ?_ | intro _ | (apply aa.qgD; rfl; rfl; rfl) | refine aa.au ?_)
  all_goals first | exact ⟨congrArg B (by simp_all), rfl⟩
def jO (l : List Ev) : Int := if 0 < ((bG l).length : Int) then 1 else 0
def eB (c : Cel) : Int := 32 * jO c.e0 + 16 * jO c.e1 + 8 * jO c.e2 + 4 * jO c.e3 + 2 * jO c.e4 + jO c.e5
theorem l7 (l : List Ev) : 0 ≤ jO l ∧ jO l ≤ 1 := by unfold jO; split <;> omega
theorem Jn {l : List Ev} (h : 0 < ((bG l).length : Int)) : jO l = 1 := by unfold jO; rw [if_pos h]
theorem Jo {l : List Ev} (h : ¬ 0 < ((bG l).length : Int)) : jO l = 0 := by unfold jO; rw [if_neg h]
end Co
end Go.Proofs.YtbfojhfiemcnpaaGreatDoor.Av
