/- Cells: the walk of Right. -/
import Derived.Test.YtbfojhfiemcnpaaGreatDoorCo3
set_option linter.unusedVariables false
set_option linter.unusedSimpArgs false
set_option maxRecDepth 100000
set_option maxHeartbeats 64000000
namespace Go.Proofs.YtbfojhfiemcnpaaGreatDoor.Av
namespace Co
open Go Bt Tc Wr Bl
attribute [local irreducible] aa ACalls
variable {gl : List (Nat × List D)}
def zk (b : Bool) (dc : Int) (l : List Ev) : Int := if dM b dc l = true then 0 else 7
def G8 (b : Bool) (dc : Int) (l : List Ev) : List UInt8 := if dM b dc l = true then iO b dc l else []
theorem uH (b : Bool) (dc : Int) (l : List Ev) : decide (zk b dc l = 0) = dM b dc l := by
 unfold zk
 cases dM b dc l <;> rfl
theorem og (b : Bool) (dc : Int) (l : List Ev) (h : oG l) : ACalls (cxg gtc) 91 [.ptr 0 0, B b, I dc, .d (.sl 3 (bG l))] (WO []) (fun r H => r = I (zk b dc l) ∧ H = WO (G8 b dc l)) := by
 unfold zk G8
 cases hm : dM b dc l with
 | true => exact eC [] b dc l h.2 hm rfl (by simp)
 | false => exact DT [] b dc l h.1 h.2 hm
attribute [local irreducible] bG zk G8 dM bg bR rY cT zo jV
theorem y9 (b : Bool) (c : Cel) (ok : lu c) : ACalls (cxg gtc) 79 [B b, .d (lH c)] [] (fun r H => r = B (dE b c) ∧ H = []) := by
 have bc := Lp (gl := gtc) c
 have vc := Eb (gl := gtc) c ok.x ok.y
 have ic := wZ (gl := gtc) c.kind
 have sc := u9 (gl := gtc) c.kind
 have tc := Bg (gl := gtc) c.step
 have p0 := og (aK c.kind) c.d0 c.e0 ok.e0
 have p1 := og (aK c.kind) c.d1 c.e1 ok.e1
 have p2 := og (aK c.kind) c.d2 c.e2 ok.e2
 have p3 := og (aK c.kind) c.d3 c.e3 ok.e3
 have p4 := og (aK c.kind) c.d4 c.e4 ok.e4
 have p5 := og (aK c.kind) c.d5 c.e5 ok.e5
 have wn := qK (gl := gtc)
 unfold dE
 by_cases hs : c.stuff < 0 ∨ 64 < c.stuff
 ·rw [if_pos hs]
  refine ACalls.enter Tryz.func79 rfl Tryz.ntmps79 (by kernel_rfl) rfl ?_; simp only [aB, nm, Nat.reduceAdd]
  repeat' (first | refine aa.aD ?_ | refine aa.aY true ?_ | refine aa.bO ?_ | refine aa.ah ?_ | refine aa.af ?_ | refine aa.av ?_ | refine aa.ai ?_ | (refine aa.aP ?_; simp only [nm, nz, Nat.reduceAdd]) | refine aa.aj ?_ | refine aa.bh ?_ | refine aa.aU ?_ | refine aa.cB ?_ | refine aa.fw ?_ | refine aa.aA ?_ | apply aa.dP | apply aa.lpU | intro _ | (apply aa.gD; rfl; rfl; rfl) | (apply aa.gS; rfl; rfl; rfl) | (apply aa.jr; rfl) | refine aa.au ?_)
  all_goals first | exact ⟨rfl, rfl⟩ | omega
 ·rw [if_neg hs]
  cases hk : c.skip with
  | true =>
   simp only [if_true]
   cases b
   all_goals
    refine ACalls.enter Tryz.func79 rfl Tryz.ntmps79 (by kernel_rfl) rfl ?_; simp only [aB, nm, Nat.reduceAdd]
    repeat' (first | refine aa.aD ?_ | refine aa.aY true ?_ | refine aa.ak (bc) ?_ | refine aa.bO ?_ | refine aa.ah ?_ | refine aa.af ?_ | refine aa.av ?_ | refine aa.ai ?_ | (refine aa.aP ?_; simp only [nm, nz, Nat.reduceAdd]) | refine aa.aj ?_ | refine aa.bh ?_ | (apply aa.cBT; rfl; first | (simp only [bT]; omega) | (exact hk)) | (apply aa.cBF; rfl; first | (simp only [bF]; omega) | exact ndF rfl | (exact hk)) | (apply aa.gBT; rfl; rfl; rfl; first | (simp only [bT]; omega) | (exact hk)) | refine aa.aA ?_ | apply aa.dP | apply aa.lpU | intro _ | (apply aa.gD; rfl; rfl; rfl) | (apply aa.gS; rfl; rfl; rfl) | (apply aa.jr; rfl) | refine aa.au ?_)
    all_goals first | exact ⟨rfl, rfl⟩ | omega
  | false =>
   simp only [Bool.false_eq_true, if_false]
   unfold fU pI mK
   cases hI : aK c.kind with
   | true =>
    rw [hI] at ic p0 p1 p2 p3 p4 p5
    refine ACalls.enter Tryz.func79 rfl Tryz.ntmps79 (by kernel_rfl) rfl ?_; simp only [aB, nm, Nat.reduceAdd]
    repeat' (first | refine aa.aD ?_ | (apply aa.qA (hs := [1, 2, 4, 5, 6, 7, 8, 9, 10, 11]) (pre := [0, 3]) (n := 12); exact fun _ _ _ h => h; rfl; rfl; rfl; decide +kernel; (repeat (first | exact bX.nil _ | (apply bX.cons true; (iterate 5 rfl); first | exact True.intro | omega))); apply PGo.call (wn); (iterate 8 rfl); simp only [ny, nh, Nat.reduceAdd, Nat.reduceSub]; apply PGo.call (ic); (iterate 8 rfl); simp only [ny, nh, Nat.reduceAdd, Nat.reduceSub]; apply PGo.nil) | refine aa.aY true ?_ | (refine aa.ae [1,2] ( p0) ?_; simp only [ny, nh, Nat.reduceAdd, Nat.reduceSub]) | (refine aa.ae [3,4] ( p1) ?_; simp only [ny, nh, Nat.reduceAdd, Nat.reduceSub]) | (refine aa.ae [5,6] ( p2) ?_; simp only [ny, nh, Nat.reduceAdd, Nat.reduceSub]) | (refine aa.ae [7,8] ( p3) ?_; simp only [ny, nh, Nat.reduceAdd, Nat.reduceSub]) | (refine aa.ae [9,10] ( p4) ?_; simp only [ny, nh, Nat.reduceAdd, Nat.reduceSub]) | (refine aa.ae [11,12] ( p5) ?_; simp only [ny, nh, Nat.reduceAdd, Nat.reduceSub]) | refine aa.ak (vc) ?_ | refine aa.ak (ic) ?_ | refine aa.ak (sc) ?_ | refine aa.ak (tc) ?_ | refine aa.bO ?_ | refine aa.ah ?_ | refine aa.af ?_ | refine aa.av ?_ | refine aa.ai ?_ | (refine aa.aP ?_; simp only [nm, nz, Nat.reduceAdd]) | refine aa.aj ?_ | refine aa.bh ?_ | (apply aa.cBT; rfl; first | (simp only [bT]; omega) | (exact hk)) | (apply aa.cBF; rfl; first | (simp only [bF]; omega) | exact ndF rfl | (exact hk)) | (apply aa.gBT; rfl; rfl; rfl; first | (simp only [bT]; omega) | (exact hk)) | refine aa.aA ?_ | apply aa.dP | apply aa.lpU | intro _ | (apply aa.gD; rfl; rfl; rfl) | (apply aa.gS; rfl; rfl; rfl) | (apply aa.jr; rfl) | refine aa.au ?_)
    all_goals first | exact ⟨congrArg B (by simp_all [uH]), rfl⟩ | omega
   | false =>
    rw [hI] at ic p0 p1 p2 p3 p4 p5
    cases b with
    | false =>
     refine ACalls.enter Tryz.func79 rfl Tryz.ntmps79 (by kernel_rfl) rfl ?_; simp only [aB, nm, Nat.reduceAdd]
     repeat' (first | refine aa.aD ?_ | refine aa.aY true ?_ | refine aa.ak (vc) ?_ | refine aa.ak (ic) ?_ | refine aa.ak (sc) ?_ | refine aa.ak (tc) ?_ | refine aa.bO ?_ | refine aa.ah ?_ | refine aa.af ?_ | refine aa.av ?_ | refine aa.ai ?_ | (refine aa.aP ?_; simp only [nm, nz, Nat.reduceAdd]) | refine aa.aj ?_ | refine aa.bh ?_ | (apply aa.cBT; rfl; first | (simp only [bT]; omega) | (exact hk)) | (apply aa.cBF; rfl; first | (simp only [bF]; omega) | exact ndF rfl | (exact hk)) | (apply aa.gBT; rfl; rfl; rfl; first | (simp only [bT]; omega) | (exact hk)) | refine aa.aA ?_ | apply aa.dP | apply aa.lpU | intro _ | (apply aa.gD; rfl; rfl; rfl) | (apply aa.gS; rfl; rfl; rfl) | (apply aa.jr; rfl) | refine aa.au ?_)
     all_goals first | exact ⟨congrArg B (by simp_all), rfl⟩ | omega
    | true =>
     by_cases hkk : c.kind = 0 ∨ c.kind = 1
     ·rw [decide_eq_true hkk]
      refine ACalls.enter Tryz.func79 rfl Tryz.ntmps79 (by kernel_rfl) rfl ?_; simp only [aB, nm, Nat.reduceAdd]
      repeat' (first | refine aa.aD ?_ | (apply aa.qA (hs := [1, 2, 4, 5, 6, 7, 8, 9, 10, 11]) (pre := [0, 3]) (n := 12); exact fun _ _ _ h => h; rfl; rfl; rfl; decide +kernel; (repeat (first | exact bX.nil _ | (apply bX.cons true; (iterate 5 rfl); first | exact True.intro | omega))); apply PGo.call (wn); (iterate 8 rfl); simp only [ny, nh, Nat.reduceAdd, Nat.reduceSub]; apply PGo.call (ic); (iterate 8 rfl); simp only [ny, nh, Nat.reduceAdd, Nat.reduceSub]; apply PGo.nil) | refine aa.aY true ?_ | (refine aa.ae [1,2] ( p0) ?_; simp only [ny, nh, Nat.reduceAdd, Nat.reduceSub]) | (refine aa.ae [3,4] ( p1) ?_; simp only [ny, nh, Nat.reduceAdd, Nat.reduceSub]) | (refine aa.ae [5,6] ( p2) ?_; simp only [ny, nh, Nat.reduceAdd, Nat.reduceSub]) | (refine aa.ae [7,8] ( p3) ?_; simp only [ny, nh, Nat.reduceAdd, Nat.reduceSub]) | (refine aa.ae [9,10] ( p4) ?_; simp only [ny, nh, Nat.reduceAdd, Nat.reduceSub]) | (refine aa.ae [11,12] ( p5) ?_; simp only [ny, nh, Nat.reduceAdd, Nat.reduceSub]) | refine aa.ak (vc) ?_ | refine aa.ak (ic) ?_ | refine aa.ak (sc) ?_ | refine aa.ak (tc) ?_ | refine aa.bO ?_ | refine aa.ah ?_ | refine aa.af ?_ | refine aa.av ?_ | refine aa.ai ?_ | (refine aa.aP ?_; simp only [nm, nz, Nat.reduceAdd]) | refine aa.aj ?_ | refine aa.bh ?_ | (apply aa.cBT; rfl; first | (simp only [bT]; omega) | (exact hk)) | (apply aa.cBF; rfl; first | (simp only [bF]; omega) | exact ndF rfl | (exact hk)) | (apply aa.gBT; rfl; rfl; rfl; first | (simp only [bT]; omega) | (exact hk)) | refine aa.aA ?_ | apply aa.dP | apply aa.lpU | intro _ | (apply aa.gD; rfl; rfl; rfl) | (apply aa.gS; rfl; rfl; rfl) | (apply aa.jr; rfl) | refine aa.au ?_)
      all_goals first | omega | exact ⟨congrArg B (by simp_all [uH]), rfl⟩
     ·rw [decide_eq_false hkk]
      have hkk0 : ¬ c.kind = 0 := fun h => hkk (.inl h)
      have hkk1 : ¬ c.kind = 1 := fun h => hkk (.inr h)
      refine ACalls.enter Tryz.func79 rfl Tryz.ntmps79 (by kernel_rfl) rfl ?_; simp only [aB, nm, Nat.reduceAdd]
      repeat' (first | refine aa.aD ?_ | (apply aa.qA (hs := [1, 2, 4, 5, 6, 7, 8, 9, 10, 11]) (pre := [0, 3]) (n := 12); exact fun _ _ _ h => h; rfl; rfl; rfl; decide +kernel; (repeat (first | exact bX.nil _ | (apply bX.cons true; (iterate 5 rfl); first | exact True.intro | omega))); apply PGo.call (wn); (iterate 8 rfl); simp only [ny, nh, Nat.reduceAdd, Nat.reduceSub]; apply PGo.call (ic); (iterate 8 rfl); simp only [ny, nh, Nat.reduceAdd, Nat.reduceSub]; apply PGo.nil) | refine aa.aY true ?_ | (refine aa.ae [1,2] ( p0) ?_; simp only [ny, nh, Nat.reduceAdd, Nat.reduceSub]) | (refine aa.ae [3,4] ( p1) ?_; simp only [ny, nh, Nat.reduceAdd, Nat.reduceSub]) | (refine aa.ae [5,6] ( p2) ?_; simp only [ny, nh, Nat.reduceAdd, Nat.reduceSub]) | (refine aa.ae [7,8] ( p3) ?_; simp only [ny, nh, Nat.reduceAdd, Nat.reduceSub]) | (refine aa.ae [9,10] ( p4) ?_; simp only [ny, nh, Nat.reduceAdd, Nat.reduceSub]) | (refine aa.ae [11,12] ( p5) ?_; simp only [ny, nh, Nat.reduceAdd, Nat.reduceSub]) | refine aa.ak (vc) ?_ | refine aa.ak (ic) ?_ | refine aa.ak (sc) ?_ | refine aa.ak (tc) ?_ | refine aa.bO ?_ | refine aa.ah ?_ | refine aa.af ?_ | refine aa.av ?_ | refine aa.ai ?_ | (refine aa.aP ?_; simp only [nm, nz, Nat.reduceAdd]) | refine aa.aj ?_ | refine aa.bh ?_ | (apply aa.cBT; rfl; first | (simp only [bT]; omega) | (exact hk)) | (apply aa.cBF; rfl; first | (simp only [bF]; omega) | exact ndF rfl | (exact hk)) | (apply aa.gBT; rfl; rfl; rfl; first | (simp only [bT]; omega) | (exact hk)) | refine aa.aA ?_ | apply aa.dP | apply aa.lpU | intro _ | (apply aa.gD; rfl; rfl; rfl) | (apply aa.gS; rfl; rfl; rfl) | (apply aa.jr; rfl) | refine aa.au ?_)
      all_goals first | exact ⟨congrArg B (by simp_all [uH]), rfl⟩ | omega
end Co
end Go.Proofs.YtbfojhfiemcnpaaGreatDoor.Av
