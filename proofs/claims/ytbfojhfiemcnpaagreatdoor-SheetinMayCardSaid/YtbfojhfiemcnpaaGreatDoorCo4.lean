/- Cells: the walk of Right. -/
import Derived.Test.YtbfojhfiemcnpaaGreatDoorCo3
set_option linter.unusedVariables false
set_option linter.unusedSimpArgs false
set_option maxRecDepth 100000
set_option maxHeartbeats 64000000
namespace Go.Proofs.YtbfojhfiemcnpaaGreatDoor.Av
namespace Co
open Go Bt Tc Wr Bl
attribute [local irreducible] aa ACalls
variable {gl : List (Nat × List D)}
def wV (b : Bool) (dc : Int) (l : List Ev) : Int := if di b dc l = true then 0 else 7
def Es (b : Bool) (dc : Int) (l : List Ev) : List UInt8 := if di b dc l = true then iL b dc l else []
theorem rR (b : Bool) (dc : Int) (l : List Ev) : decide (wV b dc l = 0) = di b dc l := by
 unfold wV
 cases di b dc l <;> rfl
theorem lZ (b : Bool) (dc : Int) (l : List Ev) (h : nY l) : ACalls (cxg gtc) 91 [.ptr 0 0, B b, I dc, .d (.sl 3 (bg l))] (WO []) (fun r H => r = I (wV b dc l) ∧ H = WO (Es b dc l)) := by
 unfold wV Es
 cases hm : di b dc l with
 | true => exact IB [] b dc l h.2 hm rfl (by simp)
 | false => exact Bd [] b dc l h.1 h.2 hm
attribute [local irreducible] bg wV Es di aS bJ qN cE wZ lH
theorem D9 (b : Bool) (c : Cel) (ok : nZ c) : ACalls (cxg gtc) 79 [B b, .d (jm c)] [] (fun r H => r = B (eu b c) ∧ H = []) := by
 have bc := IE (gl := gtc) c
 have vc := Bu (gl := gtc) c ok.x ok.y
 have ic := zm (gl := gtc) c.kind
 have sc := Aa (gl := gtc) c.kind
 have tc := EW (gl := gtc) c.step
 have p0 := lZ (aH c.kind) c.d0 c.e0 ok.e0
 have p1 := lZ (aH c.kind) c.d1 c.e1 ok.e1
 have p2 := lZ (aH c.kind) c.d2 c.e2 ok.e2
 have p3 := lZ (aH c.kind) c.d3 c.e3 ok.e3
 have p4 := lZ (aH c.kind) c.d4 c.e4 ok.e4
 have p5 := lZ (aH c.kind) c.d5 c.e5 ok.e5
 have wn := xk (gl := gtc)
 unfold eu
 by_cases hs : c.stuff < 0 ∨ 64 < c.stuff
 ·rw [if_pos hs]
  refine ACalls.enter Tryz.func79 rfl Tryz.ntmps79 (by kernel_rfl) rfl ?_; simp only [au, nm, Nat.reduceAdd]
  repeat' (first | (apply aa.st; rfl) | (apply aa.q true; rfl; rfl; rfl; rfl; first | exact True.intro | omega | (simp only [tn, Int.reduceToNat]; omega)) | (apply aa.exit; rfl) | (apply aa.af; rfl; first | omega | rfl) | (apply aa.ae; rfl; omega) | (apply aa.aB; rfl) | (apply aa.ak; rfl) | (apply aa.box; (iterate 6 rfl); simp only [nm, nz, Nat.reduceAdd]) | (apply aa.aj; rfl; rfl) | (apply aa.gF; rfl; rfl; rfl; omega) | (apply aa.cBT; rfl; first | (simp only [bT]; omega)) | (apply aa.cBF; rfl; first | (simp only [bF]; omega) | exact ndF rfl) | (apply aa.gBT; rfl; rfl; rfl; first | (simp only [bT]; omega)) | (apply aa.az; rfl; rfl; rfl) | apply aa.dM | apply aa.lpU | intro _ | (apply aa.gD; rfl; rfl; rfl) | (apply aa.gS; rfl; rfl; rfl) | (apply aa.iH; rfl) | (apply aa.aC; rfl; rfl; rfl; rfl))
  all_goals first | exact ⟨rfl, rfl⟩ | omega
 ·rw [if_neg hs]
  cases hk : c.skip with
  | true =>
   simp only [if_true]
   cases b
   all_goals
    refine ACalls.enter Tryz.func79 rfl Tryz.ntmps79 (by kernel_rfl) rfl ?_; simp only [au, nm, Nat.reduceAdd]
    repeat' (first | (apply aa.st; rfl) | (apply aa.q true; rfl; rfl; rfl; rfl; first | exact True.intro | omega | (simp only [tn, Int.reduceToNat]; omega)) | (apply aa.aA (bc); (iterate 6 rfl)) | (apply aa.exit; rfl) | (apply aa.af; rfl; first | omega | rfl) | (apply aa.ae; rfl; omega) | (apply aa.aB; rfl) | (apply aa.ak; rfl) | (apply aa.box; (iterate 6 rfl); simp only [nm, nz, Nat.reduceAdd]) | (apply aa.aj; rfl; rfl) | (apply aa.gF; rfl; rfl; rfl; omega) | (apply aa.cBT; rfl; first | (simp only [bT]; omega) | (exact hk)) | (apply aa.cBF; rfl; first | (simp only [bF]; omega) | exact ndF rfl | (exact hk)) | (apply aa.gBT; rfl; rfl; rfl; first | (simp only [bT]; omega) | (exact hk)) | (apply aa.az; rfl; rfl; rfl) | apply aa.dM | apply aa.lpU | intro _ | (apply aa.gD; rfl; rfl; rfl) | (apply aa.gS; rfl; rfl; rfl) | (apply aa.iH; rfl) | (apply aa.aC; rfl; rfl; rfl; rfl))
    all_goals first | exact ⟨rfl, rfl⟩ | omega
  | false =>
   simp only [Bool.false_eq_true, if_false]
   unfold fV pY qx
   cases hI : aH c.kind with
   | true =>
    rw [hI] at ic p0 p1 p2 p3 p4 p5
    refine ACalls.enter Tryz.func79 rfl Tryz.ntmps79 (by kernel_rfl) rfl ?_; simp only [au, nm, Nat.reduceAdd]
    repeat' (first | (apply aa.st; rfl) | (apply aa.wR (hs := [1, 2, 4, 5, 6, 7, 8, 9, 10, 11]) (pre := [0, 3]) (n := 12); exact fun _ _ _ h => h; rfl; rfl; rfl; decide +kernel; (repeat (first | exact bM.nil _ | (apply bM.cons true; (iterate 5 rfl); first | exact True.intro | omega))); apply PGo.call (wn); (iterate 8 rfl); simp only [ny, nh, Nat.reduceAdd, Nat.reduceSub]; apply PGo.call (ic); (iterate 8 rfl); simp only [ny, nh, Nat.reduceAdd, Nat.reduceSub]; apply PGo.nil) | (apply aa.q true; rfl; rfl; rfl; rfl; first | exact True.intro | omega | (simp only [tn, Int.reduceToNat]; omega)) | (apply aa.ah [1,2] ( p0); (iterate 6 rfl); decide; rfl; rfl; simp only [ny, nh, Nat.reduceAdd, Nat.reduceSub]) | (apply aa.ah [3,4] ( p1); (iterate 6 rfl); decide; rfl; rfl; simp only [ny, nh, Nat.reduceAdd, Nat.reduceSub]) | (apply aa.ah [5,6] ( p2); (iterate 6 rfl); decide; rfl; rfl; simp only [ny, nh, Nat.reduceAdd, Nat.reduceSub]) | (apply aa.ah [7,8] ( p3); (iterate 6 rfl); decide; rfl; rfl; simp only [ny, nh, Nat.reduceAdd, Nat.reduceSub]) | (apply aa.ah [9,10] ( p4); (iterate 6 rfl); decide; rfl; rfl; simp only [ny, nh, Nat.reduceAdd, Nat.reduceSub]) | (apply aa.ah [11,12] ( p5); (iterate 6 rfl); decide; rfl; rfl; simp only [ny, nh, Nat.reduceAdd, Nat.reduceSub]) | (apply aa.aA (vc); (iterate 6 rfl)) | (apply aa.aA (ic); (iterate 6 rfl)) | (apply aa.aA (sc); (iterate 6 rfl)) | (apply aa.aA (tc); (iterate 6 rfl)) | (apply aa.exit; rfl) | (apply aa.af; rfl; first | omega | rfl) | (apply aa.ae; rfl; omega) | (apply aa.aB; rfl) | (apply aa.ak; rfl) | (apply aa.box; (iterate 6 rfl); simp only [nm, nz, Nat.reduceAdd]) | (apply aa.aj; rfl; rfl) | (apply aa.gF; rfl; rfl; rfl; omega) | (apply aa.cBT; rfl; first | (simp only [bT]; omega) | (exact hk)) | (apply aa.cBF; rfl; first | (simp only [bF]; omega) | exact ndF rfl | (exact hk)) | (apply aa.gBT; rfl; rfl; rfl; first | (simp only [bT]; omega) | (exact hk)) | (apply aa.az; rfl; rfl; rfl) | apply aa.dM | apply aa.lpU | intro _ | (apply aa.gD; rfl; rfl; rfl) | (apply aa.gS; rfl; rfl; rfl) | (apply aa.iH; rfl) | (apply aa.aC; rfl; rfl; rfl; rfl))
    all_goals first | exact ⟨congrArg B (by simp_all [rR]), rfl⟩ | omega
   | false =>
    rw [hI] at ic p0 p1 p2 p3 p4 p5
    cases b with
    | false =>
     refine ACalls.enter Tryz.func79 rfl Tryz.ntmps79 (by kernel_rfl) rfl ?_; simp only [au, nm, Nat.reduceAdd]
     repeat' (first | (apply aa.st; rfl) | (apply aa.q true; rfl; rfl; rfl; rfl; first | exact True.intro | omega | (simp only [tn, Int.reduceToNat]; omega)) | (apply aa.aA (vc); (iterate 6 rfl)) | (apply aa.aA (ic); (iterate 6 rfl)) | (apply aa.aA (sc); (iterate 6 rfl)) | (apply aa.aA (tc); (iterate 6 rfl)) | (apply aa.exit; rfl) | (apply aa.af; rfl; first | omega | rfl) | (apply aa.ae; rfl; omega) | (apply aa.aB; rfl) | (apply aa.ak; rfl) | (apply aa.box; (iterate 6 rfl); simp only [nm, nz, Nat.reduceAdd]) | (apply aa.aj; rfl; rfl) | (apply aa.gF; rfl; rfl; rfl; omega) | (apply aa.cBT; rfl; first | (simp only [bT]; omega) | (exact hk)) | (apply aa.cBF; rfl; first | (simp only [bF]; omega) | exact ndF rfl | (exact hk)) | (apply aa.gBT; rfl; rfl; rfl; first | (simp only [bT]; omega) | (exact hk)) | (apply aa.az; rfl; rfl; rfl) | apply aa.dM | apply aa.lpU | intro _ | (apply aa.gD; rfl; rfl; rfl) | (apply aa.gS; rfl; rfl; rfl) | (apply aa.iH; rfl) | (apply aa.aC; rfl; rfl; rfl; rfl))
     all_goals first | exact ⟨congrArg B (by simp_all), rfl⟩ | omega
    | true =>
     by_cases hkk : c.kind = 0 ∨ c.kind = 1
     ·rw [decide_eq_true hkk]
      refine ACalls.enter Tryz.func79 rfl Tryz.ntmps79 (by kernel_rfl) rfl ?_; simp only [au, nm, Nat.reduceAdd]
      repeat' (first | (apply aa.st; rfl) | (apply aa.wR (hs := [1, 2, 4, 5, 6, 7, 8, 9, 10, 11]) (pre := [0, 3]) (n := 12); exact fun _ _ _ h => h; rfl; rfl; rfl; decide +kernel; (repeat (first | exact bM.nil _ | (apply bM.cons true; (iterate 5 rfl); first | exact True.intro | omega))); apply PGo.call (wn); (iterate 8 rfl); simp only [ny, nh, Nat.reduceAdd, Nat.reduceSub]; apply PGo.call (ic); (iterate 8 rfl); simp only [ny, nh, Nat.reduceAdd, Nat.reduceSub]; apply PGo.nil) | (apply aa.q true; rfl; rfl; rfl; rfl; first | exact True.intro | omega | (simp only [tn, Int.reduceToNat]; omega)) | (apply aa.ah [1,2] ( p0); (iterate 6 rfl); decide; rfl; rfl; simp only [ny, nh, Nat.reduceAdd, Nat.reduceSub]) | (apply aa.ah [3,4] ( p1); (iterate 6 rfl); decide; rfl; rfl; simp only [ny, nh, Nat.reduceAdd, Nat.reduceSub]) | (apply aa.ah [5,6] ( p2); (iterate 6 rfl); decide; rfl; rfl; simp only [ny, nh, Nat.reduceAdd, Nat.reduceSub]) | (apply aa.ah [7,8] ( p3); (iterate 6 rfl); decide; rfl; rfl; simp only [ny, nh, Nat.reduceAdd, Nat.reduceSub]) | (apply aa.ah [9,10] ( p4); (iterate 6 rfl); decide; rfl; rfl; simp only [ny, nh, Nat.reduceAdd, Nat.reduceSub]) | (apply aa.ah [11,12] ( p5); (iterate 6 rfl); decide; rfl; rfl; simp only [ny, nh, Nat.reduceAdd, Nat.reduceSub]) | (apply aa.aA (vc); (iterate 6 rfl)) | (apply aa.aA (ic); (iterate 6 rfl)) | (apply aa.aA (sc); (iterate 6 rfl)) | (apply aa.aA (tc); (iterate 6 rfl)) | (apply aa.exit; rfl) | (apply aa.af; rfl; first | omega | rfl) | (apply aa.ae; rfl; omega) | (apply aa.aB; rfl) | (apply aa.ak; rfl) | (apply aa.box; (iterate 6 rfl); simp only [nm, nz, Nat.reduceAdd]) | (apply aa.aj; rfl; rfl) | (apply aa.gF; rfl; rfl; rfl; omega) | (apply aa.cBT; rfl; first | (simp only [bT]; omega) | (exact hk)) | (apply aa.cBF; rfl; first | (simp only [bF]; omega) | exact ndF rfl | (exact hk)) | (apply aa.gBT; rfl; rfl; rfl; first | (simp only [bT]; omega) | (exact hk)) | (apply aa.az; rfl; rfl; rfl) | apply aa.dM | apply aa.lpU | intro _ | (apply aa.gD; rfl; rfl; rfl) | (apply aa.gS; rfl; rfl; rfl) | (apply aa.iH; rfl) | (apply aa.aC; rfl; rfl; rfl; rfl))
      all_goals first | omega | exact ⟨congrArg B (by simp_all [rR]), rfl⟩
     ·rw [decide_eq_false hkk]
      have hkk0 : ¬ c.kind = 0 := fun h => hkk (.inl h)
      have hkk1 : ¬ c.kind = 1 := fun h => hkk (.inr h)
      refine ACalls.enter Tryz.func79 rfl Tryz.ntmps79 (by kernel_rfl) rfl ?_; simp only [au, nm, Nat.reduceAdd]
      repeat' (first | (apply aa.st; rfl) | (apply aa.wR (hs := [1, 2, 4, 5, 6, 7, 8, 9, 10, 11]) (pre := [0, 3]) (n := 12); exact fun _ _ _ h => h; rfl; rfl; rfl; decide +kernel; (repeat (first | exact bM.nil _ | (apply bM.cons true; (iterate 5 rfl); first | exact True.intro | omega))); apply PGo.call (wn); (iterate 8 rfl); simp only [ny, nh, Nat.reduceAdd, Nat.reduceSub]; apply PGo.call (ic); (iterate 8 rfl); simp only [ny, nh, Nat.reduceAdd, Nat.reduceSub]; apply PGo.nil) | (apply aa.q true; rfl; rfl; rfl; rfl; first | exact True.intro | omega | (simp only [tn, Int.reduceToNat]; omega)) | (apply aa.ah [1,2] ( p0); (iterate 6 rfl); decide; rfl; rfl; simp only [ny, nh, Nat.reduceAdd, Nat.reduceSub]) | (apply aa.ah [3,4] ( p1); (iterate 6 rfl); decide; rfl; rfl; simp only [ny, nh, Nat.reduceAdd, Nat.reduceSub]) | (apply aa.ah [5,6] ( p2); (iterate 6 rfl); decide; rfl; rfl; simp only [ny, nh, Nat.reduceAdd, Nat.reduceSub]) | (apply aa.ah [7,8] ( p3); (iterate 6 rfl); decide; rfl; rfl; simp only [ny, nh, Nat.reduceAdd, Nat.reduceSub]) | (apply aa.ah [9,10] ( p4); (iterate 6 rfl); decide; rfl; rfl; simp only [ny, nh, Nat.reduceAdd, Nat.reduceSub]) | (apply aa.ah [11,12] ( p5); (iterate 6 rfl); decide; rfl; rfl; simp only [ny, nh, Nat.reduceAdd, Nat.reduceSub]) | (apply aa.aA (vc); (iterate 6 rfl)) | (apply aa.aA (ic); (iterate 6 rfl)) | (apply aa.aA (sc); (iterate 6 rfl)) | (apply aa.aA (tc); (iterate 6 rfl)) | (apply aa.exit; rfl) | (apply aa.af; rfl; first | omega | rfl) | (apply aa.ae; rfl; omega) | (apply aa.aB; rfl) | (apply aa.ak; rfl) | (apply aa.box; (iterate 6 rfl); simp only [nm, nz, Nat.reduceAdd]) | (apply aa.aj; rfl; rfl) | (apply aa.gF; rfl; rfl; rfl; omega) | (apply aa.cBT; rfl; first | (simp only [bT]; omega) | (exact hk)) | (apply aa.cBF; rfl; first | (simp only [bF]; omega) | exact ndF rfl | (exact hk)) | (apply aa.gBT; rfl; rfl; rfl; first | (simp only [bT]; omega) | (exact hk)) | (apply aa.az; rfl; rfl; rfl) | apply aa.dM | apply aa.lpU | intro _ | (apply aa.gD; rfl; rfl; rfl) | (apply aa.gS; rfl; rfl; rfl) | (apply aa.iH; rfl) | (apply aa.aC; rfl; rfl; rfl; rfl))
      all_goals first | exact ⟨congrArg B (by simp_all [rR]), rfl⟩ | omega
end Co
end Go.Proofs.YtbfojhfiemcnpaaGreatDoor.Av
