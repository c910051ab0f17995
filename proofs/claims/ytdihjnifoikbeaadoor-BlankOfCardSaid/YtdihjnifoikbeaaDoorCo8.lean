/- Cells: the reference's Right, walked. -/
import Derived.Test.YtdihjnifoikbeaaDoorCo7
set_option linter.unusedSimpArgs false
set_option linter.unusedVariables false
set_option maxRecDepth 100000
namespace Go.Proofs.YtdihjnifoikbeaaDoor.Av.Co
open Go Bt Tc Wr Bl
attribute [local irreducible] AGo ACalls
variable {gl : List (Nat × List D)}
theorem st_ne (n : Int) (h : stIs n = true) : stRow n ≠ [] := by
  unfold stIs at h
  rw [decide_eq_true_eq] at h
  rcases h with rfl | rfl | rfl | rfl <;> decide
theorem st_nil (n : Int) (h : stIs n = false) : stRow n = [] := by
  unfold stIs at h
  rw [decide_eq_false_iff_not] at h
  unfold stRow
  rw [if_neg (by omega), if_neg (by omega), if_neg (by omega), if_neg (by omega)]
theorem st_0 : stIs 0 = false := rfl
theorem vec_in (x y : Int) : (decide (wrapS x = x) && decide (wrapS y = y)) = decide ((-32 ≤ x ∧ x ≤ 31) ∧ -32 ≤ y ∧ y ≤ 31) := by
  have h1 := wrapS_id x
  have h2 := wrapS_id y
  by_cases a : wrapS x = x <;> by_cases b : wrapS y = y <;> simp only [a, b, decide_true, decide_false, Bool.and_true, Bool.and_false, Bool.true_and, Bool.false_and] <;> first | (rw [decide_eq_true (by omega)]; done) | (rw [decide_eq_false (by omega)]; done) | (symm; exact decide_eq_true (by omega)) | (symm; exact decide_eq_false (by omega))
theorem vec_0 (x y : Int) : decide ([x, y] = [0, 0]) = decide (x = 0 ∧ y = 0) := by simp
attribute [local irreducible] evsD blMay stRow stIs bareS wrapS
set_option maxHeartbeats 40000000 in
theorem rr0 (b : Bool) (hb : b = true) (st : Int) (hs : ¬ (st < 0 ∨ 64 < st)) (sk : Bool) (hk : sk = false) (sp mx my d0 d1 d2 d3 d4 d5 : Int) (e0 e1 e2 e3 e4 e5 : List Ev) (ok : CelOk ⟨st, sk, 0, sp, mx, my, d0, d1, d2, d3, d4, d5, e0, e1, e2, e3, e4, e5⟩) :
    ACalls (cxg gl) 80 [B b, .d (celD ⟨st, sk, 0, sp, mx, my, d0, d1, d2, d3, d4, d5, e0, e1, e2, e3, e4, e5⟩)] [] (fun r H => r = B (rightS b ⟨st, sk, 0, sp, mx, my, d0, d1, d2, d3, d4, d5, e0, e1, e2, e3, e4, e5⟩) ∧ H = []) := by
  have ri := rintra_c (gl := gl) 0
  rw [show intraS 0 = false from rfl] at ri
  have sr := rstrow_c (gl := gl) sp ok.step
  have m0 := rbmay_c (gl := gl) false d0 e0 ok.e0.1 ok.e0.2
  have m1 := rbmay_c (gl := gl) false d1 e1 ok.e1.1 ok.e1.2
  have m2 := rbmay_c (gl := gl) false d2 e2 ok.e2.1 ok.e2.2
  have m3 := rbmay_c (gl := gl) false d3 e3 ok.e3.1 ok.e3.2
  have m4 := rbmay_c (gl := gl) false d4 e4 ok.e4.1 ok.e4.2
  have m5 := rbmay_c (gl := gl) false d5 e5 ok.e5.1 ok.e5.2
  have hR : rightS b ⟨st, sk, 0, sp, mx, my, d0, d1, d2, d3, d4, d5, e0, e1, e2, e3, e4, e5⟩ = (decide (sp = 0) && decide ((-32 ≤ mx ∧ mx ≤ 31) ∧ -32 ≤ my ∧ my ≤ 31) && (blMay false d0 e0 && blMay false d1 e1 && blMay false d2 e2 && blMay false d3 e3 && blMay false d4 e4 && blMay false d5 e5)) := by
    unfold rightS headMay stepMay vectorS blksMay
    simp only
    rw [if_neg hs, if_neg (by rw [hk]; decide), show intraS 0 = false from rfl, show steppedS 0 = false from rfl]
    simp only [Bool.false_eq_true, if_false, vec_in, Bool.false_or, hb, Bool.true_and]
    by_cases h0 : sp = 0
    · subst h0; rw [st_0]; simp
    · cases stIs sp <;> simp [h0]
  rw [hR]
  subst hb
  by_cases hS : sp = 0
  · rw [decide_eq_true hS]
    by_cases hV : (-32 ≤ mx ∧ mx ≤ 31) ∧ -32 ≤ my ∧ my ≤ 31
    · rw [decide_eq_true hV]
      refine ACalls.enter Tryd.func80 rfl Tryd.ntmps80 (by kernel_rfl) rfl ?_; simp only [argEnv, Nat.reduceAdd, List.length_nil, List.length_cons]
      repeat' (first | apply AGo.seq | apply AGo.block | apply AGo.blk | apply AGo.skip | apply AGo.nil | apply AGo.qnil | (apply AGo.region; rfl) | ((first | apply AGo.q true | apply AGo.qq true); rfl; rfl; rfl; rfl; first | exact True.intro | omega | (simp only [Int.toNat_natCast, Int.reduceToNat, IntKind.bits]; omega)) | (apply AGo.qcallP (ri); (iterate 7 rfl)) | (apply AGo.qcallP (sr); (iterate 7 rfl)) | (apply AGo.qcallP (m0); (iterate 7 rfl)) | (apply AGo.qcallP (m1); (iterate 7 rfl)) | (apply AGo.qcallP (m2); (iterate 7 rfl)) | (apply AGo.qcallP (m3); (iterate 7 rfl)) | (apply AGo.qcallP (m4); (iterate 7 rfl)) | (apply AGo.qcallP (m5); (iterate 7 rfl)) | (apply AGo.drawQ; rfl; rfl; decide +kernel) | (apply AGo.exit; rfl) | (apply AGo.condDT; rfl; first | omega | rfl) | (apply AGo.condDF; rfl; omega) | (apply AGo.condT; rfl) | (apply AGo.condF; rfl) | (apply AGo.box; (iterate 6 rfl); simp only [nm, Nat.reduceAdd, spliceA, AV.cells, D.cells]) | (apply AGo.unguard; rfl; rfl) | (apply AGo.gT; rfl; rfl; rfl; first | omega | rfl) | (apply AGo.gF; rfl; rfl; rfl; omega) | (apply AGo.cBT; rfl; first | (simp only [bT]; omega) | (exact hk)) | (apply AGo.cBF; rfl; first | (simp only [bF]; omega) | exact ndF rfl | (exact hk)) | (apply AGo.skipOp; rfl; rfl; rfl) | apply AGo.loopU | apply AGo.lpU | intro _ | (apply AGo.gD; rfl; rfl; rfl) | (apply AGo.condB; rfl) | (apply AGo.retN; rfl; rfl; rfl; rfl))
      all_goals first | exact ⟨congrArg B (by simp_all), rfl⟩ | (exfalso; omega) | trace_state
    · rw [decide_eq_false hV]
      simp only [Bool.false_and, Bool.and_false]
      refine ACalls.enter Tryd.func80 rfl Tryd.ntmps80 (by kernel_rfl) rfl ?_; simp only [argEnv, Nat.reduceAdd, List.length_nil, List.length_cons]
      repeat' (first | apply AGo.seq | apply AGo.block | apply AGo.blk | apply AGo.skip | apply AGo.nil | apply AGo.qnil | (apply AGo.region; rfl) | ((first | apply AGo.q true | apply AGo.qq true); rfl; rfl; rfl; rfl; first | exact True.intro | omega | (simp only [Int.toNat_natCast, Int.reduceToNat, IntKind.bits]; omega)) | (apply AGo.qcallP (ri); (iterate 7 rfl)) | (apply AGo.qcallP (sr); (iterate 7 rfl)) | (apply AGo.qcallP (m0); (iterate 7 rfl)) | (apply AGo.qcallP (m1); (iterate 7 rfl)) | (apply AGo.qcallP (m2); (iterate 7 rfl)) | (apply AGo.qcallP (m3); (iterate 7 rfl)) | (apply AGo.qcallP (m4); (iterate 7 rfl)) | (apply AGo.qcallP (m5); (iterate 7 rfl)) | (apply AGo.drawQ; rfl; rfl; decide +kernel) | (apply AGo.exit; rfl) | (apply AGo.condDT; rfl; first | omega | rfl) | (apply AGo.condDF; rfl; omega) | (apply AGo.condT; rfl) | (apply AGo.condF; rfl) | (apply AGo.box; (iterate 6 rfl); simp only [nm, Nat.reduceAdd, spliceA, AV.cells, D.cells]) | (apply AGo.unguard; rfl; rfl) | (apply AGo.gT; rfl; rfl; rfl; first | omega | rfl) | (apply AGo.gF; rfl; rfl; rfl; omega) | (apply AGo.cBT; rfl; first | (simp only [bT]; omega) | (exact hk)) | (apply AGo.cBF; rfl; first | (simp only [bF]; omega) | exact ndF rfl | (exact hk)) | (apply AGo.skipOp; rfl; rfl; rfl) | apply AGo.loopU | apply AGo.lpU | intro _ | (apply AGo.gD; rfl; rfl; rfl) | (apply AGo.condB; rfl) | (apply AGo.retN; rfl; rfl; rfl; rfl))
      all_goals first | exact ⟨rfl, rfl⟩ | (exfalso; omega) | (exfalso; simp_all; done) | (exfalso; simp_all; omega) | trace_state
  · rw [decide_eq_false hS]
    simp only [Bool.false_and]
    refine ACalls.enter Tryd.func80 rfl Tryd.ntmps80 (by kernel_rfl) rfl ?_; simp only [argEnv, Nat.reduceAdd, List.length_nil, List.length_cons]
    repeat' (first | apply AGo.seq | apply AGo.block | apply AGo.blk | apply AGo.skip | apply AGo.nil | apply AGo.qnil | (apply AGo.region; rfl) | ((first | apply AGo.q true | apply AGo.qq true); rfl; rfl; rfl; rfl; first | exact True.intro | omega | (simp only [Int.toNat_natCast, Int.reduceToNat, IntKind.bits]; omega)) | (apply AGo.qcallP (ri); (iterate 7 rfl)) | (apply AGo.qcallP (sr); (iterate 7 rfl)) | (apply AGo.qcallP (m0); (iterate 7 rfl)) | (apply AGo.qcallP (m1); (iterate 7 rfl)) | (apply AGo.qcallP (m2); (iterate 7 rfl)) | (apply AGo.qcallP (m3); (iterate 7 rfl)) | (apply AGo.qcallP (m4); (iterate 7 rfl)) | (apply AGo.qcallP (m5); (iterate 7 rfl)) | (apply AGo.drawQ; rfl; rfl; decide +kernel) | (apply AGo.exit; rfl) | (apply AGo.condDT; rfl; first | omega | rfl) | (apply AGo.condDF; rfl; omega) | (apply AGo.condT; rfl) | (apply AGo.condF; rfl) | (apply AGo.box; (iterate 6 rfl); simp only [nm, Nat.reduceAdd, spliceA, AV.cells, D.cells]) | (apply AGo.unguard; rfl; rfl) | (apply AGo.gT; rfl; rfl; rfl; first | omega | rfl) | (apply AGo.gF; rfl; rfl; rfl; omega) | (apply AGo.cBT; rfl; first | (simp only [bT]; omega) | (exact hk)) | (apply AGo.cBF; rfl; first | (simp only [bF]; omega) | exact ndF rfl | (exact hk)) | (apply AGo.skipOp; rfl; rfl; rfl) | apply AGo.loopU | apply AGo.lpU | intro _ | (apply AGo.gD; rfl; rfl; rfl) | (apply AGo.condB; rfl) | (apply AGo.retN; rfl; rfl; rfl; rfl))
    all_goals first | exact ⟨rfl, rfl⟩ | (exfalso; omega) | (exfalso; simp_all; done) | (exfalso; simp_all; omega) | trace_state
set_option maxHeartbeats 40000000 in
theorem rr1 (b : Bool) (hb : b = true) (st : Int) (hs : ¬ (st < 0 ∨ 64 < st)) (sk : Bool) (hk : sk = false) (sp mx my d0 d1 d2 d3 d4 d5 : Int) (e0 e1 e2 e3 e4 e5 : List Ev) (ok : CelOk ⟨st, sk, 1, sp, mx, my, d0, d1, d2, d3, d4, d5, e0, e1, e2, e3, e4, e5⟩) :
    ACalls (cxg gl) 80 [B b, .d (celD ⟨st, sk, 1, sp, mx, my, d0, d1, d2, d3, d4, d5, e0, e1, e2, e3, e4, e5⟩)] [] (fun r H => r = B (rightS b ⟨st, sk, 1, sp, mx, my, d0, d1, d2, d3, d4, d5, e0, e1, e2, e3, e4, e5⟩) ∧ H = []) := by
  have ri := rintra_c (gl := gl) 1
  rw [show intraS 1 = false from rfl] at ri
  have sr := rstrow_c (gl := gl) sp ok.step
  have m0 := rbmay_c (gl := gl) false d0 e0 ok.e0.1 ok.e0.2
  have m1 := rbmay_c (gl := gl) false d1 e1 ok.e1.1 ok.e1.2
  have m2 := rbmay_c (gl := gl) false d2 e2 ok.e2.1 ok.e2.2
  have m3 := rbmay_c (gl := gl) false d3 e3 ok.e3.1 ok.e3.2
  have m4 := rbmay_c (gl := gl) false d4 e4 ok.e4.1 ok.e4.2
  have m5 := rbmay_c (gl := gl) false d5 e5 ok.e5.1 ok.e5.2
  have hR : rightS b ⟨st, sk, 1, sp, mx, my, d0, d1, d2, d3, d4, d5, e0, e1, e2, e3, e4, e5⟩ = (stIs sp && decide ((-32 ≤ mx ∧ mx ≤ 31) ∧ -32 ≤ my ∧ my ≤ 31) && (blMay false d0 e0 && blMay false d1 e1 && blMay false d2 e2 && blMay false d3 e3 && blMay false d4 e4 && blMay false d5 e5)) := by
    unfold rightS headMay stepMay vectorS blksMay
    simp only
    rw [if_neg hs, if_neg (by rw [hk]; decide), show intraS 1 = false from rfl, show steppedS 1 = true from rfl]
    simp only [Bool.false_eq_true, if_false, vec_in, Bool.false_or, hb, Bool.true_and]
    cases stIs sp <;> simp
  rw [hR]
  subst hb
  cases hS : stIs sp with
  | false =>
    rw [st_nil sp hS] at sr
    simp only [Bool.false_and]
    refine ACalls.enter Tryd.func80 rfl Tryd.ntmps80 (by kernel_rfl) rfl ?_; simp only [argEnv, Nat.reduceAdd, List.length_nil, List.length_cons]
    repeat' (first | apply AGo.seq | apply AGo.block | apply AGo.blk | apply AGo.skip | apply AGo.nil | apply AGo.qnil | (apply AGo.region; rfl) | ((first | apply AGo.q true | apply AGo.qq true); rfl; rfl; rfl; rfl; first | exact True.intro | omega | (simp only [Int.toNat_natCast, Int.reduceToNat, IntKind.bits]; omega)) | (apply AGo.callP (ri); (iterate 6 rfl)) | (apply AGo.qcallP (ri); (iterate 7 rfl)) | (apply AGo.callP (sr); (iterate 6 rfl)) | (apply AGo.qcallP (sr); (iterate 7 rfl)) | (apply AGo.callP (m0); (iterate 6 rfl)) | (apply AGo.qcallP (m0); (iterate 7 rfl)) | (apply AGo.callP (m1); (iterate 6 rfl)) | (apply AGo.qcallP (m1); (iterate 7 rfl)) | (apply AGo.callP (m2); (iterate 6 rfl)) | (apply AGo.qcallP (m2); (iterate 7 rfl)) | (apply AGo.callP (m3); (iterate 6 rfl)) | (apply AGo.qcallP (m3); (iterate 7 rfl)) | (apply AGo.callP (m4); (iterate 6 rfl)) | (apply AGo.qcallP (m4); (iterate 7 rfl)) | (apply AGo.callP (m5); (iterate 6 rfl)) | (apply AGo.qcallP (m5); (iterate 7 rfl)) | (apply AGo.drawQ; rfl; rfl; decide +kernel) | (apply AGo.exit; rfl) | (apply AGo.condDT; rfl; first | omega | rfl) | (apply AGo.condDF; rfl; omega) | (apply AGo.condT; rfl) | (apply AGo.condF; rfl) | (apply AGo.box; (iterate 6 rfl); simp only [nm, Nat.reduceAdd, spliceA, AV.cells, D.cells]) | (apply AGo.unguard; rfl; rfl) | (apply AGo.gT; rfl; rfl; rfl; first | omega | rfl) | (apply AGo.gF; rfl; rfl; rfl; omega) | (apply AGo.cBF; rfl; first | (simp only [bF]; omega) | exact ndF rfl | (exact hk)) | (apply AGo.skipOp; rfl; rfl; rfl) | apply AGo.loopU | apply AGo.lpU | intro _ | (apply AGo.gD; rfl; rfl; rfl) | (apply AGo.condB; rfl) | (apply AGo.retN; rfl; rfl; rfl; rfl))
    all_goals first | exact ⟨rfl, rfl⟩ | (exfalso; omega) | (exfalso; simp_all; done) | (exfalso; simp_all; omega) | trace_state
  | true =>
    have hne := st_ne sp hS
    by_cases hV : (-32 ≤ mx ∧ mx ≤ 31) ∧ -32 ≤ my ∧ my ≤ 31
    · rw [decide_eq_true hV]
      refine ACalls.enter Tryd.func80 rfl Tryd.ntmps80 (by kernel_rfl) rfl ?_; simp only [argEnv, Nat.reduceAdd, List.length_nil, List.length_cons]
      repeat' (first | apply AGo.seq | apply AGo.block | apply AGo.blk | apply AGo.skip | apply AGo.nil | apply AGo.qnil | (apply AGo.region; rfl) | ((first | apply AGo.q true | apply AGo.qq true); rfl; rfl; rfl; rfl; first | exact True.intro | omega | (simp only [Int.toNat_natCast, Int.reduceToNat, IntKind.bits]; omega)) | (apply AGo.callP (ri); (iterate 6 rfl)) | (apply AGo.qcallP (ri); (iterate 7 rfl)) | (apply AGo.callP (sr); (iterate 6 rfl)) | (apply AGo.qcallP (sr); (iterate 7 rfl)) | (apply AGo.callP (m0); (iterate 6 rfl)) | (apply AGo.qcallP (m0); (iterate 7 rfl)) | (apply AGo.callP (m1); (iterate 6 rfl)) | (apply AGo.qcallP (m1); (iterate 7 rfl)) | (apply AGo.callP (m2); (iterate 6 rfl)) | (apply AGo.qcallP (m2); (iterate 7 rfl)) | (apply AGo.callP (m3); (iterate 6 rfl)) | (apply AGo.qcallP (m3); (iterate 7 rfl)) | (apply AGo.callP (m4); (iterate 6 rfl)) | (apply AGo.qcallP (m4); (iterate 7 rfl)) | (apply AGo.callP (m5); (iterate 6 rfl)) | (apply AGo.qcallP (m5); (iterate 7 rfl)) | (apply AGo.drawQ; rfl; rfl; decide +kernel) | (apply AGo.exit; rfl) | (apply AGo.condDT; rfl; first | omega | rfl) | (apply AGo.condDF; rfl; omega) | (apply AGo.condT; rfl) | (apply AGo.condF; rfl) | (apply AGo.box; (iterate 6 rfl); simp only [nm, Nat.reduceAdd, spliceA, AV.cells, D.cells]) | (apply AGo.unguard; rfl; rfl) | (apply AGo.gT; rfl; rfl; rfl; first | omega | rfl) | (apply AGo.gF; rfl; rfl; rfl; omega) | (apply AGo.cBF; rfl; first | (simp only [bF]; omega) | exact ndF rfl | (exact hk) | ((simp [hne]; done))) | (apply AGo.skipOp; rfl; rfl; rfl) | apply AGo.loopU | apply AGo.lpU | intro _ | (apply AGo.gD; rfl; rfl; rfl) | (apply AGo.condB; rfl) | (apply AGo.retN; rfl; rfl; rfl; rfl))
      all_goals first | exact ⟨congrArg B (by simp_all), rfl⟩ | (exfalso; omega) | trace_state
    · rw [decide_eq_false hV]
      simp only [Bool.false_and, Bool.and_false]
      refine ACalls.enter Tryd.func80 rfl Tryd.ntmps80 (by kernel_rfl) rfl ?_; simp only [argEnv, Nat.reduceAdd, List.length_nil, List.length_cons]
      repeat' (first | apply AGo.seq | apply AGo.block | apply AGo.blk | apply AGo.skip | apply AGo.nil | apply AGo.qnil | (apply AGo.region; rfl) | ((first | apply AGo.q true | apply AGo.qq true); rfl; rfl; rfl; rfl; first | exact True.intro | omega | (simp only [Int.toNat_natCast, Int.reduceToNat, IntKind.bits]; omega)) | (apply AGo.callP (ri); (iterate 6 rfl)) | (apply AGo.qcallP (ri); (iterate 7 rfl)) | (apply AGo.callP (sr); (iterate 6 rfl)) | (apply AGo.qcallP (sr); (iterate 7 rfl)) | (apply AGo.callP (m0); (iterate 6 rfl)) | (apply AGo.qcallP (m0); (iterate 7 rfl)) | (apply AGo.callP (m1); (iterate 6 rfl)) | (apply AGo.qcallP (m1); (iterate 7 rfl)) | (apply AGo.callP (m2); (iterate 6 rfl)) | (apply AGo.qcallP (m2); (iterate 7 rfl)) | (apply AGo.callP (m3); (iterate 6 rfl)) | (apply AGo.qcallP (m3); (iterate 7 rfl)) | (apply AGo.callP (m4); (iterate 6 rfl)) | (apply AGo.qcallP (m4); (iterate 7 rfl)) | (apply AGo.callP (m5); (iterate 6 rfl)) | (apply AGo.qcallP (m5); (iterate 7 rfl)) | (apply AGo.drawQ; rfl; rfl; decide +kernel) | (apply AGo.exit; rfl) | (apply AGo.condDT; rfl; first | omega | rfl) | (apply AGo.condDF; rfl; omega) | (apply AGo.condT; rfl) | (apply AGo.condF; rfl) | (apply AGo.box; (iterate 6 rfl); simp only [nm, Nat.reduceAdd, spliceA, AV.cells, D.cells]) | (apply AGo.unguard; rfl; rfl) | (apply AGo.gT; rfl; rfl; rfl; first | omega | rfl) | (apply AGo.gF; rfl; rfl; rfl; omega) | (apply AGo.cBF; rfl; first | (simp only [bF]; omega) | exact ndF rfl | (exact hk) | ((simp [hne]; done))) | (apply AGo.skipOp; rfl; rfl; rfl) | apply AGo.loopU | apply AGo.lpU | intro _ | (apply AGo.gD; rfl; rfl; rfl) | (apply AGo.condB; rfl) | (apply AGo.retN; rfl; rfl; rfl; rfl))
      all_goals first | exact ⟨rfl, rfl⟩ | (exfalso; omega) | (exfalso; simp_all; done) | (exfalso; simp_all; omega) | trace_state
set_option maxHeartbeats 40000000 in
theorem rr3 (b : Bool) (st : Int) (hs : ¬ (st < 0 ∨ 64 < st)) (sk : Bool) (hk : sk = false) (sp mx my d0 d1 d2 d3 d4 d5 : Int) (e0 e1 e2 e3 e4 e5 : List Ev) (ok : CelOk ⟨st, sk, 3, sp, mx, my, d0, d1, d2, d3, d4, d5, e0, e1, e2, e3, e4, e5⟩) :
    ACalls (cxg gl) 80 [B b, .d (celD ⟨st, sk, 3, sp, mx, my, d0, d1, d2, d3, d4, d5, e0, e1, e2, e3, e4, e5⟩)] [] (fun r H => r = B (rightS b ⟨st, sk, 3, sp, mx, my, d0, d1, d2, d3, d4, d5, e0, e1, e2, e3, e4, e5⟩) ∧ H = []) := by
  have ri := rintra_c (gl := gl) 3
  rw [show intraS 3 = true from rfl] at ri
  have sr := rstrow_c (gl := gl) sp ok.step
  have m0 := rbmay_c (gl := gl) true d0 e0 ok.e0.1 ok.e0.2
  have m1 := rbmay_c (gl := gl) true d1 e1 ok.e1.1 ok.e1.2
  have m2 := rbmay_c (gl := gl) true d2 e2 ok.e2.1 ok.e2.2
  have m3 := rbmay_c (gl := gl) true d3 e3 ok.e3.1 ok.e3.2
  have m4 := rbmay_c (gl := gl) true d4 e4 ok.e4.1 ok.e4.2
  have m5 := rbmay_c (gl := gl) true d5 e5 ok.e5.1 ok.e5.2
  have hR : rightS b ⟨st, sk, 3, sp, mx, my, d0, d1, d2, d3, d4, d5, e0, e1, e2, e3, e4, e5⟩ = (decide (sp = 0) && decide (mx = 0 ∧ my = 0) && (blMay true d0 e0 && blMay true d1 e1 && blMay true d2 e2 && blMay true d3 e3 && blMay true d4 e4 && blMay true d5 e5)) := by
    unfold rightS headMay stepMay vectorS blksMay
    simp only
    rw [if_neg hs, if_neg (by rw [hk]; decide), show intraS 3 = true from rfl, show steppedS 3 = false from rfl]
    simp only [if_true, vec_0, Bool.true_or, Bool.true_and]
    by_cases h0 : sp = 0
    · subst h0; rw [st_0]; simp
    · cases stIs sp <;> simp [h0]
  rw [hR]
  by_cases hS : sp = 0
  · rw [decide_eq_true hS]
    by_cases hV : mx = 0 ∧ my = 0
    · rw [decide_eq_true hV]
      cases b
      all_goals
        refine ACalls.enter Tryd.func80 rfl Tryd.ntmps80 (by kernel_rfl) rfl ?_; simp only [argEnv, Nat.reduceAdd, List.length_nil, List.length_cons]
        repeat' (first | apply AGo.seq | apply AGo.block | apply AGo.blk | apply AGo.skip | apply AGo.nil | apply AGo.qnil | (apply AGo.region; rfl) | ((first | apply AGo.q true | apply AGo.qq true); rfl; rfl; rfl; rfl; first | exact True.intro | omega | (simp only [Int.toNat_natCast, Int.reduceToNat, IntKind.bits]; omega)) | (apply AGo.qcallP (ri); (iterate 7 rfl)) | (apply AGo.qcallP (sr); (iterate 7 rfl)) | (apply AGo.qcallP (m0); (iterate 7 rfl)) | (apply AGo.qcallP (m1); (iterate 7 rfl)) | (apply AGo.qcallP (m2); (iterate 7 rfl)) | (apply AGo.qcallP (m3); (iterate 7 rfl)) | (apply AGo.qcallP (m4); (iterate 7 rfl)) | (apply AGo.qcallP (m5); (iterate 7 rfl)) | (apply AGo.drawQ; rfl; rfl; decide +kernel) | (apply AGo.exit; rfl) | (apply AGo.condDT; rfl; first | omega | rfl) | (apply AGo.condDF; rfl; omega) | (apply AGo.condT; rfl) | (apply AGo.condF; rfl) | (apply AGo.box; (iterate 6 rfl); simp only [nm, Nat.reduceAdd, spliceA, AV.cells, D.cells]) | (apply AGo.unguard; rfl; rfl) | (apply AGo.gF; rfl; rfl; rfl; omega) | (apply AGo.cBT; rfl; first | (simp only [bT]; omega) | (exact hk)) | (apply AGo.cBF; rfl; first | (simp only [bF]; omega) | exact ndF rfl | (exact hk)) | (apply AGo.skipOp; rfl; rfl; rfl) | apply AGo.loopU | apply AGo.lpU | intro _ | (apply AGo.gD; rfl; rfl; rfl) | (apply AGo.condB; rfl) | (apply AGo.retN; rfl; rfl; rfl; rfl))
        all_goals first | exact ⟨congrArg B (by simp_all), rfl⟩ | (exfalso; omega) | trace_state
    · rw [decide_eq_false hV]
      simp only [Bool.false_and, Bool.and_false]
      cases b
      all_goals
        refine ACalls.enter Tryd.func80 rfl Tryd.ntmps80 (by kernel_rfl) rfl ?_; simp only [argEnv, Nat.reduceAdd, List.length_nil, List.length_cons]
        repeat' (first | apply AGo.seq | apply AGo.block | apply AGo.blk | apply AGo.skip | apply AGo.nil | apply AGo.qnil | (apply AGo.region; rfl) | ((first | apply AGo.q true | apply AGo.qq true); rfl; rfl; rfl; rfl; first | exact True.intro | omega | (simp only [Int.toNat_natCast, Int.reduceToNat, IntKind.bits]; omega)) | (apply AGo.qcallP (ri); (iterate 7 rfl)) | (apply AGo.qcallP (sr); (iterate 7 rfl)) | (apply AGo.qcallP (m0); (iterate 7 rfl)) | (apply AGo.qcallP (m1); (iterate 7 rfl)) | (apply AGo.qcallP (m2); (iterate 7 rfl)) | (apply AGo.qcallP (m3); (iterate 7 rfl)) | (apply AGo.qcallP (m4); (iterate 7 rfl)) | (apply AGo.qcallP (m5); (iterate 7 rfl)) | (apply AGo.drawQ; rfl; rfl; decide +kernel) | (apply AGo.exit; rfl) | (apply AGo.condDT; rfl; first | omega | rfl) | (apply AGo.condDF; rfl; omega) | (apply AGo.condT; rfl) | (apply AGo.condF; rfl) | (apply AGo.box; (iterate 6 rfl); simp only [nm, Nat.reduceAdd, spliceA, AV.cells, D.cells]) | (apply AGo.unguard; rfl; rfl) | (apply AGo.gF; rfl; rfl; rfl; omega) | (apply AGo.cBT; rfl; first | (simp only [bT]; omega) | (exact hk)) | (apply AGo.cBF; rfl; first | (simp only [bF]; omega) | exact ndF rfl | (exact hk)) | (apply AGo.skipOp; rfl; rfl; rfl) | apply AGo.loopU | apply AGo.lpU | intro _ | (apply AGo.gD; rfl; rfl; rfl) | (apply AGo.condB; rfl) | (apply AGo.retN; rfl; rfl; rfl; rfl))
        all_goals first | exact ⟨rfl, rfl⟩ | (exfalso; omega) | (exfalso; simp_all; done) | (exfalso; simp_all; omega) | trace_state
  · rw [decide_eq_false hS]
    simp only [Bool.false_and]
    cases b
    all_goals
      refine ACalls.enter Tryd.func80 rfl Tryd.ntmps80 (by kernel_rfl) rfl ?_; simp only [argEnv, Nat.reduceAdd, List.length_nil, List.length_cons]
      repeat' (first | apply AGo.seq | apply AGo.block | apply AGo.blk | apply AGo.skip | apply AGo.nil | apply AGo.qnil | (apply AGo.region; rfl) | ((first | apply AGo.q true | apply AGo.qq true); rfl; rfl; rfl; rfl; first | exact True.intro | omega | (simp only [Int.toNat_natCast, Int.reduceToNat, IntKind.bits]; omega)) | (apply AGo.qcallP (ri); (iterate 7 rfl)) | (apply AGo.qcallP (sr); (iterate 7 rfl)) | (apply AGo.qcallP (m0); (iterate 7 rfl)) | (apply AGo.qcallP (m1); (iterate 7 rfl)) | (apply AGo.qcallP (m2); (iterate 7 rfl)) | (apply AGo.qcallP (m3); (iterate 7 rfl)) | (apply AGo.qcallP (m4); (iterate 7 rfl)) | (apply AGo.qcallP (m5); (iterate 7 rfl)) | (apply AGo.drawQ; rfl; rfl; decide +kernel) | (apply AGo.exit; rfl) | (apply AGo.condDT; rfl; first | omega | rfl) | (apply AGo.condDF; rfl; omega) | (apply AGo.condT; rfl) | (apply AGo.condF; rfl) | (apply AGo.box; (iterate 6 rfl); simp only [nm, Nat.reduceAdd, spliceA, AV.cells, D.cells]) | (apply AGo.unguard; rfl; rfl) | (apply AGo.gF; rfl; rfl; rfl; omega) | (apply AGo.cBT; rfl; first | (simp only [bT]; omega) | (exact hk)) | (apply AGo.cBF; rfl; first | (simp only [bF]; omega) | exact ndF rfl | (exact hk)) | (apply AGo.skipOp; rfl; rfl; rfl) | apply AGo.loopU | apply AGo.lpU | intro _ | (apply AGo.gD; rfl; rfl; rfl) | (apply AGo.condB; rfl) | (apply AGo.retN; rfl; rfl; rfl; rfl))
      all_goals first | exact ⟨rfl, rfl⟩ | (exfalso; omega) | (exfalso; simp_all; done) | (exfalso; simp_all; omega) | trace_state
set_option maxHeartbeats 40000000 in
theorem rr4 (b : Bool) (st : Int) (hs : ¬ (st < 0 ∨ 64 < st)) (sk : Bool) (hk : sk = false) (sp mx my d0 d1 d2 d3 d4 d5 : Int) (e0 e1 e2 e3 e4 e5 : List Ev) (ok : CelOk ⟨st, sk, 4, sp, mx, my, d0, d1, d2, d3, d4, d5, e0, e1, e2, e3, e4, e5⟩) :
    ACalls (cxg gl) 80 [B b, .d (celD ⟨st, sk, 4, sp, mx, my, d0, d1, d2, d3, d4, d5, e0, e1, e2, e3, e4, e5⟩)] [] (fun r H => r = B (rightS b ⟨st, sk, 4, sp, mx, my, d0, d1, d2, d3, d4, d5, e0, e1, e2, e3, e4, e5⟩) ∧ H = []) := by
  have ri := rintra_c (gl := gl) 4
  rw [show intraS 4 = true from rfl] at ri
  have sr := rstrow_c (gl := gl) sp ok.step
  have m0 := rbmay_c (gl := gl) true d0 e0 ok.e0.1 ok.e0.2
  have m1 := rbmay_c (gl := gl) true d1 e1 ok.e1.1 ok.e1.2
  have m2 := rbmay_c (gl := gl) true d2 e2 ok.e2.1 ok.e2.2
  have m3 := rbmay_c (gl := gl) true d3 e3 ok.e3.1 ok.e3.2
  have m4 := rbmay_c (gl := gl) true d4 e4 ok.e4.1 ok.e4.2
  have m5 := rbmay_c (gl := gl) true d5 e5 ok.e5.1 ok.e5.2
  have hR : rightS b ⟨st, sk, 4, sp, mx, my, d0, d1, d2, d3, d4, d5, e0, e1, e2, e3, e4, e5⟩ = (stIs sp && decide (mx = 0 ∧ my = 0) && (blMay true d0 e0 && blMay true d1 e1 && blMay true d2 e2 && blMay true d3 e3 && blMay true d4 e4 && blMay true d5 e5)) := by
    unfold rightS headMay stepMay vectorS blksMay
    simp only
    rw [if_neg hs, if_neg (by rw [hk]; decide), show intraS 4 = true from rfl, show steppedS 4 = true from rfl]
    simp only [if_true, vec_0, Bool.true_or, Bool.true_and]
    cases stIs sp <;> simp
  rw [hR]
  cases hS : stIs sp with
  | false =>
    rw [st_nil sp hS] at sr
    simp only [Bool.false_and]
    cases b
    all_goals
      refine ACalls.enter Tryd.func80 rfl Tryd.ntmps80 (by kernel_rfl) rfl ?_; simp only [argEnv, Nat.reduceAdd, List.length_nil, List.length_cons]
      repeat' (first | apply AGo.seq | apply AGo.block | apply AGo.blk | apply AGo.skip | apply AGo.nil | apply AGo.qnil | (apply AGo.region; rfl) | ((first | apply AGo.q true | apply AGo.qq true); rfl; rfl; rfl; rfl; first | exact True.intro | omega | (simp only [Int.toNat_natCast, Int.reduceToNat, IntKind.bits]; omega)) | (apply AGo.callP (ri); (iterate 6 rfl)) | (apply AGo.qcallP (ri); (iterate 7 rfl)) | (apply AGo.callP (sr); (iterate 6 rfl)) | (apply AGo.qcallP (sr); (iterate 7 rfl)) | (apply AGo.callP (m0); (iterate 6 rfl)) | (apply AGo.qcallP (m0); (iterate 7 rfl)) | (apply AGo.callP (m1); (iterate 6 rfl)) | (apply AGo.qcallP (m1); (iterate 7 rfl)) | (apply AGo.callP (m2); (iterate 6 rfl)) | (apply AGo.qcallP (m2); (iterate 7 rfl)) | (apply AGo.callP (m3); (iterate 6 rfl)) | (apply AGo.qcallP (m3); (iterate 7 rfl)) | (apply AGo.callP (m4); (iterate 6 rfl)) | (apply AGo.qcallP (m4); (iterate 7 rfl)) | (apply AGo.callP (m5); (iterate 6 rfl)) | (apply AGo.qcallP (m5); (iterate 7 rfl)) | (apply AGo.drawQ; rfl; rfl; decide +kernel) | (apply AGo.exit; rfl) | (apply AGo.condDT; rfl; first | omega | rfl) | (apply AGo.condDF; rfl; omega) | (apply AGo.condT; rfl) | (apply AGo.condF; rfl) | (apply AGo.box; (iterate 6 rfl); simp only [nm, Nat.reduceAdd, spliceA, AV.cells, D.cells]) | (apply AGo.unguard; rfl; rfl) | (apply AGo.gF; rfl; rfl; rfl; omega) | (apply AGo.cBF; rfl; first | (simp only [bF]; omega) | exact ndF rfl | (exact hk)) | (apply AGo.skipOp; rfl; rfl; rfl) | apply AGo.loopU | apply AGo.lpU | intro _ | (apply AGo.gD; rfl; rfl; rfl) | (apply AGo.condB; rfl) | (apply AGo.retN; rfl; rfl; rfl; rfl))
      all_goals first | exact ⟨rfl, rfl⟩ | (exfalso; omega) | (exfalso; simp_all; done) | (exfalso; simp_all; omega) | trace_state
  | true =>
    have hne := st_ne sp hS
    by_cases hV : mx = 0 ∧ my = 0
    · rw [decide_eq_true hV]
      cases b
      all_goals
        refine ACalls.enter Tryd.func80 rfl Tryd.ntmps80 (by kernel_rfl) rfl ?_; simp only [argEnv, Nat.reduceAdd, List.length_nil, List.length_cons]
        repeat' (first | apply AGo.seq | apply AGo.block | apply AGo.blk | apply AGo.skip | apply AGo.nil | apply AGo.qnil | (apply AGo.region; rfl) | ((first | apply AGo.q true | apply AGo.qq true); rfl; rfl; rfl; rfl; first | exact True.intro | omega | (simp only [Int.toNat_natCast, Int.reduceToNat, IntKind.bits]; omega)) | (apply AGo.callP (ri); (iterate 6 rfl)) | (apply AGo.qcallP (ri); (iterate 7 rfl)) | (apply AGo.callP (sr); (iterate 6 rfl)) | (apply AGo.qcallP (sr); (iterate 7 rfl)) | (apply AGo.callP (m0); (iterate 6 rfl)) | (apply AGo.qcallP (m0); (iterate 7 rfl)) | (apply AGo.callP (m1); (iterate 6 rfl)) | (apply AGo.qcallP (m1); (iterate 7 rfl)) | (apply AGo.callP (m2); (iterate 6 rfl)) | (apply AGo.qcallP (m2); (iterate 7 rfl)) | (apply AGo.callP (m3); (iterate 6 rfl)) | (apply AGo.qcallP (m3); (iterate 7 rfl)) | (apply AGo.callP (m4); (iterate 6 rfl)) | (apply AGo.qcallP (m4); (iterate 7 rfl)) | (apply AGo.callP (m5); (iterate 6 rfl)) | (apply AGo.qcallP (m5); (iterate 7 rfl)) | (apply AGo.drawQ; rfl; rfl; decide +kernel) | (apply AGo.exit; rfl) | (apply AGo.condDT; rfl; first | omega | rfl) | (apply AGo.condDF; rfl; omega) | (apply AGo.condT; rfl) | (apply AGo.condF; rfl) | (apply AGo.box; (iterate 6 rfl); simp only [nm, Nat.reduceAdd, spliceA, AV.cells, D.cells]) | (apply AGo.unguard; rfl; rfl) | (apply AGo.gF; rfl; rfl; rfl; omega) | (apply AGo.cBF; rfl; first | (simp only [bF]; omega) | exact ndF rfl | (exact hk) | ((simp [hne]; done))) | (apply AGo.skipOp; rfl; rfl; rfl) | apply AGo.loopU | apply AGo.lpU | intro _ | (apply AGo.gD; rfl; rfl; rfl) | (apply AGo.condB; rfl) | (apply AGo.retN; rfl; rfl; rfl; rfl))
        all_goals first | exact ⟨congrArg B (by simp_all), rfl⟩ | (exfalso; omega) | trace_state
    · rw [decide_eq_false hV]
      simp only [Bool.false_and, Bool.and_false]
      cases b
      all_goals
        refine ACalls.enter Tryd.func80 rfl Tryd.ntmps80 (by kernel_rfl) rfl ?_; simp only [argEnv, Nat.reduceAdd, List.length_nil, List.length_cons]
        repeat' (first | apply AGo.seq | apply AGo.block | apply AGo.blk | apply AGo.skip | apply AGo.nil | apply AGo.qnil | (apply AGo.region; rfl) | ((first | apply AGo.q true | apply AGo.qq true); rfl; rfl; rfl; rfl; first | exact True.intro | omega | (simp only [Int.toNat_natCast, Int.reduceToNat, IntKind.bits]; omega)) | (apply AGo.callP (ri); (iterate 6 rfl)) | (apply AGo.qcallP (ri); (iterate 7 rfl)) | (apply AGo.callP (sr); (iterate 6 rfl)) | (apply AGo.qcallP (sr); (iterate 7 rfl)) | (apply AGo.callP (m0); (iterate 6 rfl)) | (apply AGo.qcallP (m0); (iterate 7 rfl)) | (apply AGo.callP (m1); (iterate 6 rfl)) | (apply AGo.qcallP (m1); (iterate 7 rfl)) | (apply AGo.callP (m2); (iterate 6 rfl)) | (apply AGo.qcallP (m2); (iterate 7 rfl)) | (apply AGo.callP (m3); (iterate 6 rfl)) | (apply AGo.qcallP (m3); (iterate 7 rfl)) | (apply AGo.callP (m4); (iterate 6 rfl)) | (apply AGo.qcallP (m4); (iterate 7 rfl)) | (apply AGo.callP (m5); (iterate 6 rfl)) | (apply AGo.qcallP (m5); (iterate 7 rfl)) | (apply AGo.drawQ; rfl; rfl; decide +kernel) | (apply AGo.exit; rfl) | (apply AGo.condDT; rfl; first | omega | rfl) | (apply AGo.condDF; rfl; omega) | (apply AGo.condT; rfl) | (apply AGo.condF; rfl) | (apply AGo.box; (iterate 6 rfl); simp only [nm, Nat.reduceAdd, spliceA, AV.cells, D.cells]) | (apply AGo.unguard; rfl; rfl) | (apply AGo.gF; rfl; rfl; rfl; omega) | (apply AGo.cBF; rfl; first | (simp only [bF]; omega) | exact ndF rfl | (exact hk) | ((simp [hne]; done))) | (apply AGo.skipOp; rfl; rfl; rfl) | apply AGo.loopU | apply AGo.lpU | intro _ | (apply AGo.gD; rfl; rfl; rfl) | (apply AGo.condB; rfl) | (apply AGo.retN; rfl; rfl; rfl; rfl))
        all_goals first | exact ⟨rfl, rfl⟩ | (exfalso; omega) | (exfalso; simp_all; done) | (exfalso; simp_all; omega) | trace_state
set_option maxHeartbeats 40000000 in
theorem rcright_c (b : Bool) (c : Cel) (ok : CelOk c) : ACalls (cxg gl) 80 [B b, .d (celD c)] [] (fun r H => r = B (rightS b c) ∧ H = []) := by
  have zc := rzero_c (gl := gl) c
  by_cases hs : c.stuff < 0 ∨ 64 < c.stuff
  · unfold rightS
    rw [if_pos hs]
    refine ACalls.enter Tryd.func80 rfl Tryd.ntmps80 (by kernel_rfl) rfl ?_; simp only [argEnv, Nat.reduceAdd, List.length_nil, List.length_cons]
    repeat' (first | apply AGo.seq | apply AGo.skip | apply AGo.nil | (apply AGo.region; rfl) | (apply AGo.q true; rfl; rfl; rfl; rfl; first | exact True.intro | omega | (simp only [Int.toNat_natCast, Int.reduceToNat, IntKind.bits]; omega)) | (apply AGo.condDT; rfl; first | omega | rfl) | (apply AGo.condDF; rfl; omega) | (apply AGo.condT; rfl) | (apply AGo.box; (iterate 6 rfl); simp only [nm, Nat.reduceAdd, spliceA, AV.cells, D.cells]) | (apply AGo.unguard; rfl; rfl) | (apply AGo.gT; rfl; rfl; rfl; first | omega | rfl) | (apply AGo.gF; rfl; rfl; rfl; omega) | (apply AGo.cBT; rfl; first | (simp only [bT]; omega)) | (apply AGo.cBF; rfl; first | (simp only [bF]; omega) | exact ndF rfl) | (apply AGo.skipOp; rfl; rfl; rfl) | intro _ | (apply AGo.gD; rfl; rfl; rfl) | (apply AGo.retN; rfl; rfl; rfl; rfl))
    all_goals first | exact ⟨rfl, rfl⟩ | (exfalso; omega) | trace_state
  · cases hk : c.skip with
    | true =>
      unfold rightS
      rw [if_neg hs, if_pos hk]
      cases b
      all_goals
        refine ACalls.enter Tryd.func80 rfl Tryd.ntmps80 (by kernel_rfl) rfl ?_; simp only [argEnv, Nat.reduceAdd, List.length_nil, List.length_cons]
        repeat' (first | apply AGo.seq | apply AGo.skip | apply AGo.nil | (apply AGo.region; rfl) | (apply AGo.q true; rfl; rfl; rfl; rfl; first | exact True.intro | omega | (simp only [Int.toNat_natCast, Int.reduceToNat, IntKind.bits]; omega)) | (apply AGo.callP (zc); (iterate 6 rfl)) | (apply AGo.condDT; rfl; first | omega | rfl) | (apply AGo.condDF; rfl; omega) | (apply AGo.condT; rfl) | (apply AGo.box; (iterate 6 rfl); simp only [nm, Nat.reduceAdd, spliceA, AV.cells, D.cells]) | (apply AGo.unguard; rfl; rfl) | (apply AGo.gT; rfl; rfl; rfl; first | omega | rfl) | (apply AGo.gF; rfl; rfl; rfl; omega) | (apply AGo.cBT; rfl; first | (simp only [bT]; omega) | (exact hk)) | (apply AGo.cBF; rfl; first | (simp only [bF]; omega) | exact ndF rfl | (exact hk)) | (apply AGo.skipOp; rfl; rfl; rfl) | intro _ | (apply AGo.gD; rfl; rfl; rfl) | (apply AGo.retN; rfl; rfl; rfl; rfl))
        all_goals first | exact ⟨rfl, rfl⟩ | (exfalso; omega) | trace_state
    | false =>
      by_cases hm : c.kind = 3 ∨ c.kind = 4 ∨ (b = true ∧ (c.kind = 0 ∨ c.kind = 1))
      · obtain ⟨st, sk, ki, sp, mx, my, d0, d1, d2, d3, d4, d5, e0, e1, e2, e3, e4, e5⟩ := c
        simp only at hm hs hk
        rcases hm with rfl | rfl | ⟨hb, rfl | rfl⟩
        · exact rr3 b st hs sk hk sp mx my d0 d1 d2 d3 d4 d5 e0 e1 e2 e3 e4 e5 ok
        · exact rr4 b st hs sk hk sp mx my d0 d1 d2 d3 d4 d5 e0 e1 e2 e3 e4 e5 ok
        · exact rr0 b hb st hs sk hk sp mx my d0 d1 d2 d3 d4 d5 e0 e1 e2 e3 e4 e5 ok
        · exact rr1 b hb st hs sk hk sp mx my d0 d1 d2 d3 d4 d5 e0 e1 e2 e3 e4 e5 ok
      · have hR : rightS b c = false := by
          unfold rightS headMay intraS
          rw [if_neg hs, if_neg (by rw [hk]; decide), decide_eq_false (show ¬ (c.kind = 3 ∨ c.kind = 4) from fun h => hm (by rcases h with h | h; exact .inl h; exact .inr (.inl h)))]
          cases b
          · simp
          · rw [decide_eq_false (show ¬ (c.kind = 0 ∨ c.kind = 1) from fun h => hm (.inr (.inr ⟨rfl, h⟩)))]; simp
        rw [hR]
        cases b
        · have hm' : c.kind ≠ 3 ∧ c.kind ≠ 4 := ⟨fun h => hm (.inl h), fun h => hm (.inr (.inl h))⟩
          refine ACalls.enter Tryd.func80 rfl Tryd.ntmps80 (by kernel_rfl) rfl ?_; simp only [argEnv, Nat.reduceAdd, List.length_nil, List.length_cons]
          repeat' (first | apply AGo.seq | apply AGo.skip | apply AGo.nil | (apply AGo.region; rfl) | (apply AGo.q true; rfl; rfl; rfl; rfl; first | exact True.intro | omega | (simp only [Int.toNat_natCast, Int.reduceToNat, IntKind.bits]; omega)) | (apply AGo.condDT; rfl; first | omega | rfl) | (apply AGo.condDF; rfl; omega) | (apply AGo.condT; rfl) | (apply AGo.box; (iterate 6 rfl); simp only [nm, Nat.reduceAdd, spliceA, AV.cells, D.cells]) | (apply AGo.unguard; rfl; rfl) | (apply AGo.gT; rfl; rfl; rfl; first | omega | rfl) | (apply AGo.gF; rfl; rfl; rfl; omega) | (apply AGo.cBT; rfl; first | (simp only [bT]; omega) | (exact hk)) | (apply AGo.cBF; rfl; first | (simp only [bF]; omega) | exact ndF rfl | (exact hk)) | (apply AGo.skipOp; rfl; rfl; rfl) | intro _ | (apply AGo.gD; rfl; rfl; rfl) | (apply AGo.retN; rfl; rfl; rfl; rfl))
          all_goals first | exact ⟨rfl, rfl⟩ | (exfalso; omega) | (exfalso; simp_all; omega) | trace_state
        · have hm' : (c.kind ≠ 3 ∧ c.kind ≠ 4) ∧ c.kind ≠ 0 ∧ c.kind ≠ 1 := by
            refine ⟨⟨fun h => hm (.inl h), fun h => hm (.inr (.inl h))⟩, fun h => hm (.inr (.inr ⟨rfl, .inl h⟩)), fun h => hm (.inr (.inr ⟨rfl, .inr h⟩))⟩
          refine ACalls.enter Tryd.func80 rfl Tryd.ntmps80 (by kernel_rfl) rfl ?_; simp only [argEnv, Nat.reduceAdd, List.length_nil, List.length_cons]
          repeat' (first | apply AGo.seq | apply AGo.skip | apply AGo.nil | (apply AGo.region; rfl) | (apply AGo.q true; rfl; rfl; rfl; rfl; first | exact True.intro | omega | (simp only [Int.toNat_natCast, Int.reduceToNat, IntKind.bits]; omega)) | (apply AGo.condDT; rfl; first | omega | rfl) | (apply AGo.condDF; rfl; omega) | (apply AGo.condT; rfl) | (apply AGo.box; (iterate 6 rfl); simp only [nm, Nat.reduceAdd, spliceA, AV.cells, D.cells]) | (apply AGo.unguard; rfl; rfl) | (apply AGo.gT; rfl; rfl; rfl; first | omega | rfl) | (apply AGo.gF; rfl; rfl; rfl; omega) | (apply AGo.cBT; rfl; first | (simp only [bT]; omega) | (exact hk)) | (apply AGo.cBF; rfl; first | (simp only [bF]; omega) | exact ndF rfl | (exact hk)) | (apply AGo.skipOp; rfl; rfl; rfl) | intro _ | (apply AGo.gD; rfl; rfl; rfl) | (apply AGo.retN; rfl; rfl; rfl; rfl))
          all_goals first | exact ⟨rfl, rfl⟩ | (exfalso; omega) | (exfalso; simp_all; omega) | trace_state
end Go.Proofs.YtdihjnifoikbeaaDoor.Av.Co
