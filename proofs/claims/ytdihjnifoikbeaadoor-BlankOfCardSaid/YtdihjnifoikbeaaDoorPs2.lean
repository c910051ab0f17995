/- Vectors that may be. Vectors that may be: motion.May. Vectors that may be: the document's answer. -/
import Derived.Test.YtdihjnifoikbeaaDoorSh7
import Derived.Test.YtdihjnifoikbeaaDoorPs1
/- Vectors that may be. -/
set_option linter.unusedSimpArgs false
set_option linter.unusedVariables false
set_option maxRecDepth 100000
namespace Go.Proofs.YtdihjnifoikbeaaDoor.Av.Sh
open Go Bt
attribute [local irreducible] AGo ACalls
variable {gl : List (Nat × List D)}
def inS (x w : Int) : Bool := decide (0 ≤ x ∧ (x + 1) / 2 + 16 ≤ w)
set_option maxHeartbeats 4000000 in
theorem within_c (x w : Int) (hx : -1000000 ≤ x ∧ x ≤ 1000000) : ACalls (cxg gl) 111 [I x, I 16, I w] [] (fun r H => r = B (inS x w) ∧ H = []) := by
  unfold inS
  by_cases h0 : 0 ≤ x
  · by_cases h1 : (x + 1) / 2 + 16 ≤ w
    · rw [decide_eq_true ⟨h0, h1⟩]
      refine ACalls.enter Tryd.func111 rfl Tryd.ntmps111 (by kernel_rfl) rfl ?_; simp only [argEnv, Nat.reduceAdd, List.length_nil, List.length_cons]
      repeat' (first | apply AGo.seq | apply AGo.nil | (apply AGo.region; rfl) | (apply AGo.q true; rfl; rfl; rfl; rfl; first | exact True.intro | omega | (simp only [Int.toNat_natCast, Int.reduceToNat, IntKind.bits]; omega)) | (apply AGo.unguard; rfl; rfl) | (apply AGo.gT; rfl; rfl; rfl; first | omega | rfl) | (apply AGo.gF; rfl; rfl; rfl; omega) | (apply AGo.skipOp; rfl; rfl; rfl) | intro _ | (apply AGo.retN; rfl; rfl; rfl; rfl))
      all_goals first | exact ⟨rfl, rfl⟩ | exact ⟨congrArg B (by simp only [bT, bF]; omega), rfl⟩ | exact ⟨congrArg B (decide_eq_true h1), rfl⟩ | trace_state
    · rw [decide_eq_false (fun h => h1 h.2)]
      refine ACalls.enter Tryd.func111 rfl Tryd.ntmps111 (by kernel_rfl) rfl ?_; simp only [argEnv, Nat.reduceAdd, List.length_nil, List.length_cons]
      repeat' (first | apply AGo.seq | apply AGo.nil | (apply AGo.region; rfl) | (apply AGo.q true; rfl; rfl; rfl; rfl; first | exact True.intro | omega | (simp only [Int.toNat_natCast, Int.reduceToNat, IntKind.bits]; omega)) | (apply AGo.unguard; rfl; rfl) | (apply AGo.gT; rfl; rfl; rfl; first | omega | rfl) | (apply AGo.gF; rfl; rfl; rfl; omega) | (apply AGo.skipOp; rfl; rfl; rfl) | intro _ | (apply AGo.retN; rfl; rfl; rfl; rfl))
      all_goals first | exact ⟨rfl, rfl⟩ | exact ⟨congrArg B (decide_eq_false h1), rfl⟩ | trace_state
  · rw [decide_eq_false (fun h => h0 h.1)]
    refine ACalls.enter Tryd.func111 rfl Tryd.ntmps111 (by kernel_rfl) rfl ?_; simp only [argEnv, Nat.reduceAdd, List.length_nil, List.length_cons]
    repeat' (first | apply AGo.seq | apply AGo.nil | (apply AGo.region; rfl) | (apply AGo.q true; rfl; rfl; rfl; rfl; first | exact True.intro | omega | (simp only [Int.toNat_natCast, Int.reduceToNat, IntKind.bits]; omega)) | (apply AGo.unguard; rfl; rfl) | (apply AGo.gT; rfl; rfl; rfl; first | omega | rfl) | (apply AGo.gF; rfl; rfl; rfl; omega) | (apply AGo.skipOp; rfl; rfl; rfl) | intro _ | (apply AGo.retN; rfl; rfl; rfl; rfl))
    all_goals first | exact ⟨rfl, rfl⟩ | trace_state
set_option maxHeartbeats 4000000 in
theorem inside_c (x w : Int) (hx : -1000000 ≤ x ∧ x ≤ 1000000) : ACalls (cxg gl) 81 [I x, I w] [] (fun r H => r = B (inS x w) ∧ H = []) := by
  unfold inS
  by_cases h0 : 0 ≤ x
  · by_cases h1 : (x + 30) / 2 + (x + 30) % 2 < w
    · rw [decide_eq_true (show 0 ≤ x ∧ (x + 1) / 2 + 16 ≤ w by omega)]
      refine ACalls.enter Tryd.func81 rfl Tryd.ntmps81 (by kernel_rfl) rfl ?_; simp only [argEnv, Nat.reduceAdd, List.length_nil, List.length_cons]
      repeat' (first | apply AGo.seq | apply AGo.nil | (apply AGo.region; rfl) | (apply AGo.q true; rfl; rfl; rfl; rfl; first | exact True.intro | omega | (simp only [Int.toNat_natCast, Int.reduceToNat, IntKind.bits]; omega)) | (apply AGo.unguard; rfl; rfl) | (apply AGo.gT; rfl; rfl; rfl; first | omega | rfl) | (apply AGo.gF; rfl; rfl; rfl; omega) | (apply AGo.skipOp; rfl; rfl; rfl) | intro _ | (apply AGo.retN; rfl; rfl; rfl; rfl))
      all_goals first | exact ⟨rfl, rfl⟩ | exact ⟨congrArg B (decide_eq_true h1), rfl⟩ | trace_state
    · rw [decide_eq_false (show ¬ (0 ≤ x ∧ (x + 1) / 2 + 16 ≤ w) by omega)]
      refine ACalls.enter Tryd.func81 rfl Tryd.ntmps81 (by kernel_rfl) rfl ?_; simp only [argEnv, Nat.reduceAdd, List.length_nil, List.length_cons]
      repeat' (first | apply AGo.seq | apply AGo.nil | (apply AGo.region; rfl) | (apply AGo.q true; rfl; rfl; rfl; rfl; first | exact True.intro | omega | (simp only [Int.toNat_natCast, Int.reduceToNat, IntKind.bits]; omega)) | (apply AGo.unguard; rfl; rfl) | (apply AGo.gT; rfl; rfl; rfl; first | omega | rfl) | (apply AGo.gF; rfl; rfl; rfl; omega) | (apply AGo.skipOp; rfl; rfl; rfl) | intro _ | (apply AGo.retN; rfl; rfl; rfl; rfl))
      all_goals first | exact ⟨rfl, rfl⟩ | exact ⟨congrArg B (decide_eq_false h1), rfl⟩ | trace_state
  · rw [decide_eq_false (fun h => h0 h.1)]
    refine ACalls.enter Tryd.func81 rfl Tryd.ntmps81 (by kernel_rfl) rfl ?_; simp only [argEnv, Nat.reduceAdd, List.length_nil, List.length_cons]
    repeat' (first | apply AGo.seq | apply AGo.nil | (apply AGo.region; rfl) | (apply AGo.q false; rfl; rfl; rfl; rfl; first | exact True.intro | omega | (simp only [Int.toNat_natCast, Int.reduceToNat, IntKind.bits]; omega) | decide) | (apply AGo.unguard; rfl; rfl) | (apply AGo.gT; rfl; rfl; rfl; first | omega | rfl) | (apply AGo.gF; rfl; rfl; rfl; omega) | (apply AGo.skipOp; rfl; rfl; rfl) | intro _ | (apply AGo.retN; rfl; rfl; rfl; rfl))
    all_goals first | exact ⟨rfl, rfl⟩ | trace_state
end Go.Proofs.YtdihjnifoikbeaaDoor.Av.Sh

/- Vectors that may be: motion.May. -/
set_option linter.unusedSimpArgs false
set_option linter.unusedVariables false
set_option maxRecDepth 100000
namespace Go.Proofs.YtdihjnifoikbeaaDoor.Av.Sh
open Go Bt
attribute [local irreducible] AGo ACalls
variable {gl : List (Nat × List D)}
def mvOk (v : Int) : Bool := decide (-32 ≤ v ∧ v ≤ 31)
def mayS (f n : Int) (p : Int × Int) : Bool := mvOk p.1 && mvOk p.2 && inS (32 * (n % fA f) + p.1) (fW f) && inS (32 * (n / fA f) + p.2) (fH f)
theorem fA_bd {f : Int} (h : fOk f = true) : 2 ≤ fA f ∧ fA f ≤ 88 ∧ 2 ≤ fD f ∧ fD f ≤ 72 := by
  have hb := fOk_bd h
  have : f = 1 ∨ f = 2 ∨ f = 3 ∨ f = 4 ∨ f = 5 ∨ f = 6 := by omega
  rcases this with rfl | rfl | rfl | rfl | rfl | rfl <;> decide
attribute [local irreducible] inS fW fH
set_option maxHeartbeats 8000000 in
theorem mmay_c (f n : Int) (p : Int × Int) (hf : fOk f = true) (hn : 0 ≤ n ∧ n < fA f * fD f) :
    ACalls (cxg gl) 79 [I f, I n, .d (pD p)] [] (fun r H => r = B (mayS f n p) ∧ H = []) := by
  have hc := cells_c (gl := gl) f
  have hs := size_c (gl := gl) f
  rw [hf] at hs
  have hb := fA_bd hf
  have hw := fW_bd f
  have hh := fH_bd f
  have hm : 0 ≤ fA f * fD f ∧ fA f * fD f ≤ 88 * 72 := ⟨Int.mul_nonneg (by omega) (by omega), Int.mul_le_mul (by omega) (by omega) (by omega) (by omega)⟩
  obtain ⟨d1, d2, d3, d4, d5, d6, d7, d8⟩ := div_facts n (fA f) hn.1 (by omega)
  unfold mayS
  generalize fA f = A at *
  generalize fD f = E at *
  have hm3 : -9223372036854775808 ≤ A * E ∧ A * E ≤ 9223372036854775807 := ⟨by omega, by omega⟩
  by_cases hx : -32 ≤ p.1 ∧ p.1 ≤ 31
  · by_cases hy : -32 ≤ p.2 ∧ p.2 ≤ 31
    · rw [show mvOk p.1 = true from decide_eq_true hx, show mvOk p.2 = true from decide_eq_true hy]
      have w1 := within_c (gl := gl) (32 * (n % A) + p.1) (fW f) (by omega)
      have w2 := within_c (gl := gl) (32 * (n / A) + p.2) (fH f) (by omega)
      generalize inS (32 * (n % A) + p.1) (fW f) = b1 at *
      generalize inS (32 * (n / A) + p.2) (fH f) = b2 at *
      cases b1
      all_goals
        refine ACalls.enter Tryd.func79 rfl Tryd.ntmps79 (by kernel_rfl) rfl ?_; simp only [argEnv, Nat.reduceAdd, List.length_nil, List.length_cons]
        repeat' (first | apply AGo.seq | apply AGo.block | apply AGo.blk | apply AGo.skip | apply AGo.nil | apply AGo.qnil | (apply AGo.region; rfl) | ((first | apply AGo.q true | apply AGo.qq true); rfl; rfl; rfl; rfl; first | exact True.intro | omega | (simp only [Int.toNat_natCast, Int.reduceToNat, IntKind.bits]; omega) | (exact hm3) | ((refine ⟨?_, Nat.le_of_ble_eq_true rfl⟩; omega))) | (apply AGo.callP (hc); (iterate 6 rfl)) | (apply AGo.qcallP (hc); (iterate 7 rfl)) | (apply AGo.callP (hs); (iterate 6 rfl)) | (apply AGo.qcallP (hs); (iterate 7 rfl)) | (apply AGo.callP (w1); (iterate 6 rfl)) | (apply AGo.qcallP (w1); (iterate 7 rfl)) | (apply AGo.callP (w2); (iterate 6 rfl)) | (apply AGo.qcallP (w2); (iterate 7 rfl)) | (apply AGo.drawQ; rfl; rfl; decide +kernel) | (apply AGo.exit; rfl) | (apply AGo.condDT; rfl; first | omega | rfl) | (apply AGo.condDF; rfl; omega) | (apply AGo.condT; rfl) | (apply AGo.box; (iterate 6 rfl); simp only [nm, Nat.reduceAdd, spliceA, AV.cells, D.cells]) | ((first | apply AGo.unguard | apply AGo.qunguard); rfl; rfl) | (apply AGo.gF; rfl; rfl; rfl; omega) | ((first | apply AGo.skipOp | apply AGo.qskipOp); rfl; rfl; rfl) | apply AGo.loopU | apply AGo.lpU | intro _ | (apply AGo.gD; rfl; rfl; rfl) | (apply AGo.retN; rfl; rfl; rfl; rfl))
        all_goals first | exact ⟨rfl, rfl⟩ | (exfalso; omega) | trace_state
    · rw [show mvOk p.2 = false from decide_eq_false hy, Bool.and_false]
      refine ACalls.enter Tryd.func79 rfl Tryd.ntmps79 (by kernel_rfl) rfl ?_; simp only [argEnv, Nat.reduceAdd, List.length_nil, List.length_cons]
      repeat' (first | apply AGo.seq | apply AGo.block | apply AGo.blk | apply AGo.skip | apply AGo.nil | apply AGo.qnil | (apply AGo.region; rfl) | ((first | apply AGo.q true | apply AGo.qq true); rfl; rfl; rfl; rfl; first | exact True.intro | omega | (simp only [Int.toNat_natCast, Int.reduceToNat, IntKind.bits]; omega) | (exact hm3) | ((refine ⟨?_, Nat.le_of_ble_eq_true rfl⟩; omega))) | (apply AGo.callP (hc); (iterate 6 rfl)) | (apply AGo.qcallP (hc); (iterate 7 rfl)) | (apply AGo.callP (hs); (iterate 6 rfl)) | (apply AGo.qcallP (hs); (iterate 7 rfl)) | (apply AGo.drawQ; rfl; rfl; decide +kernel) | (apply AGo.exit; rfl) | (apply AGo.condDT; rfl; first | omega | rfl) | (apply AGo.condDF; rfl; omega) | (apply AGo.condT; rfl) | (apply AGo.box; (iterate 6 rfl); simp only [nm, Nat.reduceAdd, spliceA, AV.cells, D.cells]) | ((first | apply AGo.unguard | apply AGo.qunguard); rfl; rfl) | (apply AGo.gF; rfl; rfl; rfl; omega) | ((first | apply AGo.skipOp | apply AGo.qskipOp); rfl; rfl; rfl) | apply AGo.loopU | apply AGo.lpU | intro _ | (apply AGo.gD; rfl; rfl; rfl) | (apply AGo.retN; rfl; rfl; rfl; rfl))
      all_goals first | exact ⟨rfl, rfl⟩ | (exfalso; omega) | trace_state
  · rw [show mvOk p.1 = false from decide_eq_false hx]
    refine ACalls.enter Tryd.func79 rfl Tryd.ntmps79 (by kernel_rfl) rfl ?_; simp only [argEnv, Nat.reduceAdd, List.length_nil, List.length_cons]
    repeat' (first | apply AGo.seq | apply AGo.block | apply AGo.blk | apply AGo.skip | apply AGo.nil | apply AGo.qnil | (apply AGo.region; rfl) | ((first | apply AGo.q true | apply AGo.qq true); rfl; rfl; rfl; rfl; first | exact True.intro | omega | (simp only [Int.toNat_natCast, Int.reduceToNat, IntKind.bits]; omega) | (exact hm3) | ((refine ⟨?_, Nat.le_of_ble_eq_true rfl⟩; omega))) | (apply AGo.callP (hc); (iterate 6 rfl)) | (apply AGo.qcallP (hc); (iterate 7 rfl)) | (apply AGo.callP (hs); (iterate 6 rfl)) | (apply AGo.qcallP (hs); (iterate 7 rfl)) | (apply AGo.drawQ; rfl; rfl; decide +kernel) | (apply AGo.exit; rfl) | (apply AGo.condDT; rfl; first | omega | rfl) | (apply AGo.condDF; rfl; omega) | (apply AGo.condT; rfl) | (apply AGo.box; (iterate 6 rfl); simp only [nm, Nat.reduceAdd, spliceA, AV.cells, D.cells]) | ((first | apply AGo.unguard | apply AGo.qunguard); rfl; rfl) | (apply AGo.gF; rfl; rfl; rfl; omega) | ((first | apply AGo.skipOp | apply AGo.qskipOp); rfl; rfl; rfl) | apply AGo.loopU | apply AGo.lpU | intro _ | (apply AGo.gD; rfl; rfl; rfl) | (apply AGo.retN; rfl; rfl; rfl; rfl))
    all_goals first | exact ⟨rfl, rfl⟩ | (exfalso; omega) | trace_state
end Go.Proofs.YtdihjnifoikbeaaDoor.Av.Sh

/- Vectors that may be: the document's answer. -/
set_option linter.unusedSimpArgs false
set_option linter.unusedVariables false
set_option maxRecDepth 100000
namespace Go.Proofs.YtdihjnifoikbeaaDoor.Av.Sh
open Go Bt
attribute [local irreducible] AGo ACalls
variable {gl : List (Nat × List D)}
attribute [local irreducible] inS fW fH fR fL
set_option maxHeartbeats 8000000 in
theorem rmay_c (f n : Int) (p : Int × Int) (hf : fOk f = true) (hn : 0 ≤ n ∧ n < fA f * fD f) :
    ACalls (cxg gl) 44 [I f, I n, .d (pD p)] [] (fun r H => r = B (mayS f n p) ∧ H = []) := by
  have hfb := fOk_bd hf
  have hc := rmany_c (gl := gl) f (by omega)
  have ha := racross_c (gl := gl) f (by omega)
  have hs := rsize_c (gl := gl) f (by omega)
  unfold sizD at hs
  unfold fN at hc
  have hb := fA_bd hf
  have hw := fW_bd f
  have hh := fH_bd f
  have hm : 0 ≤ fA f * fD f ∧ fA f * fD f ≤ 88 * 72 := ⟨Int.mul_nonneg (by omega) (by omega), Int.mul_le_mul (by omega) (by omega) (by omega) (by omega)⟩
  obtain ⟨d1, d2, d3, d4, d5, d6, d7, d8⟩ := div_facts n (fA f) hn.1 (by omega)
  unfold mayS
  generalize fA f = A at *
  generalize fD f = E at *
  by_cases hx : -32 ≤ p.1 ∧ p.1 ≤ 31
  · by_cases hy : -32 ≤ p.2 ∧ p.2 ≤ 31
    · rw [show mvOk p.1 = true from decide_eq_true hx, show mvOk p.2 = true from decide_eq_true hy]
      have w1 := inside_c (gl := gl) (32 * (n % A) + p.1) (fW f) (by omega)
      have w2 := inside_c (gl := gl) (32 * (n / A) + p.2) (fH f) (by omega)
      generalize inS (32 * (n % A) + p.1) (fW f) = b1 at *
      generalize inS (32 * (n / A) + p.2) (fH f) = b2 at *
      cases b1
      all_goals
        refine ACalls.enter Tryd.func44 rfl Tryd.ntmps44 (by kernel_rfl) rfl ?_; simp only [argEnv, Nat.reduceAdd, List.length_nil, List.length_cons]
        repeat' (first | apply AGo.seq | apply AGo.block | apply AGo.blk | apply AGo.skip | apply AGo.nil | apply AGo.qnil | (apply AGo.region; rfl) | ((first | apply AGo.q true | apply AGo.qq true); rfl; rfl; rfl; rfl; first | exact True.intro | omega | (simp only [Int.toNat_natCast, Int.reduceToNat, IntKind.bits]; omega) | ((refine ⟨?_, Nat.le_of_ble_eq_true rfl⟩; omega))) | (apply AGo.callP (hc); (iterate 6 rfl)) | (apply AGo.qcallP (hc); (iterate 7 rfl)) | (apply AGo.callP (ha); (iterate 6 rfl)) | (apply AGo.qcallP (ha); (iterate 7 rfl)) | (apply AGo.callP (hs); (iterate 6 rfl)) | (apply AGo.qcallP (hs); (iterate 7 rfl)) | (apply AGo.callP (w1); (iterate 6 rfl)) | (apply AGo.qcallP (w1); (iterate 7 rfl)) | (apply AGo.callP (w2); (iterate 6 rfl)) | (apply AGo.qcallP (w2); (iterate 7 rfl)) | (apply AGo.drawQ; rfl; rfl; decide +kernel) | (apply AGo.exit; rfl) | (apply AGo.condDT; rfl; first | omega | rfl) | (apply AGo.condDF; rfl; omega) | (apply AGo.condT; rfl) | (apply AGo.box; (iterate 6 rfl); simp only [nm, Nat.reduceAdd, spliceA, AV.cells, D.cells]) | ((first | apply AGo.unguard | apply AGo.qunguard); rfl; rfl) | (apply AGo.gF; rfl; rfl; rfl; omega) | ((first | apply AGo.skipOp | apply AGo.qskipOp); rfl; rfl; rfl) | apply AGo.loopU | apply AGo.lpU | intro _ | (apply AGo.gD; rfl; rfl; rfl) | (apply AGo.retN; rfl; rfl; rfl; rfl))
        all_goals first | exact ⟨rfl, rfl⟩ | (exfalso; omega) | trace_state
    · rw [show mvOk p.2 = false from decide_eq_false hy, Bool.and_false]
      refine ACalls.enter Tryd.func44 rfl Tryd.ntmps44 (by kernel_rfl) rfl ?_; simp only [argEnv, Nat.reduceAdd, List.length_nil, List.length_cons]
      repeat' (first | apply AGo.seq | apply AGo.block | apply AGo.blk | apply AGo.skip | apply AGo.nil | apply AGo.qnil | (apply AGo.region; rfl) | ((first | apply AGo.q true | apply AGo.qq true); rfl; rfl; rfl; rfl; first | exact True.intro | omega | (simp only [Int.toNat_natCast, Int.reduceToNat, IntKind.bits]; omega) | ((refine ⟨?_, Nat.le_of_ble_eq_true rfl⟩; omega))) | (apply AGo.callP (hc); (iterate 6 rfl)) | (apply AGo.qcallP (hc); (iterate 7 rfl)) | (apply AGo.callP (ha); (iterate 6 rfl)) | (apply AGo.qcallP (ha); (iterate 7 rfl)) | (apply AGo.callP (hs); (iterate 6 rfl)) | (apply AGo.qcallP (hs); (iterate 7 rfl)) | (apply AGo.drawQ; rfl; rfl; decide +kernel) | (apply AGo.exit; rfl) | (apply AGo.condDT; rfl; first | omega | rfl) | (apply AGo.condDF; rfl; omega) | (apply AGo.condT; rfl) | (apply AGo.box; (iterate 6 rfl); simp only [nm, Nat.reduceAdd, spliceA, AV.cells, D.cells]) | ((first | apply AGo.unguard | apply AGo.qunguard); rfl; rfl) | (apply AGo.gF; rfl; rfl; rfl; omega) | ((first | apply AGo.skipOp | apply AGo.qskipOp); rfl; rfl; rfl) | apply AGo.loopU | apply AGo.lpU | intro _ | (apply AGo.gD; rfl; rfl; rfl) | (apply AGo.retN; rfl; rfl; rfl; rfl))
      all_goals first | exact ⟨rfl, rfl⟩ | (exfalso; omega) | trace_state
  · rw [show mvOk p.1 = false from decide_eq_false hx]
    refine ACalls.enter Tryd.func44 rfl Tryd.ntmps44 (by kernel_rfl) rfl ?_; simp only [argEnv, Nat.reduceAdd, List.length_nil, List.length_cons]
    repeat' (first | apply AGo.seq | apply AGo.block | apply AGo.blk | apply AGo.skip | apply AGo.nil | apply AGo.qnil | (apply AGo.region; rfl) | ((first | apply AGo.q true | apply AGo.qq true); rfl; rfl; rfl; rfl; first | exact True.intro | omega | (simp only [Int.toNat_natCast, Int.reduceToNat, IntKind.bits]; omega) | ((refine ⟨?_, Nat.le_of_ble_eq_true rfl⟩; omega))) | (apply AGo.callP (hc); (iterate 6 rfl)) | (apply AGo.qcallP (hc); (iterate 7 rfl)) | (apply AGo.callP (ha); (iterate 6 rfl)) | (apply AGo.qcallP (ha); (iterate 7 rfl)) | (apply AGo.callP (hs); (iterate 6 rfl)) | (apply AGo.qcallP (hs); (iterate 7 rfl)) | (apply AGo.drawQ; rfl; rfl; decide +kernel) | (apply AGo.exit; rfl) | (apply AGo.condDT; rfl; first | omega | rfl) | (apply AGo.condDF; rfl; omega) | (apply AGo.condT; rfl) | (apply AGo.box; (iterate 6 rfl); simp only [nm, Nat.reduceAdd, spliceA, AV.cells, D.cells]) | ((first | apply AGo.unguard | apply AGo.qunguard); rfl; rfl) | (apply AGo.gF; rfl; rfl; rfl; omega) | ((first | apply AGo.skipOp | apply AGo.qskipOp); rfl; rfl; rfl) | apply AGo.loopU | apply AGo.lpU | intro _ | (apply AGo.gD; rfl; rfl; rfl) | (apply AGo.retN; rfl; rfl; rfl; rfl))
    all_goals first | exact ⟨rfl, rfl⟩ | (exfalso; omega) | trace_state
end Go.Proofs.YtdihjnifoikbeaaDoor.Av.Sh
