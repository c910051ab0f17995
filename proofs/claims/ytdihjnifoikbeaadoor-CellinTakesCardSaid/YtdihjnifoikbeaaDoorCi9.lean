/- Cells are read: the document's Take; cells that are the same. -/
import Derived.Test.YtdihjnifoikbeaaDoorCi8a
import Derived.Test.YtdihjnifoikbeaaDoorCi8b
import Derived.Test.YtdihjnifoikbeaaDoorCi8c
import Derived.Test.YtdihjnifoikbeaaDoorCi8d
set_option linter.unusedSimpArgs false
set_option linter.unusedVariables false
set_option maxRecDepth 100000
namespace Go.Proofs.YtdihjnifoikbeaaDoor.Av.Ci
open Go Bt Tc Co Bl
attribute [local irreducible] AGo ACalls ARegH ARegK ARegK1 AReg
variable {gl : List (Nat × List D)}
attribute [local irreducible] bitsF Tc.evsD hdX mdX bdX showN
set_option maxHeartbeats 16000000 in
theorem rcitake_c (b : Bool) (px py : Int) (s : List UInt8) (p : Nat) (hpx : I64 px) (hpy : I64 py) (hs : s.length ≤ 100000) (hp : p ≤ 8 * s.length) :
    ACalls (cxg gl) 21 [S (showN s), I p, B b, .d (.agg [In px, In py])] []
    (fun r H => r = .tup [.d (celD (celX b px py (bitsF s p)).1), I ((p + (celX b px py (bitsF s p)).2.2 : Nat) : Int), I (celX b px py (bitsF s p)).2.1] ∧ H = []) := by
  have rb := rbegin_c (gl := gl) b s p hs hp
  have hB := hdX_bd b 65 0 (bitsF s p)
  have hBl := bitsF_len s p
  unfold celX
  generalize hdX b 65 0 (bitsF s p) = h at *
  obtain ⟨h1, h2, h3⟩ := hB
  rw [hBl] at h1
  obtain ⟨st, sk, k, ch, e, u⟩ := h
  simp only at rb h1 h2 h3 ⊢
  by_cases he : e = 0
  · subst he
    rw [hdT_ok rfl] at rb
    simp only at rb
    cases sk with
    | true =>
      obtain rfl := h2 rfl
      unfold celT
      simp only [ne_eq, not_true_eq_false, if_false, if_true]
      refine ACalls.enter Tryd.func21 rfl Tryd.ntmps21 (by kernel_rfl) rfl ?_; simp only [argEnv, Nat.reduceAdd, List.length_nil, List.length_cons]
      repeat' (first | apply AGo.seq | apply AGo.skip | apply AGo.nil | (apply AGo.region; rfl) | (apply AGo.q true; rfl; rfl; rfl; rfl; first | exact True.intro | omega | (simp only [Int.toNat_natCast, Int.reduceToNat, IntKind.bits]; omega)) | (apply AGo.callP (rb); (iterate 6 rfl)) | (apply AGo.condT; rfl) | (apply AGo.condF; rfl) | (apply AGo.alloc; (iterate 5 rfl); simp only [nm, Nat.reduceAdd, spliceA, AV.cells, D.cells]) | (apply AGo.box; (iterate 6 rfl); simp only [nm, Nat.reduceAdd, spliceA, AV.cells, D.cells]) | (apply AGo.store; (iterate 9 rfl); exact Nat.le_of_ble_eq_true rfl; simp only [nm, Nat.reduceAdd, spliceA, AV.cells, D.cells]) | (apply AGo.build; (iterate 5 rfl); simp only [nm, Nat.reduceAdd, spliceA, AV.cells, D.cells, mkAgg, unDs, AV.unD]) | (apply AGo.cBT; rfl; first | (simp only [bT]; omega)) | (apply AGo.retW (.tup [.d (celD (celS st true)), I ((p + u : Nat) : Int), I 0]); rfl; exact Weak.tup ⟨Weak.d (celN'_weak st true), Weak.refl _, Weak.refl _, trivial⟩; rfl; rfl; rfl) | intro _)
      all_goals first | exact ⟨rfl, rfl⟩ | (exfalso; omega) | trace_state
    | false =>
      obtain ⟨hk, hch⟩ := h3 rfl rfl
      rcases hk with rfl | rfl | rfl | rfl
      · exact rtk0_c b px py st ch u s p hpx hpy hs hch (by omega) rb
      · exact rtk1_c b px py st ch u s p hpx hpy hs hch (by omega) rb
      · exact rtk3_c b px py st ch u s p hpx hpy hs hch (by omega) rb
      · exact rtk4_c b px py st ch u s p hpx hpy hs hch (by omega) rb
  · rw [hdT_err he] at rb
    unfold celT
    simp only
    rw [if_pos he]
    simp only [Nat.add_zero]
    refine ACalls.enter Tryd.func21 rfl Tryd.ntmps21 (by kernel_rfl) rfl ?_; simp only [argEnv, Nat.reduceAdd, List.length_nil, List.length_cons]
    repeat' (first | apply AGo.seq | apply AGo.skip | apply AGo.nil | (apply AGo.region; rfl) | (apply AGo.q true; rfl; rfl; rfl; rfl; first | exact True.intro | omega | (simp only [Int.toNat_natCast, Int.reduceToNat, IntKind.bits]; omega)) | (apply AGo.callP (rb); (iterate 6 rfl)) | (apply AGo.condT; rfl) | (apply AGo.condF; rfl) | (apply AGo.alloc; (iterate 5 rfl); simp only [nm, Nat.reduceAdd, spliceA, AV.cells, D.cells]) | (apply AGo.box; (iterate 6 rfl); simp only [nm, Nat.reduceAdd, spliceA, AV.cells, D.cells]) | (apply AGo.store; (iterate 9 rfl); exact Nat.le_of_ble_eq_true rfl; simp only [nm, Nat.reduceAdd, spliceA, AV.cells, D.cells]) | (apply AGo.build; (iterate 5 rfl); simp only [nm, Nat.reduceAdd, spliceA, AV.cells, D.cells, mkAgg, unDs, AV.unD]) | (apply AGo.cBT; rfl; first | (simp only [bT]; omega)) | (apply AGo.retW (.tup [.d (celD cel0), I p, I e]); rfl; exact Weak.tup ⟨Weak.d (celN'_weak 0 false), Weak.refl _, Weak.refl _, trivial⟩; rfl; rfl; rfl) | intro _)
    all_goals first | exact ⟨rfl, rfl⟩ | (exfalso; omega) | trace_state
end Go.Proofs.YtdihjnifoikbeaaDoor.Av.Ci
