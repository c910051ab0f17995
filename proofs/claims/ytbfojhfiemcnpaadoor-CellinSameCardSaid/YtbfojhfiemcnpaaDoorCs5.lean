/- The law CellinSame. -/
import Derived.Test.YtbfojhfiemcnpaaDoorPq6
import Derived.Test.YtbfojhfiemcnpaaDoorPq10
import Derived.Test.YtbfojhfiemcnpaaDoorCo10
import Derived.Test.YtbfojhfiemcnpaaDoorPn4
set_option linter.unusedSimpArgs false
set_option linter.unusedVariables false
set_option maxRecDepth 100000
namespace Go.Proofs.YtbfojhfiemcnpaaDoor.Av.Cs
open Go Bt Tc Co Bl Ci
attribute [local irreducible] AGo ACalls ARegH ARegK ARegK1 AReg
variable {gl : List (Nat × List D)}
def fewE (c : Cel) : Prop := c.e0.length ≤ 100 ∧ c.e1.length ≤ 100 ∧ c.e2.length ≤ 100 ∧ c.e3.length ≤ 100 ∧ c.e4.length ≤ 100 ∧ c.e5.length ≤ 100
theorem fewE_short {c : Cel} (h : fewE c) : ShortE c := by unfold fewE at h; unfold ShortE; omega
attribute [local irreducible] Tc.evsD evsB sameS
set_option maxHeartbeats 32000000 in
theorem cisame_in (a b : Cel) : ACalls (cxg gB) 3 [.d (celD a), .d (celD b)] [] (fun r H => r = B true ∧ H = []) := by
  have lv := cilives_c
  have la := fun l => evsD_len l
  by_cases hf : fewE a ∧ fewE b
  · obtain ⟨ha, hb⟩ := hf
    have c1 := csame_c (gl := gB) a b (fewE_short ha) (fewE_short hb)
    have c2 := rsame21_c (gl := gB) a b (fewE_short ha) (fewE_short hb)
    have c3 := csame_c (gl := gB) a a (fewE_short ha) (fewE_short ha)
    have c4 := csame_c (gl := gB) b b (fewE_short hb) (fewE_short hb)
    rw [sameS_refl] at c3 c4
    obtain ⟨st, sk, ki, sp, mx, my, d0, d1, d2, d3, d4, d5, e0, e1, e2, e3, e4, e5⟩ := a
    obtain ⟨st', sk', ki', sp', mx', my', d0', d1', d2', d3', d4', d5', e0', e1', e2', e3', e4', e5'⟩ := b
    obtain ⟨i0, i1, i2, i3, i4, i5⟩ := ha
    obtain ⟨j0, j1, j2, j3, j4, j5⟩ := hb
    simp only at i0 i1 i2 i3 i4 i5 j0 j1 j2 j3 j4 j5
    rw [← la] at i0 i1 i2 i3 i4 i5 j0 j1 j2 j3 j4 j5
    generalize sameS _ _ = X at *
    cases X
    all_goals
      refine ACalls.enter Tryd.func3 rfl Tryd.ntmps3 (by kernel_rfl) rfl ?_; simp only [argEnv, Nat.reduceAdd, List.length_nil, List.length_cons]
      repeat' (first | apply AGo.seq | apply AGo.block | apply AGo.blk | apply AGo.skip | apply AGo.nil | apply AGo.qnil | (apply AGo.region; rfl) | ((first | apply AGo.q true | apply AGo.qq true); rfl; rfl; rfl; rfl; first | exact True.intro | omega | (simp only [Int.toNat_natCast, Int.reduceToNat, IntKind.bits]; omega)) | (apply AGo.drawQ; rfl; rfl; decide +kernel) | (apply AGo.exit; rfl) | (apply AGo.condDT; rfl; first | omega | rfl) | (apply AGo.condDF; rfl; omega) | (apply AGo.condT; rfl) | (apply AGo.box; (iterate 6 rfl); simp only [nm, Nat.reduceAdd, spliceA, AV.cells, D.cells]) | ((first | apply AGo.unguard | apply AGo.qunguard); rfl; rfl) | (apply AGo.gF; rfl; rfl; rfl; omega) | (apply AGo.skipOp; rfl; rfl; rfl) | intro _ | (apply AGo.condD' ; rfl) | (apply AGo.gD; rfl; rfl; rfl) | (apply AGo.retN; rfl; rfl; rfl; rfl))
      apply AGo.loopU
      repeat' (first | apply AGo.seq | apply AGo.block | apply AGo.blk | apply AGo.skip | apply AGo.nil | apply AGo.qnil | (apply AGo.region; rfl) | ((first | apply AGo.q true | apply AGo.qq true); rfl; rfl; rfl; rfl; first | exact True.intro | omega | (simp only [Int.toNat_natCast, Int.reduceToNat, IntKind.bits]; omega)) | (apply AGo.drawQ; rfl; rfl; decide +kernel) | (apply AGo.exit; rfl) | (apply AGo.condDT; rfl; first | omega | rfl) | (apply AGo.condDF; rfl; omega) | (apply AGo.condT; rfl) | (apply AGo.box; (iterate 6 rfl); simp only [nm, Nat.reduceAdd, spliceA, AV.cells, D.cells]) | ((first | apply AGo.unguard | apply AGo.qunguard); rfl; rfl) | (apply AGo.gF; rfl; rfl; rfl; omega) | (apply AGo.skipOp; rfl; rfl; rfl) | intro _ | (apply AGo.condD' ; rfl) | (apply AGo.gD; rfl; rfl; rfl) | (apply AGo.retN; rfl; rfl; rfl; rfl))
      iterate 6
        apply AGo.lpU
        repeat' (first | apply AGo.seq | apply AGo.block | apply AGo.blk | apply AGo.skip | apply AGo.nil | apply AGo.qnil | (apply AGo.region; rfl) | ((first | apply AGo.q true | apply AGo.qq true); rfl; rfl; rfl; rfl; first | exact True.intro | omega | (simp only [Int.toNat_natCast, Int.reduceToNat, IntKind.bits]; omega)) | (apply AGo.drawQ; rfl; rfl; decide +kernel) | (apply AGo.exit; rfl) | (apply AGo.condDT; rfl; first | omega | rfl) | (apply AGo.condDF; rfl; omega) | (apply AGo.condT; rfl) | (apply AGo.box; (iterate 6 rfl); simp only [nm, Nat.reduceAdd, spliceA, AV.cells, D.cells]) | ((first | apply AGo.unguard | apply AGo.qunguard); rfl; rfl) | (apply AGo.gF; rfl; rfl; rfl; omega) | (apply AGo.skipOp; rfl; rfl; rfl) | intro _ | (apply AGo.condD' ; rfl) | (apply AGo.gD; rfl; rfl; rfl) | (apply AGo.retN; rfl; rfl; rfl; rfl))
      repeat' (first | (apply AGo.seal 0 2; rfl; rfl; simp only [List.map, AV.viewD, List.set_cons_zero, List.set_cons_succ]) | (apply AGo.seal 1 3; rfl; rfl; simp only [List.map, AV.viewD, List.set_cons_zero, List.set_cons_succ]) | apply AGo.seq | apply AGo.block | apply AGo.blk | apply AGo.skip | apply AGo.nil | apply AGo.qnil | (apply AGo.region; rfl) | ((first | apply AGo.q true | apply AGo.qq true); rfl; rfl; rfl; rfl; first | exact True.intro | omega | (simp only [Int.toNat_natCast, Int.reduceToNat, IntKind.bits]; omega)) | (apply AGo.callP (c1); (iterate 6 rfl)) | (apply AGo.qcallP (c1); (iterate 7 rfl)) | (apply AGo.callP (c2); (iterate 6 rfl)) | (apply AGo.qcallP (c2); (iterate 7 rfl)) | (apply AGo.callP (c3); (iterate 6 rfl)) | (apply AGo.qcallP (c3); (iterate 7 rfl)) | (apply AGo.callP (c4); (iterate 6 rfl)) | (apply AGo.qcallP (c4); (iterate 7 rfl)) | (apply AGo.callP (lv); (iterate 6 rfl)) | (apply AGo.qcallP (lv); (iterate 7 rfl)) | (apply AGo.drawQ; rfl; rfl; decide +kernel) | (apply AGo.exit; rfl) | (apply AGo.condDT; rfl; first | omega | rfl) | (apply AGo.condDF; rfl; omega) | (apply AGo.condT; rfl) | (apply AGo.box; (iterate 6 rfl); simp only [nm, Nat.reduceAdd, spliceA, AV.cells, D.cells]) | ((first | apply AGo.unguard | apply AGo.qunguard); rfl; rfl) | (apply AGo.gF; rfl; rfl; rfl; omega) | (apply AGo.skipOp; rfl; rfl; rfl) | intro _ | (apply AGo.condD' ; rfl) | (apply AGo.gD; rfl; rfl; rfl) | (apply AGo.retN; rfl; rfl; rfl; rfl))
      all_goals first | exact ⟨rfl, rfl⟩ | (exfalso; omega) | trace_state
  · unfold fewE at hf
    obtain ⟨st, sk, ki, sp, mx, my, d0, d1, d2, d3, d4, d5, e0, e1, e2, e3, e4, e5⟩ := a
    obtain ⟨st', sk', ki', sp', mx', my', d0', d1', d2', d3', d4', d5', e0', e1', e2', e3', e4', e5'⟩ := b
    simp only at hf
    simp only [← la] at hf
    refine ACalls.enter Tryd.func3 rfl Tryd.ntmps3 (by kernel_rfl) rfl ?_; simp only [argEnv, Nat.reduceAdd, List.length_nil, List.length_cons]
    repeat' (first | apply AGo.seq | apply AGo.block | apply AGo.blk | apply AGo.skip | apply AGo.nil | apply AGo.qnil | (apply AGo.region; rfl) | ((first | apply AGo.q true | apply AGo.qq true); rfl; rfl; rfl; rfl; first | exact True.intro | omega | (simp only [Int.toNat_natCast, Int.reduceToNat, IntKind.bits]; omega)) | (apply AGo.callP (lv); (iterate 6 rfl)) | (apply AGo.qcallP (lv); (iterate 7 rfl)) | (apply AGo.drawQ; rfl; rfl; decide +kernel) | (apply AGo.exit; rfl) | (apply AGo.condDT; rfl; first | omega | rfl) | (apply AGo.condDF; rfl; omega) | (apply AGo.condT; rfl) | (apply AGo.box; (iterate 6 rfl); simp only [nm, Nat.reduceAdd, spliceA, AV.cells, D.cells]) | ((first | apply AGo.unguard | apply AGo.qunguard); rfl; rfl) | (apply AGo.gF; rfl; rfl; rfl; omega) | (apply AGo.skipOp; rfl; rfl; rfl) | apply AGo.loopU | apply AGo.lpU | intro _ | (apply AGo.condD' ; rfl) | (apply AGo.gD; rfl; rfl; rfl) | (apply AGo.retN; rfl; rfl; rfl; rfl))
    all_goals first | exact ⟨rfl, rfl⟩ | (exfalso; omega) | trace_state
theorem cellinSame_law (a b : D) (h : TyV tys 9 27 a) (h' : TyV tys 9 27 b) :
    ACalls (cxg gB) 3 [.d a, .d b] [] (fun r H => r = B true ∧ H = []) := by
  obtain ⟨c, w, _⟩ := cel_of a h
  obtain ⟨c', w', _⟩ := cel_of b h'
  exact (cisame_in c c').weak ⟨Weak.d w, Weak.d w', trivial⟩
end Go.Proofs.YtbfojhfiemcnpaaDoor.Av.Cs
