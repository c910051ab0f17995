/- The law PrefixMakes. -/
import Derived.Test.YtnmkmhbfgebalaaDoorPx16
set_option linter.unusedSimpArgs false
set_option linter.unusedVariables false
set_option maxRecDepth 100000
namespace Go.Proofs.YtnmkmhbfgebalaaDoor.Av.Px
open Go Bt
attribute [local irreducible] AGo ACalls
variable {gl : List (Nat × List D)}
theorem r5_nil : ¬ R5 [] := fun h => by have := h.1; simp at this
attribute [local irreducible] smap imap codesD addB addT mk rowsD rowsOf rowFor rowAt symAt syO roO nk nn la lgO R5
set_option maxHeartbeats 8000000 in
theorem prefixMakes_in (cs : List (List UInt8 × Int)) (s : Int) (hcl : cs.length ≤ 9223372036854775807) (hcr : ∀ p ∈ cs, p.1.length ≤ 9223372036854775807) :
    ACalls (cxg gl) 11 [.d (.sl 2 (codesD cs)), I s] [] (fun r H => r = B true ∧ H = []) := by
  have lv := plives_c (gl := gl)
  by_cases hsm : cs.length ≤ 300 ∧ ∀ p ∈ cs, p.1.length ≤ 60
  · rcases Nat.eq_zero_or_pos cs.length with h0 | h0
    · have : cs = [] := List.eq_nil_of_length_eq_zero h0
      subst this
      have sm := small_yes (gl := gl) [] hsm.1 hsm.2
      have of := of_nil (gl := gl)
      have mn := make_nil (gl := gl)
      have rt : ACalls (cxg gl) 41 [.d .nils] [] (fun r H => r = B false ∧ H = []) := by
        have := right5_no (gl := gl) [] (by decide) (by simp) r5_nil
        rw [show rowsD [] = [] by unfold rowsD; rfl] at this
        exact this.weak ⟨weak_nils 1, trivial⟩
      have hc0 : (codesD []).length = 0 := by rw [codesD_len]; rfl
      refine ACalls.enter Tryd.func11 rfl Tryd.ntmps11 (by kernel_rfl) rfl ?_; simp only [argEnv, Nat.reduceAdd, List.length_nil, List.length_cons]
      repeat' (first | apply AGo.seq | apply AGo.block | apply AGo.blk | apply AGo.skip | apply AGo.nil | apply AGo.qnil | apply AGo.snil | (apply AGo.region; rfl) | ((first | apply AGo.q true | apply AGo.qq true | apply AGo.sq true); rfl; rfl; rfl; rfl; first | exact True.intro | omega | (simp only [Int.toNat_natCast, Int.reduceToNat, IntKind.bits]; omega)) | (apply AGo.callP (sm); (iterate 6 rfl)) | (apply AGo.qcallP (sm); (iterate 7 rfl)) | (apply AGo.callP (of); (iterate 6 rfl)) | (apply AGo.qcallP (of); (iterate 7 rfl)) | (apply AGo.callP (rt); (iterate 6 rfl)) | (apply AGo.qcallP (rt); (iterate 7 rfl)) | (apply AGo.callP (mn); (iterate 6 rfl)) | (apply AGo.qcallP (mn); (iterate 7 rfl)) | (apply AGo.callP (lv); (iterate 6 rfl)) | (apply AGo.qcallP (lv); (iterate 7 rfl)) | (apply AGo.drawT; rfl; rfl; rfl; decide +kernel) | (apply AGo.drawQ; rfl; rfl; decide +kernel) | (apply AGo.exit; rfl) | (apply AGo.condDT; rfl; first | omega | rfl) | (apply AGo.condDF; rfl; omega) | (apply AGo.condT; rfl) | (apply AGo.condF; rfl) | (apply AGo.alloc; (iterate 5 rfl); simp only [List.length_cons, List.length_nil, List.cons_append, List.nil_append, Nat.reduceAdd, List.map_cons, List.map_nil, List.set_cons_zero, List.set_cons_succ, spliceA, List.take_succ_cons, List.take_zero, List.drop_succ_cons, List.drop_zero, AV.cells, D.cells]) | (apply AGo.box; (iterate 6 rfl); simp only [List.length_cons, List.length_nil, List.cons_append, List.nil_append, Nat.reduceAdd, List.map_cons, List.map_nil, List.set_cons_zero, List.set_cons_succ, spliceA, List.take_succ_cons, List.take_zero, List.drop_succ_cons, List.drop_zero, AV.cells, D.cells]) | (apply AGo.store; (iterate 9 rfl); exact Nat.le_of_ble_eq_true rfl; simp only [List.length_cons, List.length_nil, List.cons_append, List.nil_append, Nat.reduceAdd, List.map_cons, List.map_nil, List.set_cons_zero, List.set_cons_succ, spliceA, List.take_succ_cons, List.take_zero, List.drop_succ_cons, List.drop_zero, AV.cells, D.cells]) | ((first | apply AGo.build | apply AGo.qbuild); (iterate 5 rfl); simp only [List.length_cons, List.length_nil, List.cons_append, List.nil_append, Nat.reduceAdd, List.map_cons, List.map_nil, List.set_cons_zero, List.set_cons_succ, spliceA, List.take_succ_cons, List.take_zero, List.drop_succ_cons, List.drop_zero, AV.cells, D.cells, mkAgg, unDs, AV.unD]) | ((first | apply AGo.unguard | apply AGo.qunguard | apply AGo.sunguard); rfl; rfl) | ((first | apply AGo.gT | apply AGo.qgT | apply AGo.sgT); rfl; rfl; rfl; first | omega | rfl) | ((first | apply AGo.gF | apply AGo.qgF | apply AGo.sgF); rfl; rfl; rfl; omega) | (apply AGo.cBT; rfl; first | (simp only [Bool.or_eq_true, Bool.and_eq_true, Bool.not_eq_true', decide_eq_true_eq, decide_eq_false_iff_not]; omega)) | (apply AGo.cBF; rfl; first | (simp only [Bool.or_eq_false_iff, Bool.and_eq_false_iff, Bool.not_eq_false', decide_eq_true_eq, decide_eq_false_iff_not]; omega) | exact ndF rfl) | ((first | apply AGo.gBT | apply AGo.qgBT | apply AGo.sgBT); rfl; rfl; rfl; first | (simp only [Bool.or_eq_true, Bool.and_eq_true, Bool.not_eq_true', decide_eq_true_eq, decide_eq_false_iff_not]; omega)) | ((first | apply AGo.gBF | apply AGo.qgBF | apply AGo.sgBF); rfl; rfl; rfl; first | (simp only [Bool.or_eq_false_iff, Bool.and_eq_false_iff, Bool.not_eq_false', decide_eq_true_eq, decide_eq_false_iff_not]; omega) | exact ndF rfl) | ((first | apply AGo.skipOp | apply AGo.qskipOp | apply AGo.sskipOp); rfl; rfl; rfl) | (apply AGo.buildSlice; (iterate 11 rfl)) | apply AGo.loopU | apply AGo.lpU | intro _ | (apply AGo.condD' ; rfl) | ((first | apply AGo.gD | apply AGo.qgD | apply AGo.sgD); rfl; rfl; rfl) | ((first | apply AGo.gS | apply AGo.qgS | apply AGo.sgS); rfl; rfl; rfl) | (apply AGo.condB; rfl) | (apply AGo.retN; rfl; rfl; rfl; rfl) | (apply AGo.retL; rfl; rfl; rfl; rfl) | (apply AGo.retL2; rfl; rfl; rfl; rfl) | (apply AGo.outL; rfl; rfl))
      all_goals first | exact ⟨rfl, rfl⟩ | trace_state
    · obtain ⟨p0, hp0⟩ : ∃ p, cs[0]? = some p := ⟨_, List.getElem?_eq_getElem h0⟩
      have hr6 : ∀ p ∈ cs, p.1.length ≤ 1000000 := fun p hp => Nat.le_trans (hsm.2 p hp) (by decide)
      have hbad : cs.length ≤ 256 → ¬ (R5 (rowsOf cs) ∧ (cs.map (·.2)).Nodup) → ACalls (cxg gl) 37 [.d (.sl 2 (codesD cs))] [] (fun r H => r = .tup [.d .nilp, I 1] ∧ H = []) := fun h1 h2 => by
        cases hT : mk cs tb0 with
        | none => exact make_bad cs p0 hp0 h1 hr6 hT
        | some T => exact absurd ((mk_iff cs h0 h1).1 ⟨T, hT⟩) h2
      by_cases hR : R5 (rowsOf cs)
      · have h256 : cs.length ≤ 256 := by
          have h3 : (rowsOf cs).length ≤ 256 := by unfold R5 at hR; exact hR.2.1
          unfold rowsOf at h3
          simpa using h3
        refine makes_walk cs s true h0 hsm.1 hsm.2 (right5_yes _ hR) (fun h => hbad h256 (fun h2 => ?_)) (fun h => ?_)
        · rw [Bool.true_and] at h
          rw [(nn_nodup cs).2 h2.2] at h; cases h
        · rw [Bool.true_and] at h
          obtain ⟨T, hT⟩ := (mk_iff cs h0 h256).2 ⟨hR, (nn_nodup cs).1 h⟩
          exact ⟨T, hT, h256⟩
      · refine makes_walk cs s false h0 hsm.1 hsm.2 (right5_no _ (by unfold rowsOf; simp; omega) (fun r hr => by
          unfold rowsOf at hr
          obtain ⟨p, hp, rfl⟩ := List.mem_map.1 hr
          exact hr6 p hp) hR) (fun _ => ?_) (fun h => by simp at h)
        rcases Nat.lt_or_ge 256 cs.length with h256 | h256
        · exact make_none cs (.inr h256) hcl
        · exact hbad h256 (fun h2 => hR h2.1)
  · have sm := small_no (gl := gl) cs hcl hsm hcr
    refine ACalls.enter Tryd.func11 rfl Tryd.ntmps11 (by kernel_rfl) rfl ?_; simp only [argEnv, Nat.reduceAdd, List.length_nil, List.length_cons]
    repeat' (first | apply AGo.seq | apply AGo.block | apply AGo.blk | apply AGo.skip | apply AGo.nil | apply AGo.qnil | apply AGo.snil | (apply AGo.region; rfl) | ((first | apply AGo.q true | apply AGo.qq true | apply AGo.sq true); rfl; rfl; rfl; rfl; first | exact True.intro | omega | (simp only [Int.toNat_natCast, Int.reduceToNat, IntKind.bits]; omega)) | (apply AGo.callP (sm); (iterate 6 rfl)) | (apply AGo.qcallP (sm); (iterate 7 rfl)) | (apply AGo.callP (lv); (iterate 6 rfl)) | (apply AGo.qcallP (lv); (iterate 7 rfl)) | (apply AGo.drawT; rfl; rfl; rfl; decide +kernel) | (apply AGo.drawQ; rfl; rfl; decide +kernel) | (apply AGo.exit; rfl) | (apply AGo.condDT; rfl; first | omega | rfl) | (apply AGo.condDF; rfl; omega) | (apply AGo.condT; rfl) | (apply AGo.condF; rfl) | (apply AGo.alloc; (iterate 5 rfl); simp only [List.length_cons, List.length_nil, List.cons_append, List.nil_append, Nat.reduceAdd, List.map_cons, List.map_nil, List.set_cons_zero, List.set_cons_succ, spliceA, List.take_succ_cons, List.take_zero, List.drop_succ_cons, List.drop_zero, AV.cells, D.cells]) | (apply AGo.box; (iterate 6 rfl); simp only [List.length_cons, List.length_nil, List.cons_append, List.nil_append, Nat.reduceAdd, List.map_cons, List.map_nil, List.set_cons_zero, List.set_cons_succ, spliceA, List.take_succ_cons, List.take_zero, List.drop_succ_cons, List.drop_zero, AV.cells, D.cells]) | (apply AGo.store; (iterate 9 rfl); exact Nat.le_of_ble_eq_true rfl; simp only [List.length_cons, List.length_nil, List.cons_append, List.nil_append, Nat.reduceAdd, List.map_cons, List.map_nil, List.set_cons_zero, List.set_cons_succ, spliceA, List.take_succ_cons, List.take_zero, List.drop_succ_cons, List.drop_zero, AV.cells, D.cells]) | ((first | apply AGo.build | apply AGo.qbuild); (iterate 5 rfl); simp only [List.length_cons, List.length_nil, List.cons_append, List.nil_append, Nat.reduceAdd, List.map_cons, List.map_nil, List.set_cons_zero, List.set_cons_succ, spliceA, List.take_succ_cons, List.take_zero, List.drop_succ_cons, List.drop_zero, AV.cells, D.cells, mkAgg, unDs, AV.unD]) | ((first | apply AGo.unguard | apply AGo.qunguard | apply AGo.sunguard); rfl; rfl) | ((first | apply AGo.gT | apply AGo.qgT | apply AGo.sgT); rfl; rfl; rfl; first | omega | rfl) | ((first | apply AGo.gF | apply AGo.qgF | apply AGo.sgF); rfl; rfl; rfl; omega) | (apply AGo.cBT; rfl; first | (simp only [Bool.or_eq_true, Bool.and_eq_true, Bool.not_eq_true', decide_eq_true_eq, decide_eq_false_iff_not]; omega)) | (apply AGo.cBF; rfl; first | (simp only [Bool.or_eq_false_iff, Bool.and_eq_false_iff, Bool.not_eq_false', decide_eq_true_eq, decide_eq_false_iff_not]; omega) | exact ndF rfl) | ((first | apply AGo.gBT | apply AGo.qgBT | apply AGo.sgBT); rfl; rfl; rfl; first | (simp only [Bool.or_eq_true, Bool.and_eq_true, Bool.not_eq_true', decide_eq_true_eq, decide_eq_false_iff_not]; omega)) | ((first | apply AGo.gBF | apply AGo.qgBF | apply AGo.sgBF); rfl; rfl; rfl; first | (simp only [Bool.or_eq_false_iff, Bool.and_eq_false_iff, Bool.not_eq_false', decide_eq_true_eq, decide_eq_false_iff_not]; omega) | exact ndF rfl) | ((first | apply AGo.skipOp | apply AGo.qskipOp | apply AGo.sskipOp); rfl; rfl; rfl) | (apply AGo.buildSlice; (iterate 11 rfl)) | apply AGo.loopU | apply AGo.lpU | intro _ | (apply AGo.condD' ; rfl) | ((first | apply AGo.gD | apply AGo.qgD | apply AGo.sgD); rfl; rfl; rfl) | ((first | apply AGo.gS | apply AGo.qgS | apply AGo.sgS); rfl; rfl; rfl) | (apply AGo.condB; rfl) | (apply AGo.retN; rfl; rfl; rfl; rfl) | (apply AGo.retL; rfl; rfl; rfl; rfl) | (apply AGo.retL2; rfl; rfl; rfl; rfl) | (apply AGo.outL; rfl; rfl))
    all_goals first | exact ⟨rfl, rfl⟩ | trace_state
theorem prefixMakes_law (l : D) (s : Int) (h : TyV tys 9 47 l) (ho : l.one = true) (hq : -9223372036854775808 ≤ s ∧ s ≤ 9223372036854775807) :
    ACalls cx 11 [.d l, I s] [] (fun r H => r = B true ∧ H = []) := by
  rcases pairs_of l ho h with rfl | ⟨cs, rfl, h1, h2⟩
  · have := prefixMakes_in (gl := []) [] s (by decide) (by simp)
    rw [show codesD [] = [] by unfold codesD; rfl] at this
    exact this.weak ⟨weak_nils 2, Weak.refl _, trivial⟩
  · exact prefixMakes_in cs s h1 h2
end Go.Proofs.YtnmkmhbfgebalaaDoor.Av.Px
