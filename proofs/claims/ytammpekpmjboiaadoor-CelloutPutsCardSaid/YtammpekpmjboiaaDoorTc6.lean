/- The reference's Row of an event. -/
import Derived.Test.YtammpekpmjboiaaDoorTc5
set_option linter.unusedSimpArgs false
set_option linter.unusedVariables false
set_option maxRecDepth 100000
namespace Go.Proofs.YtammpekpmjboiaaDoor.Av.Tc
open Go Bt
attribute [local irreducible] AGo ACalls
variable {gl : List (Nat × List D)}
theorem absS_bd {n : Int} (h : n ≠ 0 ∧ -127 ≤ n ∧ n ≤ 127) : 1 ≤ absS n ∧ absS n ≤ 127 := by unfold absS; split <;> omega
theorem sgnS_len (n : Int) : (sgnS n).length = 1 := by unfold sgnS; split <;> rfl
theorem wds_short : ∀ la : Bool, ∀ ru : _root_.Fin 64, ∀ w ∈ wdsS la ru.val, w.length ≤ 12 := by decide +kernel
theorem hasS_len (la : Bool) (ru am : Int) (h : 0 ≤ ru ∧ ru ≤ 63) : (hasS la ru am).length ≤ 12 := by
  unfold hasS
  split
  · simp
  · rename_i hm
    rw [List.getD_eq_getElem?_getD]
    cases hx : (wdsS la ru)[(am - 1).toNat]? with
    | none => simp
    | some w =>
      have := wds_short la ⟨ru.toNat, by omega⟩ w
      simp only at this
      rw [show ((ru.toNat : Nat) : Int) = ru by omega] at this
      exact this (List.mem_of_getElem? hx)
attribute [local irreducible] rowsD wordsS tabS endS wdsS hasS digs
set_option maxHeartbeats 4000000 in
theorem revrow_c (e : Ev) : ACalls (cxg gl) 84 [.d (evD e)] [] (fun r H => r = S (evRow e) ∧ H = []) := by
  obtain ⟨la, ru, le⟩ := e
  have rc := rright_c (gl := gl) ⟨la, ru, le⟩
  unfold evRow
  cases hR : evR ⟨la, ru, le⟩ with
  | false =>
    rw [hR] at rc
    rw [if_neg (by decide)]
    refine ACalls.enter Tryd.func84 rfl Tryd.ntmps84 (by kernel_rfl) rfl ?_; simp only [argEnv, Nat.reduceAdd, List.length_nil, List.length_cons]
    repeat' (first | apply AGo.seq | apply AGo.block | apply AGo.blk | apply AGo.skip | apply AGo.nil | apply AGo.qnil | apply AGo.snil | (apply AGo.region; rfl) | ((first | apply AGo.q true | apply AGo.qq true | apply AGo.sq true); rfl; rfl; rfl; rfl; first | exact True.intro | omega | (simp only [Int.toNat_natCast, Int.reduceToNat, IntKind.bits]; omega)) | (apply AGo.callP (rc); (iterate 6 rfl)) | (apply AGo.qcallP (rc); (iterate 7 rfl)) | (apply AGo.drawT; rfl; rfl; rfl; decide +kernel) | (apply AGo.drawQ; rfl; rfl; decide +kernel) | (apply AGo.exit; rfl) | (apply AGo.condDT; rfl; first | omega | rfl) | (apply AGo.condDF; rfl; omega) | (apply AGo.condT; rfl) | (apply AGo.condF; rfl) | (apply AGo.alloc; (iterate 5 rfl); simp only [nm, Nat.reduceAdd, spliceA, AV.cells, D.cells]) | (apply AGo.box; (iterate 6 rfl); simp only [nm, Nat.reduceAdd, spliceA, AV.cells, D.cells]) | (apply AGo.store; (iterate 9 rfl); exact Nat.le_of_ble_eq_true rfl; simp only [nm, Nat.reduceAdd, spliceA, AV.cells, D.cells]) | ((first | apply AGo.build | apply AGo.qbuild); (iterate 5 rfl); simp only [nm, Nat.reduceAdd, spliceA, AV.cells, D.cells, mkAgg, unDs, AV.unD]) | ((first | apply AGo.unguard | apply AGo.qunguard | apply AGo.sunguard); rfl; rfl) | ((first | apply AGo.gT | apply AGo.qgT | apply AGo.sgT); rfl; rfl; rfl; first | omega | rfl) | ((first | apply AGo.gF | apply AGo.qgF | apply AGo.sgF); rfl; rfl; rfl; omega) | (apply AGo.cBT; rfl; first | (simp only [bT]; omega)) | (apply AGo.cBF; rfl; first | (simp only [bF]; omega) | exact ndF rfl) | ((first | apply AGo.gBT | apply AGo.qgBT | apply AGo.sgBT); rfl; rfl; rfl; first | (simp only [bT]; omega)) | ((first | apply AGo.gBF | apply AGo.qgBF | apply AGo.sgBF); rfl; rfl; rfl; first | (simp only [bF]; omega) | exact ndF rfl) | ((first | apply AGo.skipOp | apply AGo.qskipOp | apply AGo.sskipOp); rfl; rfl; rfl) | (apply AGo.buildSlice; (iterate 11 rfl)) | apply AGo.loopU | apply AGo.lpU | intro _ | (apply AGo.condD' ; rfl) | ((first | apply AGo.gD | apply AGo.qgD | apply AGo.sgD); rfl; rfl; rfl) | ((first | apply AGo.gS | apply AGo.qgS | apply AGo.sgS); rfl; rfl; rfl) | (apply AGo.condB; rfl) | (apply AGo.retN; rfl; rfl; rfl; rfl) | (apply AGo.retL; rfl; rfl; rfl; rfl) | (apply AGo.retL2; rfl; rfl; rfl; rfl) | (apply AGo.outL; rfl; rfl))
    all_goals first | exact ⟨rfl, rfl⟩ | trace_state
  | true =>
    rw [hR] at rc
    have hb : (0 ≤ ru ∧ ru ≤ 63) ∧ le ≠ 0 ∧ -127 ≤ le ∧ le ≤ 127 := of_decide_eq_true hR
    have ab := absS_bd hb.2
    rw [if_pos rfl]
    have am := amount_c (gl := gl) le (by omega)
    have hs := has_c (gl := gl) la ru (absS le) hb.1.1 ab.1 (by omega)
    have sg := sign_c (gl := gl) le
    have hsl := sgnS_len le
    have hhl : (hasS la ru (absS le)).length ≤ 1000000 := by
      have := hasS_len la ru (absS le) hb.1; omega
    by_cases hw : hasS la ru (absS le) ≠ []
    · rw [if_pos hw]
      generalize hasS la ru (absS le) = W at *
      generalize sgnS le = G at *
      refine ACalls.enter Tryd.func84 rfl Tryd.ntmps84 (by kernel_rfl) rfl ?_; simp only [argEnv, Nat.reduceAdd, List.length_nil, List.length_cons]
      repeat' (first | apply AGo.seq | apply AGo.block | apply AGo.blk | apply AGo.skip | apply AGo.nil | apply AGo.qnil | apply AGo.snil | (apply AGo.region; rfl) | ((first | apply AGo.q true | apply AGo.qq true | apply AGo.sq true); rfl; rfl; rfl; rfl; first | exact True.intro | omega | (simp only [Int.toNat_natCast, Int.reduceToNat, IntKind.bits]; omega)) | (apply AGo.callP (rc); (iterate 6 rfl)) | (apply AGo.qcallP (rc); (iterate 7 rfl)) | (apply AGo.callP (am); (iterate 6 rfl)) | (apply AGo.qcallP (am); (iterate 7 rfl)) | (apply AGo.callP (hs); (iterate 6 rfl)) | (apply AGo.qcallP (hs); (iterate 7 rfl)) | (apply AGo.callP (sg); (iterate 6 rfl)) | (apply AGo.qcallP (sg); (iterate 7 rfl)) | (apply AGo.drawT; rfl; rfl; rfl; decide +kernel) | (apply AGo.drawQ; rfl; rfl; decide +kernel) | (apply AGo.exit; rfl) | (apply AGo.condDT; rfl; first | omega | rfl) | (apply AGo.condDF; rfl; omega) | (apply AGo.condT; rfl) | (apply AGo.condF; rfl) | (apply AGo.alloc; (iterate 5 rfl); simp only [nm, Nat.reduceAdd, spliceA, AV.cells, D.cells]) | (apply AGo.box; (iterate 6 rfl); simp only [nm, Nat.reduceAdd, spliceA, AV.cells, D.cells]) | (apply AGo.store; (iterate 9 rfl); exact Nat.le_of_ble_eq_true rfl; simp only [nm, Nat.reduceAdd, spliceA, AV.cells, D.cells]) | ((first | apply AGo.build | apply AGo.qbuild); (iterate 5 rfl); simp only [nm, Nat.reduceAdd, spliceA, AV.cells, D.cells, mkAgg, unDs, AV.unD]) | ((first | apply AGo.unguard | apply AGo.qunguard | apply AGo.sunguard); rfl; rfl) | ((first | apply AGo.gT | apply AGo.qgT | apply AGo.sgT); rfl; rfl; rfl; first | omega | rfl) | ((first | apply AGo.gF | apply AGo.qgF | apply AGo.sgF); rfl; rfl; rfl; omega) | (apply AGo.cBT; rfl; first | (simp only [bT]; omega) | (simp [hw])) | (apply AGo.cBF; rfl; first | (simp only [bF]; omega) | exact ndF rfl | (simp [hw])) | ((first | apply AGo.gBT | apply AGo.qgBT | apply AGo.sgBT); rfl; rfl; rfl; first | (simp only [bT]; omega) | (simp [hw])) | ((first | apply AGo.gBF | apply AGo.qgBF | apply AGo.sgBF); rfl; rfl; rfl; first | (simp only [bF]; omega) | exact ndF rfl | (simp [hw])) | ((first | apply AGo.skipOp | apply AGo.qskipOp | apply AGo.sskipOp); rfl; rfl; rfl) | (apply AGo.buildSlice; (iterate 11 rfl)) | apply AGo.loopU | apply AGo.lpU | intro _ | (apply AGo.condD' ; rfl) | ((first | apply AGo.gD | apply AGo.qgD | apply AGo.sgD); rfl; rfl; rfl) | ((first | apply AGo.gS | apply AGo.qgS | apply AGo.sgS); rfl; rfl; rfl) | (apply AGo.condB; rfl) | (apply AGo.retN; rfl; rfl; rfl; rfl) | (apply AGo.retL; rfl; rfl; rfl; rfl) | (apply AGo.retL2; rfl; rfl; rfl; rfl) | (apply AGo.outL; rfl; rfl))
      all_goals first | exact ⟨rfl, rfl⟩ | trace_state
    · rw [if_neg hw]
      have hw' : hasS la ru (absS le) = [] := by simpa using hw
      rw [hw'] at hs
      have r6 := rrow_c (gl := gl) ru 6 (by decide) (by omega)
      have l6 := digs_len ru 6 6
      by_cases hn : le < 0
      · rw [if_pos hn]
        have r8 := rrow_c (gl := gl) (256 + le) 8 (by decide) (by omega)
        have l8 := digs_len (256 + le) 8 8
        cases la
        all_goals
          refine ACalls.enter Tryd.func84 rfl Tryd.ntmps84 (by kernel_rfl) rfl ?_; simp only [argEnv, Nat.reduceAdd, List.length_nil, List.length_cons]
          repeat' (first | apply AGo.seq | apply AGo.block | apply AGo.blk | apply AGo.skip | apply AGo.nil | apply AGo.qnil | apply AGo.snil | (apply AGo.region; rfl) | ((first | apply AGo.q true | apply AGo.qq true | apply AGo.sq true); rfl; rfl; rfl; rfl; first | exact True.intro | omega | (simp only [Int.toNat_natCast, Int.reduceToNat, IntKind.bits]; omega) | (simp only [List.length_append, List.length_cons, List.length_nil, l6, l8]; omega)) | (apply AGo.callP (rc); (iterate 6 rfl)) | (apply AGo.qcallP (rc); (iterate 7 rfl)) | (apply AGo.callP (am); (iterate 6 rfl)) | (apply AGo.qcallP (am); (iterate 7 rfl)) | (apply AGo.callP (hs); (iterate 6 rfl)) | (apply AGo.qcallP (hs); (iterate 7 rfl)) | (apply AGo.callP (sg); (iterate 6 rfl)) | (apply AGo.qcallP (sg); (iterate 7 rfl)) | (apply AGo.callP (r6); (iterate 6 rfl)) | (apply AGo.qcallP (r6); (iterate 7 rfl)) | (apply AGo.callP (r8); (iterate 6 rfl)) | (apply AGo.qcallP (r8); (iterate 7 rfl)) | (apply AGo.drawT; rfl; rfl; rfl; decide +kernel) | (apply AGo.drawQ; rfl; rfl; decide +kernel) | (apply AGo.exit; rfl) | (apply AGo.condDT; rfl; first | omega | rfl) | (apply AGo.condDF; rfl; omega) | (apply AGo.condT; rfl) | (apply AGo.condF; rfl) | (apply AGo.alloc; (iterate 5 rfl); simp only [nm, Nat.reduceAdd, spliceA, AV.cells, D.cells]) | (apply AGo.box; (iterate 6 rfl); simp only [nm, Nat.reduceAdd, spliceA, AV.cells, D.cells]) | (apply AGo.store; (iterate 9 rfl); exact Nat.le_of_ble_eq_true rfl; simp only [nm, Nat.reduceAdd, spliceA, AV.cells, D.cells]) | ((first | apply AGo.build | apply AGo.qbuild); (iterate 5 rfl); simp only [nm, Nat.reduceAdd, spliceA, AV.cells, D.cells, mkAgg, unDs, AV.unD]) | ((first | apply AGo.unguard | apply AGo.qunguard | apply AGo.sunguard); rfl; rfl) | ((first | apply AGo.gT | apply AGo.qgT | apply AGo.sgT); rfl; rfl; rfl; first | omega | rfl) | ((first | apply AGo.gF | apply AGo.qgF | apply AGo.sgF); rfl; rfl; rfl; omega) | (apply AGo.cBT; rfl; first | (simp only [bT]; omega)) | (apply AGo.cBF; rfl; first | (simp only [bF]; omega) | exact ndF rfl) | ((first | apply AGo.gBT | apply AGo.qgBT | apply AGo.sgBT); rfl; rfl; rfl; first | (simp only [bT]; omega)) | ((first | apply AGo.gBF | apply AGo.qgBF | apply AGo.sgBF); rfl; rfl; rfl; first | (simp only [bF]; omega) | exact ndF rfl) | ((first | apply AGo.skipOp | apply AGo.qskipOp | apply AGo.sskipOp); rfl; rfl; rfl) | (apply AGo.buildSlice; (iterate 11 rfl)) | apply AGo.loopU | apply AGo.lpU | intro _ | (apply AGo.condD' ; rfl) | ((first | apply AGo.gD | apply AGo.qgD | apply AGo.sgD); rfl; rfl; rfl) | ((first | apply AGo.gS | apply AGo.qgS | apply AGo.sgS); rfl; rfl; rfl) | (apply AGo.condB; rfl) | (apply AGo.retN; rfl; rfl; rfl; rfl) | (apply AGo.retL; rfl; rfl; rfl; rfl) | (apply AGo.retL2; rfl; rfl; rfl; rfl) | (apply AGo.outL; rfl; rfl))
          all_goals first | exact ⟨rfl, rfl⟩ | (exfalso; omega) | trace_state
      · rw [if_neg hn]
        have r8 := rrow_c (gl := gl) le 8 (by decide) (by omega)
        have l8 := digs_len le 8 8
        cases la
        all_goals
          refine ACalls.enter Tryd.func84 rfl Tryd.ntmps84 (by kernel_rfl) rfl ?_; simp only [argEnv, Nat.reduceAdd, List.length_nil, List.length_cons]
          repeat' (first | apply AGo.seq | apply AGo.block | apply AGo.blk | apply AGo.skip | apply AGo.nil | apply AGo.qnil | apply AGo.snil | (apply AGo.region; rfl) | ((first | apply AGo.q true | apply AGo.qq true | apply AGo.sq true); rfl; rfl; rfl; rfl; first | exact True.intro | omega | (simp only [Int.toNat_natCast, Int.reduceToNat, IntKind.bits]; omega) | (simp only [List.length_append, List.length_cons, List.length_nil, l6, l8]; omega)) | (apply AGo.callP (rc); (iterate 6 rfl)) | (apply AGo.qcallP (rc); (iterate 7 rfl)) | (apply AGo.callP (am); (iterate 6 rfl)) | (apply AGo.qcallP (am); (iterate 7 rfl)) | (apply AGo.callP (hs); (iterate 6 rfl)) | (apply AGo.qcallP (hs); (iterate 7 rfl)) | (apply AGo.callP (sg); (iterate 6 rfl)) | (apply AGo.qcallP (sg); (iterate 7 rfl)) | (apply AGo.callP (r6); (iterate 6 rfl)) | (apply AGo.qcallP (r6); (iterate 7 rfl)) | (apply AGo.callP (r8); (iterate 6 rfl)) | (apply AGo.qcallP (r8); (iterate 7 rfl)) | (apply AGo.drawT; rfl; rfl; rfl; decide +kernel) | (apply AGo.drawQ; rfl; rfl; decide +kernel) | (apply AGo.exit; rfl) | (apply AGo.condDT; rfl; first | omega | rfl) | (apply AGo.condDF; rfl; omega) | (apply AGo.condT; rfl) | (apply AGo.condF; rfl) | (apply AGo.alloc; (iterate 5 rfl); simp only [nm, Nat.reduceAdd, spliceA, AV.cells, D.cells]) | (apply AGo.box; (iterate 6 rfl); simp only [nm, Nat.reduceAdd, spliceA, AV.cells, D.cells]) | (apply AGo.store; (iterate 9 rfl); exact Nat.le_of_ble_eq_true rfl; simp only [nm, Nat.reduceAdd, spliceA, AV.cells, D.cells]) | ((first | apply AGo.build | apply AGo.qbuild); (iterate 5 rfl); simp only [nm, Nat.reduceAdd, spliceA, AV.cells, D.cells, mkAgg, unDs, AV.unD]) | ((first | apply AGo.unguard | apply AGo.qunguard | apply AGo.sunguard); rfl; rfl) | ((first | apply AGo.gT | apply AGo.qgT | apply AGo.sgT); rfl; rfl; rfl; first | omega | rfl) | ((first | apply AGo.gF | apply AGo.qgF | apply AGo.sgF); rfl; rfl; rfl; omega) | (apply AGo.cBT; rfl; first | (simp only [bT]; omega)) | (apply AGo.cBF; rfl; first | (simp only [bF]; omega) | exact ndF rfl) | ((first | apply AGo.gBT | apply AGo.qgBT | apply AGo.sgBT); rfl; rfl; rfl; first | (simp only [bT]; omega)) | ((first | apply AGo.gBF | apply AGo.qgBF | apply AGo.sgBF); rfl; rfl; rfl; first | (simp only [bF]; omega) | exact ndF rfl) | ((first | apply AGo.skipOp | apply AGo.qskipOp | apply AGo.sskipOp); rfl; rfl; rfl) | (apply AGo.buildSlice; (iterate 11 rfl)) | apply AGo.loopU | apply AGo.lpU | intro _ | (apply AGo.condD' ; rfl) | ((first | apply AGo.gD | apply AGo.qgD | apply AGo.sgD); rfl; rfl; rfl) | ((first | apply AGo.gS | apply AGo.qgS | apply AGo.sgS); rfl; rfl; rfl) | (apply AGo.condB; rfl) | (apply AGo.retN; rfl; rfl; rfl; rfl) | (apply AGo.retL; rfl; rfl; rfl; rfl) | (apply AGo.retL2; rfl; rfl; rfl; rfl) | (apply AGo.outL; rfl; rfl))
          all_goals first | exact ⟨rfl, rfl⟩ | (exfalso; omega) | trace_state
end Go.Proofs.YtammpekpmjboiaaDoor.Av.Tc
