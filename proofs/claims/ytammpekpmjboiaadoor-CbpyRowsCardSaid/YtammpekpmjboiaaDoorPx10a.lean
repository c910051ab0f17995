/- The laws of tables: the example. -/
import Derived.Test.YtammpekpmjboiaaDoorPx8
set_option linter.unusedSimpArgs false
set_option linter.unusedVariables false
set_option maxRecDepth 100000
namespace Go.Proofs.YtammpekpmjboiaaDoor.Av.Px
open Go Bt
attribute [local irreducible] AGo ACalls
variable {gl : List (Nat × List D)}
def csL : List (List UInt8 × Int) := [([49], 7), ([48, 49], 8)]
def TL : Tb := addT (addT tb0 [49] 7) [48, 49] 8
theorem mkL : mk csL tb0 = some TL := by
  unfold csL
  rw [mk_cons, if_pos (by decide +kernel), mk_cons, if_pos (by decide +kernel), mk_nil]
  rfl
theorem codesD_L : codesD csL = [.agg [.str [49], .int .i64 7], .agg [.str [48, 49], .int .i64 8]] := rfl
theorem tL1 : ttake TL ((bitsF [96] 0).map digB) [] = (8, 0, 2) := by decide +kernel
theorem tL2 : ttake TL ((bitsF [96] 2).map digB) [] = (7, 0, 1) := by decide +kernel
theorem tL3 : ttake TL ((bitsF [96] 3).map digB) [] = (0, 3, 0) := by decide +kernel
theorem lngL : TL.lng = 2 := by decide +kernel
theorem mk_right : ∀ (cs : List (List UInt8 × Int)) (t T : Tb), mk cs t = some T → ∀ p ∈ cs, rightB p.1 = true
  | [], _, _, _, p, hp => by simp at hp
  | q :: cs, t, T, h, p, hp => by
    rw [mk_cons] at h
    split at h
    · rename_i hb
      rcases List.mem_cons.1 hp with rfl | hp
      · exact ((addB_iff t p.1 p.2).1 hb).2.1
      · exact mk_right cs _ T h p hp
    · cases h
theorem rrun_bd (rows : List (List UInt8)) : ∀ (D w : List UInt8), (rrun rows D w).2.1 = 0 → 0 ≤ (rrun rows D w).1 ∧ (rrun rows D w).1 < rows.length
  | [], w, h => by simp [rrun] at h
  | x :: D, w, h => by
    rw [rrun] at h ⊢
    unfold rstep at h ⊢
    cases hf : fidx (w ++ [x]) rows 0 with
    | some i =>
      have := fidx_lt _ _ _ _ hf
      simp only; omega
    | none =>
      rw [hf] at h
      simp only at h ⊢
      by_cases ha : rows.any (fun r => (w ++ [x]).isPrefixOf r) = true
      · rw [if_pos ha] at h ⊢
        exact rrun_bd rows D (w ++ [x]) h
      · rw [if_neg ha] at h; simp at h
attribute [local irreducible] smap imap codesD addB addT mk ttake bitsF rowsD TL csL t5 showN
set_option maxHeartbeats 8000000 in
theorem plives_c : ACalls (cxg gl) 17 [] [] (fun r H => r = B true ∧ H = []) := by
  have hm := make_ok (gl := gl) csL ([49], 7) TL (by unfold csL; rfl) (by unfold csL; decide) (by unfold csL; decide) mkL
  rw [codesD_L] at hm
  have hsy := (mk_all mkL).symOk
  have t1 := ttake_c (gl := gl) TL [96] 0 (by decide) (by decide) hsy
  rw [tL1] at t1
  have t2 := ttake_c (gl := gl) TL [96] 2 (by decide) (by decide) hsy
  rw [tL2] at t2
  have t3 := ttake_c (gl := gl) TL [96] 3 (by decide) (by decide) hsy
  rw [tL3] at t3
  have lg := longest_c (gl := gl) TL
  rw [lngL] at lg t1 t2 t3
  unfold tobM at hm
  rw [lngL] at hm
  refine ACalls.enter Tryd.func17 rfl Tryd.ntmps17 (by kernel_rfl) rfl ?_; simp only [argEnv, Nat.reduceAdd, List.length_nil, List.length_cons]
  repeat' (first | apply AGo.seq | apply AGo.block | apply AGo.blk | apply AGo.skip | apply AGo.nil | apply AGo.qnil | apply AGo.snil | (apply AGo.region; rfl) | ((first | apply AGo.q true | apply AGo.qq true | apply AGo.sq true); rfl; rfl; rfl; rfl; first | exact True.intro | omega | (simp only [Int.toNat_natCast, Int.reduceToNat, IntKind.bits]; omega)) | (apply AGo.callH [] ( hm); (iterate 6 rfl); decide; rfl; rfl; simp only [names, putH, AV.ren, AV.renL, AObj.ren, List.map_cons, List.map_nil, List.length_cons, List.length_nil, Nat.reduceAdd, Nat.reduceSub, Nat.sub_self, List.range'_succ, List.range'_zero, List.append_nil, List.nil_append, List.cons_append, List.set_cons_zero, List.set_cons_succ, List.getD_cons_zero, List.getD_cons_succ]) | (apply AGo.callH [] ( new_c [96]); (iterate 6 rfl); decide; rfl; rfl; simp only [names, putH, AV.ren, AV.renL, AObj.ren, List.map_cons, List.map_nil, List.length_cons, List.length_nil, Nat.reduceAdd, Nat.reduceSub, Nat.sub_self, List.range'_succ, List.range'_zero, List.append_nil, List.nil_append, List.cons_append, List.set_cons_zero, List.set_cons_succ, List.getD_cons_zero, List.getD_cons_succ]) | (apply AGo.callH [0,1,2,3,7,6] ( t1); (iterate 6 rfl); decide; rfl; rfl; simp only [names, putH, AV.ren, AV.renL, AObj.ren, List.map_cons, List.map_nil, List.length_cons, List.length_nil, Nat.reduceAdd, Nat.reduceSub, Nat.sub_self, List.range'_succ, List.range'_zero, List.append_nil, List.nil_append, List.cons_append, List.set_cons_zero, List.set_cons_succ, List.getD_cons_zero, List.getD_cons_succ]) | (apply AGo.callH [0,1,2,3,7,6] ( t2); (iterate 6 rfl); decide; rfl; rfl; simp only [names, putH, AV.ren, AV.renL, AObj.ren, List.map_cons, List.map_nil, List.length_cons, List.length_nil, Nat.reduceAdd, Nat.reduceSub, Nat.sub_self, List.range'_succ, List.range'_zero, List.append_nil, List.nil_append, List.cons_append, List.set_cons_zero, List.set_cons_succ, List.getD_cons_zero, List.getD_cons_succ]) | (apply AGo.callH [0,1,2,3,7,6] ( t3); (iterate 6 rfl); decide; rfl; rfl; simp only [names, putH, AV.ren, AV.renL, AObj.ren, List.map_cons, List.map_nil, List.length_cons, List.length_nil, Nat.reduceAdd, Nat.reduceSub, Nat.sub_self, List.range'_succ, List.range'_zero, List.append_nil, List.nil_append, List.cons_append, List.set_cons_zero, List.set_cons_succ, List.getD_cons_zero, List.getD_cons_succ]) | (apply AGo.callH [0,1,2,3,6] ( lg); (iterate 6 rfl); decide; rfl; rfl; simp only [names, putH, AV.ren, AV.renL, AObj.ren, List.map_cons, List.map_nil, List.length_cons, List.length_nil, Nat.reduceAdd, Nat.reduceSub, Nat.sub_self, List.range'_succ, List.range'_zero, List.append_nil, List.nil_append, List.cons_append, List.set_cons_zero, List.set_cons_succ, List.getD_cons_zero, List.getD_cons_succ]) | (apply AGo.drawT; rfl; rfl; rfl; decide +kernel) | (apply AGo.drawQ; rfl; rfl; decide +kernel) | (apply AGo.exit; rfl) | (apply AGo.condDT; rfl; first | omega | rfl) | (apply AGo.condDF; rfl; omega) | (apply AGo.condT; rfl) | (apply AGo.condF; rfl) | (apply AGo.alloc; (iterate 5 rfl); simp only [List.length_cons, List.length_nil, List.cons_append, List.nil_append, Nat.reduceAdd, List.map_cons, List.map_nil, List.set_cons_zero, List.set_cons_succ, spliceA, List.take_succ_cons, List.take_zero, List.drop_succ_cons, List.drop_zero, AV.cells, D.cells]) | (apply AGo.box; (iterate 6 rfl); simp only [List.length_cons, List.length_nil, List.cons_append, List.nil_append, Nat.reduceAdd, List.map_cons, List.map_nil, List.set_cons_zero, List.set_cons_succ, spliceA, List.take_succ_cons, List.take_zero, List.drop_succ_cons, List.drop_zero, AV.cells, D.cells]) | (apply AGo.store; (iterate 9 rfl); exact Nat.le_of_ble_eq_true rfl; simp only [List.length_cons, List.length_nil, List.cons_append, List.nil_append, Nat.reduceAdd, List.map_cons, List.map_nil, List.set_cons_zero, List.set_cons_succ, spliceA, List.take_succ_cons, List.take_zero, List.drop_succ_cons, List.drop_zero, AV.cells, D.cells]) | ((first | apply AGo.build | apply AGo.qbuild); (iterate 5 rfl); simp only [List.length_cons, List.length_nil, List.cons_append, List.nil_append, Nat.reduceAdd, List.map_cons, List.map_nil, List.set_cons_zero, List.set_cons_succ, spliceA, List.take_succ_cons, List.take_zero, List.drop_succ_cons, List.drop_zero, AV.cells, D.cells, mkAgg, unDs, AV.unD]) | ((first | apply AGo.unguard | apply AGo.qunguard | apply AGo.sunguard); rfl; rfl) | ((first | apply AGo.gT | apply AGo.qgT | apply AGo.sgT); rfl; rfl; rfl; first | omega | rfl) | ((first | apply AGo.gF | apply AGo.qgF | apply AGo.sgF); rfl; rfl; rfl; omega) | (apply AGo.cBT; rfl; first | (simp only [Bool.or_eq_true, Bool.and_eq_true, Bool.not_eq_true', decide_eq_true_eq, decide_eq_false_iff_not]; omega)) | (apply AGo.cBF; rfl; first | (simp only [Bool.or_eq_false_iff, Bool.and_eq_false_iff, Bool.not_eq_false', decide_eq_true_eq, decide_eq_false_iff_not]; omega) | exact ndF rfl) | ((first | apply AGo.gBT | apply AGo.qgBT | apply AGo.sgBT); rfl; rfl; rfl; first | (simp only [Bool.or_eq_true, Bool.and_eq_true, Bool.not_eq_true', decide_eq_true_eq, decide_eq_false_iff_not]; omega)) | ((first | apply AGo.gBF | apply AGo.qgBF | apply AGo.sgBF); rfl; rfl; rfl; first | (simp only [Bool.or_eq_false_iff, Bool.and_eq_false_iff, Bool.not_eq_false', decide_eq_true_eq, decide_eq_false_iff_not]; omega) | exact ndF rfl) | ((first | apply AGo.skipOp | apply AGo.qskipOp | apply AGo.sskipOp); rfl; rfl; rfl) | (apply AGo.buildSlice; (iterate 11 rfl)) | apply AGo.loopU | apply AGo.lpU | intro _ | (apply AGo.condD' ; rfl) | ((first | apply AGo.gD | apply AGo.qgD | apply AGo.sgD); rfl; rfl; rfl) | ((first | apply AGo.gS | apply AGo.qgS | apply AGo.sgS); rfl; rfl; rfl) | (apply AGo.condB; rfl) | (apply AGo.retN; rfl; rfl; rfl; rfl) | (apply AGo.retL; rfl; rfl; rfl; rfl) | (apply AGo.retL2; rfl; rfl; rfl; rfl) | (apply AGo.outL; rfl; rfl))
  all_goals first | exact ⟨rfl, rfl⟩ | trace_state
end Go.Proofs.YtammpekpmjboiaaDoor.Av.Px
