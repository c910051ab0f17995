/- The program's rows of events: Row; it agrees with the reference's. -/
import Derived.Test.YtammpekpmjboiaaDoorTc7
set_option linter.unusedSimpArgs false
set_option linter.unusedVariables false
set_option maxRecDepth 100000
namespace Go.Proofs.YtammpekpmjboiaaDoor.Av.Tc
open Go Bt
attribute [local irreducible] AGo ACalls
variable {gl : List (Nat × List D)}
def cd2 (k : Int) : Int := gi2.getD k.toNat 0
def ln2 (k : Int) : Int := gi3.getD k.toNat 0
theorem cdl_ok : ∀ k : _root_.Fin 102, (0 ≤ ln2 k.val ∧ ln2 k.val ≤ 12) ∧ 0 ≤ cd2 k.val ∧ cd2 k.val < 2 ^ (ln2 k.val).toNat := by decide +kernel
theorem cdl_ok' (a : Int) (h : 0 ≤ a ∧ a ≤ 101) : (0 ≤ ln2 a ∧ ln2 a ≤ 12) ∧ 0 ≤ cd2 a ∧ cd2 a < 2 ^ (ln2 a).toNat := by
  obtain ⟨k, rfl⟩ := Int.eq_ofNat_of_zero_le h.1
  exact cdl_ok ⟨k, by omega⟩
theorem gcd_eq : gl2 = gi2.map (.int .i64) := rfl
theorem gln_eq : gl3 = gi3.map (.int .i64) := rfl
theorem gcd_len : 102 * 1 ≤ gl2.length := by unfold gl2; decide
theorem gln_len : 102 * 1 ≤ gl3.length := by unfold gl3; decide
theorem gcd_get (a : Int) (h : 0 ≤ a ∧ a ≤ 101) : (gl2.drop (a.toNat * 1))[0]? = some (.int .i64 (cd2 a)) := by
  have hl : gi2.length = 102 := rfl
  rw [gcd_eq, List.getElem?_drop, List.getElem?_map]
  simp [cd2, List.getD, hl, show a.toNat < 102 by omega]
theorem gln_get (a : Int) (h : 0 ≤ a ∧ a ≤ 101) : (gl3.drop (a.toNat * 1))[0]? = some (.int .i64 (ln2 a)) := by
  have hl : gi3.length = 102 := rfl
  rw [gln_eq, List.getElem?_drop, List.getElem?_map]
  simp [ln2, List.getD, hl, show a.toNat < 102 by omega]
set_option maxHeartbeats 4000000 in
theorem tc_key : ∀ la : Bool, ∀ ru : _root_.Fin 64, ((wdsS la ru.val).length : Int) = manyS la ru.val ∧ ∀ a : _root_.Fin 12, (a.val : Int) < manyS la ru.val → (0 ≤ placeS la ru.val (a.val + 1) ∧ placeS la ru.val (a.val + 1) ≤ 101) ∧
    (wdsS la ru.val).getD a.val [] = digs (cd2 (placeS la ru.val (a.val + 1))) (ln2 (placeS la ru.val (a.val + 1))).toNat (ln2 (placeS la ru.val (a.val + 1))).toNat ∧ (wdsS la ru.val).getD a.val [] ≠ [] := by decide +kernel
theorem tc_no (la : Bool) (ru am : Int) (h : 0 ≤ ru ∧ ru ≤ 63) (hm : manyS la ru < am) : hasS la ru am = [] ∧ placeS la ru am = -1 := by
  obtain ⟨k1, _⟩ := tc_key la ⟨ru.toNat, by omega⟩
  simp only at k1
  rw [show ((ru.toNat : Nat) : Int) = ru by omega] at k1
  unfold hasS placeS
  rw [k1, if_pos hm, if_pos hm]; exact ⟨rfl, rfl⟩
theorem tc_yes (la : Bool) (ru am : Int) (h : 0 ≤ ru ∧ ru ≤ 63) (ha : 1 ≤ am) (hm : ¬ manyS la ru < am) : (0 ≤ placeS la ru am ∧ placeS la ru am ≤ 101) ∧ hasS la ru am = digs (cd2 (placeS la ru am)) (ln2 (placeS la ru am)).toNat (ln2 (placeS la ru am)).toNat ∧ hasS la ru am ≠ [] := by
  have hb := manyS_bd la ru
  obtain ⟨k1, k2⟩ := tc_key la ⟨ru.toNat, by omega⟩
  have k3 := k2 ⟨(am - 1).toNat, by omega⟩
  simp only at k1 k3
  rw [show ((ru.toNat : Nat) : Int) = ru by omega] at k1 k3
  rw [show (((am - 1).toNat : Nat) : Int) = am - 1 by omega, show am - 1 + 1 = am by omega] at k3
  have k4 := k3 (by omega)
  have e : hasS la ru am = (wdsS la ru).getD (am - 1).toNat [] := by unfold hasS; rw [k1, if_neg hm]
  rw [e]; exact k4
theorem digit_c (b : Bool) : ACalls (cxg gl) 95 [B b] [] (fun r H => r = S (lstD b) ∧ H = []) := by
  cases b
  all_goals
    refine ACalls.enter Tryd.func95 rfl Tryd.ntmps95 (by kernel_rfl) rfl ?_; simp only [argEnv, Nat.reduceAdd, List.length_nil, List.length_cons]
    repeat' (first | apply AGo.seq | apply AGo.block | apply AGo.blk | apply AGo.skip | apply AGo.nil | apply AGo.qnil | apply AGo.snil | (apply AGo.region; rfl) | ((first | apply AGo.q true | apply AGo.qq true | apply AGo.sq true); rfl; rfl; rfl; rfl; first | exact True.intro | omega | (simp only [Int.toNat_natCast, Int.reduceToNat, IntKind.bits]; omega)) | (apply AGo.drawT; rfl; rfl; rfl; decide +kernel) | (apply AGo.drawQ; rfl; rfl; decide +kernel) | (apply AGo.exit; rfl) | (apply AGo.condDT; rfl; first | omega | rfl) | (apply AGo.condDF; rfl; omega) | (apply AGo.condT; rfl) | (apply AGo.condF; rfl) | (apply AGo.alloc; (iterate 5 rfl); simp only [nm, Nat.reduceAdd, spliceA, AV.cells, D.cells]) | (apply AGo.box; (iterate 6 rfl); simp only [nm, Nat.reduceAdd, spliceA, AV.cells, D.cells]) | (apply AGo.store; (iterate 9 rfl); exact Nat.le_of_ble_eq_true rfl; simp only [nm, Nat.reduceAdd, spliceA, AV.cells, D.cells]) | ((first | apply AGo.build | apply AGo.qbuild); (iterate 5 rfl); simp only [nm, Nat.reduceAdd, spliceA, AV.cells, D.cells, mkAgg, unDs, AV.unD]) | ((first | apply AGo.unguard | apply AGo.qunguard | apply AGo.sunguard); rfl; rfl) | ((first | apply AGo.gT | apply AGo.qgT | apply AGo.sgT); rfl; rfl; rfl; first | omega | rfl) | ((first | apply AGo.gF | apply AGo.qgF | apply AGo.sgF); rfl; rfl; rfl; omega) | (apply AGo.cBT; rfl; first | (simp only [bT]; omega)) | (apply AGo.cBF; rfl; first | (simp only [bF]; omega) | exact ndF rfl) | ((first | apply AGo.gBT | apply AGo.qgBT | apply AGo.sgBT); rfl; rfl; rfl; first | (simp only [bT]; omega)) | ((first | apply AGo.gBF | apply AGo.qgBF | apply AGo.sgBF); rfl; rfl; rfl; first | (simp only [bF]; omega) | exact ndF rfl) | ((first | apply AGo.skipOp | apply AGo.qskipOp | apply AGo.sskipOp); rfl; rfl; rfl) | (apply AGo.buildSlice; (iterate 11 rfl)) | apply AGo.loopU | apply AGo.lpU | intro _ | (apply AGo.condD' ; rfl) | ((first | apply AGo.gD | apply AGo.qgD | apply AGo.sgD); rfl; rfl; rfl) | ((first | apply AGo.gS | apply AGo.qgS | apply AGo.sgS); rfl; rfl; rfl) | (apply AGo.condB; rfl) | (apply AGo.retN; rfl; rfl; rfl; rfl) | (apply AGo.retL; rfl; rfl; rfl; rfl) | (apply AGo.retL2; rfl; rfl; rfl; rfl) | (apply AGo.outL; rfl; rfl))
    all_goals first | exact ⟨rfl, rfl⟩ | trace_state
theorem sgn_lst (n : Int) : lstD (decide (n < 0)) = sgnS n := by
  unfold lstD sgnS
  by_cases h : n < 0
  · rw [decide_eq_true h, if_pos rfl, if_pos h]
  · rw [decide_eq_false h, if_neg (by decide), if_neg h]
theorem abs_max (n : Int) : absS n = max n (-n) := by unfold absS; split <;> omega
theorem dg7 : digs 3 7 7 = [48, 48, 48, 48, 48, 49, 49] := by decide +kernel
theorem lstD_len (b : Bool) : (lstD b).length = 1 := by cases b <;> rfl
attribute [local irreducible] rowsD wordsS tabS endS wdsS hasS digs placeS manyS cd2 ln2
set_option maxHeartbeats 4000000 in
theorem evrow_c (e : Ev) : ACalls (cxg gtc) 82 [.d (evD e)] [] (fun r H => r = .tup [S (evRow e), B (evR e)] ∧ H = []) := by
  obtain ⟨la, ru, le⟩ := e
  have rc := right_c (gl := gtc) ⟨la, ru, le⟩
  unfold evRow
  cases hR : evR ⟨la, ru, le⟩ with
  | false =>
    rw [hR] at rc
    rw [if_neg (by decide)]
    refine ACalls.enter Tryd.func82 rfl Tryd.ntmps82 (by kernel_rfl) rfl ?_; simp only [argEnv, Nat.reduceAdd, List.length_nil, List.length_cons]
    repeat' (first | apply AGo.seq | apply AGo.block | apply AGo.blk | apply AGo.skip | apply AGo.nil | apply AGo.qnil | apply AGo.snil | (apply AGo.region; rfl) | ((first | apply AGo.q true | apply AGo.qq true | apply AGo.sq true); rfl; rfl; rfl; rfl; first | exact True.intro | omega | (simp only [Int.toNat_natCast, Int.reduceToNat, IntKind.bits]; omega)) | (apply AGo.callP (rc); (iterate 6 rfl)) | (apply AGo.qcallP (rc); (iterate 7 rfl)) | (apply AGo.drawT; rfl; rfl; rfl; decide +kernel) | (apply AGo.drawQ; rfl; rfl; decide +kernel) | (apply AGo.exit; rfl) | (apply AGo.condDT; rfl; first | omega | rfl) | (apply AGo.condDF; rfl; omega) | (apply AGo.condT; rfl) | (apply AGo.condF; rfl) | (apply AGo.alloc; (iterate 5 rfl); simp only [nm, Nat.reduceAdd, spliceA, AV.cells, D.cells]) | (apply AGo.box; (iterate 6 rfl); simp only [nm, Nat.reduceAdd, spliceA, AV.cells, D.cells]) | (apply AGo.store; (iterate 9 rfl); exact Nat.le_of_ble_eq_true rfl; simp only [nm, Nat.reduceAdd, spliceA, AV.cells, D.cells]) | ((first | apply AGo.build | apply AGo.qbuild); (iterate 5 rfl); simp only [nm, Nat.reduceAdd, spliceA, AV.cells, D.cells, mkAgg, unDs, AV.unD]) | ((first | apply AGo.unguard | apply AGo.qunguard | apply AGo.sunguard); rfl; rfl) | ((first | apply AGo.gT | apply AGo.qgT | apply AGo.sgT); rfl; rfl; rfl; first | omega | rfl) | ((first | apply AGo.gF | apply AGo.qgF | apply AGo.sgF); rfl; rfl; rfl; omega) | (apply AGo.cBT; rfl; first | (simp only [bT]; omega)) | (apply AGo.cBF; rfl; first | (simp only [bF]; omega) | exact ndF rfl) | ((first | apply AGo.gBT | apply AGo.qgBT | apply AGo.sgBT); rfl; rfl; rfl; first | (simp only [bT]; omega)) | ((first | apply AGo.gBF | apply AGo.qgBF | apply AGo.sgBF); rfl; rfl; rfl; first | (simp only [bF]; omega) | exact ndF rfl) | ((first | apply AGo.skipOp | apply AGo.qskipOp | apply AGo.sskipOp); rfl; rfl; rfl) | (apply AGo.buildSlice; (iterate 11 rfl)) | apply AGo.loopU | apply AGo.lpU | intro _ | (apply AGo.condD' ; rfl) | ((first | apply AGo.gD | apply AGo.qgD | apply AGo.sgD); rfl; rfl; rfl) | ((first | apply AGo.gS | apply AGo.qgS | apply AGo.sgS); rfl; rfl; rfl) | (apply AGo.condB; rfl) | (apply AGo.retN; rfl; rfl; rfl; rfl) | (apply AGo.retL; rfl; rfl; rfl; rfl) | (apply AGo.retL2; rfl; rfl; rfl; rfl) | (apply AGo.outL; rfl; rfl))
    all_goals first | exact ⟨rfl, rfl⟩ | trace_state
  | true =>
    rw [hR] at rc
    have hb : (0 ≤ ru ∧ ru ≤ 63) ∧ le ≠ 0 ∧ -127 ≤ le ∧ le ≤ 127 := of_decide_eq_true hR
    have ab := absS_bd hb.2
    rw [if_pos rfl]
    have pl := place_c (gl := gtc) la ru (absS le) hb.1 ab
    rw [abs_max] at pl ab
    simp only [abs_max]
    have hsl := sgnS_len le
    have d1 := digit_c (gl := gtc) (decide (le < 0))
    rw [sgn_lst] at d1
    by_cases hm : manyS la ru < max le (-le)
    · obtain ⟨t1, t2⟩ := tc_no la ru (max le (-le)) hb.1 hm
      rw [t1, if_neg (by simp)]
      rw [t2] at pl
      have o7 := orow_c (gl := gtc) 3 7 (by decide) (by decide)
      rw [dg7] at o7
      have o6 := orow_c (gl := gtc) ru 6 (by decide) (by omega)
      have o8 := orow_c (gl := gtc) ((le + 256) % 256) 8 (by decide) (by omega)
      rw [show (le + 256) % 256 = (if le < 0 then 256 + le else le) by split <;> omega] at o8
      have e8 : (le + 256) % 256 = (if le < 0 then 256 + le else le) := by split <;> omega
      have d2 := digit_c (gl := gtc) la
      have l6 := digs_len ru 6 6
      have l8 := digs_len (if le < 0 then 256 + le else le) 8 8
      have l1 := lstD_len la
      rw [← e8] at o8 l8 ⊢
      refine ACalls.enter Tryd.func82 rfl Tryd.ntmps82 (by kernel_rfl) rfl ?_; simp only [argEnv, Nat.reduceAdd, List.length_nil, List.length_cons]
      repeat' (first | apply AGo.seq | apply AGo.block | apply AGo.blk | apply AGo.skip | apply AGo.nil | apply AGo.qnil | apply AGo.snil | (apply AGo.region; rfl) | ((first | apply AGo.q true | apply AGo.qq true | apply AGo.sq true); rfl; rfl; rfl; rfl; first | exact True.intro | omega | (simp only [Int.toNat_natCast, Int.reduceToNat, IntKind.bits]; omega) | (simp only [List.length_append, List.length_cons, List.length_nil, l6, l8, l1]; omega)) | (apply AGo.callP (rc); (iterate 6 rfl)) | (apply AGo.qcallP (rc); (iterate 7 rfl)) | (apply AGo.callP (pl); (iterate 6 rfl)) | (apply AGo.qcallP (pl); (iterate 7 rfl)) | (apply AGo.callP (o7); (iterate 6 rfl)) | (apply AGo.qcallP (o7); (iterate 7 rfl)) | (apply AGo.callP (o6); (iterate 6 rfl)) | (apply AGo.qcallP (o6); (iterate 7 rfl)) | (apply AGo.callP (o8); (iterate 6 rfl)) | (apply AGo.qcallP (o8); (iterate 7 rfl)) | (apply AGo.callP (d2); (iterate 6 rfl)) | (apply AGo.qcallP (d2); (iterate 7 rfl)) | (apply AGo.drawT; rfl; rfl; rfl; decide +kernel) | (apply AGo.drawQ; rfl; rfl; decide +kernel) | (apply AGo.exit; rfl) | (apply AGo.condDT; rfl; first | omega | rfl) | (apply AGo.condDF; rfl; omega) | (apply AGo.condT; rfl) | (apply AGo.condF; rfl) | (apply AGo.alloc; (iterate 5 rfl); simp only [nm, Nat.reduceAdd, spliceA, AV.cells, D.cells]) | (apply AGo.box; (iterate 6 rfl); simp only [nm, Nat.reduceAdd, spliceA, AV.cells, D.cells]) | (apply AGo.store; (iterate 9 rfl); exact Nat.le_of_ble_eq_true rfl; simp only [nm, Nat.reduceAdd, spliceA, AV.cells, D.cells]) | ((first | apply AGo.build | apply AGo.qbuild); (iterate 5 rfl); simp only [nm, Nat.reduceAdd, spliceA, AV.cells, D.cells, mkAgg, unDs, AV.unD]) | ((first | apply AGo.unguard | apply AGo.qunguard | apply AGo.sunguard); rfl; rfl) | ((first | apply AGo.gT | apply AGo.qgT | apply AGo.sgT); rfl; rfl; rfl; first | omega | rfl) | ((first | apply AGo.gF | apply AGo.qgF | apply AGo.sgF); rfl; rfl; rfl; omega) | (apply AGo.cBT; rfl; first | (simp only [bT]; omega)) | (apply AGo.cBF; rfl; first | (simp only [bF]; omega) | exact ndF rfl) | ((first | apply AGo.gBT | apply AGo.qgBT | apply AGo.sgBT); rfl; rfl; rfl; first | (simp only [bT]; omega)) | ((first | apply AGo.gBF | apply AGo.qgBF | apply AGo.sgBF); rfl; rfl; rfl; first | (simp only [bF]; omega) | exact ndF rfl) | ((first | apply AGo.skipOp | apply AGo.qskipOp | apply AGo.sskipOp); rfl; rfl; rfl) | (apply AGo.buildSlice; (iterate 11 rfl)) | apply AGo.loopU | apply AGo.lpU | intro _ | (apply AGo.condD' ; rfl) | ((first | apply AGo.gD | apply AGo.qgD | apply AGo.sgD); rfl; rfl; rfl) | ((first | apply AGo.gS | apply AGo.qgS | apply AGo.sgS); rfl; rfl; rfl) | (apply AGo.condB; rfl) | (apply AGo.retN; rfl; rfl; rfl; rfl) | (apply AGo.retL; rfl; rfl; rfl; rfl) | (apply AGo.retL2; rfl; rfl; rfl; rfl) | (apply AGo.outL; rfl; rfl))
      all_goals first | exact ⟨rfl, rfl⟩ | (exfalso; omega) | trace_state
    · obtain ⟨t1, t2, t3⟩ := tc_yes la ru (max le (-le)) hb.1 ab.1 hm
      rw [if_pos t3, t2]
      obtain ⟨c1, c2⟩ := cdl_ok' _ t1
      have g1 := gcd_get _ t1
      have g2 := gln_get _ t1
      have o1 := orow_i (gl := gtc) _ _ ⟨c1.1, by omega⟩ c2
      have lo := digs_len (cd2 (placeS la ru (max le (-le)))) (ln2 (placeS la ru (max le (-le)))).toNat (ln2 (placeS la ru (max le (-le)))).toNat
      have hl1 := gcd_len
      have hl2 := gln_len
      generalize placeS la ru (max le (-le)) = pc at *
      refine ACalls.enter Tryd.func82 rfl Tryd.ntmps82 (by kernel_rfl) rfl ?_; simp only [argEnv, Nat.reduceAdd, List.length_nil, List.length_cons]
      repeat' (first | apply AGo.seq | apply AGo.block | apply AGo.blk | apply AGo.skip | apply AGo.nil | apply AGo.qnil | apply AGo.snil | (apply AGo.region; rfl) | ((first | apply AGo.q true | apply AGo.qq true | apply AGo.sq true); rfl; rfl; rfl; rfl; first | exact True.intro | omega | (simp only [Int.toNat_natCast, Int.reduceToNat, IntKind.bits]; omega) | (exact ⟨by omega, hl1⟩) | (exact ⟨by omega, hl2⟩) | (simp only [List.length_append, List.length_cons, List.length_nil, lo, hsl]; omega)) | (apply AGo.callP (rc); (iterate 6 rfl)) | (apply AGo.qcallP (rc); (iterate 7 rfl)) | (apply AGo.callP (pl); (iterate 6 rfl)) | (apply AGo.qcallP (pl); (iterate 7 rfl)) | (apply AGo.callP (o1); (iterate 6 rfl)) | (apply AGo.qcallP (o1); (iterate 7 rfl)) | (apply AGo.callP (d1); (iterate 6 rfl)) | (apply AGo.qcallP (d1); (iterate 7 rfl)) | (apply AGo.drawT; rfl; rfl; rfl; decide +kernel) | (apply AGo.drawQ; rfl; rfl; decide +kernel) | (apply AGo.exit; rfl) | (apply AGo.condDT; rfl; first | omega | rfl) | (apply AGo.condDF; rfl; omega) | (apply AGo.condT; rfl) | (apply AGo.condF; rfl) | (apply AGo.alloc; (iterate 5 rfl); simp only [nm, Nat.reduceAdd, spliceA, AV.cells, D.cells]) | (apply AGo.box; (iterate 6 rfl); simp only [nm, Nat.reduceAdd, spliceA, AV.cells, D.cells]) | (apply AGo.store; (iterate 9 rfl); exact Nat.le_of_ble_eq_true rfl; simp only [nm, Nat.reduceAdd, spliceA, AV.cells, D.cells]) | ((first | apply AGo.build | apply AGo.qbuild); (iterate 5 rfl); simp only [nm, Nat.reduceAdd, spliceA, AV.cells, D.cells, mkAgg, unDs, AV.unD]) | ((first | apply AGo.unguard | apply AGo.qunguard | apply AGo.sunguard); rfl; rfl) | ((first | apply AGo.gT | apply AGo.qgT | apply AGo.sgT); rfl; rfl; rfl; first | omega | rfl) | ((first | apply AGo.gF | apply AGo.qgF | apply AGo.sgF); rfl; rfl; rfl; omega) | (apply AGo.cBT; rfl; first | (simp only [bT]; omega)) | (apply AGo.cBF; rfl; first | (simp only [bF]; omega) | exact ndF rfl) | ((first | apply AGo.gBT | apply AGo.qgBT | apply AGo.sgBT); rfl; rfl; rfl; first | (simp only [bT]; omega)) | ((first | apply AGo.gBF | apply AGo.qgBF | apply AGo.sgBF); rfl; rfl; rfl; first | (simp only [bF]; omega) | exact ndF rfl) | ((first | apply AGo.skipOp | apply AGo.qskipOp | apply AGo.sskipOp); rfl; rfl; rfl) | (apply AGo.buildSlice; (iterate 11 rfl)) | ((first | apply AGo.loadG | apply AGo.qloadG | apply AGo.sloadG); (iterate 7 rfl); exact g1) | ((first | apply AGo.loadG | apply AGo.qloadG | apply AGo.sloadG); (iterate 7 rfl); exact g2) | apply AGo.loopU | apply AGo.lpU | intro _ | (apply AGo.condD' ; rfl) | ((first | apply AGo.gD | apply AGo.qgD | apply AGo.sgD); rfl; rfl; rfl) | ((first | apply AGo.gS | apply AGo.qgS | apply AGo.sgS); rfl; rfl; rfl) | (apply AGo.condB; rfl) | (apply AGo.retN; rfl; rfl; rfl; rfl) | (apply AGo.retL; rfl; rfl; rfl; rfl) | (apply AGo.retL2; rfl; rfl; rfl; rfl) | (apply AGo.outL; rfl; rfl))
      all_goals first | exact ⟨rfl, rfl⟩ | (exfalso; omega) | trace_state
end Go.Proofs.YtammpekpmjboiaaDoor.Av.Tc
