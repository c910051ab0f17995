/- The law CelloutPuts. -/
import Derived.Test.YtammpekpmjboiaaDoorCo10
import Derived.Test.YtammpekpmjboiaaDoorPn
set_option linter.unusedSimpArgs false
set_option linter.unusedVariables false
set_option maxRecDepth 100000
namespace Go.Proofs.YtammpekpmjboiaaDoor.Av.Co
open Go Bt Tc Wr Bl
attribute [local irreducible] AGo ACalls
variable {gl : List (Nat × List D)}
theorem Fine.nil (n : Nat) : Fine [] n := ⟨rfl, by simp⟩
theorem stR_fine (c : Cel) : Fine (stR c) 2 := by
  unfold stR
  split
  · exact st_fine _
  · exact Fine.nil _
theorem mvR_fine (c : Cel) (m p : Int) : Fine (mvR c m p) 13 := by
  unfold mvR
  split
  · exact Fine.nil _
  · exact mrow_fine _
theorem put_fine {w : List UInt8} {n : Nat} {b : Bool} {px py : Int} {c : Cel} (hw : Fine w n) (h : rightS b c = true) : Fine (putRow w b px py c) (n + 13000) := by
  obtain ⟨hs, hcase⟩ := right_inv h
  have hh : c.skip = true ∨ headMay b c = true := by rcases hcase with h1 | h1; exact .inl h1; exact .inr h1.2.1
  have f0 := hw.app (head_fine hs hh)
  have hcd := codedS_bd c
  unfold putRow
  rcases hcase with hk | ⟨hk, hm, hst, hv, hbl⟩
  · rw [if_pos hk]
    exact ⟨f0.1, by have := f0.2; omega⟩
  · rw [if_neg (by rw [hk]; decide)]
    unfold blksMay at hbl
    simp only [Bool.and_eq_true] at hbl
    obtain ⟨⟨⟨⟨⟨b0, b1⟩, b2⟩, b3⟩, b4⟩, b5⟩ := hbl
    have f := ((((((((((f0.app (cb_fine (intraS c.kind) (codedS c / 2 ^ 2) (by omega))).app (stR_fine c)).app (mvR_fine c c.mx px)).app (mvR_fine c c.my py)).app (bl_fine b0)).app (bl_fine b1)).app (bl_fine b2)).app (bl_fine b3)).app (bl_fine b4)).app (bl_fine b5))
    exact ⟨f.1, by have := f.2; omega⟩
theorem CelI.ok {c : Cel} (h : CelI c) (h0 : c.e0.length ≤ 100) (h1 : c.e1.length ≤ 100) (h2 : c.e2.length ≤ 100) (h3 : c.e3.length ≤ 100) (h4 : c.e4.length ≤ 100) (h5 : c.e5.length ≤ 100) : CelOk c :=
  ⟨h.x, h.y, h.step, ⟨by omega, h.e0.2⟩, ⟨by omega, h.e1.2⟩, ⟨by omega, h.e2.2⟩, ⟨by omega, h.e3.2⟩, ⟨by omega, h.e4.2⟩, ⟨by omega, h.e5.2⟩⟩
def fewP (c : Cel) : Prop := c.e0.length ≤ 100 ∧ c.e1.length ≤ 100 ∧ c.e2.length ≤ 100 ∧ c.e3.length ≤ 100 ∧ c.e4.length ≤ 100 ∧ c.e5.length ≤ 100
def celL (st : Int) : Cel := ⟨st, true, 0, 0, 0, 0, 0, 0, 0, 0, 0, 0, [], [], [], [], [], []⟩
abbrev celN (st : Int) : D := .agg [In st, .bool true, In 0, In 0, In 0, In 0, In 0, In 0, In 0, In 0, In 0, In 0, .nils, .nils, .nils, .nils, .nils, .nils]
theorem celN_weak (st : Int) : DWeak (celN st) (celD (celL st)) := DWeak.agg rfl (by simp [D.one]) (fun i c d hc hd => by
  have hn : DWeak .nils (evS []) := DWeak.nils 3
  match i, hc, hd with
  | 0, hc, hd | 1, hc, hd | 2, hc, hd | 3, hc, hd | 4, hc, hd | 5, hc, hd | 6, hc, hd | 7, hc, hd | 8, hc, hd | 9, hc, hd | 10, hc, hd | 11, hc, hd => cases hc; cases hd; exact DWeak.refl _
  | 12, hc, hd | 13, hc, hd | 14, hc, hd | 15, hc, hd | 16, hc, hd | 17, hc, hd => cases hc; cases hd; exact hn
  | i + 18, hc, hd => simp at hc)
attribute [local irreducible] evsD
set_option maxHeartbeats 8000000 in
theorem few_yes (c : Cel) (h : fewP c) : ACalls (cxg gl) 27 [.d (celD c)] [] (fun r H => r = B true ∧ H = []) := by
  obtain ⟨h0, h1, h2, h3, h4, h5⟩ := h
  have l0 := evsD_len c.e0
  have l1 := evsD_len c.e1
  have l2 := evsD_len c.e2
  have l3 := evsD_len c.e3
  have l4 := evsD_len c.e4
  have l5 := evsD_len c.e5
  refine ACalls.enter Tryd.func27 rfl Tryd.ntmps27 (by kernel_rfl) rfl ?_; simp only [argEnv, Nat.reduceAdd, List.length_nil, List.length_cons]
  repeat' (first | apply AGo.seq | apply AGo.block | apply AGo.blk | apply AGo.skip | apply AGo.nil | apply AGo.qnil | apply AGo.snil | (apply AGo.region; rfl) | ((first | apply AGo.q true | apply AGo.qq true | apply AGo.sq true); rfl; rfl; rfl; rfl; first | exact True.intro | omega | (simp only [Int.toNat_natCast, Int.reduceToNat, IntKind.bits]; omega) | (exact ⟨by omega, Nat.le_of_ble_eq_true rfl⟩)) | (apply AGo.drawT; rfl; rfl; rfl; decide +kernel) | (apply AGo.drawQ; rfl; rfl; decide +kernel) | (apply AGo.exit; rfl) | (apply AGo.condDT; rfl; first | omega | rfl) | (apply AGo.condDF; rfl; omega) | (apply AGo.condT; rfl) | (apply AGo.condF; rfl) | (apply AGo.alloc; (iterate 5 rfl); simp only [nm, Nat.reduceAdd, spliceA, AV.cells, D.cells]) | (apply AGo.box; (iterate 6 rfl); simp only [nm, Nat.reduceAdd, spliceA, AV.cells, D.cells]) | (apply AGo.store; (iterate 9 rfl); exact Nat.le_of_ble_eq_true rfl; simp only [nm, Nat.reduceAdd, spliceA, AV.cells, D.cells]) | ((first | apply AGo.build | apply AGo.qbuild); (iterate 5 rfl); simp only [nm, Nat.reduceAdd, spliceA, AV.cells, D.cells, mkAgg, unDs, AV.unD]) | ((first | apply AGo.unguard | apply AGo.qunguard | apply AGo.sunguard); rfl; rfl) | ((first | apply AGo.gT | apply AGo.qgT | apply AGo.sgT); rfl; rfl; rfl; first | omega | rfl) | ((first | apply AGo.gF | apply AGo.qgF | apply AGo.sgF); rfl; rfl; rfl; omega) | (apply AGo.cBT; rfl; first | (simp only [bT]; omega)) | (apply AGo.cBF; rfl; first | (simp only [bF]; omega) | exact ndF rfl) | ((first | apply AGo.gBT | apply AGo.qgBT | apply AGo.sgBT); rfl; rfl; rfl; first | (simp only [bT]; omega)) | ((first | apply AGo.gBF | apply AGo.qgBF | apply AGo.sgBF); rfl; rfl; rfl; first | (simp only [bF]; omega) | exact ndF rfl) | ((first | apply AGo.skipOp | apply AGo.qskipOp | apply AGo.sskipOp); rfl; rfl; rfl) | (apply AGo.buildSlice; (iterate 11 rfl)) | apply AGo.loopU | apply AGo.lpU | intro _ | (apply AGo.condD' ; rfl) | ((first | apply AGo.gD | apply AGo.qgD | apply AGo.sgD); rfl; rfl; rfl) | ((first | apply AGo.gS | apply AGo.qgS | apply AGo.sgS); rfl; rfl; rfl) | (apply AGo.condB; rfl) | (apply AGo.retN; rfl; rfl; rfl; rfl) | (apply AGo.retL; rfl; rfl; rfl; rfl) | (apply AGo.retL2; rfl; rfl; rfl; rfl) | (apply AGo.outL; rfl; rfl))
  all_goals first | exact ⟨rfl, rfl⟩ | (exfalso; omega) | trace_state
set_option maxHeartbeats 8000000 in
theorem few_no (c : Cel) (h : ¬ fewP c) : ACalls (cxg gl) 27 [.d (celD c)] [] (fun r H => r = B false ∧ H = []) := by
  unfold fewP at h
  have l0 := evsD_len c.e0
  have l1 := evsD_len c.e1
  have l2 := evsD_len c.e2
  have l3 := evsD_len c.e3
  have l4 := evsD_len c.e4
  have l5 := evsD_len c.e5
  refine ACalls.enter Tryd.func27 rfl Tryd.ntmps27 (by kernel_rfl) rfl ?_; simp only [argEnv, Nat.reduceAdd, List.length_nil, List.length_cons]
  repeat' (first | apply AGo.seq | apply AGo.block | apply AGo.blk | apply AGo.skip | apply AGo.nil | apply AGo.qnil | apply AGo.snil | (apply AGo.region; rfl) | ((first | apply AGo.q true | apply AGo.qq true | apply AGo.sq true); rfl; rfl; rfl; rfl; first | exact True.intro | omega | (simp only [Int.toNat_natCast, Int.reduceToNat, IntKind.bits]; omega) | (exact ⟨by omega, Nat.le_of_ble_eq_true rfl⟩)) | (apply AGo.drawT; rfl; rfl; rfl; decide +kernel) | (apply AGo.drawQ; rfl; rfl; decide +kernel) | (apply AGo.exit; rfl) | (apply AGo.condDT; rfl; first | omega | rfl) | (apply AGo.condDF; rfl; omega) | (apply AGo.condT; rfl) | (apply AGo.condF; rfl) | (apply AGo.alloc; (iterate 5 rfl); simp only [nm, Nat.reduceAdd, spliceA, AV.cells, D.cells]) | (apply AGo.box; (iterate 6 rfl); simp only [nm, Nat.reduceAdd, spliceA, AV.cells, D.cells]) | (apply AGo.store; (iterate 9 rfl); exact Nat.le_of_ble_eq_true rfl; simp only [nm, Nat.reduceAdd, spliceA, AV.cells, D.cells]) | ((first | apply AGo.build | apply AGo.qbuild); (iterate 5 rfl); simp only [nm, Nat.reduceAdd, spliceA, AV.cells, D.cells, mkAgg, unDs, AV.unD]) | ((first | apply AGo.unguard | apply AGo.qunguard | apply AGo.sunguard); rfl; rfl) | ((first | apply AGo.gT | apply AGo.qgT | apply AGo.sgT); rfl; rfl; rfl; first | omega | rfl) | ((first | apply AGo.gF | apply AGo.qgF | apply AGo.sgF); rfl; rfl; rfl; omega) | (apply AGo.cBT; rfl; first | (simp only [bT]; omega)) | (apply AGo.cBF; rfl; first | (simp only [bF]; omega) | exact ndF rfl) | ((first | apply AGo.gBT | apply AGo.qgBT | apply AGo.sgBT); rfl; rfl; rfl; first | (simp only [bT]; omega)) | ((first | apply AGo.gBF | apply AGo.qgBF | apply AGo.sgBF); rfl; rfl; rfl; first | (simp only [bF]; omega) | exact ndF rfl) | ((first | apply AGo.skipOp | apply AGo.qskipOp | apply AGo.sskipOp); rfl; rfl; rfl) | (apply AGo.buildSlice; (iterate 11 rfl)) | apply AGo.loopU | apply AGo.lpU | intro _ | (apply AGo.condD' ; rfl) | ((first | apply AGo.gD | apply AGo.qgD | apply AGo.sgD); rfl; rfl; rfl) | ((first | apply AGo.gS | apply AGo.qgS | apply AGo.sgS); rfl; rfl; rfl) | (apply AGo.condB; rfl) | (apply AGo.retN; rfl; rfl; rfl; rfl) | (apply AGo.retL; rfl; rfl; rfl; rfl) | (apply AGo.retL2; rfl; rfl; rfl; rfl) | (apply AGo.outL; rfl; rfl))
  all_goals first | exact ⟨rfl, rfl⟩ | (exfalso; omega) | trace_state
theorem celL_ok (st : Int) : CelOk (celL st) := by
  have h : EvsOk [] := ⟨by decide, by simp⟩
  have h0 : I64 0 := by unfold I64; decide
  exact ⟨h0, h0, h0, h, h, h, h, h, h⟩
theorem cl1 : rightS true (celL 1) = true := by decide +kernel
theorem cl2 : rightS false (celL 0) = false := by decide +kernel
theorem cl3 : putRow [] true 0 0 (celL 1) = [48, 48, 48, 48, 48, 48, 48, 48, 48, 49, 49] := by decide +kernel
theorem cl4 : packN [48, 48, 48, 48, 48, 48, 48, 48, 48, 49, 49] = [0, 96] := by decide +kernel
attribute [local irreducible] rightS putRow packN octets
set_option maxHeartbeats 8000000 in
theorem colives_c : ACalls (cxg gA) 28 [] [] (fun r H => r = B true ∧ H = []) := by
  have nw := wnew_c (gl := gA)
  have pt := (cput_c [] true 0 0 (celL 1) (celL_ok 1) (by unfold I64; decide) (by unfold I64; decide) cl1 (Fine.nil _)).weak (args := [.ptr 0 0, B true, .d (prD 0 0), .d (celN 1)]) ⟨Weak.refl _, Weak.refl _, Weak.refl _, Weak.d (celN_weak 1), trivial⟩
  have rt := ((cright_c false (celL 0) (celL_ok 0)).more gtc_A).weak (args := [B false, .d (celN 0)]) ⟨Weak.refl _, Weak.d (celN_weak 0), trivial⟩
  rw [cl3] at pt
  rw [cl2] at rt
  have ln := wlen_c (gl := gA) [48, 48, 48, 48, 48, 48, 48, 48, 48, 49, 49]
  have tx := wtext_c (gl := gA) [48, 48, 48, 48, 48, 48, 48, 48, 48, 49, 49]
  rw [cl4] at tx
  refine ACalls.enter Tryd.func28 rfl Tryd.ntmps28 (by kernel_rfl) rfl ?_; simp only [argEnv, Nat.reduceAdd, List.length_nil, List.length_cons]
  repeat' (first | apply AGo.seq | apply AGo.block | apply AGo.blk | apply AGo.skip | apply AGo.nil | apply AGo.qnil | apply AGo.snil | (apply AGo.region; rfl) | ((first | apply AGo.q true | apply AGo.qq true | apply AGo.sq true); rfl; rfl; rfl; rfl; first | exact True.intro | omega | (simp only [Int.toNat_natCast, Int.reduceToNat, IntKind.bits]; omega)) | (apply AGo.callH [] ( nw); (iterate 6 rfl); decide; rfl; rfl; simp only [names, putH, AV.ren, AV.renL, AObj.ren, nh, Nat.reduceAdd, Nat.reduceSub]) | (apply AGo.callH [0,1] ( pt); (iterate 6 rfl); decide; rfl; rfl; simp only [names, putH, AV.ren, AV.renL, AObj.ren, nh, Nat.reduceAdd, Nat.reduceSub]) | (apply AGo.callH [0,1] ( ln); (iterate 6 rfl); decide; rfl; rfl; simp only [names, putH, AV.ren, AV.renL, AObj.ren, nh, Nat.reduceAdd, Nat.reduceSub]) | (apply AGo.callH [0,1] ( tx); (iterate 6 rfl); decide; rfl; rfl; simp only [names, putH, AV.ren, AV.renL, AObj.ren, nh, Nat.reduceAdd, Nat.reduceSub]) | (apply AGo.callP (rt); (iterate 6 rfl)) | (apply AGo.qcallP (rt); (iterate 7 rfl)) | (apply AGo.drawT; rfl; rfl; rfl; decide +kernel) | (apply AGo.drawQ; rfl; rfl; decide +kernel) | (apply AGo.exit; rfl) | (apply AGo.condDT; rfl; first | omega | rfl) | (apply AGo.condDF; rfl; omega) | (apply AGo.condT; rfl) | (apply AGo.condF; rfl) | (apply AGo.alloc; (iterate 5 rfl); simp only [nm, Nat.reduceAdd, spliceA, AV.cells, D.cells]) | (apply AGo.box; (iterate 6 rfl); simp only [nm, Nat.reduceAdd, spliceA, AV.cells, D.cells]) | (apply AGo.store; (iterate 9 rfl); exact Nat.le_of_ble_eq_true rfl; simp only [nm, Nat.reduceAdd, spliceA, AV.cells, D.cells]) | ((first | apply AGo.build | apply AGo.qbuild); (iterate 5 rfl); simp only [nm, Nat.reduceAdd, spliceA, AV.cells, D.cells, mkAgg, unDs, AV.unD]) | ((first | apply AGo.unguard | apply AGo.qunguard | apply AGo.sunguard); rfl; rfl) | ((first | apply AGo.gT | apply AGo.qgT | apply AGo.sgT); rfl; rfl; rfl; first | omega | rfl) | ((first | apply AGo.gF | apply AGo.qgF | apply AGo.sgF); rfl; rfl; rfl; omega) | (apply AGo.cBT; rfl; first | (simp only [bT]; omega)) | (apply AGo.cBF; rfl; first | (simp only [bF]; omega) | exact ndF rfl) | ((first | apply AGo.gBT | apply AGo.qgBT | apply AGo.sgBT); rfl; rfl; rfl; first | (simp only [bT]; omega)) | ((first | apply AGo.gBF | apply AGo.qgBF | apply AGo.sgBF); rfl; rfl; rfl; first | (simp only [bF]; omega) | exact ndF rfl) | ((first | apply AGo.skipOp | apply AGo.qskipOp | apply AGo.sskipOp); rfl; rfl; rfl) | (apply AGo.buildSlice; (iterate 11 rfl)) | apply AGo.loopU | apply AGo.lpU | intro _ | (apply AGo.condD' ; rfl) | ((first | apply AGo.gD | apply AGo.qgD | apply AGo.sgD); rfl; rfl; rfl) | ((first | apply AGo.gS | apply AGo.qgS | apply AGo.sgS); rfl; rfl; rfl) | (apply AGo.condB; rfl) | (apply AGo.retN; rfl; rfl; rfl; rfl) | (apply AGo.retL; rfl; rfl; rfl; rfl) | (apply AGo.retL2; rfl; rfl; rfl; rfl) | (apply AGo.outL; rfl; rfl))
  all_goals first | exact ⟨rfl, rfl⟩ | trace_state
theorem wlenR_c (n : Int) : ACalls (cxg gl) 34 [.d (.iptr [.top, In n])] [] (fun r H => r = I n ∧ H = []) := by
  refine ACalls.enter Tryd.func34 rfl Tryd.ntmps34 (by kernel_rfl) rfl ?_; simp only [argEnv, Nat.reduceAdd, List.length_nil, List.length_cons]
  repeat' (first | apply AGo.seq | apply AGo.block | apply AGo.blk | apply AGo.skip | apply AGo.nil | apply AGo.qnil | apply AGo.snil | (apply AGo.region; rfl) | ((first | apply AGo.q true | apply AGo.qq true | apply AGo.sq true); rfl; rfl; rfl; rfl; first | exact True.intro | omega | (simp only [Int.toNat_natCast, Int.reduceToNat, IntKind.bits]; omega)) | (apply AGo.drawT; rfl; rfl; rfl; decide +kernel) | (apply AGo.drawQ; rfl; rfl; decide +kernel) | (apply AGo.exit; rfl) | (apply AGo.condDT; rfl; first | omega | rfl) | (apply AGo.condDF; rfl; omega) | (apply AGo.condT; rfl) | (apply AGo.condF; rfl) | (apply AGo.alloc; (iterate 5 rfl); simp only [nm, Nat.reduceAdd, spliceA, AV.cells, D.cells]) | (apply AGo.box; (iterate 6 rfl); simp only [nm, Nat.reduceAdd, spliceA, AV.cells, D.cells]) | (apply AGo.store; (iterate 9 rfl); exact Nat.le_of_ble_eq_true rfl; simp only [nm, Nat.reduceAdd, spliceA, AV.cells, D.cells]) | ((first | apply AGo.build | apply AGo.qbuild); (iterate 5 rfl); simp only [nm, Nat.reduceAdd, spliceA, AV.cells, D.cells, mkAgg, unDs, AV.unD]) | ((first | apply AGo.unguard | apply AGo.qunguard | apply AGo.sunguard); rfl; rfl) | ((first | apply AGo.gT | apply AGo.qgT | apply AGo.sgT); rfl; rfl; rfl; first | omega | rfl) | ((first | apply AGo.gF | apply AGo.qgF | apply AGo.sgF); rfl; rfl; rfl; omega) | (apply AGo.cBT; rfl; first | (simp only [bT]; omega)) | (apply AGo.cBF; rfl; first | (simp only [bF]; omega) | exact ndF rfl) | ((first | apply AGo.gBT | apply AGo.qgBT | apply AGo.sgBT); rfl; rfl; rfl; first | (simp only [bT]; omega)) | ((first | apply AGo.gBF | apply AGo.qgBF | apply AGo.sgBF); rfl; rfl; rfl; first | (simp only [bF]; omega) | exact ndF rfl) | ((first | apply AGo.skipOp | apply AGo.qskipOp | apply AGo.sskipOp); rfl; rfl; rfl) | (apply AGo.buildSlice; (iterate 11 rfl)) | apply AGo.loopU | apply AGo.lpU | intro _ | (apply AGo.condD' ; rfl) | ((first | apply AGo.gD | apply AGo.qgD | apply AGo.sgD); rfl; rfl; rfl) | ((first | apply AGo.gS | apply AGo.qgS | apply AGo.sgS); rfl; rfl; rfl) | (apply AGo.condB; rfl) | (apply AGo.retN; rfl; rfl; rfl; rfl) | (apply AGo.retL; rfl; rfl; rfl; rfl) | (apply AGo.retL2; rfl; rfl; rfl; rfl) | (apply AGo.outL; rfl; rfl))
  all_goals first | exact ⟨rfl, rfl⟩ | trace_state
abbrev howD (s : List UInt8) (b : Bool) : D := .agg [.str s, .bool b]
set_option maxHeartbeats 8000000 in
theorem co_in (c : Cel) (ci : CelI c) (s : List UInt8) (b : Bool) (px py : Int) (hs : s.length ≤ 9223372036854775807) (hpx : I64 px) (hpy : I64 py) :
    ACalls (cxg gA) 7 [.d (celD c), .d (howD s b), .d (prD px py)] [] (fun r H => r = B true ∧ H = []) := by
  have lv := colives_c
  by_cases hf : fewP c
  · have fw := few_yes (gl := gA) c hf
    obtain ⟨h0, h1, h2, h3, h4, h5⟩ := hf
    have ok := ci.ok h0 h1 h2 h3 h4 h5
    rcases Nat.lt_or_ge 100 s.length with hlen | hlen
    · refine ACalls.enter Tryd.func7 rfl Tryd.ntmps7 (by kernel_rfl) rfl ?_; simp only [argEnv, Nat.reduceAdd, List.length_nil, List.length_cons]
      repeat' (first | apply AGo.seq | apply AGo.block | apply AGo.blk | apply AGo.skip | apply AGo.nil | apply AGo.qnil | apply AGo.snil | (apply AGo.region; rfl) | ((first | apply AGo.q true | apply AGo.qq true | apply AGo.sq true); rfl; rfl; rfl; rfl; first | exact True.intro | omega | (simp only [Int.toNat_natCast, Int.reduceToNat, IntKind.bits]; omega)) | (apply AGo.callP (fw); (iterate 6 rfl)) | (apply AGo.qcallP (fw); (iterate 7 rfl)) | (apply AGo.callP (lv); (iterate 6 rfl)) | (apply AGo.qcallP (lv); (iterate 7 rfl)) | (apply AGo.drawT; rfl; rfl; rfl; decide +kernel) | (apply AGo.drawQ; rfl; rfl; decide +kernel) | (apply AGo.exit; rfl) | (apply AGo.condDT; rfl; first | omega | rfl) | (apply AGo.condDF; rfl; omega) | (apply AGo.condT; rfl) | (apply AGo.condF; rfl) | (apply AGo.alloc; (iterate 5 rfl); simp only [nm, Nat.reduceAdd, spliceA, AV.cells, D.cells]) | (apply AGo.box; (iterate 6 rfl); simp only [nm, Nat.reduceAdd, spliceA, AV.cells, D.cells]) | (apply AGo.store; (iterate 9 rfl); exact Nat.le_of_ble_eq_true rfl; simp only [nm, Nat.reduceAdd, spliceA, AV.cells, D.cells]) | ((first | apply AGo.build | apply AGo.qbuild); (iterate 5 rfl); simp only [nm, Nat.reduceAdd, spliceA, AV.cells, D.cells, mkAgg, unDs, AV.unD]) | ((first | apply AGo.unguard | apply AGo.qunguard | apply AGo.sunguard); rfl; rfl) | ((first | apply AGo.gT | apply AGo.qgT | apply AGo.sgT); rfl; rfl; rfl; first | omega | rfl) | ((first | apply AGo.gF | apply AGo.qgF | apply AGo.sgF); rfl; rfl; rfl; omega) | (apply AGo.cBT; rfl; first | (simp only [bT]; omega)) | (apply AGo.cBF; rfl; first | (simp only [bF]; omega) | exact ndF rfl) | ((first | apply AGo.gBT | apply AGo.qgBT | apply AGo.sgBT); rfl; rfl; rfl; first | (simp only [bT]; omega)) | ((first | apply AGo.gBF | apply AGo.qgBF | apply AGo.sgBF); rfl; rfl; rfl; first | (simp only [bF]; omega) | exact ndF rfl) | ((first | apply AGo.skipOp | apply AGo.qskipOp | apply AGo.sskipOp); rfl; rfl; rfl) | (apply AGo.buildSlice; (iterate 11 rfl)) | apply AGo.loopU | apply AGo.lpU | intro _ | (apply AGo.condD' ; rfl) | ((first | apply AGo.gD | apply AGo.qgD | apply AGo.sgD); rfl; rfl; rfl) | ((first | apply AGo.gS | apply AGo.qgS | apply AGo.sgS); rfl; rfl; rfl) | (apply AGo.condB; rfl) | (apply AGo.retN; rfl; rfl; rfl; rfl) | (apply AGo.retL; rfl; rfl; rfl; rfl) | (apply AGo.retL2; rfl; rfl; rfl; rfl) | (apply AGo.outL; rfl; rfl))
      all_goals first | exact ⟨rfl, rfl⟩ | (exfalso; omega) | trace_state
    · have pl := plain_c (gl := gA) s (by omega)
      cases hd : s.all isDig with
      | false =>
        rw [hd] at pl
        refine ACalls.enter Tryd.func7 rfl Tryd.ntmps7 (by kernel_rfl) rfl ?_; simp only [argEnv, Nat.reduceAdd, List.length_nil, List.length_cons]
        repeat' (first | apply AGo.seq | apply AGo.block | apply AGo.blk | apply AGo.skip | apply AGo.nil | apply AGo.qnil | apply AGo.snil | (apply AGo.region; rfl) | ((first | apply AGo.q true | apply AGo.qq true | apply AGo.sq true); rfl; rfl; rfl; rfl; first | exact True.intro | omega | (simp only [Int.toNat_natCast, Int.reduceToNat, IntKind.bits]; omega)) | (apply AGo.callP (fw); (iterate 6 rfl)) | (apply AGo.qcallP (fw); (iterate 7 rfl)) | (apply AGo.callP (lv); (iterate 6 rfl)) | (apply AGo.qcallP (lv); (iterate 7 rfl)) | (apply AGo.callP (pl); (iterate 6 rfl)) | (apply AGo.qcallP (pl); (iterate 7 rfl)) | (apply AGo.drawT; rfl; rfl; rfl; decide +kernel) | (apply AGo.drawQ; rfl; rfl; decide +kernel) | (apply AGo.exit; rfl) | (apply AGo.condDT; rfl; first | omega | rfl) | (apply AGo.condDF; rfl; omega) | (apply AGo.condT; rfl) | (apply AGo.condF; rfl) | (apply AGo.alloc; (iterate 5 rfl); simp only [nm, Nat.reduceAdd, spliceA, AV.cells, D.cells]) | (apply AGo.box; (iterate 6 rfl); simp only [nm, Nat.reduceAdd, spliceA, AV.cells, D.cells]) | (apply AGo.store; (iterate 9 rfl); exact Nat.le_of_ble_eq_true rfl; simp only [nm, Nat.reduceAdd, spliceA, AV.cells, D.cells]) | ((first | apply AGo.build | apply AGo.qbuild); (iterate 5 rfl); simp only [nm, Nat.reduceAdd, spliceA, AV.cells, D.cells, mkAgg, unDs, AV.unD]) | ((first | apply AGo.unguard | apply AGo.qunguard | apply AGo.sunguard); rfl; rfl) | ((first | apply AGo.gT | apply AGo.qgT | apply AGo.sgT); rfl; rfl; rfl; first | omega | rfl) | ((first | apply AGo.gF | apply AGo.qgF | apply AGo.sgF); rfl; rfl; rfl; omega) | (apply AGo.cBT; rfl; first | (simp only [bT]; omega)) | (apply AGo.cBF; rfl; first | (simp only [bF]; omega) | exact ndF rfl) | ((first | apply AGo.gBT | apply AGo.qgBT | apply AGo.sgBT); rfl; rfl; rfl; first | (simp only [bT]; omega)) | ((first | apply AGo.gBF | apply AGo.qgBF | apply AGo.sgBF); rfl; rfl; rfl; first | (simp only [bF]; omega) | exact ndF rfl) | ((first | apply AGo.skipOp | apply AGo.qskipOp | apply AGo.sskipOp); rfl; rfl; rfl) | (apply AGo.buildSlice; (iterate 11 rfl)) | apply AGo.loopU | apply AGo.lpU | intro _ | (apply AGo.condD' ; rfl) | ((first | apply AGo.gD | apply AGo.qgD | apply AGo.sgD); rfl; rfl; rfl) | ((first | apply AGo.gS | apply AGo.qgS | apply AGo.sgS); rfl; rfl; rfl) | (apply AGo.condB; rfl) | (apply AGo.retN; rfl; rfl; rfl; rfl) | (apply AGo.retL; rfl; rfl; rfl; rfl) | (apply AGo.retL2; rfl; rfl; rfl; rfl) | (apply AGo.outL; rfl; rfl))
        all_goals first | exact ⟨rfl, rfl⟩ | (exfalso; omega) | trace_state
      | true =>
        rw [hd] at pl
        have rr := rcright_c (gl := gA) b c ok
        have nw := wnew_c (gl := gA)
        have ad := wadd_c (gl := gA) [] s rfl hd (by simp only [List.length_nil]; omega)
        rw [List.nil_append] at ad
        have cr := (cright_c b c ok).more gtc_A
        have pn := cputnil_c b px py c
        cases hR : rightS b c with
        | false =>
          rw [hR] at rr cr
          have pb := cputbad_c s b px py c ok hR
          have ln := wlenR_c (gl := gA) (s.length : Int)
          refine ACalls.enter Tryd.func7 rfl Tryd.ntmps7 (by kernel_rfl) rfl ?_; simp only [argEnv, Nat.reduceAdd, List.length_nil, List.length_cons]
          repeat' (first | apply AGo.seq | apply AGo.block | apply AGo.blk | apply AGo.skip | apply AGo.nil | apply AGo.qnil | apply AGo.snil | (apply AGo.region; rfl) | ((first | apply AGo.q true | apply AGo.qq true | apply AGo.sq true); rfl; rfl; rfl; rfl; first | exact True.intro | omega | (simp only [Int.toNat_natCast, Int.reduceToNat, IntKind.bits]; omega)) | (apply AGo.callH [] ( nw); (iterate 6 rfl); decide; rfl; rfl; simp only [names, putH, AV.ren, AV.renL, AObj.ren, nh, Nat.reduceAdd, Nat.reduceSub]) | (apply AGo.callH [3,4] ( ad); (iterate 6 rfl); decide; rfl; rfl; simp only [names, putH, AV.ren, AV.renL, AObj.ren, nh, Nat.reduceAdd, Nat.reduceSub]) | (apply AGo.callH [3,4] ( pb); (iterate 6 rfl); decide; rfl; rfl; simp only [names, putH, AV.ren, AV.renL, AObj.ren, nh, Nat.reduceAdd, Nat.reduceSub]) | (apply AGo.callP (fw); (iterate 6 rfl)) | (apply AGo.qcallP (fw); (iterate 7 rfl)) | (apply AGo.callP (lv); (iterate 6 rfl)) | (apply AGo.qcallP (lv); (iterate 7 rfl)) | (apply AGo.callP (pl); (iterate 6 rfl)) | (apply AGo.qcallP (pl); (iterate 7 rfl)) | (apply AGo.callP (rr); (iterate 6 rfl)) | (apply AGo.qcallP (rr); (iterate 7 rfl)) | (apply AGo.callP (cr); (iterate 6 rfl)) | (apply AGo.qcallP (cr); (iterate 7 rfl)) | (apply AGo.callP (pn); (iterate 6 rfl)) | (apply AGo.qcallP (pn); (iterate 7 rfl)) | (apply AGo.drawT; rfl; rfl; rfl; decide +kernel) | (apply AGo.drawQ; rfl; rfl; decide +kernel) | (apply AGo.exit; rfl) | (apply AGo.condDT; rfl; first | omega | rfl) | (apply AGo.condDF; rfl; omega) | (apply AGo.condT; rfl) | (apply AGo.condF; rfl) | (apply AGo.alloc; (iterate 5 rfl); simp only [nm, Nat.reduceAdd, spliceA, AV.cells, D.cells]) | (apply AGo.box; (iterate 6 rfl); simp only [nm, Nat.reduceAdd, spliceA, AV.cells, D.cells]) | (apply AGo.store; (iterate 9 rfl); exact Nat.le_of_ble_eq_true rfl; simp only [nm, Nat.reduceAdd, spliceA, AV.cells, D.cells]) | ((first | apply AGo.build | apply AGo.qbuild); (iterate 5 rfl); simp only [nm, Nat.reduceAdd, spliceA, AV.cells, D.cells, mkAgg, unDs, AV.unD]) | ((first | apply AGo.unguard | apply AGo.qunguard | apply AGo.sunguard); rfl; rfl) | ((first | apply AGo.gT | apply AGo.qgT | apply AGo.sgT); rfl; rfl; rfl; first | omega | rfl) | ((first | apply AGo.gF | apply AGo.qgF | apply AGo.sgF); rfl; rfl; rfl; omega) | (apply AGo.cBT; rfl; first | (simp only [bT]; omega)) | (apply AGo.cBF; rfl; first | (simp only [bF]; omega) | exact ndF rfl) | ((first | apply AGo.gBT | apply AGo.qgBT | apply AGo.sgBT); rfl; rfl; rfl; first | (simp only [bT]; omega)) | ((first | apply AGo.gBF | apply AGo.qgBF | apply AGo.sgBF); rfl; rfl; rfl; first | (simp only [bF]; omega) | exact ndF rfl) | ((first | apply AGo.skipOp | apply AGo.qskipOp | apply AGo.sskipOp); rfl; rfl; rfl) | (apply AGo.buildSlice; (iterate 11 rfl)) | (apply AGo.qcallR (ln); (iterate 9 rfl)) | apply AGo.loopU | apply AGo.lpU | intro _ | (apply AGo.condD' ; rfl) | ((first | apply AGo.gD | apply AGo.qgD | apply AGo.sgD); rfl; rfl; rfl) | ((first | apply AGo.gS | apply AGo.qgS | apply AGo.sgS); rfl; rfl; rfl) | (apply AGo.condB; rfl) | (apply AGo.retN; rfl; rfl; rfl; rfl) | (apply AGo.retL; rfl; rfl; rfl; rfl) | (apply AGo.retL2; rfl; rfl; rfl; rfl) | (apply AGo.outL; rfl; rfl))
          all_goals first | exact ⟨rfl, rfl⟩ | (exfalso; omega) | trace_state
        | true =>
          rw [hR] at rr cr
          have pt := cput_c s b px py c ok hpx hpy hR ⟨hd, by omega⟩
          have rw' := rcrow_c (gl := gA) b px py c ok hpx hpy hR
          obtain ⟨z1, z2⟩ := put_fine (px := px) (py := py) (Fine.nil 0) hR
          rw [put_app] at pt
          generalize putRow [] b px py c = Z at *
          have hzd : (s ++ Z).all isDig = true := by rw [List.all_append, hd, z1]; rfl
          have pk := pack_c (gl := gA) (s ++ Z) (by rw [List.length_append]; omega) hzd
          have ln := wlen_c (gl := gA) (s ++ Z)
          have tx := wtext_c (gl := gA) (s ++ Z)
          have k1 : decide (packN (s ++ Z) = packN (s ++ Z)) = true := decide_eq_true rfl
          refine ACalls.enter Tryd.func7 rfl Tryd.ntmps7 (by kernel_rfl) rfl ?_; simp only [argEnv, Nat.reduceAdd, List.length_nil, List.length_cons]
          repeat' (first | apply AGo.seq | apply AGo.block | apply AGo.blk | apply AGo.skip | apply AGo.nil | apply AGo.qnil | apply AGo.snil | (apply AGo.region; rfl) | ((first | apply AGo.q true | apply AGo.qq true | apply AGo.sq true); rfl; rfl; rfl; rfl; first | exact True.intro | omega | (simp only [Int.toNat_natCast, Int.reduceToNat, IntKind.bits]; omega) | (simp only [List.length_append]; omega)) | (apply AGo.callH [] ( nw); (iterate 6 rfl); decide; rfl; rfl; simp only [names, putH, AV.ren, AV.renL, AObj.ren, nh, Nat.reduceAdd, Nat.reduceSub]) | (apply AGo.callH [3,4] ( ad); (iterate 6 rfl); decide; rfl; rfl; simp only [names, putH, AV.ren, AV.renL, AObj.ren, nh, Nat.reduceAdd, Nat.reduceSub]) | (apply AGo.callH [3,4] ( pt); (iterate 6 rfl); decide; rfl; rfl; simp only [names, putH, AV.ren, AV.renL, AObj.ren, nh, Nat.reduceAdd, Nat.reduceSub]) | (apply AGo.callH [3,4] ( ln); (iterate 6 rfl); decide; rfl; rfl; simp only [names, putH, AV.ren, AV.renL, AObj.ren, nh, Nat.reduceAdd, Nat.reduceSub]) | (apply AGo.callH [3,4] ( tx); (iterate 6 rfl); decide; rfl; rfl; simp only [names, putH, AV.ren, AV.renL, AObj.ren, nh, Nat.reduceAdd, Nat.reduceSub]) | (apply AGo.callP (fw); (iterate 6 rfl)) | (apply AGo.qcallP (fw); (iterate 7 rfl)) | (apply AGo.callP (lv); (iterate 6 rfl)) | (apply AGo.qcallP (lv); (iterate 7 rfl)) | (apply AGo.callP (pl); (iterate 6 rfl)) | (apply AGo.qcallP (pl); (iterate 7 rfl)) | (apply AGo.callP (rr); (iterate 6 rfl)) | (apply AGo.qcallP (rr); (iterate 7 rfl)) | (apply AGo.callP (cr); (iterate 6 rfl)) | (apply AGo.qcallP (cr); (iterate 7 rfl)) | (apply AGo.callP (pn); (iterate 6 rfl)) | (apply AGo.qcallP (pn); (iterate 7 rfl)) | (apply AGo.callP (rw'); (iterate 6 rfl)) | (apply AGo.qcallP (rw'); (iterate 7 rfl)) | (apply AGo.callP (pk); (iterate 6 rfl)) | (apply AGo.qcallP (pk); (iterate 7 rfl)) | (apply AGo.drawT; rfl; rfl; rfl; decide +kernel) | (apply AGo.drawQ; rfl; rfl; decide +kernel) | (apply AGo.exit; rfl) | (apply AGo.condDT; rfl; first | omega | rfl) | (apply AGo.condDF; rfl; omega) | (apply AGo.condT; rfl) | (apply AGo.condF; rfl) | (apply AGo.alloc; (iterate 5 rfl); simp only [nm, Nat.reduceAdd, spliceA, AV.cells, D.cells]) | (apply AGo.box; (iterate 6 rfl); simp only [nm, Nat.reduceAdd, spliceA, AV.cells, D.cells]) | (apply AGo.store; (iterate 9 rfl); exact Nat.le_of_ble_eq_true rfl; simp only [nm, Nat.reduceAdd, spliceA, AV.cells, D.cells]) | ((first | apply AGo.build | apply AGo.qbuild); (iterate 5 rfl); simp only [nm, Nat.reduceAdd, spliceA, AV.cells, D.cells, mkAgg, unDs, AV.unD]) | ((first | apply AGo.unguard | apply AGo.qunguard | apply AGo.sunguard); rfl; rfl) | ((first | apply AGo.gT | apply AGo.qgT | apply AGo.sgT); rfl; rfl; rfl; first | omega | rfl) | ((first | apply AGo.gF | apply AGo.qgF | apply AGo.sgF); rfl; rfl; rfl; omega) | (apply AGo.cBT; rfl; first | (simp only [bT]; omega) | (exact k1) | ((simp; done))) | (apply AGo.cBF; rfl; first | (simp only [bF]; omega) | exact ndF rfl | (exact k1) | ((simp; done))) | ((first | apply AGo.gBT | apply AGo.qgBT | apply AGo.sgBT); rfl; rfl; rfl; first | (simp only [bT]; omega) | (exact k1) | ((simp; done))) | ((first | apply AGo.gBF | apply AGo.qgBF | apply AGo.sgBF); rfl; rfl; rfl; first | (simp only [bF]; omega) | exact ndF rfl | (exact k1) | ((simp; done))) | ((first | apply AGo.skipOp | apply AGo.qskipOp | apply AGo.sskipOp); rfl; rfl; rfl) | (apply AGo.buildSlice; (iterate 11 rfl)) | apply AGo.loopU | apply AGo.lpU | intro _ | (apply AGo.condD' ; rfl) | ((first | apply AGo.gD | apply AGo.qgD | apply AGo.sgD); rfl; rfl; rfl) | ((first | apply AGo.gS | apply AGo.qgS | apply AGo.sgS); rfl; rfl; rfl) | (apply AGo.condB; rfl) | (apply AGo.retN; rfl; rfl; rfl; rfl) | (apply AGo.retL; rfl; rfl; rfl; rfl) | (apply AGo.retL2; rfl; rfl; rfl; rfl) | (apply AGo.outL; rfl; rfl))
          all_goals first | exact ⟨rfl, rfl⟩ | (exfalso; omega) | trace_state
  · have fw := few_no (gl := gA) c hf
    refine ACalls.enter Tryd.func7 rfl Tryd.ntmps7 (by kernel_rfl) rfl ?_; simp only [argEnv, Nat.reduceAdd, List.length_nil, List.length_cons]
    repeat' (first | apply AGo.seq | apply AGo.block | apply AGo.blk | apply AGo.skip | apply AGo.nil | apply AGo.qnil | apply AGo.snil | (apply AGo.region; rfl) | ((first | apply AGo.q true | apply AGo.qq true | apply AGo.sq true); rfl; rfl; rfl; rfl; first | exact True.intro | omega | (simp only [Int.toNat_natCast, Int.reduceToNat, IntKind.bits]; omega)) | (apply AGo.callP (fw); (iterate 6 rfl)) | (apply AGo.qcallP (fw); (iterate 7 rfl)) | (apply AGo.callP (lv); (iterate 6 rfl)) | (apply AGo.qcallP (lv); (iterate 7 rfl)) | (apply AGo.drawT; rfl; rfl; rfl; decide +kernel) | (apply AGo.drawQ; rfl; rfl; decide +kernel) | (apply AGo.exit; rfl) | (apply AGo.condDT; rfl; first | omega | rfl) | (apply AGo.condDF; rfl; omega) | (apply AGo.condT; rfl) | (apply AGo.condF; rfl) | (apply AGo.alloc; (iterate 5 rfl); simp only [nm, Nat.reduceAdd, spliceA, AV.cells, D.cells]) | (apply AGo.box; (iterate 6 rfl); simp only [nm, Nat.reduceAdd, spliceA, AV.cells, D.cells]) | (apply AGo.store; (iterate 9 rfl); exact Nat.le_of_ble_eq_true rfl; simp only [nm, Nat.reduceAdd, spliceA, AV.cells, D.cells]) | ((first | apply AGo.build | apply AGo.qbuild); (iterate 5 rfl); simp only [nm, Nat.reduceAdd, spliceA, AV.cells, D.cells, mkAgg, unDs, AV.unD]) | ((first | apply AGo.unguard | apply AGo.qunguard | apply AGo.sunguard); rfl; rfl) | ((first | apply AGo.gT | apply AGo.qgT | apply AGo.sgT); rfl; rfl; rfl; first | omega | rfl) | ((first | apply AGo.gF | apply AGo.qgF | apply AGo.sgF); rfl; rfl; rfl; omega) | (apply AGo.cBT; rfl; first | (simp only [bT]; omega)) | (apply AGo.cBF; rfl; first | (simp only [bF]; omega) | exact ndF rfl) | ((first | apply AGo.gBT | apply AGo.qgBT | apply AGo.sgBT); rfl; rfl; rfl; first | (simp only [bT]; omega)) | ((first | apply AGo.gBF | apply AGo.qgBF | apply AGo.sgBF); rfl; rfl; rfl; first | (simp only [bF]; omega) | exact ndF rfl) | ((first | apply AGo.skipOp | apply AGo.qskipOp | apply AGo.sskipOp); rfl; rfl; rfl) | (apply AGo.buildSlice; (iterate 11 rfl)) | apply AGo.loopU | apply AGo.lpU | intro _ | (apply AGo.condD' ; rfl) | ((first | apply AGo.gD | apply AGo.qgD | apply AGo.sgD); rfl; rfl; rfl) | ((first | apply AGo.gS | apply AGo.qgS | apply AGo.sgS); rfl; rfl; rfl) | (apply AGo.condB; rfl) | (apply AGo.retN; rfl; rfl; rfl; rfl) | (apply AGo.retL; rfl; rfl; rfl; rfl) | (apply AGo.retL2; rfl; rfl; rfl; rfl) | (apply AGo.outL; rfl; rfl))
    all_goals first | exact ⟨rfl, rfl⟩ | (exfalso; omega) | trace_state
end Go.Proofs.YtammpekpmjboiaaDoor.Av.Co
namespace Go.Proofs.YtammpekpmjboiaaDoor.Av.Co
open Go Bt Tc Wr Bl
theorem how_of (x : D) (h : TyV tys 9 56 x) : ∃ s b, x = howD s b ∧ s.length ≤ 9223372036854775807 := by
  obtain ⟨hc, ha⟩ := h
  obtain ⟨l, rfl⟩ := ha rfl
  change l.length = 2 ∧ ∀ o t', (o, t') ∈ [((0 : Nat), (9 : Nat)), (1, 4)] → TyC tys 8 t' ((l.drop o).take (szT tys t')) at hc
  obtain ⟨hl, hf⟩ := hc
  have h0 := hf 0 9 (by simp)
  have h1 := hf 1 4 (by simp)
  match l, hl with
  | [a, b], _ =>
    obtain ⟨bb, rfl⟩ := bool_of h1
    change ∃ s, [a] = [.str s] ∧ s.length ≤ 9223372036854775807 at h0
    obtain ⟨s, e, hs⟩ := h0
    obtain rfl : a = .str s := by simpa using e
    exact ⟨s, bb, rfl, hs⟩
theorem celloutPuts_law (c how pred : D) (h : TyV tys 9 54 c) (h' : TyV tys 9 56 how) (h'' : TyV tys 9 49 pred) :
    ACalls (cxg gA) 7 [.d c, .d how, .d pred] [] (fun r H => r = B true ∧ H = []) := by
  obtain ⟨c', w, ci⟩ := cel_of c h
  obtain ⟨s, b, rfl, hs⟩ := how_of how h'
  obtain ⟨x, y, rfl, hx, hy⟩ := arr2_of pred h''
  exact (co_in c' ci s b x y hs hx hy).weak ⟨Weak.d w, Weak.refl _, Weak.refl _, trivial⟩
end Go.Proofs.YtammpekpmjboiaaDoor.Av.Co
