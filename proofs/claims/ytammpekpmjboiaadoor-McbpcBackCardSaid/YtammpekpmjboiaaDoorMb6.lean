/- The laws of mcbpc. -/
import Derived.Test.YtammpekpmjboiaaDoorPj
set_option linter.unusedSimpArgs false
set_option linter.unusedVariables false
set_option maxRecDepth 100000
namespace Go.Proofs.YtammpekpmjboiaaDoor.Av
open Go
/-- an array of two numbers -/
theorem arr2_of (l : D) (h : TyV tys 9 49 l) : ∃ x y : Int, l = .agg [.int .i64 x, .int .i64 y] ∧ (-9223372036854775808 ≤ x ∧ x ≤ 9223372036854775807) ∧ (-9223372036854775808 ≤ y ∧ y ≤ 9223372036854775807) := by
  obtain ⟨hc, ha⟩ := h
  obtain ⟨l, rfl⟩ := ha rfl
  change l.length = 2 ∧ ∀ i, i < 2 → TyC tys 8 3 ((l.drop (i * szT tys 3)).take (szT tys 3)) at hc
  obtain ⟨hl, hf⟩ := hc
  have h0 := hf 0 (by decide)
  have h1 := hf 1 (by decide)
  change ∃ n, (l.drop 0).take 1 = [.int .i64 n] ∧ (Lit.int .i64 n).wf = true at h0
  change ∃ n, (l.drop 1).take 1 = [.int .i64 n] ∧ (Lit.int .i64 n).wf = true at h1
  obtain ⟨x, e0, w0⟩ := h0
  obtain ⟨y, e1, w1⟩ := h1
  match l, hl with
  | [a, b], _ =>
    simp at e0 e1
    subst e0; subst e1
    exact ⟨x, y, rfl, bd_i64 w0, bd_i64 w1⟩
end Go.Proofs.YtammpekpmjboiaaDoor.Av
namespace Go.Proofs.YtammpekpmjboiaaDoor.Av.Mb
open Go Bt Px
attribute [local irreducible] AGo ACalls
variable {gl : List (Nat × List D)}
theorem mbRow_e : mbRow true 4 3 = [48, 48, 48, 48, 48, 48, 48, 49, 48] := by decide +kernel
theorem mbIs_e : mbIs true 4 3 = true := by decide +kernel
theorem mbX_lit (b : Bool) (Dg : List UInt8) : mbX b Dg = (fun (y : Int × Int × Nat) => if y.2.1 = 0 then
    (if (y.1 + (if b = true then 0 else 12)) / 4 = 2 then ((0 : Int), (0 : Int), (6 : Int), 0)
     else ((y.1 + (if b = true then 0 else 12)) / 4, (y.1 + (if b = true then 0 else 12)) % 4, 0, y.2.2))
  else (0, 0, y.2.1, 0)) (rrun (if b = true then wdI.flatten else wdJ.flatten) Dg []) := by unfold mbX; rw [mbRs_lit]
theorem mbX_e1 : mbX true ((bitsF [64] 0).map digB) = (0, 0, 6, 0) := by rw [mbX_lit]; decide +kernel
theorem mbX_e2 : mbX false ((bitsF [64] 0).map digB) = (3, 2, 0, 3) := by rw [mbX_lit]; decide +kernel
set_option maxHeartbeats 4000000 in
theorem mb_rowI : ∀ (i : Nat), i < 21 → ∀ R, rrun wdI.flatten (wdI.flatten.getD i [] ++ R) [] = ((i : Int), 0, (wdI.flatten.getD i []).length)
  | 0, _, R => rfl
  | 1, _, R => rfl
  | 2, _, R => rfl
  | 3, _, R => rfl
  | 4, _, R => rfl
  | 5, _, R => rfl
  | 6, _, R => rfl
  | 7, _, R => rfl
  | 8, _, R => rfl
  | 9, _, R => rfl
  | 10, _, R => rfl
  | 11, _, R => rfl
  | 12, _, R => rfl
  | 13, _, R => rfl
  | 14, _, R => rfl
  | 15, _, R => rfl
  | 16, _, R => rfl
  | 17, _, R => rfl
  | 18, _, R => rfl
  | 19, _, R => rfl
  | 20, _, R => rfl
  | n + 21, h, _ => absurd h (by omega)
set_option maxHeartbeats 4000000 in
theorem mb_rowJ : ∀ (i : Nat), i < 9 → ∀ R, rrun wdJ.flatten (wdJ.flatten.getD i [] ++ R) [] = ((i : Int), 0, (wdJ.flatten.getD i []).length)
  | 0, _, R => rfl
  | 1, _, R => rfl
  | 2, _, R => rfl
  | 3, _, R => rfl
  | 4, _, R => rfl
  | 5, _, R => rfl
  | 6, _, R => rfl
  | 7, _, R => rfl
  | 8, _, R => rfl
  | n + 9, h, _ => absurd h (by omega)
theorem mbRow_at : ∀ k : _root_.Fin 6, ∀ c : _root_.Fin 4, (mbIs true k.val c.val = true → 4 * k.val + c.val < 21 ∧ mbRow true k.val c.val = wdI.flatten.getD (4 * k.val + c.val) []) ∧
    (mbIs false k.val c.val = true → 12 ≤ 4 * k.val + c.val ∧ 4 * k.val + c.val < 21 ∧ mbRow false k.val c.val = wdJ.flatten.getD (4 * k.val + c.val - 12) []) := by decide +kernel
theorem mbRow_ok : ∀ b : Bool, ∀ k : _root_.Fin 6, ∀ c : _root_.Fin 4, mbIs b k.val c.val = true → mbRow b k.val c.val ≠ [] ∧ (mbRow b k.val c.val).length ≤ 9 ∧ (mbRow b k.val c.val).all isDig = true := by decide +kernel
theorem mbIs_bd (b : Bool) (k c : Int) (h : mbIs b k c = true) : (0 ≤ k ∧ k ≤ 5) ∧ 0 ≤ c ∧ c ≤ 3 := by
  unfold mbIs at h
  rw [decide_eq_true_eq] at h
  by_cases hk : k < 0 ∨ 5 < k
  · have : mbWords b k = [] := by unfold mbWords; rw [if_pos hk]
    rw [this] at h; simp at h; omega
  · obtain ⟨h1, h2⟩ := mbWords_len b ⟨k.toNat, by omega⟩
    simp only at h1
    rw [show ((k.toNat : Nat) : Int) = k by omega] at h1
    omega
theorem mbRow_in (b : Bool) (k c : Int) (h : mbIs b k c = true) : mbRow b k c ≠ [] ∧ (mbRow b k c).length ≤ 9 ∧ (mbRow b k c).all isDig = true := by
  obtain ⟨hk, hc⟩ := mbIs_bd b k c h
  have := mbRow_ok b ⟨k.toNat, by omega⟩ ⟨c.toNat, by omega⟩
  simp only at this
  rw [show ((k.toNat : Nat) : Int) = k by omega, show ((c.toNat : Nat) : Int) = c by omega] at this
  exact this h
theorem mbRow_out (b : Bool) (k c : Int) (h : mbIs b k c = false) : mbRow b k c = [] := by
  unfold mbIs at h
  rw [decide_eq_false_iff_not] at h
  unfold mbRow; rw [if_neg h]
theorem mbX_row (b : Bool) (k c : Int) (h : mbIs b k c = true) (R : List UInt8) : mbX b (mbRow b k c ++ R) = if k = 2 then (0, 0, 6, 0) else (k, c, 0, (mbRow b k c).length) := by
  obtain ⟨hk, hc⟩ := mbIs_bd b k c h
  obtain ⟨h1, h2⟩ := mbRow_at ⟨k.toNat, by omega⟩ ⟨c.toNat, by omega⟩
  simp only at h1 h2
  rw [show ((k.toNat : Nat) : Int) = k by omega, show ((c.toNat : Nat) : Int) = c by omega] at h1 h2
  rw [mbX_lit]
  cases b with
  | true =>
    obtain ⟨a1, a2⟩ := h1 h
    have := mb_rowI _ a1 R
    rw [a2]
    simp only [if_true]
    rw [this]
    have e1 : (((4 * k.toNat + c.toNat : Nat) : Int) + 0) / 4 = k := by omega
    have e2 : (((4 * k.toNat + c.toNat : Nat) : Int) + 0) % 4 = c := by omega
    simp only [if_true, e1, e2]
  | false =>
    obtain ⟨a0, a1, a2⟩ := h2 h
    have := mb_rowJ _ (show 4 * k.toNat + c.toNat - 12 < 9 by omega) R
    rw [a2]
    simp only [Bool.false_eq_true, if_false]
    rw [this]
    have e1 : (((4 * k.toNat + c.toNat - 12 : Nat) : Int) + 12) / 4 = k := by omega
    have e2 : (((4 * k.toNat + c.toNat - 12 : Nat) : Int) + 12) % 4 = c := by omega
    simp only [if_true, e1, e2]
theorem mbX_pack (b : Bool) (k c : Int) (h : mbIs b k c = true) (w : List UInt8) (hw : w.all isDig = true) : mbX b ((bitsF (packN (mbRow b k c ++ w)) 0).map digB) = if k = 2 then (0, 0, 6, 0) else (k, c, 0, (mbRow b k c).length) := by
  have h1 := showN_drop (packN (mbRow b k c ++ w)) 0
  rw [List.drop_zero, showN_pack _ (by rw [List.all_append, (mbRow_in b k c h).2.2, hw]; rfl), padS, List.append_assoc] at h1
  rw [← h1]
  exact mbX_row b k c h _
attribute [local irreducible] mbX bitsF qfin mbRow mbIs showN packN
set_option maxHeartbeats 8000000 in
theorem mblives_c : ACalls (cxg gsp) 39 [] [] (fun r H => r = B true ∧ H = []) := by
  have r1 := mbrow_c true 4 3
  rw [mbRow_e, mbIs_e] at r1
  have t1 := mbtake_c true [64] 0 (by decide) (by decide)
  have t2 := mbtake_c false [64] 0 (by decide) (by decide)
  rw [mbX_e1] at t1
  rw [mbX_e2] at t2
  refine ACalls.enter Tryd.func39 rfl Tryd.ntmps39 (by kernel_rfl) rfl ?_; simp only [argEnv, Nat.reduceAdd, List.length_nil, List.length_cons]
  repeat' (first | apply AGo.seq | apply AGo.block | apply AGo.blk | apply AGo.skip | apply AGo.nil | apply AGo.qnil | apply AGo.snil | (apply AGo.region; rfl) | ((first | apply AGo.q true | apply AGo.qq true | apply AGo.sq true); rfl; rfl; rfl; rfl; first | exact True.intro | omega | (simp only [Int.toNat_natCast, Int.reduceToNat, IntKind.bits]; omega)) | (apply AGo.callH [] ( new_c [64]); (iterate 6 rfl); decide; rfl; rfl; simp only [names, putH, AV.ren, AV.renL, AObj.ren, nh, Nat.reduceAdd, Nat.reduceSub]) | (apply AGo.callH [0] ( t1); (iterate 6 rfl); decide; rfl; rfl; simp only [names, putH, AV.ren, AV.renL, AObj.ren, nh, Nat.reduceAdd, Nat.reduceSub]) | (apply AGo.callH [1] ( t2); (iterate 6 rfl); decide; rfl; rfl; simp only [names, putH, AV.ren, AV.renL, AObj.ren, nh, Nat.reduceAdd, Nat.reduceSub]) | (apply AGo.callP (r1); (iterate 6 rfl)) | (apply AGo.qcallP (r1); (iterate 7 rfl)) | (apply AGo.drawT; rfl; rfl; rfl; decide +kernel) | (apply AGo.drawQ; rfl; rfl; decide +kernel) | (apply AGo.exit; rfl) | (apply AGo.condDT; rfl; first | omega | rfl) | (apply AGo.condDF; rfl; omega) | (apply AGo.condT; rfl) | (apply AGo.condF; rfl) | (apply AGo.alloc; (iterate 5 rfl); simp only [nm, Nat.reduceAdd, spliceA, AV.cells, D.cells]) | (apply AGo.box; (iterate 6 rfl); simp only [nm, Nat.reduceAdd, spliceA, AV.cells, D.cells]) | (apply AGo.store; (iterate 9 rfl); exact Nat.le_of_ble_eq_true rfl; simp only [nm, Nat.reduceAdd, spliceA, AV.cells, D.cells]) | ((first | apply AGo.build | apply AGo.qbuild); (iterate 5 rfl); simp only [nm, Nat.reduceAdd, spliceA, AV.cells, D.cells, mkAgg, unDs, AV.unD]) | ((first | apply AGo.unguard | apply AGo.qunguard | apply AGo.sunguard); rfl; rfl) | ((first | apply AGo.gT | apply AGo.qgT | apply AGo.sgT); rfl; rfl; rfl; first | omega | rfl) | ((first | apply AGo.gF | apply AGo.qgF | apply AGo.sgF); rfl; rfl; rfl; omega) | (apply AGo.cBT; rfl; first | (simp only [bT]; omega)) | (apply AGo.cBF; rfl; first | (simp only [bF]; omega) | exact ndF rfl) | ((first | apply AGo.gBT | apply AGo.qgBT | apply AGo.sgBT); rfl; rfl; rfl; first | (simp only [bT]; omega)) | ((first | apply AGo.gBF | apply AGo.qgBF | apply AGo.sgBF); rfl; rfl; rfl; first | (simp only [bF]; omega) | exact ndF rfl) | ((first | apply AGo.skipOp | apply AGo.qskipOp | apply AGo.sskipOp); rfl; rfl; rfl) | (apply AGo.buildSlice; (iterate 11 rfl)) | apply AGo.loopU | apply AGo.lpU | intro _ | (apply AGo.condD' ; rfl) | ((first | apply AGo.gD | apply AGo.qgD | apply AGo.sgD); rfl; rfl; rfl) | ((first | apply AGo.gS | apply AGo.qgS | apply AGo.sgS); rfl; rfl; rfl) | (apply AGo.condB; rfl) | (apply AGo.retN; rfl; rfl; rfl; rfl) | (apply AGo.retL; rfl; rfl; rfl; rfl) | (apply AGo.retL2; rfl; rfl; rfl; rfl) | (apply AGo.outL; rfl; rfl))
  all_goals first | exact ⟨rfl, rfl⟩ | trace_state
set_option maxHeartbeats 8000000 in
theorem mcbpcRows_law (b : Bool) (k c : Int) (hk : -9223372036854775808 ≤ k ∧ k ≤ 9223372036854775807) (hc : -9223372036854775808 ≤ c ∧ c ≤ 9223372036854775807) : ACalls (cxg gsp) 8 [B b, I k, I c] [] (fun r H => r = B true ∧ H = []) := by
  have m1 := mbrow_c b k c
  have m2 := rmbrow_c (gl := gsp) b k c
  have lv := mblives_c
  cases h : mbIs b k c with
  | true =>
    have hn := (mbRow_in b k c h).1
    rw [h] at m1
    generalize mbRow b k c = M at *
    refine ACalls.enter Tryd.func8 rfl Tryd.ntmps8 (by kernel_rfl) rfl ?_; simp only [argEnv, Nat.reduceAdd, List.length_nil, List.length_cons]
    repeat' (first | apply AGo.seq | apply AGo.block | apply AGo.blk | apply AGo.skip | apply AGo.nil | apply AGo.qnil | apply AGo.snil | (apply AGo.region; rfl) | ((first | apply AGo.q true | apply AGo.qq true | apply AGo.sq true); rfl; rfl; rfl; rfl; first | exact True.intro | omega | (simp only [Int.toNat_natCast, Int.reduceToNat, IntKind.bits]; omega)) | (apply AGo.callP (m1); (iterate 6 rfl)) | (apply AGo.qcallP (m1); (iterate 7 rfl)) | (apply AGo.callP (m2); (iterate 6 rfl)) | (apply AGo.qcallP (m2); (iterate 7 rfl)) | (apply AGo.callP (lv); (iterate 6 rfl)) | (apply AGo.qcallP (lv); (iterate 7 rfl)) | (apply AGo.drawT; rfl; rfl; rfl; decide +kernel) | (apply AGo.drawQ; rfl; rfl; decide +kernel) | (apply AGo.exit; rfl) | (apply AGo.condDT; rfl; first | omega | rfl) | (apply AGo.condDF; rfl; omega) | (apply AGo.condT; rfl) | (apply AGo.condF; rfl) | (apply AGo.alloc; (iterate 5 rfl); simp only [nm, Nat.reduceAdd, spliceA, AV.cells, D.cells]) | (apply AGo.box; (iterate 6 rfl); simp only [nm, Nat.reduceAdd, spliceA, AV.cells, D.cells]) | (apply AGo.store; (iterate 9 rfl); exact Nat.le_of_ble_eq_true rfl; simp only [nm, Nat.reduceAdd, spliceA, AV.cells, D.cells]) | ((first | apply AGo.build | apply AGo.qbuild); (iterate 5 rfl); simp only [nm, Nat.reduceAdd, spliceA, AV.cells, D.cells, mkAgg, unDs, AV.unD]) | ((first | apply AGo.unguard | apply AGo.qunguard | apply AGo.sunguard); rfl; rfl) | ((first | apply AGo.gT | apply AGo.qgT | apply AGo.sgT); rfl; rfl; rfl; first | omega | rfl) | ((first | apply AGo.gF | apply AGo.qgF | apply AGo.sgF); rfl; rfl; rfl; omega) | (apply AGo.cBT; rfl; first | (simp only [bT]; omega) | (simp [hn])) | (apply AGo.cBF; rfl; first | (simp only [bF]; omega) | exact ndF rfl | (simp [hn])) | ((first | apply AGo.gBT | apply AGo.qgBT | apply AGo.sgBT); rfl; rfl; rfl; first | (simp only [bT]; omega) | (simp [hn])) | ((first | apply AGo.gBF | apply AGo.qgBF | apply AGo.sgBF); rfl; rfl; rfl; first | (simp only [bF]; omega) | exact ndF rfl | (simp [hn])) | ((first | apply AGo.skipOp | apply AGo.qskipOp | apply AGo.sskipOp); rfl; rfl; rfl) | (apply AGo.buildSlice; (iterate 11 rfl)) | apply AGo.loopU | apply AGo.lpU | intro _ | (apply AGo.condD' ; rfl) | ((first | apply AGo.gD | apply AGo.qgD | apply AGo.sgD); rfl; rfl; rfl) | ((first | apply AGo.gS | apply AGo.qgS | apply AGo.sgS); rfl; rfl; rfl) | (apply AGo.condB; rfl) | (apply AGo.retN; rfl; rfl; rfl; rfl) | (apply AGo.retL; rfl; rfl; rfl; rfl) | (apply AGo.retL2; rfl; rfl; rfl; rfl) | (apply AGo.outL; rfl; rfl))
    all_goals first | exact ⟨rfl, rfl⟩ | simp_all
  | false =>
    have hn := mbRow_out b k c h
    rw [h, hn] at m1
    rw [hn] at m2
    refine ACalls.enter Tryd.func8 rfl Tryd.ntmps8 (by kernel_rfl) rfl ?_; simp only [argEnv, Nat.reduceAdd, List.length_nil, List.length_cons]
    repeat' (first | apply AGo.seq | apply AGo.block | apply AGo.blk | apply AGo.skip | apply AGo.nil | apply AGo.qnil | apply AGo.snil | (apply AGo.region; rfl) | ((first | apply AGo.q true | apply AGo.qq true | apply AGo.sq true); rfl; rfl; rfl; rfl; first | exact True.intro | omega | (simp only [Int.toNat_natCast, Int.reduceToNat, IntKind.bits]; omega)) | (apply AGo.callP (m1); (iterate 6 rfl)) | (apply AGo.qcallP (m1); (iterate 7 rfl)) | (apply AGo.callP (m2); (iterate 6 rfl)) | (apply AGo.qcallP (m2); (iterate 7 rfl)) | (apply AGo.callP (lv); (iterate 6 rfl)) | (apply AGo.qcallP (lv); (iterate 7 rfl)) | (apply AGo.drawT; rfl; rfl; rfl; decide +kernel) | (apply AGo.drawQ; rfl; rfl; decide +kernel) | (apply AGo.exit; rfl) | (apply AGo.condDT; rfl; first | omega | rfl) | (apply AGo.condDF; rfl; omega) | (apply AGo.condT; rfl) | (apply AGo.condF; rfl) | (apply AGo.alloc; (iterate 5 rfl); simp only [nm, Nat.reduceAdd, spliceA, AV.cells, D.cells]) | (apply AGo.box; (iterate 6 rfl); simp only [nm, Nat.reduceAdd, spliceA, AV.cells, D.cells]) | (apply AGo.store; (iterate 9 rfl); exact Nat.le_of_ble_eq_true rfl; simp only [nm, Nat.reduceAdd, spliceA, AV.cells, D.cells]) | ((first | apply AGo.build | apply AGo.qbuild); (iterate 5 rfl); simp only [nm, Nat.reduceAdd, spliceA, AV.cells, D.cells, mkAgg, unDs, AV.unD]) | ((first | apply AGo.unguard | apply AGo.qunguard | apply AGo.sunguard); rfl; rfl) | ((first | apply AGo.gT | apply AGo.qgT | apply AGo.sgT); rfl; rfl; rfl; first | omega | rfl) | ((first | apply AGo.gF | apply AGo.qgF | apply AGo.sgF); rfl; rfl; rfl; omega) | (apply AGo.cBT; rfl; first | (simp only [bT]; omega)) | (apply AGo.cBF; rfl; first | (simp only [bF]; omega) | exact ndF rfl) | ((first | apply AGo.gBT | apply AGo.qgBT | apply AGo.sgBT); rfl; rfl; rfl; first | (simp only [bT]; omega)) | ((first | apply AGo.gBF | apply AGo.qgBF | apply AGo.sgBF); rfl; rfl; rfl; first | (simp only [bF]; omega) | exact ndF rfl) | ((first | apply AGo.skipOp | apply AGo.qskipOp | apply AGo.sskipOp); rfl; rfl; rfl) | (apply AGo.buildSlice; (iterate 11 rfl)) | apply AGo.loopU | apply AGo.lpU | intro _ | (apply AGo.condD' ; rfl) | ((first | apply AGo.gD | apply AGo.qgD | apply AGo.sgD); rfl; rfl; rfl) | ((first | apply AGo.gS | apply AGo.qgS | apply AGo.sgS); rfl; rfl; rfl) | (apply AGo.condB; rfl) | (apply AGo.retN; rfl; rfl; rfl; rfl) | (apply AGo.retL; rfl; rfl; rfl; rfl) | (apply AGo.retL2; rfl; rfl; rfl; rfl) | (apply AGo.outL; rfl; rfl))
    all_goals first | exact ⟨rfl, rfl⟩ | trace_state
set_option maxHeartbeats 8000000 in
theorem mcbpcTakes_law (s : List UInt8) (q : Int) (b : Bool) (hs : s.length ≤ 140737488351232) (hq : -9223372036854775808 ≤ q ∧ q ≤ 9223372036854775807) : ACalls (cxg gsp) 9 [S s, I q, B b] [] (fun r H => r = B true ∧ H = []) := by
  have lv := mblives_c
  have nw := new_c (gl := gsp) s
  rcases Nat.lt_or_ge 100 s.length with hlen | hlen
  · refine ACalls.enter Tryd.func9 rfl Tryd.ntmps9 (by kernel_rfl) rfl ?_; simp only [argEnv, Nat.reduceAdd, List.length_nil, List.length_cons]
    repeat' (first | apply AGo.seq | apply AGo.block | apply AGo.blk | apply AGo.skip | apply AGo.nil | apply AGo.qnil | apply AGo.snil | (apply AGo.region; rfl) | ((first | apply AGo.q true | apply AGo.qq true | apply AGo.sq true); rfl; rfl; rfl; rfl; first | exact True.intro | omega | (simp only [Int.toNat_natCast, Int.reduceToNat, IntKind.bits]; omega)) | (apply AGo.callH [] ( nw); (iterate 6 rfl); decide; rfl; rfl; simp only [names, putH, AV.ren, AV.renL, AObj.ren, nh, Nat.reduceAdd, Nat.reduceSub]) | (apply AGo.callP (lv); (iterate 6 rfl)) | (apply AGo.qcallP (lv); (iterate 7 rfl)) | (apply AGo.drawT; rfl; rfl; rfl; decide +kernel) | (apply AGo.drawQ; rfl; rfl; decide +kernel) | (apply AGo.exit; rfl) | (apply AGo.condDT; rfl; first | omega | rfl) | (apply AGo.condDF; rfl; omega) | (apply AGo.condT; rfl) | (apply AGo.condF; rfl) | (apply AGo.alloc; (iterate 5 rfl); simp only [nm, Nat.reduceAdd, spliceA, AV.cells, D.cells]) | (apply AGo.box; (iterate 6 rfl); simp only [nm, Nat.reduceAdd, spliceA, AV.cells, D.cells]) | (apply AGo.store; (iterate 9 rfl); exact Nat.le_of_ble_eq_true rfl; simp only [nm, Nat.reduceAdd, spliceA, AV.cells, D.cells]) | ((first | apply AGo.build | apply AGo.qbuild); (iterate 5 rfl); simp only [nm, Nat.reduceAdd, spliceA, AV.cells, D.cells, mkAgg, unDs, AV.unD]) | ((first | apply AGo.unguard | apply AGo.qunguard | apply AGo.sunguard); rfl; rfl) | ((first | apply AGo.gT | apply AGo.qgT | apply AGo.sgT); rfl; rfl; rfl; first | omega | rfl) | ((first | apply AGo.gF | apply AGo.qgF | apply AGo.sgF); rfl; rfl; rfl; omega) | (apply AGo.cBT; rfl; first | (simp only [bT]; omega)) | (apply AGo.cBF; rfl; first | (simp only [bF]; omega) | exact ndF rfl) | ((first | apply AGo.gBT | apply AGo.qgBT | apply AGo.sgBT); rfl; rfl; rfl; first | (simp only [bT]; omega)) | ((first | apply AGo.gBF | apply AGo.qgBF | apply AGo.sgBF); rfl; rfl; rfl; first | (simp only [bF]; omega) | exact ndF rfl) | ((first | apply AGo.skipOp | apply AGo.qskipOp | apply AGo.sskipOp); rfl; rfl; rfl) | (apply AGo.buildSlice; (iterate 11 rfl)) | apply AGo.loopU | apply AGo.lpU | intro _ | (apply AGo.condD' ; rfl) | ((first | apply AGo.gD | apply AGo.qgD | apply AGo.sgD); rfl; rfl; rfl) | ((first | apply AGo.gS | apply AGo.qgS | apply AGo.sgS); rfl; rfl; rfl) | (apply AGo.condB; rfl) | (apply AGo.retN; rfl; rfl; rfl; rfl) | (apply AGo.retL; rfl; rfl; rfl; rfl) | (apply AGo.retL2; rfl; rfl; rfl; rfl) | (apply AGo.outL; rfl; rfl))
    all_goals first | exact ⟨rfl, rfl⟩ | trace_state
  · by_cases hbad : q < 0 ∨ 8 * (s.length : Int) < q
    · have e3 := seek_bad (gl := gsp) s 0 q (by omega) hbad
      refine ACalls.enter Tryd.func9 rfl Tryd.ntmps9 (by kernel_rfl) rfl ?_; simp only [argEnv, Nat.reduceAdd, List.length_nil, List.length_cons]
      repeat' (first | apply AGo.seq | apply AGo.block | apply AGo.blk | apply AGo.skip | apply AGo.nil | apply AGo.qnil | apply AGo.snil | (apply AGo.region; rfl) | ((first | apply AGo.q true | apply AGo.qq true | apply AGo.sq true); rfl; rfl; rfl; rfl; first | exact True.intro | omega | (simp only [Int.toNat_natCast, Int.reduceToNat, IntKind.bits]; omega)) | (apply AGo.callH [] ( nw); (iterate 6 rfl); decide; rfl; rfl; simp only [names, putH, AV.ren, AV.renL, AObj.ren, nh, Nat.reduceAdd, Nat.reduceSub]) | (apply AGo.callH [0] ( e3); (iterate 6 rfl); decide; rfl; rfl; simp only [names, putH, AV.ren, AV.renL, AObj.ren, nh, Nat.reduceAdd, Nat.reduceSub]) | (apply AGo.callP (lv); (iterate 6 rfl)) | (apply AGo.qcallP (lv); (iterate 7 rfl)) | (apply AGo.drawT; rfl; rfl; rfl; decide +kernel) | (apply AGo.drawQ; rfl; rfl; decide +kernel) | (apply AGo.exit; rfl) | (apply AGo.condDT; rfl; first | omega | rfl) | (apply AGo.condDF; rfl; omega) | (apply AGo.condT; rfl) | (apply AGo.condF; rfl) | (apply AGo.alloc; (iterate 5 rfl); simp only [nm, Nat.reduceAdd, spliceA, AV.cells, D.cells]) | (apply AGo.box; (iterate 6 rfl); simp only [nm, Nat.reduceAdd, spliceA, AV.cells, D.cells]) | (apply AGo.store; (iterate 9 rfl); exact Nat.le_of_ble_eq_true rfl; simp only [nm, Nat.reduceAdd, spliceA, AV.cells, D.cells]) | ((first | apply AGo.build | apply AGo.qbuild); (iterate 5 rfl); simp only [nm, Nat.reduceAdd, spliceA, AV.cells, D.cells, mkAgg, unDs, AV.unD]) | ((first | apply AGo.unguard | apply AGo.qunguard | apply AGo.sunguard); rfl; rfl) | ((first | apply AGo.gT | apply AGo.qgT | apply AGo.sgT); rfl; rfl; rfl; first | omega | rfl) | ((first | apply AGo.gF | apply AGo.qgF | apply AGo.sgF); rfl; rfl; rfl; omega) | (apply AGo.cBT; rfl; first | (simp only [bT]; omega)) | (apply AGo.cBF; rfl; first | (simp only [bF]; omega) | exact ndF rfl) | ((first | apply AGo.gBT | apply AGo.qgBT | apply AGo.sgBT); rfl; rfl; rfl; first | (simp only [bT]; omega)) | ((first | apply AGo.gBF | apply AGo.qgBF | apply AGo.sgBF); rfl; rfl; rfl; first | (simp only [bF]; omega) | exact ndF rfl) | ((first | apply AGo.skipOp | apply AGo.qskipOp | apply AGo.sskipOp); rfl; rfl; rfl) | (apply AGo.buildSlice; (iterate 11 rfl)) | apply AGo.loopU | apply AGo.lpU | intro _ | (apply AGo.condD' ; rfl) | ((first | apply AGo.gD | apply AGo.qgD | apply AGo.sgD); rfl; rfl; rfl) | ((first | apply AGo.gS | apply AGo.qgS | apply AGo.sgS); rfl; rfl; rfl) | (apply AGo.condB; rfl) | (apply AGo.retN; rfl; rfl; rfl; rfl) | (apply AGo.retL; rfl; rfl; rfl; rfl) | (apply AGo.retL2; rfl; rfl; rfl; rfl) | (apply AGo.outL; rfl; rfl))
      all_goals first | exact ⟨rfl, rfl⟩ | trace_state
    · obtain ⟨p, rfl⟩ := Int.eq_ofNat_of_zero_le (show 0 ≤ q by omega)
      have e3 := seek_ok (gl := gsp) s 0 p (by omega) (by omega)
      have e4 := mbtake_c b s p (by omega) (by omega)
      have e5 := rmbtake_c (gl := gsp) b (showN s) p (by rw [showN_len]; omega) (by rw [showN_len]; omega)
      rw [showN_drop] at e5
      have e6 := at_c (gl := gsp) s ((qfin p (mbX b ((bitsF s p).map digB)) : Nat) : Int)
      have e7 := mbtakenil_c b
      generalize mbX b ((bitsF s p).map digB) = x at *
      obtain ⟨d1, d2, e, c⟩ := x
      generalize qfin p (d1, d2, e, c) = fin at *
      refine ACalls.enter Tryd.func9 rfl Tryd.ntmps9 (by kernel_rfl) rfl ?_; simp only [argEnv, Nat.reduceAdd, List.length_nil, List.length_cons]
      repeat' (first | apply AGo.seq | apply AGo.block | apply AGo.blk | apply AGo.skip | apply AGo.nil | apply AGo.qnil | apply AGo.snil | (apply AGo.region; rfl) | ((first | apply AGo.q true | apply AGo.qq true | apply AGo.sq true); rfl; rfl; rfl; rfl; first | exact True.intro | omega | (simp only [Int.toNat_natCast, Int.reduceToNat, IntKind.bits]; omega)) | (apply AGo.callH [] ( nw); (iterate 6 rfl); decide; rfl; rfl; simp only [names, putH, AV.ren, AV.renL, AObj.ren, nh, Nat.reduceAdd, Nat.reduceSub]) | (apply AGo.callH [0] ( e3); (iterate 6 rfl); decide; rfl; rfl; simp only [names, putH, AV.ren, AV.renL, AObj.ren, nh, Nat.reduceAdd, Nat.reduceSub]) | (apply AGo.callH [0] ( e4); (iterate 6 rfl); decide; rfl; rfl; simp only [names, putH, AV.ren, AV.renL, AObj.ren, nh, Nat.reduceAdd, Nat.reduceSub]) | (apply AGo.callH [0] ( e6); (iterate 6 rfl); decide; rfl; rfl; simp only [names, putH, AV.ren, AV.renL, AObj.ren, nh, Nat.reduceAdd, Nat.reduceSub]) | (apply AGo.callP (show_c s (by omega)); (iterate 6 rfl)) | (apply AGo.qcallP (show_c s (by omega)); (iterate 7 rfl)) | (apply AGo.callP (e5); (iterate 6 rfl)) | (apply AGo.qcallP (e5); (iterate 7 rfl)) | (apply AGo.callP (e7); (iterate 6 rfl)) | (apply AGo.qcallP (e7); (iterate 7 rfl)) | (apply AGo.callP (lv); (iterate 6 rfl)) | (apply AGo.qcallP (lv); (iterate 7 rfl)) | (apply AGo.drawT; rfl; rfl; rfl; decide +kernel) | (apply AGo.drawQ; rfl; rfl; decide +kernel) | (apply AGo.exit; rfl) | (apply AGo.condDT; rfl; first | omega | rfl) | (apply AGo.condDF; rfl; omega) | (apply AGo.condT; rfl) | (apply AGo.condF; rfl) | (apply AGo.alloc; (iterate 5 rfl); simp only [nm, Nat.reduceAdd, spliceA, AV.cells, D.cells]) | (apply AGo.box; (iterate 6 rfl); simp only [nm, Nat.reduceAdd, spliceA, AV.cells, D.cells]) | (apply AGo.store; (iterate 9 rfl); exact Nat.le_of_ble_eq_true rfl; simp only [nm, Nat.reduceAdd, spliceA, AV.cells, D.cells]) | ((first | apply AGo.build | apply AGo.qbuild); (iterate 5 rfl); simp only [nm, Nat.reduceAdd, spliceA, AV.cells, D.cells, mkAgg, unDs, AV.unD]) | ((first | apply AGo.unguard | apply AGo.qunguard | apply AGo.sunguard); rfl; rfl) | ((first | apply AGo.gT | apply AGo.qgT | apply AGo.sgT); rfl; rfl; rfl; first | omega | rfl) | ((first | apply AGo.gF | apply AGo.qgF | apply AGo.sgF); rfl; rfl; rfl; omega) | (apply AGo.cBT; rfl; first | (simp only [bT]; omega)) | (apply AGo.cBF; rfl; first | (simp only [bF]; omega) | exact ndF rfl) | ((first | apply AGo.gBT | apply AGo.qgBT | apply AGo.sgBT); rfl; rfl; rfl; first | (simp only [bT]; omega)) | ((first | apply AGo.gBF | apply AGo.qgBF | apply AGo.sgBF); rfl; rfl; rfl; first | (simp only [bF]; omega) | exact ndF rfl) | ((first | apply AGo.skipOp | apply AGo.qskipOp | apply AGo.sskipOp); rfl; rfl; rfl) | (apply AGo.buildSlice; (iterate 11 rfl)) | apply AGo.loopU | apply AGo.lpU | intro _ | (apply AGo.condD' ; rfl) | ((first | apply AGo.gD | apply AGo.qgD | apply AGo.sgD); rfl; rfl; rfl) | ((first | apply AGo.gS | apply AGo.qgS | apply AGo.sgS); rfl; rfl; rfl) | (apply AGo.condB; rfl) | (apply AGo.retN; rfl; rfl; rfl; rfl) | (apply AGo.retL; rfl; rfl; rfl; rfl) | (apply AGo.retL2; rfl; rfl; rfl; rfl) | (apply AGo.outL; rfl; rfl))
      all_goals first | exact ⟨rfl, rfl⟩ | trace_state
set_option maxHeartbeats 8000000 in
theorem mcbpcBack_law (b : Bool) (two : D) (w : List UInt8) (ht : TyV tys 9 49 two) (hs : w.length ≤ 140737488351232) : ACalls (cxg gsp) 10 [B b, .d two, S w] [] (fun r H => r = B true ∧ H = []) := by
  obtain ⟨k, c, rfl, hkb, hcb⟩ := arr2_of two ht
  have lv := mblives_c
  rcases Nat.lt_or_ge 60 w.length with hlen | hlen
  · refine ACalls.enter Tryd.func10 rfl Tryd.ntmps10 (by kernel_rfl) rfl ?_; simp only [argEnv, Nat.reduceAdd, List.length_nil, List.length_cons]
    repeat' (first | apply AGo.seq | apply AGo.block | apply AGo.blk | apply AGo.skip | apply AGo.nil | apply AGo.qnil | apply AGo.snil | (apply AGo.region; rfl) | ((first | apply AGo.q true | apply AGo.qq true | apply AGo.sq true); rfl; rfl; rfl; rfl; first | exact True.intro | omega | (simp only [Int.toNat_natCast, Int.reduceToNat, IntKind.bits]; omega)) | (apply AGo.callP (lv); (iterate 6 rfl)) | (apply AGo.qcallP (lv); (iterate 7 rfl)) | (apply AGo.drawT; rfl; rfl; rfl; decide +kernel) | (apply AGo.drawQ; rfl; rfl; decide +kernel) | (apply AGo.exit; rfl) | (apply AGo.condDT; rfl; first | omega | rfl) | (apply AGo.condDF; rfl; omega) | (apply AGo.condT; rfl) | (apply AGo.condF; rfl) | (apply AGo.alloc; (iterate 5 rfl); simp only [nm, Nat.reduceAdd, spliceA, AV.cells, D.cells]) | (apply AGo.box; (iterate 6 rfl); simp only [nm, Nat.reduceAdd, spliceA, AV.cells, D.cells]) | (apply AGo.store; (iterate 9 rfl); exact Nat.le_of_ble_eq_true rfl; simp only [nm, Nat.reduceAdd, spliceA, AV.cells, D.cells]) | ((first | apply AGo.build | apply AGo.qbuild); (iterate 5 rfl); simp only [nm, Nat.reduceAdd, spliceA, AV.cells, D.cells, mkAgg, unDs, AV.unD]) | ((first | apply AGo.unguard | apply AGo.qunguard | apply AGo.sunguard); rfl; rfl) | ((first | apply AGo.gT | apply AGo.qgT | apply AGo.sgT); rfl; rfl; rfl; first | omega | rfl) | ((first | apply AGo.gF | apply AGo.qgF | apply AGo.sgF); rfl; rfl; rfl; omega) | (apply AGo.cBT; rfl; first | (simp only [bT]; omega)) | (apply AGo.cBF; rfl; first | (simp only [bF]; omega) | exact ndF rfl) | ((first | apply AGo.gBT | apply AGo.qgBT | apply AGo.sgBT); rfl; rfl; rfl; first | (simp only [bT]; omega)) | ((first | apply AGo.gBF | apply AGo.qgBF | apply AGo.sgBF); rfl; rfl; rfl; first | (simp only [bF]; omega) | exact ndF rfl) | ((first | apply AGo.skipOp | apply AGo.qskipOp | apply AGo.sskipOp); rfl; rfl; rfl) | (apply AGo.buildSlice; (iterate 11 rfl)) | apply AGo.loopU | apply AGo.lpU | intro _ | (apply AGo.condD' ; rfl) | ((first | apply AGo.gD | apply AGo.qgD | apply AGo.sgD); rfl; rfl; rfl) | ((first | apply AGo.gS | apply AGo.qgS | apply AGo.sgS); rfl; rfl; rfl) | (apply AGo.condB; rfl) | (apply AGo.retN; rfl; rfl; rfl; rfl) | (apply AGo.retL; rfl; rfl; rfl; rfl) | (apply AGo.retL2; rfl; rfl; rfl; rfl) | (apply AGo.outL; rfl; rfl))
    all_goals first | exact ⟨rfl, rfl⟩ | trace_state
  · have hpl := plain_c (gl := gsp) w (by omega)
    cases hwd : w.all isDig with
    | false =>
      rw [hwd] at hpl
      refine ACalls.enter Tryd.func10 rfl Tryd.ntmps10 (by kernel_rfl) rfl ?_; simp only [argEnv, Nat.reduceAdd, List.length_nil, List.length_cons]
      repeat' (first | apply AGo.seq | apply AGo.block | apply AGo.blk | apply AGo.skip | apply AGo.nil | apply AGo.qnil | apply AGo.snil | (apply AGo.region; rfl) | ((first | apply AGo.q true | apply AGo.qq true | apply AGo.sq true); rfl; rfl; rfl; rfl; first | exact True.intro | omega | (simp only [Int.toNat_natCast, Int.reduceToNat, IntKind.bits]; omega)) | (apply AGo.callP (hpl); (iterate 6 rfl)) | (apply AGo.qcallP (hpl); (iterate 7 rfl)) | (apply AGo.callP (lv); (iterate 6 rfl)) | (apply AGo.qcallP (lv); (iterate 7 rfl)) | (apply AGo.drawT; rfl; rfl; rfl; decide +kernel) | (apply AGo.drawQ; rfl; rfl; decide +kernel) | (apply AGo.exit; rfl) | (apply AGo.condDT; rfl; first | omega | rfl) | (apply AGo.condDF; rfl; omega) | (apply AGo.condT; rfl) | (apply AGo.condF; rfl) | (apply AGo.alloc; (iterate 5 rfl); simp only [nm, Nat.reduceAdd, spliceA, AV.cells, D.cells]) | (apply AGo.box; (iterate 6 rfl); simp only [nm, Nat.reduceAdd, spliceA, AV.cells, D.cells]) | (apply AGo.store; (iterate 9 rfl); exact Nat.le_of_ble_eq_true rfl; simp only [nm, Nat.reduceAdd, spliceA, AV.cells, D.cells]) | ((first | apply AGo.build | apply AGo.qbuild); (iterate 5 rfl); simp only [nm, Nat.reduceAdd, spliceA, AV.cells, D.cells, mkAgg, unDs, AV.unD]) | ((first | apply AGo.unguard | apply AGo.qunguard | apply AGo.sunguard); rfl; rfl) | ((first | apply AGo.gT | apply AGo.qgT | apply AGo.sgT); rfl; rfl; rfl; first | omega | rfl) | ((first | apply AGo.gF | apply AGo.qgF | apply AGo.sgF); rfl; rfl; rfl; omega) | (apply AGo.cBT; rfl; first | (simp only [bT]; omega)) | (apply AGo.cBF; rfl; first | (simp only [bF]; omega) | exact ndF rfl) | ((first | apply AGo.gBT | apply AGo.qgBT | apply AGo.sgBT); rfl; rfl; rfl; first | (simp only [bT]; omega)) | ((first | apply AGo.gBF | apply AGo.qgBF | apply AGo.sgBF); rfl; rfl; rfl; first | (simp only [bF]; omega) | exact ndF rfl) | ((first | apply AGo.skipOp | apply AGo.qskipOp | apply AGo.sskipOp); rfl; rfl; rfl) | (apply AGo.buildSlice; (iterate 11 rfl)) | apply AGo.loopU | apply AGo.lpU | intro _ | (apply AGo.condD' ; rfl) | ((first | apply AGo.gD | apply AGo.qgD | apply AGo.sgD); rfl; rfl; rfl) | ((first | apply AGo.gS | apply AGo.qgS | apply AGo.sgS); rfl; rfl; rfl) | (apply AGo.condB; rfl) | (apply AGo.retN; rfl; rfl; rfl; rfl) | (apply AGo.retL; rfl; rfl; rfl; rfl) | (apply AGo.retL2; rfl; rfl; rfl; rfl) | (apply AGo.outL; rfl; rfl))
      all_goals first | exact ⟨rfl, rfl⟩ | trace_state
    | true =>
      rw [hwd] at hpl
      have m1 := mbrow_c b k c
      cases h : mbIs b k c with
      | true =>
        rw [h] at m1
        obtain ⟨k1, k2, k3⟩ := mbRow_in b k c h
        have hpk := pack_c (gl := gsp) (mbRow b k c ++ w) (by rw [List.length_append]; omega) (by rw [List.all_append, k3, hwd]; rfl)
        have hl8 : (packN (mbRow b k c ++ w)).length ≤ 100 := by
          rw [packN_len, padS_len, List.length_append]
          have := (padN_ok ((mbRow b k c).length + w.length)).2
          omega
        have t1 := mbtake_c b (packN (mbRow b k c ++ w)) 0 (by omega) (by omega)
        rw [mbX_pack b k c h w hwd] at t1
        generalize packN (mbRow b k c ++ w) = P at *
        have nw := new_c (gl := gsp) P
        by_cases h2 : k = 2
        · subst h2
          simp only [if_true] at t1
          rw [show qfin 0 (0, 0, 6, 0) = 0 by unfold qfin; rfl] at t1
          have a1 := at_c (gl := gsp) P 0
          generalize mbRow b 2 c = M at *
          refine ACalls.enter Tryd.func10 rfl Tryd.ntmps10 (by kernel_rfl) rfl ?_; simp only [argEnv, Nat.reduceAdd, List.length_nil, List.length_cons]
          repeat' (first | apply AGo.seq | apply AGo.block | apply AGo.blk | apply AGo.skip | apply AGo.nil | apply AGo.qnil | apply AGo.snil | (apply AGo.region; rfl) | ((first | apply AGo.q true | apply AGo.qq true | apply AGo.sq true); rfl; rfl; rfl; rfl; first | exact True.intro | omega | (simp only [Int.toNat_natCast, Int.reduceToNat, IntKind.bits]; omega) | (simp only [List.length_append]; omega)) | (apply AGo.callH [] ( nw); (iterate 6 rfl); decide; rfl; rfl; simp only [names, putH, AV.ren, AV.renL, AObj.ren, nh, Nat.reduceAdd, Nat.reduceSub]) | (apply AGo.callH [1] ( t1); (iterate 6 rfl); decide; rfl; rfl; simp only [names, putH, AV.ren, AV.renL, AObj.ren, nh, Nat.reduceAdd, Nat.reduceSub]) | (apply AGo.callH [1] ( a1); (iterate 6 rfl); decide; rfl; rfl; simp only [names, putH, AV.ren, AV.renL, AObj.ren, nh, Nat.reduceAdd, Nat.reduceSub]) | (apply AGo.callP (hpl); (iterate 6 rfl)) | (apply AGo.qcallP (hpl); (iterate 7 rfl)) | (apply AGo.callP (m1); (iterate 6 rfl)) | (apply AGo.qcallP (m1); (iterate 7 rfl)) | (apply AGo.callP (hpk); (iterate 6 rfl)) | (apply AGo.qcallP (hpk); (iterate 7 rfl)) | (apply AGo.callP (lv); (iterate 6 rfl)) | (apply AGo.qcallP (lv); (iterate 7 rfl)) | (apply AGo.drawT; rfl; rfl; rfl; decide +kernel) | (apply AGo.drawQ; rfl; rfl; decide +kernel) | (apply AGo.exit; rfl) | (apply AGo.condDT; rfl; first | omega | rfl) | (apply AGo.condDF; rfl; omega) | (apply AGo.condT; rfl) | (apply AGo.condF; rfl) | (apply AGo.alloc; (iterate 5 rfl); simp only [nm, Nat.reduceAdd, spliceA, AV.cells, D.cells]) | (apply AGo.box; (iterate 6 rfl); simp only [nm, Nat.reduceAdd, spliceA, AV.cells, D.cells]) | (apply AGo.store; (iterate 9 rfl); exact Nat.le_of_ble_eq_true rfl; simp only [nm, Nat.reduceAdd, spliceA, AV.cells, D.cells]) | ((first | apply AGo.build | apply AGo.qbuild); (iterate 5 rfl); simp only [nm, Nat.reduceAdd, spliceA, AV.cells, D.cells, mkAgg, unDs, AV.unD]) | ((first | apply AGo.unguard | apply AGo.qunguard | apply AGo.sunguard); rfl; rfl) | ((first | apply AGo.gT | apply AGo.qgT | apply AGo.sgT); rfl; rfl; rfl; first | omega | rfl) | ((first | apply AGo.gF | apply AGo.qgF | apply AGo.sgF); rfl; rfl; rfl; omega) | (apply AGo.cBT; rfl; first | (simp only [bT]; omega)) | (apply AGo.cBF; rfl; first | (simp only [bF]; omega) | exact ndF rfl) | ((first | apply AGo.gBT | apply AGo.qgBT | apply AGo.sgBT); rfl; rfl; rfl; first | (simp only [bT]; omega)) | ((first | apply AGo.gBF | apply AGo.qgBF | apply AGo.sgBF); rfl; rfl; rfl; first | (simp only [bF]; omega) | exact ndF rfl) | ((first | apply AGo.skipOp | apply AGo.qskipOp | apply AGo.sskipOp); rfl; rfl; rfl) | (apply AGo.buildSlice; (iterate 11 rfl)) | apply AGo.loopU | apply AGo.lpU | intro _ | (apply AGo.condD' ; rfl) | ((first | apply AGo.gD | apply AGo.qgD | apply AGo.sgD); rfl; rfl; rfl) | ((first | apply AGo.gS | apply AGo.qgS | apply AGo.sgS); rfl; rfl; rfl) | (apply AGo.condB; rfl) | (apply AGo.retN; rfl; rfl; rfl; rfl) | (apply AGo.retL; rfl; rfl; rfl; rfl) | (apply AGo.retL2; rfl; rfl; rfl; rfl) | (apply AGo.outL; rfl; rfl))
          all_goals first | exact ⟨rfl, rfl⟩ | omega | trace_state
        · simp only [if_neg h2] at t1
          rw [show qfin 0 (k, c, 0, (mbRow b k c).length) = (mbRow b k c).length by unfold qfin; simp] at t1
          have a1 := at_c (gl := gsp) P ((mbRow b k c).length : Int)
          generalize mbRow b k c = M at *
          refine ACalls.enter Tryd.func10 rfl Tryd.ntmps10 (by kernel_rfl) rfl ?_; simp only [argEnv, Nat.reduceAdd, List.length_nil, List.length_cons]
          repeat' (first | apply AGo.seq | apply AGo.block | apply AGo.blk | apply AGo.skip | apply AGo.nil | apply AGo.qnil | apply AGo.snil | (apply AGo.region; rfl) | ((first | apply AGo.q true | apply AGo.qq true | apply AGo.sq true); rfl; rfl; rfl; rfl; first | exact True.intro | omega | (simp only [Int.toNat_natCast, Int.reduceToNat, IntKind.bits]; omega) | (simp only [List.length_append]; omega)) | (apply AGo.callH [] ( nw); (iterate 6 rfl); decide; rfl; rfl; simp only [names, putH, AV.ren, AV.renL, AObj.ren, nh, Nat.reduceAdd, Nat.reduceSub]) | (apply AGo.callH [1] ( t1); (iterate 6 rfl); decide; rfl; rfl; simp only [names, putH, AV.ren, AV.renL, AObj.ren, nh, Nat.reduceAdd, Nat.reduceSub]) | (apply AGo.callH [1] ( a1); (iterate 6 rfl); decide; rfl; rfl; simp only [names, putH, AV.ren, AV.renL, AObj.ren, nh, Nat.reduceAdd, Nat.reduceSub]) | (apply AGo.callP (hpl); (iterate 6 rfl)) | (apply AGo.qcallP (hpl); (iterate 7 rfl)) | (apply AGo.callP (m1); (iterate 6 rfl)) | (apply AGo.qcallP (m1); (iterate 7 rfl)) | (apply AGo.callP (hpk); (iterate 6 rfl)) | (apply AGo.qcallP (hpk); (iterate 7 rfl)) | (apply AGo.callP (lv); (iterate 6 rfl)) | (apply AGo.qcallP (lv); (iterate 7 rfl)) | (apply AGo.drawT; rfl; rfl; rfl; decide +kernel) | (apply AGo.drawQ; rfl; rfl; decide +kernel) | (apply AGo.exit; rfl) | (apply AGo.condDT; rfl; first | omega | rfl) | (apply AGo.condDF; rfl; omega) | (apply AGo.condT; rfl) | (apply AGo.condF; rfl) | (apply AGo.alloc; (iterate 5 rfl); simp only [nm, Nat.reduceAdd, spliceA, AV.cells, D.cells]) | (apply AGo.box; (iterate 6 rfl); simp only [nm, Nat.reduceAdd, spliceA, AV.cells, D.cells]) | (apply AGo.store; (iterate 9 rfl); exact Nat.le_of_ble_eq_true rfl; simp only [nm, Nat.reduceAdd, spliceA, AV.cells, D.cells]) | ((first | apply AGo.build | apply AGo.qbuild); (iterate 5 rfl); simp only [nm, Nat.reduceAdd, spliceA, AV.cells, D.cells, mkAgg, unDs, AV.unD]) | ((first | apply AGo.unguard | apply AGo.qunguard | apply AGo.sunguard); rfl; rfl) | ((first | apply AGo.gT | apply AGo.qgT | apply AGo.sgT); rfl; rfl; rfl; first | omega | rfl) | ((first | apply AGo.gF | apply AGo.qgF | apply AGo.sgF); rfl; rfl; rfl; omega) | (apply AGo.cBT; rfl; first | (simp only [bT]; omega)) | (apply AGo.cBF; rfl; first | (simp only [bF]; omega) | exact ndF rfl) | ((first | apply AGo.gBT | apply AGo.qgBT | apply AGo.sgBT); rfl; rfl; rfl; first | (simp only [bT]; omega)) | ((first | apply AGo.gBF | apply AGo.qgBF | apply AGo.sgBF); rfl; rfl; rfl; first | (simp only [bF]; omega) | exact ndF rfl) | ((first | apply AGo.skipOp | apply AGo.qskipOp | apply AGo.sskipOp); rfl; rfl; rfl) | (apply AGo.buildSlice; (iterate 11 rfl)) | apply AGo.loopU | apply AGo.lpU | intro _ | (apply AGo.condD' ; rfl) | ((first | apply AGo.gD | apply AGo.qgD | apply AGo.sgD); rfl; rfl; rfl) | ((first | apply AGo.gS | apply AGo.qgS | apply AGo.sgS); rfl; rfl; rfl) | (apply AGo.condB; rfl) | (apply AGo.retN; rfl; rfl; rfl; rfl) | (apply AGo.retL; rfl; rfl; rfl; rfl) | (apply AGo.retL2; rfl; rfl; rfl; rfl) | (apply AGo.outL; rfl; rfl))
          all_goals first | exact ⟨rfl, rfl⟩ | omega | trace_state
      | false =>
        rw [h, mbRow_out b k c h] at m1
        refine ACalls.enter Tryd.func10 rfl Tryd.ntmps10 (by kernel_rfl) rfl ?_; simp only [argEnv, Nat.reduceAdd, List.length_nil, List.length_cons]
        repeat' (first | apply AGo.seq | apply AGo.block | apply AGo.blk | apply AGo.skip | apply AGo.nil | apply AGo.qnil | apply AGo.snil | (apply AGo.region; rfl) | ((first | apply AGo.q true | apply AGo.qq true | apply AGo.sq true); rfl; rfl; rfl; rfl; first | exact True.intro | omega | (simp only [Int.toNat_natCast, Int.reduceToNat, IntKind.bits]; omega)) | (apply AGo.callP (hpl); (iterate 6 rfl)) | (apply AGo.qcallP (hpl); (iterate 7 rfl)) | (apply AGo.callP (m1); (iterate 6 rfl)) | (apply AGo.qcallP (m1); (iterate 7 rfl)) | (apply AGo.callP (lv); (iterate 6 rfl)) | (apply AGo.qcallP (lv); (iterate 7 rfl)) | (apply AGo.drawT; rfl; rfl; rfl; decide +kernel) | (apply AGo.drawQ; rfl; rfl; decide +kernel) | (apply AGo.exit; rfl) | (apply AGo.condDT; rfl; first | omega | rfl) | (apply AGo.condDF; rfl; omega) | (apply AGo.condT; rfl) | (apply AGo.condF; rfl) | (apply AGo.alloc; (iterate 5 rfl); simp only [nm, Nat.reduceAdd, spliceA, AV.cells, D.cells]) | (apply AGo.box; (iterate 6 rfl); simp only [nm, Nat.reduceAdd, spliceA, AV.cells, D.cells]) | (apply AGo.store; (iterate 9 rfl); exact Nat.le_of_ble_eq_true rfl; simp only [nm, Nat.reduceAdd, spliceA, AV.cells, D.cells]) | ((first | apply AGo.build | apply AGo.qbuild); (iterate 5 rfl); simp only [nm, Nat.reduceAdd, spliceA, AV.cells, D.cells, mkAgg, unDs, AV.unD]) | ((first | apply AGo.unguard | apply AGo.qunguard | apply AGo.sunguard); rfl; rfl) | ((first | apply AGo.gT | apply AGo.qgT | apply AGo.sgT); rfl; rfl; rfl; first | omega | rfl) | ((first | apply AGo.gF | apply AGo.qgF | apply AGo.sgF); rfl; rfl; rfl; omega) | (apply AGo.cBT; rfl; first | (simp only [bT]; omega)) | (apply AGo.cBF; rfl; first | (simp only [bF]; omega) | exact ndF rfl) | ((first | apply AGo.gBT | apply AGo.qgBT | apply AGo.sgBT); rfl; rfl; rfl; first | (simp only [bT]; omega)) | ((first | apply AGo.gBF | apply AGo.qgBF | apply AGo.sgBF); rfl; rfl; rfl; first | (simp only [bF]; omega) | exact ndF rfl) | ((first | apply AGo.skipOp | apply AGo.qskipOp | apply AGo.sskipOp); rfl; rfl; rfl) | (apply AGo.buildSlice; (iterate 11 rfl)) | apply AGo.loopU | apply AGo.lpU | intro _ | (apply AGo.condD' ; rfl) | ((first | apply AGo.gD | apply AGo.qgD | apply AGo.sgD); rfl; rfl; rfl) | ((first | apply AGo.gS | apply AGo.qgS | apply AGo.sgS); rfl; rfl; rfl) | (apply AGo.condB; rfl) | (apply AGo.retN; rfl; rfl; rfl; rfl) | (apply AGo.retL; rfl; rfl; rfl; rfl) | (apply AGo.retL2; rfl; rfl; rfl; rfl) | (apply AGo.outL; rfl; rfl))
        all_goals first | exact ⟨rfl, rfl⟩ | trace_state
end Go.Proofs.YtammpekpmjboiaaDoor.Av.Mb
