/- Cells: Put. -/
import Derived.Test.YtbfojhfiemcnpaaDoorCo5
set_option linter.unusedSimpArgs false
set_option linter.unusedVariables false
set_option maxRecDepth 100000
namespace Go.Proofs.YtbfojhfiemcnpaaDoor.Av.Co
open Go Bt Tc Wr Bl Mb Cb Mv
attribute [local irreducible] AGo ACalls
variable {gl : List (Nat × List D)}
/-- a row, and how long it may be -/
def Fine (W : List UInt8) (n : Nat) : Prop := W.all isDig = true ∧ W.length ≤ n
theorem Fine.app {W r : List UInt8} {n m : Nat} (h : Fine W n) (k : Fine r m) : Fine (W ++ r) (n + m) := by
  obtain ⟨h1, h2⟩ := h
  obtain ⟨k1, k2⟩ := k
  exact ⟨by rw [List.all_append, h1, k1]; rfl, by rw [List.length_append]; omega⟩
theorem Fine.add {W r : List UInt8} {n m : Nat} (h : Fine W n) (k : Fine r m) (hl : n + m ≤ 100000000) : ACalls (cxg gl) 21 [.ptr 0 0, S r] (WO W) (fun x H => x = I 0 ∧ H = WO (W ++ r)) :=
  wadd_c W r h.1 k.1 (by have := h.2; have := k.2; omega)
theorem mrow_fine0 : ∀ j : _root_.Fin 64, (mrow ((j.val : Int) - 32)).all isDig = true ∧ (mrow ((j.val : Int) - 32)).length ≤ 13 := by decide +kernel
theorem mrow_fine (n : Int) : Fine (mrow (wrapS n)) 13 := by
  have hb := wrapS_bd n
  have := mrow_fine0 ⟨(wrapS n + 32).toNat, by omega⟩
  simp only at this
  rwa [show (((wrapS n + 32).toNat : Nat) : Int) - 32 = wrapS n by omega] at this
theorem st_fine (n : Int) : Fine (stRow n) 2 := by
  unfold stRow
  split
  · exact ⟨rfl, by decide⟩
  split
  · exact ⟨rfl, by decide⟩
  split
  · exact ⟨rfl, by decide⟩
  split
  · exact ⟨rfl, by decide⟩
  · exact ⟨rfl, by decide⟩
theorem cb_fine (b : Bool) (p : Int) (h : 0 ≤ p ∧ p ≤ 15) : Fine (cbRow b p) 6 := ⟨(cbRow_ok b p h).2.2, (cbRow_ok b p h).2.1⟩
theorem bl_fine {b : Bool} {dc : Int} {l : List Ev} (h : blMay b dc l = true) : Fine (blRow b dc l) 2000 := blRow_ok b dc l h
theorem head_fine {b : Bool} {c : Cel} (hs : 0 ≤ c.stuff ∧ c.stuff ≤ 64) (h : c.skip = true ∨ headMay b c = true) : Fine (headRow b c) 700 := by
  obtain ⟨s1, s2⟩ := stuffRow_ok b
  obtain ⟨k1, k2⟩ := rep_ok (stuffRow b) s1 c.stuff.toNat
  obtain ⟨t1, t2⟩ := tailRow_ok h
  have : c.stuff.toNat * (stuffRow b).length ≤ 64 * 10 := Nat.mul_le_mul (by omega) s2
  unfold headRow
  exact ⟨by rw [List.all_append, k1, t1]; rfl, by rw [List.length_append, k2]; omega⟩
def mvR (c : Cel) (m p : Int) : List UInt8 := if intraS c.kind = true then [] else mrow (wrapS (m - wrapS p))
def stR (c : Cel) : List UInt8 := if steppedS c.kind = true then stRow c.step else []
/-- what stands in the writer behind a cell -/
def putRow (w : List UInt8) (b : Bool) (px py : Int) (c : Cel) : List UInt8 := if c.skip = true then w ++ headRow b c else
  ((((((((((w ++ headRow b c) ++ cbRow (intraS c.kind) (codedS c / 2 ^ 2)) ++ stR c) ++ mvR c c.mx px) ++ mvR c c.my py) ++ blRow (intraS c.kind) c.d0 c.e0) ++ blRow (intraS c.kind) c.d1 c.e1) ++ blRow (intraS c.kind) c.d2 c.e2) ++ blRow (intraS c.kind) c.d3 c.e3) ++ blRow (intraS c.kind) c.d4 c.e4) ++ blRow (intraS c.kind) c.d5 c.e5
theorem right_inv {b : Bool} {c : Cel} (h : rightS b c = true) : (0 ≤ c.stuff ∧ c.stuff ≤ 64) ∧ (c.skip = true ∨ (c.skip = false ∧ headMay b c = true ∧ stepMay c = true ∧ vectorS c = true ∧ blksMay c = true)) := by
  unfold rightS at h
  split at h
  · cases h
  · rename_i hs
    refine ⟨by omega, ?_⟩
    split at h
    · rename_i hk; exact .inl hk
    · rename_i hk
      simp only [Bool.and_eq_true] at h
      exact .inr ⟨by simpa using hk, h.1.1.1, h.1.1.2, h.1.2, h.2⟩
abbrev prD (px py : Int) : D := .agg [In px, In py]
attribute [local irreducible] evsD octets packN mbRow mbIs codedS rightS headRow cbRow stRow mrow blRow blMay wrapS stIs
set_option maxHeartbeats 8000000 in
theorem cputbad_c (w : List UInt8) (b : Bool) (px py : Int) (c : Cel) (ok : CelOk c) (h : rightS b c = false) : ACalls (cxg gA) 15 [.ptr 0 0, B b, .d (prD px py), .d (celD c)] (WO w) (fun r H => r = I 12 ∧ H = WO w) := by
  have rc := (cright_c b c ok).more gtc_A
  rw [h] at rc
  refine ACalls.enter Tryd.func15 rfl Tryd.ntmps15 (by kernel_rfl) rfl ?_; simp only [argEnv, Nat.reduceAdd, List.length_nil, List.length_cons]
  repeat' (first | apply AGo.seq | apply AGo.block | apply AGo.nil | (apply AGo.region; rfl) | (apply AGo.q true; rfl; rfl; rfl; rfl; first | exact True.intro | omega | (simp only [Int.toNat_natCast, Int.reduceToNat, IntKind.bits]; omega)) | (apply AGo.callP (rc); (iterate 6 rfl)) | (apply AGo.condT; rfl) | (apply AGo.condF; rfl) | (apply AGo.box; (iterate 6 rfl); simp only [nm, Nat.reduceAdd, spliceA, AV.cells, D.cells]) | intro _ | (apply AGo.retN; rfl; rfl; rfl; rfl))
  all_goals first | exact ⟨rfl, rfl⟩ | trace_state
set_option maxHeartbeats 40000000 in
theorem cput_c (w : List UInt8) (b : Bool) (px py : Int) (c : Cel) (ok : CelOk c) (hpx : I64 px) (hpy : I64 py) (h : rightS b c = true) (hw : Fine w 10000000) : ACalls (cxg gA) 15 [.ptr 0 0, B b, .d (prD px py), .d (celD c)] (WO w) (fun r H => r = I 0 ∧ H = WO (putRow w b px py c)) := by
  have rc := (cright_c b c ok).more gtc_A
  rw [h] at rc
  obtain ⟨hs, hcase⟩ := right_inv h
  have hh : c.skip = true ∨ headMay b c = true := by rcases hcase with h1 | h1; exact .inl h1; exact .inr h1.2.1
  have hc := head_c w b c hs hh hw.1 (by have := hw.2; omega)
  have f0 := hw.app (head_fine hs hh)
  unfold putRow
  rcases hcase with hk | ⟨hk, hm, hst, hv, hbl⟩
  · rw [if_pos hk]
    refine ACalls.enter Tryd.func15 rfl Tryd.ntmps15 (by kernel_rfl) rfl ?_; simp only [argEnv, Nat.reduceAdd, List.length_nil, List.length_cons]
    repeat' (first | apply AGo.seq | apply AGo.block | apply AGo.blk | apply AGo.skip | apply AGo.nil | apply AGo.qnil | (apply AGo.region; rfl) | ((first | apply AGo.q true | apply AGo.qq true); rfl; rfl; rfl; rfl; first | exact True.intro | omega | (simp only [Int.toNat_natCast, Int.reduceToNat, IntKind.bits]; omega)) | (apply AGo.callH [0,1] ( hc); (iterate 6 rfl); decide; rfl; rfl; simp only [names, putH, AV.ren, AV.renL, AObj.ren, nh, Nat.reduceAdd, Nat.reduceSub]) | (apply AGo.callP (rc); (iterate 6 rfl)) | (apply AGo.qcallP (rc); (iterate 7 rfl)) | (apply AGo.drawQ; rfl; rfl; decide +kernel) | (apply AGo.exit; rfl) | (apply AGo.condDT; rfl; first | omega | rfl) | (apply AGo.condDF; rfl; omega) | (apply AGo.condT; rfl) | (apply AGo.condF; rfl) | (apply AGo.box; (iterate 6 rfl); simp only [nm, Nat.reduceAdd, spliceA, AV.cells, D.cells]) | (apply AGo.cBT; rfl; first | (simp only [bT]; omega) | (exact hk)) | (apply AGo.cBF; rfl; first | (simp only [bF]; omega) | exact ndF rfl | (exact hk)) | apply AGo.loopU | apply AGo.lpU | intro _ | (apply AGo.retN; rfl; rfl; rfl; rfl))
    all_goals first | exact ⟨rfl, rfl⟩ | trace_state
  · rw [if_neg (by rw [hk]; decide)]
    have hcd := codedS_bd c
    have ic := intra_c (gl := gA) c.kind
    have sc := stepped_c (gl := gA) c.kind
    have cc := coded_c (gl := gA) c
    have cb := cbrow_c (gl := gA) (intraS c.kind) (codedS c / 2 ^ 2)
    rw [decide_eq_true (by omega)] at cb
    have tc := strow_c (gl := gA) c.step
    unfold blksMay at hbl
    simp only [Bool.and_eq_true] at hbl
    obtain ⟨⟨⟨⟨⟨b0, b1⟩, b2⟩, b3⟩, b4⟩, b5⟩ := hbl
    have f1 := f0.app (cb_fine (intraS c.kind) (codedS c / 2 ^ 2) (by omega))
    have a0 := f0.add (gl := gA) (cb_fine (intraS c.kind) (codedS c / 2 ^ 2) (by omega)) (by decide)
    have w1 := wrap_c (gl := gA) px hpx
    have w2 := wrap_c (gl := gA) py hpy
    have q1 := wrapS_bd px
    have q2 := wrapS_bd py
    unfold stR mvR
    rcases Bool.eq_false_or_eq_true (intraS c.kind) with hI | hI
    · rcases Bool.eq_false_or_eq_true (steppedS c.kind) with hT | hT
      · have hI2 := hI
        have hTT := hT
        have f2 := f1.app (st_fine c.step)
        have a1 := f1.add (gl := gA) (st_fine c.step) (by decide)
        have f3 := f2
        have f4 := f3
        skip
        rw [if_pos (by rw [hT]), if_pos (by rw [hI]), if_pos (by rw [hI]), List.append_nil, List.append_nil]
        have p0 := (bput_c _ (intraS c.kind) c.d0 c.e0 ok.e0.2 b0 f4.1 (by have := f4.2; omega)).more gtc_A
        have f5 := f4.app (bl_fine b0)
        have p1 := (bput_c _ (intraS c.kind) c.d1 c.e1 ok.e1.2 b1 f5.1 (by have := f5.2; omega)).more gtc_A
        have f6 := f5.app (bl_fine b1)
        have p2 := (bput_c _ (intraS c.kind) c.d2 c.e2 ok.e2.2 b2 f6.1 (by have := f6.2; omega)).more gtc_A
        have f7 := f6.app (bl_fine b2)
        have p3 := (bput_c _ (intraS c.kind) c.d3 c.e3 ok.e3.2 b3 f7.1 (by have := f7.2; omega)).more gtc_A
        have f8 := f7.app (bl_fine b3)
        have p4 := (bput_c _ (intraS c.kind) c.d4 c.e4 ok.e4.2 b4 f8.1 (by have := f8.2; omega)).more gtc_A
        have f9 := f8.app (bl_fine b4)
        have p5 := (bput_c _ (intraS c.kind) c.d5 c.e5 ok.e5.2 b5 f9.1 (by have := f9.2; omega)).more gtc_A
        rw [hI] at ic cb p0 p1 p2 p3 p4 p5 a0 a1  ⊢
        rw [hT] at sc
        refine ACalls.enter Tryd.func15 rfl Tryd.ntmps15 (by kernel_rfl) rfl ?_; simp only [argEnv, Nat.reduceAdd, List.length_nil, List.length_cons]
        repeat' (first | (apply AGo.drawC (hs := [0, 1, 2, 4, 5, 6, 7, 8, 9, 10, 11]) (pre := [3]) (n := 12); exact fun _ _ _ h => h; rfl; rfl; rfl; decide +kernel; (repeat (first | exact Heads.nil _ | (apply Heads.cons true; (iterate 5 rfl); first | exact True.intro | omega))); apply PGo.call (ic); (iterate 8 rfl); simp only [names, putH, AV.ren, AV.renL, AObj.ren, nh, Nat.reduceAdd, Nat.reduceSub]; apply PGo.nil) | apply AGo.seq | apply AGo.block | apply AGo.blk | apply AGo.skip | apply AGo.nil | apply AGo.qnil | (apply AGo.region; rfl) | ((first | apply AGo.q true | apply AGo.qq true); rfl; rfl; rfl; rfl; first | exact True.intro | omega | (simp only [Int.toNat_natCast, Int.reduceToNat, IntKind.bits]; omega)) | (apply AGo.callH [0,1] ( hc); (iterate 6 rfl); decide; rfl; rfl; simp only [names, putH, AV.ren, AV.renL, AObj.ren, nh, Nat.reduceAdd, Nat.reduceSub]) | (apply AGo.callH [0,1] ( a0); (iterate 6 rfl); decide; rfl; rfl; simp only [names, putH, AV.ren, AV.renL, AObj.ren, nh, Nat.reduceAdd, Nat.reduceSub]) | (apply AGo.callH [0,1] ( a1); (iterate 6 rfl); decide; rfl; rfl; simp only [names, putH, AV.ren, AV.renL, AObj.ren, nh, Nat.reduceAdd, Nat.reduceSub]) | (apply AGo.callH [0,1] ( p0); (iterate 6 rfl); decide; rfl; rfl; simp only [names, putH, AV.ren, AV.renL, AObj.ren, nh, Nat.reduceAdd, Nat.reduceSub]) | (apply AGo.callH [0,1] ( p1); (iterate 6 rfl); decide; rfl; rfl; simp only [names, putH, AV.ren, AV.renL, AObj.ren, nh, Nat.reduceAdd, Nat.reduceSub]) | (apply AGo.callH [0,1] ( p2); (iterate 6 rfl); decide; rfl; rfl; simp only [names, putH, AV.ren, AV.renL, AObj.ren, nh, Nat.reduceAdd, Nat.reduceSub]) | (apply AGo.callH [0,1] ( p3); (iterate 6 rfl); decide; rfl; rfl; simp only [names, putH, AV.ren, AV.renL, AObj.ren, nh, Nat.reduceAdd, Nat.reduceSub]) | (apply AGo.callH [0,1] ( p4); (iterate 6 rfl); decide; rfl; rfl; simp only [names, putH, AV.ren, AV.renL, AObj.ren, nh, Nat.reduceAdd, Nat.reduceSub]) | (apply AGo.callH [0,1] ( p5); (iterate 6 rfl); decide; rfl; rfl; simp only [names, putH, AV.ren, AV.renL, AObj.ren, nh, Nat.reduceAdd, Nat.reduceSub]) | (apply AGo.callP (rc); (iterate 6 rfl)) | (apply AGo.qcallP (rc); (iterate 7 rfl)) | (apply AGo.callP (ic); (iterate 6 rfl)) | (apply AGo.qcallP (ic); (iterate 7 rfl)) | (apply AGo.callP (sc); (iterate 6 rfl)) | (apply AGo.qcallP (sc); (iterate 7 rfl)) | (apply AGo.callP (cc); (iterate 6 rfl)) | (apply AGo.qcallP (cc); (iterate 7 rfl)) | (apply AGo.callP (cb); (iterate 6 rfl)) | (apply AGo.qcallP (cb); (iterate 7 rfl)) | (apply AGo.callP (tc); (iterate 6 rfl)) | (apply AGo.qcallP (tc); (iterate 7 rfl)) | (apply AGo.callP (w1); (iterate 6 rfl)) | (apply AGo.qcallP (w1); (iterate 7 rfl)) | (apply AGo.callP (w2); (iterate 6 rfl)) | (apply AGo.qcallP (w2); (iterate 7 rfl)) | (apply AGo.drawQ; rfl; rfl; decide +kernel) | (apply AGo.exit; rfl) | (apply AGo.condDT; rfl; first | omega | rfl) | (apply AGo.condDF; rfl; omega) | (apply AGo.condT; rfl) | (apply AGo.condF; rfl) | (apply AGo.box; (iterate 6 rfl); simp only [nm, Nat.reduceAdd, spliceA, AV.cells, D.cells]) | (apply AGo.cBT; rfl; first | (simp only [bT]; omega) | (exact hk)) | (apply AGo.cBF; rfl; first | (simp only [bF]; omega) | exact ndF rfl | (exact hk)) | apply AGo.loopU | apply AGo.lpU | intro _ | (apply AGo.retN; rfl; rfl; rfl; rfl))
        all_goals first | exact ⟨rfl, rfl⟩ | (exfalso; omega) | trace_state
      · have hI2 := hI
        have hTT := hT
        have f2 := f1
        skip
        have f3 := f2
        have f4 := f3
        skip
        rw [if_neg (by rw [hT]; decide), if_pos (by rw [hI]), if_pos (by rw [hI]), List.append_nil, List.append_nil, List.append_nil]
        have p0 := (bput_c _ (intraS c.kind) c.d0 c.e0 ok.e0.2 b0 f4.1 (by have := f4.2; omega)).more gtc_A
        have f5 := f4.app (bl_fine b0)
        have p1 := (bput_c _ (intraS c.kind) c.d1 c.e1 ok.e1.2 b1 f5.1 (by have := f5.2; omega)).more gtc_A
        have f6 := f5.app (bl_fine b1)
        have p2 := (bput_c _ (intraS c.kind) c.d2 c.e2 ok.e2.2 b2 f6.1 (by have := f6.2; omega)).more gtc_A
        have f7 := f6.app (bl_fine b2)
        have p3 := (bput_c _ (intraS c.kind) c.d3 c.e3 ok.e3.2 b3 f7.1 (by have := f7.2; omega)).more gtc_A
        have f8 := f7.app (bl_fine b3)
        have p4 := (bput_c _ (intraS c.kind) c.d4 c.e4 ok.e4.2 b4 f8.1 (by have := f8.2; omega)).more gtc_A
        have f9 := f8.app (bl_fine b4)
        have p5 := (bput_c _ (intraS c.kind) c.d5 c.e5 ok.e5.2 b5 f9.1 (by have := f9.2; omega)).more gtc_A
        rw [hI] at ic cb p0 p1 p2 p3 p4 p5 a0  ⊢
        rw [hT] at sc
        refine ACalls.enter Tryd.func15 rfl Tryd.ntmps15 (by kernel_rfl) rfl ?_; simp only [argEnv, Nat.reduceAdd, List.length_nil, List.length_cons]
        repeat' (first | (apply AGo.drawC (hs := [0, 1, 2, 4, 5, 6, 7, 8, 9, 10, 11]) (pre := [3]) (n := 12); exact fun _ _ _ h => h; rfl; rfl; rfl; decide +kernel; (repeat (first | exact Heads.nil _ | (apply Heads.cons true; (iterate 5 rfl); first | exact True.intro | omega))); apply PGo.call (ic); (iterate 8 rfl); simp only [names, putH, AV.ren, AV.renL, AObj.ren, nh, Nat.reduceAdd, Nat.reduceSub]; apply PGo.nil) | apply AGo.seq | apply AGo.block | apply AGo.blk | apply AGo.skip | apply AGo.nil | apply AGo.qnil | (apply AGo.region; rfl) | ((first | apply AGo.q true | apply AGo.qq true); rfl; rfl; rfl; rfl; first | exact True.intro | omega | (simp only [Int.toNat_natCast, Int.reduceToNat, IntKind.bits]; omega)) | (apply AGo.callH [0,1] ( hc); (iterate 6 rfl); decide; rfl; rfl; simp only [names, putH, AV.ren, AV.renL, AObj.ren, nh, Nat.reduceAdd, Nat.reduceSub]) | (apply AGo.callH [0,1] ( a0); (iterate 6 rfl); decide; rfl; rfl; simp only [names, putH, AV.ren, AV.renL, AObj.ren, nh, Nat.reduceAdd, Nat.reduceSub]) | (apply AGo.callH [0,1] ( p0); (iterate 6 rfl); decide; rfl; rfl; simp only [names, putH, AV.ren, AV.renL, AObj.ren, nh, Nat.reduceAdd, Nat.reduceSub]) | (apply AGo.callH [0,1] ( p1); (iterate 6 rfl); decide; rfl; rfl; simp only [names, putH, AV.ren, AV.renL, AObj.ren, nh, Nat.reduceAdd, Nat.reduceSub]) | (apply AGo.callH [0,1] ( p2); (iterate 6 rfl); decide; rfl; rfl; simp only [names, putH, AV.ren, AV.renL, AObj.ren, nh, Nat.reduceAdd, Nat.reduceSub]) | (apply AGo.callH [0,1] ( p3); (iterate 6 rfl); decide; rfl; rfl; simp only [names, putH, AV.ren, AV.renL, AObj.ren, nh, Nat.reduceAdd, Nat.reduceSub]) | (apply AGo.callH [0,1] ( p4); (iterate 6 rfl); decide; rfl; rfl; simp only [names, putH, AV.ren, AV.renL, AObj.ren, nh, Nat.reduceAdd, Nat.reduceSub]) | (apply AGo.callH [0,1] ( p5); (iterate 6 rfl); decide; rfl; rfl; simp only [names, putH, AV.ren, AV.renL, AObj.ren, nh, Nat.reduceAdd, Nat.reduceSub]) | (apply AGo.callP (rc); (iterate 6 rfl)) | (apply AGo.qcallP (rc); (iterate 7 rfl)) | (apply AGo.callP (ic); (iterate 6 rfl)) | (apply AGo.qcallP (ic); (iterate 7 rfl)) | (apply AGo.callP (sc); (iterate 6 rfl)) | (apply AGo.qcallP (sc); (iterate 7 rfl)) | (apply AGo.callP (cc); (iterate 6 rfl)) | (apply AGo.qcallP (cc); (iterate 7 rfl)) | (apply AGo.callP (cb); (iterate 6 rfl)) | (apply AGo.qcallP (cb); (iterate 7 rfl)) | (apply AGo.callP (tc); (iterate 6 rfl)) | (apply AGo.qcallP (tc); (iterate 7 rfl)) | (apply AGo.callP (w1); (iterate 6 rfl)) | (apply AGo.qcallP (w1); (iterate 7 rfl)) | (apply AGo.callP (w2); (iterate 6 rfl)) | (apply AGo.qcallP (w2); (iterate 7 rfl)) | (apply AGo.drawQ; rfl; rfl; decide +kernel) | (apply AGo.exit; rfl) | (apply AGo.condDT; rfl; first | omega | rfl) | (apply AGo.condDF; rfl; omega) | (apply AGo.condT; rfl) | (apply AGo.condF; rfl) | (apply AGo.box; (iterate 6 rfl); simp only [nm, Nat.reduceAdd, spliceA, AV.cells, D.cells]) | (apply AGo.cBT; rfl; first | (simp only [bT]; omega) | (exact hk)) | (apply AGo.cBF; rfl; first | (simp only [bF]; omega) | exact ndF rfl | (exact hk)) | apply AGo.loopU | apply AGo.lpU | intro _ | (apply AGo.retN; rfl; rfl; rfl; rfl))
        all_goals first | exact ⟨rfl, rfl⟩ | (exfalso; omega) | trace_state
    · rcases Bool.eq_false_or_eq_true (steppedS c.kind) with hT | hT
      · have hI2 := hI
        have hTT := hT
        have f2 := f1.app (st_fine c.step)
        have a1 := f1.add (gl := gA) (st_fine c.step) (by decide)
        have f3 := f2.app (mrow_fine (c.mx - wrapS px))
        have f4 := f3.app (mrow_fine (c.my - wrapS py))
        have hvv : wrapS c.mx = c.mx ∧ wrapS c.my = c.my := by
          unfold vectorS at hv
          rw [hI] at hv
          simpa using hv
        have v1 := wrapS_bd c.mx
        have v2 := wrapS_bd c.my
        rw [hvv.1] at v1
        rw [hvv.2] at v2
        have w3 := wrap_c (gl := gA) (c.mx - wrapS px) (by omega)
        have w4 := wrap_c (gl := gA) (c.my - wrapS py) (by omega)
        have m1 := (mrow_c (wrapS (c.mx - wrapS px))).more gmv_A
        have m2 := (mrow_c (wrapS (c.my - wrapS py))).more gmv_A
        have a2 := f2.add (gl := gA) (mrow_fine (c.mx - wrapS px)) (by decide)
        have a3 := f3.add (gl := gA) (mrow_fine (c.my - wrapS py)) (by decide)
        rw [if_pos (by rw [hT]), if_neg (by rw [hI]; decide), if_neg (by rw [hI]; decide)]
        have p0 := (bput_c _ (intraS c.kind) c.d0 c.e0 ok.e0.2 b0 f4.1 (by have := f4.2; omega)).more gtc_A
        have f5 := f4.app (bl_fine b0)
        have p1 := (bput_c _ (intraS c.kind) c.d1 c.e1 ok.e1.2 b1 f5.1 (by have := f5.2; omega)).more gtc_A
        have f6 := f5.app (bl_fine b1)
        have p2 := (bput_c _ (intraS c.kind) c.d2 c.e2 ok.e2.2 b2 f6.1 (by have := f6.2; omega)).more gtc_A
        have f7 := f6.app (bl_fine b2)
        have p3 := (bput_c _ (intraS c.kind) c.d3 c.e3 ok.e3.2 b3 f7.1 (by have := f7.2; omega)).more gtc_A
        have f8 := f7.app (bl_fine b3)
        have p4 := (bput_c _ (intraS c.kind) c.d4 c.e4 ok.e4.2 b4 f8.1 (by have := f8.2; omega)).more gtc_A
        have f9 := f8.app (bl_fine b4)
        have p5 := (bput_c _ (intraS c.kind) c.d5 c.e5 ok.e5.2 b5 f9.1 (by have := f9.2; omega)).more gtc_A
        rw [hI] at ic cb p0 p1 p2 p3 p4 p5 a0 a1 a2 a3  ⊢
        rw [hT] at sc
        refine ACalls.enter Tryd.func15 rfl Tryd.ntmps15 (by kernel_rfl) rfl ?_; simp only [argEnv, Nat.reduceAdd, List.length_nil, List.length_cons]
        repeat' (first | (apply AGo.drawC (hs := [0, 1, 2, 4, 5, 6, 7, 8, 9, 10, 11]) (pre := [3]) (n := 12); exact fun _ _ _ h => h; rfl; rfl; rfl; decide +kernel; (repeat (first | exact Heads.nil _ | (apply Heads.cons true; (iterate 5 rfl); first | exact True.intro | omega))); apply PGo.call (ic); (iterate 8 rfl); simp only [names, putH, AV.ren, AV.renL, AObj.ren, nh, Nat.reduceAdd, Nat.reduceSub]; apply PGo.nil) | apply AGo.seq | apply AGo.block | apply AGo.blk | apply AGo.skip | apply AGo.nil | apply AGo.qnil | (apply AGo.region; rfl) | ((first | apply AGo.q true | apply AGo.qq true); rfl; rfl; rfl; rfl; first | exact True.intro | omega | (simp only [Int.toNat_natCast, Int.reduceToNat, IntKind.bits]; omega)) | (apply AGo.callH [0,1] ( hc); (iterate 6 rfl); decide; rfl; rfl; simp only [names, putH, AV.ren, AV.renL, AObj.ren, nh, Nat.reduceAdd, Nat.reduceSub]) | (apply AGo.callH [0,1] ( a0); (iterate 6 rfl); decide; rfl; rfl; simp only [names, putH, AV.ren, AV.renL, AObj.ren, nh, Nat.reduceAdd, Nat.reduceSub]) | (apply AGo.callH [0,1] ( a1); (iterate 6 rfl); decide; rfl; rfl; simp only [names, putH, AV.ren, AV.renL, AObj.ren, nh, Nat.reduceAdd, Nat.reduceSub]) | (apply AGo.callH [0,1] ( a2); (iterate 6 rfl); decide; rfl; rfl; simp only [names, putH, AV.ren, AV.renL, AObj.ren, nh, Nat.reduceAdd, Nat.reduceSub]) | (apply AGo.callH [0,1] ( a3); (iterate 6 rfl); decide; rfl; rfl; simp only [names, putH, AV.ren, AV.renL, AObj.ren, nh, Nat.reduceAdd, Nat.reduceSub]) | (apply AGo.callH [0,1] ( p0); (iterate 6 rfl); decide; rfl; rfl; simp only [names, putH, AV.ren, AV.renL, AObj.ren, nh, Nat.reduceAdd, Nat.reduceSub]) | (apply AGo.callH [0,1] ( p1); (iterate 6 rfl); decide; rfl; rfl; simp only [names, putH, AV.ren, AV.renL, AObj.ren, nh, Nat.reduceAdd, Nat.reduceSub]) | (apply AGo.callH [0,1] ( p2); (iterate 6 rfl); decide; rfl; rfl; simp only [names, putH, AV.ren, AV.renL, AObj.ren, nh, Nat.reduceAdd, Nat.reduceSub]) | (apply AGo.callH [0,1] ( p3); (iterate 6 rfl); decide; rfl; rfl; simp only [names, putH, AV.ren, AV.renL, AObj.ren, nh, Nat.reduceAdd, Nat.reduceSub]) | (apply AGo.callH [0,1] ( p4); (iterate 6 rfl); decide; rfl; rfl; simp only [names, putH, AV.ren, AV.renL, AObj.ren, nh, Nat.reduceAdd, Nat.reduceSub]) | (apply AGo.callH [0,1] ( p5); (iterate 6 rfl); decide; rfl; rfl; simp only [names, putH, AV.ren, AV.renL, AObj.ren, nh, Nat.reduceAdd, Nat.reduceSub]) | (apply AGo.callP (rc); (iterate 6 rfl)) | (apply AGo.qcallP (rc); (iterate 7 rfl)) | (apply AGo.callP (ic); (iterate 6 rfl)) | (apply AGo.qcallP (ic); (iterate 7 rfl)) | (apply AGo.callP (sc); (iterate 6 rfl)) | (apply AGo.qcallP (sc); (iterate 7 rfl)) | (apply AGo.callP (cc); (iterate 6 rfl)) | (apply AGo.qcallP (cc); (iterate 7 rfl)) | (apply AGo.callP (cb); (iterate 6 rfl)) | (apply AGo.qcallP (cb); (iterate 7 rfl)) | (apply AGo.callP (tc); (iterate 6 rfl)) | (apply AGo.qcallP (tc); (iterate 7 rfl)) | (apply AGo.callP (w1); (iterate 6 rfl)) | (apply AGo.qcallP (w1); (iterate 7 rfl)) | (apply AGo.callP (w2); (iterate 6 rfl)) | (apply AGo.qcallP (w2); (iterate 7 rfl)) | (apply AGo.callP (w3); (iterate 6 rfl)) | (apply AGo.qcallP (w3); (iterate 7 rfl)) | (apply AGo.callP (w4); (iterate 6 rfl)) | (apply AGo.qcallP (w4); (iterate 7 rfl)) | (apply AGo.callP (m1); (iterate 6 rfl)) | (apply AGo.qcallP (m1); (iterate 7 rfl)) | (apply AGo.callP (m2); (iterate 6 rfl)) | (apply AGo.qcallP (m2); (iterate 7 rfl)) | (apply AGo.drawQ; rfl; rfl; decide +kernel) | (apply AGo.exit; rfl) | (apply AGo.condDT; rfl; first | omega | rfl) | (apply AGo.condDF; rfl; omega) | (apply AGo.condT; rfl) | (apply AGo.condF; rfl) | (apply AGo.box; (iterate 6 rfl); simp only [nm, Nat.reduceAdd, spliceA, AV.cells, D.cells]) | (apply AGo.cBT; rfl; first | (simp only [bT]; omega) | (exact hk)) | (apply AGo.cBF; rfl; first | (simp only [bF]; omega) | exact ndF rfl | (exact hk)) | apply AGo.loopU | apply AGo.lpU | intro _ | (apply AGo.retN; rfl; rfl; rfl; rfl))
        all_goals first | exact ⟨rfl, rfl⟩ | (exfalso; omega) | trace_state
      · have hI2 := hI
        have hTT := hT
        have f2 := f1
        skip
        have f3 := f2.app (mrow_fine (c.mx - wrapS px))
        have f4 := f3.app (mrow_fine (c.my - wrapS py))
        have hvv : wrapS c.mx = c.mx ∧ wrapS c.my = c.my := by
          unfold vectorS at hv
          rw [hI] at hv
          simpa using hv
        have v1 := wrapS_bd c.mx
        have v2 := wrapS_bd c.my
        rw [hvv.1] at v1
        rw [hvv.2] at v2
        have w3 := wrap_c (gl := gA) (c.mx - wrapS px) (by omega)
        have w4 := wrap_c (gl := gA) (c.my - wrapS py) (by omega)
        have m1 := (mrow_c (wrapS (c.mx - wrapS px))).more gmv_A
        have m2 := (mrow_c (wrapS (c.my - wrapS py))).more gmv_A
        have a2 := f2.add (gl := gA) (mrow_fine (c.mx - wrapS px)) (by decide)
        have a3 := f3.add (gl := gA) (mrow_fine (c.my - wrapS py)) (by decide)
        rw [if_neg (by rw [hT]; decide), if_neg (by rw [hI]; decide), if_neg (by rw [hI]; decide), List.append_nil]
        have p0 := (bput_c _ (intraS c.kind) c.d0 c.e0 ok.e0.2 b0 f4.1 (by have := f4.2; omega)).more gtc_A
        have f5 := f4.app (bl_fine b0)
        have p1 := (bput_c _ (intraS c.kind) c.d1 c.e1 ok.e1.2 b1 f5.1 (by have := f5.2; omega)).more gtc_A
        have f6 := f5.app (bl_fine b1)
        have p2 := (bput_c _ (intraS c.kind) c.d2 c.e2 ok.e2.2 b2 f6.1 (by have := f6.2; omega)).more gtc_A
        have f7 := f6.app (bl_fine b2)
        have p3 := (bput_c _ (intraS c.kind) c.d3 c.e3 ok.e3.2 b3 f7.1 (by have := f7.2; omega)).more gtc_A
        have f8 := f7.app (bl_fine b3)
        have p4 := (bput_c _ (intraS c.kind) c.d4 c.e4 ok.e4.2 b4 f8.1 (by have := f8.2; omega)).more gtc_A
        have f9 := f8.app (bl_fine b4)
        have p5 := (bput_c _ (intraS c.kind) c.d5 c.e5 ok.e5.2 b5 f9.1 (by have := f9.2; omega)).more gtc_A
        rw [hI] at ic cb p0 p1 p2 p3 p4 p5 a0 a2 a3  ⊢
        rw [hT] at sc
        refine ACalls.enter Tryd.func15 rfl Tryd.ntmps15 (by kernel_rfl) rfl ?_; simp only [argEnv, Nat.reduceAdd, List.length_nil, List.length_cons]
        repeat' (first | (apply AGo.drawC (hs := [0, 1, 2, 4, 5, 6, 7, 8, 9, 10, 11]) (pre := [3]) (n := 12); exact fun _ _ _ h => h; rfl; rfl; rfl; decide +kernel; (repeat (first | exact Heads.nil _ | (apply Heads.cons true; (iterate 5 rfl); first | exact True.intro | omega))); apply PGo.call (ic); (iterate 8 rfl); simp only [names, putH, AV.ren, AV.renL, AObj.ren, nh, Nat.reduceAdd, Nat.reduceSub]; apply PGo.nil) | apply AGo.seq | apply AGo.block | apply AGo.blk | apply AGo.skip | apply AGo.nil | apply AGo.qnil | (apply AGo.region; rfl) | ((first | apply AGo.q true | apply AGo.qq true); rfl; rfl; rfl; rfl; first | exact True.intro | omega | (simp only [Int.toNat_natCast, Int.reduceToNat, IntKind.bits]; omega)) | (apply AGo.callH [0,1] ( hc); (iterate 6 rfl); decide; rfl; rfl; simp only [names, putH, AV.ren, AV.renL, AObj.ren, nh, Nat.reduceAdd, Nat.reduceSub]) | (apply AGo.callH [0,1] ( a0); (iterate 6 rfl); decide; rfl; rfl; simp only [names, putH, AV.ren, AV.renL, AObj.ren, nh, Nat.reduceAdd, Nat.reduceSub]) | (apply AGo.callH [0,1] ( a2); (iterate 6 rfl); decide; rfl; rfl; simp only [names, putH, AV.ren, AV.renL, AObj.ren, nh, Nat.reduceAdd, Nat.reduceSub]) | (apply AGo.callH [0,1] ( a3); (iterate 6 rfl); decide; rfl; rfl; simp only [names, putH, AV.ren, AV.renL, AObj.ren, nh, Nat.reduceAdd, Nat.reduceSub]) | (apply AGo.callH [0,1] ( p0); (iterate 6 rfl); decide; rfl; rfl; simp only [names, putH, AV.ren, AV.renL, AObj.ren, nh, Nat.reduceAdd, Nat.reduceSub]) | (apply AGo.callH [0,1] ( p1); (iterate 6 rfl); decide; rfl; rfl; simp only [names, putH, AV.ren, AV.renL, AObj.ren, nh, Nat.reduceAdd, Nat.reduceSub]) | (apply AGo.callH [0,1] ( p2); (iterate 6 rfl); decide; rfl; rfl; simp only [names, putH, AV.ren, AV.renL, AObj.ren, nh, Nat.reduceAdd, Nat.reduceSub]) | (apply AGo.callH [0,1] ( p3); (iterate 6 rfl); decide; rfl; rfl; simp only [names, putH, AV.ren, AV.renL, AObj.ren, nh, Nat.reduceAdd, Nat.reduceSub]) | (apply AGo.callH [0,1] ( p4); (iterate 6 rfl); decide; rfl; rfl; simp only [names, putH, AV.ren, AV.renL, AObj.ren, nh, Nat.reduceAdd, Nat.reduceSub]) | (apply AGo.callH [0,1] ( p5); (iterate 6 rfl); decide; rfl; rfl; simp only [names, putH, AV.ren, AV.renL, AObj.ren, nh, Nat.reduceAdd, Nat.reduceSub]) | (apply AGo.callP (rc); (iterate 6 rfl)) | (apply AGo.qcallP (rc); (iterate 7 rfl)) | (apply AGo.callP (ic); (iterate 6 rfl)) | (apply AGo.qcallP (ic); (iterate 7 rfl)) | (apply AGo.callP (sc); (iterate 6 rfl)) | (apply AGo.qcallP (sc); (iterate 7 rfl)) | (apply AGo.callP (cc); (iterate 6 rfl)) | (apply AGo.qcallP (cc); (iterate 7 rfl)) | (apply AGo.callP (cb); (iterate 6 rfl)) | (apply AGo.qcallP (cb); (iterate 7 rfl)) | (apply AGo.callP (tc); (iterate 6 rfl)) | (apply AGo.qcallP (tc); (iterate 7 rfl)) | (apply AGo.callP (w1); (iterate 6 rfl)) | (apply AGo.qcallP (w1); (iterate 7 rfl)) | (apply AGo.callP (w2); (iterate 6 rfl)) | (apply AGo.qcallP (w2); (iterate 7 rfl)) | (apply AGo.callP (w3); (iterate 6 rfl)) | (apply AGo.qcallP (w3); (iterate 7 rfl)) | (apply AGo.callP (w4); (iterate 6 rfl)) | (apply AGo.qcallP (w4); (iterate 7 rfl)) | (apply AGo.callP (m1); (iterate 6 rfl)) | (apply AGo.qcallP (m1); (iterate 7 rfl)) | (apply AGo.callP (m2); (iterate 6 rfl)) | (apply AGo.qcallP (m2); (iterate 7 rfl)) | (apply AGo.drawQ; rfl; rfl; decide +kernel) | (apply AGo.exit; rfl) | (apply AGo.condDT; rfl; first | omega | rfl) | (apply AGo.condDF; rfl; omega) | (apply AGo.condT; rfl) | (apply AGo.condF; rfl) | (apply AGo.box; (iterate 6 rfl); simp only [nm, Nat.reduceAdd, spliceA, AV.cells, D.cells]) | (apply AGo.cBT; rfl; first | (simp only [bT]; omega) | (exact hk)) | (apply AGo.cBF; rfl; first | (simp only [bF]; omega) | exact ndF rfl | (exact hk)) | apply AGo.loopU | apply AGo.lpU | intro _ | (apply AGo.retN; rfl; rfl; rfl; rfl))
        all_goals first | exact ⟨rfl, rfl⟩ | (exfalso; omega) | trace_state
end Go.Proofs.YtbfojhfiemcnpaaDoor.Av.Co
