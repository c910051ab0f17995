/- Cells: the walk of Right. -/
import Derived.Test.YtbfojhfiemcnpaaDoorCo3
set_option linter.unusedSimpArgs false
set_option linter.unusedVariables false
set_option maxRecDepth 100000
namespace Go.Proofs.YtbfojhfiemcnpaaDoor.Av.Co
open Go Bt Tc Wr Bl
attribute [local irreducible] AGo ACalls
variable {gl : List (Nat × List D)}
def bput0 (b : Bool) (dc : Int) (l : List Ev) : Int := if blMay b dc l = true then 0 else 7
def bputW (b : Bool) (dc : Int) (l : List Ev) : List UInt8 := if blMay b dc l = true then blRow b dc l else []
theorem bput0_eq (b : Bool) (dc : Int) (l : List Ev) : decide (bput0 b dc l = 0) = blMay b dc l := by
  unfold bput0
  cases blMay b dc l <;> rfl
theorem bputX_c (b : Bool) (dc : Int) (l : List Ev) (h : EvsOk l) : ACalls (cxg gtc) 35 [.ptr 0 0, B b, I dc, .d (.sl 3 (evsD l))] (WO []) (fun r H => r = I (bput0 b dc l) ∧ H = WO (bputW b dc l)) := by
  unfold bput0 bputW
  cases hm : blMay b dc l with
  | true => exact bput_c [] b dc l h.2 hm rfl (by simp)
  | false => exact bputbad_c [] b dc l h.1 h.2 hm
attribute [local irreducible] evsD bput0 bputW blMay octets packN stIs steppedS bareS vectorS
set_option maxHeartbeats 40000000 in
theorem cright_c (b : Bool) (c : Cel) (ok : CelOk c) : ACalls (cxg gtc) 16 [B b, .d (celD c)] [] (fun r H => r = B (rightS b c) ∧ H = []) := by
  have bc := bare_c (gl := gtc) c
  have vc := vector_c (gl := gtc) c ok.x ok.y
  have ic := intra_c (gl := gtc) c.kind
  have sc := stepped_c (gl := gtc) c.kind
  have tc := strow_c (gl := gtc) c.step
  have p0 := bputX_c (intraS c.kind) c.d0 c.e0 ok.e0
  have p1 := bputX_c (intraS c.kind) c.d1 c.e1 ok.e1
  have p2 := bputX_c (intraS c.kind) c.d2 c.e2 ok.e2
  have p3 := bputX_c (intraS c.kind) c.d3 c.e3 ok.e3
  have p4 := bputX_c (intraS c.kind) c.d4 c.e4 ok.e4
  have p5 := bputX_c (intraS c.kind) c.d5 c.e5 ok.e5
  have wn := wnew_c (gl := gtc)
  unfold rightS
  by_cases hs : c.stuff < 0 ∨ 64 < c.stuff
  · rw [if_pos hs]
    refine ACalls.enter Tryd.func16 rfl Tryd.ntmps16 (by kernel_rfl) rfl ?_; simp only [argEnv, Nat.reduceAdd, List.length_nil, List.length_cons]
    repeat' (first | apply AGo.seq | apply AGo.block | apply AGo.blk | apply AGo.skip | apply AGo.nil | (apply AGo.region; rfl) | (apply AGo.q true; rfl; rfl; rfl; rfl; first | exact True.intro | omega | (simp only [Int.toNat_natCast, Int.reduceToNat, IntKind.bits]; omega)) | (apply AGo.exit; rfl) | (apply AGo.condDT; rfl; first | omega | rfl) | (apply AGo.condDF; rfl; omega) | (apply AGo.condT; rfl) | (apply AGo.condF; rfl) | (apply AGo.box; (iterate 6 rfl); simp only [nm, Nat.reduceAdd, spliceA, AV.cells, D.cells]) | (apply AGo.unguard; rfl; rfl) | (apply AGo.gF; rfl; rfl; rfl; omega) | (apply AGo.cBT; rfl; first | (simp only [bT]; omega)) | (apply AGo.cBF; rfl; first | (simp only [bF]; omega) | exact ndF rfl) | (apply AGo.gBT; rfl; rfl; rfl; first | (simp only [bT]; omega)) | (apply AGo.skipOp; rfl; rfl; rfl) | apply AGo.loopU | apply AGo.lpU | intro _ | (apply AGo.gD; rfl; rfl; rfl) | (apply AGo.gS; rfl; rfl; rfl) | (apply AGo.condB; rfl) | (apply AGo.retN; rfl; rfl; rfl; rfl))
    all_goals first | exact ⟨rfl, rfl⟩ | (exfalso; omega) | trace_state
  · rw [if_neg hs]
    cases hk : c.skip with
    | true =>
      simp only [if_true]
      cases b
      all_goals
        refine ACalls.enter Tryd.func16 rfl Tryd.ntmps16 (by kernel_rfl) rfl ?_; simp only [argEnv, Nat.reduceAdd, List.length_nil, List.length_cons]
        repeat' (first | apply AGo.seq | apply AGo.block | apply AGo.blk | apply AGo.skip | apply AGo.nil | (apply AGo.region; rfl) | (apply AGo.q true; rfl; rfl; rfl; rfl; first | exact True.intro | omega | (simp only [Int.toNat_natCast, Int.reduceToNat, IntKind.bits]; omega)) | (apply AGo.callP (bc); (iterate 6 rfl)) | (apply AGo.exit; rfl) | (apply AGo.condDT; rfl; first | omega | rfl) | (apply AGo.condDF; rfl; omega) | (apply AGo.condT; rfl) | (apply AGo.condF; rfl) | (apply AGo.box; (iterate 6 rfl); simp only [nm, Nat.reduceAdd, spliceA, AV.cells, D.cells]) | (apply AGo.unguard; rfl; rfl) | (apply AGo.gF; rfl; rfl; rfl; omega) | (apply AGo.cBT; rfl; first | (simp only [bT]; omega) | (exact hk)) | (apply AGo.cBF; rfl; first | (simp only [bF]; omega) | exact ndF rfl | (exact hk)) | (apply AGo.gBT; rfl; rfl; rfl; first | (simp only [bT]; omega) | (exact hk)) | (apply AGo.skipOp; rfl; rfl; rfl) | apply AGo.loopU | apply AGo.lpU | intro _ | (apply AGo.gD; rfl; rfl; rfl) | (apply AGo.gS; rfl; rfl; rfl) | (apply AGo.condB; rfl) | (apply AGo.retN; rfl; rfl; rfl; rfl))
        all_goals first | exact ⟨rfl, rfl⟩ | (exfalso; omega) | trace_state
    | false =>
      simp only [Bool.false_eq_true, if_false]
      unfold headMay stepMay blksMay
      cases hI : intraS c.kind with
      | true =>
        rw [hI] at ic p0 p1 p2 p3 p4 p5
        refine ACalls.enter Tryd.func16 rfl Tryd.ntmps16 (by kernel_rfl) rfl ?_; simp only [argEnv, Nat.reduceAdd, List.length_nil, List.length_cons]
        repeat' (first | (apply AGo.drawC (hs := [1, 2, 4, 5, 6, 7, 8, 9, 10, 11]) (pre := [0, 3]) (n := 12); exact fun _ _ _ h => h; rfl; rfl; rfl; decide +kernel; (repeat (first | exact Heads.nil _ | (apply Heads.cons true; (iterate 5 rfl); first | exact True.intro | omega))); apply PGo.call (wn); (iterate 8 rfl); simp only [names, putH, AV.ren, AV.renL, AObj.ren, nh, Nat.reduceAdd, Nat.reduceSub]; apply PGo.call (ic); (iterate 8 rfl); simp only [names, putH, AV.ren, AV.renL, AObj.ren, nh, Nat.reduceAdd, Nat.reduceSub]; apply PGo.nil) | apply AGo.seq | apply AGo.block | apply AGo.blk | apply AGo.skip | apply AGo.nil | (apply AGo.region; rfl) | (apply AGo.q true; rfl; rfl; rfl; rfl; first | exact True.intro | omega | (simp only [Int.toNat_natCast, Int.reduceToNat, IntKind.bits]; omega)) | (apply AGo.callH [1,2] ( p0); (iterate 6 rfl); decide; rfl; rfl; simp only [names, putH, AV.ren, AV.renL, AObj.ren, nh, Nat.reduceAdd, Nat.reduceSub]) | (apply AGo.callH [3,4] ( p1); (iterate 6 rfl); decide; rfl; rfl; simp only [names, putH, AV.ren, AV.renL, AObj.ren, nh, Nat.reduceAdd, Nat.reduceSub]) | (apply AGo.callH [5,6] ( p2); (iterate 6 rfl); decide; rfl; rfl; simp only [names, putH, AV.ren, AV.renL, AObj.ren, nh, Nat.reduceAdd, Nat.reduceSub]) | (apply AGo.callH [7,8] ( p3); (iterate 6 rfl); decide; rfl; rfl; simp only [names, putH, AV.ren, AV.renL, AObj.ren, nh, Nat.reduceAdd, Nat.reduceSub]) | (apply AGo.callH [9,10] ( p4); (iterate 6 rfl); decide; rfl; rfl; simp only [names, putH, AV.ren, AV.renL, AObj.ren, nh, Nat.reduceAdd, Nat.reduceSub]) | (apply AGo.callH [11,12] ( p5); (iterate 6 rfl); decide; rfl; rfl; simp only [names, putH, AV.ren, AV.renL, AObj.ren, nh, Nat.reduceAdd, Nat.reduceSub]) | (apply AGo.callP (vc); (iterate 6 rfl)) | (apply AGo.callP (ic); (iterate 6 rfl)) | (apply AGo.callP (sc); (iterate 6 rfl)) | (apply AGo.callP (tc); (iterate 6 rfl)) | (apply AGo.exit; rfl) | (apply AGo.condDT; rfl; first | omega | rfl) | (apply AGo.condDF; rfl; omega) | (apply AGo.condT; rfl) | (apply AGo.condF; rfl) | (apply AGo.box; (iterate 6 rfl); simp only [nm, Nat.reduceAdd, spliceA, AV.cells, D.cells]) | (apply AGo.unguard; rfl; rfl) | (apply AGo.gF; rfl; rfl; rfl; omega) | (apply AGo.cBT; rfl; first | (simp only [bT]; omega) | (exact hk)) | (apply AGo.cBF; rfl; first | (simp only [bF]; omega) | exact ndF rfl | (exact hk)) | (apply AGo.gBT; rfl; rfl; rfl; first | (simp only [bT]; omega) | (exact hk)) | (apply AGo.skipOp; rfl; rfl; rfl) | apply AGo.loopU | apply AGo.lpU | intro _ | (apply AGo.gD; rfl; rfl; rfl) | (apply AGo.gS; rfl; rfl; rfl) | (apply AGo.condB; rfl) | (apply AGo.retN; rfl; rfl; rfl; rfl))
        all_goals first | exact ⟨congrArg B (by simp_all [bput0_eq]), rfl⟩ | (exfalso; omega) | trace_state
      | false =>
        rw [hI] at ic p0 p1 p2 p3 p4 p5
        cases b with
        | false =>
          refine ACalls.enter Tryd.func16 rfl Tryd.ntmps16 (by kernel_rfl) rfl ?_; simp only [argEnv, Nat.reduceAdd, List.length_nil, List.length_cons]
          repeat' (first | apply AGo.seq | apply AGo.block | apply AGo.blk | apply AGo.skip | apply AGo.nil | (apply AGo.region; rfl) | (apply AGo.q true; rfl; rfl; rfl; rfl; first | exact True.intro | omega | (simp only [Int.toNat_natCast, Int.reduceToNat, IntKind.bits]; omega)) | (apply AGo.callP (vc); (iterate 6 rfl)) | (apply AGo.callP (ic); (iterate 6 rfl)) | (apply AGo.callP (sc); (iterate 6 rfl)) | (apply AGo.callP (tc); (iterate 6 rfl)) | (apply AGo.exit; rfl) | (apply AGo.condDT; rfl; first | omega | rfl) | (apply AGo.condDF; rfl; omega) | (apply AGo.condT; rfl) | (apply AGo.condF; rfl) | (apply AGo.box; (iterate 6 rfl); simp only [nm, Nat.reduceAdd, spliceA, AV.cells, D.cells]) | (apply AGo.unguard; rfl; rfl) | (apply AGo.gF; rfl; rfl; rfl; omega) | (apply AGo.cBT; rfl; first | (simp only [bT]; omega) | (exact hk)) | (apply AGo.cBF; rfl; first | (simp only [bF]; omega) | exact ndF rfl | (exact hk)) | (apply AGo.gBT; rfl; rfl; rfl; first | (simp only [bT]; omega) | (exact hk)) | (apply AGo.skipOp; rfl; rfl; rfl) | apply AGo.loopU | apply AGo.lpU | intro _ | (apply AGo.gD; rfl; rfl; rfl) | (apply AGo.gS; rfl; rfl; rfl) | (apply AGo.condB; rfl) | (apply AGo.retN; rfl; rfl; rfl; rfl))
          all_goals first | exact ⟨congrArg B (by simp_all), rfl⟩ | (exfalso; omega) | trace_state
        | true =>
          by_cases hkk : c.kind = 0 ∨ c.kind = 1
          · rw [decide_eq_true hkk]
            refine ACalls.enter Tryd.func16 rfl Tryd.ntmps16 (by kernel_rfl) rfl ?_; simp only [argEnv, Nat.reduceAdd, List.length_nil, List.length_cons]
            repeat' (first | (apply AGo.drawC (hs := [1, 2, 4, 5, 6, 7, 8, 9, 10, 11]) (pre := [0, 3]) (n := 12); exact fun _ _ _ h => h; rfl; rfl; rfl; decide +kernel; (repeat (first | exact Heads.nil _ | (apply Heads.cons true; (iterate 5 rfl); first | exact True.intro | omega))); apply PGo.call (wn); (iterate 8 rfl); simp only [names, putH, AV.ren, AV.renL, AObj.ren, nh, Nat.reduceAdd, Nat.reduceSub]; apply PGo.call (ic); (iterate 8 rfl); simp only [names, putH, AV.ren, AV.renL, AObj.ren, nh, Nat.reduceAdd, Nat.reduceSub]; apply PGo.nil) | apply AGo.seq | apply AGo.block | apply AGo.blk | apply AGo.skip | apply AGo.nil | (apply AGo.region; rfl) | (apply AGo.q true; rfl; rfl; rfl; rfl; first | exact True.intro | omega | (simp only [Int.toNat_natCast, Int.reduceToNat, IntKind.bits]; omega)) | (apply AGo.callH [1,2] ( p0); (iterate 6 rfl); decide; rfl; rfl; simp only [names, putH, AV.ren, AV.renL, AObj.ren, nh, Nat.reduceAdd, Nat.reduceSub]) | (apply AGo.callH [3,4] ( p1); (iterate 6 rfl); decide; rfl; rfl; simp only [names, putH, AV.ren, AV.renL, AObj.ren, nh, Nat.reduceAdd, Nat.reduceSub]) | (apply AGo.callH [5,6] ( p2); (iterate 6 rfl); decide; rfl; rfl; simp only [names, putH, AV.ren, AV.renL, AObj.ren, nh, Nat.reduceAdd, Nat.reduceSub]) | (apply AGo.callH [7,8] ( p3); (iterate 6 rfl); decide; rfl; rfl; simp only [names, putH, AV.ren, AV.renL, AObj.ren, nh, Nat.reduceAdd, Nat.reduceSub]) | (apply AGo.callH [9,10] ( p4); (iterate 6 rfl); decide; rfl; rfl; simp only [names, putH, AV.ren, AV.renL, AObj.ren, nh, Nat.reduceAdd, Nat.reduceSub]) | (apply AGo.callH [11,12] ( p5); (iterate 6 rfl); decide; rfl; rfl; simp only [names, putH, AV.ren, AV.renL, AObj.ren, nh, Nat.reduceAdd, Nat.reduceSub]) | (apply AGo.callP (vc); (iterate 6 rfl)) | (apply AGo.callP (ic); (iterate 6 rfl)) | (apply AGo.callP (sc); (iterate 6 rfl)) | (apply AGo.callP (tc); (iterate 6 rfl)) | (apply AGo.exit; rfl) | (apply AGo.condDT; rfl; first | omega | rfl) | (apply AGo.condDF; rfl; omega) | (apply AGo.condT; rfl) | (apply AGo.condF; rfl) | (apply AGo.box; (iterate 6 rfl); simp only [nm, Nat.reduceAdd, spliceA, AV.cells, D.cells]) | (apply AGo.unguard; rfl; rfl) | (apply AGo.gF; rfl; rfl; rfl; omega) | (apply AGo.cBT; rfl; first | (simp only [bT]; omega) | (exact hk)) | (apply AGo.cBF; rfl; first | (simp only [bF]; omega) | exact ndF rfl | (exact hk)) | (apply AGo.gBT; rfl; rfl; rfl; first | (simp only [bT]; omega) | (exact hk)) | (apply AGo.skipOp; rfl; rfl; rfl) | apply AGo.loopU | apply AGo.lpU | intro _ | (apply AGo.gD; rfl; rfl; rfl) | (apply AGo.gS; rfl; rfl; rfl) | (apply AGo.condB; rfl) | (apply AGo.retN; rfl; rfl; rfl; rfl))
            all_goals first | (exfalso; omega) | exact ⟨congrArg B (by simp_all [bput0_eq]), rfl⟩ | trace_state
          · rw [decide_eq_false hkk]
            have hkk0 : ¬ c.kind = 0 := fun h => hkk (.inl h)
            have hkk1 : ¬ c.kind = 1 := fun h => hkk (.inr h)
            refine ACalls.enter Tryd.func16 rfl Tryd.ntmps16 (by kernel_rfl) rfl ?_; simp only [argEnv, Nat.reduceAdd, List.length_nil, List.length_cons]
            repeat' (first | (apply AGo.drawC (hs := [1, 2, 4, 5, 6, 7, 8, 9, 10, 11]) (pre := [0, 3]) (n := 12); exact fun _ _ _ h => h; rfl; rfl; rfl; decide +kernel; (repeat (first | exact Heads.nil _ | (apply Heads.cons true; (iterate 5 rfl); first | exact True.intro | omega))); apply PGo.call (wn); (iterate 8 rfl); simp only [names, putH, AV.ren, AV.renL, AObj.ren, nh, Nat.reduceAdd, Nat.reduceSub]; apply PGo.call (ic); (iterate 8 rfl); simp only [names, putH, AV.ren, AV.renL, AObj.ren, nh, Nat.reduceAdd, Nat.reduceSub]; apply PGo.nil) | apply AGo.seq | apply AGo.block | apply AGo.blk | apply AGo.skip | apply AGo.nil | (apply AGo.region; rfl) | (apply AGo.q true; rfl; rfl; rfl; rfl; first | exact True.intro | omega | (simp only [Int.toNat_natCast, Int.reduceToNat, IntKind.bits]; omega)) | (apply AGo.callH [1,2] ( p0); (iterate 6 rfl); decide; rfl; rfl; simp only [names, putH, AV.ren, AV.renL, AObj.ren, nh, Nat.reduceAdd, Nat.reduceSub]) | (apply AGo.callH [3,4] ( p1); (iterate 6 rfl); decide; rfl; rfl; simp only [names, putH, AV.ren, AV.renL, AObj.ren, nh, Nat.reduceAdd, Nat.reduceSub]) | (apply AGo.callH [5,6] ( p2); (iterate 6 rfl); decide; rfl; rfl; simp only [names, putH, AV.ren, AV.renL, AObj.ren, nh, Nat.reduceAdd, Nat.reduceSub]) | (apply AGo.callH [7,8] ( p3); (iterate 6 rfl); decide; rfl; rfl; simp only [names, putH, AV.ren, AV.renL, AObj.ren, nh, Nat.reduceAdd, Nat.reduceSub]) | (apply AGo.callH [9,10] ( p4); (iterate 6 rfl); decide; rfl; rfl; simp only [names, putH, AV.ren, AV.renL, AObj.ren, nh, Nat.reduceAdd, Nat.reduceSub]) | (apply AGo.callH [11,12] ( p5); (iterate 6 rfl); decide; rfl; rfl; simp only [names, putH, AV.ren, AV.renL, AObj.ren, nh, Nat.reduceAdd, Nat.reduceSub]) | (apply AGo.callP (vc); (iterate 6 rfl)) | (apply AGo.callP (ic); (iterate 6 rfl)) | (apply AGo.callP (sc); (iterate 6 rfl)) | (apply AGo.callP (tc); (iterate 6 rfl)) | (apply AGo.exit; rfl) | (apply AGo.condDT; rfl; first | omega | rfl) | (apply AGo.condDF; rfl; omega) | (apply AGo.condT; rfl) | (apply AGo.condF; rfl) | (apply AGo.box; (iterate 6 rfl); simp only [nm, Nat.reduceAdd, spliceA, AV.cells, D.cells]) | (apply AGo.unguard; rfl; rfl) | (apply AGo.gF; rfl; rfl; rfl; omega) | (apply AGo.cBT; rfl; first | (simp only [bT]; omega) | (exact hk)) | (apply AGo.cBF; rfl; first | (simp only [bF]; omega) | exact ndF rfl | (exact hk)) | (apply AGo.gBT; rfl; rfl; rfl; first | (simp only [bT]; omega) | (exact hk)) | (apply AGo.skipOp; rfl; rfl; rfl) | apply AGo.loopU | apply AGo.lpU | intro _ | (apply AGo.gD; rfl; rfl; rfl) | (apply AGo.gS; rfl; rfl; rfl) | (apply AGo.condB; rfl) | (apply AGo.retN; rfl; rfl; rfl; rfl))
            all_goals first | exact ⟨congrArg B (by simp_all [bput0_eq]), rfl⟩ | (exfalso; omega) | trace_state
end Go.Proofs.YtbfojhfiemcnpaaDoor.Av.Co
