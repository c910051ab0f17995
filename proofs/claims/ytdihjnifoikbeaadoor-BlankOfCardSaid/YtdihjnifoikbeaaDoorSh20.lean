/- The document's answer: sheets that may be. -/
import Derived.Test.YtdihjnifoikbeaaDoorSh18
import Derived.Test.YtdihjnifoikbeaaDoorSh19
import Derived.Test.YtdihjnifoikbeaaDoorSh5
set_option linter.unusedSimpArgs false
set_option linter.unusedVariables false
set_option maxRecDepth 100000
namespace Go.Proofs.YtdihjnifoikbeaaDoor.Av.Sh
open Go Bt Co
attribute [local irreducible] AGo ACalls
variable {gl : List (Nat × List D)}
theorem rowsS_cut {h : Hd} {rs : List Rw} {n : Nat} (hn : rowsS h rs n = false) (hle : n ≤ rs.length) : rowsS h rs rs.length = false := by
  have := rowsS_no hn (rs.length - n)
  rwa [show n + (rs.length - n) = rs.length by omega] at this
attribute [local irreducible] Tc.evsD suD celsD rsD rightS rowS rowsS hdOk mayS vecsS vecOk cellsOf intraS
set_option maxHeartbeats 16000000 in
theorem rcheck_c (h : Hd) (rs : List Rw) (z : Int) (ok : RwsOk rs) (hl : h.supp.length ≤ 100) (hb : I64 h.fmt) :
    ACalls (cxg gl) 13 [.d (shD h (rsD rs) z)] [] (fun x H => x = I (checkS h rs z) ∧ H = []) := by
  have hn := rsD_len rs
  have hrl := ok.few
  have rr := Sh.rright_c (gl := gl) h (rsD rs) z hl hb
  have k2 := rsize_c (gl := gl) h.fmt hb
  unfold sizD at k2
  unfold checkS
  cases hh : hdOk h with
  | false =>
    rw [hh] at rr
    rw [show formS h rs z = false by unfold formS; rw [hh]; rfl, if_neg (by decide)]
    refine ACalls.enter Tryd.func13 rfl Tryd.ntmps13 (by kernel_rfl) rfl ?_; simp only [argEnv, Nat.reduceAdd, List.length_nil, List.length_cons]
    repeat' (first | (apply AGo.drawX [0, 1, 2, 3, 4, 5, 6, 7, 8, 9, 10, 11, 12, 13, 14, 15, 16, 17, 18, 19, 20, 21, 22] 23; rfl) | (apply AReg.fin; kernel_rfl) | (apply AReg.go) | (apply AReg.pass; rfl; exact fun _ _ _ h => h; rfl; rfl; rfl; rfl; kernel_rfl; kernel_rfl) | (apply AReg.pure true; rfl; exact fun _ _ _ h => h; (iterate 6 rfl); kernel_rfl; kernel_rfl; first | exact True.intro | omega) | (apply AReg.one; rfl; rfl; kernel_rfl) | (apply AReg.two; rfl; rfl; rfl; kernel_rfl) | (exact AGo.mid0) | (apply AGo.midDone; (repeat' (first | exact EnvEq.nil | (apply EnvEq.cons; rfl))); rfl) | apply AGo.seq | apply AGo.block | apply AGo.blk | apply AGo.skip | apply AGo.nil | (apply AGo.region; rfl) | (apply AGo.q true; rfl; rfl; rfl; rfl; first | exact True.intro | omega | (simp only [Int.toNat_natCast, Int.reduceToNat, IntKind.bits]; omega)) | (apply AGo.callP (rr); (iterate 6 rfl)) | (apply AGo.condDT; rfl; first | omega | rfl) | (apply AGo.condDF; rfl; omega) | (apply AGo.condT; rfl) | (apply AGo.condF; rfl) | (apply AGo.box; (iterate 6 rfl); simp only [nm, Nat.reduceAdd, spliceA, AV.cells, D.cells]) | (apply AGo.unguard; rfl; rfl) | (apply AGo.gT; rfl; rfl; rfl; first | omega | rfl) | (apply AGo.gF; rfl; rfl; rfl; omega) | (apply AGo.cBT; rfl; first | (simp only [bT]; omega)) | (apply AGo.cBF; rfl; first | (simp only [bF]; omega) | exact ndF rfl) | (apply AGo.skipOp; rfl; rfl; rfl) | intro _ | (apply AGo.retN; rfl; rfl; rfl; rfl) | (apply AGo.retL; rfl; rfl; rfl; rfl) | (apply AGo.outL; rfl; rfl))
    all_goals first | exact ⟨rfl, rfl⟩ | (exfalso; omega) | trace_state
  | true =>
    rw [hh] at rr
    by_cases hz : 0 ≤ z ∧ z ≤ 262144
    · by_cases hR : (rs.length : Int) = fR h.fmt
      · have r0 : rowsS h rs 0 = true := by unfold rowsS; rfl
        rw [← hR] at k2
        refine ACalls.enter Tryd.func13 rfl Tryd.ntmps13 (by kernel_rfl) rfl ?_; simp only [argEnv, Nat.reduceAdd, List.length_nil, List.length_cons]
        repeat' (first | (apply AGo.drawX [0, 1, 2, 3, 4, 5, 6, 7, 8, 9, 10, 11, 12, 13, 14, 15, 16, 17, 18, 19, 20, 21, 22] 23; rfl) | (apply AReg.fin; kernel_rfl) | (apply AReg.go) | (apply AReg.pass; rfl; exact fun _ _ _ h => h; rfl; rfl; rfl; rfl; kernel_rfl; kernel_rfl) | (apply AReg.pure true; rfl; exact fun _ _ _ h => h; (iterate 6 rfl); kernel_rfl; kernel_rfl; first | exact True.intro | omega | (exact ⟨by omega, Nat.le_of_ble_eq_true rfl⟩)) | (apply AReg.one; rfl; rfl; kernel_rfl) | (apply AReg.two; rfl; rfl; rfl; kernel_rfl) | (exact AGo.mid0) | (apply AGo.midDone; (repeat' (first | exact EnvEq.nil | (apply EnvEq.cons; rfl))); rfl) | apply AGo.seq | apply AGo.block | apply AGo.blk | apply AGo.skip | apply AGo.nil | (apply AGo.region; rfl) | (apply AGo.q true; rfl; rfl; rfl; rfl; first | exact True.intro | omega | (simp only [Int.toNat_natCast, Int.reduceToNat, IntKind.bits]; omega) | (exact ⟨by omega, Nat.le_of_ble_eq_true rfl⟩)) | (apply AGo.callP (rr); (iterate 6 rfl)) | (apply AGo.callP (k2); (iterate 6 rfl)) | (apply AGo.condDT; rfl; first | omega | rfl) | (apply AGo.condDF; rfl; omega) | (apply AGo.condT; rfl) | (apply AGo.condF; rfl) | (apply AGo.box; (iterate 6 rfl); simp only [nm, Nat.reduceAdd, spliceA, AV.cells, D.cells]) | (apply AGo.unguard; rfl; rfl) | (apply AGo.gT; rfl; rfl; rfl; first | omega | rfl) | (apply AGo.gF; rfl; rfl; rfl; omega) | (apply AGo.cBT; rfl; first | (simp only [bT]; omega)) | (apply AGo.cBF; rfl; first | (simp only [bF]; omega) | exact ndF rfl) | (apply AGo.skipOp; rfl; rfl; rfl) | intro _ | (apply AGo.retN; rfl; rfl; rfl; rfl) | (apply AGo.retL; rfl; rfl; rfl; rfl) | (apply AGo.outL; rfl; rfl))
        refine AGo.weak (env' := [(3, I ((0 : Nat) : Int)), (1, .ptr 0 0)]) ⟨rfl, rfl, trivial⟩ ?_
        refine AGo.loop (fun m env H => ∃ k : Nat, m = rs.length - k ∧ k ≤ rs.length ∧ rowsS h rs k = true ∧ env = [(3, I (k : Int)), (1, .ptr 0 0)] ∧ H = [.cells (shA h (rsD rs) z)]) rs.length
          ⟨0, rfl, by omega, r0, rfl, rfl⟩ ?_
        rintro m env H ⟨k, rfl, hk, hal, rfl, rfl⟩
        rcases Nat.lt_or_ge k rs.length with hlt | hge
        · obtain ⟨r, hr⟩ : ∃ r, rs[k]? = some r := ⟨_, List.getElem?_eq_getElem hlt⟩
          have cr := rrow25_c (gl := gl) h rs z k r hr ok hb
          have et := rowsS_succ (h := h) hr
          rw [hal, Bool.true_and] at et
          cases hRw : rowS h k r with
          | true =>
            rw [hRw] at cr et
            repeat' (first | apply AGo.seq | apply AGo.block | apply AGo.blk | apply AGo.skip | apply AGo.nil | (apply AGo.region; rfl) | (apply AGo.q true; rfl; rfl; rfl; rfl; first | exact True.intro | omega | (simp only [Int.toNat_natCast, Int.reduceToNat, IntKind.bits]; omega)) | (apply AGo.callP (cr); (iterate 6 rfl)) | (apply AGo.condDT; rfl; first | omega | rfl) | (apply AGo.condDF; rfl; omega) | (apply AGo.condT; rfl) | (apply AGo.condF; rfl) | (apply AGo.box; (iterate 6 rfl); simp only [nm, Nat.reduceAdd, spliceA, AV.cells, D.cells]) | (apply AGo.unguard; rfl; rfl) | (apply AGo.gT; rfl; rfl; rfl; first | omega | rfl) | (apply AGo.gF; rfl; rfl; rfl; omega) | (apply AGo.cBT; rfl; first | (simp only [bT]; omega)) | (apply AGo.cBF; rfl; first | (simp only [bF]; omega) | exact ndF rfl) | (apply AGo.skipOp; rfl; rfl; rfl) | intro _ | (apply AGo.retN; rfl; rfl; rfl; rfl) | (apply AGo.retL; rfl; rfl; rfl; rfl) | (apply AGo.outL; rfl; rfl))
            all_goals first
              | exact AGo.round [(3, I ((k + 1 : Nat) : Int)), (1, .ptr 0 0)] (rs.length - (k + 1)) (by omega) ⟨rfl, rfl, trivial⟩ ⟨k + 1, rfl, hlt, et, rfl, rfl⟩
              | (exfalso; omega)
              | trace_state
          | false =>
            rw [hRw] at cr
            have hno := rowsS_all_no hr hRw
            rw [show formS h rs z = false by unfold formS; rw [hno, Bool.and_false], if_neg (by decide)]
            repeat' (first | apply AGo.seq | apply AGo.block | apply AGo.blk | apply AGo.skip | apply AGo.nil | (apply AGo.region; rfl) | (apply AGo.q true; rfl; rfl; rfl; rfl; first | exact True.intro | omega | (simp only [Int.toNat_natCast, Int.reduceToNat, IntKind.bits]; omega)) | (apply AGo.callP (cr); (iterate 6 rfl)) | (apply AGo.condDT; rfl; first | omega | rfl) | (apply AGo.condDF; rfl; omega) | (apply AGo.condT; rfl) | (apply AGo.condF; rfl) | (apply AGo.box; (iterate 6 rfl); simp only [nm, Nat.reduceAdd, spliceA, AV.cells, D.cells]) | (apply AGo.unguard; rfl; rfl) | (apply AGo.gT; rfl; rfl; rfl; first | omega | rfl) | (apply AGo.gF; rfl; rfl; rfl; omega) | (apply AGo.cBT; rfl; first | (simp only [bT]; omega)) | (apply AGo.cBF; rfl; first | (simp only [bF]; omega) | exact ndF rfl) | (apply AGo.skipOp; rfl; rfl; rfl) | intro _ | (apply AGo.retN; rfl; rfl; rfl; rfl) | (apply AGo.retL; rfl; rfl; rfl; rfl) | (apply AGo.outL; rfl; rfl))
            all_goals first | exact ⟨rfl, rfl⟩ | (exfalso; omega) | trace_state
        · obtain rfl : k = rs.length := by omega
          have hyes : formS h rs z = true := by unfold formS; rw [hh, hal, decide_eq_true hz, decide_eq_true hR]; rfl
          rw [hyes, if_pos rfl]
          obtain ⟨hf, hlen⟩ := formS_len hyes
          have sc := rcells_c (gl := gl) h rs z ok
          have hX := ok.le rs.length
          rw [List.take_length] at hX
          generalize hL : cellsOf rs = l at *
          have hm := celsD_len l
          have v0 : vecsS h.fmt l 0 = true := by unfold vecsS; rfl
          repeat' (first | apply AGo.seq | apply AGo.block | apply AGo.blk | apply AGo.skip | apply AGo.nil | (apply AGo.region; rfl) | (apply AGo.q true; rfl; rfl; rfl; rfl; first | exact True.intro | omega | (simp only [Int.toNat_natCast, Int.reduceToNat, IntKind.bits]; omega)) | (apply AGo.callP (sc); (iterate 6 rfl)) | (apply AGo.condDT; rfl; first | omega | rfl) | (apply AGo.condDF; rfl; omega) | (apply AGo.condT; rfl) | (apply AGo.condF; rfl) | (apply AGo.box; (iterate 6 rfl); simp only [nm, Nat.reduceAdd, spliceA, AV.cells, D.cells]) | (apply AGo.unguard; rfl; rfl) | (apply AGo.gT; rfl; rfl; rfl; first | omega | rfl) | (apply AGo.gF; rfl; rfl; rfl; omega) | (apply AGo.cBT; rfl; first | (simp only [bT]; omega)) | (apply AGo.cBF; rfl; first | (simp only [bF]; omega) | exact ndF rfl) | (apply AGo.skipOp; rfl; rfl; rfl) | intro _ | (apply AGo.retN; rfl; rfl; rfl; rfl) | (apply AGo.retL; rfl; rfl; rfl; rfl) | (apply AGo.outL; rfl; rfl))
          refine AGo.weak (env' := [(5, I ((0 : Nat) : Int)), (4, .d (.sl 18 (celsD l))), (1, .ptr 0 0)]) ⟨rfl, rfl, rfl, trivial⟩ ?_
          refine AGo.loop (fun m env H => ∃ k : Nat, m = l.length - k ∧ k ≤ l.length ∧ vecsS h.fmt l k = true ∧ env = [(5, I (k : Int)), (4, .d (.sl 18 (celsD l))), (1, .ptr 0 0)] ∧ H = [.cells (shA h (rsD rs) z)]) l.length
            ⟨0, rfl, by omega, v0, rfl, rfl⟩ ?_
          rintro m env H ⟨k, rfl, hk, hal2, rfl, rfl⟩
          rcases Nat.lt_or_ge k l.length with hlt2 | hge2
          · obtain ⟨c, hc⟩ : ∃ c, l[k]? = some c := ⟨_, List.getElem?_eq_getElem hlt2⟩
            have g2 := celsD_get hc
            have et := vecsS_succ (f := h.fmt) hc
            rw [hal2, Bool.true_and] at et
            have mm := rmay_c (gl := gl) h.fmt k (mvP c) hf (by omega)
            have ic := rintra_c (gl := gl) c.kind
            have hvv : vecOk h.fmt k c = (intraS c.kind || mayS h.fmt k (mvP c)) := by unfold vecOk; rfl
            cases hI : intraS c.kind with
            | true =>
              rw [hI] at ic hvv
              rw [hvv, Bool.true_or] at et
              repeat' (first | (apply AGo.drawX [0, 1, 2, 3, 4, 5, 6, 7, 8, 9, 10, 11, 12, 13, 14, 15, 16, 17, 18] 19; rfl) | (apply AReg.fin; kernel_rfl) | (apply AReg.go) | (apply AReg.pureX; rfl; (apply pure_idxG; (iterate 7 rfl); (first | omega | (rw [hm]; omega)); exact g2); exact fun _ _ _ h => h; rfl; rfl; rfl; rfl; kernel_rfl; kernel_rfl) | (apply AReg.pass; rfl; exact fun _ _ _ h => h; rfl; rfl; rfl; rfl; kernel_rfl; kernel_rfl) | (apply AReg.pure true; rfl; exact fun _ _ _ h => h; (iterate 6 rfl); kernel_rfl; kernel_rfl; first | exact True.intro | omega | (rw [hm]; omega)) | (apply AReg.one; rfl; rfl; kernel_rfl) | (apply AReg.two; rfl; rfl; rfl; kernel_rfl) | (exact AGo.mid0) | (apply AGo.midDone; (repeat' (first | exact EnvEq.nil | (apply EnvEq.cons; rfl))); rfl) | apply AGo.seq | apply AGo.block | apply AGo.blk | apply AGo.skip | apply AGo.nil | (apply AGo.region; rfl) | (apply AGo.q true; rfl; rfl; rfl; rfl; first | exact True.intro | omega | (simp only [Int.toNat_natCast, Int.reduceToNat, IntKind.bits]; omega) | (rw [hm]; omega)) | (apply AGo.callP (ic); (iterate 6 rfl)) | (apply AGo.condDT; rfl; first | omega | rfl) | (apply AGo.condDF; rfl; omega) | (apply AGo.condT; rfl) | (apply AGo.condF; rfl) | (apply AGo.box; (iterate 6 rfl); simp only [nm, Nat.reduceAdd, spliceA, AV.cells, D.cells]) | (apply AGo.unguard; rfl; rfl) | (apply AGo.gT; rfl; rfl; rfl; first | omega | rfl) | (apply AGo.gF; rfl; rfl; rfl; omega) | (apply AGo.cBT; rfl; first | (simp only [bT]; omega)) | (apply AGo.cBF; rfl; first | (simp only [bF]; omega) | exact ndF rfl) | (apply AGo.skipOp; rfl; rfl; rfl) | intro _ | (apply AGo.retN; rfl; rfl; rfl; rfl) | (apply AGo.retL; rfl; rfl; rfl; rfl) | (apply AGo.outL; rfl; rfl))
              all_goals first
                | exact AGo.round [(5, I ((k + 1 : Nat) : Int)), (4, .d (.sl 18 (celsD l))), (1, .ptr 0 0)] (l.length - (k + 1)) (by omega) ⟨rfl, rfl, rfl, trivial⟩ ⟨k + 1, rfl, hlt2, et, rfl, rfl⟩
                | (exfalso; omega)
                | trace_state
            | false =>
              rw [hI, Bool.false_or] at hvv
              rw [hI] at ic
              cases hM : mayS h.fmt k (mvP c) with
              | true =>
                rw [hM] at mm hvv
                rw [hvv] at et
                repeat' (first | (apply AGo.drawX [0, 1, 2, 3, 4, 5, 6, 7, 8, 9, 10, 11, 12, 13, 14, 15, 16, 17, 18] 19; rfl) | (apply AReg.fin; kernel_rfl) | (apply AReg.go) | (apply AReg.pureX; rfl; (apply pure_idxG; (iterate 7 rfl); (first | omega | (rw [hm]; omega)); exact g2); exact fun _ _ _ h => h; rfl; rfl; rfl; rfl; kernel_rfl; kernel_rfl) | (apply AReg.pass; rfl; exact fun _ _ _ h => h; rfl; rfl; rfl; rfl; kernel_rfl; kernel_rfl) | (apply AReg.pure true; rfl; exact fun _ _ _ h => h; (iterate 6 rfl); kernel_rfl; kernel_rfl; first | exact True.intro | omega | (rw [hm]; omega)) | (apply AReg.one; rfl; rfl; kernel_rfl) | (apply AReg.two; rfl; rfl; rfl; kernel_rfl) | (exact AGo.mid0) | (apply AGo.midDone; (repeat' (first | exact EnvEq.nil | (apply EnvEq.cons; rfl))); rfl) | apply AGo.seq | apply AGo.block | apply AGo.blk | apply AGo.skip | apply AGo.nil | (apply AGo.region; rfl) | (apply AGo.q true; rfl; rfl; rfl; rfl; first | exact True.intro | omega | (simp only [Int.toNat_natCast, Int.reduceToNat, IntKind.bits]; omega) | (rw [hm]; omega)) | (apply AGo.callP (ic); (iterate 6 rfl)) | (apply AGo.callP (mm); (iterate 6 rfl)) | (apply AGo.condDT; rfl; first | omega | rfl) | (apply AGo.condDF; rfl; omega) | (apply AGo.condT; rfl) | (apply AGo.condF; rfl) | (apply AGo.box; (iterate 6 rfl); simp only [nm, Nat.reduceAdd, spliceA, AV.cells, D.cells]) | (apply AGo.unguard; rfl; rfl) | (apply AGo.gT; rfl; rfl; rfl; first | omega | rfl) | (apply AGo.gF; rfl; rfl; rfl; omega) | (apply AGo.cBT; rfl; first | (simp only [bT]; omega)) | (apply AGo.cBF; rfl; first | (simp only [bF]; omega) | exact ndF rfl) | (apply AGo.skipOp; rfl; rfl; rfl) | intro _ | (apply AGo.retN; rfl; rfl; rfl; rfl) | (apply AGo.retL; rfl; rfl; rfl; rfl) | (apply AGo.outL; rfl; rfl))
                all_goals first
                  | exact AGo.round [(5, I ((k + 1 : Nat) : Int)), (4, .d (.sl 18 (celsD l))), (1, .ptr 0 0)] (l.length - (k + 1)) (by omega) ⟨rfl, rfl, rfl, trivial⟩ ⟨k + 1, rfl, hlt2, et, rfl, rfl⟩
                  | (exfalso; omega)
                  | trace_state
              | false =>
                rw [hM] at mm hvv
                have hno := vecsS_all_no hc hvv
                rw [hno, if_neg (by decide)]
                repeat' (first | (apply AGo.drawX [0, 1, 2, 3, 4, 5, 6, 7, 8, 9, 10, 11, 12, 13, 14, 15, 16, 17, 18] 19; rfl) | (apply AReg.fin; kernel_rfl) | (apply AReg.go) | (apply AReg.pureX; rfl; (apply pure_idxG; (iterate 7 rfl); (first | omega | (rw [hm]; omega)); exact g2); exact fun _ _ _ h => h; rfl; rfl; rfl; rfl; kernel_rfl; kernel_rfl) | (apply AReg.pass; rfl; exact fun _ _ _ h => h; rfl; rfl; rfl; rfl; kernel_rfl; kernel_rfl) | (apply AReg.pure true; rfl; exact fun _ _ _ h => h; (iterate 6 rfl); kernel_rfl; kernel_rfl; first | exact True.intro | omega | (rw [hm]; omega)) | (apply AReg.one; rfl; rfl; kernel_rfl) | (apply AReg.two; rfl; rfl; rfl; kernel_rfl) | (exact AGo.mid0) | (apply AGo.midDone; (repeat' (first | exact EnvEq.nil | (apply EnvEq.cons; rfl))); rfl) | apply AGo.seq | apply AGo.block | apply AGo.blk | apply AGo.skip | apply AGo.nil | (apply AGo.region; rfl) | (apply AGo.q true; rfl; rfl; rfl; rfl; first | exact True.intro | omega | (simp only [Int.toNat_natCast, Int.reduceToNat, IntKind.bits]; omega) | (rw [hm]; omega)) | (apply AGo.callP (ic); (iterate 6 rfl)) | (apply AGo.callP (mm); (iterate 6 rfl)) | (apply AGo.condDT; rfl; first | omega | rfl) | (apply AGo.condDF; rfl; omega) | (apply AGo.condT; rfl) | (apply AGo.condF; rfl) | (apply AGo.box; (iterate 6 rfl); simp only [nm, Nat.reduceAdd, spliceA, AV.cells, D.cells]) | (apply AGo.unguard; rfl; rfl) | (apply AGo.gT; rfl; rfl; rfl; first | omega | rfl) | (apply AGo.gF; rfl; rfl; rfl; omega) | (apply AGo.cBT; rfl; first | (simp only [bT]; omega)) | (apply AGo.cBF; rfl; first | (simp only [bF]; omega) | exact ndF rfl) | (apply AGo.skipOp; rfl; rfl; rfl) | intro _ | (apply AGo.retN; rfl; rfl; rfl; rfl) | (apply AGo.retL; rfl; rfl; rfl; rfl) | (apply AGo.outL; rfl; rfl))
                all_goals first | exact ⟨rfl, rfl⟩ | (exfalso; omega) | trace_state
          · obtain rfl : k = l.length := by omega
            rw [hal2, if_pos rfl]
            repeat' (first | apply AGo.seq | apply AGo.block | apply AGo.blk | apply AGo.skip | apply AGo.nil | (apply AGo.region; rfl) | (apply AGo.q true; rfl; rfl; rfl; rfl; first | exact True.intro | omega | (simp only [Int.toNat_natCast, Int.reduceToNat, IntKind.bits]; omega)) | (apply AGo.condDT; rfl; first | omega | rfl) | (apply AGo.condDF; rfl; omega) | (apply AGo.condT; rfl) | (apply AGo.condF; rfl) | (apply AGo.box; (iterate 6 rfl); simp only [nm, Nat.reduceAdd, spliceA, AV.cells, D.cells]) | (apply AGo.unguard; rfl; rfl) | (apply AGo.gT; rfl; rfl; rfl; first | omega | rfl) | (apply AGo.gF; rfl; rfl; rfl; omega) | (apply AGo.cBT; rfl; first | (simp only [bT]; omega)) | (apply AGo.cBF; rfl; first | (simp only [bF]; omega) | exact ndF rfl) | (apply AGo.skipOp; rfl; rfl; rfl) | intro _ | (apply AGo.retN; rfl; rfl; rfl; rfl) | (apply AGo.retL; rfl; rfl; rfl; rfl) | (apply AGo.outL; rfl; rfl))
            all_goals first | exact ⟨rfl, rfl⟩ | (exfalso; omega) | trace_state
      · rw [show formS h rs z = false by unfold formS; rw [decide_eq_false hR, Bool.and_false]; rfl, if_neg (by decide)]
        refine ACalls.enter Tryd.func13 rfl Tryd.ntmps13 (by kernel_rfl) rfl ?_; simp only [argEnv, Nat.reduceAdd, List.length_nil, List.length_cons]
        repeat' (first | (apply AGo.drawX [0, 1, 2, 3, 4, 5, 6, 7, 8, 9, 10, 11, 12, 13, 14, 15, 16, 17, 18, 19, 20, 21, 22] 23; rfl) | (apply AReg.fin; kernel_rfl) | (apply AReg.go) | (apply AReg.pass; rfl; exact fun _ _ _ h => h; rfl; rfl; rfl; rfl; kernel_rfl; kernel_rfl) | (apply AReg.pure true; rfl; exact fun _ _ _ h => h; (iterate 6 rfl); kernel_rfl; kernel_rfl; first | exact True.intro | omega | (exact ⟨by omega, Nat.le_of_ble_eq_true rfl⟩)) | (apply AReg.one; rfl; rfl; kernel_rfl) | (apply AReg.two; rfl; rfl; rfl; kernel_rfl) | (exact AGo.mid0) | (apply AGo.midDone; (repeat' (first | exact EnvEq.nil | (apply EnvEq.cons; rfl))); rfl) | apply AGo.seq | apply AGo.block | apply AGo.blk | apply AGo.skip | apply AGo.nil | (apply AGo.region; rfl) | (apply AGo.q true; rfl; rfl; rfl; rfl; first | exact True.intro | omega | (simp only [Int.toNat_natCast, Int.reduceToNat, IntKind.bits]; omega) | (exact ⟨by omega, Nat.le_of_ble_eq_true rfl⟩)) | (apply AGo.callP (rr); (iterate 6 rfl)) | (apply AGo.callP (k2); (iterate 6 rfl)) | (apply AGo.condDT; rfl; first | omega | rfl) | (apply AGo.condDF; rfl; omega) | (apply AGo.condT; rfl) | (apply AGo.condF; rfl) | (apply AGo.box; (iterate 6 rfl); simp only [nm, Nat.reduceAdd, spliceA, AV.cells, D.cells]) | (apply AGo.unguard; rfl; rfl) | (apply AGo.gT; rfl; rfl; rfl; first | omega | rfl) | (apply AGo.gF; rfl; rfl; rfl; omega) | (apply AGo.cBT; rfl; first | (simp only [bT]; omega)) | (apply AGo.cBF; rfl; first | (simp only [bF]; omega) | exact ndF rfl) | (apply AGo.skipOp; rfl; rfl; rfl) | intro _ | (apply AGo.retN; rfl; rfl; rfl; rfl) | (apply AGo.retL; rfl; rfl; rfl; rfl) | (apply AGo.outL; rfl; rfl))
        all_goals first | exact ⟨rfl, rfl⟩ | (exfalso; omega) | trace_state
    · rw [show formS h rs z = false by unfold formS; rw [decide_eq_false hz, Bool.and_false]; rfl, if_neg (by decide)]
      rcases (show z < 0 ∨ 262144 < z by omega) with hz0 | hz0
      all_goals
        refine ACalls.enter Tryd.func13 rfl Tryd.ntmps13 (by kernel_rfl) rfl ?_; simp only [argEnv, Nat.reduceAdd, List.length_nil, List.length_cons]
        repeat' (first | (apply AGo.drawX [0, 1, 2, 3, 4, 5, 6, 7, 8, 9, 10, 11, 12, 13, 14, 15, 16, 17, 18, 19, 20, 21, 22] 23; rfl) | (apply AReg.fin; kernel_rfl) | (apply AReg.go) | (apply AReg.pass; rfl; exact fun _ _ _ h => h; rfl; rfl; rfl; rfl; kernel_rfl; kernel_rfl) | (apply AReg.pure true; rfl; exact fun _ _ _ h => h; (iterate 6 rfl); kernel_rfl; kernel_rfl; first | exact True.intro | omega | (exact ⟨by omega, Nat.le_of_ble_eq_true rfl⟩)) | (apply AReg.one; rfl; rfl; kernel_rfl) | (apply AReg.two; rfl; rfl; rfl; kernel_rfl) | (exact AGo.mid0) | (apply AGo.midDone; (repeat' (first | exact EnvEq.nil | (apply EnvEq.cons; rfl))); rfl) | apply AGo.seq | apply AGo.block | apply AGo.blk | apply AGo.skip | apply AGo.nil | (apply AGo.region; rfl) | (apply AGo.q true; rfl; rfl; rfl; rfl; first | exact True.intro | omega | (simp only [Int.toNat_natCast, Int.reduceToNat, IntKind.bits]; omega) | (exact ⟨by omega, Nat.le_of_ble_eq_true rfl⟩)) | (apply AGo.callP (rr); (iterate 6 rfl)) | (apply AGo.callP (k2); (iterate 6 rfl)) | (apply AGo.condDT; rfl; first | omega | rfl) | (apply AGo.condDF; rfl; omega) | (apply AGo.condT; rfl) | (apply AGo.condF; rfl) | (apply AGo.box; (iterate 6 rfl); simp only [nm, Nat.reduceAdd, spliceA, AV.cells, D.cells]) | (apply AGo.unguard; rfl; rfl) | (apply AGo.gT; rfl; rfl; rfl; first | omega | rfl) | (apply AGo.gF; rfl; rfl; rfl; omega) | (apply AGo.cBT; rfl; first | (simp only [bT]; omega)) | (apply AGo.cBF; rfl; first | (simp only [bF]; omega) | exact ndF rfl) | (apply AGo.skipOp; rfl; rfl; rfl) | intro _ | (apply AGo.retN; rfl; rfl; rfl; rfl) | (apply AGo.retL; rfl; rfl; rfl; rfl) | (apply AGo.outL; rfl; rfl))
        all_goals first | exact ⟨rfl, rfl⟩ | (exfalso; omega) | trace_state
end Go.Proofs.YtdihjnifoikbeaaDoor.Av.Sh
