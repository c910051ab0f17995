/- Sheets that may be: sound.Check, where all but vectors is fine. -/
import Derived.Test.YtdihjnifoikbeaaDoorSh17
set_option linter.unusedSimpArgs false
set_option linter.unusedVariables false
set_option maxRecDepth 100000
namespace Go.Proofs.YtdihjnifoikbeaaDoor.Av.Sh
open Go Bt Tc Co Wr
attribute [local irreducible] AGo ACalls
variable {gl : List (Nat × List D)}
theorem vecOk_cases (f : Int) (n : Nat) (c : Cel) : (c.kind = 3 ∧ vecOk f n c = true) ∨ (c.kind = 4 ∧ vecOk f n c = true) ∨ (c.kind ≠ 3 ∧ c.kind ≠ 4 ∧ vecOk f n c = mayS f n (mvP c)) := by
  unfold vecOk intraS
  by_cases h3 : c.kind = 3
  · exact .inl ⟨h3, by rw [decide_eq_true (.inl h3)]; rfl⟩
  · by_cases h4 : c.kind = 4
    · exact .inr (.inl ⟨h4, by rw [decide_eq_true (.inr h4)]; rfl⟩)
    · exact .inr (.inr ⟨h3, h4, by rw [decide_eq_false (by omega)]; rfl⟩)
attribute [local irreducible] evsD suD celsD rsD rightS rowsS hdOk headRow octets packN padS mayS vecsS vecOk cellsOf
set_option maxHeartbeats 16000000 in
theorem check_yes (h : Hd) (rs : List Rw) (z : Int) (ok : RwsOk rs) (hl : h.supp.length ≤ 100) (hyes : formS h rs z = true) :
    ACalls (cxg gtc) 37 [.d (shD h (rsD rs) z)] [] (fun x H => x = I (if vecsS h.fmt (cellsOf rs) (cellsOf rs).length = true then 0 else 8) ∧ H = []) := by
  have hn := rsD_len rs
  have k2 := rows_c (gl := gtc) h.fmt
  have nw := wnew_c (gl := gtc)
  obtain ⟨hh, hz, hR, ha⟩ := formS_inv hyes
  obtain ⟨hf, hlen⟩ := formS_len hyes
  have sp := sput_c (gl := gtc) h (rsD rs) z [] 0 hh ⟨rfl, by simp⟩ (by omega)
  have ev := every_c h rs z ok
  rw [ha] at ev
  rw [← hR] at k2
  have sc := scells_c (gl := gtc) h rs z ok
  have hX := ok.le rs.length
  rw [List.take_length] at hX
  generalize hL : cellsOf rs = l at *
  have hm := celsD_len l
  have v0 : vecsS h.fmt l 0 = true := by unfold vecsS; rfl
  refine ACalls.enter Tryd.func37 rfl Tryd.ntmps37 (by kernel_rfl) rfl ?_; simp only [argEnv, Nat.reduceAdd, List.length_nil, List.length_cons]
  repeat' (first | (apply AGo.drawX [0, 1, 2, 3, 4, 5, 6, 7, 8, 9, 10, 11, 12, 13, 14, 15, 16, 17, 18, 19, 20, 21, 22, 23, 24, 25, 26, 27] 28; rfl) | (apply AReg.fin; kernel_rfl) | (apply AReg.go) | (apply AReg.pure true; rfl; exact fun _ _ _ h => h; (iterate 6 rfl); kernel_rfl; kernel_rfl; first | exact True.intro | omega) | (apply AReg.one; rfl; rfl; kernel_rfl) | (apply AReg.two; rfl; rfl; rfl; kernel_rfl) | (exact AGo.mid0) | (apply AGo.midDone; (repeat' (first | exact EnvEq.nil | (apply EnvEq.cons; rfl))); rfl) | apply AGo.seq | apply AGo.block | apply AGo.blk | apply AGo.skip | apply AGo.nil | (apply AGo.region; rfl) | (apply AGo.q true; rfl; rfl; rfl; rfl; first | exact True.intro | omega | (simp only [Int.toNat_natCast, Int.reduceToNat, IntKind.bits]; omega)) | (apply AGo.callH [] ( nw); (iterate 6 rfl); decide; rfl; rfl; simp only [names, putH, AV.ren, AV.renL, AObj.ren, nh, Nat.reduceAdd, Nat.reduceSub]) | (apply AGo.callH [1,2] ( sp); (iterate 6 rfl); decide; rfl; rfl; simp only [names, putH, AV.ren, AV.renL, AObj.ren, nh, Nat.reduceAdd, Nat.reduceSub]) | (apply AGo.callP (k2); (iterate 6 rfl)) | (apply AGo.callP (ev); (iterate 6 rfl)) | (apply AGo.callP (sc); (iterate 6 rfl)) | (apply AGo.condDT; rfl; first | omega | rfl) | (apply AGo.condDF; rfl; omega) | (apply AGo.condT; rfl) | (apply AGo.condF; rfl) | (apply AGo.alloc; (iterate 5 rfl); simp only [nm, Nat.reduceAdd, spliceA, AV.cells, D.cells]) | (apply AGo.box; (iterate 6 rfl); simp only [nm, Nat.reduceAdd, spliceA, AV.cells, D.cells]) | (apply AGo.store; (iterate 9 rfl); exact Nat.le_of_ble_eq_true rfl; simp only [nm, Nat.reduceAdd, spliceA, AV.cells, D.cells]) | (apply AGo.unguard; rfl; rfl) | (apply AGo.gF; rfl; rfl; rfl; omega) | (apply AGo.gBT; rfl; rfl; rfl; first | (simp only [bT]; omega)) | (apply AGo.gBF; rfl; rfl; rfl; first | (simp only [bF]; omega) | exact ndF rfl) | (apply AGo.skipOp; rfl; rfl; rfl) | intro _ | (apply AGo.retN; rfl; rfl; rfl; rfl) | (apply AGo.retL; rfl; rfl; rfl; rfl) | (apply AGo.outL; rfl; rfl))
  all_goals
    refine AGo.drop 1 (env' := [(44, I ((0 : Nat) : Int)), (43, I ((celsD l).length : Int)), (42, .d (.sl 18 (celsD l))), (1, .ptr 0 0)]) (Nat.zero_le _) (by simp) (fun o ho => objsBnd_mem (m := 1) rfl o ho) ⟨rfl, rfl, rfl, rfl, trivial⟩ (enB_get 1 _ rfl) ?_
    refine AGo.loop (fun m env H => ∃ k : Nat, m = l.length - k ∧ k ≤ l.length ∧ vecsS h.fmt l k = true ∧ env = [(44, I (k : Int)), (43, I ((celsD l).length : Int)), (42, .d (.sl 18 (celsD l))), (1, .ptr 0 0)] ∧ H = [.cells (shA h (rsD rs) z)]) l.length
      ⟨0, rfl, by omega, v0, rfl, rfl⟩ ?_
    rintro m env H ⟨k, rfl, hk, hal, rfl, rfl⟩
    rcases Nat.lt_or_ge k l.length with hlt | hge
    · obtain ⟨c, hc⟩ : ∃ c, l[k]? = some c := ⟨_, List.getElem?_eq_getElem hlt⟩
      have g2 := celsD_get hc
      have et := vecsS_succ (f := h.fmt) hc
      rw [hal, Bool.true_and] at et
      have mm := mmay_c (gl := gtc) h.fmt k (mvP c) hf (by omega)
      rcases vecOk_cases h.fmt k c with ⟨k3, hv⟩ | ⟨k4, hv⟩ | ⟨k3, k4, hv⟩
      · rw [hv] at et
        repeat' (first | (apply AGo.opx; (apply quiet_idxG; (iterate 7 rfl); (first | omega | (rw [hm]; omega)); exact g2); rfl; rfl; rfl) | apply AGo.seq | apply AGo.block | apply AGo.blk | apply AGo.skip | apply AGo.nil | (apply AGo.region; rfl) | (apply AGo.q true; rfl; rfl; rfl; rfl; first | exact True.intro | omega | (simp only [Int.toNat_natCast, Int.reduceToNat, IntKind.bits]; omega) | (rw [hm]; omega)) | (apply AGo.condDT; rfl; first | omega | rfl) | (apply AGo.condDF; rfl; omega) | (apply AGo.condT; rfl) | (apply AGo.condF; rfl) | (apply AGo.alloc; (iterate 5 rfl); simp only [nm, Nat.reduceAdd, spliceA, AV.cells, D.cells]) | (apply AGo.box; (iterate 6 rfl); simp only [nm, Nat.reduceAdd, spliceA, AV.cells, D.cells]) | (apply AGo.store; (iterate 9 rfl); exact Nat.le_of_ble_eq_true rfl; simp only [nm, Nat.reduceAdd, spliceA, AV.cells, D.cells]) | (apply AGo.unguard; rfl; rfl) | (apply AGo.gF; rfl; rfl; rfl; omega) | (apply AGo.gBT; rfl; rfl; rfl; first | (simp only [bT]; omega)) | (apply AGo.gBF; rfl; rfl; rfl; first | (simp only [bF]; omega) | exact ndF rfl) | (apply AGo.skipOp; rfl; rfl; rfl) | intro _ | (apply AGo.retN; rfl; rfl; rfl; rfl) | (apply AGo.retL; rfl; rfl; rfl; rfl) | (apply AGo.outL; rfl; rfl))
        all_goals first
          | exact AGo.roundD 1 [(44, I ((k + 1 : Nat) : Int)), (43, I ((celsD l).length : Int)), (42, .d (.sl 18 (celsD l))), (1, .ptr 0 0)] (l.length - (k + 1)) (by omega) rfl rfl rfl rfl ⟨rfl, rfl, rfl, rfl, trivial⟩ ⟨k + 1, rfl, hlt, et, rfl, rfl⟩
          | (exfalso; omega)
          | trace_state
      · rw [hv] at et
        repeat' (first | (apply AGo.opx; (apply quiet_idxG; (iterate 7 rfl); (first | omega | (rw [hm]; omega)); exact g2); rfl; rfl; rfl) | apply AGo.seq | apply AGo.block | apply AGo.blk | apply AGo.skip | apply AGo.nil | (apply AGo.region; rfl) | (apply AGo.q true; rfl; rfl; rfl; rfl; first | exact True.intro | omega | (simp only [Int.toNat_natCast, Int.reduceToNat, IntKind.bits]; omega) | (rw [hm]; omega)) | (apply AGo.condDT; rfl; first | omega | rfl) | (apply AGo.condDF; rfl; omega) | (apply AGo.condT; rfl) | (apply AGo.condF; rfl) | (apply AGo.alloc; (iterate 5 rfl); simp only [nm, Nat.reduceAdd, spliceA, AV.cells, D.cells]) | (apply AGo.box; (iterate 6 rfl); simp only [nm, Nat.reduceAdd, spliceA, AV.cells, D.cells]) | (apply AGo.store; (iterate 9 rfl); exact Nat.le_of_ble_eq_true rfl; simp only [nm, Nat.reduceAdd, spliceA, AV.cells, D.cells]) | (apply AGo.unguard; rfl; rfl) | (apply AGo.gF; rfl; rfl; rfl; omega) | (apply AGo.gBT; rfl; rfl; rfl; first | (simp only [bT]; omega)) | (apply AGo.gBF; rfl; rfl; rfl; first | (simp only [bF]; omega) | exact ndF rfl) | (apply AGo.skipOp; rfl; rfl; rfl) | intro _ | (apply AGo.retN; rfl; rfl; rfl; rfl) | (apply AGo.retL; rfl; rfl; rfl; rfl) | (apply AGo.outL; rfl; rfl))
        all_goals first
          | exact AGo.roundD 1 [(44, I ((k + 1 : Nat) : Int)), (43, I ((celsD l).length : Int)), (42, .d (.sl 18 (celsD l))), (1, .ptr 0 0)] (l.length - (k + 1)) (by omega) rfl rfl rfl rfl ⟨rfl, rfl, rfl, rfl, trivial⟩ ⟨k + 1, rfl, hlt, et, rfl, rfl⟩
          | (exfalso; omega)
          | trace_state
      · cases hM : mayS h.fmt k (mvP c) with
        | true =>
          rw [hM] at mm hv
          rw [hv] at et
          repeat' (first | (apply AGo.opx; (apply quiet_idxG; (iterate 7 rfl); (first | omega | (rw [hm]; omega)); exact g2); rfl; rfl; rfl) | apply AGo.seq | apply AGo.block | apply AGo.blk | apply AGo.skip | apply AGo.nil | (apply AGo.region; rfl) | (apply AGo.q true; rfl; rfl; rfl; rfl; first | exact True.intro | omega | (simp only [Int.toNat_natCast, Int.reduceToNat, IntKind.bits]; omega) | (rw [hm]; omega)) | (apply AGo.callP (mm); (iterate 6 rfl)) | (apply AGo.condDT; rfl; first | omega | rfl) | (apply AGo.condDF; rfl; omega) | (apply AGo.condT; rfl) | (apply AGo.condF; rfl) | (apply AGo.alloc; (iterate 5 rfl); simp only [nm, Nat.reduceAdd, spliceA, AV.cells, D.cells]) | (apply AGo.box; (iterate 6 rfl); simp only [nm, Nat.reduceAdd, spliceA, AV.cells, D.cells]) | (apply AGo.store; (iterate 9 rfl); exact Nat.le_of_ble_eq_true rfl; simp only [nm, Nat.reduceAdd, spliceA, AV.cells, D.cells]) | (apply AGo.unguard; rfl; rfl) | (apply AGo.gF; rfl; rfl; rfl; omega) | (apply AGo.gBT; rfl; rfl; rfl; first | (simp only [bT]; omega)) | (apply AGo.gBF; rfl; rfl; rfl; first | (simp only [bF]; omega) | exact ndF rfl) | (apply AGo.skipOp; rfl; rfl; rfl) | intro _ | (apply AGo.retN; rfl; rfl; rfl; rfl) | (apply AGo.retL; rfl; rfl; rfl; rfl) | (apply AGo.outL; rfl; rfl))
          all_goals first
            | exact AGo.roundD 1 [(44, I ((k + 1 : Nat) : Int)), (43, I ((celsD l).length : Int)), (42, .d (.sl 18 (celsD l))), (1, .ptr 0 0)] (l.length - (k + 1)) (by omega) rfl rfl rfl rfl ⟨rfl, rfl, rfl, rfl, trivial⟩ ⟨k + 1, rfl, hlt, et, rfl, rfl⟩
            | (exfalso; omega)
            | trace_state
        | false =>
          rw [hM] at mm hv
          have hno := vecsS_all_no hc hv
          rw [hno, if_neg (by decide)]
          repeat' (first | (apply AGo.opx; (apply quiet_idxG; (iterate 7 rfl); (first | omega | (rw [hm]; omega)); exact g2); rfl; rfl; rfl) | apply AGo.seq | apply AGo.block | apply AGo.blk | apply AGo.skip | apply AGo.nil | (apply AGo.region; rfl) | (apply AGo.q true; rfl; rfl; rfl; rfl; first | exact True.intro | omega | (simp only [Int.toNat_natCast, Int.reduceToNat, IntKind.bits]; omega) | (rw [hm]; omega)) | (apply AGo.callP (mm); (iterate 6 rfl)) | (apply AGo.condDT; rfl; first | omega | rfl) | (apply AGo.condDF; rfl; omega) | (apply AGo.condT; rfl) | (apply AGo.condF; rfl) | (apply AGo.alloc; (iterate 5 rfl); simp only [nm, Nat.reduceAdd, spliceA, AV.cells, D.cells]) | (apply AGo.box; (iterate 6 rfl); simp only [nm, Nat.reduceAdd, spliceA, AV.cells, D.cells]) | (apply AGo.store; (iterate 9 rfl); exact Nat.le_of_ble_eq_true rfl; simp only [nm, Nat.reduceAdd, spliceA, AV.cells, D.cells]) | (apply AGo.unguard; rfl; rfl) | (apply AGo.gF; rfl; rfl; rfl; omega) | (apply AGo.gBT; rfl; rfl; rfl; first | (simp only [bT]; omega)) | (apply AGo.gBF; rfl; rfl; rfl; first | (simp only [bF]; omega) | exact ndF rfl) | (apply AGo.skipOp; rfl; rfl; rfl) | intro _ | (apply AGo.retN; rfl; rfl; rfl; rfl) | (apply AGo.retL; rfl; rfl; rfl; rfl) | (apply AGo.outL; rfl; rfl))
          all_goals first | exact ⟨rfl, rfl⟩ | (exfalso; omega) | trace_state
    · obtain rfl : k = l.length := by omega
      rw [hal, if_pos rfl]
      repeat' (first | apply AGo.seq | apply AGo.block | apply AGo.blk | apply AGo.skip | apply AGo.nil | (apply AGo.region; rfl) | (apply AGo.q true; rfl; rfl; rfl; rfl; first | exact True.intro | omega | (simp only [Int.toNat_natCast, Int.reduceToNat, IntKind.bits]; omega)) | (apply AGo.condDT; rfl; first | omega | rfl) | (apply AGo.condDF; rfl; omega) | (apply AGo.condT; rfl) | (apply AGo.condF; rfl) | (apply AGo.alloc; (iterate 5 rfl); simp only [nm, Nat.reduceAdd, spliceA, AV.cells, D.cells]) | (apply AGo.box; (iterate 6 rfl); simp only [nm, Nat.reduceAdd, spliceA, AV.cells, D.cells]) | (apply AGo.store; (iterate 9 rfl); exact Nat.le_of_ble_eq_true rfl; simp only [nm, Nat.reduceAdd, spliceA, AV.cells, D.cells]) | (apply AGo.unguard; rfl; rfl) | (apply AGo.gF; rfl; rfl; rfl; omega) | (apply AGo.gBT; rfl; rfl; rfl; first | (simp only [bT]; omega)) | (apply AGo.gBF; rfl; rfl; rfl; first | (simp only [bF]; omega) | exact ndF rfl) | (apply AGo.skipOp; rfl; rfl; rfl) | intro _ | (apply AGo.retN; rfl; rfl; rfl; rfl) | (apply AGo.retL; rfl; rfl; rfl; rfl) | (apply AGo.outL; rfl; rfl))
      all_goals first | exact ⟨rfl, rfl⟩ | (exfalso; omega) | trace_state
theorem check_c (h : Hd) (rs : List Rw) (z : Int) (ok : RwsOk rs) (hl : h.supp.length ≤ 100) :
    ACalls (cxg gtc) 37 [.d (shD h (rsD rs) z)] [] (fun x H => x = I (checkS h rs z) ∧ H = []) := by
  unfold checkS
  cases hf : formS h rs z with
  | true => rw [if_pos rfl]; exact check_yes h rs z ok hl hf
  | false => rw [if_neg (by decide)]; exact check_no h rs z ok hl hf
end Go.Proofs.YtdihjnifoikbeaaDoor.Av.Sh
