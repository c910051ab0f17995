/- Sheets that are light. -/
import Derived.Test.YtdihjnifoikbeaaDoorAr1
import Derived.Test.YtdihjnifoikbeaaDoorPs3
import Derived.Test.YtdihjnifoikbeaaDoorPn3
set_option linter.unusedSimpArgs false
set_option linter.unusedVariables false
set_option maxRecDepth 100000
namespace Go.Proofs.YtdihjnifoikbeaaDoor.Av.Sh
open Go Bt Tc Co
attribute [local irreducible] AGo ACalls
variable {gl : List (Nat × List D)}
def fewB (c : Cel) : Bool := decide (c.e0.length ≤ 100 ∧ c.e1.length ≤ 100 ∧ c.e2.length ≤ 100 ∧ c.e3.length ≤ 100 ∧ c.e4.length ≤ 100 ∧ c.e5.length ≤ 100)
def rowFew (r : Rw) : Bool := decide (r.cells.length ≤ 200) && r.cells.all fewB
def lightS (h : Hd) (rs : List Rw) : Bool := decide (rs.length ≤ 30 ∧ h.supp.length ≤ 100) && rs.all rowFew && decide ((cellsOf rs).length ≤ 200)
theorem take_rowFew {l : List Rw} {k : Nat} {r : Rw} (h : l[k]? = some r) : (l.take (k + 1)).all rowFew = ((l.take k).all rowFew && rowFew r) := by
  rw [List.take_add_one, h, List.all_append]; simp
theorem take_fewB {l : List Cel} {k : Nat} {c : Cel} (h : l[k]? = some c) : (l.take (k + 1)).all fewB = ((l.take k).all fewB && fewB c) := by
  rw [take_cel h, List.all_append]; simp
theorem cells_few : ∀ (l : List Rw), l.all rowFew = true → (cellsOf l).length ≤ 200 * l.length
  | [], _ => by simp [cellsOf]
  | r :: l, h => by
    rw [List.all_cons, Bool.and_eq_true] at h
    have ih := cells_few l h.2
    have h1 := h.1
    unfold rowFew at h1
    rw [Bool.and_eq_true, decide_eq_true_eq] at h1
    have e : cellsOf (r :: l) = r.cells ++ cellsOf l := rfl
    rw [e, List.length_append, List.length_cons]; omega
theorem light_no {h : Hd} {rs : List Rw} {k : Nat} {r : Rw} (hr : rs[k]? = some r) (hn : rowFew r = false) : lightS h rs = false := by
  have : rs.all rowFew = false := List.all_eq_false.2 ⟨r, List.mem_of_getElem? hr, by rw [hn]; decide⟩
  unfold lightS
  rw [this, Bool.and_false]; rfl
theorem rowFew_no {r : Rw} {k : Nat} {c : Cel} (hc : r.cells[k]? = some c) (hn : fewB c = false) : rowFew r = false := by
  have : r.cells.all fewB = false := List.all_eq_false.2 ⟨c, List.mem_of_getElem? hc, by rw [hn]; decide⟩
  unfold rowFew
  rw [this, Bool.and_false]
theorem rows_drop0 (r : Rw) : (rwD r).cells = [.bool r.head, In r.id, In r.quant, .sl 18 (celsD r.cells)] := rfl
attribute [local irreducible] evsD suD celsD rsD cellsOf
set_option maxHeartbeats 32000000 in
theorem light25_c (h : Hd) (rs : List Rw) (z : Int) (st : StI h rs z) : ACalls (cxg gl) 8 [.d (shD h (rsD rs) z)] [] (fun r H => r = B (lightS h rs) ∧ H = []) := by
  have hn := rsD_len rs
  have hs := suD_len h.supp
  by_cases hA : rs.length ≤ 30 ∧ h.supp.length ≤ 100
  · have e00 : (cellsOf (rs.take 0)).length = 0 := by rw [List.take_zero]; unfold cellsOf; rfl
    refine ACalls.enter Tryd.func8 rfl Tryd.ntmps8 (by kernel_rfl) rfl ?_; simp only [argEnv, Nat.reduceAdd, List.length_nil, List.length_cons]
    repeat' (first | apply AGo.seq | apply AGo.block | apply AGo.blk | apply AGo.skip | apply AGo.nil | (apply AGo.region; rfl) | (apply AGo.q true; rfl; rfl; rfl; rfl; first | exact True.intro | omega | (simp only [Int.toNat_natCast, Int.reduceToNat, IntKind.bits]; omega)) | (apply AGo.exit; rfl) | (apply AGo.condDT; rfl; first | omega | rfl) | (apply AGo.condDF; rfl; omega) | (apply AGo.condT; rfl) | (apply AGo.box; (iterate 6 rfl); simp only [nm, Nat.reduceAdd, spliceA, AV.cells, D.cells]) | (apply AGo.unguard; rfl; rfl) | (apply AGo.gF; rfl; rfl; rfl; omega) | (apply AGo.skipOp; rfl; rfl; rfl) | intro _ | (apply AGo.condD' ; rfl) | (apply AGo.gD; rfl; rfl; rfl) | (apply AGo.retN; rfl; rfl; rfl; rfl) | (apply AGo.retL; rfl; rfl; rfl; rfl) | (apply AGo.retL2; rfl; rfl; rfl; rfl) | (apply AGo.outL; rfl; rfl))
    all_goals first | (exfalso; omega) | skip
    refine AGo.weak (env' := [(4, I ((0 : Nat) : Int)), (3, I (((cellsOf (rs.take 0)).length : Nat) : Int)), (1, .ptr 0 0)]) ⟨rfl, by rw [e00]; rfl, rfl, trivial⟩ ?_
    refine AGo.loop (fun m env H => ∃ i : Nat, m = rs.length - i ∧ i ≤ rs.length ∧ (rs.take i).all rowFew = true ∧ env = [(4, I (i : Int)), (3, I (((cellsOf (rs.take i)).length : Nat) : Int)), (1, .ptr 0 0)] ∧ H = [.cells (shA h (rsD rs) z)]) rs.length
      ⟨0, rfl, by omega, by simp, rfl, rfl⟩ ?_
    rintro m env H ⟨i, rfl, hi, hal, rfl, rfl⟩
    rcases Nat.lt_or_ge i rs.length with hlt | hge
    · obtain ⟨r, hr⟩ : ∃ r, rs[i]? = some r := ⟨_, List.getElem?_eq_getElem hlt⟩
      have g1 := rsD_get hr
      have hX := cells_few _ hal
      have hXl : (rs.take i).length ≤ 30 := by rw [List.length_take]; omega
      have eX := cellsOf_take hr
      have et := take_rowFew hr
      rw [hal, Bool.true_and] at et
      have hm := celsD_len r.cells
      by_cases hcl : r.cells.length ≤ 200
      · generalize hXX : cellsOf (rs.take i) = X at *
        have c0 : (X ++ r.cells.take 0).length = X.length := by simp
        repeat' (first | (apply AGo.opx; (apply quiet_idxG; (iterate 7 rfl); (first | omega | (rw [hn]; omega)); exact g1); rfl; rfl; rfl) | apply AGo.seq | apply AGo.block | apply AGo.blk | apply AGo.skip | apply AGo.nil | (apply AGo.region; rfl) | (apply AGo.q true; rfl; rfl; rfl; rfl; first | exact True.intro | omega | (simp only [Int.toNat_natCast, Int.reduceToNat, IntKind.bits]; omega) | (rw [hn]; omega)) | (apply AGo.exit; rfl) | (apply AGo.condDT; rfl; first | omega | rfl) | (apply AGo.condDF; rfl; omega) | (apply AGo.condT; rfl) | (apply AGo.box; (iterate 6 rfl); simp only [nm, Nat.reduceAdd, spliceA, AV.cells, D.cells]) | (apply AGo.unguard; rfl; rfl) | (apply AGo.gF; rfl; rfl; rfl; omega) | (apply AGo.skipOp; rfl; rfl; rfl) | intro _ | (apply AGo.condD' ; rfl) | (apply AGo.gD; rfl; rfl; rfl) | (apply AGo.retN; rfl; rfl; rfl; rfl) | (apply AGo.retL; rfl; rfl; rfl; rfl) | (apply AGo.retL2; rfl; rfl; rfl; rfl) | (apply AGo.outL; rfl; rfl))
        all_goals first | (exfalso; omega) | skip
        refine AGo.weak (env' := [(5, I ((0 : Nat) : Int)), (4, I (i : Int)), (3, I (((X ++ r.cells.take 0).length : Nat) : Int)), (1, .ptr 0 0)]) ⟨rfl, rfl, by rw [c0]; rfl, rfl, trivial⟩ ?_
        refine AGo.loop (fun m env H => ∃ k : Nat, m = r.cells.length - k ∧ k ≤ r.cells.length ∧ (r.cells.take k).all fewB = true ∧ env = [(5, I (k : Int)), (4, I (i : Int)), (3, I (((X ++ r.cells.take k).length : Nat) : Int)), (1, .ptr 0 0)] ∧ H = [.cells (shA h (rsD rs) z)]) r.cells.length
          ⟨0, rfl, by omega, by simp, rfl, rfl⟩ ?_
        rintro m env H ⟨k, rfl, hk, hal2, rfl, rfl⟩
        have hkl : (X ++ r.cells.take k).length = X.length + k := by rw [List.length_append, List.length_take]; omega
        rcases Nat.lt_or_ge k r.cells.length with hlt2 | hge2
        · obtain ⟨c, hc⟩ : ∃ c, r.cells[k]? = some c := ⟨_, List.getElem?_eq_getElem hlt2⟩
          have g2 := celsD_get hc
          have et2 := take_fewB hc
          rw [hal2, Bool.true_and] at et2
          have hkl2 : (X ++ r.cells.take (k + 1)).length = X.length + k + 1 := by rw [List.length_append, List.length_take]; omega
          have l0 := evsD_len c.e0
          have l1 := evsD_len c.e1
          have l2 := evsD_len c.e2
          have l3 := evsD_len c.e3
          have l4 := evsD_len c.e4
          have l5 := evsD_len c.e5
          cases hF : fewB c with
          | true =>
            rw [hF] at et2
            obtain ⟨f0, f1, f2, f3, f4, f5⟩ := of_decide_eq_true hF
            repeat' (first | (apply AGo.opx; (apply quiet_idxG; (iterate 7 rfl); (first | omega | (rw [hn]; omega) | (rw [hm]; omega) | (exact ⟨by omega, Nat.le_of_ble_eq_true rfl⟩)); exact g1); rfl; rfl; rfl) | (apply AGo.opx; (apply quiet_idxG; (iterate 7 rfl); (first | omega | (rw [hn]; omega) | (rw [hm]; omega) | (exact ⟨by omega, Nat.le_of_ble_eq_true rfl⟩)); exact g2); rfl; rfl; rfl) | apply AGo.seq | apply AGo.block | apply AGo.blk | apply AGo.skip | apply AGo.nil | (apply AGo.region; rfl) | (apply AGo.q true; rfl; rfl; rfl; rfl; first | exact True.intro | omega | (simp only [Int.toNat_natCast, Int.reduceToNat, IntKind.bits]; omega) | (rw [hn]; omega) | (rw [hm]; omega) | (exact ⟨by omega, Nat.le_of_ble_eq_true rfl⟩)) | (apply AGo.exit; rfl) | (apply AGo.condDT; rfl; first | omega | rfl) | (apply AGo.condDF; rfl; omega) | (apply AGo.condT; rfl) | (apply AGo.box; (iterate 6 rfl); simp only [nm, Nat.reduceAdd, spliceA, AV.cells, D.cells]) | (apply AGo.unguard; rfl; rfl) | (apply AGo.gF; rfl; rfl; rfl; omega) | (apply AGo.skipOp; rfl; rfl; rfl) | apply AGo.loopU | apply AGo.lpU | intro _ | (apply AGo.condD' ; rfl) | (apply AGo.gD; rfl; rfl; rfl) | (apply AGo.retN; rfl; rfl; rfl; rfl) | (apply AGo.retL; rfl; rfl; rfl; rfl) | (apply AGo.retL2; rfl; rfl; rfl; rfl) | (apply AGo.outL; rfl; rfl))
            all_goals first
              | exact AGo.round [(5, I ((k + 1 : Nat) : Int)), (4, I (i : Int)), (3, I (((X ++ r.cells.take (k + 1)).length : Nat) : Int)), (1, .ptr 0 0)] (r.cells.length - (k + 1)) (by omega) ⟨rfl, rfl, congrArg I (by omega), rfl, trivial⟩ ⟨k + 1, rfl, hlt2, et2, rfl, rfl⟩
              | (exfalso; omega)
              | trace_state
          | false =>
            have hno := light_no (h := h) hr (rowFew_no hc hF)
            rw [hno]
            have hF' := of_decide_eq_false hF
            repeat' (first | (apply AGo.opx; (apply quiet_idxG; (iterate 7 rfl); (first | omega | (rw [hn]; omega) | (rw [hm]; omega) | (exact ⟨by omega, Nat.le_of_ble_eq_true rfl⟩)); exact g1); rfl; rfl; rfl) | (apply AGo.opx; (apply quiet_idxG; (iterate 7 rfl); (first | omega | (rw [hn]; omega) | (rw [hm]; omega) | (exact ⟨by omega, Nat.le_of_ble_eq_true rfl⟩)); exact g2); rfl; rfl; rfl) | apply AGo.seq | apply AGo.block | apply AGo.blk | apply AGo.skip | apply AGo.nil | (apply AGo.region; rfl) | (apply AGo.q true; rfl; rfl; rfl; rfl; first | exact True.intro | omega | (simp only [Int.toNat_natCast, Int.reduceToNat, IntKind.bits]; omega) | (rw [hn]; omega) | (rw [hm]; omega) | (exact ⟨by omega, Nat.le_of_ble_eq_true rfl⟩)) | (apply AGo.exit; rfl) | (apply AGo.condDT; rfl; first | omega | rfl) | (apply AGo.condDF; rfl; omega) | (apply AGo.condT; rfl) | (apply AGo.box; (iterate 6 rfl); simp only [nm, Nat.reduceAdd, spliceA, AV.cells, D.cells]) | (apply AGo.unguard; rfl; rfl) | (apply AGo.gF; rfl; rfl; rfl; omega) | (apply AGo.skipOp; rfl; rfl; rfl) | apply AGo.loopU | apply AGo.lpU | intro _ | (apply AGo.condD' ; rfl) | (apply AGo.gD; rfl; rfl; rfl) | (apply AGo.retN; rfl; rfl; rfl; rfl) | (apply AGo.retL; rfl; rfl; rfl; rfl) | (apply AGo.retL2; rfl; rfl; rfl; rfl) | (apply AGo.outL; rfl; rfl))
            all_goals first | exact ⟨rfl, rfl⟩ | (exfalso; omega) | trace_state
        · obtain rfl : k = r.cells.length := by omega
          rw [List.take_length] at hal2
          have eRF : rowFew r = true := by unfold rowFew; rw [hal2, decide_eq_true hcl]; rfl
          rw [eRF] at et
          rw [List.take_length, ← eX]
          repeat' (first | (apply AGo.opx; (apply quiet_idxG; (iterate 7 rfl); (first | omega | (rw [hn]; omega)); exact g1); rfl; rfl; rfl) | apply AGo.seq | apply AGo.block | apply AGo.blk | apply AGo.skip | apply AGo.nil | (apply AGo.region; rfl) | (apply AGo.q true; rfl; rfl; rfl; rfl; first | exact True.intro | omega | (simp only [Int.toNat_natCast, Int.reduceToNat, IntKind.bits]; omega) | (rw [hn]; omega)) | (apply AGo.exit; rfl) | (apply AGo.condDT; rfl; first | omega | rfl) | (apply AGo.condDF; rfl; omega) | (apply AGo.condT; rfl) | (apply AGo.box; (iterate 6 rfl); simp only [nm, Nat.reduceAdd, spliceA, AV.cells, D.cells]) | (apply AGo.unguard; rfl; rfl) | (apply AGo.gF; rfl; rfl; rfl; omega) | (apply AGo.skipOp; rfl; rfl; rfl) | intro _ | (apply AGo.condD' ; rfl) | (apply AGo.gD; rfl; rfl; rfl) | (apply AGo.retN; rfl; rfl; rfl; rfl) | (apply AGo.retL; rfl; rfl; rfl; rfl) | (apply AGo.retL2; rfl; rfl; rfl; rfl) | (apply AGo.outL; rfl; rfl))
          all_goals first
            | exact AGo.round [(4, I ((i + 1 : Nat) : Int)), (3, I (((cellsOf (rs.take (i + 1))).length : Nat) : Int)), (1, .ptr 0 0)] (rs.length - (i + 1)) (by omega) ⟨rfl, rfl, rfl, trivial⟩ ⟨i + 1, rfl, hlt, et, rfl, rfl⟩
            | (exfalso; omega)
            | trace_state
      · have eRF : rowFew r = false := by unfold rowFew; rw [decide_eq_false hcl]; rfl
        rw [light_no (h := h) hr eRF]
        repeat' (first | (apply AGo.opx; (apply quiet_idxG; (iterate 7 rfl); (first | omega | (rw [hn]; omega)); exact g1); rfl; rfl; rfl) | apply AGo.seq | apply AGo.block | apply AGo.blk | apply AGo.skip | apply AGo.nil | (apply AGo.region; rfl) | (apply AGo.q true; rfl; rfl; rfl; rfl; first | exact True.intro | omega | (simp only [Int.toNat_natCast, Int.reduceToNat, IntKind.bits]; omega) | (rw [hn]; omega)) | (apply AGo.exit; rfl) | (apply AGo.condDT; rfl; first | omega | rfl) | (apply AGo.condDF; rfl; omega) | (apply AGo.condT; rfl) | (apply AGo.box; (iterate 6 rfl); simp only [nm, Nat.reduceAdd, spliceA, AV.cells, D.cells]) | (apply AGo.unguard; rfl; rfl) | (apply AGo.gF; rfl; rfl; rfl; omega) | (apply AGo.skipOp; rfl; rfl; rfl) | intro _ | (apply AGo.condD' ; rfl) | (apply AGo.gD; rfl; rfl; rfl) | (apply AGo.retN; rfl; rfl; rfl; rfl) | (apply AGo.retL; rfl; rfl; rfl; rfl) | (apply AGo.retL2; rfl; rfl; rfl; rfl) | (apply AGo.outL; rfl; rfl))
        all_goals first | exact ⟨rfl, rfl⟩ | (exfalso; omega) | skip
    · obtain rfl : i = rs.length := by omega
      rw [List.take_length] at hal ⊢
      have eL : lightS h rs = decide ((cellsOf rs).length ≤ 200) := by unfold lightS; rw [hal, decide_eq_true hA]; rfl
      rw [eL]
      repeat' (first | apply AGo.seq | apply AGo.block | apply AGo.blk | apply AGo.skip | apply AGo.nil | (apply AGo.region; rfl) | (apply AGo.q true; rfl; rfl; rfl; rfl; first | exact True.intro | omega | (simp only [Int.toNat_natCast, Int.reduceToNat, IntKind.bits]; omega)) | (apply AGo.exit; rfl) | (apply AGo.condDT; rfl; first | omega | rfl) | (apply AGo.condDF; rfl; omega) | (apply AGo.condT; rfl) | (apply AGo.box; (iterate 6 rfl); simp only [nm, Nat.reduceAdd, spliceA, AV.cells, D.cells]) | (apply AGo.unguard; rfl; rfl) | (apply AGo.gF; rfl; rfl; rfl; omega) | (apply AGo.skipOp; rfl; rfl; rfl) | intro _ | (apply AGo.condD' ; rfl) | (apply AGo.gD; rfl; rfl; rfl) | (apply AGo.retN; rfl; rfl; rfl; rfl) | (apply AGo.retL; rfl; rfl; rfl; rfl) | (apply AGo.retL2; rfl; rfl; rfl; rfl) | (apply AGo.outL; rfl; rfl))
      all_goals first | exact ⟨congrArg B (by first | rfl | (apply decide_eq_decide.2; omega)), rfl⟩ | (exfalso; omega) | trace_state
  · have eL : lightS h rs = false := by unfold lightS; rw [decide_eq_false hA]; rfl
    rw [eL]
    refine ACalls.enter Tryd.func8 rfl Tryd.ntmps8 (by kernel_rfl) rfl ?_; simp only [argEnv, Nat.reduceAdd, List.length_nil, List.length_cons]
    repeat' (first | apply AGo.seq | apply AGo.block | apply AGo.blk | apply AGo.skip | apply AGo.nil | (apply AGo.region; rfl) | (apply AGo.q true; rfl; rfl; rfl; rfl; first | exact True.intro | omega | (simp only [Int.toNat_natCast, Int.reduceToNat, IntKind.bits]; omega)) | (apply AGo.exit; rfl) | (apply AGo.condDT; rfl; first | omega | rfl) | (apply AGo.condDF; rfl; omega) | (apply AGo.condT; rfl) | (apply AGo.box; (iterate 6 rfl); simp only [nm, Nat.reduceAdd, spliceA, AV.cells, D.cells]) | (apply AGo.unguard; rfl; rfl) | (apply AGo.gF; rfl; rfl; rfl; omega) | (apply AGo.skipOp; rfl; rfl; rfl) | intro _ | (apply AGo.condD' ; rfl) | (apply AGo.gD; rfl; rfl; rfl) | (apply AGo.retN; rfl; rfl; rfl; rfl) | (apply AGo.retL; rfl; rfl; rfl; rfl) | (apply AGo.retL2; rfl; rfl; rfl; rfl) | (apply AGo.outL; rfl; rfl))
    all_goals first | exact ⟨rfl, rfl⟩ | (exfalso; omega) | trace_state
end Go.Proofs.YtdihjnifoikbeaaDoor.Av.Sh
