/- The law BlankOf. -/
import Derived.Test.YtdihjnifoikbeaaDoorBk6
set_option linter.unusedSimpArgs false
set_option linter.unusedVariables false
set_option maxRecDepth 100000
namespace Go.Proofs.YtdihjnifoikbeaaDoor.Av.Sh
open Go Bt Tc Co Wr
attribute [local irreducible] AGo ACalls
variable {gl : List (Nat × List D)}
def hdB : Hd := ⟨3, 0, 6, true, 5, []⟩
abbrev shBD : D := .agg [In 3, In 0, In 6, .bool true, In 5, .nils, .sl 4 [rwLD, rwLD], In 2]
theorem shB_w : DWeak shBD (shD hdB (rsD [rwL, rwL]) 2) := CW.dweak ⟨rfl, by simp [D.cells, D.one], fun i c d hc hd => by
  match i, hc, hd with
  | 0, hc, hd | 1, hc, hd | 2, hc, hd | 3, hc, hd | 4, hc, hd | 7, hc, hd => cases hc; cases hd; exact DWeak.refl _
  | 5, hc, hd => cases hc; cases hd; exact DWeak.nils 1
  | 6, hc, hd =>
    cases hc; cases hd
    refine DWeak.sl rfl fun j e f he hf => ?_
    match j, he, hf with
    | 0, he, hf | 1, he, hf => cases he; cases hf; exact rwL_w
    | j + 2, he, hf => simp at he
  | i + 8, hc, hd => simp [D.cells] at hc⟩
theorem checkB : checkS hdB [rwL, rwL] 2 = 0 := by decide +kernel
theorem lenB : (rsD (blankS [rwL, rwL])).length = 2 := rfl
theorem bl60 : blB 6 0 = 56 := by decide +kernel
theorem bl10 : blB 1 0 = 104 := by decide +kernel
theorem bl68 : blB 6 8 = 128 := by decide +kernel
theorem blank_many {rs : List Rw} : (cellsOf (blankS rs)).length = (cellsOf rs).length := by rw [blank_cells, List.length_replicate]
theorem blank_all {rs : List Rw} : ∀ r ∈ blankS rs, ∀ c ∈ r.cells, c = celL := fun r hr c hc => by
  obtain ⟨x, hx, rfl⟩ := List.mem_map.1 hr
  exact (List.mem_replicate.1 hc).2
attribute [local irreducible] Tc.evsD suD celsD rsD rbD rightS octets packN padS formS checkS sheetOut hdOk lightS cellsOf blankS blB
set_option maxHeartbeats 16000000 in
theorem bllives_c : ACalls (cxg gA) 9 [] [] (fun r H => r = B true ∧ H = []) := by
  have b1 := ((blof_yes hdB [rwL, rwL] 2 rowsL_ok (by decide) checkB rfl).more gtc_A).weak (args := [.d shBD]) ⟨Weak.d shB_w, trivial⟩
  have k1 := blbits_c (gl := gA) 6 0
  rw [bl60] at k1
  have k2 := blbits_c (gl := gA) 1 0
  rw [bl10] at k2
  have k3 := blbits_c (gl := gA) 6 8
  rw [bl68] at k3
  have hl := lenB
  refine ACalls.enter Tryd.func9 rfl Tryd.ntmps9 (by kernel_rfl) rfl ?_; simp only [argEnv, Nat.reduceAdd, List.length_nil, List.length_cons]
  repeat' (first | apply AGo.seq | apply AGo.nil | (apply AGo.region; rfl) | (apply AGo.q true; rfl; rfl; rfl; rfl; first | exact True.intro | omega | (simp only [Int.toNat_natCast, Int.reduceToNat, IntKind.bits]; omega)) | (apply AGo.callP (b1); (iterate 6 rfl)) | (apply AGo.callP (k1); (iterate 6 rfl)) | (apply AGo.callP (k2); (iterate 6 rfl)) | (apply AGo.callP (k3); (iterate 6 rfl)) | (apply AGo.alloc; (iterate 5 rfl); simp only [nm, Nat.reduceAdd, spliceA, AV.cells, D.cells]) | (apply AGo.store; (iterate 9 rfl); exact Nat.le_of_ble_eq_true rfl; simp only [nm, Nat.reduceAdd, spliceA, AV.cells, D.cells]) | (apply AGo.build; (iterate 5 rfl); simp only [nm, Nat.reduceAdd, spliceA, AV.cells, D.cells, mkAgg, unDs, AV.unD]) | (apply AGo.unguard; rfl; rfl) | (apply AGo.gT; rfl; rfl; rfl; first | omega | rfl) | (apply AGo.buildSlice; (iterate 11 rfl)) | intro _ | (apply AGo.retN; rfl; rfl; rfl; rfl))
  all_goals first | exact ⟨rfl, rfl⟩ | (exfalso; omega) | trace_state
set_option maxHeartbeats 32000000 in
theorem bl_in (h : Hd) (rs : List Rw) (z f n : Int) (st : StI h rs z) (hf : I64 f) : ACalls (cxg gA) 3 [.d (shD h (rsD rs) z), I f, I n] [] (fun r H => r = B true ∧ H = []) := by
  have lv := bllives_c
  have lt := light25_c (gl := gA) h rs z st
  have k1 := blbits_c (gl := gA) f n
  have k2 := rblbits_c (gl := gA) f n hf
  cases hL : lightS h rs with
  | false =>
    rw [hL] at lt
    refine ACalls.enter Tryd.func3 rfl Tryd.ntmps3 (by kernel_rfl) rfl ?_; simp only [argEnv, Nat.reduceAdd, List.length_nil, List.length_cons]
    repeat' (first | apply AGo.seq | apply AGo.skip | apply AGo.nil | (apply AGo.region; rfl) | (apply AGo.q true; rfl; rfl; rfl; rfl; first | exact True.intro | omega | (simp only [Int.toNat_natCast, Int.reduceToNat, IntKind.bits]; omega)) | (apply AGo.callP (lt); (iterate 6 rfl)) | (apply AGo.callP (lv); (iterate 6 rfl)) | (apply AGo.condT; rfl) | (apply AGo.condF; rfl) | (apply AGo.alloc; (iterate 5 rfl); simp only [nm, Nat.reduceAdd, spliceA, AV.cells, D.cells]) | (apply AGo.box; (iterate 6 rfl); simp only [nm, Nat.reduceAdd, spliceA, AV.cells, D.cells]) | (apply AGo.store; (iterate 9 rfl); exact Nat.le_of_ble_eq_true rfl; simp only [nm, Nat.reduceAdd, spliceA, AV.cells, D.cells]) | (apply AGo.build; (iterate 5 rfl); simp only [nm, Nat.reduceAdd, spliceA, AV.cells, D.cells, mkAgg, unDs, AV.unD]) | (apply AGo.unguard; rfl; rfl) | (apply AGo.gT; rfl; rfl; rfl; first | omega | rfl) | (apply AGo.gF; rfl; rfl; rfl; omega) | (apply AGo.cBT; rfl; first | (simp only [bT]; omega)) | (apply AGo.cBF; rfl; first | (simp only [bF]; omega) | exact ndF rfl) | (apply AGo.skipOp; rfl; rfl; rfl) | intro _ | (apply AGo.retN; rfl; rfl; rfl; rfl))
    all_goals first | exact ⟨rfl, rfl⟩ | (exfalso; omega) | trace_state
  | true =>
    rw [hL] at lt
    obtain ⟨ok, hl, hcl⟩ := light_ok st hL
    have rc := rcheck_c (gl := gA) h rs z ok hl st.fmt
    have s0 := (rsame25_c (gl := gA) hd0 [] 0 row0_ok (by decide) (by simp)).weak (args := [.d sh0D, .d sh0D]) ⟨Weak.d sh0_w, Weak.d sh0_w, trivial⟩
    by_cases hc : checkS h rs z = 0
    · cases hi : h.inter with
      | false =>
        have bo := (blof_no h rs z ok hl hc hi).more gtc_A
        rw [hc] at rc
        obtain ⟨a, b, c, d, e, f'⟩ := h
        simp only at hi
        subst hi
        refine ACalls.enter Tryd.func3 rfl Tryd.ntmps3 (by kernel_rfl) rfl ?_; simp only [argEnv, Nat.reduceAdd, List.length_nil, List.length_cons]
        repeat' (first | apply AGo.seq | apply AGo.skip | apply AGo.nil | (apply AGo.region; rfl) | (apply AGo.q true; rfl; rfl; rfl; rfl; first | exact True.intro | omega | (simp only [Int.toNat_natCast, Int.reduceToNat, IntKind.bits]; omega)) | (apply AGo.callP (lt); (iterate 6 rfl)) | (apply AGo.callP (lv); (iterate 6 rfl)) | (apply AGo.callP (k1); (iterate 6 rfl)) | (apply AGo.callP (k2); (iterate 6 rfl)) | (apply AGo.callP (rc); (iterate 6 rfl)) | (apply AGo.callP (bo); (iterate 6 rfl)) | (apply AGo.callP (s0); (iterate 6 rfl)) | (apply AGo.condT; rfl) | (apply AGo.condF; rfl) | (apply AGo.alloc; (iterate 5 rfl); simp only [nm, Nat.reduceAdd, spliceA, AV.cells, D.cells]) | (apply AGo.box; (iterate 6 rfl); simp only [nm, Nat.reduceAdd, spliceA, AV.cells, D.cells]) | (apply AGo.store; (iterate 9 rfl); exact Nat.le_of_ble_eq_true rfl; simp only [nm, Nat.reduceAdd, spliceA, AV.cells, D.cells]) | (apply AGo.build; (iterate 5 rfl); simp only [nm, Nat.reduceAdd, spliceA, AV.cells, D.cells, mkAgg, unDs, AV.unD]) | (apply AGo.unguard; rfl; rfl) | (apply AGo.gT; rfl; rfl; rfl; first | omega | rfl) | (apply AGo.gF; rfl; rfl; rfl; omega) | (apply AGo.cBT; rfl; first | (simp only [bT]; omega)) | (apply AGo.cBF; rfl; first | (simp only [bF]; omega) | exact ndF rfl) | (apply AGo.skipOp; rfl; rfl; rfl) | intro _ | (apply AGo.retN; rfl; rfl; rfl; rfl))
        all_goals first | exact ⟨rfl, rfl⟩ | (exfalso; omega) | trace_state
      | true =>
        have hfm := checkS_0 hc
        have bo := (blof_yes h rs z ok hl hc hi).more gtc_A
        have ro := rblof_c (gl := gA) h rs z hl st.fmt hfm hi
        have sm := rsame25_c (gl := gA) h (blankS rs) 0 (blank_ok ok) hl blank_all
        have bt := bits_yes h (blankS rs) 0 (blank_ok ok) hl (blank_check hfm hi) (by rw [blank_many]; exact hcl) (by decide)
        rw [blank_sheet hfm] at bt
        have k3 := blbits_c (gl := gA) h.fmt h.supp.length
        have hsl := suD_len h.supp
        rw [hc] at rc
        obtain ⟨a, b, c, d, e, f'⟩ := h
        simp only at hi bt k3 hsl
        subst hi
        rw [← hsl] at k3 bt
        generalize blB c ((suD f').length : Int) = W at *
        generalize rsD (blankS rs) = R at *
        refine ACalls.enter Tryd.func3 rfl Tryd.ntmps3 (by kernel_rfl) rfl ?_; simp only [argEnv, Nat.reduceAdd, List.length_nil, List.length_cons]
        repeat' (first | (apply AGo.seal 0 3; rfl; rfl; simp only [List.map, AV.viewD, List.set_cons_zero, List.set_cons_succ]) | (apply AGo.drawZ1 [0, 1, 2, 3, 4, 5, 6, 7, 8, 9, 10, 11, 12, 13, 14, 15, 16, 17, 18, 19, 20, 21, 22, 23, 24, 25] 26; rfl) | (apply ARegI.go) | (apply ARegA.fin; kernel_rfl) | (apply ARegA.pureX; rfl; (apply PureTo.q true; rfl; rfl; first | exact True.intro | omega); exact fun _ _ _ h => h; (iterate 5 rfl); kernel_rfl; kernel_rfl) | (apply ARegA.fork1; rfl; kernel_rfl) | (apply ARegA.fork2; rfl; kernel_rfl) | (apply ARegA1.step; rfl) | (apply ARegA.back) | (exact AGo.mid0) | (apply AGo.midDone; (repeat' (first | exact EnvEq.nil | (apply EnvEq.cons; rfl))); rfl) | apply AGo.seq | apply AGo.skip | apply AGo.nil | (apply AGo.region; rfl) | (apply AGo.q true; rfl; rfl; rfl; rfl; first | exact True.intro | omega | (simp only [Int.toNat_natCast, Int.reduceToNat, IntKind.bits]; omega)) | (apply AGo.callP (lt); (iterate 6 rfl)) | (apply AGo.callP (lv); (iterate 6 rfl)) | (apply AGo.callP (k1); (iterate 6 rfl)) | (apply AGo.callP (k2); (iterate 6 rfl)) | (apply AGo.callP (rc); (iterate 6 rfl)) | (apply AGo.callP (bo); (iterate 6 rfl)) | (apply AGo.callP (ro); (iterate 6 rfl)) | (apply AGo.callP (sm); (iterate 6 rfl)) | (apply AGo.callP (bt); (iterate 6 rfl)) | (apply AGo.callP (k3); (iterate 6 rfl)) | (apply AGo.condT; rfl) | (apply AGo.condF; rfl) | (apply AGo.alloc; (iterate 5 rfl); simp only [nm, Nat.reduceAdd, spliceA, AV.cells, D.cells]) | (apply AGo.box; (iterate 6 rfl); simp only [nm, Nat.reduceAdd, spliceA, AV.cells, D.cells]) | (apply AGo.store; (iterate 9 rfl); exact Nat.le_of_ble_eq_true rfl; simp only [nm, Nat.reduceAdd, spliceA, AV.cells, D.cells]) | (apply AGo.build; (iterate 5 rfl); simp only [nm, Nat.reduceAdd, spliceA, AV.cells, D.cells, mkAgg, unDs, AV.unD]) | (apply AGo.unguard; rfl; rfl) | (apply AGo.gT; rfl; rfl; rfl; first | omega | rfl) | (apply AGo.gF; rfl; rfl; rfl; omega) | (apply AGo.cBT; rfl; first | (simp only [bT]; omega) | ((simp; done))) | (apply AGo.cBF; rfl; first | (simp only [bF]; omega) | exact ndF rfl | ((simp; done))) | (apply AGo.skipOp; rfl; rfl; rfl) | intro _ | (apply AGo.retN; rfl; rfl; rfl; rfl))
        all_goals first | exact ⟨rfl, rfl⟩ | (exfalso; omega) | trace_state
    · have bo := (blof_bad h rs z ok hl hc).more gtc_A
      refine ACalls.enter Tryd.func3 rfl Tryd.ntmps3 (by kernel_rfl) rfl ?_; simp only [argEnv, Nat.reduceAdd, List.length_nil, List.length_cons]
      repeat' (first | apply AGo.seq | apply AGo.skip | apply AGo.nil | (apply AGo.region; rfl) | (apply AGo.q true; rfl; rfl; rfl; rfl; first | exact True.intro | omega | (simp only [Int.toNat_natCast, Int.reduceToNat, IntKind.bits]; omega)) | (apply AGo.callP (lt); (iterate 6 rfl)) | (apply AGo.callP (lv); (iterate 6 rfl)) | (apply AGo.callP (k1); (iterate 6 rfl)) | (apply AGo.callP (k2); (iterate 6 rfl)) | (apply AGo.callP (rc); (iterate 6 rfl)) | (apply AGo.callP (bo); (iterate 6 rfl)) | (apply AGo.callP (s0); (iterate 6 rfl)) | (apply AGo.condT; rfl) | (apply AGo.condF; rfl) | (apply AGo.alloc; (iterate 5 rfl); simp only [nm, Nat.reduceAdd, spliceA, AV.cells, D.cells]) | (apply AGo.box; (iterate 6 rfl); simp only [nm, Nat.reduceAdd, spliceA, AV.cells, D.cells]) | (apply AGo.store; (iterate 9 rfl); exact Nat.le_of_ble_eq_true rfl; simp only [nm, Nat.reduceAdd, spliceA, AV.cells, D.cells]) | (apply AGo.build; (iterate 5 rfl); simp only [nm, Nat.reduceAdd, spliceA, AV.cells, D.cells, mkAgg, unDs, AV.unD]) | (apply AGo.unguard; rfl; rfl) | (apply AGo.gT; rfl; rfl; rfl; first | omega | rfl) | (apply AGo.gF; rfl; rfl; rfl; omega) | (apply AGo.cBT; rfl; first | (simp only [bT]; omega)) | (apply AGo.cBF; rfl; first | (simp only [bF]; omega) | exact ndF rfl) | (apply AGo.skipOp; rfl; rfl; rfl) | intro _ | (apply AGo.retN; rfl; rfl; rfl; rfl))
      all_goals first | exact ⟨rfl, rfl⟩ | (exfalso; omega) | trace_state
theorem blankOf_law (x : D) (f n : Int) (hx : TyV tys 9 25 x) (hf : I64 f) (hn : I64 n) :
    ACalls (cxg gA) 3 [.d x, I f, I n] [] (fun r H => r = B true ∧ H = []) := by
  obtain ⟨h, rs, z, ⟨l, rfl⟩, w, st⟩ := sheet_ofF 0 x hx
  exact (bl_in h rs z f n st hf).weak ⟨Weak.d (CW.dweak w), Weak.refl _, Weak.refl _, trivial⟩
end Go.Proofs.YtdihjnifoikbeaaDoor.Av.Sh
