/- The law SheetoutPuts. -/
import Derived.Test.YtocmdllfdeiceaaGreatDoorSh24
import Derived.Test.YtocmdllfdeiceaaGreatDoorSh25
import Derived.Test.YtocmdllfdeiceaaGreatDoorBt9
set_option linter.unusedSimpArgs false
set_option linter.unusedVariables false
set_option maxRecDepth 100000
namespace Go.Proofs.YtocmdllfdeiceaaGreatDoor.Av.Sh
open Go Bt Co Wr
attribute [local irreducible] AGo ACalls
variable {gl : List (Nat × List D)}
theorem checkS_0 {h : Hd} {rs : List Rw} {z : Int} (hc : checkS h rs z = 0) : formS h rs z = true := by
  unfold checkS at hc
  cases hf : formS h rs z with
  | true => rfl
  | false => rw [hf, if_neg (by decide)] at hc; cases hc
theorem sheetOut_fine {h : Hd} {rs : List Rw} {z : Int} {n : Nat} (hf : formS h rs z = true) (hz : z ≤ 1000) (hc : (cellsOf rs).length ≤ 200) : Fine (sheetOut h rs z n) 2700000 := by
  obtain ⟨hh, hz0, hR, ha⟩ := formS_inv hf
  have h1 := outS_fine (n := n) hh ha rs.length (Nat.le_refl _)
  have hRb : fR h.fmt ≤ 18 := by unfold fR; split <;> (try split) <;> (try split) <;> (try split) <;> (try split) <;> (try split) <;> decide
  rw [List.take_length] at h1
  have h2 := (h1.app (zs_fine (padN (n + (outS h rs n rs.length).length)))).app (zs_fine (8 * z.toNat))
  have hp := padN_le (n + (outS h rs n rs.length).length)
  exact ⟨h2.1, by have := h2.2; unfold sheetOut; omega⟩
theorem sheetOut_8 (h : Hd) (rs : List Rw) (z : Int) : (sheetOut h rs z 0).length % 8 = 0 := by
  unfold sheetOut
  have hp := padN_ok (0 + (outS h rs 0 rs.length).length)
  have e : ∀ k, (zs k).length = k := fun k => by unfold zs; simp
  rw [List.length_append, List.length_append, e, e]
  omega
theorem celI_few {c : Cel} (h : CelI c) (hf : fewB c = true) : CelOk c := by
  obtain ⟨h0, h1, h2, h3, h4, h5⟩ := of_decide_eq_true hf
  exact ⟨h.x, h.y, h.step, ⟨by omega, h.e0.2⟩, ⟨by omega, h.e1.2⟩, ⟨by omega, h.e2.2⟩, ⟨by omega, h.e3.2⟩, ⟨by omega, h.e4.2⟩, ⟨by omega, h.e5.2⟩⟩
theorem light_ok {h : Hd} {rs : List Rw} {z : Int} (st : StI h rs z) (hl : lightS h rs = true) : RwsOk rs ∧ h.supp.length ≤ 100 ∧ (cellsOf rs).length ≤ 200 := by
  unfold lightS at hl
  simp only [Bool.and_eq_true, decide_eq_true_eq] at hl
  obtain ⟨⟨⟨h1, h2⟩, h3⟩, h4⟩ := hl
  refine ⟨⟨by omega, fun r hr => ?_⟩, h2, h4⟩
  have hf := List.all_eq_true.1 h3 r hr
  unfold rowFew at hf
  simp only [Bool.and_eq_true, decide_eq_true_eq] at hf
  exact ⟨by omega, fun c hc => celI_few ((st.rows r hr).cells c hc) (List.all_eq_true.1 hf.2 c hc)⟩
attribute [local irreducible] Tc.evsD suD celsD rsD rightS octets packN padS formS checkS sheetOut hdOk lightS cellsOf
set_option maxHeartbeats 8000000 in
theorem light27_c (h : Hd) (rs : List Rw) (z : Int) (st : StI h rs z) : ACalls (cxg gl) 5 [.d (shD h (rsD rs) z)] [] (fun r H => r = B (lightS h rs && decide (z ≤ 1000)) ∧ H = []) := by
  have lc := light25_c (gl := gl) h rs z st
  cases hL : lightS h rs
  all_goals
    rw [hL] at lc
    refine ACalls.enter Tryz.func5 rfl Tryz.ntmps5 (by kernel_rfl) rfl ?_; simp only [argEnv, Nat.reduceAdd, List.length_nil, List.length_cons]
    repeat' (first | apply AGo.seq | apply AGo.nil | (apply AGo.region; rfl) | (apply AGo.q true; rfl; rfl; rfl; rfl; first | exact True.intro | omega | (simp only [Int.toNat_natCast, Int.reduceToNat, IntKind.bits]; omega)) | (apply AGo.callP (lc); (iterate 6 rfl)) | (apply AGo.box; (iterate 6 rfl); simp only [nm, Nat.reduceAdd, spliceA, AV.cells, D.cells]) | (apply AGo.unguard; rfl; rfl) | (apply AGo.skipOp; rfl; rfl; rfl) | intro _ | (apply AGo.retN; rfl; rfl; rfl; rfl))
    all_goals first | exact ⟨rfl, rfl⟩ | trace_state
set_option maxHeartbeats 8000000 in
theorem bits_yes (h : Hd) (rs : List Rw) (z : Int) (ok : RwsOk rs) (hl : h.supp.length ≤ 100) (hc : checkS h rs z = 0) (hcl : (cellsOf rs).length ≤ 200) (hz : z ≤ 1000000) :
    ACalls (cxg gA) 11 [.d (shD h (rsD rs) z)] [] (fun r H => r = .tup [I ((sheetOut h rs z 0).length : Int), I 0] ∧ H = []) := by
  have nw := wnew_c (gl := gA)
  have sp := sheetput_c [] 0 h rs z ok hl hc (checkS_0 hc) (Fine.nil 0) rfl (by omega) hz
  rw [List.nil_append] at sp
  have ln := wlen_c (gl := gA) (sheetOut h rs z 0)
  refine ACalls.enter Tryz.func11 rfl Tryz.ntmps11 (by kernel_rfl) rfl ?_; simp only [argEnv, Nat.reduceAdd, List.length_nil, List.length_cons]
  repeat' (first | apply AGo.seq | apply AGo.nil | (apply AGo.region; rfl) | (apply AGo.q true; rfl; rfl; rfl; rfl; first | exact True.intro | omega | (simp only [Int.toNat_natCast, Int.reduceToNat, IntKind.bits]; omega)) | (apply AGo.callH [] ( nw); (iterate 6 rfl); decide; rfl; rfl; simp only [names, putH, AV.ren, AV.renL, AObj.ren, nh, Nat.reduceAdd, Nat.reduceSub]) | (apply AGo.callH [1,2] ( sp); (iterate 6 rfl); decide; rfl; rfl; simp only [names, putH, AV.ren, AV.renL, AObj.ren, nh, Nat.reduceAdd, Nat.reduceSub]) | (apply AGo.callH [1,2] ( ln); (iterate 6 rfl); decide; rfl; rfl; simp only [names, putH, AV.ren, AV.renL, AObj.ren, nh, Nat.reduceAdd, Nat.reduceSub]) | (apply AGo.box; (iterate 6 rfl); simp only [nm, Nat.reduceAdd, spliceA, AV.cells, D.cells]) | intro _ | (apply AGo.retN; rfl; rfl; rfl; rfl))
  all_goals first | exact ⟨rfl, rfl⟩ | trace_state
set_option maxHeartbeats 8000000 in
theorem bits_no (h : Hd) (rs : List Rw) (z : Int) (ok : RwsOk rs) (hl : h.supp.length ≤ 100) (hc : checkS h rs z ≠ 0) :
    ACalls (cxg gA) 11 [.d (shD h (rsD rs) z)] [] (fun r H => r = .tup [I 0, I (checkS h rs z)] ∧ H = []) := by
  have nw := wnew_c (gl := gA)
  have sp := sheetputbad_c [] h rs z ok hl hc
  have ln := wlen_c (gl := gA) []
  refine ACalls.enter Tryz.func11 rfl Tryz.ntmps11 (by kernel_rfl) rfl ?_; simp only [argEnv, Nat.reduceAdd, List.length_nil, List.length_cons]
  repeat' (first | apply AGo.seq | apply AGo.nil | (apply AGo.region; rfl) | (apply AGo.q true; rfl; rfl; rfl; rfl; first | exact True.intro | omega | (simp only [Int.toNat_natCast, Int.reduceToNat, IntKind.bits]; omega)) | (apply AGo.callH [] ( nw); (iterate 6 rfl); decide; rfl; rfl; simp only [names, putH, AV.ren, AV.renL, AObj.ren, nh, Nat.reduceAdd, Nat.reduceSub]) | (apply AGo.callH [1,2] ( sp); (iterate 6 rfl); decide; rfl; rfl; simp only [names, putH, AV.ren, AV.renL, AObj.ren, nh, Nat.reduceAdd, Nat.reduceSub]) | (apply AGo.callH [1,2] ( ln); (iterate 6 rfl); decide; rfl; rfl; simp only [names, putH, AV.ren, AV.renL, AObj.ren, nh, Nat.reduceAdd, Nat.reduceSub]) | (apply AGo.box; (iterate 6 rfl); simp only [nm, Nat.reduceAdd, spliceA, AV.cells, D.cells]) | intro _ | (apply AGo.retN; rfl; rfl; rfl; rfl))
  all_goals first | exact ⟨rfl, rfl⟩ | trace_state
set_option maxHeartbeats 8000000 in
theorem rbits_c (h : Hd) (rs : List Rw) (z : Int) (ok : RwsOk rs) (hl : h.supp.length ≤ 100) (hc : checkS h rs z = 0) (hcl : (cellsOf rs).length ≤ 200) :
    ACalls (cxg gl) 17 [.d (shD h (rsD rs) z)] [] (fun r H => r = I ((sheetOut h rs z 0).length : Int) ∧ H = []) := by
  have rs27 := rsheet_c (gl := gl) 0 h rs z ok hl (checkS_0 hc) (by omega)
  refine ACalls.enter Tryz.func17 rfl Tryz.ntmps17 (by kernel_rfl) rfl ?_; simp only [argEnv, Nat.reduceAdd, List.length_nil, List.length_cons]
  repeat' (first | apply AGo.seq | apply AGo.nil | (apply AGo.region; rfl) | (apply AGo.q true; rfl; rfl; rfl; rfl; first | exact True.intro | omega | (simp only [Int.toNat_natCast, Int.reduceToNat, IntKind.bits]; omega)) | (apply AGo.callP (rs27); (iterate 6 rfl)) | (apply AGo.box; (iterate 6 rfl); simp only [nm, Nat.reduceAdd, spliceA, AV.cells, D.cells]) | intro _ | (apply AGo.retN; rfl; rfl; rfl; rfl))
  all_goals first | exact ⟨rfl, rfl⟩ | trace_state
/-! the chapter's example -/
def celL : Cel := ⟨0, true, 0, 0, 0, 0, 0, 0, 0, 0, 0, 0, [], [], [], [], [], []⟩
def rwL : Rw := ⟨false, 0, 0, [celL, celL]⟩
def hdL : Hd := ⟨0, 0, 6, true, 5, []⟩
def hd0 : Hd := ⟨0, 0, 0, false, 0, []⟩
abbrev celLD : D := .agg [In 0, .bool true, In 0, In 0, In 0, In 0, In 0, In 0, In 0, In 0, In 0, In 0, .nils, .nils, .nils, .nils, .nils, .nils]
abbrev rwLD : D := .agg [.bool false, In 0, In 0, .sl 18 [celLD, celLD]]
abbrev shLD : D := .agg [In 0, In 0, In 6, .bool true, In 5, .nils, .sl 4 [rwLD, rwLD], In 0]
abbrev sh0D : D := .agg [In 0, In 0, In 0, .bool false, In 0, .nils, .nils, In 0]
section
attribute [local semireducible] Tc.evsD suD celsD rsD
theorem celL_w : CW celLD (celD celL) := ⟨rfl, by simp [D.cells, D.one], fun i c d hc hd => by
  have hn : DWeak .nils (evS []) := DWeak.nils 3
  match i, hc, hd with
  | 0, hc, hd | 1, hc, hd | 2, hc, hd | 3, hc, hd | 4, hc, hd | 5, hc, hd | 6, hc, hd | 7, hc, hd | 8, hc, hd | 9, hc, hd | 10, hc, hd | 11, hc, hd => cases hc; cases hd; exact DWeak.refl _
  | 12, hc, hd | 13, hc, hd | 14, hc, hd | 15, hc, hd | 16, hc, hd | 17, hc, hd => cases hc; cases hd; exact hn
  | i + 18, hc, hd => simp [D.cells] at hc⟩
theorem rwL_w : CW rwLD (rwD rwL) := ⟨rfl, by simp [D.cells, D.one], fun i c d hc hd => by
  match i, hc, hd with
  | 0, hc, hd | 1, hc, hd | 2, hc, hd => cases hc; cases hd; exact DWeak.refl _
  | 3, hc, hd =>
    cases hc; cases hd
    refine DWeak.sl rfl fun j e f he hf => ?_
    match j, he, hf with
    | 0, he, hf | 1, he, hf => cases he; cases hf; exact celL_w
    | j + 2, he, hf => simp at he
  | i + 4, hc, hd => simp [D.cells] at hc⟩
theorem shL_w : DWeak shLD (shD hdL (rsD [rwL, rwL]) 0) := CW.dweak ⟨rfl, by simp [D.cells, D.one], fun i c d hc hd => by
  match i, hc, hd with
  | 0, hc, hd | 1, hc, hd | 2, hc, hd | 3, hc, hd | 4, hc, hd | 7, hc, hd => cases hc; cases hd; exact DWeak.refl _
  | 5, hc, hd => cases hc; cases hd; exact DWeak.nils 1
  | 6, hc, hd =>
    cases hc; cases hd
    refine DWeak.sl rfl fun j e f he hf => ?_
    match j, he, hf with
    | 0, he, hf | 1, he, hf => cases he; cases hf; exact rwL_w
    | j + 2, he, hf => simp at he
  | i + 8, hc, hd => simp [D.cells] at hc⟩
theorem sh0_w : DWeak sh0D (shD hd0 (rsD []) 0) := CW.dweak ⟨rfl, by simp [D.cells, D.one], fun i c d hc hd => by
  match i, hc, hd with
  | 0, hc, hd | 1, hc, hd | 2, hc, hd | 3, hc, hd | 4, hc, hd | 7, hc, hd => cases hc; cases hd; exact DWeak.refl _
  | 5, hc, hd => cases hc; cases hd; exact DWeak.nils 1
  | 6, hc, hd => cases hc; cases hd; exact DWeak.nils 4
  | i + 8, hc, hd => simp [D.cells] at hc⟩
end
theorem celL_ok : CelOk celL := by
  have h : EvsOk [] := ⟨by decide, by simp⟩
  exact ⟨i64_0, i64_0, i64_0, h, h, h, h, h, h⟩
theorem rowsL_ok : RwsOk [rwL, rwL] := ⟨by decide, fun r hr => by
  have : r = rwL := by simpa using hr
  subst this
  exact ⟨by decide, fun c hc => by
    have : c = celL := by simpa [rwL] using hc
    subst this; exact celL_ok⟩⟩
theorem row0_ok : RwsOk [] := ⟨by decide, by simp⟩
section
attribute [local semireducible] checkS sheetOut formS hdOk rightS cellsOf
theorem checkL : checkS hdL [rwL, rwL] 0 = 0 := by decide +kernel
theorem check0 : checkS hd0 [] 0 = 12 := by decide +kernel
theorem outL : (sheetOut hdL [rwL, rwL] 0 0).length = 56 := by decide +kernel
theorem manyL : (cellsOf [rwL, rwL]).length = 4 := by decide +kernel
end
set_option maxHeartbeats 8000000 in
theorem sholives_c : ACalls (cxg gA) 7 [] [] (fun r H => r = B true ∧ H = []) := by
  have b1 := (bits_yes hdL [rwL, rwL] 0 rowsL_ok (by decide) checkL (by rw [manyL]; decide) (by decide)).weak (args := [.d shLD]) ⟨Weak.d shL_w, trivial⟩
  rw [outL] at b1
  have b2 := (bits_no hd0 [] 0 row0_ok (by decide) (by rw [check0]; decide)).weak (args := [.d sh0D]) ⟨Weak.d sh0_w, trivial⟩
  rw [check0] at b2
  refine ACalls.enter Tryz.func7 rfl Tryz.ntmps7 (by kernel_rfl) rfl ?_; simp only [argEnv, Nat.reduceAdd, List.length_nil, List.length_cons]
  repeat' (first | apply AGo.seq | apply AGo.nil | (apply AGo.region; rfl) | (apply AGo.q true; rfl; rfl; rfl; rfl; first | exact True.intro | omega | (simp only [Int.toNat_natCast, Int.reduceToNat, IntKind.bits]; omega)) | (apply AGo.callP (b1); (iterate 6 rfl)) | (apply AGo.callP (b2); (iterate 6 rfl)) | (apply AGo.alloc; (iterate 5 rfl); simp only [nm, Nat.reduceAdd, spliceA, AV.cells, D.cells]) | (apply AGo.store; (iterate 9 rfl); exact Nat.le_of_ble_eq_true rfl; simp only [nm, Nat.reduceAdd, spliceA, AV.cells, D.cells]) | (apply AGo.build; (iterate 5 rfl); simp only [nm, Nat.reduceAdd, spliceA, AV.cells, D.cells, mkAgg, unDs, AV.unD]) | (apply AGo.unguard; rfl; rfl) | (apply AGo.buildSlice; (iterate 11 rfl)) | intro _ | (apply AGo.retN; rfl; rfl; rfl; rfl))
  all_goals first | exact ⟨rfl, rfl⟩ | trace_state
set_option maxHeartbeats 32000000 in
theorem sho_in (h : Hd) (rs : List Rw) (z : Int) (s : List UInt8) (st : StI h rs z) (hs : s.length ≤ 9223372036854775807) :
    ACalls (cxg gA) 3 [.d (shD h (rsD rs) z), S s] [] (fun r H => r = B true ∧ H = []) := by
  have lv := sholives_c
  have lt := light27_c (gl := gA) h rs z st
  cases hL : (lightS h rs && decide (z ≤ 1000)) with
  | false =>
    rw [hL] at lt
    refine ACalls.enter Tryz.func3 rfl Tryz.ntmps3 (by kernel_rfl) rfl ?_; simp only [argEnv, Nat.reduceAdd, List.length_nil, List.length_cons]
    repeat' (first | apply AGo.seq | apply AGo.skip | apply AGo.nil | (apply AGo.region; rfl) | (apply AGo.q true; rfl; rfl; rfl; rfl; first | exact True.intro | omega | (simp only [Int.toNat_natCast, Int.reduceToNat, IntKind.bits]; omega)) | (apply AGo.callP (lt); (iterate 6 rfl)) | (apply AGo.callP (lv); (iterate 6 rfl)) | (apply AGo.condT; rfl) | (apply AGo.condF; rfl) | (apply AGo.box; (iterate 6 rfl); simp only [nm, Nat.reduceAdd, spliceA, AV.cells, D.cells]) | (apply AGo.unguard; rfl; rfl) | (apply AGo.gT; rfl; rfl; rfl; first | omega | rfl) | (apply AGo.gF; rfl; rfl; rfl; omega) | (apply AGo.cBT; rfl; first | (simp only [bT]; omega)) | (apply AGo.cBF; rfl; first | (simp only [bF]; omega) | exact ndF rfl) | (apply AGo.gBF; rfl; rfl; rfl; first | (simp only [bF]; omega) | exact ndF rfl) | (apply AGo.skipOp; rfl; rfl; rfl) | intro _ | (apply AGo.retN; rfl; rfl; rfl; rfl))
    all_goals first | exact ⟨rfl, rfl⟩ | (exfalso; omega) | trace_state
  | true =>
    rw [hL] at lt
    rw [Bool.and_eq_true, decide_eq_true_eq] at hL
    obtain ⟨ok, hl, hcl⟩ := light_ok st hL.1
    rcases Nat.lt_or_ge 100 s.length with hlen | hlen
    · refine ACalls.enter Tryz.func3 rfl Tryz.ntmps3 (by kernel_rfl) rfl ?_; simp only [argEnv, Nat.reduceAdd, List.length_nil, List.length_cons]
      repeat' (first | apply AGo.seq | apply AGo.skip | apply AGo.nil | (apply AGo.region; rfl) | (apply AGo.q true; rfl; rfl; rfl; rfl; first | exact True.intro | omega | (simp only [Int.toNat_natCast, Int.reduceToNat, IntKind.bits]; omega)) | (apply AGo.callP (lt); (iterate 6 rfl)) | (apply AGo.callP (lv); (iterate 6 rfl)) | (apply AGo.condT; rfl) | (apply AGo.condF; rfl) | (apply AGo.box; (iterate 6 rfl); simp only [nm, Nat.reduceAdd, spliceA, AV.cells, D.cells]) | (apply AGo.unguard; rfl; rfl) | (apply AGo.gT; rfl; rfl; rfl; first | omega | rfl) | (apply AGo.gF; rfl; rfl; rfl; omega) | (apply AGo.cBT; rfl; first | (simp only [bT]; omega)) | (apply AGo.cBF; rfl; first | (simp only [bF]; omega) | exact ndF rfl) | (apply AGo.gBF; rfl; rfl; rfl; first | (simp only [bF]; omega) | exact ndF rfl) | (apply AGo.skipOp; rfl; rfl; rfl) | intro _ | (apply AGo.retN; rfl; rfl; rfl; rfl))
      all_goals first | exact ⟨rfl, rfl⟩ | (exfalso; omega) | trace_state
    · have pl := plain_c (gl := gA) s (by omega)
      cases hd : s.all isDig with
      | false =>
        rw [hd] at pl
        refine ACalls.enter Tryz.func3 rfl Tryz.ntmps3 (by kernel_rfl) rfl ?_; simp only [argEnv, Nat.reduceAdd, List.length_nil, List.length_cons]
        repeat' (first | apply AGo.seq | apply AGo.skip | apply AGo.nil | (apply AGo.region; rfl) | (apply AGo.q true; rfl; rfl; rfl; rfl; first | exact True.intro | omega | (simp only [Int.toNat_natCast, Int.reduceToNat, IntKind.bits]; omega)) | (apply AGo.callP (lt); (iterate 6 rfl)) | (apply AGo.callP (lv); (iterate 6 rfl)) | (apply AGo.callP (pl); (iterate 6 rfl)) | (apply AGo.condT; rfl) | (apply AGo.condF; rfl) | (apply AGo.box; (iterate 6 rfl); simp only [nm, Nat.reduceAdd, spliceA, AV.cells, D.cells]) | (apply AGo.unguard; rfl; rfl) | (apply AGo.gT; rfl; rfl; rfl; first | omega | rfl) | (apply AGo.gF; rfl; rfl; rfl; omega) | (apply AGo.cBT; rfl; first | (simp only [bT]; omega)) | (apply AGo.cBF; rfl; first | (simp only [bF]; omega) | exact ndF rfl) | (apply AGo.gBF; rfl; rfl; rfl; first | (simp only [bF]; omega) | exact ndF rfl) | (apply AGo.skipOp; rfl; rfl; rfl) | intro _ | (apply AGo.retN; rfl; rfl; rfl; rfl))
        all_goals first | exact ⟨rfl, rfl⟩ | (exfalso; omega) | trace_state
      | true =>
        rw [hd] at pl
        have nw := wnew_c (gl := gA)
        have ad := wadd_c (gl := gA) [] s rfl hd (by simp only [List.length_nil]; omega)
        rw [List.nil_append] at ad
        have pn := sheetputnil_c (.nilp) h rs z
        have rc := rcheck_c (gl := gA) h rs z ok hl st.fmt
        by_cases hc : checkS h rs z = 0
        · have sp := sheetput_c s s.length h rs z ok hl hc (checkS_0 hc) ⟨hd, Nat.le_refl _⟩ rfl (by omega) (by omega)
          have bt := bits_yes h rs z ok hl hc hcl (by omega)
          have rb := rbits_c (gl := gA) h rs z ok hl hc hcl
          have rr := rsheet_c (gl := gA) s.length h rs z ok hl (checkS_0 hc) (by omega)
          have hf := sheetOut_fine (n := s.length) (checkS_0 hc) hL.2 hcl
          have hf0 := sheetOut_fine (n := 0) (checkS_0 hc) hL.2 hcl
          have h8 := sheetOut_8 h rs z
          rw [hc] at rc
          have hf2 := hf.2
          have hf02 := hf0.2
          generalize sheetOut h rs z s.length = Z at *
          generalize (sheetOut h rs z 0).length = N0 at *
          have hzd : (s ++ Z).all isDig = true := by rw [List.all_append, hd, hf.1]; rfl
          have pk := packL_c (gl := gA) (s ++ Z) (by rw [List.length_append]; omega) hzd
          have ln := wlen_c (gl := gA) (s ++ Z)
          have tx := wtext_c (gl := gA) (s ++ Z)
          have k1 : decide (packN (s ++ Z) = packN (s ++ Z)) = true := decide_eq_true rfl
          refine ACalls.enter Tryz.func3 rfl Tryz.ntmps3 (by kernel_rfl) rfl ?_; simp only [argEnv, Nat.reduceAdd, List.length_nil, List.length_cons]
          repeat' (first | apply AGo.seq | apply AGo.skip | apply AGo.nil | (apply AGo.region; rfl) | (apply AGo.q true; rfl; rfl; rfl; rfl; first | exact True.intro | omega | (simp only [Int.toNat_natCast, Int.reduceToNat, IntKind.bits]; omega) | (simp only [List.length_append]; omega)) | (apply AGo.callH [] ( nw); (iterate 6 rfl); decide; rfl; rfl; simp only [names, putH, AV.ren, AV.renL, AObj.ren, nh, Nat.reduceAdd, Nat.reduceSub]) | (apply AGo.callH [1,2] ( ad); (iterate 6 rfl); decide; rfl; rfl; simp only [names, putH, AV.ren, AV.renL, AObj.ren, nh, Nat.reduceAdd, Nat.reduceSub]) | (apply AGo.callH [1,2] ( sp); (iterate 6 rfl); decide; rfl; rfl; simp only [names, putH, AV.ren, AV.renL, AObj.ren, nh, Nat.reduceAdd, Nat.reduceSub]) | (apply AGo.callH [1,2] ( ln); (iterate 6 rfl); decide; rfl; rfl; simp only [names, putH, AV.ren, AV.renL, AObj.ren, nh, Nat.reduceAdd, Nat.reduceSub]) | (apply AGo.callH [1,2] ( tx); (iterate 6 rfl); decide; rfl; rfl; simp only [names, putH, AV.ren, AV.renL, AObj.ren, nh, Nat.reduceAdd, Nat.reduceSub]) | (apply AGo.callP (lt); (iterate 6 rfl)) | (apply AGo.callP (lv); (iterate 6 rfl)) | (apply AGo.callP (pl); (iterate 6 rfl)) | (apply AGo.callP (bt); (iterate 6 rfl)) | (apply AGo.callP (pn); (iterate 6 rfl)) | (apply AGo.callP (rc); (iterate 6 rfl)) | (apply AGo.callP (rr); (iterate 6 rfl)) | (apply AGo.callP (pk); (iterate 6 rfl)) | (apply AGo.callP (rb); (iterate 6 rfl)) | (apply AGo.condT; rfl) | (apply AGo.condF; rfl) | (apply AGo.box; (iterate 6 rfl); simp only [nm, Nat.reduceAdd, spliceA, AV.cells, D.cells]) | (apply AGo.unguard; rfl; rfl) | (apply AGo.gT; rfl; rfl; rfl; first | omega | rfl) | (apply AGo.gF; rfl; rfl; rfl; omega) | (apply AGo.cBT; rfl; first | (simp only [bT]; omega) | (exact k1) | ((simp; done))) | (apply AGo.cBF; rfl; first | (simp only [bF]; omega) | exact ndF rfl | (exact k1) | ((simp; done))) | (apply AGo.gBF; rfl; rfl; rfl; first | (simp only [bF]; omega) | exact ndF rfl | (exact k1) | ((simp; done))) | (apply AGo.skipOp; rfl; rfl; rfl) | intro _ | (apply AGo.retN; rfl; rfl; rfl; rfl))
          all_goals first | exact ⟨rfl, rfl⟩ | (exfalso; omega) | trace_state
        · have sp := sheetputbad_c s h rs z ok hl hc
          have bt := bits_no h rs z ok hl hc
          have ln := wlen_c (gl := gA) s
          refine ACalls.enter Tryz.func3 rfl Tryz.ntmps3 (by kernel_rfl) rfl ?_; simp only [argEnv, Nat.reduceAdd, List.length_nil, List.length_cons]
          repeat' (first | apply AGo.seq | apply AGo.skip | apply AGo.nil | (apply AGo.region; rfl) | (apply AGo.q true; rfl; rfl; rfl; rfl; first | exact True.intro | omega | (simp only [Int.toNat_natCast, Int.reduceToNat, IntKind.bits]; omega)) | (apply AGo.callH [] ( nw); (iterate 6 rfl); decide; rfl; rfl; simp only [names, putH, AV.ren, AV.renL, AObj.ren, nh, Nat.reduceAdd, Nat.reduceSub]) | (apply AGo.callH [1,2] ( ad); (iterate 6 rfl); decide; rfl; rfl; simp only [names, putH, AV.ren, AV.renL, AObj.ren, nh, Nat.reduceAdd, Nat.reduceSub]) | (apply AGo.callH [1,2] ( sp); (iterate 6 rfl); decide; rfl; rfl; simp only [names, putH, AV.ren, AV.renL, AObj.ren, nh, Nat.reduceAdd, Nat.reduceSub]) | (apply AGo.callH [1,2] ( ln); (iterate 6 rfl); decide; rfl; rfl; simp only [names, putH, AV.ren, AV.renL, AObj.ren, nh, Nat.reduceAdd, Nat.reduceSub]) | (apply AGo.callP (lt); (iterate 6 rfl)) | (apply AGo.callP (lv); (iterate 6 rfl)) | (apply AGo.callP (pl); (iterate 6 rfl)) | (apply AGo.callP (bt); (iterate 6 rfl)) | (apply AGo.callP (pn); (iterate 6 rfl)) | (apply AGo.callP (rc); (iterate 6 rfl)) | (apply AGo.condT; rfl) | (apply AGo.condF; rfl) | (apply AGo.box; (iterate 6 rfl); simp only [nm, Nat.reduceAdd, spliceA, AV.cells, D.cells]) | (apply AGo.unguard; rfl; rfl) | (apply AGo.gT; rfl; rfl; rfl; first | omega | rfl) | (apply AGo.gF; rfl; rfl; rfl; omega) | (apply AGo.cBT; rfl; first | (simp only [bT]; omega)) | (apply AGo.cBF; rfl; first | (simp only [bF]; omega) | exact ndF rfl) | (apply AGo.gBF; rfl; rfl; rfl; first | (simp only [bF]; omega) | exact ndF rfl) | (apply AGo.skipOp; rfl; rfl; rfl) | intro _ | (apply AGo.retN; rfl; rfl; rfl; rfl))
          all_goals first | exact ⟨rfl, rfl⟩ | (exfalso; omega) | trace_state
theorem sheetoutPuts_law (x : D) (s : List UInt8) (hx : TyV tys 9 25 x) (hs : s.length ≤ 140737488351232) :
    ACalls (cxg gA) 3 [.d x, S s] [] (fun r H => r = B true ∧ H = []) := by
  obtain ⟨h, rs, z, ⟨l, rfl⟩, w, st⟩ := sheet_ofF 0 x hx
  exact (sho_in h rs z s st (by omega)).weak ⟨Weak.d (CW.dweak w), Weak.refl _, trivial⟩
end Go.Proofs.YtocmdllfdeiceaaGreatDoor.Av.Sh
