/- The law SheetoutPuts. -/
import Derived.Test.YtdihjnifoikbeaaDoorSh24
import Derived.Test.YtdihjnifoikbeaaDoorSh25
import Derived.Test.YtdihjnifoikbeaaDoorBt9
set_option linter.unusedSimpArgs false
set_option linter.unusedVariables false
set_option maxRecDepth 100000
namespace Go.Proofs.YtdihjnifoikbeaaDoor.Av.Sh
open Go Bt Co Wr
attribute [local irreducible] AGo ACalls
variable {gl : List (Nat × List D)}
theorem checkS_0 {h : Hd} {rs : List Rw} {z : Int} (hc : checkS h rs z = 0) : formS h rs z = true := by
  unfold checkS at hc
  cases hf : formS h rs z with
  | true => rfl
  | false => rw [hf, if_neg (by decide)] at hc; cases hc
theorem sheetOut_fine {h : Hd} {rs : List Rw} {z : Int} {n : Nat} (hf : formS h rs z = true) (hz : z ≤ 1000) (hc : (cellsOf rs).length ≤ 200) : Fine (sheetOut h rs z n) 2700000 := by
  obtain ⟨hh, hz0, hR, ha⟩ := formS_inv hf
  have h1 := outS_fine (n := n) hh ha rs.length (Nat.le_refl _)
  have hRb : fR h.fmt ≤ 18 := by unfold fR; split <;> (try split) <;> (try split) <;> (try split) <;> (try split) <;> (try split) <;> decide
  rw [List.take_length] at h1
  have h2 := (h1.app (zs_fine (padN (n + (outS h rs n rs.length).length)))).app (zs_fine (8 * z.toNat))
  have hp := padN_le (n + (outS h rs n rs.length).length)
  exact ⟨h2.1, by have := h2.2; unfold sheetOut; omega⟩
theorem sheetOut_8 (h : Hd) (rs : List Rw) (z : Int) : (sheetOut h rs z 0).length % 8 = 0 := by
  unfold sheetOut
  have hp := padN_ok (0 + (outS h rs 0 rs.length).length)
  have e : ∀ k, (zs k).length = k := fun k => by unfold zs; simp
  rw [List.length_append, List.length_append, e, e]
  omega
theorem celI_few {c : Cel} (h : CelI c) (hf : fewB c = true) : CelOk c := by
  obtain ⟨h0, h1, h2, h3, h4, h5⟩ := of_decide_eq_true hf
  exact ⟨h.x, h.y, h.step, ⟨by omega, h.e0.2⟩, ⟨by omega, h.e1.2⟩, ⟨by omega, h.e2.2⟩, ⟨by omega, h.e3.2⟩, ⟨by omega, h.e4.2⟩, ⟨by omega, h.e5.2⟩⟩
theorem light_ok {h : Hd} {rs : List Rw} {z : Int} (st : StI h rs z) (hl : lightS h rs = true) : RwsOk rs ∧ h.supp.length ≤ 100 ∧ (cellsOf rs).length ≤ 200 := by
  unfold lightS at hl
  simp only [Bool.and_eq_true, decide_eq_true_eq] at hl
  obtain ⟨⟨⟨h1, h2⟩, h3⟩, h4⟩ := hl
  refine ⟨⟨by omega, fun r hr => ?_⟩, h2, h4⟩
  have hf := List.all_eq_true.1 h3 r hr
  unfold rowFew at hf
  simp only [Bool.and_eq_true, decide_eq_true_eq] at hf
  exact ⟨by omega, fun c hc => celI_few ((st.rows r hr).cells c hc) (List.all_eq_true.1 hf.2 c hc)⟩
attribute [local irreducible] Tc.evsD suD celsD rsD rightS octets packN padS formS checkS sheetOut hdOk lightS cellsOf
set_option maxHeartbeats 8000000 in
theorem bits_yes (h : Hd) (rs : List Rw) (z : Int) (ok : RwsOk rs) (hl : h.supp.length ≤ 100) (hc : checkS h rs z = 0) (hcl : (cellsOf rs).length ≤ 200) (hz : z ≤ 1000000) :
    ACalls (cxg gA) 15 [.d (shD h (rsD rs) z)] [] (fun r H => r = .tup [I ((sheetOut h rs z 0).length : Int), I 0] ∧ H = []) := by
  have nw := wnew_c (gl := gA)
  have sp := sheetput_c [] 0 h rs z ok hl hc (checkS_0 hc) (Fine.nil 0) rfl (by omega) hz
  rw [List.nil_append] at sp
  have ln := wlen_c (gl := gA) (sheetOut h rs z 0)
  refine ACalls.enter Tryd.func15 rfl Tryd.ntmps15 (by kernel_rfl) rfl ?_; simp only [argEnv, Nat.reduceAdd, List.length_nil, List.length_cons]
  repeat' (first | apply AGo.seq | apply AGo.nil | (apply AGo.region; rfl) | (apply AGo.q true; rfl; rfl; rfl; rfl; first | exact True.intro | omega | (simp only [Int.toNat_natCast, Int.reduceToNat, IntKind.bits]; omega)) | (apply AGo.callH [] ( nw); (iterate 6 rfl); decide; rfl; rfl; simp only [names, putH, AV.ren, AV.renL, AObj.ren, nh, Nat.reduceAdd, Nat.reduceSub]) | (apply AGo.callH [1,2] ( sp); (iterate 6 rfl); decide; rfl; rfl; simp only [names, putH, AV.ren, AV.renL, AObj.ren, nh, Nat.reduceAdd, Nat.reduceSub]) | (apply AGo.callH [1,2] ( ln); (iterate 6 rfl); decide; rfl; rfl; simp only [names, putH, AV.ren, AV.renL, AObj.ren, nh, Nat.reduceAdd, Nat.reduceSub]) | (apply AGo.box; (iterate 6 rfl); simp only [nm, Nat.reduceAdd, spliceA, AV.cells, D.cells]) | intro _ | (apply AGo.retN; rfl; rfl; rfl; rfl))
  all_goals first | exact ⟨rfl, rfl⟩ | trace_state
set_option maxHeartbeats 8000000 in
theorem bits_no (h : Hd) (rs : List Rw) (z : Int) (ok : RwsOk rs) (hl : h.supp.length ≤ 100) (hc : checkS h rs z ≠ 0) :
    ACalls (cxg gA) 15 [.d (shD h (rsD rs) z)] [] (fun r H => r = .tup [I 0, I (checkS h rs z)] ∧ H = []) := by
  have nw := wnew_c (gl := gA)
  have sp := sheetputbad_c [] h rs z ok hl hc
  have ln := wlen_c (gl := gA) []
  refine ACalls.enter Tryd.func15 rfl Tryd.ntmps15 (by kernel_rfl) rfl ?_; simp only [argEnv, Nat.reduceAdd, List.length_nil, List.length_cons]
  repeat' (first | apply AGo.seq | apply AGo.nil | (apply AGo.region; rfl) | (apply AGo.q true; rfl; rfl; rfl; rfl; first | exact True.intro | omega | (simp only [Int.toNat_natCast, Int.reduceToNat, IntKind.bits]; omega)) | (apply AGo.callH [] ( nw); (iterate 6 rfl); decide; rfl; rfl; simp only [names, putH, AV.ren, AV.renL, AObj.ren, nh, Nat.reduceAdd, Nat.reduceSub]) | (apply AGo.callH [1,2] ( sp); (iterate 6 rfl); decide; rfl; rfl; simp only [names, putH, AV.ren, AV.renL, AObj.ren, nh, Nat.reduceAdd, Nat.reduceSub]) | (apply AGo.callH [1,2] ( ln); (iterate 6 rfl); decide; rfl; rfl; simp only [names, putH, AV.ren, AV.renL, AObj.ren, nh, Nat.reduceAdd, Nat.reduceSub]) | (apply AGo.box; (iterate 6 rfl); simp only [nm, Nat.reduceAdd, spliceA, AV.cells, D.cells]) | intro _ | (apply AGo.retN; rfl; rfl; rfl; rfl))
  all_goals first | exact ⟨rfl, rfl⟩ | trace_state
/-! the chapter's example -/
def celL : Cel := ⟨0, true, 0, 0, 0, 0, 0, 0, 0, 0, 0, 0, [], [], [], [], [], []⟩
def rwL : Rw := ⟨false, 0, 0, [celL, celL]⟩
def hdL : Hd := ⟨0, 0, 6, true, 5, []⟩
def hd0 : Hd := ⟨0, 0, 0, false, 0, []⟩
abbrev celLD : D := .agg [In 0, .bool true, In 0, In 0, In 0, In 0, In 0, In 0, In 0, In 0, In 0, In 0, .nils, .nils, .nils, .nils, .nils, .nils]
abbrev rwLD : D := .agg [.bool false, In 0, In 0, .sl 18 [celLD, celLD]]
abbrev shLD : D := .agg [In 0, In 0, In 6, .bool true, In 5, .nils, .sl 4 [rwLD, rwLD], In 0]
abbrev sh0D : D := .agg [In 0, In 0, In 0, .bool false, In 0, .nils, .nils, In 0]
section
attribute [local semireducible] Tc.evsD suD celsD rsD
theorem celL_w : CW celLD (celD celL) := ⟨rfl, by simp [D.cells, D.one], fun i c d hc hd => by
  have hn : DWeak .nils (evS []) := DWeak.nils 3
  match i, hc, hd with
  | 0, hc, hd | 1, hc, hd | 2, hc, hd | 3, hc, hd | 4, hc, hd | 5, hc, hd | 6, hc, hd | 7, hc, hd | 8, hc, hd | 9, hc, hd | 10, hc, hd | 11, hc, hd => cases hc; cases hd; exact DWeak.refl _
  | 12, hc, hd | 13, hc, hd | 14, hc, hd | 15, hc, hd | 16, hc, hd | 17, hc, hd => cases hc; cases hd; exact hn
  | i + 18, hc, hd => simp [D.cells] at hc⟩
theorem rwL_w : CW rwLD (rwD rwL) := ⟨rfl, by simp [D.cells, D.one], fun i c d hc hd => by
  match i, hc, hd with
  | 0, hc, hd | 1, hc, hd | 2, hc, hd => cases hc; cases hd; exact DWeak.refl _
  | 3, hc, hd =>
    cases hc; cases hd
    refine DWeak.sl rfl fun j e f he hf => ?_
    match j, he, hf with
    | 0, he, hf | 1, he, hf => cases he; cases hf; exact celL_w
    | j + 2, he, hf => simp at he
  | i + 4, hc, hd => simp [D.cells] at hc⟩
theorem shL_w : DWeak shLD (shD hdL (rsD [rwL, rwL]) 0) := CW.dweak ⟨rfl, by simp [D.cells, D.one], fun i c d hc hd => by
  match i, hc, hd with
  | 0, hc, hd | 1, hc, hd | 2, hc, hd | 3, hc, hd | 4, hc, hd | 7, hc, hd => cases hc; cases hd; exact DWeak.refl _
  | 5, hc, hd => cases hc; cases hd; exact DWeak.nils 1
  | 6, hc, hd =>
    cases hc; cases hd
    refine DWeak.sl rfl fun j e f he hf => ?_
    match j, he, hf with
    | 0, he, hf | 1, he, hf => cases he; cases hf; exact rwL_w
    | j + 2, he, hf => simp at he
  | i + 8, hc, hd => simp [D.cells] at hc⟩
theorem sh0_w : DWeak sh0D (shD hd0 (rsD []) 0) := CW.dweak ⟨rfl, by simp [D.cells, D.one], fun i c d hc hd => by
  match i, hc, hd with
  | 0, hc, hd | 1, hc, hd | 2, hc, hd | 3, hc, hd | 4, hc, hd | 7, hc, hd => cases hc; cases hd; exact DWeak.refl _
  | 5, hc, hd => cases hc; cases hd; exact DWeak.nils 1
  | 6, hc, hd => cases hc; cases hd; exact DWeak.nils 4
  | i + 8, hc, hd => simp [D.cells] at hc⟩
end
theorem celL_ok : CelOk celL := by
  have h : EvsOk [] := ⟨by decide, by simp⟩
  exact ⟨i64_0, i64_0, i64_0, h, h, h, h, h, h⟩
theorem rowsL_ok : RwsOk [rwL, rwL] := ⟨by decide, fun r hr => by
  have : r = rwL := by simpa using hr
  subst this
  exact ⟨by decide, fun c hc => by
    have : c = celL := by simpa [rwL] using hc
    subst this; exact celL_ok⟩⟩
theorem row0_ok : RwsOk [] := ⟨by decide, by simp⟩
section
attribute [local semireducible] checkS sheetOut formS hdOk rightS cellsOf
theorem checkL : checkS hdL [rwL, rwL] 0 = 0 := by decide +kernel
theorem check0 : checkS hd0 [] 0 = 12 := by decide +kernel
theorem outL : (sheetOut hdL [rwL, rwL] 0 0).length = 56 := by decide +kernel
theorem manyL : (cellsOf [rwL, rwL]).length = 4 := by decide +kernel
end
end Go.Proofs.YtdihjnifoikbeaaDoor.Av.Sh
