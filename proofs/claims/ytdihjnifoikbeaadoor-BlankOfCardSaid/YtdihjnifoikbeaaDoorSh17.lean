/- Sheets that may be: sound.Check. -/
import Derived.Test.YtdihjnifoikbeaaDoorSh16
import Derived.Test.YtdihjnifoikbeaaDoorPn3
import Derived.Test.YtdihjnifoikbeaaDoorPs1
import Derived.Test.YtdihjnifoikbeaaDoorPs2
import Derived.Test.YtdihjnifoikbeaaDoorCo6
set_option linter.unusedSimpArgs false
set_option linter.unusedVariables false
set_option maxRecDepth 100000
namespace Go.Proofs.YtdihjnifoikbeaaDoor.Av.Sh
open Go Bt Tc Co Wr
attribute [local irreducible] AGo ACalls
variable {gl : List (Nat × List D)}
def mvP (c : Cel) : Int × Int := (c.mx, c.my)
def vecOk (f : Int) (n : Nat) (c : Cel) : Bool := intraS c.kind || mayS f n (mvP c)
/-- the vectors of the first n cells may be -/
def vecsS (f : Int) (l : List Cel) : Nat → Bool
  | 0 => true
  | n + 1 => vecsS f l n && (match l[n]? with | some c => vecOk f n c | none => true)
theorem vecsS_succ {f : Int} {l : List Cel} {n : Nat} {c : Cel} (hc : l[n]? = some c) : vecsS f l (n + 1) = (vecsS f l n && vecOk f n c) := by simp only [vecsS, hc]
theorem vecsS_no {f : Int} {l : List Cel} {n : Nat} (hn : vecsS f l n = false) : ∀ k, vecsS f l (n + k) = false
  | 0 => hn
  | k + 1 => by
    have := vecsS_no hn k
    rw [← Nat.add_assoc, vecsS, this, Bool.false_and]
theorem vecsS_all_no {f : Int} {l : List Cel} {n : Nat} {c : Cel} (hc : l[n]? = some c) (hn : vecOk f n c = false) : vecsS f l l.length = false := by
  have h1 : vecsS f l (n + 1) = false := by rw [vecsS_succ hc, hn, Bool.and_false]
  have h2 := getElem?_lt hc
  have := vecsS_no h1 (l.length - (n + 1))
  rwa [show n + 1 + (l.length - (n + 1)) = l.length by omega] at this
def formS (h : Hd) (rs : List Rw) (z : Int) : Bool := hdOk h && decide (0 ≤ z ∧ z ≤ 262144) && decide ((rs.length : Int) = fR h.fmt) && rowsS h rs rs.length
def checkS (h : Hd) (rs : List Rw) (z : Int) : Int := if formS h rs z = true then (if vecsS h.fmt (cellsOf rs) (cellsOf rs).length = true then 0 else 8) else 12
theorem rowS_len {h : Hd} {n : Nat} {r : Rw} (hr : rowS h n r = true) : (r.cells.length : Int) = fA h.fmt * fL h.fmt := by
  unfold rowS at hr
  simp only [Bool.and_eq_true, decide_eq_true_eq] at hr
  exact hr.1.1
theorem rowsS_len {h : Hd} {rs : List Rw} : ∀ n, n ≤ rs.length → rowsS h rs n = true → ((cellsOf (rs.take n)).length : Int) = n * (fA h.fmt * fL h.fmt)
  | 0, _, _ => by simp [cellsOf]
  | n + 1, hn, hh => by
    obtain ⟨r, hr⟩ : ∃ r, rs[n]? = some r := ⟨_, List.getElem?_eq_getElem (by omega)⟩
    rw [rowsS_succ hr, Bool.and_eq_true] at hh
    have ih := rowsS_len n (by omega) hh.1
    have hl := rowS_len hh.2
    rw [cellsOf_take hr, List.length_append, Int.natCast_add, ih, hl, Int.natCast_add, Int.add_mul]
    simp
theorem fmt_prod {f : Int} (h : fOk f = true) : fR f * (fA f * fL f) = fA f * fD f := by
  have hb := fOk_bd h
  have : f = 1 ∨ f = 2 ∨ f = 3 ∨ f = 4 ∨ f = 5 ∨ f = 6 := by omega
  rcases this with rfl | rfl | rfl | rfl | rfl | rfl <;> decide
theorem formS_inv {h : Hd} {rs : List Rw} {z : Int} (hh : formS h rs z = true) : hdOk h = true ∧ (0 ≤ z ∧ z ≤ 262144) ∧ (rs.length : Int) = fR h.fmt ∧ rowsS h rs rs.length = true := by
  unfold formS at hh
  simp only [Bool.and_eq_true, decide_eq_true_eq] at hh
  exact ⟨hh.1.1.1, hh.1.1.2, hh.1.2, hh.2⟩
theorem formS_len {h : Hd} {rs : List Rw} {z : Int} (hh : formS h rs z = true) : fOk h.fmt = true ∧ ((cellsOf rs).length : Int) = fA h.fmt * fD h.fmt := by
  obtain ⟨h1, h2, h3, h4⟩ := formS_inv hh
  have hf := (hdOk_inv h1).1.1
  refine ⟨hf, ?_⟩
  have := rowsS_len rs.length (Nat.le_refl _) h4
  rw [List.take_length, h3, fmt_prod hf] at this
  exact this
attribute [local irreducible] evsD suD celsD rsD rightS rowsS hdOk headRow octets packN padS mayS
set_option maxHeartbeats 16000000 in
theorem check_no (h : Hd) (rs : List Rw) (z : Int) (ok : RwsOk rs) (hl : h.supp.length ≤ 100) (hno : formS h rs z = false) :
    ACalls (cxg gtc) 37 [.d (shD h (rsD rs) z)] [] (fun x H => x = I 12 ∧ H = []) := by
  have hn := rsD_len rs
  have k2 := rows_c (gl := gtc) h.fmt
  have nw := wnew_c (gl := gtc)
  cases hh : hdOk h with
  | false =>
    have sp := sputno_c (gl := gtc) h (rsD rs) z [] hh hl
    refine ACalls.enter Tryd.func37 rfl Tryd.ntmps37 (by kernel_rfl) rfl ?_; simp only [argEnv, Nat.reduceAdd, List.length_nil, List.length_cons]
    repeat' (first | (apply AGo.drawX [0, 1, 2, 3, 4, 5, 6, 7, 8, 9, 10, 11, 12, 13, 14, 15, 16, 17, 18, 19, 20, 21, 22, 23, 24, 25, 26, 27] 28; rfl) | (apply AReg.fin; kernel_rfl) | (apply AReg.go) | (apply AReg.pass; rfl; exact fun _ _ _ h => h; rfl; rfl; rfl; rfl; kernel_rfl; kernel_rfl) | (apply AReg.pure true; rfl; exact fun _ _ _ h => h; (iterate 6 rfl); kernel_rfl; kernel_rfl; first | exact True.intro | omega) | (apply AReg.one; rfl; rfl; kernel_rfl) | (apply AReg.two; rfl; rfl; rfl; kernel_rfl) | (exact AGo.mid0) | (apply AGo.midDone; (repeat' (first | exact EnvEq.nil | (apply EnvEq.cons; rfl))); rfl) | apply AGo.seq | apply AGo.nil | (apply AGo.region; rfl) | (apply AGo.q true; rfl; rfl; rfl; rfl; first | exact True.intro | omega | (simp only [Int.toNat_natCast, Int.reduceToNat, IntKind.bits]; omega)) | (apply AGo.callH [] ( nw); (iterate 6 rfl); decide; rfl; rfl; simp only [names, putH, AV.ren, AV.renL, AObj.ren, nh, Nat.reduceAdd, Nat.reduceSub]) | (apply AGo.callH [1,2] ( sp); (iterate 6 rfl); decide; rfl; rfl; simp only [names, putH, AV.ren, AV.renL, AObj.ren, nh, Nat.reduceAdd, Nat.reduceSub]) | (apply AGo.callP (k2); (iterate 6 rfl)) | (apply AGo.condT; rfl) | (apply AGo.box; (iterate 6 rfl); simp only [nm, Nat.reduceAdd, spliceA, AV.cells, D.cells]) | (apply AGo.unguard; rfl; rfl) | (apply AGo.gT; rfl; rfl; rfl; first | omega | rfl) | (apply AGo.gF; rfl; rfl; rfl; omega) | (apply AGo.gBT; rfl; rfl; rfl; first | (simp only [bT]; omega)) | (apply AGo.gBF; rfl; rfl; rfl; first | (simp only [bF]; omega) | exact ndF rfl) | (apply AGo.skipOp; rfl; rfl; rfl) | intro _ | (apply AGo.retN; rfl; rfl; rfl; rfl))
    all_goals first | exact ⟨rfl, rfl⟩ | (exfalso; omega) | trace_state
  | true =>
    have sp := sput_c (gl := gtc) h (rsD rs) z [] 0 hh ⟨rfl, by simp⟩ (by omega)
    unfold formS at hno
    rw [hh, Bool.true_and] at hno
    by_cases hz : 0 ≤ z ∧ z ≤ 262144
    · rw [decide_eq_true hz, Bool.true_and] at hno
      by_cases hR : (rs.length : Int) = fR h.fmt
      · rw [decide_eq_true hR, Bool.true_and] at hno
        have ev := every_c h rs z ok
        rw [hno] at ev
        rw [← hR] at k2
        refine ACalls.enter Tryd.func37 rfl Tryd.ntmps37 (by kernel_rfl) rfl ?_; simp only [argEnv, Nat.reduceAdd, List.length_nil, List.length_cons]
        repeat' (first | (apply AGo.drawX [0, 1, 2, 3, 4, 5, 6, 7, 8, 9, 10, 11, 12, 13, 14, 15, 16, 17, 18, 19, 20, 21, 22, 23, 24, 25, 26, 27] 28; rfl) | (apply AReg.fin; kernel_rfl) | (apply AReg.go) | (apply AReg.pass; rfl; exact fun _ _ _ h => h; rfl; rfl; rfl; rfl; kernel_rfl; kernel_rfl) | (apply AReg.pure true; rfl; exact fun _ _ _ h => h; (iterate 6 rfl); kernel_rfl; kernel_rfl; first | exact True.intro | omega) | (apply AReg.one; rfl; rfl; kernel_rfl) | (apply AReg.two; rfl; rfl; rfl; kernel_rfl) | (exact AGo.mid0) | (apply AGo.midDone; (repeat' (first | exact EnvEq.nil | (apply EnvEq.cons; rfl))); rfl) | apply AGo.seq | apply AGo.nil | (apply AGo.region; rfl) | (apply AGo.q true; rfl; rfl; rfl; rfl; first | exact True.intro | omega | (simp only [Int.toNat_natCast, Int.reduceToNat, IntKind.bits]; omega)) | (apply AGo.callH [] ( nw); (iterate 6 rfl); decide; rfl; rfl; simp only [names, putH, AV.ren, AV.renL, AObj.ren, nh, Nat.reduceAdd, Nat.reduceSub]) | (apply AGo.callH [1,2] ( sp); (iterate 6 rfl); decide; rfl; rfl; simp only [names, putH, AV.ren, AV.renL, AObj.ren, nh, Nat.reduceAdd, Nat.reduceSub]) | (apply AGo.callP (k2); (iterate 6 rfl)) | (apply AGo.callP (ev); (iterate 6 rfl)) | (apply AGo.condT; rfl) | (apply AGo.box; (iterate 6 rfl); simp only [nm, Nat.reduceAdd, spliceA, AV.cells, D.cells]) | (apply AGo.unguard; rfl; rfl) | (apply AGo.gT; rfl; rfl; rfl; first | omega | rfl) | (apply AGo.gF; rfl; rfl; rfl; omega) | (apply AGo.gBT; rfl; rfl; rfl; first | (simp only [bT]; omega)) | (apply AGo.gBF; rfl; rfl; rfl; first | (simp only [bF]; omega) | exact ndF rfl) | (apply AGo.skipOp; rfl; rfl; rfl) | intro _ | (apply AGo.retN; rfl; rfl; rfl; rfl))
        all_goals first | exact ⟨rfl, rfl⟩ | (exfalso; omega) | trace_state
      · refine ACalls.enter Tryd.func37 rfl Tryd.ntmps37 (by kernel_rfl) rfl ?_; simp only [argEnv, Nat.reduceAdd, List.length_nil, List.length_cons]
        repeat' (first | (apply AGo.drawX [0, 1, 2, 3, 4, 5, 6, 7, 8, 9, 10, 11, 12, 13, 14, 15, 16, 17, 18, 19, 20, 21, 22, 23, 24, 25, 26, 27] 28; rfl) | (apply AReg.fin; kernel_rfl) | (apply AReg.go) | (apply AReg.pass; rfl; exact fun _ _ _ h => h; rfl; rfl; rfl; rfl; kernel_rfl; kernel_rfl) | (apply AReg.pure true; rfl; exact fun _ _ _ h => h; (iterate 6 rfl); kernel_rfl; kernel_rfl; first | exact True.intro | omega) | (apply AReg.one; rfl; rfl; kernel_rfl) | (apply AReg.two; rfl; rfl; rfl; kernel_rfl) | (exact AGo.mid0) | (apply AGo.midDone; (repeat' (first | exact EnvEq.nil | (apply EnvEq.cons; rfl))); rfl) | apply AGo.seq | apply AGo.nil | (apply AGo.region; rfl) | (apply AGo.q true; rfl; rfl; rfl; rfl; first | exact True.intro | omega | (simp only [Int.toNat_natCast, Int.reduceToNat, IntKind.bits]; omega)) | (apply AGo.callH [] ( nw); (iterate 6 rfl); decide; rfl; rfl; simp only [names, putH, AV.ren, AV.renL, AObj.ren, nh, Nat.reduceAdd, Nat.reduceSub]) | (apply AGo.callH [1,2] ( sp); (iterate 6 rfl); decide; rfl; rfl; simp only [names, putH, AV.ren, AV.renL, AObj.ren, nh, Nat.reduceAdd, Nat.reduceSub]) | (apply AGo.callP (k2); (iterate 6 rfl)) | (apply AGo.condT; rfl) | (apply AGo.box; (iterate 6 rfl); simp only [nm, Nat.reduceAdd, spliceA, AV.cells, D.cells]) | (apply AGo.unguard; rfl; rfl) | (apply AGo.gT; rfl; rfl; rfl; first | omega | rfl) | (apply AGo.gF; rfl; rfl; rfl; omega) | (apply AGo.gBT; rfl; rfl; rfl; first | (simp only [bT]; omega)) | (apply AGo.gBF; rfl; rfl; rfl; first | (simp only [bF]; omega) | exact ndF rfl) | (apply AGo.skipOp; rfl; rfl; rfl) | intro _ | (apply AGo.retN; rfl; rfl; rfl; rfl))
        all_goals first | exact ⟨rfl, rfl⟩ | (exfalso; omega) | trace_state
    · rcases (show z < 0 ∨ 262144 < z by omega) with hz0 | hz0
      all_goals
        refine ACalls.enter Tryd.func37 rfl Tryd.ntmps37 (by kernel_rfl) rfl ?_; simp only [argEnv, Nat.reduceAdd, List.length_nil, List.length_cons]
        repeat' (first | (apply AGo.drawX [0, 1, 2, 3, 4, 5, 6, 7, 8, 9, 10, 11, 12, 13, 14, 15, 16, 17, 18, 19, 20, 21, 22, 23, 24, 25, 26, 27] 28; rfl) | (apply AReg.fin; kernel_rfl) | (apply AReg.go) | (apply AReg.pass; rfl; exact fun _ _ _ h => h; rfl; rfl; rfl; rfl; kernel_rfl; kernel_rfl) | (apply AReg.pure true; rfl; exact fun _ _ _ h => h; (iterate 6 rfl); kernel_rfl; kernel_rfl; first | exact True.intro | omega) | (apply AReg.one; rfl; rfl; kernel_rfl) | (apply AReg.two; rfl; rfl; rfl; kernel_rfl) | (exact AGo.mid0) | (apply AGo.midDone; (repeat' (first | exact EnvEq.nil | (apply EnvEq.cons; rfl))); rfl) | apply AGo.seq | apply AGo.nil | (apply AGo.region; rfl) | (apply AGo.q true; rfl; rfl; rfl; rfl; first | exact True.intro | omega | (simp only [Int.toNat_natCast, Int.reduceToNat, IntKind.bits]; omega)) | (apply AGo.callH [] ( nw); (iterate 6 rfl); decide; rfl; rfl; simp only [names, putH, AV.ren, AV.renL, AObj.ren, nh, Nat.reduceAdd, Nat.reduceSub]) | (apply AGo.callH [1,2] ( sp); (iterate 6 rfl); decide; rfl; rfl; simp only [names, putH, AV.ren, AV.renL, AObj.ren, nh, Nat.reduceAdd, Nat.reduceSub]) | (apply AGo.callP (k2); (iterate 6 rfl)) | (apply AGo.condT; rfl) | (apply AGo.box; (iterate 6 rfl); simp only [nm, Nat.reduceAdd, spliceA, AV.cells, D.cells]) | (apply AGo.unguard; rfl; rfl) | (apply AGo.gT; rfl; rfl; rfl; first | omega | rfl) | (apply AGo.gF; rfl; rfl; rfl; omega) | (apply AGo.gBT; rfl; rfl; rfl; first | (simp only [bT]; omega)) | (apply AGo.gBF; rfl; rfl; rfl; first | (simp only [bF]; omega) | exact ndF rfl) | (apply AGo.skipOp; rfl; rfl; rfl) | intro _ | (apply AGo.retN; rfl; rfl; rfl; rfl))
        all_goals first | exact ⟨rfl, rfl⟩ | (exfalso; omega) | trace_state
end Go.Proofs.YtdihjnifoikbeaaDoor.Av.Sh
