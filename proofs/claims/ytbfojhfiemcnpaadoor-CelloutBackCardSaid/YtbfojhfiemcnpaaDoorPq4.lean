/- cbpy, plain: the reference's rows, told backwards, say the same. cbpy: the walks of the reference's Row and Take, and of Take. cbpy: the walk of Take. The laws of cbpy. -/
import Derived.Test.YtbfojhfiemcnpaaDoorCb1
import Derived.Test.YtbfojhfiemcnpaaDoorPg
/- cbpy, plain: the reference's rows, told backwards, say the same. -/
set_option linter.unusedSimpArgs false
set_option linter.unusedVariables false
set_option maxRecDepth 100000
namespace Go.Proofs.YtbfojhfiemcnpaaDoor.Av.Cb
open Go Bt Px
/-- the codes that Take makes its table of -/
def cbCs (b : Bool) : List (List UInt8 × Int) := cbR.zipIdx.map fun x => (x.1, trn b (x.2 : Int))
def cbT (b : Bool) : Tb := (mk (cbCs b) tb0).getD tb0
theorem cbT_ok (b : Bool) : mk (cbCs b) tb0 = some (cbT b) := by
  have : (mk (cbCs b) tb0).isSome = true := by cases b <;> decide +kernel
  unfold cbT
  cases h : mk (cbCs b) tb0 with
  | none => rw [h] at this; cases this
  | some T => rfl
theorem cbT_is (b : Bool) : TbIs (cbT b) (cbCs b) := mk_all (cbT_ok b)
theorem cbCs_rows (b : Bool) : (cbCs b).map (·.1) = cbR := by cases b <;> rfl
theorem cbT_sym (b : Bool) (i : Nat) (h : i < 16) : symAt (cbT b) i = trn b i := by
  unfold symAt
  rw [(cbT_is b).codes]
  have hl : ∀ b, ∀ i : _root_.Fin 16, ((cbCs b).getD i.val ([], 0)).2 = trn b i.val := by decide +kernel
  exact hl b ⟨i, h⟩
/-- what Take tells of digits -/
def cbX (b : Bool) (Dg : List UInt8) : Int × Int × Nat := (if (rrun cbR Dg []).2.1 = 0 then trn b (rrun cbR Dg []).1 else 0, (rrun cbR Dg []).2)
theorem cb_take (b : Bool) (Dg : List UInt8) : ttake (cbT b) Dg [] = cbX b Dg := by
  rw [ttake_rrun (cbT_is b), cbCs_rows]
  unfold cbX
  have hb := rrun_bd cbR Dg []
  have hl : cbR.length = 16 := rfl
  rw [hl] at hb
  by_cases he : (rrun cbR Dg []).2.1 = 0
  · rw [if_pos he, if_pos he]
    obtain ⟨h0, h1⟩ := hb he
    obtain ⟨n, hn⟩ := Int.eq_ofNat_of_zero_le h0
    rw [hn, cbT_sym b n (by omega)]
  · rw [if_neg he, if_neg he]
end Go.Proofs.YtbfojhfiemcnpaaDoor.Av.Cb

/- cbpy: the walks of the reference's Row and Take, and of Take. -/
set_option linter.unusedSimpArgs false
set_option linter.unusedVariables false
set_option maxRecDepth 100000
namespace Go.Proofs.YtbfojhfiemcnpaaDoor.Av.Cb
open Go Bt Px
attribute [local irreducible] AGo ACalls
variable {gl : List (Nat × List D)}
attribute [local irreducible] rowsD cbR
end Go.Proofs.YtbfojhfiemcnpaaDoor.Av.Cb

/- cbpy: the walk of Take. -/
set_option linter.unusedSimpArgs false
set_option linter.unusedVariables false
set_option maxRecDepth 100000
namespace Go.Proofs.YtbfojhfiemcnpaaDoor.Av.Cb
open Go Bt Px
attribute [local irreducible] AGo ACalls
variable {gl : List (Nat × List D)}
theorem cbL (b : Bool) : codesD (cbCs b) = (cbR.zipIdx.map fun x => D.agg [.str x.1, .int .i64 (trn b (x.2 : Int))]) := by
  unfold codesD cbCs
  rw [List.map_map]; rfl
theorem tr0 (b : Bool) (k : Nat) (h : k ≤ 15) : ACalls (cxg gl) 50 [B b, I (k : Int)] [] (fun r H => r = I (trn b (k : Int)) ∧ H = []) := turned_c b k (by omega)
attribute [local irreducible] trn cbT cbX bitsF pfin
set_option maxHeartbeats 8000000 in
theorem ctake_c (b : Bool) (s : List UInt8) (p : Nat) (hs : s.length ≤ 1000000) (hp : p ≤ 8 * s.length) : ACalls (cxg gl) 43 [.ptr 0 0, B b] [Rd s p]
    (fun r H => r = .tup [I (cbX b ((bitsF s p).map digB)).1, I (cbX b ((bitsF s p).map digB)).2.1] ∧ H = [Rd s (pfin p (cbX b ((bitsF s p).map digB)))]) := by
  have t := fun (k : Nat) (h : k ≤ 15) => tr0 (gl := gl) b k h
  have rc := crows_c (gl := gl)
  unfold cbR at rc
  have mk := make_ok (gl := gl) (cbCs b) (cbR.getD 0 [], trn b 0) (cbT b) rfl (by cases b <;> decide) (by cases b <;> decide) (cbT_ok b)
  have tt := ttake_c (gl := gl) (cbT b) s p hs hp (cbT_is b).symOk
  rw [cb_take] at tt
  generalize cbX b ((bitsF s p).map digB) = X at *
  rw [cbL] at mk
  unfold tobM at mk
  refine ACalls.enter Tryd.func43 rfl Tryd.ntmps43 (by kernel_rfl) rfl ?_; simp only [argEnv, Nat.reduceAdd, List.length_nil, List.length_cons]
  repeat' (first | (apply AGo.makeF; (iterate 9 rfl); (first | decide | (dsimp only; omega) | (decide)); simp only [Int.reduceToNat, List.replicate_zero, List.length_nil, List.length_cons, Nat.reduceAdd, List.nil_append, List.cons_append]) | (apply AGo.append; (iterate 11 rfl); (first | rfl | (simp only [List.length_append, List.length_map, List.length_cons, List.length_nil]; omega)); (first | (simp only [List.length_append, List.length_map, List.length_cons, List.length_nil]; omega) | (decide)); simp only [List.set_cons_zero, List.set_cons_succ]) | apply AGo.seq | apply AGo.block | apply AGo.blk | apply AGo.skip | apply AGo.nil | (apply AGo.region; rfl) | (apply AGo.q true; rfl; rfl; rfl; rfl; first | exact True.intro | omega | (simp only [Int.toNat_natCast, Int.reduceToNat, IntKind.bits]; omega) | (decide)) | (apply AGo.callH [2,3,4,5,0,8] ( tt); (iterate 6 rfl); decide; rfl; rfl; simp only [names, putH, AV.ren, AV.renL, AObj.ren, nh, Nat.reduceAdd, Nat.reduceSub]) | (apply AGo.callHF [] ( mk); (iterate 7 rfl); decide; rfl; rfl; simp only [names, putH, AV.ren, AV.renL, AObj.ren, nh, Nat.reduceAdd, Nat.reduceSub]) | (apply AGo.callP (rc); (iterate 6 rfl)) | (apply AGo.callP (t 0 (by decide)); (iterate 6 rfl)) | (apply AGo.callP (t 1 (by decide)); (iterate 6 rfl)) | (apply AGo.callP (t 2 (by decide)); (iterate 6 rfl)) | (apply AGo.callP (t 3 (by decide)); (iterate 6 rfl)) | (apply AGo.callP (t 4 (by decide)); (iterate 6 rfl)) | (apply AGo.callP (t 5 (by decide)); (iterate 6 rfl)) | (apply AGo.callP (t 6 (by decide)); (iterate 6 rfl)) | (apply AGo.callP (t 7 (by decide)); (iterate 6 rfl)) | (apply AGo.callP (t 8 (by decide)); (iterate 6 rfl)) | (apply AGo.callP (t 9 (by decide)); (iterate 6 rfl)) | (apply AGo.callP (t 10 (by decide)); (iterate 6 rfl)) | (apply AGo.callP (t 11 (by decide)); (iterate 6 rfl)) | (apply AGo.callP (t 12 (by decide)); (iterate 6 rfl)) | (apply AGo.callP (t 13 (by decide)); (iterate 6 rfl)) | (apply AGo.callP (t 14 (by decide)); (iterate 6 rfl)) | (apply AGo.callP (t 15 (by decide)); (iterate 6 rfl)) | (apply AGo.exit; rfl) | (apply AGo.condDT; rfl; first | omega | rfl) | (apply AGo.condDF; rfl; omega) | (apply AGo.build; (iterate 5 rfl); simp only [nm, Nat.reduceAdd, spliceA, AV.cells, D.cells, mkAgg, unDs, AV.unD]) | (apply AGo.buildSlice; (iterate 11 rfl)) | apply AGo.loopU | apply AGo.lpU | intro _ | (apply AGo.retN; rfl; rfl; rfl; rfl))
  all_goals first | exact ⟨rfl, rfl⟩ | trace_state
end Go.Proofs.YtbfojhfiemcnpaaDoor.Av.Cb

/- The laws of cbpy. -/
set_option linter.unusedSimpArgs false
set_option linter.unusedVariables false
set_option maxRecDepth 100000
namespace Go.Proofs.YtbfojhfiemcnpaaDoor.Av.Cb
open Go Bt Px
attribute [local irreducible] AGo ACalls
variable {gl : List (Nat × List D)}
theorem cb_row : ∀ (i : Nat), i < 16 → ∀ R, rrun cbR (cbR.getD i [] ++ R) [] = ((i : Int), 0, (cbR.getD i []).length)
  | 0, _, R => rfl
  | 1, _, R => rfl
  | 2, _, R => rfl
  | 3, _, R => rfl
  | 4, _, R => rfl
  | 5, _, R => rfl
  | 6, _, R => rfl
  | 7, _, R => rfl
  | 8, _, R => rfl
  | 9, _, R => rfl
  | 10, _, R => rfl
  | 11, _, R => rfl
  | 12, _, R => rfl
  | 13, _, R => rfl
  | 14, _, R => rfl
  | 15, _, R => rfl
  | n + 16, h, _ => absurd h (by omega)
theorem cbX_row (c b : Bool) (p : Int) (h : 0 ≤ p ∧ p ≤ 15) (R : List UInt8) : cbX c (cbRow b p ++ R) = (trn c (trn b p), 0, (cbRow b p).length) := by
  rw [cbRow_in b p h]
  have ht := trn_bd b p h
  have := cb_row (trn b p).toNat (by omega) R
  unfold cbX
  rw [this, if_pos rfl, show (((trn b p).toNat : Nat) : Int) = trn b p by omega]
theorem trn_trn (b : Bool) (p : Int) : trn b (trn b p) = p := by cases b <;> simp [trn]; omega
attribute [local irreducible] trn cbT cbX bitsF pfin cbRow showN packN
end Go.Proofs.YtbfojhfiemcnpaaDoor.Av.Cb
