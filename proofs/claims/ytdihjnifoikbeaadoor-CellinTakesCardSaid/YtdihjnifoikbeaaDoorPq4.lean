/- cbpy, plain: the reference's rows, told backwards, say the same. cbpy: the walks of the reference's Row and Take, and of Take. cbpy: the walk of Take. -/
import Derived.Test.YtdihjnifoikbeaaDoorCb1
import Derived.Test.YtdihjnifoikbeaaDoorPg
/- cbpy, plain: the reference's rows, told backwards, say the same. -/
set_option linter.unusedSimpArgs false
set_option linter.unusedVariables false
set_option maxRecDepth 100000
namespace Go.Proofs.YtdihjnifoikbeaaDoor.Av.Cb
open Go Bt Px
theorem fidx_none (w : List UInt8) : ∀ (l : List (List UInt8)) (i : Nat), w ∉ l → fidx w l i = none
  | [], i, h => rfl
  | r :: l, i, h => by
    simp only [List.mem_cons, not_or] at h
    rw [fidx, if_neg (fun e => h.1 e.symm), fidx_none w l _ h.2]
theorem fidx_V (w : List UInt8) : fidx w cbV 0 = (fidx w cbR 0).map (15 - ·) := by
  by_cases hw : w ∈ cbR
  · have : ∀ x ∈ cbR, fidx x cbV 0 = (fidx x cbR 0).map (15 - ·) := by decide +kernel
    exact this w hw
  · rw [fidx_none w _ _ hw, fidx_none w cbV _ (by unfold cbV; simpa using hw)]; rfl
theorem any_V (p : List UInt8 → Bool) : cbV.any p = cbR.any p := by unfold cbV; simp
def revX (x : Int × Int × Nat) : Int × Int × Nat := (if x.2.1 = 0 then 15 - x.1 else x.1, x.2)
theorem rrun_V : ∀ (D w : List UInt8), rrun cbV D w = revX (rrun cbR D w)
  | [], w => rfl
  | x :: r, w => by
    have hlt : ∀ i, fidx (w ++ [x]) cbR 0 = some i → i ≤ 15 := fun i h => by
      have := fidx_lt _ _ _ _ h
      have hl : cbR.length = 16 := rfl
      omega
    rw [rrun, rrun, rstep, rstep, fidx_V, any_V]
    cases hf : fidx (w ++ [x]) cbR 0 with
    | some i =>
      have := hlt i hf
      simp only [Option.map_some, revX]
      rw [if_pos trivial, Int.natCast_sub this]; rfl
    | none =>
      simp only [Option.map_none]
      by_cases ha : cbR.any (fun r => (w ++ [x]).isPrefixOf r) = true
      · rw [if_pos ha]
        exact rrun_V r (w ++ [x])
      · rw [if_neg ha]; rfl
/-- the codes that Take makes its table of -/
def cbCs (b : Bool) : List (List UInt8 × Int) := cbR.zipIdx.map fun x => (x.1, trn b (x.2 : Int))
def cbT (b : Bool) : Tb := (mk (cbCs b) tb0).getD tb0
theorem cbT_ok (b : Bool) : mk (cbCs b) tb0 = some (cbT b) := by
  have : (mk (cbCs b) tb0).isSome = true := by cases b <;> decide +kernel
  unfold cbT
  cases h : mk (cbCs b) tb0 with
  | none => rw [h] at this; cases this
  | some T => rfl
theorem cbT_is (b : Bool) : TbIs (cbT b) (cbCs b) := mk_all (cbT_ok b)
theorem cbCs_rows (b : Bool) : (cbCs b).map (·.1) = cbR := by cases b <;> rfl
theorem cbT_sym (b : Bool) (i : Nat) (h : i < 16) : symAt (cbT b) i = trn b i := by
  unfold symAt
  rw [(cbT_is b).codes]
  have hl : ∀ b, ∀ i : _root_.Fin 16, ((cbCs b).getD i.val ([], 0)).2 = trn b i.val := by decide +kernel
  exact hl b ⟨i, h⟩
/-- what Take tells of digits -/
def cbX (b : Bool) (Dg : List UInt8) : Int × Int × Nat := (if (rrun cbR Dg []).2.1 = 0 then trn b (rrun cbR Dg []).1 else 0, (rrun cbR Dg []).2)
theorem cb_take (b : Bool) (Dg : List UInt8) : ttake (cbT b) Dg [] = cbX b Dg := by
  rw [ttake_rrun (cbT_is b), cbCs_rows]
  unfold cbX
  have hb := rrun_bd cbR Dg []
  have hl : cbR.length = 16 := rfl
  rw [hl] at hb
  by_cases he : (rrun cbR Dg []).2.1 = 0
  · rw [if_pos he, if_pos he]
    obtain ⟨h0, h1⟩ := hb he
    obtain ⟨n, hn⟩ := Int.eq_ofNat_of_zero_le h0
    rw [hn, cbT_sym b n (by omega)]
  · rw [if_neg he, if_neg he]
theorem cbV_short : ∀ r ∈ cbV, r.length ≤ 24 := by decide
/-- the reference's answer -/
theorem cb_ref (b : Bool) (L : List UInt8) (p : Nat) (hp : p ≤ L.length) :
    (fun x : Int × Int × Int => (if x.2.2 = 0 ∧ b = true then 15 - x.1 else x.1, x.2.1, x.2.2)) (t5 cbV L p 25 1) = ((cbX b (L.drop p)).1, ((pfin p (cbX b (L.drop p)) : Nat) : Int), (cbX b (L.drop p)).2.1) := by
  rw [t5_all cbV L p cbV_short hp, rrun_V]
  unfold cbX revX rconv pfin
  generalize rrun cbR (L.drop p) [] = y
  obtain ⟨i, e, c⟩ := y
  by_cases he : e = 0
  · subst he
    cases b
    · simp [trn]
    · simp [trn]; omega
  · simp [he]
end Go.Proofs.YtdihjnifoikbeaaDoor.Av.Cb

/- cbpy: the walks of the reference's Row and Take, and of Take. -/
set_option linter.unusedSimpArgs false
set_option linter.unusedVariables false
set_option maxRecDepth 100000
namespace Go.Proofs.YtdihjnifoikbeaaDoor.Av.Cb
open Go Bt Px
attribute [local irreducible] AGo ACalls
variable {gl : List (Nat × List D)}
attribute [local irreducible] rowsD cbV cbR
theorem rctake_c (b : Bool) (L : List UInt8) (p : Nat) (hL : L.length ≤ 1000000) (hp : p ≤ L.length) :
    ACalls (cxg gl) 52 [S L, I p, B b] [] (fun r H => r = Tri ((cbX b (L.drop p)).1, ((pfin p (cbX b (L.drop p)) : Nat) : Int), (cbX b (L.drop p)).2.1) ∧ H = []) := by
  have ht := rtake_c (gl := gl) cbV L p (by unfold cbV cbR; decide) hL (by omega)
  have hr := cb_ref b L p hp
  have hbd : (t5 cbV L p 25 1).2.2 = 0 → 0 ≤ (t5 cbV L p 25 1).1 ∧ (t5 cbV L p 25 1).1 ≤ 15 := by
    rw [t5_all cbV L p cbV_short hp]
    intro h
    have := rrun_bd cbV (L.drop p) []
    rw [show cbV.length = 16 by unfold cbV cbR; rfl] at this
    unfold rconv at h ⊢
    split at h
    · rename_i he
      rw [if_pos he]; have := this he; simp only; omega
    · rename_i he; exact absurd h he
  rw [← hr]
  generalize t5 cbV L p 25 1 = y at *
  obtain ⟨k, t, e⟩ := y
  simp only at hbd
  show ACalls (cxg gl) 52 [S L, I p, B b] [] (fun r H => r = Tri (if e = 0 ∧ b = true then 15 - k else k, t, e) ∧ H = [])
  by_cases he : e = 0
  · have hb := hbd he
    subst he
    cases b
    · refine ACalls.enter Tryd.func52 rfl Tryd.ntmps52 (by kernel_rfl) rfl ?_; simp only [argEnv, Nat.reduceAdd, List.length_nil, List.length_cons]
      repeat' (first | apply AGo.seq | apply AGo.skip | apply AGo.nil | (apply AGo.region; rfl) | (apply AGo.q true; rfl; rfl; rfl; rfl; first | exact True.intro | omega | (simp only [Int.toNat_natCast, Int.reduceToNat, IntKind.bits]; omega)) | (apply AGo.callP (rcrows_c); (iterate 6 rfl)) | (apply AGo.callP (ht); (iterate 6 rfl)) | (apply AGo.condT; rfl) | (apply AGo.condF; rfl) | (apply AGo.unguard; rfl; rfl) | (apply AGo.gF; rfl; rfl; rfl; omega) | (apply AGo.skipOp; rfl; rfl; rfl) | intro _ | (apply AGo.retN; rfl; rfl; rfl; rfl))
      all_goals first | exact ⟨rfl, rfl⟩ | omega | trace_state
    · refine ACalls.enter Tryd.func52 rfl Tryd.ntmps52 (by kernel_rfl) rfl ?_; simp only [argEnv, Nat.reduceAdd, List.length_nil, List.length_cons]
      repeat' (first | apply AGo.seq | apply AGo.skip | apply AGo.nil | (apply AGo.region; rfl) | (apply AGo.q true; rfl; rfl; rfl; rfl; first | exact True.intro | omega | (simp only [Int.toNat_natCast, Int.reduceToNat, IntKind.bits]; omega)) | (apply AGo.callP (rcrows_c); (iterate 6 rfl)) | (apply AGo.callP (ht); (iterate 6 rfl)) | (apply AGo.condT; rfl) | (apply AGo.condF; rfl) | (apply AGo.unguard; rfl; rfl) | (apply AGo.gF; rfl; rfl; rfl; omega) | (apply AGo.skipOp; rfl; rfl; rfl) | intro _ | (apply AGo.retN; rfl; rfl; rfl; rfl))
      all_goals first | exact ⟨rfl, rfl⟩ | omega | trace_state
  · rw [if_neg (fun h => he h.1)]
    refine ACalls.enter Tryd.func52 rfl Tryd.ntmps52 (by kernel_rfl) rfl ?_; simp only [argEnv, Nat.reduceAdd, List.length_nil, List.length_cons]
    repeat' (first | apply AGo.seq | apply AGo.skip | apply AGo.nil | (apply AGo.region; rfl) | (apply AGo.q true; rfl; rfl; rfl; rfl; first | exact True.intro | omega | (simp only [Int.toNat_natCast, Int.reduceToNat, IntKind.bits]; omega)) | (apply AGo.callP (rcrows_c); (iterate 6 rfl)) | (apply AGo.callP (ht); (iterate 6 rfl)) | (apply AGo.condT; rfl) | (apply AGo.condF; rfl) | (apply AGo.unguard; rfl; rfl) | (apply AGo.gF; rfl; rfl; rfl; omega) | (apply AGo.skipOp; rfl; rfl; rfl) | intro _ | (apply AGo.retN; rfl; rfl; rfl; rfl))
    all_goals first | exact ⟨rfl, rfl⟩ | omega | trace_state
end Go.Proofs.YtdihjnifoikbeaaDoor.Av.Cb

/- cbpy: the walk of Take. -/
set_option linter.unusedSimpArgs false
set_option linter.unusedVariables false
set_option maxRecDepth 100000
namespace Go.Proofs.YtdihjnifoikbeaaDoor.Av.Cb
open Go Bt Px
attribute [local irreducible] AGo ACalls
variable {gl : List (Nat × List D)}
theorem cbL (b : Bool) : codesD (cbCs b) = (cbR.zipIdx.map fun x => D.agg [.str x.1, .int .i64 (trn b (x.2 : Int))]) := by
  unfold codesD cbCs
  rw [List.map_map]; rfl
theorem tr0 (b : Bool) (k : Nat) (h : k ≤ 15) : ACalls (cxg gl) 103 [B b, I (k : Int)] [] (fun r H => r = I (trn b (k : Int)) ∧ H = []) := turned_c b k (by omega)
attribute [local irreducible] trn cbT cbX bitsF pfin
set_option maxHeartbeats 8000000 in
theorem ctake_c (b : Bool) (s : List UInt8) (p : Nat) (hs : s.length ≤ 1000000) (hp : p ≤ 8 * s.length) : ACalls (cxg gl) 89 [.ptr 0 0, B b] [Rd s p]
    (fun r H => r = .tup [I (cbX b ((bitsF s p).map digB)).1, I (cbX b ((bitsF s p).map digB)).2.1] ∧ H = [Rd s (pfin p (cbX b ((bitsF s p).map digB)))]) := by
  have t := fun (k : Nat) (h : k ≤ 15) => tr0 (gl := gl) b k h
  have rc := crows_c (gl := gl)
  unfold cbR at rc
  have mk := make_ok (gl := gl) (cbCs b) (cbR.getD 0 [], trn b 0) (cbT b) rfl (by cases b <;> decide) (by cases b <;> decide) (cbT_ok b)
  have tt := ttake_c (gl := gl) (cbT b) s p hs hp (cbT_is b).symOk
  rw [cb_take] at tt
  generalize cbX b ((bitsF s p).map digB) = X at *
  rw [cbL] at mk
  unfold tobM at mk
  refine ACalls.enter Tryd.func89 rfl Tryd.ntmps89 (by kernel_rfl) rfl ?_; simp only [argEnv, Nat.reduceAdd, List.length_nil, List.length_cons]
  repeat' (first | (apply AGo.makeF; (iterate 9 rfl); (first | decide | (dsimp only; omega) | (decide)); simp only [Int.reduceToNat, List.replicate_zero, List.length_nil, List.length_cons, Nat.reduceAdd, List.nil_append, List.cons_append]) | (apply AGo.append; (iterate 11 rfl); (first | rfl | (simp only [List.length_append, List.length_map, List.length_cons, List.length_nil]; omega)); (first | (simp only [List.length_append, List.length_map, List.length_cons, List.length_nil]; omega) | (decide)); simp only [List.set_cons_zero, List.set_cons_succ]) | apply AGo.seq | apply AGo.block | apply AGo.blk | apply AGo.skip | apply AGo.nil | (apply AGo.region; rfl) | (apply AGo.q true; rfl; rfl; rfl; rfl; first | exact True.intro | omega | (simp only [Int.toNat_natCast, Int.reduceToNat, IntKind.bits]; omega) | (decide)) | (apply AGo.callH [2,3,4,5,0,8] ( tt); (iterate 6 rfl); decide; rfl; rfl; simp only [names, putH, AV.ren, AV.renL, AObj.ren, nh, Nat.reduceAdd, Nat.reduceSub]) | (apply AGo.callHF [] ( mk); (iterate 7 rfl); decide; rfl; rfl; simp only [names, putH, AV.ren, AV.renL, AObj.ren, nh, Nat.reduceAdd, Nat.reduceSub]) | (apply AGo.callP (rc); (iterate 6 rfl)) | (apply AGo.callP (t 0 (by decide)); (iterate 6 rfl)) | (apply AGo.callP (t 1 (by decide)); (iterate 6 rfl)) | (apply AGo.callP (t 2 (by decide)); (iterate 6 rfl)) | (apply AGo.callP (t 3 (by decide)); (iterate 6 rfl)) | (apply AGo.callP (t 4 (by decide)); (iterate 6 rfl)) | (apply AGo.callP (t 5 (by decide)); (iterate 6 rfl)) | (apply AGo.callP (t 6 (by decide)); (iterate 6 rfl)) | (apply AGo.callP (t 7 (by decide)); (iterate 6 rfl)) | (apply AGo.callP (t 8 (by decide)); (iterate 6 rfl)) | (apply AGo.callP (t 9 (by decide)); (iterate 6 rfl)) | (apply AGo.callP (t 10 (by decide)); (iterate 6 rfl)) | (apply AGo.callP (t 11 (by decide)); (iterate 6 rfl)) | (apply AGo.callP (t 12 (by decide)); (iterate 6 rfl)) | (apply AGo.callP (t 13 (by decide)); (iterate 6 rfl)) | (apply AGo.callP (t 14 (by decide)); (iterate 6 rfl)) | (apply AGo.callP (t 15 (by decide)); (iterate 6 rfl)) | (apply AGo.exit; rfl) | (apply AGo.condDT; rfl; first | omega | rfl) | (apply AGo.condDF; rfl; omega) | (apply AGo.build; (iterate 5 rfl); simp only [nm, Nat.reduceAdd, spliceA, AV.cells, D.cells, mkAgg, unDs, AV.unD]) | (apply AGo.buildSlice; (iterate 11 rfl)) | apply AGo.loopU | apply AGo.lpU | intro _ | (apply AGo.retN; rfl; rfl; rfl; rfl))
  all_goals first | exact ⟨rfl, rfl⟩ | trace_state
end Go.Proofs.YtdihjnifoikbeaaDoor.Av.Cb
