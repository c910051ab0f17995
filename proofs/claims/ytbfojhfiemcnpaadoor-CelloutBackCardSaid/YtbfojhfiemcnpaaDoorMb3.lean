/- mcbpc: table, Take. -/
import Derived.Test.YtbfojhfiemcnpaaDoorMb2
import Derived.Test.YtbfojhfiemcnpaaDoorPq4
set_option linter.unusedSimpArgs false
set_option linter.unusedVariables false
set_option maxRecDepth 100000
namespace Go.Proofs.YtbfojhfiemcnpaaDoor.Av.Mb
open Go Bt Px
attribute [local irreducible] AGo ACalls
variable {gl : List (Nat × List D)}
def mbNew (b : Bool) (k : Nat) : List (List UInt8 × Int) := (mbWords b k).zipIdx.map fun x => (x.1, 10 * (k : Int) + (x.2 : Int))
def mbUp (b : Bool) : Nat → List D
  | 0 => []
  | k + 1 => mbUp b k ++ codesD (mbNew b k)
def mbCs (b : Bool) : List (List UInt8 × Int) := mbNew b 0 ++ mbNew b 1 ++ mbNew b 2 ++ mbNew b 3 ++ mbNew b 4 ++ mbNew b 5
theorem mbUp_6 (b : Bool) : mbUp b 6 = codesD (mbCs b) := by cases b <;> rfl
theorem mbUp_le : ∀ b : Bool, ∀ k : _root_.Fin 6, (mbUp b k.val).length ≤ 30 := by decide +kernel
set_option maxHeartbeats 8000000 in
theorem each_c (b : Bool) (k : Nat) (hk : k ≤ 5) (es : List D) (he : es.length ≤ 1000) : ACalls (cxg gsp) 73 [I k, .ptr 0 0, .ptr 1 0] [.cells [B b], .cells [.ms 2 es.length], .arr 99 2 es]
    (fun r H => r = .tup [] ∧ H = [.cells [B b], .cells [.ms 2 (es ++ codesD (mbNew b k)).length], .arr 99 2 (es ++ codesD (mbNew b k))]) := by
  have r1 := rowtx_c (gl := gsp) b k
  have f1 := mbFields b k
  unfold FieldsAre at f1
  rcases (show k = 0 ∨ k = 1 ∨ k = 2 ∨ k = 3 ∨ k = 4 ∨ k = 5 by omega) with rfl | rfl | rfl | rfl | rfl | rfl
  all_goals cases b
  all_goals
    refine ACalls.enter Tryd.func73 rfl Tryd.ntmps73 (by kernel_rfl) rfl ?_; simp only [argEnv, Nat.reduceAdd, List.length_nil, List.length_cons]
    repeat' (first | apply AGo.seq | apply AGo.block | apply AGo.blk | apply AGo.skip | apply AGo.nil | (apply AGo.region; rfl) | (apply AGo.q true; rfl; rfl; rfl; rfl; first | exact True.intro | omega | (simp only [Int.toNat_natCast, Int.reduceToNat, IntKind.bits]; omega) | (decide)) | (apply AGo.callH [] ( f1); (iterate 6 rfl); decide; rfl; rfl; simp only [names, putH, AV.ren, AV.renL, AObj.ren, nh, Nat.reduceAdd, Nat.reduceSub]) | (apply AGo.callP (r1); (iterate 6 rfl)) | (apply AGo.exit; rfl) | (apply AGo.condT; rfl) | (apply AGo.condF; rfl) | (apply AGo.store; (iterate 9 rfl); exact Nat.le_of_ble_eq_true rfl; simp only [nm, Nat.reduceAdd, spliceA, AV.cells, D.cells]) | (apply AGo.build; (iterate 5 rfl); simp only [nm, Nat.reduceAdd, spliceA, AV.cells, D.cells, mkAgg, unDs, AV.unD]) | (apply AGo.buildSlice; (iterate 11 rfl)) | (apply AGo.endN; rfl; rfl; rfl; rfl) | (apply AGo.appendM; (iterate 11 rfl); (first | rfl | (simp only [List.length_append, List.length_map, List.length_set, List.length_replicate, List.length_cons, List.length_nil]; omega) | (decide)); (first | (simp only [List.length_append, List.length_map, List.length_cons, List.length_nil]; omega) | (decide)); simp only [List.set_cons_zero, List.set_cons_succ]) | apply AGo.loopU | apply AGo.lpU | intro _)
    all_goals first | exact ⟨rfl, rfl⟩ | exact ⟨rfl, by simp only [List.append_assoc]; rfl⟩ | exact ⟨rfl, by rw [show codesD (mbNew _ _) = ([] : List D) from rfl, List.append_nil]; rfl⟩ | trace_state
def mbT (b : Bool) : Tb := (mk (mbCs b) tb0).getD tb0
theorem mbT_ok (b : Bool) : mk (mbCs b) tb0 = some (mbT b) := by
  have : (mk (mbCs b) tb0).isSome = true := by cases b <;> decide +kernel
  unfold mbT
  cases h : mk (mbCs b) tb0 with
  | none => rw [h] at this; cases this
  | some T => rfl
theorem mbT_is (b : Bool) : TbIs (mbT b) (mbCs b) := mk_all (mbT_ok b)
def mb0 (b : Bool) : List UInt8 × Int := (mbCs b).getD 0 ([], 0)
theorem mb0_ok (b : Bool) : (mbCs b)[0]? = some (mb0 b) := by cases b <;> rfl
theorem mbCs_len (b : Bool) : (mbCs b).length ≤ 256 := by cases b <;> decide
theorem mbCs_short (b : Bool) : ∀ p ∈ mbCs b, p.1.length ≤ 1000000 := by cases b <;> decide
/-- the objects of the table -/
def tobT (b : Bool) : List AObj := [.cells [B b], .cells [.ms 2 (codesD (mbCs b)).length], .front 99 2 (codesD (mbCs b)).length, .map (smap (mbT b).sym), .map (imap (mbT b).rws), .map (smap (mbT b).beg),
  .cells [.own 2 (codesD (mbT b).codes) 9, .mp 3, .mp 4, .mp 5, I (mbT b).lng], .cells (codeA (mb0 b)), .cells (codeA (mb0 b)), .front 99 2 (codesD (mbT b).codes).length]
attribute [local irreducible] smap imap codesD mbT mbNew mbCs mb0
set_option maxHeartbeats 8000000 in
theorem mbtable_c (b : Bool) : ACalls (cxg gsp) 57 [B b] [] (fun r H => r = .ptr 6 0 ∧ H = tobT b) := by
  have mk := make_ok (gl := gsp) (mbCs b) (mb0 b) (mbT b) (mb0_ok b) (mbCs_len b) (mbCs_short b) (mbT_ok b)
  rw [← mbUp_6] at mk
  unfold tobT
  rw [← mbUp_6]
  have e := fun (k : _root_.Fin 6) => each_c b k.val (by omega) (mbUp b k.val) (by have := mbUp_le b k; omega)
  have e0 := e 0
  have e1 := e 1
  have e2 := e 2
  have e3 := e 3
  have e4 := e 4
  have e5 := e 5
  unfold tobM at mk
  refine ACalls.enter Tryd.func57 rfl Tryd.ntmps57 (by kernel_rfl) rfl ?_; simp only [argEnv, Nat.reduceAdd, List.length_nil, List.length_cons]
  repeat' (first | apply AGo.seq | apply AGo.block | apply AGo.blk | apply AGo.skip | apply AGo.nil | (apply AGo.region; rfl) | (apply AGo.q true; rfl; rfl; rfl; rfl; first | exact True.intro | omega | (simp only [Int.toNat_natCast, Int.reduceToNat, IntKind.bits]; omega)) | (apply AGo.callH [0,1,2] ( e0); (iterate 6 rfl); decide; rfl; rfl; simp only [names, putH, AV.ren, AV.renL, AObj.ren, nh, Nat.reduceAdd, Nat.reduceSub]) | (apply AGo.callH [0,1,2] ( e1); (iterate 6 rfl); decide; rfl; rfl; simp only [names, putH, AV.ren, AV.renL, AObj.ren, nh, Nat.reduceAdd, Nat.reduceSub]) | (apply AGo.callH [0,1,2] ( e2); (iterate 6 rfl); decide; rfl; rfl; simp only [names, putH, AV.ren, AV.renL, AObj.ren, nh, Nat.reduceAdd, Nat.reduceSub]) | (apply AGo.callH [0,1,2] ( e3); (iterate 6 rfl); decide; rfl; rfl; simp only [names, putH, AV.ren, AV.renL, AObj.ren, nh, Nat.reduceAdd, Nat.reduceSub]) | (apply AGo.callH [0,1,2] ( e4); (iterate 6 rfl); decide; rfl; rfl; simp only [names, putH, AV.ren, AV.renL, AObj.ren, nh, Nat.reduceAdd, Nat.reduceSub]) | (apply AGo.callH [0,1,2] ( e5); (iterate 6 rfl); decide; rfl; rfl; simp only [names, putH, AV.ren, AV.renL, AObj.ren, nh, Nat.reduceAdd, Nat.reduceSub]) | (apply AGo.callHF [] ( mk); (iterate 7 rfl); decide; rfl; rfl; simp only [names, putH, AV.ren, AV.renL, AObj.ren, nh, Nat.reduceAdd, Nat.reduceSub]) | (apply AGo.exit; rfl) | (apply AGo.condDT; rfl; first | omega | rfl) | (apply AGo.condDF; rfl; omega) | (apply AGo.alloc; (iterate 5 rfl); simp only [nm, Nat.reduceAdd, spliceA, AV.cells, D.cells]) | (apply AGo.box; (iterate 6 rfl); simp only [nm, Nat.reduceAdd, spliceA, AV.cells, D.cells]) | (apply AGo.ghostC 1 0 99 2; rfl; rfl; simp only [List.set_cons_zero, List.set_cons_succ, List.length_cons, List.length_nil, Nat.reduceAdd, List.cons_append, List.nil_append]) | (apply AGo.freezeR 17; rfl; rfl; (first | rfl | (simp only [List.length_append, List.length_map, List.length_set, List.length_replicate, List.length_cons, List.length_nil]; omega)); simp only [List.set_cons_zero, List.set_cons_succ]) | apply AGo.loopU | apply AGo.lpU | intro _)
  (apply AGo.retK 10; rfl; rfl; rfl; rfl; rfl)
  exact ⟨rfl, rfl⟩
/-! ### What is taken -/
def mbRs (b : Bool) : List (List UInt8) := (mbCs b).map (·.1)
def mbX (b : Bool) (Dg : List UInt8) : Int × Int × Int × Nat :=
  if (rrun (mbRs b) Dg []).2.1 = 0 then
    (if ((rrun (mbRs b) Dg []).1 + (if b = true then 0 else 12)) / 4 = 2 then (0, 0, 6, 0)
     else (((rrun (mbRs b) Dg []).1 + (if b = true then 0 else 12)) / 4, ((rrun (mbRs b) Dg []).1 + (if b = true then 0 else 12)) % 4, 0, (rrun (mbRs b) Dg []).2.2))
  else (0, 0, (rrun (mbRs b) Dg []).2.1, 0)
def qfin (p : Nat) (x : Int × Int × Int × Nat) : Nat := if x.2.2.1 = 0 then p + x.2.2.2 else p
theorem mbRs_len (b : Bool) : (mbRs b).length = if b = true then 21 else 9 := by unfold mbRs mbCs; cases b <;> decide +kernel
theorem mb_sym (b : Bool) (i : Int) (h : 0 ≤ i ∧ i < (mbRs b).length) : (0 ≤ symAt (mbT b) i ∧ symAt (mbT b) i ≤ 60) ∧ symAt (mbT b) i / 10 = (i + (if b = true then 0 else 12)) / 4 ∧ symAt (mbT b) i % 10 = (i + (if b = true then 0 else 12)) % 4 := by
  rw [mbRs_len] at h
  have hs : symAt (mbT b) i = ((mbCs b).getD i.toNat ([], 0)).2 := by unfold symAt; rw [(mbT_is b).codes]
  rw [hs]
  obtain ⟨n, rfl⟩ := Int.eq_ofNat_of_zero_le h.1
  rw [Int.toNat_natCast]
  cases b with
  | true =>
    have key : ∀ i : _root_.Fin 21, (0 ≤ ((mbCs true).getD i.val ([], 0)).2 ∧ ((mbCs true).getD i.val ([], 0)).2 ≤ 60) ∧ ((mbCs true).getD i.val ([], 0)).2 / 10 = ((i.val : Int) + 0) / 4 ∧ ((mbCs true).getD i.val ([], 0)).2 % 10 = ((i.val : Int) + 0) % 4 := by unfold mbCs; decide +kernel
    exact key ⟨n, by simp only [if_true] at h; omega⟩
  | false =>
    have key : ∀ i : _root_.Fin 9, (0 ≤ ((mbCs false).getD i.val ([], 0)).2 ∧ ((mbCs false).getD i.val ([], 0)).2 ≤ 60) ∧ ((mbCs false).getD i.val ([], 0)).2 / 10 = ((i.val : Int) + 12) / 4 ∧ ((mbCs false).getD i.val ([], 0)).2 % 10 = ((i.val : Int) + 12) % 4 := by unfold mbCs; decide +kernel
    exact key ⟨n, by simp only [Bool.false_eq_true, if_false] at h; omega⟩
theorem rrun_err (rows : List (List UInt8)) : ∀ (D w : List UInt8), (rrun rows D w).2.1 = 0 ∨ (rrun rows D w).2.1 = 2 ∨ (rrun rows D w).2.1 = 3
  | [], w => by simp [rrun]
  | x :: r, w => by
    rw [rrun]
    cases rstep rows w x with
    | done i c => simp
    | fail => simp
    | next w' => exact rrun_err rows r w'
attribute [local irreducible] bitsF pfin mbRs tobT
set_option maxHeartbeats 8000000 in
theorem mbtake_c (b : Bool) (s : List UInt8) (p : Nat) (hs : s.length ≤ 1000000) (hp : p ≤ 8 * s.length) : ACalls (cxg gsp) 42 [.ptr 0 0, B b] [Rd s p]
    (fun r H => r = .tup [I (mbX b ((bitsF s p).map digB)).1, I (mbX b ((bitsF s p).map digB)).2.1, I (mbX b ((bitsF s p).map digB)).2.2.1] ∧ H = [Rd s (qfin p (mbX b ((bitsF s p).map digB)))]) := by
  have tb := mbtable_c b
  have a0 := at_c (gl := gsp) s p
  have tt := ttake_c (gl := gsp) (mbT b) s p hs hp (mbT_is b).symOk
  rw [ttake_rrun (mbT_is b), show (mbCs b).map (·.1) = mbRs b by unfold mbRs; rfl] at tt
  have he := rrun_err (mbRs b) ((bitsF s p).map digB) []
  have hb := rrun_bd (mbRs b) ((bitsF s p).map digB) []
  unfold mbX
  generalize rrun (mbRs b) ((bitsF s p).map digB) [] = y at *
  obtain ⟨i, e, c⟩ := y
  simp only at he hb tt ⊢
  unfold tobT at tb
  by_cases h0 : e = 0
  · obtain ⟨hs0, hs1, hs2⟩ := mb_sym b i (hb h0)
    rw [if_pos h0] at tt
    rw [if_pos h0, ← hs1, ← hs2]
    generalize symAt (mbT b) i = sy at *
    subst h0
    unfold pfin at tt
    simp only [if_true] at tt
    by_cases h2 : sy / 10 = 2
    · rw [if_pos h2]
      have sk := seek_ok (gl := gsp) s ((p + c : Nat) : Int) p (by omega) ⟨by omega, by omega⟩
      refine ACalls.enter Tryd.func42 rfl Tryd.ntmps42 (by kernel_rfl) rfl ?_; simp only [argEnv, Nat.reduceAdd, List.length_nil, List.length_cons]
      repeat' (first | apply AGo.seq | apply AGo.block | apply AGo.blk | apply AGo.skip | apply AGo.nil | (apply AGo.region; rfl) | (apply AGo.q true; rfl; rfl; rfl; rfl; first | exact True.intro | omega | (simp only [Int.toNat_natCast, Int.reduceToNat, IntKind.bits]; omega)) | (apply AGo.callH [0] ( a0); (iterate 6 rfl); decide; rfl; rfl; simp only [names, putH, AV.ren, AV.renL, AObj.ren, nh, Nat.reduceAdd, Nat.reduceSub]) | (apply AGo.callH [] ( tb); (iterate 6 rfl); decide; rfl; rfl; simp only [names, putH, AV.ren, AV.renL, AObj.ren, nh, Nat.reduceAdd, Nat.reduceSub]) | (apply AGo.callH [4,5,6,7,0,10] ( tt); (iterate 6 rfl); decide; rfl; rfl; simp only [names, putH, AV.ren, AV.renL, AObj.ren, nh, Nat.reduceAdd, Nat.reduceSub]) | (apply AGo.callH [0] ( sk); (iterate 6 rfl); decide; rfl; rfl; simp only [names, putH, AV.ren, AV.renL, AObj.ren, nh, Nat.reduceAdd, Nat.reduceSub]) | (apply AGo.condDT; rfl; first | omega | rfl) | (apply AGo.condDF; rfl; omega) | (apply AGo.condF; rfl) | (apply AGo.cBT; rfl; first | (simp only [bT]; omega)) | intro _ | (apply AGo.retN; rfl; rfl; rfl; rfl))
      all_goals first | exact ⟨rfl, rfl⟩ | trace_state
    · rw [if_neg h2]
      unfold qfin
      simp only [if_true]
      refine ACalls.enter Tryd.func42 rfl Tryd.ntmps42 (by kernel_rfl) rfl ?_; simp only [argEnv, Nat.reduceAdd, List.length_nil, List.length_cons]
      repeat' (first | apply AGo.seq | apply AGo.block | apply AGo.blk | apply AGo.skip | apply AGo.nil | (apply AGo.region; rfl) | (apply AGo.q true; rfl; rfl; rfl; rfl; first | exact True.intro | omega | (simp only [Int.toNat_natCast, Int.reduceToNat, IntKind.bits]; omega)) | (apply AGo.callH [0] ( a0); (iterate 6 rfl); decide; rfl; rfl; simp only [names, putH, AV.ren, AV.renL, AObj.ren, nh, Nat.reduceAdd, Nat.reduceSub]) | (apply AGo.callH [] ( tb); (iterate 6 rfl); decide; rfl; rfl; simp only [names, putH, AV.ren, AV.renL, AObj.ren, nh, Nat.reduceAdd, Nat.reduceSub]) | (apply AGo.callH [4,5,6,7,0,10] ( tt); (iterate 6 rfl); decide; rfl; rfl; simp only [names, putH, AV.ren, AV.renL, AObj.ren, nh, Nat.reduceAdd, Nat.reduceSub]) | (apply AGo.condDT; rfl; first | omega | rfl) | (apply AGo.condDF; rfl; omega) | (apply AGo.condF; rfl) | (apply AGo.cBT; rfl; first | (simp only [bT]; omega)) | intro _ | (apply AGo.retN; rfl; rfl; rfl; rfl))
      all_goals first | exact ⟨rfl, rfl⟩ | trace_state
  · rw [if_neg h0]
    rw [if_neg h0] at tt
    unfold qfin
    unfold pfin at tt
    simp only [if_neg h0] at tt ⊢
    refine ACalls.enter Tryd.func42 rfl Tryd.ntmps42 (by kernel_rfl) rfl ?_; simp only [argEnv, Nat.reduceAdd, List.length_nil, List.length_cons]
    repeat' (first | apply AGo.seq | apply AGo.block | apply AGo.blk | apply AGo.skip | apply AGo.nil | (apply AGo.region; rfl) | (apply AGo.q true; rfl; rfl; rfl; rfl; first | exact True.intro | omega | (simp only [Int.toNat_natCast, Int.reduceToNat, IntKind.bits]; omega)) | (apply AGo.callH [0] ( a0); (iterate 6 rfl); decide; rfl; rfl; simp only [names, putH, AV.ren, AV.renL, AObj.ren, nh, Nat.reduceAdd, Nat.reduceSub]) | (apply AGo.callH [] ( tb); (iterate 6 rfl); decide; rfl; rfl; simp only [names, putH, AV.ren, AV.renL, AObj.ren, nh, Nat.reduceAdd, Nat.reduceSub]) | (apply AGo.callH [4,5,6,7,0,10] ( tt); (iterate 6 rfl); decide; rfl; rfl; simp only [names, putH, AV.ren, AV.renL, AObj.ren, nh, Nat.reduceAdd, Nat.reduceSub]) | (apply AGo.condDT; rfl; first | omega | rfl) | (apply AGo.condDF; rfl; omega) | (apply AGo.condF; rfl) | (apply AGo.cBT; rfl; first | (simp only [bT]; omega)) | intro _ | (apply AGo.retN; rfl; rfl; rfl; rfl))
    all_goals first | exact ⟨rfl, rfl⟩ | trace_state
end Go.Proofs.YtbfojhfiemcnpaaDoor.Av.Mb
