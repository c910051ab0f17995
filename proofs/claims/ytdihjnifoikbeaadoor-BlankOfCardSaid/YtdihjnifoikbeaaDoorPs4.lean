/- A sheet's next cell is written: sheetout.Put$1. A sheet's digits. A sheet is written: sheetout.Put. -/
import Derived.Test.YtdihjnifoikbeaaDoorSh18
import Derived.Test.YtdihjnifoikbeaaDoorPn3
import Derived.Test.YtdihjnifoikbeaaDoorCo9
import Derived.Test.YtdihjnifoikbeaaDoorCo12
/- A sheet's next cell is written: sheetout.Put$1. -/
set_option linter.unusedSimpArgs false
set_option linter.unusedVariables false
set_option maxRecDepth 100000
namespace Go.Proofs.YtdihjnifoikbeaaDoor.Av.Sh
open Go Bt Co Wr
attribute [local irreducible] AGo ACalls
variable {gl : List (Nat × List D)}
theorem mid_is (a b c : Int) : mid a b c = a ∨ mid a b c = b ∨ mid a b c = c := by
  unfold mid
  omega
def VecsI (vs : List (Int × Int)) : Prop := ∀ p ∈ vs, I64 p.1 ∧ I64 p.2
theorem i64_0 : I64 0 := by unfold I64; decide
theorem VecsI.getD {vs : List (Int × Int)} (h : VecsI vs) (i : Nat) : I64 (vs.getD i (0, 0)).1 ∧ I64 (vs.getD i (0, 0)).2 := by
  rw [List.getD_eq_getElem?_getD]
  cases hx : vs[i]? with
  | none => exact ⟨i64_0, i64_0⟩
  | some p => exact h p (List.mem_of_getElem? hx)
theorem VecsI.of {vs : List (Int × Int)} (h : VecsI vs) (A F : Int) : I64 (ofV vs A F).1 ∧ I64 (ofV vs A F).2 := by
  have z : I64 ((0, 0) : Int × Int).1 ∧ I64 ((0, 0) : Int × Int).2 := ⟨i64_0, i64_0⟩
  have h1 : I64 (lfV vs A).1 ∧ I64 (lfV vs A).2 := by
    unfold lfV; split
    · exact h.getD _
    · exact z
  have h2 : I64 (abV vs A F).1 ∧ I64 (abV vs A F).2 := by
    unfold abV; split
    · exact h1
    · exact h.getD _
  have h3 : I64 (arV vs A F).1 ∧ I64 (arV vs A F).2 := by
    unfold arV; split
    · exact h1
    · split
      · exact h.getD _
      · exact z
  unfold ofV
  constructor
  · rcases mid_is (lfV vs A).1 (abV vs A F).1 (arV vs A F).1 with e | e | e
    · simp only [e]; exact h1.1
    · simp only [e]; exact h2.1
    · simp only [e]; exact h3.1
  · rcases mid_is (lfV vs A).2 (abV vs A F).2 (arV vs A F).2 with e | e | e
    · simp only [e]; exact h1.2
    · simp only [e]; exact h2.2
    · simp only [e]; exact h3.2
/-- a cell's digits behind cells with these vectors -/
def cellRow (b : Bool) (A F : Int) (vs : List (Int × Int)) (c : Cel) : List UInt8 := putRow [] b (ofV vs A F).1 (ofV vs A F).2 c
theorem vD_add (l : List (Int × Int)) (p : Int × Int) : vD (l ++ [p]) = vD l ++ [pD p] := by simp [vD]
/-- the objects of sheetout.Put behind so many cells -/
abbrev PO (w : List UInt8) (h : Hd) (rs : List Rw) (z : Int) (vs : List (Int × Int)) (A F : Int) : List AObj :=
  WO w ++ [.cells [.ptr 0 0], .cells (shA h (rsD rs) z), .cells [I A], .cells [.own 2 (vD vs) 7], .cells [I F], .front 40 2 (vD vs).length]
attribute [local irreducible] Tc.evsD suD celsD rsD rightS octets packN padS putRow ofV vD
set_option maxHeartbeats 16000000 in
theorem put1_c (w : List UInt8) (h : Hd) (rs : List Rw) (z : Int) (vs : List (Int × Int)) (A F : Int) (c : Cel) (ok : CelOk c) (hr : rightS h.inter c = true) (hw : Fine w 10000000) (hA : 1 ≤ A ∧ A ≤ 1000000) (hl : vs.length ≤ 1000000) (hv : VecsI vs) :
    ACalls (cxg gA) 82 [.d (celD c), .ptr 2 0, .ptr 3 0, .ptr 5 0, .ptr 4 0, .ptr 6 0] (PO w h rs z vs A F)
      (fun r H => r = .tup [] ∧ H = PO (w ++ cellRow h.inter A F vs c) h rs z (vs ++ [mvP c]) A F) := by
  obtain ⟨i1, i2⟩ := hv.of A F
  have oc := of_c (gl := gA) vs A F hA hl
  have cp := cput_c w h.inter (ofV vs A F).1 (ofV vs A F).2 c ok i1 i2 hr hw
  rw [put_app] at cp
  have hvl := vD_len vs
  unfold cellRow
  unfold PO
  rw [vD_add]
  refine ACalls.enter Tryd.func82 rfl Tryd.ntmps82 (by kernel_rfl) rfl ?_; simp only [argEnv, Nat.reduceAdd, List.length_nil, List.length_cons]
  repeat' (first | (apply AGo.drawY [0, 1, 2, 3, 4, 5, 6, 7, 8] 9 8; rfl) | (apply ARegH.pureX; rfl; (apply PureTo.q true; rfl; rfl; first | exact True.intro | omega | (rw [hvl]; omega)); exact fun _ _ _ h => h; (iterate 6 rfl); kernel_rfl; kernel_rfl) | (apply ARegH.load; rfl; rfl; (first | exact True.intro | omega | (rw [hvl]; omega)); exact fun _ _ _ h => h; (iterate 6 rfl); kernel_rfl; kernel_rfl) | (apply ARegH.go) | (apply ARegK.fin; kernel_rfl) | (apply ARegK.call ( oc); (iterate 8 rfl); kernel_rfl; rfl; rfl; rfl; try simp only [names, putH, AV.ren, AV.renL, AObj.ren, nh, Nat.reduceAdd, Nat.reduceSub]) | (apply ARegK.step; rfl; rfl; kernel_rfl; rfl) | (apply ARegK.back) | (exact AGo.mid0) | (apply AGo.append; (iterate 11 rfl); (first | rfl | (simp only [List.length_append, List.length_map, List.length_cons, List.length_nil]; omega)); (first | (simp only [List.length_append, List.length_map, List.length_cons, List.length_nil]; omega) | (rw [hvl]; omega)); simp only [List.set_cons_zero, List.set_cons_succ]) | apply AGo.seq | apply AGo.nil | (apply AGo.region; rfl) | (apply AGo.q true; rfl; rfl; rfl; rfl; first | exact True.intro | omega | (simp only [Int.toNat_natCast, Int.reduceToNat, IntKind.bits]; omega) | (rw [hvl]; omega)) | (apply AGo.callH [0,1] ( cp); (iterate 6 rfl); decide; rfl; rfl; simp only [names, putH, AV.ren, AV.renL, AObj.ren, nh, Nat.reduceAdd, Nat.reduceSub]) | (apply AGo.box; (iterate 6 rfl); simp only [nm, Nat.reduceAdd, spliceA, AV.cells, D.cells]) | (apply AGo.store; (iterate 9 rfl); exact Nat.le_of_ble_eq_true rfl; simp only [nm, Nat.reduceAdd, spliceA, AV.cells, D.cells]) | (apply AGo.buildSlice; (iterate 11 rfl)) | (apply AGo.endN; rfl; rfl; rfl; rfl) | intro _)
  all_goals first | exact ⟨rfl, rfl⟩ | (exfalso; omega) | trace_state
end Go.Proofs.YtdihjnifoikbeaaDoor.Av.Sh

/- A sheet's digits. -/
set_option linter.unusedSimpArgs false
set_option linter.unusedVariables false
set_option maxRecDepth 100000
namespace Go.Proofs.YtdihjnifoikbeaaDoor.Av.Sh
open Go Bt Co Wr
def mvs (l : List Cel) : List (Int × Int) := l.map mvP
theorem mvs_app (l m : List Cel) : mvs (l ++ m) = mvs l ++ mvs m := by simp [mvs]
theorem mvs_len (l : List Cel) : (mvs l).length = l.length := by simp [mvs]
def cellsOut (b : Bool) (A F : Int) : List (Int × Int) → List Cel → List UInt8
  | _, [] => []
  | vs, c :: r => cellRow b A F vs c ++ cellsOut b A F (vs ++ [mvP c]) r
theorem cellsOut_app (b : Bool) (A F : Int) : ∀ (l m : List Cel) (vs : List (Int × Int)), cellsOut b A F vs (l ++ m) = cellsOut b A F vs l ++ cellsOut b A F (vs ++ mvs l) m
  | [], m, vs => by simp [cellsOut, mvs]
  | c :: l, m, vs => by
    have ih := cellsOut_app b A F l m (vs ++ [mvP c])
    simp only [List.cons_append, cellsOut, ih, List.append_assoc]
    simp [mvs]
theorem cellsOut_take (b : Bool) (A F : Int) (vs : List (Int × Int)) {l : List Cel} {k : Nat} {c : Cel} (h : l[k]? = some c) : cellsOut b A F vs (l.take (k + 1)) = cellsOut b A F vs (l.take k) ++ cellRow b A F (vs ++ mvs (l.take k)) c := by
  rw [take_cel h, cellsOut_app]
  simp [cellsOut]
theorem mvs_take {l : List Cel} {k : Nat} {c : Cel} (h : l[k]? = some c) : mvs (l.take (k + 1)) = mvs (l.take k) ++ [mvP c] := by
  rw [take_cel h, mvs_app]; rfl
def firstS (L : Int) (rs : List Rw) : Nat → Int
  | 0 => 0
  | i + 1 => match rs[i]? with | some r => if r.head = true then i * L else firstS L rs i | none => firstS L rs i
def headOut (n : Nat) (i : Nat) (r : Rw) (out : List UInt8) : List UInt8 := if r.head = true then out ++ (zs (padN (n + out.length)) ++ rhRow i r.id r.quant) else out
/-- a sheet's digits behind n others, up to so many rows -/
def outS (h : Hd) (rs : List Rw) (n : Nat) : Nat → List UInt8
  | 0 => zs (padN n) ++ headRow h
  | i + 1 => match rs[i]? with | some r => headOut n i r (outS h rs n i) ++ cellsOut h.inter (fA h.fmt) (firstS (fL h.fmt) rs (i + 1)) (mvs (cellsOf (rs.take i))) r.cells | none => outS h rs n i
theorem firstS_succ {L : Int} {rs : List Rw} {i : Nat} {r : Rw} (h : rs[i]? = some r) : firstS L rs (i + 1) = if r.head = true then i * L else firstS L rs i := by simp only [firstS, h]
theorem outS_succ {h : Hd} {rs : List Rw} {n i : Nat} {r : Rw} (hr : rs[i]? = some r) : outS h rs n (i + 1) = headOut n i r (outS h rs n i) ++ cellsOut h.inter (fA h.fmt) (firstS (fL h.fmt) rs (i + 1)) (mvs (cellsOf (rs.take i))) r.cells := by simp only [outS, hr]
def sheetOut (h : Hd) (rs : List Rw) (z : Int) (n : Nat) : List UInt8 := outS h rs n rs.length ++ zs (padN (n + (outS h rs n rs.length).length)) ++ zs (8 * z.toNat)
theorem zs_app (a b : Nat) : zs a ++ zs b = zs (a + b) := by unfold zs; exact List.replicate_append_replicate
theorem zs_fine (n : Nat) : Fine (zs n) n := ⟨by unfold zs; rw [List.all_replicate]; cases n <;> simp <;> decide, by unfold zs; simp⟩
theorem padS_zs (w : List UInt8) : padS w = w ++ zs (padN w.length) := rfl
theorem padN_le (n : Nat) : padN n ≤ 7 := by have := padN_ok n; omega
theorem firstS_bd {L : Int} {rs : List Rw} (hL : 0 ≤ L ∧ L ≤ 4) : ∀ i, i ≤ 1000 → 0 ≤ firstS L rs i ∧ firstS L rs i ≤ 4000
  | 0, _ => by simp [firstS]
  | i + 1, hi => by
    have ih := firstS_bd (rs := rs) hL i (by omega)
    unfold firstS
    split
    · split
      · have h1 : (0 : Int) ≤ (i : Int) * L := Int.mul_nonneg (by omega) hL.1
        have h2 : (i : Int) * L ≤ 1000 * 4 := Int.mul_le_mul (by omega) hL.2 hL.1 (by omega)
        omega
      · exact ih
    · exact ih
theorem cellRow_fine {b : Bool} {A F : Int} {vs : List (Int × Int)} {c : Cel} (h : rightS b c = true) : Fine (cellRow b A F vs c) 13000 := by
  have := put_fine (px := (ofV vs A F).1) (py := (ofV vs A F).2) (Fine.nil 0) h
  unfold cellRow
  exact ⟨this.1, by have := this.2; omega⟩
theorem cellsOut_fine {b : Bool} {A F : Int} : ∀ (l : List Cel) (vs : List (Int × Int)), (∀ c ∈ l, rightS b c = true) → Fine (cellsOut b A F vs l) (13000 * l.length)
  | [], vs, _ => ⟨rfl, by simp [cellsOut]⟩
  | c :: l, vs, h => by
    have h1 := cellRow_fine (A := A) (F := F) (vs := vs) (h c List.mem_cons_self)
    have h2 := cellsOut_fine (A := A) (F := F) l (vs ++ [mvP c]) fun x hx => h x (List.mem_cons_of_mem _ hx)
    have := h1.app h2
    exact ⟨this.1, by have := this.2; rw [List.length_cons]; simp only [cellsOut]; omega⟩
theorem rhRow_fine (i id q : Int) : Fine (rhRow i id q) 29 := by
  unfold rhRow
  refine ⟨?_, ?_⟩
  · rw [List.all_append, List.all_append, mk_dig, digs_dig, digs_dig]; rfl
  · rw [List.length_append, List.length_append, mk_len, digs_len, digs_len]; omega
theorem headOut_fine {n i : Nat} {r : Rw} {out : List UInt8} {m : Nat} (h : Fine out m) : Fine (headOut n i r out) (m + 36) := by
  unfold headOut
  split
  · have h1 := h.app ((zs_fine (padN (n + out.length))).app (rhRow_fine i r.id r.quant))
    have h2 := padN_le (n + out.length)
    exact ⟨h1.1, by have := h1.2; omega⟩
  · exact ⟨h.1, by have := h.2; omega⟩
theorem headRow_fine {h : Hd} (hh : hdOk h = true) : Fine (Sh.headRow h) 130 := by
  obtain ⟨⟨f0, f1, f2, f3, f4⟩, fs⟩ := hdOk_inv hh
  have h1 := ((fi_hd h).app (fi_sus h.supp)).app (fi_digs 0 1)
  exact ⟨h1.1, by have := h1.2; unfold Sh.headRow; omega⟩
theorem rowS_cells {h : Hd} {i : Nat} {r : Rw} (hr : rowS h i r = true) : ∀ c ∈ r.cells, rightS h.inter c = true := by
  unfold rowS at hr
  simp only [Bool.and_eq_true] at hr
  exact List.all_eq_true.1 hr.2
theorem rowS_hdr {h : Hd} {i : Nat} {r : Rw} (hr : rowS h i r = true) (hd : r.head = true) : i ≠ 0 ∧ (0 ≤ r.id ∧ r.id ≤ 3) ∧ (1 ≤ r.quant ∧ r.quant ≤ 31) := by
  unfold rowS at hr
  simp only [Bool.and_eq_true] at hr
  have := hr.1.2
  unfold hdrS at this
  rw [if_pos hd] at this
  exact of_decide_eq_true this
theorem rowsS_at {h : Hd} {rs : List Rw} : ∀ {n i : Nat} {r : Rw}, rowsS h rs n = true → i < n → rs[i]? = some r → rowS h i r = true
  | n + 1, i, r, hh, hi, hr => by
    rw [rowsS, Bool.and_eq_true] at hh
    by_cases he : i = n
    · subst he
      have := hh.2
      rw [hr] at this
      exact this
    · exact rowsS_at hh.1 (by omega) hr
theorem outS_fine {h : Hd} {rs : List Rw} {n : Nat} (hh : hdOk h = true) (ha : rowsS h rs rs.length = true) : ∀ i, i ≤ rs.length → Fine (outS h rs n i) (137 + 36 * i + 13000 * (cellsOf (rs.take i)).length)
  | 0, _ => by
    have h1 := (zs_fine (padN n)).app (headRow_fine hh)
    have h2 := padN_le n
    exact ⟨h1.1, by have := h1.2; simp only [outS]; omega⟩
  | i + 1, hi => by
    obtain ⟨r, hr⟩ : ∃ r, rs[i]? = some r := ⟨_, List.getElem?_eq_getElem (by omega)⟩
    have ih := outS_fine (n := n) hh ha i (by omega)
    have hrow := rowsS_at ha (by omega) hr
    have h1 := (headOut_fine (n := n) (i := i) (r := r) ih).app (cellsOut_fine (A := fA h.fmt) (F := firstS (fL h.fmt) rs (i + 1)) r.cells (mvs (cellsOf (rs.take i))) (rowS_cells hrow))
    rw [outS_succ hr, cellsOf_take hr]
    have e : (cellsOf (rs.take i) ++ r.cells).length = (cellsOf (rs.take i)).length + r.cells.length := List.length_append
    exact ⟨h1.1, by have := h1.2; omega⟩
theorem fL_bd (f : Int) : 0 ≤ fL f ∧ fL f ≤ 4 := by unfold fL; split <;> (try split) <;> (try split) <;> (try split) <;> (try split) <;> (try split) <;> decide
end Go.Proofs.YtdihjnifoikbeaaDoor.Av.Sh

/- A sheet is written: sheetout.Put. -/
set_option linter.unusedSimpArgs false
set_option linter.unusedVariables false
set_option maxRecDepth 100000
namespace Go.Proofs.YtdihjnifoikbeaaDoor.Av.Sh
open Go Bt Co Wr
attribute [local irreducible] AGo ACalls
variable {gl : List (Nat × List D)}
theorem mvs_I {rs : List Rw} (ok : RwsOk rs) (i : Nat) : ∀ c ∈ cellsOf (rs.take i), CelOk c := fun c hc => by
  unfold cellsOf at hc
  obtain ⟨r, hr, hcr⟩ := List.mem_flatMap.1 hc
  exact (ok.cells r (List.mem_of_mem_take hr)).2 c hcr
theorem vecs_I {l : List Cel} (h : ∀ c ∈ l, CelOk c) : VecsI (mvs l) := fun p hp => by
  unfold mvs at hp
  obtain ⟨c, hc, rfl⟩ := List.mem_map.1 hp
  exact ⟨(h c hc).x, (h c hc).y⟩
abbrev putFn : AV := .fn (.func 82) [] [.ptr 2 0, .ptr 3 0, .ptr 5 0, .ptr 4 0, .ptr 6 0]
theorem digs8 : digs 0 8 8 = zs 8 := by decide +kernel
theorem hdOut_pad {n i : Nat} {r : Rw} {w out : List UInt8} (hn : w.length = n) (hd : r.head = true) : padS (w ++ out) ++ rhRow i r.id r.quant = w ++ headOut n i r out := by
  unfold headOut
  rw [if_pos hd, padS_zs, List.length_append, hn]
  simp only [List.append_assoc]
theorem hdOut_no {n i : Nat} {r : Rw} {out : List UInt8} (hd : r.head = false) : headOut n i r out = out := by
  unfold headOut
  rw [if_neg (by rw [hd]; decide)]
theorem fin0 (w : List UInt8) (h : Hd) (n : Nat) (hn : w.length = n) : padS w ++ Sh.headRow h = w ++ (zs (padN n) ++ Sh.headRow h) := by
  rw [padS_zs, hn, List.append_assoc]
attribute [local irreducible] Tc.evsD suD celsD rsD rightS octets packN padS putRow ofV vD rowsS hdOk Sh.headRow rhRow zs cellsOut outS headOut firstS mvs cellsOf cellRow checkS vecsS
set_option maxHeartbeats 64000000 in
theorem sheetput_c (w : List UInt8) (n : Nat) (h : Hd) (rs : List Rw) (z : Int) (ok : RwsOk rs) (hl : h.supp.length ≤ 100) (hc : checkS h rs z = 0) (hyes : formS h rs z = true) (hw : Fine w n) (hn : w.length = n) (hbig : n + 13000 * (cellsOf rs).length + 1000 ≤ 9000000) (hz4 : z ≤ 1000000) :
    ACalls (cxg gA) 46 [.ptr 0 0, .d (shD h (rsD rs) z)] (WO w) (fun r H => r = I 0 ∧ H = WO (w ++ sheetOut h rs z n)) := by
  have ck := (check_c h rs z ok hl).more gtc_A
  rw [hc] at ck
  obtain ⟨hh, hz, hR, ha⟩ := formS_inv hyes
  obtain ⟨hf, hlen⟩ := formS_len hyes
  have sp := sput_c (gl := gA) h (rsD rs) z w n hh hw (by omega)
  rw [fin0 w h n hn] at sp
  have k1 := cells_c (gl := gA) h.fmt
  have k2 := rows_c (gl := gA) h.fmt
  have hAb := fA_bd hf
  have hLb := fL_bd h.fmt
  have hRb : fR h.fmt ≤ 18 := by unfold fR; split <;> (try split) <;> (try split) <;> (try split) <;> (try split) <;> (try split) <;> decide
  have hof := fun i hi => outS_fine (n := n) (i := i) hh ha hi
  have hcl : ∀ i, (cellsOf (rs.take i)).length ≤ (cellsOf rs).length := fun i => by
    have e : cellsOf rs = cellsOf (rs.take i) ++ cellsOf (rs.drop i) := by
      unfold cellsOf
      rw [← List.flatMap_append, List.take_append_drop]
    rw [e, List.length_append]; omega
  have hrl := rsD_len rs
  have o0 : outS h rs n 0 = zs (padN n) ++ Sh.headRow h := by unfold outS; rfl
  have f0 : firstS (fL h.fmt) rs 0 = 0 := by unfold firstS; rfl
  have m0 : vD (mvs (cellsOf (rs.take 0))) = [] := by rw [List.take_zero]; unfold vD mvs cellsOf; rfl
  have hfb := fun i hi => firstS_bd (rs := rs) hLb i hi
  rw [← o0] at sp
  refine ACalls.enter Tryd.func46 rfl Tryd.ntmps46 (by kernel_rfl) rfl ?_; simp only [argEnv, Nat.reduceAdd, List.length_nil, List.length_cons]
  repeat (first | apply AGo.seq | apply AGo.block | apply AGo.blk | apply AGo.skip | apply AGo.nil | (apply AGo.region; rfl) | (apply AGo.q true; rfl; rfl; rfl; rfl; first | exact True.intro | omega | (simp only [Int.toNat_natCast, Int.reduceToNat, IntKind.bits]; omega)) | (apply AGo.callH [0,1] ( sp); (iterate 6 rfl); decide; rfl; rfl; simp only [names, putH, AV.ren, AV.renL, AObj.ren, nh, Nat.reduceAdd, Nat.reduceSub]) | (apply AGo.callP (ck); (iterate 6 rfl)) | (apply AGo.callP (k1); (iterate 6 rfl)) | (apply AGo.callP (k2); (iterate 6 rfl)) | (apply AGo.condDT; rfl; first | omega | rfl) | (apply AGo.condDF; rfl; omega) | (apply AGo.condF; rfl) | (apply AGo.alloc; (iterate 5 rfl); simp only [nm, Nat.reduceAdd, spliceA, AV.cells, D.cells]) | (apply AGo.box; (iterate 6 rfl); simp only [nm, Nat.reduceAdd, spliceA, AV.cells, D.cells]) | (apply AGo.store; (iterate 9 rfl); exact Nat.le_of_ble_eq_true rfl; simp only [nm, Nat.reduceAdd, spliceA, AV.cells, D.cells]) | (apply AGo.cBT; rfl; first | (simp only [bT]; omega)) | (apply AGo.cBF; rfl; first | (simp only [bF]; omega) | exact ndF rfl) | (apply AGo.ghostC 5 0 40 2; rfl; rfl; simp only [List.set_cons_zero, List.set_cons_succ, List.length_cons, List.length_nil, Nat.reduceAdd, List.cons_append, List.nil_append]) | (apply AGo.freezeC 5 0; rfl; rfl; rfl; first | rfl | (simp only [List.length_append, List.length_map, List.length_set, List.length_replicate, List.length_cons, List.length_nil]; omega); simp only [List.set_cons_zero, List.set_cons_succ]))
  refine AGo.weak (env' := [(43, I ((0 : Nat) : Int)), (42, I ((rsD rs).length : Int)), (41, .d (.sl 4 (rsD rs))), (12, putFn), (11, .ptr 6 0), (9, I (fL h.fmt)), (3, .ptr 3 0), (2, .ptr 2 0)]) ⟨rfl, rfl, rfl, rfl, rfl, rfl, rfl, rfl, trivial⟩ ?_
  refine AGo.loop (fun m env H => ∃ i : Nat, m = rs.length - i ∧ i ≤ rs.length ∧ env = [(43, I (i : Int)), (42, I ((rsD rs).length : Int)), (41, .d (.sl 4 (rsD rs))), (12, putFn), (11, .ptr 6 0), (9, I (fL h.fmt)), (3, .ptr 3 0), (2, .ptr 2 0)] ∧ H = PO (w ++ outS h rs n i) h rs z (mvs (cellsOf (rs.take i))) (fA h.fmt) (firstS (fL h.fmt) rs i)) rs.length
    ⟨0, rfl, by omega, rfl, by unfold PO; rw [m0, f0]; rfl⟩ ?_
  rintro m env H ⟨i, rfl, hi, rfl, rfl⟩
  rcases Nat.lt_or_ge i rs.length with hlt | hge
  · obtain ⟨r, hr⟩ : ∃ r, rs[i]? = some r := ⟨_, List.getElem?_eq_getElem hlt⟩
    have g1 := rsD_get hr
    obtain ⟨hrl, hrc⟩ := ok.cells r (List.mem_of_getElem? hr)
    have hrow := rowsS_at ha (by omega) hr
    have hcells := rowS_cells hrow
    have hX := hcl i
    have eX := cellsOf_take hr
    have hX2 := hcl (i + 1)
    rw [eX, List.length_append] at hX2
    have hm := celsD_len r.cells
    have fo := hof i (by omega)
    have ho := headOut_fine (n := n) (i := i) (r := r) fo
    have eO := outS_succ (n := n) hr (h := h)
    have eF := firstS_succ (L := fL h.fmt) hr
    have hFb := hfb (i + 1) (by omega)
    have hvI := vecs_I (mvs_I ok i)
    have eM : mvs (cellsOf (rs.take (i + 1))) = mvs (cellsOf (rs.take i)) ++ mvs r.cells := by rw [eX, mvs_app]
    have hmul : (0 : Int) ≤ (i : Int) * fL h.fmt ∧ (i : Int) * fL h.fmt ≤ 1000 * 4 := ⟨Int.mul_nonneg (by omega) hLb.1, Int.mul_le_mul (by omega) hLb.2 hLb.1 (by omega)⟩
    generalize hXX : cellsOf (rs.take i) = X at *
    generalize hMM : mvs X = M at *
    have hML : M.length = X.length := by rw [← hMM, mvs_len]
    generalize hOO : outS h rs n i = O at *
    generalize hFF : firstS (fL h.fmt) rs i = F0 at *
    have wO : Fine (w ++ O) (n + (137 + 36 * i + 13000 * X.length)) := hw.app fo
    have c0 : ∀ F, cellsOut h.inter (fA h.fmt) F M (r.cells.take 0) = [] := fun F => by rw [List.take_zero]; unfold cellsOut; rfl
    have m00 : mvs (r.cells.take 0) = [] := by rw [List.take_zero]; unfold mvs; rfl
    have hcf := fun k => cellsOut_fine (A := fA h.fmt) (F := firstS (fL h.fmt) rs (i + 1)) (r.cells.take k) M (fun c hc => hcells c (List.mem_of_mem_take hc))
    generalize hF1 : firstS (fL h.fmt) rs (i + 1) = F1 at *
    rcases Bool.eq_false_or_eq_true r.head with hd | hd
    all_goals
      first
        | (obtain ⟨q0, q1, q2⟩ := rowS_hdr hrow hd
           have rp := rhput_c (gl := gA) (w ++ O) i r.id r.quant wO.1 (by have := wO.2; omega) (by omega) q1 q2
           rw [hdOut_pad hn hd] at rp
           rw [if_pos hd] at eF
           have e1 : headOut n i r O = headOut n i r O := rfl
           have e2 : (i : Int) * fL h.fmt = F1 := eF.symm
           repeat' (first | (apply AGo.opx; (apply quiet_idxG; (iterate 7 rfl); (first | omega | (rw [hrl]; omega) | (exact ⟨by omega, by omega⟩)); exact g1); rfl; rfl; rfl) | apply AGo.seq | apply AGo.block | apply AGo.blk | apply AGo.skip | apply AGo.nil | (apply AGo.region; rfl) | (apply AGo.q true; rfl; rfl; rfl; rfl; first | exact True.intro | omega | (simp only [Int.toNat_natCast, Int.reduceToNat, IntKind.bits]; omega) | (rw [hrl]; omega) | (exact ⟨by omega, by omega⟩)) | (apply AGo.callH [0,1] ( rp); (iterate 6 rfl); decide; rfl; rfl; simp only [names, putH, AV.ren, AV.renL, AObj.ren, nh, Nat.reduceAdd, Nat.reduceSub]) | (apply AGo.condDT; rfl; first | omega | rfl) | (apply AGo.condDF; rfl; omega) | (apply AGo.condF; rfl) | (apply AGo.alloc; (iterate 5 rfl); simp only [nm, Nat.reduceAdd, spliceA, AV.cells, D.cells]) | (apply AGo.box; (iterate 6 rfl); simp only [nm, Nat.reduceAdd, spliceA, AV.cells, D.cells]) | (apply AGo.store; (iterate 9 rfl); exact Nat.le_of_ble_eq_true rfl; simp only [nm, Nat.reduceAdd, spliceA, AV.cells, D.cells]) | (apply AGo.cBT; rfl; first | (simp only [bT]; omega) | (exact hd)) | (apply AGo.cBF; rfl; first | (simp only [bF]; omega) | exact ndF rfl | (exact hd)) | intro _ | (apply AGo.retN; rfl; rfl; rfl; rfl) | (apply AGo.outL; rfl; rfl))
           rw [e2])
        | (have rp := hdOut_no (n := n) (i := i) (out := O) hd
           rw [if_neg (by rw [hd]; decide)] at eF
           repeat' (first | (apply AGo.opx; (apply quiet_idxG; (iterate 7 rfl); (first | omega | (rw [hrl]; omega)); exact g1); rfl; rfl; rfl) | apply AGo.seq | apply AGo.block | apply AGo.blk | apply AGo.skip | apply AGo.nil | (apply AGo.region; rfl) | (apply AGo.q true; rfl; rfl; rfl; rfl; first | exact True.intro | omega | (simp only [Int.toNat_natCast, Int.reduceToNat, IntKind.bits]; omega) | (rw [hrl]; omega)) | (apply AGo.condDT; rfl; first | omega | rfl) | (apply AGo.condDF; rfl; omega) | (apply AGo.condF; rfl) | (apply AGo.alloc; (iterate 5 rfl); simp only [nm, Nat.reduceAdd, spliceA, AV.cells, D.cells]) | (apply AGo.box; (iterate 6 rfl); simp only [nm, Nat.reduceAdd, spliceA, AV.cells, D.cells]) | (apply AGo.store; (iterate 9 rfl); exact Nat.le_of_ble_eq_true rfl; simp only [nm, Nat.reduceAdd, spliceA, AV.cells, D.cells]) | (apply AGo.cBT; rfl; first | (simp only [bT]; omega) | (exact hd)) | (apply AGo.cBF; rfl; first | (simp only [bF]; omega) | exact ndF rfl | (exact hd)) | intro _ | (apply AGo.retN; rfl; rfl; rfl; rfl) | (apply AGo.outL; rfl; rfl))
           rw [← eF, ← rp])
    all_goals
      generalize hHO : headOut n i r O = Q at *
      refine AGo.weak (env' := [(63, I ((0 : Nat) : Int)), (62, I ((celsD r.cells).length : Int)), (61, .d (.sl 18 (celsD r.cells))), (43, I (i : Int)), (42, I ((rsD rs).length : Int)), (41, .d (.sl 4 (rsD rs))), (12, putFn), (11, .ptr 6 0), (9, I (fL h.fmt)), (3, .ptr 3 0), (2, .ptr 2 0)]) ⟨rfl, rfl, rfl, rfl, rfl, rfl, rfl, rfl, rfl, rfl, rfl, trivial⟩ ?_
      refine AGo.loop (fun m env H => ∃ k : Nat, m = r.cells.length - k ∧ k ≤ r.cells.length ∧ env = [(63, I (k : Int)), (62, I ((celsD r.cells).length : Int)), (61, .d (.sl 18 (celsD r.cells))), (43, I (i : Int)), (42, I ((rsD rs).length : Int)), (41, .d (.sl 4 (rsD rs))), (12, putFn), (11, .ptr 6 0), (9, I (fL h.fmt)), (3, .ptr 3 0), (2, .ptr 2 0)] ∧ H = PO (w ++ (Q ++ cellsOut h.inter (fA h.fmt) F1 M (r.cells.take k))) h rs z (M ++ mvs (r.cells.take k)) (fA h.fmt) F1 ++ [.cells (rwA r)]) r.cells.length
        ⟨0, rfl, by omega, rfl, by rw [c0, m00, List.append_nil, List.append_nil]; rfl⟩ ?_
      rintro m env H ⟨k, rfl, hk, rfl, rfl⟩
      rcases Nat.lt_or_ge k r.cells.length with hlt2 | hge2
      · obtain ⟨c, hc2⟩ : ∃ c, r.cells[k]? = some c := ⟨_, List.getElem?_eq_getElem hlt2⟩
        have g2 := celsD_get hc2
        have okc := hrc c (List.mem_of_getElem? hc2)
        have hrc2 := hcells c (List.mem_of_getElem? hc2)
        have hfk := hcf k
        have hkl : (r.cells.take k).length = k := by rw [List.length_take]; omega
        rw [hkl] at hfk
        have wk : Fine (w ++ (Q ++ cellsOut h.inter (fA h.fmt) F1 M (r.cells.take k))) 10000000 := by
          have := hw.app (ho.app hfk)
          exact ⟨this.1, by have := this.2; omega⟩
        have hvk : VecsI (M ++ mvs (r.cells.take k)) := fun p hp => by
          rcases List.mem_append.1 hp with hp | hp
          · exact hvI p hp
          · exact vecs_I (fun c hc => hrc c (List.mem_of_mem_take hc)) p hp
        have hvl : (M ++ mvs (r.cells.take k)).length ≤ 1000000 := by rw [List.length_append, mvs_len, hkl]; omega
        have p1 := put1_c (w ++ (Q ++ cellsOut h.inter (fA h.fmt) F1 M (r.cells.take k))) h rs z (M ++ mvs (r.cells.take k)) (fA h.fmt) F1 c okc hrc2 wk (by omega) hvl hvk
        have eT : w ++ (Q ++ cellsOut h.inter (fA h.fmt) F1 M (r.cells.take k)) ++ cellRow h.inter (fA h.fmt) F1 (M ++ mvs (r.cells.take k)) c = w ++ (Q ++ cellsOut h.inter (fA h.fmt) F1 M (r.cells.take (k + 1))) := by rw [cellsOut_take _ _ _ _ hc2]; simp only [List.append_assoc]
        have eV : M ++ mvs (r.cells.take k) ++ [mvP c] = M ++ mvs (r.cells.take (k + 1)) := by rw [mvs_take hc2, List.append_assoc]
        rw [eT, eV] at p1
        repeat' (first | (apply AGo.opx; (apply quiet_idxG; (iterate 7 rfl); (first | omega | (rw [hm]; omega)); exact g2); rfl; rfl; rfl) | apply AGo.seq | apply AGo.block | apply AGo.blk | apply AGo.skip | apply AGo.nil | (apply AGo.region; rfl) | (apply AGo.q true; rfl; rfl; rfl; rfl; first | exact True.intro | omega | (simp only [Int.toNat_natCast, Int.reduceToNat, IntKind.bits]; omega) | (rw [hm]; omega)) | (apply AGo.callH [0,1,2,3,4,5,6,7] ( p1); (iterate 6 rfl); decide; rfl; rfl; simp only [names, putH, AV.ren, AV.renL, AObj.ren, nh, Nat.reduceAdd, Nat.reduceSub]) | (apply AGo.condDT; rfl; first | omega | rfl) | (apply AGo.condDF; rfl; omega) | (apply AGo.condF; rfl) | (apply AGo.alloc; (iterate 5 rfl); simp only [nm, Nat.reduceAdd, spliceA, AV.cells, D.cells]) | (apply AGo.box; (iterate 6 rfl); simp only [nm, Nat.reduceAdd, spliceA, AV.cells, D.cells]) | (apply AGo.store; (iterate 9 rfl); exact Nat.le_of_ble_eq_true rfl; simp only [nm, Nat.reduceAdd, spliceA, AV.cells, D.cells]) | (apply AGo.cBT; rfl; first | (simp only [bT]; omega)) | (apply AGo.cBF; rfl; first | (simp only [bF]; omega) | exact ndF rfl) | intro _ | (apply AGo.retN; rfl; rfl; rfl; rfl) | (apply AGo.outL; rfl; rfl))
        all_goals first
          | exact AGo.roundD 9 [(63, I ((k + 1 : Nat) : Int)), (62, I ((celsD r.cells).length : Int)), (61, .d (.sl 18 (celsD r.cells))), (43, I (i : Int)), (42, I ((rsD rs).length : Int)), (41, .d (.sl 4 (rsD rs))), (12, putFn), (11, .ptr 6 0), (9, I (fL h.fmt)), (3, .ptr 3 0), (2, .ptr 2 0)] (r.cells.length - (k + 1)) (by omega) rfl rfl rfl rfl ⟨rfl, rfl, rfl, rfl, rfl, rfl, rfl, rfl, rfl, rfl, rfl, trivial⟩ ⟨k + 1, rfl, hlt2, rfl, rfl⟩
          | (exfalso; omega)
          | trace_state
      · obtain rfl : k = r.cells.length := by omega
        rw [List.take_length]
        repeat' (first | apply AGo.seq | apply AGo.block | apply AGo.blk | apply AGo.skip | apply AGo.nil | (apply AGo.region; rfl) | (apply AGo.q true; rfl; rfl; rfl; rfl; first | exact True.intro | omega | (simp only [Int.toNat_natCast, Int.reduceToNat, IntKind.bits]; omega)) | (apply AGo.condDT; rfl; first | omega | rfl) | (apply AGo.condDF; rfl; omega) | (apply AGo.condF; rfl) | (apply AGo.alloc; (iterate 5 rfl); simp only [nm, Nat.reduceAdd, spliceA, AV.cells, D.cells]) | (apply AGo.box; (iterate 6 rfl); simp only [nm, Nat.reduceAdd, spliceA, AV.cells, D.cells]) | (apply AGo.store; (iterate 9 rfl); exact Nat.le_of_ble_eq_true rfl; simp only [nm, Nat.reduceAdd, spliceA, AV.cells, D.cells]) | (apply AGo.cBT; rfl; first | (simp only [bT]; omega)) | (apply AGo.cBF; rfl; first | (simp only [bF]; omega) | exact ndF rfl) | intro _ | (apply AGo.retN; rfl; rfl; rfl; rfl) | (apply AGo.outL; rfl; rfl))
        all_goals first
          | exact AGo.roundD 8 [(43, I ((i + 1 : Nat) : Int)), (42, I ((rsD rs).length : Int)), (41, .d (.sl 4 (rsD rs))), (12, putFn), (11, .ptr 6 0), (9, I (fL h.fmt)), (3, .ptr 3 0), (2, .ptr 2 0)] (rs.length - (i + 1)) (by omega) rfl rfl rfl rfl ⟨rfl, rfl, rfl, rfl, rfl, rfl, rfl, rfl, trivial⟩ ⟨i + 1, rfl, hlt, rfl, by rw [eO, eM, hF1]; rfl⟩
          | (exfalso; omega)
          | trace_state
  · obtain rfl : i = rs.length := by omega
    have fo := hof rs.length (Nat.le_refl _)
    rw [List.take_length] at fo
    have hrl18 : rs.length ≤ 18 := by omega
    have wf := wfill_c (gl := gA) (w ++ outS h rs n rs.length) (by rw [List.length_append]; have := fo.2; omega)
    rw [padS_zs, List.length_append, hn] at wf
    obtain ⟨N, hN⟩ := Int.eq_ofNat_of_zero_le hz.1
    have hso : w ++ outS h rs n rs.length ++ zs (padN (n + (outS h rs n rs.length).length)) ++ zs (8 * N) = w ++ sheetOut h rs z n := by
      unfold sheetOut; rw [hN, Int.toNat_natCast]; simp only [List.append_assoc]
    rw [← hso]
    have hWf := (hw.app fo).app (zs_fine (padN (n + (outS h rs n rs.length).length)))
    have hp7 := padN_le (n + (outS h rs n rs.length).length)
    generalize w ++ outS h rs n rs.length ++ zs (padN (n + (outS h rs n rs.length).length)) = W at *
    have zz : W ++ zs (8 * 0) = W := by unfold zs; simp
    repeat' (first | apply AGo.seq | apply AGo.block | apply AGo.blk | apply AGo.skip | apply AGo.nil | (apply AGo.region; rfl) | (apply AGo.q true; rfl; rfl; rfl; rfl; first | exact True.intro | omega | (simp only [Int.toNat_natCast, Int.reduceToNat, IntKind.bits]; omega)) | (apply AGo.callH [0,1] ( wf); (iterate 6 rfl); decide; rfl; rfl; simp only [names, putH, AV.ren, AV.renL, AObj.ren, nh, Nat.reduceAdd, Nat.reduceSub]) | (apply AGo.condDT; rfl; first | omega | rfl) | (apply AGo.condDF; rfl; omega) | (apply AGo.condF; rfl) | (apply AGo.alloc; (iterate 5 rfl); simp only [nm, Nat.reduceAdd, spliceA, AV.cells, D.cells]) | (apply AGo.box; (iterate 6 rfl); simp only [nm, Nat.reduceAdd, spliceA, AV.cells, D.cells]) | (apply AGo.store; (iterate 9 rfl); exact Nat.le_of_ble_eq_true rfl; simp only [nm, Nat.reduceAdd, spliceA, AV.cells, D.cells]) | (apply AGo.cBT; rfl; first | (simp only [bT]; omega)) | (apply AGo.cBF; rfl; first | (simp only [bF]; omega) | exact ndF rfl) | intro _ | (apply AGo.retN; rfl; rfl; rfl; rfl) | (apply AGo.outL; rfl; rfl))
    refine AGo.weak (env' := [(76, I ((0 : Nat) : Int)), (75, I z), (2, .ptr 2 0)]) ⟨rfl, rfl, rfl, trivial⟩ ?_
    refine AGo.loop (fun m env H => ∃ k : Nat, m = N - k ∧ k ≤ N ∧ env = [(76, I (k : Int)), (75, I z), (2, .ptr 2 0)] ∧ H = PO (W ++ zs (8 * k)) h rs z (mvs (cellsOf (rs.take rs.length))) (fA h.fmt) (firstS (fL h.fmt) rs rs.length)) N
      ⟨0, rfl, by omega, rfl, by rw [zz]; rfl⟩ ?_
    rintro m env H ⟨k, rfl, hk, rfl, rfl⟩
    rcases Nat.lt_or_ge k N with hlt | hge2
    · have wk := hWf.app (zs_fine (8 * k))
      have wp := wput_c (gl := gA) (W ++ zs (8 * k)) 0 8 wk.1 (by have := wk.2; omega) (by omega) (by decide)
      rw [digs8, List.append_assoc, zs_app, show 8 * k + 8 = 8 * (k + 1) by omega] at wp
      repeat' (first | apply AGo.seq | apply AGo.block | apply AGo.blk | apply AGo.skip | apply AGo.nil | (apply AGo.region; rfl) | (apply AGo.q true; rfl; rfl; rfl; rfl; first | exact True.intro | omega | (simp only [Int.toNat_natCast, Int.reduceToNat, IntKind.bits]; omega)) | (apply AGo.callH [0,1] ( wp); (iterate 6 rfl); decide; rfl; rfl; simp only [names, putH, AV.ren, AV.renL, AObj.ren, nh, Nat.reduceAdd, Nat.reduceSub]) | (apply AGo.condDT; rfl; first | omega | rfl) | (apply AGo.condDF; rfl; omega) | (apply AGo.condF; rfl) | (apply AGo.alloc; (iterate 5 rfl); simp only [nm, Nat.reduceAdd, spliceA, AV.cells, D.cells]) | (apply AGo.box; (iterate 6 rfl); simp only [nm, Nat.reduceAdd, spliceA, AV.cells, D.cells]) | (apply AGo.store; (iterate 9 rfl); exact Nat.le_of_ble_eq_true rfl; simp only [nm, Nat.reduceAdd, spliceA, AV.cells, D.cells]) | (apply AGo.cBT; rfl; first | (simp only [bT]; omega)) | (apply AGo.cBF; rfl; first | (simp only [bF]; omega) | exact ndF rfl) | intro _ | (apply AGo.retN; rfl; rfl; rfl; rfl) | (apply AGo.outL; rfl; rfl))
      all_goals first
        | exact AGo.round [(76, I ((k + 1 : Nat) : Int)), (75, I z), (2, .ptr 2 0)] (N - (k + 1)) (by omega) ⟨rfl, rfl, rfl, trivial⟩ ⟨k + 1, rfl, hlt, rfl, rfl⟩
        | (exfalso; omega)
        | trace_state
    · obtain rfl : k = N := by omega
      repeat' (first | apply AGo.seq | apply AGo.block | apply AGo.blk | apply AGo.skip | apply AGo.nil | (apply AGo.region; rfl) | (apply AGo.q true; rfl; rfl; rfl; rfl; first | exact True.intro | omega | (simp only [Int.toNat_natCast, Int.reduceToNat, IntKind.bits]; omega)) | (apply AGo.condDT; rfl; first | omega | rfl) | (apply AGo.condDF; rfl; omega) | (apply AGo.condF; rfl) | (apply AGo.alloc; (iterate 5 rfl); simp only [nm, Nat.reduceAdd, spliceA, AV.cells, D.cells]) | (apply AGo.box; (iterate 6 rfl); simp only [nm, Nat.reduceAdd, spliceA, AV.cells, D.cells]) | (apply AGo.store; (iterate 9 rfl); exact Nat.le_of_ble_eq_true rfl; simp only [nm, Nat.reduceAdd, spliceA, AV.cells, D.cells]) | (apply AGo.cBT; rfl; first | (simp only [bT]; omega)) | (apply AGo.cBF; rfl; first | (simp only [bF]; omega) | exact ndF rfl) | intro _ | (apply AGo.retN; rfl; rfl; rfl; rfl) | (apply AGo.outL; rfl; rfl))
      all_goals first | exact ⟨rfl, rfl⟩ | (exfalso; omega) | trace_state
theorem sheetputbad_c (w : List UInt8) (h : Hd) (rs : List Rw) (z : Int) (ok : RwsOk rs) (hl : h.supp.length ≤ 100) (hc : checkS h rs z ≠ 0) :
    ACalls (cxg gA) 46 [.ptr 0 0, .d (shD h (rsD rs) z)] (WO w) (fun r H => r = I (checkS h rs z) ∧ H = WO w) := by
  have ck := (check_c h rs z ok hl).more gtc_A
  refine ACalls.enter Tryd.func46 rfl Tryd.ntmps46 (by kernel_rfl) rfl ?_; simp only [argEnv, Nat.reduceAdd, List.length_nil, List.length_cons]
  repeat' (first | apply AGo.seq | apply AGo.skip | apply AGo.nil | (apply AGo.region; rfl) | (apply AGo.q true; rfl; rfl; rfl; rfl; first | exact True.intro | omega | (simp only [Int.toNat_natCast, Int.reduceToNat, IntKind.bits]; omega)) | (apply AGo.callP (ck); (iterate 6 rfl)) | (apply AGo.condF; rfl) | (apply AGo.box; (iterate 6 rfl); simp only [nm, Nat.reduceAdd, spliceA, AV.cells, D.cells]) | (apply AGo.cBT; rfl; first | (simp only [bT]; omega)) | intro _ | (apply AGo.retN; rfl; rfl; rfl; rfl))
  all_goals first | exact ⟨rfl, rfl⟩ | (exfalso; omega) | trace_state
theorem sheetputnil_c (x : D) (h : Hd) (rs : List Rw) (z : Int) : ACalls (cxg gA) 46 [.d .nilp, .d (shD h (rsD rs) z)] [] (fun r H => r = I 1 ∧ H = []) := by
  refine ACalls.enter Tryd.func46 rfl Tryd.ntmps46 (by kernel_rfl) rfl ?_; simp only [argEnv, Nat.reduceAdd, List.length_nil, List.length_cons]
  repeat' (first | apply AGo.seq | apply AGo.nil | (apply AGo.region; rfl) | (apply AGo.q true; rfl; rfl; rfl; rfl; first | exact True.intro | omega | (simp only [Int.toNat_natCast, Int.reduceToNat, IntKind.bits]; omega)) | (apply AGo.condT; rfl) | (apply AGo.box; (iterate 6 rfl); simp only [nm, Nat.reduceAdd, spliceA, AV.cells, D.cells]) | intro _ | (apply AGo.retN; rfl; rfl; rfl; rfl))
  all_goals first | exact ⟨rfl, rfl⟩ | (exfalso; omega) | trace_state
end Go.Proofs.YtdihjnifoikbeaaDoor.Av.Sh
