/- Rows that may be: (sound.sheet).row, sound.every. -/
import Derived.Test.YtdihjnifoikbeaaDoorPs3
import Derived.Test.YtdihjnifoikbeaaDoorCo4
set_option linter.unusedSimpArgs false
set_option linter.unusedVariables false
set_option maxRecDepth 100000
namespace Go.Proofs.YtdihjnifoikbeaaDoor.Av.Sh
open Go Bt Tc Co
attribute [local irreducible] AGo ACalls
variable {gl : List (Nat × List D)}
def hdrS (i : Nat) (r : Rw) : Bool := if r.head = true then decide (i ≠ 0 ∧ (0 ≤ r.id ∧ r.id ≤ 3) ∧ (1 ≤ r.quant ∧ r.quant ≤ 31)) else decide (r.id = 0 ∧ r.quant = 0)
def rowS (h : Hd) (i : Nat) (r : Rw) : Bool := decide ((r.cells.length : Int) = fA h.fmt * fL h.fmt) && hdrS i r && r.cells.all (rightS h.inter)
theorem fAL_bd (f : Int) : 0 ≤ fA f * fL f ∧ fA f * fL f ≤ 1000 := by
  rcases fmts f with rfl | rfl | rfl | rfl | rfl | rfl | h
  rotate_right
  · obtain ⟨e1, e2, e3, e4, e5⟩ := f_no h
    unfold fA; rw [e1, e4]; decide
  all_goals decide
theorem take_allR {l : List Cel} {k : Nat} {c : Cel} (b : Bool) (h : l[k]? = some c) : (l.take (k + 1)).all (rightS b) = ((l.take k).all (rightS b) && rightS b c) := by
  rw [take_cel h, List.all_append]; simp
theorem all_no {l : List Cel} {k : Nat} {c : Cel} {b : Bool} (h : l[k]? = some c) (hn : rightS b c = false) : l.all (rightS b) = false :=
  List.all_eq_false.2 ⟨c, List.mem_of_getElem? h, by rw [hn]; decide⟩
attribute [local irreducible] evsD suD celsD rsD rightS
set_option maxHeartbeats 16000000 in
theorem srow_c (h : Hd) (rs : List Rw) (z : Int) (i : Nat) (r : Rw) (hr : rs[i]? = some r) (ok : RwsOk rs) :
    ACalls (cxg gtc) 77 [.d (shD h (rsD rs) z), I (i : Int)] [] (fun x H => x = B (rowS h i r) ∧ H = []) := by
  have hn := rsD_len rs
  have hf := ok.few
  have hlt : i < rs.length := getElem?_lt hr
  have g1 := rsD_get hr
  obtain ⟨hrl, hrc⟩ := ok.cells r (List.mem_of_getElem? hr)
  have hm := celsD_len r.cells
  have hP := fAL_bd h.fmt
  have k1 := cells_c (gl := gtc) h.fmt
  have k2 := rows_c (gl := gtc) h.fmt
  unfold rowS
  generalize fL h.fmt = L at *
  generalize fA h.fmt = A at *
  generalize fR h.fmt = R at *
  generalize fD h.fmt = E at *
  generalize hPP : A * L = P at *
  have hm64 : -9223372036854775808 ≤ A * L ∧ A * L ≤ 9223372036854775807 := by rw [hPP]; omega
  obtain ⟨hd, id, q, cs⟩ := r
  replace hm : (celsD cs).length = cs.length := hm
  replace hrc : ∀ c ∈ cs, CelOk c := hrc
  by_cases hlen : (cs.length : Int) = P
  · rw [show decide (((Rw.mk hd id q cs).cells.length : Int) = P) = true from decide_eq_true hlen, Bool.true_and]
    cases hh : hdrS i ⟨hd, id, q, cs⟩ with
    | false =>
      rw [Bool.false_and]
      cases hd
      · have hh' : ¬ (id = 0 ∧ q = 0) := of_decide_eq_false hh
        refine ACalls.enter Tryd.func77 rfl Tryd.ntmps77 (by kernel_rfl) rfl ?_; simp only [argEnv, Nat.reduceAdd, List.length_nil, List.length_cons]
        repeat' (first | (apply AGo.opx; (apply quiet_idxG; (iterate 7 rfl); (first | omega | (exact hm64) | (rw [hn]; omega)); exact g1); rfl; rfl; rfl) | apply AGo.seq | apply AGo.block | apply AGo.blk | apply AGo.skip | apply AGo.nil | (apply AGo.region; rfl) | (apply AGo.q true; rfl; rfl; rfl; rfl; first | exact True.intro | omega | (simp only [Int.toNat_natCast, Int.reduceToNat, IntKind.bits]; omega) | (exact hm64) | (rw [hn]; omega)) | (apply AGo.callP (k1); (iterate 6 rfl)) | (apply AGo.callP (k2); (iterate 6 rfl)) | (apply AGo.condDT; rfl; first | omega | rfl) | (apply AGo.condDF; rfl; omega) | (apply AGo.condT; rfl) | (apply AGo.condF; rfl) | (apply AGo.alloc; (iterate 5 rfl); simp only [nm, Nat.reduceAdd, spliceA, AV.cells, D.cells]) | (apply AGo.box; (iterate 6 rfl); simp only [nm, Nat.reduceAdd, spliceA, AV.cells, D.cells]) | (apply AGo.store; (iterate 9 rfl); exact Nat.le_of_ble_eq_true rfl; simp only [nm, Nat.reduceAdd, spliceA, AV.cells, D.cells]) | (apply AGo.unguard; rfl; rfl) | (apply AGo.gF; rfl; rfl; rfl; omega) | (apply AGo.cBT; rfl; first | (simp only [bT]; omega)) | (apply AGo.cBF; rfl; first | (simp only [bF]; omega) | exact ndF rfl) | (apply AGo.gBF; rfl; rfl; rfl; first | (simp only [bF]; omega) | exact ndF rfl) | (apply AGo.skipOp; rfl; rfl; rfl) | intro _ | (apply AGo.gD; rfl; rfl; rfl) | (apply AGo.gS; rfl; rfl; rfl) | (apply AGo.condB; rfl) | (apply AGo.retN; rfl; rfl; rfl; rfl) | (apply AGo.retL; rfl; rfl; rfl; rfl) | (apply AGo.outL; rfl; rfl))
        all_goals first | exact ⟨rfl, rfl⟩ | (exfalso; omega) | (exfalso; simp only [bT, bF, Bool.not_false, Bool.not_true] at *; omega) | trace_state
      · have hh' : ¬ (i ≠ 0 ∧ (0 ≤ id ∧ id ≤ 3) ∧ (1 ≤ q ∧ q ≤ 31)) := of_decide_eq_false hh
        refine ACalls.enter Tryd.func77 rfl Tryd.ntmps77 (by kernel_rfl) rfl ?_; simp only [argEnv, Nat.reduceAdd, List.length_nil, List.length_cons]
        repeat' (first | (apply AGo.opx; (apply quiet_idxG; (iterate 7 rfl); (first | omega | (exact hm64) | (rw [hn]; omega)); exact g1); rfl; rfl; rfl) | apply AGo.seq | apply AGo.block | apply AGo.blk | apply AGo.skip | apply AGo.nil | (apply AGo.region; rfl) | (apply AGo.q true; rfl; rfl; rfl; rfl; first | exact True.intro | omega | (simp only [Int.toNat_natCast, Int.reduceToNat, IntKind.bits]; omega) | (exact hm64) | (rw [hn]; omega)) | (apply AGo.callP (k1); (iterate 6 rfl)) | (apply AGo.callP (k2); (iterate 6 rfl)) | (apply AGo.condDT; rfl; first | omega | rfl) | (apply AGo.condDF; rfl; omega) | (apply AGo.condT; rfl) | (apply AGo.condF; rfl) | (apply AGo.alloc; (iterate 5 rfl); simp only [nm, Nat.reduceAdd, spliceA, AV.cells, D.cells]) | (apply AGo.box; (iterate 6 rfl); simp only [nm, Nat.reduceAdd, spliceA, AV.cells, D.cells]) | (apply AGo.store; (iterate 9 rfl); exact Nat.le_of_ble_eq_true rfl; simp only [nm, Nat.reduceAdd, spliceA, AV.cells, D.cells]) | (apply AGo.unguard; rfl; rfl) | (apply AGo.gF; rfl; rfl; rfl; omega) | (apply AGo.cBT; rfl; first | (simp only [bT]; omega)) | (apply AGo.cBF; rfl; first | (simp only [bF]; omega) | exact ndF rfl) | (apply AGo.gBF; rfl; rfl; rfl; first | (simp only [bF]; omega) | exact ndF rfl) | (apply AGo.skipOp; rfl; rfl; rfl) | intro _ | (apply AGo.gD; rfl; rfl; rfl) | (apply AGo.gS; rfl; rfl; rfl) | (apply AGo.condB; rfl) | (apply AGo.retN; rfl; rfl; rfl; rfl) | (apply AGo.retL; rfl; rfl; rfl; rfl) | (apply AGo.outL; rfl; rfl))
        all_goals first | exact ⟨rfl, rfl⟩ | (exfalso; omega) | (exfalso; simp only [bT, bF, Bool.not_false, Bool.not_true] at *; omega) | trace_state
    | true =>
      rw [Bool.true_and]
      have hh' : (hd = false ∧ id = 0 ∧ q = 0) ∨ (hd = true ∧ i ≠ 0 ∧ (0 ≤ id ∧ id ≤ 3) ∧ (1 ≤ q ∧ q ≤ 31)) := by
        cases hd
        · exact .inl ⟨rfl, of_decide_eq_true hh⟩
        · exact .inr ⟨rfl, of_decide_eq_true hh⟩
      rcases hh' with ⟨rfl, hh1⟩ | ⟨rfl, hh1⟩
      all_goals
        refine ACalls.enter Tryd.func77 rfl Tryd.ntmps77 (by kernel_rfl) rfl ?_; simp only [argEnv, Nat.reduceAdd, List.length_nil, List.length_cons]
        repeat' (first | (apply AGo.opx; (apply quiet_idxG; (iterate 7 rfl); (first | omega | (exact hm64) | (rw [hn]; omega)); exact g1); rfl; rfl; rfl) | apply AGo.seq | apply AGo.block | apply AGo.blk | apply AGo.skip | apply AGo.nil | (apply AGo.region; rfl) | (apply AGo.q true; rfl; rfl; rfl; rfl; first | exact True.intro | omega | (simp only [Int.toNat_natCast, Int.reduceToNat, IntKind.bits]; omega) | (exact hm64) | (rw [hn]; omega)) | (apply AGo.callP (k1); (iterate 6 rfl)) | (apply AGo.callP (k2); (iterate 6 rfl)) | (apply AGo.condDT; rfl; first | omega | rfl) | (apply AGo.condDF; rfl; omega) | (apply AGo.condT; rfl) | (apply AGo.condF; rfl) | (apply AGo.alloc; (iterate 5 rfl); simp only [nm, Nat.reduceAdd, spliceA, AV.cells, D.cells]) | (apply AGo.box; (iterate 6 rfl); simp only [nm, Nat.reduceAdd, spliceA, AV.cells, D.cells]) | (apply AGo.store; (iterate 9 rfl); exact Nat.le_of_ble_eq_true rfl; simp only [nm, Nat.reduceAdd, spliceA, AV.cells, D.cells]) | (apply AGo.unguard; rfl; rfl) | (apply AGo.gF; rfl; rfl; rfl; omega) | (apply AGo.cBT; rfl; first | (simp only [bT]; omega)) | (apply AGo.cBF; rfl; first | (simp only [bF]; omega) | exact ndF rfl) | (apply AGo.gBF; rfl; rfl; rfl; first | (simp only [bF]; omega) | exact ndF rfl) | (apply AGo.skipOp; rfl; rfl; rfl) | intro _ | (apply AGo.gD; rfl; rfl; rfl) | (apply AGo.gS; rfl; rfl; rfl) | (apply AGo.condB; rfl) | (apply AGo.retN; rfl; rfl; rfl; rfl) | (apply AGo.retL; rfl; rfl; rfl; rfl) | (apply AGo.outL; rfl; rfl))
        all_goals first | (exfalso; omega) | (exfalso; simp only [bT, bF, Bool.not_false, Bool.not_true] at *; omega) | skip
        refine AGo.weak (env' := [(81, I ((0 : Nat) : Int)), (80, I ((celsD cs).length : Int)), (79, .d (.sl 18 (celsD cs))), (2, .ptr 0 0)]) ⟨rfl, rfl, rfl, rfl, trivial⟩ ?_
        refine AGo.loop (fun m env H => ∃ k : Nat, m = cs.length - k ∧ k ≤ cs.length ∧ (cs.take k).all (rightS h.inter) = true ∧ env = [(81, I (k : Int)), (80, I ((celsD cs).length : Int)), (79, .d (.sl 18 (celsD cs))), (2, .ptr 0 0)] ∧ ∃ R, H = [.cells (shA h (rsD rs) z), .cells (rwA R)]) cs.length
          ⟨0, rfl, by omega, by simp, rfl, ⟨_, id, q, cs⟩, rfl⟩ ?_
        rintro m env H ⟨k, rfl, hk, hal, rfl, R, rfl⟩
        rcases Nat.lt_or_ge k cs.length with hlt2 | hge2
        · obtain ⟨c, hc⟩ : ∃ c, cs[k]? = some c := ⟨_, List.getElem?_eq_getElem hlt2⟩
          have g2 := celsD_get hc
          have cr := cright_c h.inter c (hrc c (List.mem_of_getElem? hc))
          have et := take_allR h.inter hc
          rw [hal, Bool.true_and] at et
          cases hR : rightS h.inter c with
          | true =>
            rw [hR] at cr et
            repeat' (first | (apply AGo.opx; (apply quiet_idxG; (iterate 7 rfl); (first | omega | (rw [hm]; omega)); exact g2); rfl; rfl; rfl) | apply AGo.seq | apply AGo.block | apply AGo.blk | apply AGo.skip | apply AGo.nil | (apply AGo.region; rfl) | (apply AGo.q true; rfl; rfl; rfl; rfl; first | exact True.intro | omega | (simp only [Int.toNat_natCast, Int.reduceToNat, IntKind.bits]; omega) | (rw [hm]; omega)) | (apply AGo.callP (cr); (iterate 6 rfl)) | (apply AGo.condDT; rfl; first | omega | rfl) | (apply AGo.condDF; rfl; omega) | (apply AGo.condT; rfl) | (apply AGo.condF; rfl) | (apply AGo.alloc; (iterate 5 rfl); simp only [nm, Nat.reduceAdd, spliceA, AV.cells, D.cells]) | (apply AGo.box; (iterate 6 rfl); simp only [nm, Nat.reduceAdd, spliceA, AV.cells, D.cells]) | (apply AGo.store; (iterate 9 rfl); exact Nat.le_of_ble_eq_true rfl; simp only [nm, Nat.reduceAdd, spliceA, AV.cells, D.cells]) | (apply AGo.unguard; rfl; rfl) | (apply AGo.gF; rfl; rfl; rfl; omega) | (apply AGo.cBT; rfl; first | (simp only [bT]; omega)) | (apply AGo.cBF; rfl; first | (simp only [bF]; omega) | exact ndF rfl) | (apply AGo.gBF; rfl; rfl; rfl; first | (simp only [bF]; omega) | exact ndF rfl) | (apply AGo.skipOp; rfl; rfl; rfl) | intro _ | (apply AGo.gD; rfl; rfl; rfl) | (apply AGo.gS; rfl; rfl; rfl) | (apply AGo.condB; rfl) | (apply AGo.retN; rfl; rfl; rfl; rfl) | (apply AGo.retL; rfl; rfl; rfl; rfl) | (apply AGo.outL; rfl; rfl))
            all_goals first
              | exact AGo.roundD 2 [(81, I ((k + 1 : Nat) : Int)), (80, I ((celsD cs).length : Int)), (79, .d (.sl 18 (celsD cs))), (2, .ptr 0 0)] (cs.length - (k + 1)) (by omega) rfl rfl rfl rfl ⟨rfl, rfl, rfl, rfl, trivial⟩ ⟨k + 1, rfl, hlt2, et, rfl, _, rfl⟩
              | (exfalso; omega)
              | trace_state
          | false =>
            rw [hR] at cr
            have hno := all_no hc hR
            repeat' (first | (apply AGo.opx; (apply quiet_idxG; (iterate 7 rfl); (first | omega | (rw [hm]; omega)); exact g2); rfl; rfl; rfl) | apply AGo.seq | apply AGo.block | apply AGo.blk | apply AGo.skip | apply AGo.nil | (apply AGo.region; rfl) | (apply AGo.q true; rfl; rfl; rfl; rfl; first | exact True.intro | omega | (simp only [Int.toNat_natCast, Int.reduceToNat, IntKind.bits]; omega) | (rw [hm]; omega)) | (apply AGo.callP (cr); (iterate 6 rfl)) | (apply AGo.condDT; rfl; first | omega | rfl) | (apply AGo.condDF; rfl; omega) | (apply AGo.condT; rfl) | (apply AGo.condF; rfl) | (apply AGo.alloc; (iterate 5 rfl); simp only [nm, Nat.reduceAdd, spliceA, AV.cells, D.cells]) | (apply AGo.box; (iterate 6 rfl); simp only [nm, Nat.reduceAdd, spliceA, AV.cells, D.cells]) | (apply AGo.store; (iterate 9 rfl); exact Nat.le_of_ble_eq_true rfl; simp only [nm, Nat.reduceAdd, spliceA, AV.cells, D.cells]) | (apply AGo.unguard; rfl; rfl) | (apply AGo.gF; rfl; rfl; rfl; omega) | (apply AGo.cBT; rfl; first | (simp only [bT]; omega)) | (apply AGo.cBF; rfl; first | (simp only [bF]; omega) | exact ndF rfl) | (apply AGo.gBF; rfl; rfl; rfl; first | (simp only [bF]; omega) | exact ndF rfl) | (apply AGo.skipOp; rfl; rfl; rfl) | intro _ | (apply AGo.gD; rfl; rfl; rfl) | (apply AGo.gS; rfl; rfl; rfl) | (apply AGo.condB; rfl) | (apply AGo.retN; rfl; rfl; rfl; rfl) | (apply AGo.retL; rfl; rfl; rfl; rfl) | (apply AGo.outL; rfl; rfl))
            all_goals first | exact ⟨congrArg B hno.symm, rfl⟩ | (exfalso; omega) | trace_state
        · obtain rfl : k = cs.length := by omega
          rw [List.take_length] at hal
          repeat' (first | apply AGo.seq | apply AGo.block | apply AGo.blk | apply AGo.skip | apply AGo.nil | (apply AGo.region; rfl) | (apply AGo.q true; rfl; rfl; rfl; rfl; first | exact True.intro | omega | (simp only [Int.toNat_natCast, Int.reduceToNat, IntKind.bits]; omega)) | (apply AGo.condDT; rfl; first | omega | rfl) | (apply AGo.condDF; rfl; omega) | (apply AGo.condT; rfl) | (apply AGo.condF; rfl) | (apply AGo.alloc; (iterate 5 rfl); simp only [nm, Nat.reduceAdd, spliceA, AV.cells, D.cells]) | (apply AGo.box; (iterate 6 rfl); simp only [nm, Nat.reduceAdd, spliceA, AV.cells, D.cells]) | (apply AGo.store; (iterate 9 rfl); exact Nat.le_of_ble_eq_true rfl; simp only [nm, Nat.reduceAdd, spliceA, AV.cells, D.cells]) | (apply AGo.unguard; rfl; rfl) | (apply AGo.gF; rfl; rfl; rfl; omega) | (apply AGo.cBT; rfl; first | (simp only [bT]; omega)) | (apply AGo.cBF; rfl; first | (simp only [bF]; omega) | exact ndF rfl) | (apply AGo.gBF; rfl; rfl; rfl; first | (simp only [bF]; omega) | exact ndF rfl) | (apply AGo.skipOp; rfl; rfl; rfl) | intro _ | (apply AGo.gD; rfl; rfl; rfl) | (apply AGo.gS; rfl; rfl; rfl) | (apply AGo.condB; rfl) | (apply AGo.retN; rfl; rfl; rfl; rfl) | (apply AGo.retL; rfl; rfl; rfl; rfl) | (apply AGo.outL; rfl; rfl))
          all_goals first | exact ⟨congrArg B hal.symm, rfl⟩ | (exfalso; omega) | trace_state
  · rw [show decide (((Rw.mk hd id q cs).cells.length : Int) = P) = false from decide_eq_false hlen, Bool.false_and, Bool.false_and]
    refine ACalls.enter Tryd.func77 rfl Tryd.ntmps77 (by kernel_rfl) rfl ?_; simp only [argEnv, Nat.reduceAdd, List.length_nil, List.length_cons]
    repeat' (first | (apply AGo.opx; (apply quiet_idxG; (iterate 7 rfl); (first | omega | (exact hm64) | (rw [hn]; omega)); exact g1); rfl; rfl; rfl) | apply AGo.seq | apply AGo.block | apply AGo.blk | apply AGo.skip | apply AGo.nil | (apply AGo.region; rfl) | (apply AGo.q true; rfl; rfl; rfl; rfl; first | exact True.intro | omega | (simp only [Int.toNat_natCast, Int.reduceToNat, IntKind.bits]; omega) | (exact hm64) | (rw [hn]; omega)) | (apply AGo.callP (k1); (iterate 6 rfl)) | (apply AGo.callP (k2); (iterate 6 rfl)) | (apply AGo.condDT; rfl; first | omega | rfl) | (apply AGo.condDF; rfl; omega) | (apply AGo.condT; rfl) | (apply AGo.condF; rfl) | (apply AGo.alloc; (iterate 5 rfl); simp only [nm, Nat.reduceAdd, spliceA, AV.cells, D.cells]) | (apply AGo.box; (iterate 6 rfl); simp only [nm, Nat.reduceAdd, spliceA, AV.cells, D.cells]) | (apply AGo.store; (iterate 9 rfl); exact Nat.le_of_ble_eq_true rfl; simp only [nm, Nat.reduceAdd, spliceA, AV.cells, D.cells]) | (apply AGo.unguard; rfl; rfl) | (apply AGo.gF; rfl; rfl; rfl; omega) | (apply AGo.cBT; rfl; first | (simp only [bT]; omega)) | (apply AGo.cBF; rfl; first | (simp only [bF]; omega) | exact ndF rfl) | (apply AGo.gBF; rfl; rfl; rfl; first | (simp only [bF]; omega) | exact ndF rfl) | (apply AGo.skipOp; rfl; rfl; rfl) | intro _ | (apply AGo.gD; rfl; rfl; rfl) | (apply AGo.gS; rfl; rfl; rfl) | (apply AGo.condB; rfl) | (apply AGo.retN; rfl; rfl; rfl; rfl) | (apply AGo.retL; rfl; rfl; rfl; rfl) | (apply AGo.outL; rfl; rfl))
    all_goals first | exact ⟨rfl, rfl⟩ | (exfalso; omega) | (exfalso; simp only [bT, bF, Bool.not_false, Bool.not_true] at *; omega) | trace_state
/-- the first n rows may be -/
def rowsS (h : Hd) (rs : List Rw) : Nat → Bool
  | 0 => true
  | n + 1 => rowsS h rs n && (match rs[n]? with | some r => rowS h n r | none => true)
theorem rowsS_succ {h : Hd} {rs : List Rw} {n : Nat} {r : Rw} (hr : rs[n]? = some r) : rowsS h rs (n + 1) = (rowsS h rs n && rowS h n r) := by simp only [rowsS, hr]
theorem rowsS_no {h : Hd} {rs : List Rw} {n : Nat} (hn : rowsS h rs n = false) : ∀ k, rowsS h rs (n + k) = false
  | 0 => hn
  | k + 1 => by
    have := rowsS_no hn k
    rw [← Nat.add_assoc, rowsS, this, Bool.false_and]
theorem rowsS_all_no {h : Hd} {rs : List Rw} {n : Nat} {r : Rw} (hr : rs[n]? = some r) (hn : rowS h n r = false) : rowsS h rs rs.length = false := by
  have h1 : rowsS h rs (n + 1) = false := by rw [rowsS_succ hr, hn, Bool.and_false]
  have h2 := getElem?_lt hr
  have := rowsS_no h1 (rs.length - (n + 1))
  rwa [show n + 1 + (rs.length - (n + 1)) = rs.length by omega] at this
attribute [local irreducible] rowS rowsS
set_option maxHeartbeats 8000000 in
theorem every_c (h : Hd) (rs : List Rw) (z : Int) (ok : RwsOk rs) :
    ACalls (cxg gtc) 76 [I (rs.length : Int), .fn (.func 77) [.d (shD h (rsD rs) z)] []] [] (fun x H => x = B (rowsS h rs rs.length) ∧ H = []) := by
  have hf := ok.few
  have r0 : rowsS h rs 0 = true := by unfold rowsS; rfl
  refine ACalls.enter Tryd.func76 rfl Tryd.ntmps76 (by kernel_rfl) rfl ?_; simp only [argEnv, Nat.reduceAdd, List.length_nil, List.length_cons]
  repeat (first | apply AGo.seq | apply AGo.block | apply AGo.blk | apply AGo.skip | apply AGo.nil | (apply AGo.region; rfl) | (apply AGo.q true; rfl; rfl; rfl; rfl; first | exact True.intro | omega | (simp only [Int.toNat_natCast, Int.reduceToNat, IntKind.bits]; omega)) | (apply AGo.condDT; rfl; first | omega | rfl) | (apply AGo.condDF; rfl; omega) | (apply AGo.condT; rfl) | (apply AGo.condF; rfl))
  refine AGo.weak (env' := [(7, I ((0 : Nat) : Int)), (6, I (rs.length : Int)), (1, .fn (.func 77) [.d (shD h (rsD rs) z)] [])]) ⟨rfl, rfl, rfl, trivial⟩ ?_
  refine AGo.loop (fun m env H => ∃ k : Nat, m = rs.length - k ∧ k ≤ rs.length ∧ rowsS h rs k = true ∧ env = [(7, I (k : Int)), (6, I (rs.length : Int)), (1, .fn (.func 77) [.d (shD h (rsD rs) z)] [])] ∧ H = []) rs.length
    ⟨0, rfl, by omega, r0, rfl, rfl⟩ ?_
  rintro m env H ⟨k, rfl, hk, hal, rfl, rfl⟩
  rcases Nat.lt_or_ge k rs.length with hlt | hge
  · obtain ⟨r, hr⟩ : ∃ r, rs[k]? = some r := ⟨_, List.getElem?_eq_getElem hlt⟩
    have cr := srow_c h rs z k r hr ok
    have et := rowsS_succ (h := h) hr
    rw [hal, Bool.true_and] at et
    cases hR : rowS h k r with
    | true =>
      rw [hR] at cr et
      repeat' (first | apply AGo.seq | apply AGo.block | apply AGo.blk | apply AGo.skip | apply AGo.nil | (apply AGo.region; rfl) | (apply AGo.q true; rfl; rfl; rfl; rfl; first | exact True.intro | omega | (simp only [Int.toNat_natCast, Int.reduceToNat, IntKind.bits]; omega)) | (apply AGo.callP (cr); (iterate 6 rfl)) | (apply AGo.condDT; rfl; first | omega | rfl) | (apply AGo.condDF; rfl; omega) | (apply AGo.condT; rfl) | (apply AGo.condF; rfl) | intro _ | (apply AGo.retN; rfl; rfl; rfl; rfl) | (apply AGo.retL; rfl; rfl; rfl; rfl) | (apply AGo.outL; rfl; rfl))
      all_goals first
        | exact AGo.round [(7, I ((k + 1 : Nat) : Int)), (6, I (rs.length : Int)), (1, .fn (.func 77) [.d (shD h (rsD rs) z)] [])] (rs.length - (k + 1)) (by omega) ⟨rfl, rfl, rfl, trivial⟩ ⟨k + 1, rfl, hlt, et, rfl, rfl⟩
        | (exfalso; omega)
        | trace_state
    | false =>
      rw [hR] at cr
      have hno := rowsS_all_no hr hR
      repeat' (first | apply AGo.seq | apply AGo.block | apply AGo.blk | apply AGo.skip | apply AGo.nil | (apply AGo.region; rfl) | (apply AGo.q true; rfl; rfl; rfl; rfl; first | exact True.intro | omega | (simp only [Int.toNat_natCast, Int.reduceToNat, IntKind.bits]; omega)) | (apply AGo.callP (cr); (iterate 6 rfl)) | (apply AGo.condDT; rfl; first | omega | rfl) | (apply AGo.condDF; rfl; omega) | (apply AGo.condT; rfl) | (apply AGo.condF; rfl) | intro _ | (apply AGo.retN; rfl; rfl; rfl; rfl) | (apply AGo.retL; rfl; rfl; rfl; rfl) | (apply AGo.outL; rfl; rfl))
      all_goals first | exact ⟨congrArg B hno.symm, rfl⟩ | (exfalso; omega) | trace_state
  · obtain rfl : k = rs.length := by omega
    repeat' (first | apply AGo.seq | apply AGo.block | apply AGo.blk | apply AGo.skip | apply AGo.nil | (apply AGo.region; rfl) | (apply AGo.q true; rfl; rfl; rfl; rfl; first | exact True.intro | omega | (simp only [Int.toNat_natCast, Int.reduceToNat, IntKind.bits]; omega)) | (apply AGo.condDT; rfl; first | omega | rfl) | (apply AGo.condDF; rfl; omega) | (apply AGo.condT; rfl) | (apply AGo.condF; rfl) | intro _ | (apply AGo.retN; rfl; rfl; rfl; rfl) | (apply AGo.retL; rfl; rfl; rfl; rfl) | (apply AGo.outL; rfl; rfl))
    all_goals first | exact ⟨congrArg B hal.symm, rfl⟩ | (exfalso; omega) | trace_state
end Go.Proofs.YtdihjnifoikbeaaDoor.Av.Sh
