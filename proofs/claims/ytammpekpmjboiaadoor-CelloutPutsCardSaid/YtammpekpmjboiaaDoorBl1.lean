/- Blocks: what may be one, and its row: both programs. -/
import Derived.Test.YtammpekpmjboiaaDoorTc8
import Derived.Test.YtammpekpmjboiaaDoorTc3
import Derived.Test.YtammpekpmjboiaaDoorWr3
set_option linter.unusedSimpArgs false
set_option linter.unusedVariables false
set_option maxRecDepth 100000
namespace Go.Proofs.YtammpekpmjboiaaDoor.Av.Bl
open Go Bt Tc Wr
attribute [local irreducible] AGo ACalls
variable {gl : List (Nat × List D)}
def frm (b : Bool) : Nat := if b = true then 1 else 0
def dcOk (b : Bool) (dc : Int) : Bool := if b = true then decide (1 ≤ dc ∧ dc ≤ 254) else decide (dc = 0)
def blMay (b : Bool) (dc : Int) (l : List Ev) : Bool := (lev l (frm b)).isSome && dcOk b dc
def dcRow (b : Bool) (dc : Int) : List UInt8 := if b = true then digs (if dc = 128 then 255 else dc) 8 8 else []
def blRow (b : Bool) (dc : Int) (l : List Ev) : List UInt8 := dcRow b dc ++ l.flatMap evRow
theorem levS_facts : ∀ (l : List Ev) (a : Nat) (out r : List Int), levS l a out = some r → r.length = out.length ∧ (∀ e ∈ l, evR e = true) ∧ (l = [] ∨ a + l.length ≤ 64)
  | [], a, out, r, h => by rw [levS_nil] at h; cases h; simp
  | e :: l, a, out, r, h => by
    rw [levS_cons] at h
    split at h
    · rename_i hc
      obtain ⟨h1, h2, h3⟩ := levS_facts l _ _ r h
      refine ⟨by rw [h1, List.length_set], fun x hx => ?_, .inr ?_⟩
      · rcases List.mem_cons.1 hx with rfl | hx
        · exact hc.1
        · exact h2 x hx
      · rcases h3 with rfl | h3
        · simp only [List.length_cons, List.length_nil]; omega
        · simp only [List.length_cons]; omega
    · cases h
theorem lev_facts {l : List Ev} {a : Nat} {out : List Int} (h : lev l a = some out) : out.length = 64 ∧ (∀ e ∈ l, evR e = true) ∧ l.length ≤ 64 := by
  obtain ⟨h1, h2, h3⟩ := levS_facts l a z64 out h
  refine ⟨h1, h2, ?_⟩
  rcases h3 with rfl | h3
  · simp
  · omega
theorem hasS_dig : ∀ la : Bool, ∀ ru : _root_.Fin 64, ∀ w ∈ wdsS la ru.val, w.all isDig = true := by decide +kernel
theorem evRow_ok (e : Ev) (h : evR e = true) : (evRow e).all isDig = true ∧ (evRow e).length ≤ 30 := by
  have hb := evR_bd h
  have hl := hasS_len e.last e.run (absS e.level) hb.1
  have hd : (hasS e.last e.run (absS e.level)).all isDig = true := by
    unfold hasS
    split
    · rfl
    · rw [List.getD_eq_getElem?_getD]
      cases hx : (wdsS e.last e.run)[(absS e.level - 1).toNat]? with
      | none => rfl
      | some w =>
        have := hasS_dig e.last ⟨e.run.toNat, by omega⟩ w
        simp only at this
        rw [show ((e.run.toNat : Nat) : Int) = e.run by omega] at this
        exact this (List.mem_of_getElem? hx)
  have hs : (sgnS e.level).all isDig = true := by unfold sgnS; split <;> rfl
  have hsl := sgnS_len e.level
  have ht : (lstD e.last).all isDig = true := by unfold lstD; split <;> rfl
  have htl := lstD_len e.last
  unfold evRow
  rw [if_pos h]
  split
  · exact ⟨by rw [List.all_append, hd, hs]; rfl, by rw [List.length_append]; omega⟩
  · refine ⟨?_, ?_⟩
    · simp only [List.all_append, digs_dig, ht, Bool.and_true]; rfl
    · simp only [List.length_append, digs_len, List.length_cons, List.length_nil]; omega
theorem rows_ok (l : List Ev) (h : ∀ e ∈ l, evR e = true) : (l.flatMap evRow).all isDig = true ∧ (l.flatMap evRow).length ≤ 30 * l.length := by
  induction l with
  | nil => simp
  | cons e l ih =>
    obtain ⟨h1, h2⟩ := evRow_ok e (h e (by simp))
    obtain ⟨i1, i2⟩ := ih fun x hx => h x (by simp [hx])
    rw [List.flatMap_cons, List.all_append, h1, i1, List.length_append, List.length_cons]
    exact ⟨rfl, by omega⟩
theorem dcRow_ok (b : Bool) (dc : Int) : (dcRow b dc).all isDig = true ∧ (dcRow b dc).length ≤ 8 := by
  unfold dcRow
  split
  · exact ⟨digs_dig _ _ _, by rw [digs_len]; exact Nat.le_refl _⟩
  · exact ⟨rfl, by simp⟩
theorem blRow_ok (b : Bool) (dc : Int) (l : List Ev) (h : blMay b dc l = true) : (blRow b dc l).all isDig = true ∧ (blRow b dc l).length ≤ 2000 := by
  unfold blMay at h
  rw [Bool.and_eq_true, Option.isSome_iff_exists] at h
  obtain ⟨⟨out, ho⟩, _⟩ := h
  obtain ⟨_, h2, h3⟩ := lev_facts ho
  obtain ⟨r1, r2⟩ := rows_ok l h2
  obtain ⟨d1, d2⟩ := dcRow_ok b dc
  unfold blRow
  rw [List.all_append, d1, r1, List.length_append]
  exact ⟨rfl, by omega⟩
theorem from_c (b : Bool) : ACalls (cxg gl) 92 [B b] [] (fun r H => r = I (frm b : Nat) ∧ H = []) := by
  cases b
  all_goals
    refine ACalls.enter Tryd.func92 rfl Tryd.ntmps92 (by kernel_rfl) rfl ?_; simp only [argEnv, Nat.reduceAdd, List.length_nil, List.length_cons]
    repeat' (first | apply AGo.seq | apply AGo.block | apply AGo.blk | apply AGo.skip | apply AGo.nil | apply AGo.qnil | apply AGo.snil | (apply AGo.region; rfl) | ((first | apply AGo.q true | apply AGo.qq true | apply AGo.sq true); rfl; rfl; rfl; rfl; first | exact True.intro | omega | (simp only [Int.toNat_natCast, Int.reduceToNat, IntKind.bits]; omega)) | (apply AGo.drawT; rfl; rfl; rfl; decide +kernel) | (apply AGo.drawQ; rfl; rfl; decide +kernel) | (apply AGo.exit; rfl) | (apply AGo.condDT; rfl; first | omega | rfl) | (apply AGo.condDF; rfl; omega) | (apply AGo.condT; rfl) | (apply AGo.condF; rfl) | (apply AGo.alloc; (iterate 5 rfl); simp only [nm, Nat.reduceAdd, spliceA, AV.cells, D.cells]) | (apply AGo.box; (iterate 6 rfl); simp only [nm, Nat.reduceAdd, spliceA, AV.cells, D.cells]) | (apply AGo.store; (iterate 9 rfl); exact Nat.le_of_ble_eq_true rfl; simp only [nm, Nat.reduceAdd, spliceA, AV.cells, D.cells]) | ((first | apply AGo.build | apply AGo.qbuild); (iterate 5 rfl); simp only [nm, Nat.reduceAdd, spliceA, AV.cells, D.cells, mkAgg, unDs, AV.unD]) | ((first | apply AGo.unguard | apply AGo.qunguard | apply AGo.sunguard); rfl; rfl) | ((first | apply AGo.gT | apply AGo.qgT | apply AGo.sgT); rfl; rfl; rfl; first | omega | rfl) | ((first | apply AGo.gF | apply AGo.qgF | apply AGo.sgF); rfl; rfl; rfl; omega) | (apply AGo.cBT; rfl; first | (simp only [bT]; omega)) | (apply AGo.cBF; rfl; first | (simp only [bF]; omega) | exact ndF rfl) | ((first | apply AGo.gBT | apply AGo.qgBT | apply AGo.sgBT); rfl; rfl; rfl; first | (simp only [bT]; omega)) | ((first | apply AGo.gBF | apply AGo.qgBF | apply AGo.sgBF); rfl; rfl; rfl; first | (simp only [bF]; omega) | exact ndF rfl) | ((first | apply AGo.skipOp | apply AGo.qskipOp | apply AGo.sskipOp); rfl; rfl; rfl) | (apply AGo.buildSlice; (iterate 11 rfl)) | apply AGo.loopU | apply AGo.lpU | intro _ | (apply AGo.condD' ; rfl) | ((first | apply AGo.gD | apply AGo.qgD | apply AGo.sgD); rfl; rfl; rfl) | ((first | apply AGo.gS | apply AGo.qgS | apply AGo.sgS); rfl; rfl; rfl) | (apply AGo.condB; rfl) | (apply AGo.retN; rfl; rfl; rfl; rfl) | (apply AGo.retL; rfl; rfl; rfl; rfl) | (apply AGo.retL2; rfl; rfl; rfl; rfl) | (apply AGo.outL; rfl; rfl))
    all_goals first | exact ⟨rfl, rfl⟩ | trace_state
theorem rfrom_c (b : Bool) : ACalls (cxg gl) 77 [B b] [] (fun r H => r = I (frm b : Nat) ∧ H = []) := by
  cases b
  all_goals
    refine ACalls.enter Tryd.func77 rfl Tryd.ntmps77 (by kernel_rfl) rfl ?_; simp only [argEnv, Nat.reduceAdd, List.length_nil, List.length_cons]
    repeat' (first | apply AGo.seq | apply AGo.block | apply AGo.blk | apply AGo.skip | apply AGo.nil | apply AGo.qnil | apply AGo.snil | (apply AGo.region; rfl) | ((first | apply AGo.q true | apply AGo.qq true | apply AGo.sq true); rfl; rfl; rfl; rfl; first | exact True.intro | omega | (simp only [Int.toNat_natCast, Int.reduceToNat, IntKind.bits]; omega)) | (apply AGo.drawT; rfl; rfl; rfl; decide +kernel) | (apply AGo.drawQ; rfl; rfl; decide +kernel) | (apply AGo.exit; rfl) | (apply AGo.condDT; rfl; first | omega | rfl) | (apply AGo.condDF; rfl; omega) | (apply AGo.condT; rfl) | (apply AGo.condF; rfl) | (apply AGo.alloc; (iterate 5 rfl); simp only [nm, Nat.reduceAdd, spliceA, AV.cells, D.cells]) | (apply AGo.box; (iterate 6 rfl); simp only [nm, Nat.reduceAdd, spliceA, AV.cells, D.cells]) | (apply AGo.store; (iterate 9 rfl); exact Nat.le_of_ble_eq_true rfl; simp only [nm, Nat.reduceAdd, spliceA, AV.cells, D.cells]) | ((first | apply AGo.build | apply AGo.qbuild); (iterate 5 rfl); simp only [nm, Nat.reduceAdd, spliceA, AV.cells, D.cells, mkAgg, unDs, AV.unD]) | ((first | apply AGo.unguard | apply AGo.qunguard | apply AGo.sunguard); rfl; rfl) | ((first | apply AGo.gT | apply AGo.qgT | apply AGo.sgT); rfl; rfl; rfl; first | omega | rfl) | ((first | apply AGo.gF | apply AGo.qgF | apply AGo.sgF); rfl; rfl; rfl; omega) | (apply AGo.cBT; rfl; first | (simp only [bT]; omega)) | (apply AGo.cBF; rfl; first | (simp only [bF]; omega) | exact ndF rfl) | ((first | apply AGo.gBT | apply AGo.qgBT | apply AGo.sgBT); rfl; rfl; rfl; first | (simp only [bT]; omega)) | ((first | apply AGo.gBF | apply AGo.qgBF | apply AGo.sgBF); rfl; rfl; rfl; first | (simp only [bF]; omega) | exact ndF rfl) | ((first | apply AGo.skipOp | apply AGo.qskipOp | apply AGo.sskipOp); rfl; rfl; rfl) | (apply AGo.buildSlice; (iterate 11 rfl)) | apply AGo.loopU | apply AGo.lpU | intro _ | (apply AGo.condD' ; rfl) | ((first | apply AGo.gD | apply AGo.qgD | apply AGo.sgD); rfl; rfl; rfl) | ((first | apply AGo.gS | apply AGo.qgS | apply AGo.sgS); rfl; rfl; rfl) | (apply AGo.condB; rfl) | (apply AGo.retN; rfl; rfl; rfl; rfl) | (apply AGo.retL; rfl; rfl; rfl; rfl) | (apply AGo.retL2; rfl; rfl; rfl; rfl) | (apply AGo.outL; rfl; rfl))
    all_goals first | exact ⟨rfl, rfl⟩ | trace_state
theorem frm_le (b : Bool) : frm b ≤ 1 := by cases b <;> decide
attribute [local irreducible] evsD levS evR lev evRow digs
set_option maxHeartbeats 8000000 in
theorem bmay_c (b : Bool) (dc : Int) (l : List Ev) (hl : l.length ≤ 1000000) (hok : ∀ e ∈ l, EvOk e) : ACalls (cxg gl) 80 [B b, I dc, .d (.sl 3 (evsD l))] [] (fun r H => r = B (blMay b dc l) ∧ H = []) := by
  have fc := from_c (gl := gl) b
  have lc := levels_c (gl := gl) l (frm b) (frm_le b) hl hok
  unfold blMay
  by_cases hd : dcOk b dc = true
  · rw [hd, Bool.and_true]
    cases hv : lev l (frm b) with
    | none =>
      rw [levT_none hv] at lc
      cases b
      all_goals
        unfold dcOk at hd
        simp only [Bool.false_eq_true, if_false, if_true, decide_eq_true_eq] at hd
        refine ACalls.enter Tryd.func80 rfl Tryd.ntmps80 (by kernel_rfl) rfl ?_; simp only [argEnv, Nat.reduceAdd, List.length_nil, List.length_cons]
        repeat' (first | apply AGo.seq | apply AGo.block | apply AGo.blk | apply AGo.skip | apply AGo.nil | apply AGo.qnil | apply AGo.snil | (apply AGo.region; rfl) | ((first | apply AGo.q true | apply AGo.qq true | apply AGo.sq true); rfl; rfl; rfl; rfl; first | exact True.intro | omega | (simp only [Int.toNat_natCast, Int.reduceToNat, IntKind.bits]; omega)) | (apply AGo.callP (fc); (iterate 6 rfl)) | (apply AGo.qcallP (fc); (iterate 7 rfl)) | (apply AGo.callP (lc); (iterate 6 rfl)) | (apply AGo.qcallP (lc); (iterate 7 rfl)) | (apply AGo.drawT; rfl; rfl; rfl; decide +kernel) | (apply AGo.drawQ; rfl; rfl; decide +kernel) | (apply AGo.exit; rfl) | (apply AGo.condDT; rfl; first | omega | rfl) | (apply AGo.condDF; rfl; omega) | (apply AGo.condT; rfl) | (apply AGo.condF; rfl) | (apply AGo.alloc; (iterate 5 rfl); simp only [nm, Nat.reduceAdd, spliceA, AV.cells, D.cells]) | (apply AGo.box; (iterate 6 rfl); simp only [nm, Nat.reduceAdd, spliceA, AV.cells, D.cells]) | (apply AGo.store; (iterate 9 rfl); exact Nat.le_of_ble_eq_true rfl; simp only [nm, Nat.reduceAdd, spliceA, AV.cells, D.cells]) | ((first | apply AGo.build | apply AGo.qbuild); (iterate 5 rfl); simp only [nm, Nat.reduceAdd, spliceA, AV.cells, D.cells, mkAgg, unDs, AV.unD]) | ((first | apply AGo.unguard | apply AGo.qunguard | apply AGo.sunguard); rfl; rfl) | ((first | apply AGo.gT | apply AGo.qgT | apply AGo.sgT); rfl; rfl; rfl; first | omega | rfl) | ((first | apply AGo.gF | apply AGo.qgF | apply AGo.sgF); rfl; rfl; rfl; omega) | (apply AGo.cBT; rfl; first | (simp only [bT]; omega)) | (apply AGo.cBF; rfl; first | (simp only [bF]; omega) | exact ndF rfl) | ((first | apply AGo.gBT | apply AGo.qgBT | apply AGo.sgBT); rfl; rfl; rfl; first | (simp only [bT]; omega)) | ((first | apply AGo.gBF | apply AGo.qgBF | apply AGo.sgBF); rfl; rfl; rfl; first | (simp only [bF]; omega) | exact ndF rfl) | ((first | apply AGo.skipOp | apply AGo.qskipOp | apply AGo.sskipOp); rfl; rfl; rfl) | (apply AGo.buildSlice; (iterate 11 rfl)) | apply AGo.loopU | apply AGo.lpU | intro _ | (apply AGo.condD' ; rfl) | ((first | apply AGo.gD | apply AGo.qgD | apply AGo.sgD); rfl; rfl; rfl) | ((first | apply AGo.gS | apply AGo.qgS | apply AGo.sgS); rfl; rfl; rfl) | (apply AGo.condB; rfl) | (apply AGo.retN; rfl; rfl; rfl; rfl) | (apply AGo.retL; rfl; rfl; rfl; rfl) | (apply AGo.retL2; rfl; rfl; rfl; rfl) | (apply AGo.outL; rfl; rfl))
        all_goals first | exact ⟨rfl, rfl⟩ | (exfalso; omega) | (exfalso; simp_all; done) | (exfalso; simp at *; omega) | trace_state
    | some out =>
      obtain ⟨f, rfl⟩ := of64 out (lev_facts hv).1
      rw [levT_some hv] at lc
      cases b
      all_goals
        unfold dcOk at hd
        simp only [Bool.false_eq_true, if_false, if_true, decide_eq_true_eq] at hd
        refine ACalls.enter Tryd.func80 rfl Tryd.ntmps80 (by kernel_rfl) rfl ?_; simp only [argEnv, Nat.reduceAdd, List.length_nil, List.length_cons]
        repeat' (first | apply AGo.seq | apply AGo.block | apply AGo.blk | apply AGo.skip | apply AGo.nil | apply AGo.qnil | apply AGo.snil | (apply AGo.region; rfl) | ((first | apply AGo.q true | apply AGo.qq true | apply AGo.sq true); rfl; rfl; rfl; rfl; first | exact True.intro | omega | (simp only [Int.toNat_natCast, Int.reduceToNat, IntKind.bits]; omega)) | (apply AGo.callP (fc); (iterate 6 rfl)) | (apply AGo.qcallP (fc); (iterate 7 rfl)) | (apply AGo.callP (lc); (iterate 6 rfl)) | (apply AGo.qcallP (lc); (iterate 7 rfl)) | (apply AGo.drawT; rfl; rfl; rfl; decide +kernel) | (apply AGo.drawQ; rfl; rfl; decide +kernel) | (apply AGo.exit; rfl) | (apply AGo.condDT; rfl; first | omega | rfl) | (apply AGo.condDF; rfl; omega) | (apply AGo.condT; rfl) | (apply AGo.condF; rfl) | (apply AGo.alloc; (iterate 5 rfl); simp only [nm, Nat.reduceAdd, spliceA, AV.cells, D.cells]) | (apply AGo.box; (iterate 6 rfl); simp only [nm, Nat.reduceAdd, spliceA, AV.cells, D.cells]) | (apply AGo.store; (iterate 9 rfl); exact Nat.le_of_ble_eq_true rfl; simp only [nm, Nat.reduceAdd, spliceA, AV.cells, D.cells]) | ((first | apply AGo.build | apply AGo.qbuild); (iterate 5 rfl); simp only [nm, Nat.reduceAdd, spliceA, AV.cells, D.cells, mkAgg, unDs, AV.unD]) | ((first | apply AGo.unguard | apply AGo.qunguard | apply AGo.sunguard); rfl; rfl) | ((first | apply AGo.gT | apply AGo.qgT | apply AGo.sgT); rfl; rfl; rfl; first | omega | rfl) | ((first | apply AGo.gF | apply AGo.qgF | apply AGo.sgF); rfl; rfl; rfl; omega) | (apply AGo.cBT; rfl; first | (simp only [bT]; omega)) | (apply AGo.cBF; rfl; first | (simp only [bF]; omega) | exact ndF rfl) | ((first | apply AGo.gBT | apply AGo.qgBT | apply AGo.sgBT); rfl; rfl; rfl; first | (simp only [bT]; omega)) | ((first | apply AGo.gBF | apply AGo.qgBF | apply AGo.sgBF); rfl; rfl; rfl; first | (simp only [bF]; omega) | exact ndF rfl) | ((first | apply AGo.skipOp | apply AGo.qskipOp | apply AGo.sskipOp); rfl; rfl; rfl) | (apply AGo.buildSlice; (iterate 11 rfl)) | apply AGo.loopU | apply AGo.lpU | intro _ | (apply AGo.condD' ; rfl) | ((first | apply AGo.gD | apply AGo.qgD | apply AGo.sgD); rfl; rfl; rfl) | ((first | apply AGo.gS | apply AGo.qgS | apply AGo.sgS); rfl; rfl; rfl) | (apply AGo.condB; rfl) | (apply AGo.retN; rfl; rfl; rfl; rfl) | (apply AGo.retL; rfl; rfl; rfl; rfl) | (apply AGo.retL2; rfl; rfl; rfl; rfl) | (apply AGo.outL; rfl; rfl))
        all_goals first | exact ⟨rfl, rfl⟩ | (exfalso; omega) | (exfalso; simp_all; done) | (exfalso; simp at *; omega) | trace_state
  · have hd' : dcOk b dc = false := by simpa using hd
    rw [hd', Bool.and_false]
    cases hv : lev l (frm b) with
    | none =>
      rw [levT_none hv] at lc
      cases b
      all_goals
        unfold dcOk at hd'
        simp only [Bool.false_eq_true, if_false, if_true, decide_eq_false_iff_not] at hd'
        refine ACalls.enter Tryd.func80 rfl Tryd.ntmps80 (by kernel_rfl) rfl ?_; simp only [argEnv, Nat.reduceAdd, List.length_nil, List.length_cons]
        repeat' (first | apply AGo.seq | apply AGo.block | apply AGo.blk | apply AGo.skip | apply AGo.nil | apply AGo.qnil | apply AGo.snil | (apply AGo.region; rfl) | ((first | apply AGo.q true | apply AGo.qq true | apply AGo.sq true); rfl; rfl; rfl; rfl; first | exact True.intro | omega | (simp only [Int.toNat_natCast, Int.reduceToNat, IntKind.bits]; omega)) | (apply AGo.callP (fc); (iterate 6 rfl)) | (apply AGo.qcallP (fc); (iterate 7 rfl)) | (apply AGo.callP (lc); (iterate 6 rfl)) | (apply AGo.qcallP (lc); (iterate 7 rfl)) | (apply AGo.drawT; rfl; rfl; rfl; decide +kernel) | (apply AGo.drawQ; rfl; rfl; decide +kernel) | (apply AGo.exit; rfl) | (apply AGo.condDT; rfl; first | omega | rfl) | (apply AGo.condDF; rfl; omega) | (apply AGo.condT; rfl) | (apply AGo.condF; rfl) | (apply AGo.alloc; (iterate 5 rfl); simp only [nm, Nat.reduceAdd, spliceA, AV.cells, D.cells]) | (apply AGo.box; (iterate 6 rfl); simp only [nm, Nat.reduceAdd, spliceA, AV.cells, D.cells]) | (apply AGo.store; (iterate 9 rfl); exact Nat.le_of_ble_eq_true rfl; simp only [nm, Nat.reduceAdd, spliceA, AV.cells, D.cells]) | ((first | apply AGo.build | apply AGo.qbuild); (iterate 5 rfl); simp only [nm, Nat.reduceAdd, spliceA, AV.cells, D.cells, mkAgg, unDs, AV.unD]) | ((first | apply AGo.unguard | apply AGo.qunguard | apply AGo.sunguard); rfl; rfl) | ((first | apply AGo.gT | apply AGo.qgT | apply AGo.sgT); rfl; rfl; rfl; first | omega | rfl) | ((first | apply AGo.gF | apply AGo.qgF | apply AGo.sgF); rfl; rfl; rfl; omega) | (apply AGo.cBT; rfl; first | (simp only [bT]; omega)) | (apply AGo.cBF; rfl; first | (simp only [bF]; omega) | exact ndF rfl) | ((first | apply AGo.gBT | apply AGo.qgBT | apply AGo.sgBT); rfl; rfl; rfl; first | (simp only [bT]; omega)) | ((first | apply AGo.gBF | apply AGo.qgBF | apply AGo.sgBF); rfl; rfl; rfl; first | (simp only [bF]; omega) | exact ndF rfl) | ((first | apply AGo.skipOp | apply AGo.qskipOp | apply AGo.sskipOp); rfl; rfl; rfl) | (apply AGo.buildSlice; (iterate 11 rfl)) | apply AGo.loopU | apply AGo.lpU | intro _ | (apply AGo.condD' ; rfl) | ((first | apply AGo.gD | apply AGo.qgD | apply AGo.sgD); rfl; rfl; rfl) | ((first | apply AGo.gS | apply AGo.qgS | apply AGo.sgS); rfl; rfl; rfl) | (apply AGo.condB; rfl) | (apply AGo.retN; rfl; rfl; rfl; rfl) | (apply AGo.retL; rfl; rfl; rfl; rfl) | (apply AGo.retL2; rfl; rfl; rfl; rfl) | (apply AGo.outL; rfl; rfl))
        all_goals first | exact ⟨rfl, rfl⟩ | (exfalso; omega) | (exfalso; simp_all; done) | (exfalso; simp at *; omega) | trace_state
    | some out =>
      obtain ⟨f, rfl⟩ := of64 out (lev_facts hv).1
      rw [levT_some hv] at lc
      cases b
      all_goals
        unfold dcOk at hd'
        simp only [Bool.false_eq_true, if_false, if_true, decide_eq_false_iff_not] at hd'
        refine ACalls.enter Tryd.func80 rfl Tryd.ntmps80 (by kernel_rfl) rfl ?_; simp only [argEnv, Nat.reduceAdd, List.length_nil, List.length_cons]
        repeat' (first | apply AGo.seq | apply AGo.block | apply AGo.blk | apply AGo.skip | apply AGo.nil | apply AGo.qnil | apply AGo.snil | (apply AGo.region; rfl) | ((first | apply AGo.q true | apply AGo.qq true | apply AGo.sq true); rfl; rfl; rfl; rfl; first | exact True.intro | omega | (simp only [Int.toNat_natCast, Int.reduceToNat, IntKind.bits]; omega)) | (apply AGo.callP (fc); (iterate 6 rfl)) | (apply AGo.qcallP (fc); (iterate 7 rfl)) | (apply AGo.callP (lc); (iterate 6 rfl)) | (apply AGo.qcallP (lc); (iterate 7 rfl)) | (apply AGo.drawT; rfl; rfl; rfl; decide +kernel) | (apply AGo.drawQ; rfl; rfl; decide +kernel) | (apply AGo.exit; rfl) | (apply AGo.condDT; rfl; first | omega | rfl) | (apply AGo.condDF; rfl; omega) | (apply AGo.condT; rfl) | (apply AGo.condF; rfl) | (apply AGo.alloc; (iterate 5 rfl); simp only [nm, Nat.reduceAdd, spliceA, AV.cells, D.cells]) | (apply AGo.box; (iterate 6 rfl); simp only [nm, Nat.reduceAdd, spliceA, AV.cells, D.cells]) | (apply AGo.store; (iterate 9 rfl); exact Nat.le_of_ble_eq_true rfl; simp only [nm, Nat.reduceAdd, spliceA, AV.cells, D.cells]) | ((first | apply AGo.build | apply AGo.qbuild); (iterate 5 rfl); simp only [nm, Nat.reduceAdd, spliceA, AV.cells, D.cells, mkAgg, unDs, AV.unD]) | ((first | apply AGo.unguard | apply AGo.qunguard | apply AGo.sunguard); rfl; rfl) | ((first | apply AGo.gT | apply AGo.qgT | apply AGo.sgT); rfl; rfl; rfl; first | omega | rfl) | ((first | apply AGo.gF | apply AGo.qgF | apply AGo.sgF); rfl; rfl; rfl; omega) | (apply AGo.cBT; rfl; first | (simp only [bT]; omega)) | (apply AGo.cBF; rfl; first | (simp only [bF]; omega) | exact ndF rfl) | ((first | apply AGo.gBT | apply AGo.qgBT | apply AGo.sgBT); rfl; rfl; rfl; first | (simp only [bT]; omega)) | ((first | apply AGo.gBF | apply AGo.qgBF | apply AGo.sgBF); rfl; rfl; rfl; first | (simp only [bF]; omega) | exact ndF rfl) | ((first | apply AGo.skipOp | apply AGo.qskipOp | apply AGo.sskipOp); rfl; rfl; rfl) | (apply AGo.buildSlice; (iterate 11 rfl)) | apply AGo.loopU | apply AGo.lpU | intro _ | (apply AGo.condD' ; rfl) | ((first | apply AGo.gD | apply AGo.qgD | apply AGo.sgD); rfl; rfl; rfl) | ((first | apply AGo.gS | apply AGo.qgS | apply AGo.sgS); rfl; rfl; rfl) | (apply AGo.condB; rfl) | (apply AGo.retN; rfl; rfl; rfl; rfl) | (apply AGo.retL; rfl; rfl; rfl; rfl) | (apply AGo.retL2; rfl; rfl; rfl; rfl) | (apply AGo.outL; rfl; rfl))
        all_goals first | exact ⟨rfl, rfl⟩ | (exfalso; omega) | (exfalso; simp_all; done) | (exfalso; simp at *; omega) | trace_state
end Go.Proofs.YtammpekpmjboiaaDoor.Av.Bl
