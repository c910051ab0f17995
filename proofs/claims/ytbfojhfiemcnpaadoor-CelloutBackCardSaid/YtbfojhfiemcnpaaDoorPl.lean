/- Blocks: what may be one, and its row: both programs. Blocks: Put, and the reference's May and Row. Blocks: the reference's May and Row. -/
import Derived.Test.YtbfojhfiemcnpaaDoorPt2
import Derived.Test.YtbfojhfiemcnpaaDoorPt1
import Derived.Test.YtbfojhfiemcnpaaDoorPw
/- Blocks: what may be one, and its row: both programs. -/
set_option linter.unusedSimpArgs false
set_option linter.unusedVariables false
set_option maxRecDepth 100000
namespace Go.Proofs.YtbfojhfiemcnpaaDoor.Av.Bl
open Go Bt Tc Wr
attribute [local irreducible] AGo ACalls
variable {gl : List (Nat × List D)}
def frm (b : Bool) : Nat := if b = true then 1 else 0
def dcOk (b : Bool) (dc : Int) : Bool := if b = true then decide (1 ≤ dc ∧ dc ≤ 254) else decide (dc = 0)
def blMay (b : Bool) (dc : Int) (l : List Ev) : Bool := (lev l (frm b)).isSome && dcOk b dc
def dcRow (b : Bool) (dc : Int) : List UInt8 := if b = true then digs (if dc = 128 then 255 else dc) 8 8 else []
def blRow (b : Bool) (dc : Int) (l : List Ev) : List UInt8 := dcRow b dc ++ l.flatMap evRow
theorem levS_facts : ∀ (l : List Ev) (a : Nat) (out r : List Int), levS l a out = some r → r.length = out.length ∧ (∀ e ∈ l, evR e = true) ∧ (l = [] ∨ a + l.length ≤ 64)
  | [], a, out, r, h => by rw [levS_nil] at h; cases h; simp
  | e :: l, a, out, r, h => by
    rw [levS_cons] at h
    split at h
    · rename_i hc
      obtain ⟨h1, h2, h3⟩ := levS_facts l _ _ r h
      refine ⟨by rw [h1, List.length_set], fun x hx => ?_, .inr ?_⟩
      · rcases List.mem_cons.1 hx with rfl | hx
        · exact hc.1
        · exact h2 x hx
      · rcases h3 with rfl | h3
        · simp only [List.length_cons, List.length_nil]; omega
        · simp only [List.length_cons]; omega
    · cases h
theorem lev_facts {l : List Ev} {a : Nat} {out : List Int} (h : lev l a = some out) : out.length = 64 ∧ (∀ e ∈ l, evR e = true) ∧ l.length ≤ 64 := by
  obtain ⟨h1, h2, h3⟩ := levS_facts l a z64 out h
  refine ⟨h1, h2, ?_⟩
  rcases h3 with rfl | h3
  · simp
  · omega
theorem hasS_dig : ∀ la : Bool, ∀ ru : _root_.Fin 64, ∀ w ∈ wdsS la ru.val, w.all isDig = true := by decide +kernel
theorem evRow_ok (e : Ev) (h : evR e = true) : (evRow e).all isDig = true ∧ (evRow e).length ≤ 30 := by
  have hb := evR_bd h
  have hl := hasS_len e.last e.run (absS e.level) hb.1
  have hd : (hasS e.last e.run (absS e.level)).all isDig = true := by
    unfold hasS
    split
    · rfl
    · rw [List.getD_eq_getElem?_getD]
      cases hx : (wdsS e.last e.run)[(absS e.level - 1).toNat]? with
      | none => rfl
      | some w =>
        have := hasS_dig e.last ⟨e.run.toNat, by omega⟩ w
        simp only at this
        rw [show ((e.run.toNat : Nat) : Int) = e.run by omega] at this
        exact this (List.mem_of_getElem? hx)
  have hs : (sgnS e.level).all isDig = true := by unfold sgnS; split <;> rfl
  have hsl := sgnS_len e.level
  have ht : (lstD e.last).all isDig = true := by unfold lstD; split <;> rfl
  have htl := lstD_len e.last
  unfold evRow
  rw [if_pos h]
  split
  · exact ⟨by rw [List.all_append, hd, hs]; rfl, by rw [List.length_append]; omega⟩
  · refine ⟨?_, ?_⟩
    · simp only [List.all_append, digs_dig, ht, Bool.and_true]; rfl
    · simp only [List.length_append, digs_len, List.length_cons, List.length_nil]; omega
theorem rows_ok (l : List Ev) (h : ∀ e ∈ l, evR e = true) : (l.flatMap evRow).all isDig = true ∧ (l.flatMap evRow).length ≤ 30 * l.length := by
  induction l with
  | nil => simp
  | cons e l ih =>
    obtain ⟨h1, h2⟩ := evRow_ok e (h e (by simp))
    obtain ⟨i1, i2⟩ := ih fun x hx => h x (by simp [hx])
    rw [List.flatMap_cons, List.all_append, h1, i1, List.length_append, List.length_cons]
    exact ⟨rfl, by omega⟩
theorem dcRow_ok (b : Bool) (dc : Int) : (dcRow b dc).all isDig = true ∧ (dcRow b dc).length ≤ 8 := by
  unfold dcRow
  split
  · exact ⟨digs_dig _ _ _, by rw [digs_len]; exact Nat.le_refl _⟩
  · exact ⟨rfl, by simp⟩
theorem blRow_ok (b : Bool) (dc : Int) (l : List Ev) (h : blMay b dc l = true) : (blRow b dc l).all isDig = true ∧ (blRow b dc l).length ≤ 2000 := by
  unfold blMay at h
  rw [Bool.and_eq_true, Option.isSome_iff_exists] at h
  obtain ⟨⟨out, ho⟩, _⟩ := h
  obtain ⟨_, h2, h3⟩ := lev_facts ho
  obtain ⟨r1, r2⟩ := rows_ok l h2
  obtain ⟨d1, d2⟩ := dcRow_ok b dc
  unfold blRow
  rw [List.all_append, d1, r1, List.length_append]
  exact ⟨rfl, by omega⟩
theorem from_c (b : Bool) : ACalls (cxg gl) 64 [B b] [] (fun r H => r = I (frm b : Nat) ∧ H = []) := by
  cases b
  all_goals
    refine ACalls.enter Tryd.func64 rfl Tryd.ntmps64 (by kernel_rfl) rfl ?_; simp only [argEnv, Nat.reduceAdd, List.length_nil, List.length_cons]
    repeat' (first | apply AGo.seq | apply AGo.skip | apply AGo.nil | (apply AGo.region; rfl) | (apply AGo.q true; rfl; rfl; rfl; rfl; first | exact True.intro | omega | (simp only [Int.toNat_natCast, Int.reduceToNat, IntKind.bits]; omega)) | (apply AGo.condT; rfl) | (apply AGo.condF; rfl) | intro _ | (apply AGo.retN; rfl; rfl; rfl; rfl))
    all_goals first | exact ⟨rfl, rfl⟩ | trace_state
theorem frm_le (b : Bool) : frm b ≤ 1 := by cases b <;> decide
attribute [local irreducible] evsD levS evR lev evRow digs
set_option maxHeartbeats 8000000 in
theorem bmay_c (b : Bool) (dc : Int) (l : List Ev) (hl : l.length ≤ 1000000) (hok : ∀ e ∈ l, EvOk e) : ACalls (cxg gl) 53 [B b, I dc, .d (.sl 3 (evsD l))] [] (fun r H => r = B (blMay b dc l) ∧ H = []) := by
  have fc := from_c (gl := gl) b
  have lc := levels_c (gl := gl) l (frm b) (frm_le b) hl hok
  unfold blMay
  by_cases hd : dcOk b dc = true
  · rw [hd, Bool.and_true]
    cases hv : lev l (frm b) with
    | none =>
      rw [levT_none hv] at lc
      cases b
      all_goals
        unfold dcOk at hd
        simp only [Bool.false_eq_true, if_false, if_true, decide_eq_true_eq] at hd
        refine ACalls.enter Tryd.func53 rfl Tryd.ntmps53 (by kernel_rfl) rfl ?_; simp only [argEnv, Nat.reduceAdd, List.length_nil, List.length_cons]
        repeat' (first | apply AGo.seq | apply AGo.skip | apply AGo.nil | (apply AGo.region; rfl) | (apply AGo.q true; rfl; rfl; rfl; rfl; first | exact True.intro | omega | (simp only [Int.toNat_natCast, Int.reduceToNat, IntKind.bits]; omega)) | (apply AGo.callP (fc); (iterate 6 rfl)) | (apply AGo.callP (lc); (iterate 6 rfl)) | (apply AGo.condDF; rfl; omega) | (apply AGo.condT; rfl) | (apply AGo.alloc; (iterate 5 rfl); simp only [nm, Nat.reduceAdd, spliceA, AV.cells, D.cells]) | (apply AGo.store; (iterate 9 rfl); exact Nat.le_of_ble_eq_true rfl; simp only [nm, Nat.reduceAdd, spliceA, AV.cells, D.cells]) | (apply AGo.unguard; rfl; rfl) | (apply AGo.gF; rfl; rfl; rfl; omega) | (apply AGo.skipOp; rfl; rfl; rfl) | intro _ | (apply AGo.condD' ; rfl) | (apply AGo.gD; rfl; rfl; rfl) | (apply AGo.gS; rfl; rfl; rfl) | (apply AGo.retN; rfl; rfl; rfl; rfl))
        all_goals first | exact ⟨rfl, rfl⟩ | (exfalso; omega) | (exfalso; simp_all; done) | (exfalso; simp at *; omega) | trace_state
    | some out =>
      obtain ⟨f, rfl⟩ := of64 out (lev_facts hv).1
      rw [levT_some hv] at lc
      cases b
      all_goals
        unfold dcOk at hd
        simp only [Bool.false_eq_true, if_false, if_true, decide_eq_true_eq] at hd
        refine ACalls.enter Tryd.func53 rfl Tryd.ntmps53 (by kernel_rfl) rfl ?_; simp only [argEnv, Nat.reduceAdd, List.length_nil, List.length_cons]
        repeat' (first | apply AGo.seq | apply AGo.skip | apply AGo.nil | (apply AGo.region; rfl) | (apply AGo.q true; rfl; rfl; rfl; rfl; first | exact True.intro | omega | (simp only [Int.toNat_natCast, Int.reduceToNat, IntKind.bits]; omega)) | (apply AGo.callP (fc); (iterate 6 rfl)) | (apply AGo.callP (lc); (iterate 6 rfl)) | (apply AGo.condDF; rfl; omega) | (apply AGo.condT; rfl) | (apply AGo.alloc; (iterate 5 rfl); simp only [nm, Nat.reduceAdd, spliceA, AV.cells, D.cells]) | (apply AGo.store; (iterate 9 rfl); exact Nat.le_of_ble_eq_true rfl; simp only [nm, Nat.reduceAdd, spliceA, AV.cells, D.cells]) | (apply AGo.unguard; rfl; rfl) | (apply AGo.gF; rfl; rfl; rfl; omega) | (apply AGo.skipOp; rfl; rfl; rfl) | intro _ | (apply AGo.condD' ; rfl) | (apply AGo.gD; rfl; rfl; rfl) | (apply AGo.gS; rfl; rfl; rfl) | (apply AGo.retN; rfl; rfl; rfl; rfl))
        all_goals first | exact ⟨rfl, rfl⟩ | (exfalso; omega) | (exfalso; simp_all; done) | (exfalso; simp at *; omega) | trace_state
  · have hd' : dcOk b dc = false := by simpa using hd
    rw [hd', Bool.and_false]
    cases hv : lev l (frm b) with
    | none =>
      rw [levT_none hv] at lc
      cases b
      all_goals
        unfold dcOk at hd'
        simp only [Bool.false_eq_true, if_false, if_true, decide_eq_false_iff_not] at hd'
        refine ACalls.enter Tryd.func53 rfl Tryd.ntmps53 (by kernel_rfl) rfl ?_; simp only [argEnv, Nat.reduceAdd, List.length_nil, List.length_cons]
        repeat' (first | apply AGo.seq | apply AGo.skip | apply AGo.nil | (apply AGo.region; rfl) | (apply AGo.q true; rfl; rfl; rfl; rfl; first | exact True.intro | omega | (simp only [Int.toNat_natCast, Int.reduceToNat, IntKind.bits]; omega)) | (apply AGo.callP (fc); (iterate 6 rfl)) | (apply AGo.callP (lc); (iterate 6 rfl)) | (apply AGo.condDF; rfl; omega) | (apply AGo.condT; rfl) | (apply AGo.alloc; (iterate 5 rfl); simp only [nm, Nat.reduceAdd, spliceA, AV.cells, D.cells]) | (apply AGo.store; (iterate 9 rfl); exact Nat.le_of_ble_eq_true rfl; simp only [nm, Nat.reduceAdd, spliceA, AV.cells, D.cells]) | (apply AGo.unguard; rfl; rfl) | (apply AGo.gF; rfl; rfl; rfl; omega) | (apply AGo.skipOp; rfl; rfl; rfl) | intro _ | (apply AGo.condD' ; rfl) | (apply AGo.gD; rfl; rfl; rfl) | (apply AGo.gS; rfl; rfl; rfl) | (apply AGo.retN; rfl; rfl; rfl; rfl))
        all_goals first | exact ⟨rfl, rfl⟩ | (exfalso; omega) | (exfalso; simp_all; done) | (exfalso; simp at *; omega) | trace_state
    | some out =>
      obtain ⟨f, rfl⟩ := of64 out (lev_facts hv).1
      rw [levT_some hv] at lc
      cases b
      all_goals
        unfold dcOk at hd'
        simp only [Bool.false_eq_true, if_false, if_true, decide_eq_false_iff_not] at hd'
        refine ACalls.enter Tryd.func53 rfl Tryd.ntmps53 (by kernel_rfl) rfl ?_; simp only [argEnv, Nat.reduceAdd, List.length_nil, List.length_cons]
        repeat' (first | apply AGo.seq | apply AGo.skip | apply AGo.nil | (apply AGo.region; rfl) | (apply AGo.q true; rfl; rfl; rfl; rfl; first | exact True.intro | omega | (simp only [Int.toNat_natCast, Int.reduceToNat, IntKind.bits]; omega)) | (apply AGo.callP (fc); (iterate 6 rfl)) | (apply AGo.callP (lc); (iterate 6 rfl)) | (apply AGo.condDF; rfl; omega) | (apply AGo.condT; rfl) | (apply AGo.alloc; (iterate 5 rfl); simp only [nm, Nat.reduceAdd, spliceA, AV.cells, D.cells]) | (apply AGo.store; (iterate 9 rfl); exact Nat.le_of_ble_eq_true rfl; simp only [nm, Nat.reduceAdd, spliceA, AV.cells, D.cells]) | (apply AGo.unguard; rfl; rfl) | (apply AGo.gF; rfl; rfl; rfl; omega) | (apply AGo.skipOp; rfl; rfl; rfl) | intro _ | (apply AGo.condD' ; rfl) | (apply AGo.gD; rfl; rfl; rfl) | (apply AGo.gS; rfl; rfl; rfl) | (apply AGo.retN; rfl; rfl; rfl; rfl))
        all_goals first | exact ⟨rfl, rfl⟩ | (exfalso; omega) | (exfalso; simp_all; done) | (exfalso; simp at *; omega) | trace_state
end Go.Proofs.YtbfojhfiemcnpaaDoor.Av.Bl

/- Blocks: Put, and the reference's May and Row. -/
set_option linter.unusedSimpArgs false
set_option linter.unusedVariables false
set_option maxRecDepth 100000
namespace Go.Proofs.YtbfojhfiemcnpaaDoor.Av.Bl
open Go Bt Tc Wr
attribute [local irreducible] AGo ACalls
variable {gl : List (Nat × List D)}
theorem blMay_inv {b : Bool} {dc : Int} {l : List Ev} (h : blMay b dc l = true) : (∀ e ∈ l, evR e = true) ∧ l.length ≤ 64 ∧ dcOk b dc = true := by
  unfold blMay at h
  rw [Bool.and_eq_true, Option.isSome_iff_exists] at h
  obtain ⟨⟨out, ho⟩, hd⟩ := h
  obtain ⟨_, h2, h3⟩ := lev_facts ho
  exact ⟨h2, h3, hd⟩
theorem flat_take (l : List Ev) (i : Nat) (e : Ev) (h : l[i]? = some e) : (l.take (i + 1)).flatMap evRow = (l.take i).flatMap evRow ++ evRow e := by
  rw [List.take_add_one, h, List.flatMap_append]; simp
theorem all_take (l : List Ev) (i : Nat) (h : ∀ e ∈ l, evR e = true) : ∀ e ∈ l.take i, evR e = true := fun e he => h e (List.mem_of_mem_take he)
attribute [local irreducible] evsD levS evR lev evRow digs blMay octets packN
set_option maxHeartbeats 8000000 in
theorem bputbad_c (w : List UInt8) (b : Bool) (dc : Int) (l : List Ev) (hl : l.length ≤ 1000000) (hok : ∀ e ∈ l, EvOk e) (h : blMay b dc l = false) :
    ACalls (cxg gtc) 35 [.ptr 0 0, B b, I dc, .d (.sl 3 (evsD l))] (WO w) (fun r H => r = I 7 ∧ H = WO w) := by
  have mc := bmay_c (gl := gtc) b dc l hl hok
  rw [h] at mc
  refine ACalls.enter Tryd.func35 rfl Tryd.ntmps35 (by kernel_rfl) rfl ?_; simp only [argEnv, Nat.reduceAdd, List.length_nil, List.length_cons]
  repeat' (first | apply AGo.seq | apply AGo.block | apply AGo.nil | (apply AGo.region; rfl) | (apply AGo.q true; rfl; rfl; rfl; rfl; first | exact True.intro | omega | (simp only [Int.toNat_natCast, Int.reduceToNat, IntKind.bits]; omega)) | (apply AGo.callP (mc); (iterate 6 rfl)) | (apply AGo.condT; rfl) | (apply AGo.condF; rfl) | intro _ | (apply AGo.retN; rfl; rfl; rfl; rfl))
  all_goals first | exact ⟨rfl, rfl⟩ | trace_state
/-- the loop over the events -/
theorem bputloop (w : List UInt8) (l : List Ev) (hw : w.all isDig = true) (hwl : w.length ≤ 30000000) (hl : l.length ≤ 64) (he : ∀ e ∈ l, evR e = true) (i : Nat) :
    (w ++ (l.take i).flatMap evRow).all isDig = true ∧ (w ++ (l.take i).flatMap evRow).length ≤ 30002000 := by
  obtain ⟨r1, r2⟩ := rows_ok (l.take i) (all_take l i he)
  have : (l.take i).length ≤ 64 := by rw [List.length_take]; omega
  rw [List.all_append, hw, r1, List.length_append]
  exact ⟨rfl, by omega⟩
set_option maxHeartbeats 8000000 in
theorem bput_c (w : List UInt8) (b : Bool) (dc : Int) (l : List Ev) (hok : ∀ e ∈ l, EvOk e) (h : blMay b dc l = true) (hw : w.all isDig = true) (hwl : w.length ≤ 20000000) :
    ACalls (cxg gtc) 35 [.ptr 0 0, B b, I dc, .d (.sl 3 (evsD l))] (WO w) (fun r H => r = I 0 ∧ H = WO (w ++ blRow b dc l)) := by
  obtain ⟨he, hl, hd⟩ := blMay_inv h
  have mc := bmay_c (gl := gtc) b dc l (by omega) hok
  rw [h] at mc
  have hln := evsD_len l
  obtain ⟨d1, d2⟩ := dcRow_ok b dc
  have hv : b = true → 0 ≤ (if dc = 128 then 255 else dc) ∧ (if dc = 128 then 255 else dc) < 2 ^ 8 := fun hb => by
    subst hb
    unfold dcOk at hd
    simp only [if_true, decide_eq_true_eq] at hd
    split <;> omega
  have wp := fun hb => wput_c (gl := gtc) w (if dc = 128 then 255 else dc) 8 hw (by omega) (by decide) (hv hb)
  have bl := fun i => bputloop (w ++ dcRow b dc) l (by rw [List.all_append, hw, d1]; rfl) (by rw [List.length_append]; omega) hl he i
  unfold blRow
  rw [← List.append_assoc]
  have e0 : w ++ dcRow b dc = w ++ dcRow b dc ++ (l.take 0).flatMap evRow := by simp
  cases b
  · have hd0 : dc = 0 := by unfold dcOk at hd; simpa using hd
    subst hd0
    · refine ACalls.enter Tryd.func35 rfl Tryd.ntmps35 (by kernel_rfl) rfl ?_; simp only [argEnv, Nat.reduceAdd, List.length_nil, List.length_cons]
      repeat (first | apply AGo.seq | apply AGo.block | apply AGo.blk | apply AGo.skip | apply AGo.nil | (apply AGo.region; rfl) | (apply AGo.q true; rfl; rfl; rfl; rfl; first | exact True.intro | omega | (simp only [Int.toNat_natCast, Int.reduceToNat, IntKind.bits]; omega)) | (apply AGo.callP (mc); (iterate 6 rfl)) | (apply AGo.condDT; rfl; first | omega | rfl) | (apply AGo.condDF; rfl; omega) | (apply AGo.condT; rfl) | (apply AGo.condF; rfl) | (apply AGo.alloc; (iterate 5 rfl); simp only [nm, Nat.reduceAdd, spliceA, AV.cells, D.cells]) | (apply AGo.store; (iterate 9 rfl); exact Nat.le_of_ble_eq_true rfl; simp only [nm, Nat.reduceAdd, spliceA, AV.cells, D.cells]))
      refine AGo.weak (env' := [(30, I ((0 : Nat) : Int)), (29, I ((evsD l).length : Int)), (28, .d (.sl 3 (evsD l))), (0, .ptr 0 0)]) ⟨rfl, rfl, rfl, rfl, trivial⟩ ?_
      refine AGo.loop (fun m env H => ∃ i : Nat, m = l.length - i ∧ i ≤ l.length ∧ env = [(30, I (i : Int)), (29, I ((evsD l).length : Int)), (28, .d (.sl 3 (evsD l))), (0, .ptr 0 0)] ∧ H = WO (w ++ dcRow false 0 ++ (l.take i).flatMap evRow)) l.length
        ⟨0, rfl, by omega, rfl, by rw [← e0]; unfold dcRow; rw [if_neg (by decide), List.append_nil]⟩ ?_
      rintro m env H ⟨i, rfl, hi, rfl, rfl⟩
      obtain ⟨b1, b2⟩ := bl i
      rcases Nat.lt_or_ge i l.length with hlt | hge
      · obtain ⟨e, hee⟩ : ∃ e, l[i]? = some e := ⟨_, List.getElem?_eq_getElem hlt⟩
        have g1 := fun (ti : TI) (ha : ti.agg = true) (hs : ti.size = 3) => ev_load ti ha hs l i e hee
        have hR := he e (List.mem_of_getElem? hee)
        obtain ⟨r1, r2⟩ := evRow_ok e hR
        have rc := evrow_c e
        rw [hR] at rc
        have ad := wadd_c (gl := gtc) (w ++ dcRow false 0 ++ (l.take i).flatMap evRow) (evRow e) b1 r1 (by omega)
        rw [List.append_assoc (w ++ dcRow false 0), ← flat_take l i e hee] at ad
        repeat' (first | apply AGo.seq | apply AGo.block | apply AGo.blk | apply AGo.skip | apply AGo.nil | (apply AGo.region; rfl) | (apply AGo.q true; rfl; rfl; rfl; rfl; first | exact True.intro | omega | (simp only [Int.toNat_natCast, Int.reduceToNat, IntKind.bits]; omega) | (rw [hln]; omega)) | (apply AGo.callH [0,1] ( ad); (iterate 6 rfl); decide; rfl; rfl; simp only [names, putH, AV.ren, AV.renL, AObj.ren, nh, Nat.reduceAdd, Nat.reduceSub]) | (apply AGo.callP (rc); (iterate 6 rfl)) | (apply AGo.condDT; rfl; first | omega | rfl) | (apply AGo.condDF; rfl; omega) | (apply AGo.condT; rfl) | (apply AGo.condF; rfl) | (apply AGo.alloc; (iterate 5 rfl); simp only [nm, Nat.reduceAdd, spliceA, AV.cells, D.cells]) | (apply AGo.store; (iterate 9 rfl); exact Nat.le_of_ble_eq_true rfl; simp only [nm, Nat.reduceAdd, spliceA, AV.cells, D.cells]) | (apply AGo.loadDD; (iterate 6 rfl); exact (g1 _ rfl rfl)) | intro _ | (apply AGo.retN; rfl; rfl; rfl; rfl) | (apply AGo.outL; rfl; rfl))
        all_goals first
          | (refine AGo.drop 2 (env' := [(30, I ((i + 1 : Nat) : Int)), (29, I ((evsD l).length : Int)), (28, .d (.sl 3 (evsD l))), (0, .ptr 0 0)]) (Nat.le_refl _) (by simp) (fun o ho => objsBnd_mem (m := 2) rfl o ho) ⟨rfl, rfl, rfl, rfl, trivial⟩ (envBnd_get 2 _ rfl) ?_
             exact AGo.round [(30, I ((i + 1 : Nat) : Int)), (29, I ((evsD l).length : Int)), (28, .d (.sl 3 (evsD l))), (0, .ptr 0 0)] (l.length - (i + 1)) (by omega) ⟨rfl, rfl, rfl, rfl, trivial⟩ ⟨i + 1, rfl, hlt, rfl, rfl⟩)
          | trace_state
      · obtain rfl : i = l.length := by omega
        rw [List.take_length]
        repeat' (first | apply AGo.seq | apply AGo.block | apply AGo.blk | apply AGo.skip | apply AGo.nil | (apply AGo.region; rfl) | (apply AGo.q true; rfl; rfl; rfl; rfl; first | exact True.intro | omega | (simp only [Int.toNat_natCast, Int.reduceToNat, IntKind.bits]; omega)) | (apply AGo.condDT; rfl; first | omega | rfl) | (apply AGo.condDF; rfl; omega) | (apply AGo.condT; rfl) | (apply AGo.condF; rfl) | (apply AGo.alloc; (iterate 5 rfl); simp only [nm, Nat.reduceAdd, spliceA, AV.cells, D.cells]) | (apply AGo.store; (iterate 9 rfl); exact Nat.le_of_ble_eq_true rfl; simp only [nm, Nat.reduceAdd, spliceA, AV.cells, D.cells]) | intro _ | (apply AGo.retN; rfl; rfl; rfl; rfl) | (apply AGo.outL; rfl; rfl))
        all_goals first | exact ⟨rfl, rfl⟩ | (exfalso; omega) | trace_state
  · have wp' := wp rfl
    by_cases h128 : dc = 128
    · subst h128
      simp only [if_true] at wp'
      refine ACalls.enter Tryd.func35 rfl Tryd.ntmps35 (by kernel_rfl) rfl ?_; simp only [argEnv, Nat.reduceAdd, List.length_nil, List.length_cons]
      repeat (first | apply AGo.seq | apply AGo.block | apply AGo.blk | apply AGo.skip | apply AGo.nil | (apply AGo.region; rfl) | (apply AGo.q true; rfl; rfl; rfl; rfl; first | exact True.intro | omega | (simp only [Int.toNat_natCast, Int.reduceToNat, IntKind.bits]; omega)) | (apply AGo.callH [0,1] ( wp'); (iterate 6 rfl); decide; rfl; rfl; simp only [names, putH, AV.ren, AV.renL, AObj.ren, nh, Nat.reduceAdd, Nat.reduceSub]) | (apply AGo.callP (mc); (iterate 6 rfl)) | (apply AGo.condDT; rfl; first | omega | rfl) | (apply AGo.condDF; rfl; omega) | (apply AGo.condT; rfl) | (apply AGo.condF; rfl) | (apply AGo.alloc; (iterate 5 rfl); simp only [nm, Nat.reduceAdd, spliceA, AV.cells, D.cells]) | (apply AGo.store; (iterate 9 rfl); exact Nat.le_of_ble_eq_true rfl; simp only [nm, Nat.reduceAdd, spliceA, AV.cells, D.cells]))
      refine AGo.weak (env' := [(30, I ((0 : Nat) : Int)), (29, I ((evsD l).length : Int)), (28, .d (.sl 3 (evsD l))), (0, .ptr 0 0)]) ⟨rfl, rfl, rfl, rfl, trivial⟩ ?_
      refine AGo.loop (fun m env H => ∃ i : Nat, m = l.length - i ∧ i ≤ l.length ∧ env = [(30, I (i : Int)), (29, I ((evsD l).length : Int)), (28, .d (.sl 3 (evsD l))), (0, .ptr 0 0)] ∧ H = WO (w ++ dcRow true 128 ++ (l.take i).flatMap evRow)) l.length
        ⟨0, rfl, by omega, rfl, by rw [← e0]; unfold dcRow; rw [if_pos rfl, if_pos rfl]⟩ ?_
      rintro m env H ⟨i, rfl, hi, rfl, rfl⟩
      obtain ⟨b1, b2⟩ := bl i
      rcases Nat.lt_or_ge i l.length with hlt | hge
      · obtain ⟨e, hee⟩ : ∃ e, l[i]? = some e := ⟨_, List.getElem?_eq_getElem hlt⟩
        have g1 := fun (ti : TI) (ha : ti.agg = true) (hs : ti.size = 3) => ev_load ti ha hs l i e hee
        have hR := he e (List.mem_of_getElem? hee)
        obtain ⟨r1, r2⟩ := evRow_ok e hR
        have rc := evrow_c e
        rw [hR] at rc
        have ad := wadd_c (gl := gtc) (w ++ dcRow true 128 ++ (l.take i).flatMap evRow) (evRow e) b1 r1 (by omega)
        rw [List.append_assoc (w ++ dcRow true 128), ← flat_take l i e hee] at ad
        repeat' (first | apply AGo.seq | apply AGo.block | apply AGo.blk | apply AGo.skip | apply AGo.nil | (apply AGo.region; rfl) | (apply AGo.q true; rfl; rfl; rfl; rfl; first | exact True.intro | omega | (simp only [Int.toNat_natCast, Int.reduceToNat, IntKind.bits]; omega) | (rw [hln]; omega)) | (apply AGo.callH [0,1] ( ad); (iterate 6 rfl); decide; rfl; rfl; simp only [names, putH, AV.ren, AV.renL, AObj.ren, nh, Nat.reduceAdd, Nat.reduceSub]) | (apply AGo.callP (rc); (iterate 6 rfl)) | (apply AGo.condDT; rfl; first | omega | rfl) | (apply AGo.condDF; rfl; omega) | (apply AGo.condT; rfl) | (apply AGo.condF; rfl) | (apply AGo.alloc; (iterate 5 rfl); simp only [nm, Nat.reduceAdd, spliceA, AV.cells, D.cells]) | (apply AGo.store; (iterate 9 rfl); exact Nat.le_of_ble_eq_true rfl; simp only [nm, Nat.reduceAdd, spliceA, AV.cells, D.cells]) | (apply AGo.loadDD; (iterate 6 rfl); exact (g1 _ rfl rfl)) | intro _ | (apply AGo.retN; rfl; rfl; rfl; rfl) | (apply AGo.outL; rfl; rfl))
        all_goals first
          | (refine AGo.drop 2 (env' := [(30, I ((i + 1 : Nat) : Int)), (29, I ((evsD l).length : Int)), (28, .d (.sl 3 (evsD l))), (0, .ptr 0 0)]) (Nat.le_refl _) (by simp) (fun o ho => objsBnd_mem (m := 2) rfl o ho) ⟨rfl, rfl, rfl, rfl, trivial⟩ (envBnd_get 2 _ rfl) ?_
             exact AGo.round [(30, I ((i + 1 : Nat) : Int)), (29, I ((evsD l).length : Int)), (28, .d (.sl 3 (evsD l))), (0, .ptr 0 0)] (l.length - (i + 1)) (by omega) ⟨rfl, rfl, rfl, rfl, trivial⟩ ⟨i + 1, rfl, hlt, rfl, rfl⟩)
          | trace_state
      · obtain rfl : i = l.length := by omega
        rw [List.take_length]
        repeat' (first | apply AGo.seq | apply AGo.block | apply AGo.blk | apply AGo.skip | apply AGo.nil | (apply AGo.region; rfl) | (apply AGo.q true; rfl; rfl; rfl; rfl; first | exact True.intro | omega | (simp only [Int.toNat_natCast, Int.reduceToNat, IntKind.bits]; omega)) | (apply AGo.condDT; rfl; first | omega | rfl) | (apply AGo.condDF; rfl; omega) | (apply AGo.condT; rfl) | (apply AGo.condF; rfl) | (apply AGo.alloc; (iterate 5 rfl); simp only [nm, Nat.reduceAdd, spliceA, AV.cells, D.cells]) | (apply AGo.store; (iterate 9 rfl); exact Nat.le_of_ble_eq_true rfl; simp only [nm, Nat.reduceAdd, spliceA, AV.cells, D.cells]) | intro _ | (apply AGo.retN; rfl; rfl; rfl; rfl) | (apply AGo.outL; rfl; rfl))
        all_goals first | exact ⟨rfl, rfl⟩ | (exfalso; omega) | trace_state
    · rw [if_neg h128] at wp'
      refine ACalls.enter Tryd.func35 rfl Tryd.ntmps35 (by kernel_rfl) rfl ?_; simp only [argEnv, Nat.reduceAdd, List.length_nil, List.length_cons]
      repeat (first | apply AGo.seq | apply AGo.block | apply AGo.blk | apply AGo.skip | apply AGo.nil | (apply AGo.region; rfl) | (apply AGo.q true; rfl; rfl; rfl; rfl; first | exact True.intro | omega | (simp only [Int.toNat_natCast, Int.reduceToNat, IntKind.bits]; omega)) | (apply AGo.callH [0,1] ( wp'); (iterate 6 rfl); decide; rfl; rfl; simp only [names, putH, AV.ren, AV.renL, AObj.ren, nh, Nat.reduceAdd, Nat.reduceSub]) | (apply AGo.callP (mc); (iterate 6 rfl)) | (apply AGo.condDT; rfl; first | omega | rfl) | (apply AGo.condDF; rfl; omega) | (apply AGo.condT; rfl) | (apply AGo.condF; rfl) | (apply AGo.alloc; (iterate 5 rfl); simp only [nm, Nat.reduceAdd, spliceA, AV.cells, D.cells]) | (apply AGo.store; (iterate 9 rfl); exact Nat.le_of_ble_eq_true rfl; simp only [nm, Nat.reduceAdd, spliceA, AV.cells, D.cells]))
      refine AGo.weak (env' := [(30, I ((0 : Nat) : Int)), (29, I ((evsD l).length : Int)), (28, .d (.sl 3 (evsD l))), (0, .ptr 0 0)]) ⟨rfl, rfl, rfl, rfl, trivial⟩ ?_
      refine AGo.loop (fun m env H => ∃ i : Nat, m = l.length - i ∧ i ≤ l.length ∧ env = [(30, I (i : Int)), (29, I ((evsD l).length : Int)), (28, .d (.sl 3 (evsD l))), (0, .ptr 0 0)] ∧ H = WO (w ++ dcRow true dc ++ (l.take i).flatMap evRow)) l.length
        ⟨0, rfl, by omega, rfl, by rw [← e0]; unfold dcRow; rw [if_pos rfl, if_neg h128]⟩ ?_
      rintro m env H ⟨i, rfl, hi, rfl, rfl⟩
      obtain ⟨b1, b2⟩ := bl i
      rcases Nat.lt_or_ge i l.length with hlt | hge
      · obtain ⟨e, hee⟩ : ∃ e, l[i]? = some e := ⟨_, List.getElem?_eq_getElem hlt⟩
        have g1 := fun (ti : TI) (ha : ti.agg = true) (hs : ti.size = 3) => ev_load ti ha hs l i e hee
        have hR := he e (List.mem_of_getElem? hee)
        obtain ⟨r1, r2⟩ := evRow_ok e hR
        have rc := evrow_c e
        rw [hR] at rc
        have ad := wadd_c (gl := gtc) (w ++ dcRow true dc ++ (l.take i).flatMap evRow) (evRow e) b1 r1 (by omega)
        rw [List.append_assoc (w ++ dcRow true dc), ← flat_take l i e hee] at ad
        repeat' (first | apply AGo.seq | apply AGo.block | apply AGo.blk | apply AGo.skip | apply AGo.nil | (apply AGo.region; rfl) | (apply AGo.q true; rfl; rfl; rfl; rfl; first | exact True.intro | omega | (simp only [Int.toNat_natCast, Int.reduceToNat, IntKind.bits]; omega) | (rw [hln]; omega)) | (apply AGo.callH [0,1] ( ad); (iterate 6 rfl); decide; rfl; rfl; simp only [names, putH, AV.ren, AV.renL, AObj.ren, nh, Nat.reduceAdd, Nat.reduceSub]) | (apply AGo.callP (rc); (iterate 6 rfl)) | (apply AGo.condDT; rfl; first | omega | rfl) | (apply AGo.condDF; rfl; omega) | (apply AGo.condT; rfl) | (apply AGo.condF; rfl) | (apply AGo.alloc; (iterate 5 rfl); simp only [nm, Nat.reduceAdd, spliceA, AV.cells, D.cells]) | (apply AGo.store; (iterate 9 rfl); exact Nat.le_of_ble_eq_true rfl; simp only [nm, Nat.reduceAdd, spliceA, AV.cells, D.cells]) | (apply AGo.loadDD; (iterate 6 rfl); exact (g1 _ rfl rfl)) | intro _ | (apply AGo.retN; rfl; rfl; rfl; rfl) | (apply AGo.outL; rfl; rfl))
        all_goals first
          | (refine AGo.drop 2 (env' := [(30, I ((i + 1 : Nat) : Int)), (29, I ((evsD l).length : Int)), (28, .d (.sl 3 (evsD l))), (0, .ptr 0 0)]) (Nat.le_refl _) (by simp) (fun o ho => objsBnd_mem (m := 2) rfl o ho) ⟨rfl, rfl, rfl, rfl, trivial⟩ (envBnd_get 2 _ rfl) ?_
             exact AGo.round [(30, I ((i + 1 : Nat) : Int)), (29, I ((evsD l).length : Int)), (28, .d (.sl 3 (evsD l))), (0, .ptr 0 0)] (l.length - (i + 1)) (by omega) ⟨rfl, rfl, rfl, rfl, trivial⟩ ⟨i + 1, rfl, hlt, rfl, rfl⟩)
          | trace_state
      · obtain rfl : i = l.length := by omega
        rw [List.take_length]
        repeat' (first | apply AGo.seq | apply AGo.block | apply AGo.blk | apply AGo.skip | apply AGo.nil | (apply AGo.region; rfl) | (apply AGo.q true; rfl; rfl; rfl; rfl; first | exact True.intro | omega | (simp only [Int.toNat_natCast, Int.reduceToNat, IntKind.bits]; omega)) | (apply AGo.condDT; rfl; first | omega | rfl) | (apply AGo.condDF; rfl; omega) | (apply AGo.condT; rfl) | (apply AGo.condF; rfl) | (apply AGo.alloc; (iterate 5 rfl); simp only [nm, Nat.reduceAdd, spliceA, AV.cells, D.cells]) | (apply AGo.store; (iterate 9 rfl); exact Nat.le_of_ble_eq_true rfl; simp only [nm, Nat.reduceAdd, spliceA, AV.cells, D.cells]) | intro _ | (apply AGo.retN; rfl; rfl; rfl; rfl) | (apply AGo.outL; rfl; rfl))
        all_goals first | exact ⟨rfl, rfl⟩ | (exfalso; omega) | trace_state
end Go.Proofs.YtbfojhfiemcnpaaDoor.Av.Bl

/- Blocks: the reference's May and Row. -/
set_option linter.unusedSimpArgs false
set_option linter.unusedVariables false
set_option maxRecDepth 100000
namespace Go.Proofs.YtbfojhfiemcnpaaDoor.Av.Bl
open Go Bt Tc Wr
attribute [local irreducible] AGo ACalls
variable {gl : List (Nat × List D)}
attribute [local irreducible] evsD levS evR lev evRow digs
attribute [local irreducible] blMay
end Go.Proofs.YtbfojhfiemcnpaaDoor.Av.Bl
