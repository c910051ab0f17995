/- Cells: what may be one, in parts. -/
import Derived.Test.YtbfojhfiemcnpaaDoorCo1
import Derived.Test.YtbfojhfiemcnpaaDoorPl
import Derived.Test.YtbfojhfiemcnpaaDoorPn
set_option linter.unusedSimpArgs false
set_option linter.unusedVariables false
set_option maxRecDepth 100000
namespace Go.Proofs.YtbfojhfiemcnpaaDoor.Av.Co
open Go Bt Tc Wr Bl
attribute [local irreducible] AGo ACalls
variable {gl : List (Nat × List D)}
structure Cel where
  stuff : Int
  skip : Bool
  kind : Int
  step : Int
  mx : Int
  my : Int
  d0 : Int
  d1 : Int
  d2 : Int
  d3 : Int
  d4 : Int
  d5 : Int
  e0 : List Ev
  e1 : List Ev
  e2 : List Ev
  e3 : List Ev
  e4 : List Ev
  e5 : List Ev
abbrev evS (l : List Ev) : D := .sl 3 (evsD l)
abbrev In (n : Int) : D := .int .i64 n
abbrev celD (c : Cel) : D := .agg [In c.stuff, .bool c.skip, In c.kind, In c.step, In c.mx, In c.my, In c.d0, In c.d1, In c.d2, In c.d3, In c.d4, In c.d5, evS c.e0, evS c.e1, evS c.e2, evS c.e3, evS c.e4, evS c.e5]
def intraS (k : Int) : Bool := decide (k = 3 ∨ k = 4)
def steppedS (k : Int) : Bool := decide (k = 1 ∨ k = 4)
theorem intra_c (k : Int) : ACalls (cxg gl) 29 [I k] [] (fun r H => r = B (intraS k) ∧ H = []) := by
  by_cases h : k = 3 ∨ k = 4
  · rw [show intraS k = true from decide_eq_true h]
    rcases h with rfl | rfl
    all_goals
      refine ACalls.enter Tryd.func29 rfl Tryd.ntmps29 (by kernel_rfl) rfl ?_; simp only [argEnv, Nat.reduceAdd, List.length_nil, List.length_cons]
      repeat' (first | apply AGo.seq | apply AGo.nil | (apply AGo.region; rfl) | (apply AGo.q true; rfl; rfl; rfl; rfl; first | exact True.intro | omega | (simp only [Int.toNat_natCast, Int.reduceToNat, IntKind.bits]; omega)) | (apply AGo.unguard; rfl; rfl) | (apply AGo.gT; rfl; rfl; rfl; first | omega | rfl) | (apply AGo.gF; rfl; rfl; rfl; omega) | (apply AGo.skipOp; rfl; rfl; rfl) | intro _ | (apply AGo.retN; rfl; rfl; rfl; rfl))
      all_goals first | exact ⟨rfl, rfl⟩ | trace_state
  · rw [show intraS k = false from decide_eq_false h]
    refine ACalls.enter Tryd.func29 rfl Tryd.ntmps29 (by kernel_rfl) rfl ?_; simp only [argEnv, Nat.reduceAdd, List.length_nil, List.length_cons]
    repeat' (first | apply AGo.seq | apply AGo.nil | (apply AGo.region; rfl) | (apply AGo.q true; rfl; rfl; rfl; rfl; first | exact True.intro | omega | (simp only [Int.toNat_natCast, Int.reduceToNat, IntKind.bits]; omega)) | (apply AGo.unguard; rfl; rfl) | (apply AGo.gT; rfl; rfl; rfl; first | omega | rfl) | (apply AGo.gF; rfl; rfl; rfl; omega) | (apply AGo.skipOp; rfl; rfl; rfl) | intro _ | (apply AGo.retN; rfl; rfl; rfl; rfl))
    all_goals first | exact ⟨rfl, rfl⟩ | exact ⟨congrArg B (by simp only [bF]; omega), rfl⟩ | trace_state
theorem stepped_c (k : Int) : ACalls (cxg gl) 31 [I k] [] (fun r H => r = B (steppedS k) ∧ H = []) := by
  by_cases h : k = 1 ∨ k = 4
  · rw [show steppedS k = true from decide_eq_true h]
    rcases h with rfl | rfl
    all_goals
      refine ACalls.enter Tryd.func31 rfl Tryd.ntmps31 (by kernel_rfl) rfl ?_; simp only [argEnv, Nat.reduceAdd, List.length_nil, List.length_cons]
      repeat' (first | apply AGo.seq | apply AGo.nil | (apply AGo.region; rfl) | (apply AGo.q true; rfl; rfl; rfl; rfl; first | exact True.intro | omega | (simp only [Int.toNat_natCast, Int.reduceToNat, IntKind.bits]; omega)) | (apply AGo.unguard; rfl; rfl) | (apply AGo.gT; rfl; rfl; rfl; first | omega | rfl) | (apply AGo.gF; rfl; rfl; rfl; omega) | (apply AGo.skipOp; rfl; rfl; rfl) | intro _ | (apply AGo.retN; rfl; rfl; rfl; rfl))
      all_goals first | exact ⟨rfl, rfl⟩ | trace_state
  · rw [show steppedS k = false from decide_eq_false h]
    refine ACalls.enter Tryd.func31 rfl Tryd.ntmps31 (by kernel_rfl) rfl ?_; simp only [argEnv, Nat.reduceAdd, List.length_nil, List.length_cons]
    repeat' (first | apply AGo.seq | apply AGo.nil | (apply AGo.region; rfl) | (apply AGo.q true; rfl; rfl; rfl; rfl; first | exact True.intro | omega | (simp only [Int.toNat_natCast, Int.reduceToNat, IntKind.bits]; omega)) | (apply AGo.unguard; rfl; rfl) | (apply AGo.gT; rfl; rfl; rfl; first | omega | rfl) | (apply AGo.gF; rfl; rfl; rfl; omega) | (apply AGo.skipOp; rfl; rfl; rfl) | intro _ | (apply AGo.retN; rfl; rfl; rfl; rfl))
    all_goals first | exact ⟨rfl, rfl⟩ | exact ⟨congrArg B (by simp only [bF]; omega), rfl⟩ | trace_state
def noEv (l : List Ev) : Bool := decide (((evsD l).length : Int) = 0)
def bareS (c : Cel) : Bool := (decide (c.kind = 0) && decide (c.step = 0) && decide ([c.mx, c.my] = [0, 0]) && decide ([c.d0, c.d1, c.d2, c.d3, c.d4, c.d5] = [0, 0, 0, 0, 0, 0])) && noEv c.e0 && noEv c.e1 && noEv c.e2 && noEv c.e3 && noEv c.e4 && noEv c.e5
attribute [local irreducible] evsD
set_option maxHeartbeats 8000000 in
theorem bare_c (c : Cel) : ACalls (cxg gl) 36 [.d (celD c)] [] (fun r H => r = B (bareS c) ∧ H = []) := by
  obtain ⟨st, sk, ki, sp, mx, my, d0, d1, d2, d3, d4, d5, e0, e1, e2, e3, e4, e5⟩ := c
  unfold bareS noEv
  refine ACalls.enter Tryd.func36 rfl Tryd.ntmps36 (by kernel_rfl) rfl ?_; simp only [argEnv, Nat.reduceAdd, List.length_nil, List.length_cons]
  repeat' (first | apply AGo.seq | apply AGo.block | apply AGo.blk | apply AGo.skip | apply AGo.nil | (apply AGo.region; rfl) | (apply AGo.q true; rfl; rfl; rfl; rfl; first | exact True.intro | omega | (simp only [Int.toNat_natCast, Int.reduceToNat, IntKind.bits]; omega) | (exact ⟨by omega, Nat.le_of_ble_eq_true rfl⟩)) | (apply AGo.exit; rfl) | (apply AGo.condDT; rfl; first | omega | rfl) | (apply AGo.condDF; rfl; omega) | (apply AGo.box; (iterate 6 rfl); simp only [nm, Nat.reduceAdd, spliceA, AV.cells, D.cells]) | (apply AGo.build; (iterate 5 rfl); simp only [nm, Nat.reduceAdd, spliceA, AV.cells, D.cells, mkAgg, unDs, AV.unD]) | (apply AGo.unguard; rfl; rfl) | (apply AGo.skipOp; rfl; rfl; rfl) | (apply AGo.opx; (apply quiet_eqInts; (iterate 12 rfl)); rfl; rfl; rfl) | apply AGo.loopU | apply AGo.lpU | intro _ | (apply AGo.gD; rfl; rfl; rfl) | (apply AGo.retN; rfl; rfl; rfl; rfl))
  all_goals first | exact ⟨congrArg B (by simp_all), rfl⟩ | trace_state
def vectorS (c : Cel) : Bool := if intraS c.kind = true then decide ([c.mx, c.my] = [0, 0]) else decide (wrapS c.mx = c.mx) && decide (wrapS c.my = c.my)
def I64 (n : Int) : Prop := -9223372036854775808 ≤ n ∧ n ≤ 9223372036854775807
set_option maxHeartbeats 8000000 in
theorem vector_c (c : Cel) (hx : I64 c.mx) (hy : I64 c.my) : ACalls (cxg gl) 37 [.d (celD c)] [] (fun r H => r = B (vectorS c) ∧ H = []) := by
  obtain ⟨st, sk, ki, sp, mx, my, d0, d1, d2, d3, d4, d5, e0, e1, e2, e3, e4, e5⟩ := c
  have ic := intra_c (gl := gl) ki
  have w1 := wrap_c (gl := gl) mx hx
  have w2 := wrap_c (gl := gl) my hy
  unfold vectorS
  simp only
  cases hI : intraS ki with
  | true =>
    rw [hI] at ic
    refine ACalls.enter Tryd.func37 rfl Tryd.ntmps37 (by kernel_rfl) rfl ?_; simp only [argEnv, Nat.reduceAdd, List.length_nil, List.length_cons]
    repeat' (first | apply AGo.seq | apply AGo.skip | apply AGo.nil | apply AGo.qnil | (apply AGo.region; rfl) | ((first | apply AGo.q true | apply AGo.qq true); rfl; rfl; rfl; rfl; first | exact True.intro | omega | (simp only [Int.toNat_natCast, Int.reduceToNat, IntKind.bits]; omega)) | (apply AGo.callP (ic); (iterate 6 rfl)) | (apply AGo.qcallP (ic); (iterate 7 rfl)) | (apply AGo.drawQ; rfl; rfl; decide +kernel) | (apply AGo.condT; rfl) | (apply AGo.condF; rfl) | (apply AGo.box; (iterate 6 rfl); simp only [nm, Nat.reduceAdd, spliceA, AV.cells, D.cells]) | (apply AGo.build; (iterate 5 rfl); simp only [nm, Nat.reduceAdd, spliceA, AV.cells, D.cells, mkAgg, unDs, AV.unD]) | (apply AGo.qunguard; rfl; rfl) | (apply AGo.qskipOp; rfl; rfl; rfl) | (apply AGo.opx; (apply quiet_eqInts; (iterate 12 rfl)); rfl; rfl; rfl) | intro _ | (apply AGo.qgD; rfl; rfl; rfl) | (apply AGo.retN; rfl; rfl; rfl; rfl))
    all_goals first | exact ⟨rfl, rfl⟩ | trace_state
  | false =>
    rw [hI] at ic
    refine ACalls.enter Tryd.func37 rfl Tryd.ntmps37 (by kernel_rfl) rfl ?_; simp only [argEnv, Nat.reduceAdd, List.length_nil, List.length_cons]
    repeat' (first | apply AGo.seq | apply AGo.skip | apply AGo.nil | apply AGo.qnil | (apply AGo.region; rfl) | ((first | apply AGo.q true | apply AGo.qq true); rfl; rfl; rfl; rfl; first | exact True.intro | omega | (simp only [Int.toNat_natCast, Int.reduceToNat, IntKind.bits]; omega)) | (apply AGo.callP (ic); (iterate 6 rfl)) | (apply AGo.qcallP (ic); (iterate 7 rfl)) | (apply AGo.callP (w1); (iterate 6 rfl)) | (apply AGo.qcallP (w1); (iterate 7 rfl)) | (apply AGo.callP (w2); (iterate 6 rfl)) | (apply AGo.qcallP (w2); (iterate 7 rfl)) | (apply AGo.drawQ; rfl; rfl; decide +kernel) | (apply AGo.condT; rfl) | (apply AGo.condF; rfl) | (apply AGo.box; (iterate 6 rfl); simp only [nm, Nat.reduceAdd, spliceA, AV.cells, D.cells]) | (apply AGo.build; (iterate 5 rfl); simp only [nm, Nat.reduceAdd, spliceA, AV.cells, D.cells, mkAgg, unDs, AV.unD]) | (apply AGo.qunguard; rfl; rfl) | (apply AGo.qskipOp; rfl; rfl; rfl) | intro _ | (apply AGo.qgD; rfl; rfl; rfl) | (apply AGo.retN; rfl; rfl; rfl; rfl))
    all_goals first | exact ⟨congrArg B (by simp_all), rfl⟩ | trace_state
def bitS' (l : List Ev) : Int := if 0 < ((evsD l).length : Int) then 1 else 0
def codedS (c : Cel) : Int := 32 * bitS' c.e0 + 16 * bitS' c.e1 + 8 * bitS' c.e2 + 4 * bitS' c.e3 + 2 * bitS' c.e4 + bitS' c.e5
theorem bitS'_bd (l : List Ev) : 0 ≤ bitS' l ∧ bitS' l ≤ 1 := by unfold bitS'; split <;> omega
theorem bit_pos {l : List Ev} (h : 0 < ((evsD l).length : Int)) : bitS' l = 1 := by unfold bitS'; rw [if_pos h]
theorem bit_neg {l : List Ev} (h : ¬ 0 < ((evsD l).length : Int)) : bitS' l = 0 := by unfold bitS'; rw [if_neg h]
end Go.Proofs.YtbfojhfiemcnpaaDoor.Av.Co
