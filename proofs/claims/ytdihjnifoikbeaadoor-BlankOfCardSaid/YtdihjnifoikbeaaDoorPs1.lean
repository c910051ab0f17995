/- Formats: how wide, how high, how many cells, rows and lines. Marks, heads of rows; how many cells. Heads of sheets: which may be. Heads of sheets: written. Heads of sheets that may not be: nothing is written. -/
import Derived.Test.YtdihjnifoikbeaaDoorPd
import Derived.Test.YtdihjnifoikbeaaDoorPn
import Derived.Test.YtdihjnifoikbeaaDoorPw
/- Formats: how wide, how high, how many cells, rows and lines. -/
set_option linter.unusedSimpArgs false
set_option linter.unusedVariables false
set_option maxRecDepth 100000
namespace Go.Proofs.YtdihjnifoikbeaaDoor.Av.Sh
open Go Bt
attribute [local irreducible] AGo ACalls
variable {gl : List (Nat × List D)}
/-- wide, high, rows of cells, lines of a row -/
def fW (f : Int) : Int := if f = 1 then 128 else if f = 2 then 176 else if f = 3 then 352 else if f = 4 then 704 else if f = 5 then 1408 else if f = 6 then 32 else 0
def fH (f : Int) : Int := if f = 1 then 96 else if f = 2 then 144 else if f = 3 then 288 else if f = 4 then 576 else if f = 5 then 1152 else if f = 6 then 32 else 0
def fR (f : Int) : Int := if f = 1 then 6 else if f = 2 then 9 else if f = 3 then 18 else if f = 4 then 18 else if f = 5 then 18 else if f = 6 then 2 else 0
def fL (f : Int) : Int := if f = 1 then 1 else if f = 2 then 1 else if f = 3 then 1 else if f = 4 then 2 else if f = 5 then 4 else if f = 6 then 1 else 0
def fOk (f : Int) : Bool := decide (1 ≤ f ∧ f ≤ 6)
abbrev fA (f : Int) : Int := fW f / 16
abbrev fD (f : Int) : Int := fH f / 16
theorem fmts (f : Int) : f = 1 ∨ f = 2 ∨ f = 3 ∨ f = 4 ∨ f = 5 ∨ f = 6 ∨ ¬ (1 ≤ f ∧ f ≤ 6) := by omega
theorem f_no {f : Int} (h : ¬ (1 ≤ f ∧ f ≤ 6)) : fW f = 0 ∧ fH f = 0 ∧ fR f = 0 ∧ fL f = 0 ∧ fOk f = false := by
  refine ⟨?_, ?_, ?_, ?_, decide_eq_false h⟩
  all_goals
    first | unfold fW | unfold fH | unfold fR | unfold fL
    rw [if_neg (by omega), if_neg (by omega), if_neg (by omega), if_neg (by omega), if_neg (by omega), if_neg (by omega)]
set_option maxHeartbeats 4000000 in
theorem size_c (f : Int) : ACalls (cxg gl) 73 [I f] [] (fun r H => r = .tup [I (fW f), I (fH f), B (fOk f)] ∧ H = []) := by
  rcases fmts f with rfl | rfl | rfl | rfl | rfl | rfl | h
  rotate_right
  · obtain ⟨e1, e2, e3, e4, e5⟩ := f_no h
    rw [e1, e2, e5]
    refine ACalls.enter Tryd.func73 rfl Tryd.ntmps73 (by kernel_rfl) rfl ?_; simp only [argEnv, Nat.reduceAdd, List.length_nil, List.length_cons]
    repeat' (first | apply AGo.seq | apply AGo.block | apply AGo.blk | apply AGo.skip | apply AGo.nil | (apply AGo.region; rfl) | (apply AGo.q true; rfl; rfl; rfl; rfl; first | exact True.intro | omega | (simp only [Int.toNat_natCast, Int.reduceToNat, IntKind.bits]; omega)) | (apply AGo.condDT; rfl; first | omega | rfl) | (apply AGo.condDF; rfl; omega) | intro _ | (apply AGo.retN; rfl; rfl; rfl; rfl))
    all_goals first | exact ⟨rfl, rfl⟩ | (exfalso; omega) | trace_state
  all_goals
    refine ACalls.enter Tryd.func73 rfl Tryd.ntmps73 (by kernel_rfl) rfl ?_; simp only [argEnv, Nat.reduceAdd, List.length_nil, List.length_cons]
    repeat' (first | apply AGo.seq | apply AGo.block | apply AGo.blk | apply AGo.skip | apply AGo.nil | (apply AGo.region; rfl) | (apply AGo.q true; rfl; rfl; rfl; rfl; first | exact True.intro | omega | (simp only [Int.toNat_natCast, Int.reduceToNat, IntKind.bits]; omega)) | (apply AGo.condDT; rfl; first | omega | rfl) | (apply AGo.condDF; rfl; omega) | intro _ | (apply AGo.retN; rfl; rfl; rfl; rfl))
    all_goals first | exact ⟨rfl, rfl⟩ | trace_state
set_option maxHeartbeats 4000000 in
theorem cells_c (f : Int) : ACalls (cxg gl) 34 [I f] [] (fun r H => r = .tup [I (fA f), I (fD f)] ∧ H = []) := by
  have hs := size_c (gl := gl) f
  have hw : 0 ≤ fW f ∧ fW f ≤ 1408 := by unfold fW; split <;> (try split) <;> (try split) <;> (try split) <;> (try split) <;> (try split) <;> decide
  have hh : 0 ≤ fH f ∧ fH f ≤ 1408 := by unfold fH; split <;> (try split) <;> (try split) <;> (try split) <;> (try split) <;> (try split) <;> decide
  refine ACalls.enter Tryd.func34 rfl Tryd.ntmps34 (by kernel_rfl) rfl ?_; simp only [argEnv, Nat.reduceAdd, List.length_nil, List.length_cons]
  repeat' (first | apply AGo.seq | apply AGo.nil | (apply AGo.region; rfl) | (apply AGo.q true; rfl; rfl; rfl; rfl; first | exact True.intro | omega | (simp only [Int.toNat_natCast, Int.reduceToNat, IntKind.bits]; omega)) | (apply AGo.callP (hs); (iterate 6 rfl)) | intro _ | (apply AGo.retN; rfl; rfl; rfl; rfl))
  all_goals first | exact ⟨rfl, rfl⟩ | trace_state
set_option maxHeartbeats 4000000 in
theorem rows_c (f : Int) : ACalls (cxg gl) 74 [I f] [] (fun r H => r = .tup [I (fR f), I (fL f)] ∧ H = []) := by
  rcases fmts f with rfl | rfl | rfl | rfl | rfl | rfl | h
  · have hs : ACalls (cxg gl) 34 [I 1] [] (fun r H => r = .tup [I 8, I 6] ∧ H = []) := cells_c 1
    refine ACalls.enter Tryd.func74 rfl Tryd.ntmps74 (by kernel_rfl) rfl ?_; simp only [argEnv, Nat.reduceAdd, List.length_nil, List.length_cons]
    repeat' (first | apply AGo.seq | apply AGo.block | apply AGo.blk | apply AGo.skip | apply AGo.nil | (apply AGo.region; rfl) | (apply AGo.q true; rfl; rfl; rfl; rfl; first | exact True.intro | omega | (simp only [Int.toNat_natCast, Int.reduceToNat, IntKind.bits]; omega)) | (apply AGo.callP (hs); (iterate 6 rfl)) | (apply AGo.condDT; rfl; first | omega | rfl) | (apply AGo.condDF; rfl; omega) | intro _ | (apply AGo.retN; rfl; rfl; rfl; rfl))
    all_goals first | exact ⟨rfl, rfl⟩ | trace_state
  · have hs : ACalls (cxg gl) 34 [I 2] [] (fun r H => r = .tup [I 11, I 9] ∧ H = []) := cells_c 2
    refine ACalls.enter Tryd.func74 rfl Tryd.ntmps74 (by kernel_rfl) rfl ?_; simp only [argEnv, Nat.reduceAdd, List.length_nil, List.length_cons]
    repeat' (first | apply AGo.seq | apply AGo.block | apply AGo.blk | apply AGo.skip | apply AGo.nil | (apply AGo.region; rfl) | (apply AGo.q true; rfl; rfl; rfl; rfl; first | exact True.intro | omega | (simp only [Int.toNat_natCast, Int.reduceToNat, IntKind.bits]; omega)) | (apply AGo.callP (hs); (iterate 6 rfl)) | (apply AGo.condDT; rfl; first | omega | rfl) | (apply AGo.condDF; rfl; omega) | intro _ | (apply AGo.retN; rfl; rfl; rfl; rfl))
    all_goals first | exact ⟨rfl, rfl⟩ | trace_state
  · have hs : ACalls (cxg gl) 34 [I 3] [] (fun r H => r = .tup [I 22, I 18] ∧ H = []) := cells_c 3
    refine ACalls.enter Tryd.func74 rfl Tryd.ntmps74 (by kernel_rfl) rfl ?_; simp only [argEnv, Nat.reduceAdd, List.length_nil, List.length_cons]
    repeat' (first | apply AGo.seq | apply AGo.block | apply AGo.blk | apply AGo.skip | apply AGo.nil | (apply AGo.region; rfl) | (apply AGo.q true; rfl; rfl; rfl; rfl; first | exact True.intro | omega | (simp only [Int.toNat_natCast, Int.reduceToNat, IntKind.bits]; omega)) | (apply AGo.callP (hs); (iterate 6 rfl)) | (apply AGo.condDT; rfl; first | omega | rfl) | (apply AGo.condDF; rfl; omega) | intro _ | (apply AGo.retN; rfl; rfl; rfl; rfl))
    all_goals first | exact ⟨rfl, rfl⟩ | trace_state
  · have hs : ACalls (cxg gl) 34 [I 4] [] (fun r H => r = .tup [I 44, I 36] ∧ H = []) := cells_c 4
    refine ACalls.enter Tryd.func74 rfl Tryd.ntmps74 (by kernel_rfl) rfl ?_; simp only [argEnv, Nat.reduceAdd, List.length_nil, List.length_cons]
    repeat' (first | apply AGo.seq | apply AGo.block | apply AGo.blk | apply AGo.skip | apply AGo.nil | (apply AGo.region; rfl) | (apply AGo.q true; rfl; rfl; rfl; rfl; first | exact True.intro | omega | (simp only [Int.toNat_natCast, Int.reduceToNat, IntKind.bits]; omega)) | (apply AGo.callP (hs); (iterate 6 rfl)) | (apply AGo.condDT; rfl; first | omega | rfl) | (apply AGo.condDF; rfl; omega) | intro _ | (apply AGo.retN; rfl; rfl; rfl; rfl))
    all_goals first | exact ⟨rfl, rfl⟩ | trace_state
  · have hs : ACalls (cxg gl) 34 [I 5] [] (fun r H => r = .tup [I 88, I 72] ∧ H = []) := cells_c 5
    refine ACalls.enter Tryd.func74 rfl Tryd.ntmps74 (by kernel_rfl) rfl ?_; simp only [argEnv, Nat.reduceAdd, List.length_nil, List.length_cons]
    repeat' (first | apply AGo.seq | apply AGo.block | apply AGo.blk | apply AGo.skip | apply AGo.nil | (apply AGo.region; rfl) | (apply AGo.q true; rfl; rfl; rfl; rfl; first | exact True.intro | omega | (simp only [Int.toNat_natCast, Int.reduceToNat, IntKind.bits]; omega)) | (apply AGo.callP (hs); (iterate 6 rfl)) | (apply AGo.condDT; rfl; first | omega | rfl) | (apply AGo.condDF; rfl; omega) | intro _ | (apply AGo.retN; rfl; rfl; rfl; rfl))
    all_goals first | exact ⟨rfl, rfl⟩ | trace_state
  · have hs : ACalls (cxg gl) 34 [I 6] [] (fun r H => r = .tup [I 2, I 2] ∧ H = []) := cells_c 6
    refine ACalls.enter Tryd.func74 rfl Tryd.ntmps74 (by kernel_rfl) rfl ?_; simp only [argEnv, Nat.reduceAdd, List.length_nil, List.length_cons]
    repeat' (first | apply AGo.seq | apply AGo.block | apply AGo.blk | apply AGo.skip | apply AGo.nil | (apply AGo.region; rfl) | (apply AGo.q true; rfl; rfl; rfl; rfl; first | exact True.intro | omega | (simp only [Int.toNat_natCast, Int.reduceToNat, IntKind.bits]; omega)) | (apply AGo.callP (hs); (iterate 6 rfl)) | (apply AGo.condDT; rfl; first | omega | rfl) | (apply AGo.condDF; rfl; omega) | intro _ | (apply AGo.retN; rfl; rfl; rfl; rfl))
    all_goals first | exact ⟨rfl, rfl⟩ | trace_state
  · have hs := cells_c (gl := gl) f
    obtain ⟨e1, e2, e3, e4, e5⟩ := f_no h
    unfold fA fD at hs
    rw [e1, e2] at hs
    rw [e3, e4]
    refine ACalls.enter Tryd.func74 rfl Tryd.ntmps74 (by kernel_rfl) rfl ?_; simp only [argEnv, Nat.reduceAdd, List.length_nil, List.length_cons]
    repeat' (first | apply AGo.seq | apply AGo.block | apply AGo.blk | apply AGo.skip | apply AGo.nil | (apply AGo.region; rfl) | (apply AGo.q true; rfl; rfl; rfl; rfl; first | exact True.intro | omega | (simp only [Int.toNat_natCast, Int.reduceToNat, IntKind.bits]; omega)) | (apply AGo.callP (hs); (iterate 6 rfl)) | (apply AGo.condDT; rfl; first | omega | rfl) | (apply AGo.condDF; rfl; omega) | intro _ | (apply AGo.retN; rfl; rfl; rfl; rfl))
    all_goals first | exact ⟨rfl, rfl⟩ | (exfalso; omega) | trace_state
abbrev sizD (f : Int) : AV := .d (.agg [.int .i64 (fW f), .int .i64 (fH f), .int .i64 (fR f), .int .i64 (fL f)])
set_option maxHeartbeats 4000000 in
theorem rsize_c (f : Int) (hb : -9223372036854775808 ≤ f ∧ f ≤ 9223372036854775807) : ACalls (cxg gl) 40 [I f] [] (fun r H => r = sizD f ∧ H = []) := by
  rcases fmts f with rfl | rfl | rfl | rfl | rfl | rfl | h
  rotate_right
  · obtain ⟨e1, e2, e3, e4, e5⟩ := f_no h
    unfold sizD
    rw [e1, e2, e3, e4]
    by_cases h0 : f = 0
    · subst h0
      refine ACalls.enter Tryd.func40 rfl Tryd.ntmps40 (by kernel_rfl) rfl ?_; simp only [argEnv, Nat.reduceAdd, List.length_nil, List.length_cons]
      repeat' (first | (apply AGo.buildM; (iterate 11 rfl); simp only [List.length_cons, List.length_nil, Nat.reduceAdd, List.nil_append, List.cons_append]) | apply AGo.seq | apply AGo.skip | apply AGo.nil | (apply AGo.region; rfl) | (apply AGo.q true; rfl; rfl; rfl; rfl; first | exact True.intro | omega | (simp only [Int.toNat_natCast, Int.reduceToNat, IntKind.bits]; omega)) | (apply AGo.condDT; rfl; first | omega | rfl) | (apply AGo.condT; rfl) | (apply AGo.condF; rfl) | (apply AGo.alloc; (iterate 5 rfl); simp only [nm, Nat.reduceAdd, spliceA, AV.cells, D.cells]) | (apply AGo.store; (iterate 9 rfl); exact Nat.le_of_ble_eq_true rfl; simp only [nm, Nat.reduceAdd, spliceA, AV.cells, D.cells]) | (apply AGo.build; (iterate 5 rfl); simp only [nm, Nat.reduceAdd, spliceA, AV.cells, D.cells, mkAgg, unDs, AV.unD]) | (apply AGo.unguard; rfl; rfl) | (apply AGo.skipOp; rfl; rfl; rfl) | (apply AGo.opx; (first | (apply quiet_lenM; (iterate 5 rfl); (first | rfl | (simp only [List.length_append, List.length_map, List.length_set, List.length_replicate, List.length_cons, List.length_nil]; omega))) | (apply quiet_idxM; (iterate 8 rfl); (first | rfl | (simp only [List.length_append, List.length_map, List.length_set, List.length_replicate, List.length_cons, List.length_nil]; omega)); (first | decide | exact Nat.le_of_ble_eq_true rfl | (dsimp only; omega) | decide +kernel)) | (apply quiet_loadM; rfl; rfl; rfl; rfl; (first | rfl | (simp only [List.length_append, List.length_map, List.length_set, List.length_replicate, List.length_cons, List.length_nil]; omega)); rfl; rfl)); rfl; rfl; rfl) | intro _ | (apply AGo.gD; rfl; rfl; rfl) | (apply AGo.retN; rfl; rfl; rfl; rfl))
      all_goals first | exact ⟨rfl, rfl⟩ | trace_state
    · refine ACalls.enter Tryd.func40 rfl Tryd.ntmps40 (by kernel_rfl) rfl ?_; simp only [argEnv, Nat.reduceAdd, List.length_nil, List.length_cons]
      repeat' (first | (apply AGo.buildM; (iterate 11 rfl); simp only [List.length_cons, List.length_nil, Nat.reduceAdd, List.nil_append, List.cons_append]) | apply AGo.seq | apply AGo.skip | apply AGo.nil | (apply AGo.region; rfl) | (apply AGo.q true; rfl; rfl; rfl; rfl; first | exact True.intro | omega | (simp only [Int.toNat_natCast, Int.reduceToNat, IntKind.bits]; omega)) | (apply AGo.condDT; rfl; first | omega | rfl) | (apply AGo.condT; rfl) | (apply AGo.condF; rfl) | (apply AGo.alloc; (iterate 5 rfl); simp only [nm, Nat.reduceAdd, spliceA, AV.cells, D.cells]) | (apply AGo.store; (iterate 9 rfl); exact Nat.le_of_ble_eq_true rfl; simp only [nm, Nat.reduceAdd, spliceA, AV.cells, D.cells]) | (apply AGo.build; (iterate 5 rfl); simp only [nm, Nat.reduceAdd, spliceA, AV.cells, D.cells, mkAgg, unDs, AV.unD]) | (apply AGo.unguard; rfl; rfl) | (apply AGo.skipOp; rfl; rfl; rfl) | (apply AGo.opx; (first | (apply quiet_lenM; (iterate 5 rfl); (first | rfl | (simp only [List.length_append, List.length_map, List.length_set, List.length_replicate, List.length_cons, List.length_nil]; omega))) | (apply quiet_idxM; (iterate 8 rfl); (first | rfl | (simp only [List.length_append, List.length_map, List.length_set, List.length_replicate, List.length_cons, List.length_nil]; omega)); (first | decide | exact Nat.le_of_ble_eq_true rfl | (dsimp only; omega) | decide +kernel)) | (apply quiet_loadM; rfl; rfl; rfl; rfl; (first | rfl | (simp only [List.length_append, List.length_map, List.length_set, List.length_replicate, List.length_cons, List.length_nil]; omega)); rfl; rfl)); rfl; rfl; rfl) | intro _ | (apply AGo.gD; rfl; rfl; rfl) | (apply AGo.retN; rfl; rfl; rfl; rfl))
      all_goals first | exact ⟨rfl, rfl⟩ | (exfalso; omega) | trace_state
  all_goals
    refine ACalls.enter Tryd.func40 rfl Tryd.ntmps40 (by kernel_rfl) rfl ?_; simp only [argEnv, Nat.reduceAdd, List.length_nil, List.length_cons]
    repeat' (first | (apply AGo.buildM; (iterate 11 rfl); simp only [List.length_cons, List.length_nil, Nat.reduceAdd, List.nil_append, List.cons_append]) | apply AGo.seq | apply AGo.skip | apply AGo.nil | (apply AGo.region; rfl) | (apply AGo.q true; rfl; rfl; rfl; rfl; first | exact True.intro | omega | (simp only [Int.toNat_natCast, Int.reduceToNat, IntKind.bits]; omega)) | (apply AGo.condDT; rfl; first | omega | rfl) | (apply AGo.condT; rfl) | (apply AGo.condF; rfl) | (apply AGo.alloc; (iterate 5 rfl); simp only [nm, Nat.reduceAdd, spliceA, AV.cells, D.cells]) | (apply AGo.store; (iterate 9 rfl); exact Nat.le_of_ble_eq_true rfl; simp only [nm, Nat.reduceAdd, spliceA, AV.cells, D.cells]) | (apply AGo.build; (iterate 5 rfl); simp only [nm, Nat.reduceAdd, spliceA, AV.cells, D.cells, mkAgg, unDs, AV.unD]) | (apply AGo.unguard; rfl; rfl) | (apply AGo.skipOp; rfl; rfl; rfl) | (apply AGo.opx; (first | (apply quiet_lenM; (iterate 5 rfl); (first | rfl | (simp only [List.length_append, List.length_map, List.length_set, List.length_replicate, List.length_cons, List.length_nil]; omega))) | (apply quiet_idxM; (iterate 8 rfl); (first | rfl | (simp only [List.length_append, List.length_map, List.length_set, List.length_replicate, List.length_cons, List.length_nil]; omega)); (first | decide | exact Nat.le_of_ble_eq_true rfl | (dsimp only; omega) | decide +kernel)) | (apply quiet_loadM; rfl; rfl; rfl; rfl; (first | rfl | (simp only [List.length_append, List.length_map, List.length_set, List.length_replicate, List.length_cons, List.length_nil]; omega)); rfl; rfl)); rfl; rfl; rfl) | intro _ | (apply AGo.gD; rfl; rfl; rfl) | (apply AGo.retN; rfl; rfl; rfl; rfl))
    all_goals first | exact ⟨rfl, rfl⟩ | trace_state
end Go.Proofs.YtdihjnifoikbeaaDoor.Av.Sh

/- Marks, heads of rows; how many cells. -/
set_option linter.unusedSimpArgs false
set_option linter.unusedVariables false
set_option maxRecDepth 100000
namespace Go.Proofs.YtdihjnifoikbeaaDoor.Av.Sh
open Go Bt Wr
attribute [local irreducible] AGo ACalls
variable {gl : List (Nat × List D)}
def zs (n : Nat) : List UInt8 := List.replicate n 48
theorem padN_pad (w : List UInt8) : padN (padS w).length = 0 := by
  have h1 := padS_len w
  obtain ⟨p1, p2⟩ := padN_ok w.length
  unfold padN at *
  omega
theorem padS_pad (w : List UInt8) : padS (padS w) = padS w := by
  have h := padN_pad w
  rw [show padS (padS w) = padS w ++ List.replicate (padN (padS w).length) 48 from rfl, h]
  simp
theorem packN_pad (w : List UInt8) : packN (padS w) = packN w := by
  unfold packN
  rw [padS_pad]
attribute [local irreducible] octets packN padS
set_option maxHeartbeats 4000000 in
theorem wfill_c (w : List UInt8) (hl : w.length ≤ 100000000) : ACalls (cxg gl) 85 [.ptr 0 0] (WO w) (fun r H => r = I (padN w.length) ∧ H = WO (padS w)) := by
  have h1 := padS_len w
  obtain ⟨p1, p2⟩ := padN_ok w.length
  have e1 : (8 - (w.length : Int) % 8) % 8 = (padN w.length : Int) := by unfold padN; omega
  unfold WO
  rw [packN_pad]
  refine ACalls.enter Tryd.func85 rfl Tryd.ntmps85 (by kernel_rfl) rfl ?_; simp only [argEnv, Nat.reduceAdd, List.length_nil, List.length_cons]
  repeat' (first | apply AGo.seq | apply AGo.skip | apply AGo.nil | (apply AGo.region; rfl) | (apply AGo.q true; rfl; rfl; rfl; rfl; first | exact True.intro | omega | (simp only [Int.toNat_natCast, Int.reduceToNat, IntKind.bits]; omega)) | (apply AGo.condF; rfl) | (apply AGo.store; (iterate 9 rfl); exact Nat.le_of_ble_eq_true rfl; simp only [nm, Nat.reduceAdd, spliceA, AV.cells, D.cells]) | intro _ | (apply AGo.retN; rfl; rfl; rfl; rfl))
  all_goals first | exact ⟨congrArg I e1, by rw [e1, h1]; rfl⟩ | exact ⟨congrArg I e1, by rw [e1, h1, Int.natCast_add]⟩ | trace_state
def mkRow (n : Int) : List UInt8 := [48, 48, 48, 48, 48, 48, 48, 48, 48, 48, 48, 48, 48, 48, 48, 48, 49] ++ digs n 5 5
theorem mk_eq : ∀ k : _root_.Fin 32, digs ((((32 : Int).toNat ||| ((k.val : Nat) : Int).toNat : Nat)) : Int) 22 22 = mkRow ((k.val : Nat) : Int) ∧ (32 : Int).toNat ||| ((k.val : Nat) : Int).toNat < 2 ^ 22 := by decide +kernel
theorem mk_or (n : Int) (h : 0 ≤ n ∧ n ≤ 31) : digs ((((32 : Int).toNat ||| n.toNat : Nat)) : Int) 22 22 = mkRow n ∧ (32 : Int).toNat ||| n.toNat < 2 ^ 22 := by
  have h1 := mk_eq ⟨n.toNat, by omega⟩
  have h2 : ((n.toNat : Nat) : Int) = n := by omega
  simp only [h2] at h1
  exact h1
theorem mk_dig (n : Int) : (mkRow n).all isDig = true := by unfold mkRow; rw [List.all_append, digs_dig]; rfl
theorem mk_len (n : Int) : (mkRow n).length = 22 := by unfold mkRow; rw [List.length_append, digs_len]; rfl
attribute [local irreducible] mkRow digs
set_option maxHeartbeats 4000000 in
theorem mput_c (w : List UInt8) (n : Int) (hd : w.all isDig = true) (hl : w.length ≤ 30000000) (hn : 0 ≤ n ∧ n ≤ 31) :
    ACalls (cxg gl) 109 [.ptr 0 0, I n] (WO w) (fun r H => r = I 0 ∧ H = WO (padS w ++ mkRow n)) := by
  have hf := wfill_c (gl := gl) w (by omega)
  obtain ⟨e1, e2⟩ := mk_or n hn
  have h1 := padS_len w
  obtain ⟨p1, p2⟩ := padN_ok w.length
  have hp := wput_c (gl := gl) (padS w) ((((32 : Int).toNat ||| n.toNat : Nat)) : Int) 22 (padS_dig w hd) (by omega) (by omega) ⟨by omega, by omega⟩
  rw [e1] at hp
  refine ACalls.enter Tryd.func109 rfl Tryd.ntmps109 (by kernel_rfl) rfl ?_; simp only [argEnv, Nat.reduceAdd, List.length_nil, List.length_cons]
  repeat' (first | apply AGo.seq | apply AGo.skip | apply AGo.nil | (apply AGo.region; rfl) | (apply AGo.q true; rfl; rfl; rfl; rfl; first | exact True.intro | omega | (simp only [Int.toNat_natCast, Int.reduceToNat, IntKind.bits]; omega)) | (apply AGo.callH [0,1] ( hf); (iterate 6 rfl); decide; rfl; rfl; simp only [names, putH, AV.ren, AV.renL, AObj.ren, nh, Nat.reduceAdd, Nat.reduceSub]) | (apply AGo.callH [0,1] ( hp); (iterate 6 rfl); decide; rfl; rfl; simp only [names, putH, AV.ren, AV.renL, AObj.ren, nh, Nat.reduceAdd, Nat.reduceSub]) | (apply AGo.condDF; rfl; omega) | (apply AGo.unguard; rfl; rfl) | (apply AGo.gF; rfl; rfl; rfl; omega) | intro _ | (apply AGo.retN; rfl; rfl; rfl; rfl))
  all_goals first | exact ⟨rfl, rfl⟩ | (exfalso; omega) | trace_state
def rhRow (n id q : Int) : List UInt8 := mkRow n ++ (digs id 2 2 ++ digs q 5 5)
set_option maxHeartbeats 4000000 in
theorem rhput_c (w : List UInt8) (n id q : Int) (hd : w.all isDig = true) (hl : w.length ≤ 20000000) (hn : 1 ≤ n ∧ n ≤ 17) (hi : 0 ≤ id ∧ id ≤ 3) (hq : 1 ≤ q ∧ q ≤ 31) :
    ACalls (cxg gl) 84 [.ptr 0 0, I n, I id, I q] (WO w) (fun r H => r = I 0 ∧ H = WO (padS w ++ rhRow n id q)) := by
  have hm := mput_c (gl := gl) w n hd (by omega) (by omega)
  have h1 := padS_len w
  obtain ⟨p1, p2⟩ := padN_ok w.length
  have k1 := mk_len n
  have k2 := digs_len id 2 2
  have hd1 : (padS w ++ mkRow n).all isDig = true := by rw [List.all_append, padS_dig w hd, mk_dig]; rfl
  have hd2 : (padS w ++ mkRow n ++ digs id 2 2).all isDig = true := by rw [List.all_append, hd1, digs_dig]; rfl
  have hp1 := wput_c (gl := gl) (padS w ++ mkRow n) id 2 hd1 (by rw [List.length_append]; omega) (by omega) (by omega)
  have hp2 := wput_c (gl := gl) (padS w ++ mkRow n ++ digs id 2 2) q 5 hd2 (by rw [List.length_append, List.length_append]; omega) (by omega) (by omega)
  refine ACalls.enter Tryd.func84 rfl Tryd.ntmps84 (by kernel_rfl) rfl ?_; simp only [argEnv, Nat.reduceAdd, List.length_nil, List.length_cons]
  repeat' (first | apply AGo.seq | apply AGo.block | apply AGo.blk | apply AGo.skip | apply AGo.nil | (apply AGo.region; rfl) | (apply AGo.q true; rfl; rfl; rfl; rfl; first | exact True.intro | omega | (simp only [Int.toNat_natCast, Int.reduceToNat, IntKind.bits]; omega)) | (apply AGo.callH [0,1] ( hm); (iterate 6 rfl); decide; rfl; rfl; simp only [names, putH, AV.ren, AV.renL, AObj.ren, nh, Nat.reduceAdd, Nat.reduceSub]) | (apply AGo.callH [0,1] ( hp1); (iterate 6 rfl); decide; rfl; rfl; simp only [names, putH, AV.ren, AV.renL, AObj.ren, nh, Nat.reduceAdd, Nat.reduceSub]) | (apply AGo.callH [0,1] ( hp2); (iterate 6 rfl); decide; rfl; rfl; simp only [names, putH, AV.ren, AV.renL, AObj.ren, nh, Nat.reduceAdd, Nat.reduceSub]) | (apply AGo.condDF; rfl; omega) | (apply AGo.condF; rfl) | intro _ | (apply AGo.retN; rfl; rfl; rfl; rfl))
  all_goals first | exact ⟨rfl, by unfold rhRow; rw [List.append_assoc, List.append_assoc]; rfl⟩ | (exfalso; omega) | trace_state
theorem zs_0 : zs 0 = [] := rfl
theorem zs_succ (k : Nat) : zs (k + 1) = zs k ++ [48] := List.replicate_succ'
attribute [local irreducible] zs
theorem fW_bd (f : Int) : 0 ≤ fW f ∧ fW f ≤ 1408 := by unfold fW; split <;> (try split) <;> (try split) <;> (try split) <;> (try split) <;> (try split) <;> decide
theorem fH_bd (f : Int) : 0 ≤ fH f ∧ fH f ≤ 1408 := by unfold fH; split <;> (try split) <;> (try split) <;> (try split) <;> (try split) <;> (try split) <;> decide
set_option maxHeartbeats 4000000 in
theorem racross_c (f : Int) (hb : -9223372036854775808 ≤ f ∧ f ≤ 9223372036854775807) : ACalls (cxg gl) 47 [I f] [] (fun r H => r = I (fA f) ∧ H = []) := by
  have hs := rsize_c (gl := gl) f hb
  unfold sizD at hs
  have hw := fW_bd f
  have hh := fH_bd f
  refine ACalls.enter Tryd.func47 rfl Tryd.ntmps47 (by kernel_rfl) rfl ?_; simp only [argEnv, Nat.reduceAdd, List.length_nil, List.length_cons]
  repeat' (first | apply AGo.seq | apply AGo.nil | (apply AGo.region; rfl) | (apply AGo.q true; rfl; rfl; rfl; rfl; first | exact True.intro | omega | (simp only [Int.toNat_natCast, Int.reduceToNat, IntKind.bits]; omega) | (exact ⟨by omega, Nat.le_of_ble_eq_true rfl⟩)) | (apply AGo.callP (hs); (iterate 6 rfl)) | intro _ | (apply AGo.retN; rfl; rfl; rfl; rfl))
  all_goals first | exact ⟨rfl, rfl⟩ | trace_state
abbrev fN (f : Int) : Int := fA f * fD f
set_option maxHeartbeats 4000000 in
theorem rmany_c (f : Int) (hb : -9223372036854775808 ≤ f ∧ f ≤ 9223372036854775807) : ACalls (cxg gl) 36 [I f] [] (fun r H => r = I (fN f) ∧ H = []) := by
  have hs := rsize_c (gl := gl) f hb
  unfold sizD at hs
  have hw := fW_bd f
  have hh := fH_bd f
  have ha : 0 ≤ fA f ∧ fA f ≤ 88 := by unfold fA; omega
  have hd : 0 ≤ fD f ∧ fD f ≤ 88 := by unfold fD; omega
  have hm : 0 ≤ fA f * fD f ∧ fA f * fD f ≤ 88 * 88 := ⟨Int.mul_nonneg ha.1 hd.1, Int.mul_le_mul ha.2 hd.2 hd.1 (by omega)⟩
  have hm3 : -9223372036854775808 ≤ fW f / 16 * (fH f / 16) ∧ fW f / 16 * (fH f / 16) ≤ 9223372036854775807 := ⟨Int.le_trans (by decide) hm.1, Int.le_trans hm.2 (by decide)⟩
  refine ACalls.enter Tryd.func36 rfl Tryd.ntmps36 (by kernel_rfl) rfl ?_; simp only [argEnv, Nat.reduceAdd, List.length_nil, List.length_cons]
  repeat' (first | apply AGo.seq | apply AGo.nil | (apply AGo.region; rfl) | (apply AGo.q true; rfl; rfl; rfl; rfl; first | exact True.intro | omega | (simp only [Int.toNat_natCast, Int.reduceToNat, IntKind.bits]; omega) | (exact hm3) | ((refine ⟨?_, Nat.le_of_ble_eq_true rfl⟩; omega))) | (apply AGo.callP (hs); (iterate 6 rfl)) | intro _ | (apply AGo.retN; rfl; rfl; rfl; rfl))
  all_goals first | exact ⟨rfl, rfl⟩ | trace_state
end Go.Proofs.YtdihjnifoikbeaaDoor.Av.Sh

/- Heads of sheets: which may be. -/
set_option linter.unusedSimpArgs false
set_option linter.unusedVariables false
set_option maxRecDepth 100000
namespace Go.Proofs.YtdihjnifoikbeaaDoor.Av.Sh
open Go Bt Wr
attribute [local irreducible] AGo ACalls
variable {gl : List (Nat × List D)}
structure Hd where
  ref : Int
  flags : Int
  fmt : Int
  inter : Bool
  quant : Int
  supp : List Int
abbrev Nn (n : Int) : D := .int .i64 n
def suD (l : List Int) : List D := l.map Nn
theorem suD_len (l : List Int) : (suD l).length = l.length := by simp [suD]
theorem suD_get (l : List Int) (k : Nat) (v : Int) (h : l[k]? = some v) : ((suD l).getD (k : Int).toNat .top).cells[0]? = some (Nn v) := by
  simp [suD, List.getD_eq_getElem?_getD, h, D.cells]
abbrev shD (h : Hd) (rs : List D) (z : Int) : D := .agg [Nn h.ref, Nn h.flags, Nn h.fmt, .bool h.inter, Nn h.quant, .sl 1 (suD h.supp), .sl 4 rs, Nn z]
def okB (v : Int) : Bool := decide (0 ≤ v ∧ v ≤ 255)
def baseP (h : Hd) : Prop := fOk h.fmt = true ∧ (0 ≤ h.ref ∧ h.ref ≤ 255) ∧ (0 ≤ h.flags ∧ h.flags ≤ 7) ∧ (1 ≤ h.quant ∧ h.quant ≤ 31) ∧ h.supp.length ≤ 8
instance (h : Hd) : Decidable (baseP h) := by unfold baseP; infer_instance
def hdOk (h : Hd) : Bool := decide (baseP h) && h.supp.all okB
attribute [local irreducible] suD
theorem vcs (q : Bool) (v : Int) : q = false ∨ (q = true ∧ (v < 0 ∨ (0 ≤ v ∧ (255 < v ∨ v ≤ 255)))) := by
  cases q
  · exact .inl rfl
  · exact .inr ⟨rfl, by omega⟩
theorem b_tt {p : Prop} [Decidable p] {b : Bool} (h : b = true) (hp : p) : (true && decide p) = b := by rw [h, decide_eq_true hp]; rfl
theorem b_ff {p : Prop} [Decidable p] {b : Bool} (h : b = false) (hp : ¬ p) : (true && decide p) = b := by rw [h, decide_eq_false hp]; rfl
theorem take_all (l : List Int) (k : Nat) (v : Int) (h : l[k]? = some v) : (l.take (k + 1)).all okB = ((l.take k).all okB && okB v) := by
  rw [List.take_add_one, h, List.all_append]; simp
set_option maxHeartbeats 8000000 in
theorem may_c (h : Hd) (rs : List D) (z : Int) (hl : h.supp.length ≤ 100) : ACalls (cxg gl) 108 [.d (shD h rs z)] [] (fun r H => r = B (hdOk h) ∧ H = []) := by
  have hs := size_c (gl := gl) h.fmt
  have hn := suD_len h.supp
  have key : ∃ b, b = decide (baseP h) := ⟨_, rfl⟩
  obtain ⟨b, hb⟩ := key
  unfold hdOk
  rw [← hb]
  have cs : (b = true ∧ baseP h) ∨ (b = false ∧ (fOk h.fmt = false ∨ (fOk h.fmt = true ∧ (h.ref < 0 ∨ (0 ≤ h.ref ∧ (255 < h.ref ∨ (h.ref ≤ 255 ∧ (h.flags < 0 ∨ (0 ≤ h.flags ∧ (7 < h.flags ∨ (h.flags ≤ 7 ∧ (h.quant < 1 ∨ (1 ≤ h.quant ∧ (31 < h.quant ∨ (h.quant ≤ 31 ∧ 8 < h.supp.length))))))))))))))) := by
    by_cases hp : baseP h
    · exact .inl ⟨by rw [hb, decide_eq_true hp], hp⟩
    · refine .inr ⟨by rw [hb, decide_eq_false hp], ?_⟩
      unfold baseP at hp
      cases hf : fOk h.fmt with
      | false => exact .inl rfl
      | true =>
        rw [hf] at hp
        refine .inr ⟨rfl, ?_⟩
        simp only [true_and] at hp
        omega
  clear hb
  rcases cs with ⟨hbt, hf, h1, h2, h3, h4⟩ | ⟨hbt, hf | ⟨hf, h1 | ⟨h1, h2 | ⟨h2, h3 | ⟨h3, h4 | ⟨h4, h5 | ⟨h5, h6 | ⟨h6, h7⟩⟩⟩⟩⟩⟩⟩⟩
  all_goals rw [hf] at hs
  all_goals
    refine ACalls.enter Tryd.func108 rfl Tryd.ntmps108 (by kernel_rfl) rfl ?_; simp only [argEnv, Nat.reduceAdd, List.length_nil, List.length_cons]
    repeat (first | apply AGo.seq | apply AGo.block | apply AGo.blk | apply AGo.skip | apply AGo.nil | (apply AGo.region; rfl) | (apply AGo.q true; rfl; rfl; rfl; rfl; first | exact True.intro | omega | (simp only [Int.toNat_natCast, Int.reduceToNat, IntKind.bits]; omega) | (rw [hn]; omega)) | (apply AGo.callP (hs); (iterate 6 rfl)) | (apply AGo.condDT; rfl; first | omega | rfl) | (apply AGo.condDF; rfl; omega) | (apply AGo.box; (iterate 6 rfl); simp only [nm, Nat.reduceAdd, spliceA, AV.cells, D.cells]) | (apply AGo.unguard; rfl; rfl) | (apply AGo.gT; rfl; rfl; rfl; first | omega | rfl) | (apply AGo.gF; rfl; rfl; rfl; omega) | (apply AGo.skipOp; rfl; rfl; rfl))
    refine AGo.weak (env' := [(55, I ((0 : Nat) : Int)), (54, I ((suD h.supp).length : Int)), (53, .d (.sl 1 (suD h.supp))), (5, B b)]) (by
      first
        | exact ⟨rfl, rfl, rfl, congrArg B hbt.symm, trivial⟩
        | exact ⟨rfl, rfl, rfl, congrArg B (b_tt hbt (by rw [hn]; omega)), trivial⟩
        | exact ⟨rfl, rfl, rfl, congrArg B (b_ff hbt (by rw [hn]; omega)), trivial⟩) ?_
    clear hbt
    refine AGo.loop (fun m env H => ∃ (k : Nat) (q : Bool), m = h.supp.length - k ∧ k ≤ h.supp.length ∧ (b && (h.supp.take k).all okB) = q ∧ env = [(55, I (k : Int)), (54, I ((suD h.supp).length : Int)), (53, .d (.sl 1 (suD h.supp))), (5, B q)] ∧ H = [.cells [.d (Nn h.ref), .d (Nn h.flags), .d (Nn h.fmt), .d (.bool h.inter), .d (Nn h.quant), .d (.sl 1 (suD h.supp)), .d (.sl 4 rs), .d (Nn z)]]) h.supp.length
      ⟨0, b, rfl, by omega, by simp, rfl, rfl⟩ ?_
    rintro m env H ⟨k, q, rfl, hk, hq, rfl, rfl⟩
    rcases Nat.lt_or_ge k h.supp.length with hlt | hge
    · obtain ⟨v, hv⟩ : ∃ v, h.supp[k]? = some v := ⟨_, List.getElem?_eq_getElem hlt⟩
      have g1 := suD_get h.supp k v hv
      have ht := take_all h.supp k v hv
      have hq' : (b && (h.supp.take (k + 1)).all okB) = (q && okB v) := by rw [ht, ← hq, Bool.and_assoc]
      have vs : q = false ∨ (q = true ∧ (v < 0 ∨ (0 ≤ v ∧ (255 < v ∨ v ≤ 255)))) := vcs q v
      rcases vs with rfl | ⟨rfl, v1 | ⟨v1, v2 | v2⟩⟩
      · repeat' (first | apply AGo.seq | apply AGo.block | apply AGo.blk | apply AGo.skip | apply AGo.nil | (apply AGo.region; rfl) | (apply AGo.q true; rfl; rfl; rfl; rfl; first | exact True.intro | omega | (simp only [Int.toNat_natCast, Int.reduceToNat, IntKind.bits]; omega) | (rw [hn]; omega)) | (apply AGo.condDT; rfl; first | omega | rfl) | (apply AGo.condDF; rfl; omega) | (apply AGo.box; (iterate 6 rfl); simp only [nm, Nat.reduceAdd, spliceA, AV.cells, D.cells]) | (apply AGo.unguard; rfl; rfl) | (apply AGo.gT; rfl; rfl; rfl; first | omega | rfl) | (apply AGo.gF; rfl; rfl; rfl; omega) | (apply AGo.skipOp; rfl; rfl; rfl) | (apply AGo.loadG; (iterate 7 rfl); exact g1) | intro _ | (apply AGo.retN; rfl; rfl; rfl; rfl) | (apply AGo.outL; rfl; rfl))
        all_goals exact AGo.round [(55, I ((k + 1 : Nat) : Int)), (54, I ((suD h.supp).length : Int)), (53, .d (.sl 1 (suD h.supp))), (5, B false)] (h.supp.length - (k + 1)) (by omega) ⟨rfl, rfl, rfl, rfl, trivial⟩ ⟨k + 1, false, rfl, hlt, hq', rfl, rfl⟩
      all_goals have hv2 : okB v = decide (0 ≤ v ∧ v ≤ 255) := rfl
      · rw [decide_eq_false (by omega)] at hv2
        rw [hv2] at hq'
        repeat' (first | apply AGo.seq | apply AGo.block | apply AGo.blk | apply AGo.skip | apply AGo.nil | (apply AGo.region; rfl) | (apply AGo.q true; rfl; rfl; rfl; rfl; first | exact True.intro | omega | (simp only [Int.toNat_natCast, Int.reduceToNat, IntKind.bits]; omega) | (rw [hn]; omega)) | (apply AGo.condDT; rfl; first | omega | rfl) | (apply AGo.condDF; rfl; omega) | (apply AGo.box; (iterate 6 rfl); simp only [nm, Nat.reduceAdd, spliceA, AV.cells, D.cells]) | (apply AGo.unguard; rfl; rfl) | (apply AGo.gT; rfl; rfl; rfl; first | omega | rfl) | (apply AGo.gF; rfl; rfl; rfl; omega) | (apply AGo.skipOp; rfl; rfl; rfl) | (apply AGo.loadG; (iterate 7 rfl); exact g1) | intro _ | (apply AGo.retN; rfl; rfl; rfl; rfl) | (apply AGo.outL; rfl; rfl))
        all_goals exact AGo.round [(55, I ((k + 1 : Nat) : Int)), (54, I ((suD h.supp).length : Int)), (53, .d (.sl 1 (suD h.supp))), (5, B false)] (h.supp.length - (k + 1)) (by omega) ⟨rfl, rfl, rfl, rfl, trivial⟩ ⟨k + 1, false, rfl, hlt, hq', rfl, rfl⟩
      · rw [decide_eq_false (by omega)] at hv2
        rw [hv2] at hq'
        repeat' (first | apply AGo.seq | apply AGo.block | apply AGo.blk | apply AGo.skip | apply AGo.nil | (apply AGo.region; rfl) | (apply AGo.q true; rfl; rfl; rfl; rfl; first | exact True.intro | omega | (simp only [Int.toNat_natCast, Int.reduceToNat, IntKind.bits]; omega) | (rw [hn]; omega)) | (apply AGo.condDT; rfl; first | omega | rfl) | (apply AGo.condDF; rfl; omega) | (apply AGo.box; (iterate 6 rfl); simp only [nm, Nat.reduceAdd, spliceA, AV.cells, D.cells]) | (apply AGo.unguard; rfl; rfl) | (apply AGo.gT; rfl; rfl; rfl; first | omega | rfl) | (apply AGo.gF; rfl; rfl; rfl; omega) | (apply AGo.skipOp; rfl; rfl; rfl) | (apply AGo.loadG; (iterate 7 rfl); exact g1) | intro _ | (apply AGo.retN; rfl; rfl; rfl; rfl) | (apply AGo.outL; rfl; rfl))
        all_goals exact AGo.round [(55, I ((k + 1 : Nat) : Int)), (54, I ((suD h.supp).length : Int)), (53, .d (.sl 1 (suD h.supp))), (5, B false)] (h.supp.length - (k + 1)) (by omega) ⟨rfl, rfl, rfl, congrArg B (b_ff rfl (by omega)), trivial⟩ ⟨k + 1, false, rfl, hlt, hq', rfl, rfl⟩
      · rw [decide_eq_true (by omega)] at hv2
        rw [hv2] at hq'
        repeat' (first | apply AGo.seq | apply AGo.block | apply AGo.blk | apply AGo.skip | apply AGo.nil | (apply AGo.region; rfl) | (apply AGo.q true; rfl; rfl; rfl; rfl; first | exact True.intro | omega | (simp only [Int.toNat_natCast, Int.reduceToNat, IntKind.bits]; omega) | (rw [hn]; omega)) | (apply AGo.condDT; rfl; first | omega | rfl) | (apply AGo.condDF; rfl; omega) | (apply AGo.box; (iterate 6 rfl); simp only [nm, Nat.reduceAdd, spliceA, AV.cells, D.cells]) | (apply AGo.unguard; rfl; rfl) | (apply AGo.gT; rfl; rfl; rfl; first | omega | rfl) | (apply AGo.gF; rfl; rfl; rfl; omega) | (apply AGo.skipOp; rfl; rfl; rfl) | (apply AGo.loadG; (iterate 7 rfl); exact g1) | intro _ | (apply AGo.retN; rfl; rfl; rfl; rfl) | (apply AGo.outL; rfl; rfl))
        all_goals exact AGo.round [(55, I ((k + 1 : Nat) : Int)), (54, I ((suD h.supp).length : Int)), (53, .d (.sl 1 (suD h.supp))), (5, B true)] (h.supp.length - (k + 1)) (by omega) ⟨rfl, rfl, rfl, congrArg B (b_tt rfl (by omega)), trivial⟩ ⟨k + 1, true, rfl, hlt, hq', rfl, rfl⟩
    · obtain rfl : k = h.supp.length := by omega
      rw [List.take_length] at hq
      rw [hq]
      repeat' (first | apply AGo.seq | apply AGo.block | apply AGo.blk | apply AGo.skip | apply AGo.nil | (apply AGo.region; rfl) | (apply AGo.q true; rfl; rfl; rfl; rfl; first | exact True.intro | omega | (simp only [Int.toNat_natCast, Int.reduceToNat, IntKind.bits]; omega)) | (apply AGo.condDT; rfl; first | omega | rfl) | (apply AGo.condDF; rfl; omega) | (apply AGo.box; (iterate 6 rfl); simp only [nm, Nat.reduceAdd, spliceA, AV.cells, D.cells]) | (apply AGo.unguard; rfl; rfl) | (apply AGo.gT; rfl; rfl; rfl; first | omega | rfl) | (apply AGo.gF; rfl; rfl; rfl; omega) | (apply AGo.skipOp; rfl; rfl; rfl) | intro _ | (apply AGo.retN; rfl; rfl; rfl; rfl) | (apply AGo.outL; rfl; rfl))
      all_goals first | exact ⟨rfl, rfl⟩ | (exfalso; omega) | trace_state
end Go.Proofs.YtdihjnifoikbeaaDoor.Av.Sh

/- Heads of sheets: written. -/
set_option linter.unusedSimpArgs false
set_option linter.unusedVariables false
set_option maxRecDepth 100000
namespace Go.Proofs.YtdihjnifoikbeaaDoor.Av.Sh
open Go Bt Wr
attribute [local irreducible] AGo ACalls
variable {gl : List (Nat × List D)}
/-- digits alone, and not too many -/
def Fi (w : List UInt8) (n : Nat) : Prop := w.all isDig = true ∧ w.length ≤ n
theorem Fi.app {w v : List UInt8} {n m : Nat} (h : Fi w n) (h2 : Fi v m) : Fi (w ++ v) (n + m) := ⟨by rw [List.all_append, h.1, h2.1]; rfl, by have := h.2; have := h2.2; rw [List.length_append]; omega⟩
theorem fi_digs (v : Int) (n : Nat) : Fi (digs v n n) n := ⟨digs_dig _ _ _, by rw [digs_len]; omega⟩
theorem fi_mk (n : Int) : Fi (mkRow n) 22 := ⟨mk_dig n, by rw [mk_len]; omega⟩
theorem fi_pad {w : List UInt8} {n : Nat} (h : Fi w n) : Fi (padS w) (n + 7) := ⟨padS_dig w h.1, by have h1 := padS_len w; have h2 := padN_ok w.length; have := h.2; omega⟩
theorem put_fi {w : List UInt8} {n : Nat} (h : Fi w n) (hn : n ≤ 30000000) (v : Int) (m : Nat) (hm : m ≤ 32) (hv : 0 ≤ v ∧ v < 2 ^ m) :
    ACalls (cxg gl) 86 [.ptr 0 0, I v, I m] (WO w) (fun r H => r = I 0 ∧ H = WO (w ++ digs v m m)) := wput_c w v m h.1 (by have := h.2; omega) hm hv
def suRow (v : Int) : List UInt8 := 49 :: digs v 8 8
def iD (b : Bool) : Int := if b = true then 1 else 0
def hdRow (h : Hd) : List UInt8 := mkRow 0 ++ digs h.ref 8 8 ++ digs 2 2 2 ++ digs h.flags 3 3 ++ digs h.fmt 3 3 ++ digs (iD h.inter) 1 1 ++ digs 0 4 4 ++ digs h.quant 5 5 ++ digs 0 1 1
def headRow (h : Hd) : List UInt8 := hdRow h ++ h.supp.flatMap suRow ++ digs 0 1 1
theorem su_eq : ∀ k : _root_.Fin 256, digs ((((256 : Int).toNat ||| ((k.val : Nat) : Int).toNat : Nat)) : Int) 9 9 = suRow ((k.val : Nat) : Int) ∧ (256 : Int).toNat ||| ((k.val : Nat) : Int).toNat < 2 ^ 9 := by decide +kernel
theorem su_or (n : Int) (h : 0 ≤ n ∧ n ≤ 255) : digs ((((256 : Int).toNat ||| n.toNat : Nat)) : Int) 9 9 = suRow n ∧ (256 : Int).toNat ||| n.toNat < 2 ^ 9 := by
  have h1 := su_eq ⟨n.toNat, by omega⟩
  have h2 : ((n.toNat : Nat) : Int) = n := by omega
  simp only [h2] at h1
  exact h1
theorem fi_su (v : Int) : Fi (suRow v) 9 := by
  unfold suRow
  exact ⟨by rw [List.all_cons, digs_dig]; rfl, by rw [List.length_cons, digs_len]; omega⟩
theorem fi_sus (l : List Int) : Fi (l.flatMap suRow) (9 * l.length) := by
  induction l with
  | nil => exact ⟨rfl, by simp⟩
  | cons v l ih =>
    rw [List.flatMap_cons]
    have h := (fi_su v).app ih
    exact ⟨h.1, by have := h.2; rw [List.length_cons]; omega⟩
theorem fi_hd (h : Hd) : Fi (hdRow h) 49 := ((((((((fi_mk 0).app (fi_digs h.ref 8)).app (fi_digs 2 2)).app (fi_digs h.flags 3)).app (fi_digs h.fmt 3)).app (fi_digs (iD h.inter) 1)).app (fi_digs 0 4)).app (fi_digs h.quant 5)).app (fi_digs 0 1)
theorem take_sus (l : List Int) (k : Nat) (v : Int) (h : l[k]? = some v) : (l.take (k + 1)).flatMap suRow = (l.take k).flatMap suRow ++ suRow v := by
  rw [List.take_add_one, h, List.flatMap_append]; simp
attribute [local irreducible] octets packN padS mkRow digs suD suRow
theorem hdOk_inv {h : Hd} (hh : hdOk h = true) : baseP h ∧ ∀ v ∈ h.supp, 0 ≤ v ∧ v ≤ 255 := by
  unfold hdOk at hh
  rw [Bool.and_eq_true, decide_eq_true_eq, List.all_eq_true] at hh
  exact ⟨hh.1, fun v hv => of_decide_eq_true (hh.2 v hv)⟩
theorem fOk_bd {f : Int} (h : fOk f = true) : 1 ≤ f ∧ f ≤ 6 := of_decide_eq_true h
set_option maxHeartbeats 8000000 in
theorem sput_c (h : Hd) (rs : List D) (z : Int) (w : List UInt8) (n : Nat) (hh : hdOk h = true) (hw : Fi w n) (hn : n ≤ 20000000) :
    ACalls (cxg gl) 75 [.ptr 0 0, .d (shD h rs z)] (WO w) (fun r H => r = I 0 ∧ H = WO (padS w ++ headRow h)) := by
  obtain ⟨⟨f0, f1, f2, f3, f4⟩, fs⟩ := hdOk_inv hh
  have f5 := fOk_bd f0
  have hl := suD_len h.supp
  have mc := may_c (gl := gl) h rs z (by omega)
  rw [hh] at mc
  have m0 := mput_c (gl := gl) w 0 hw.1 (by have := hw.2; omega) (by omega)
  have w0 := (fi_pad hw).app (fi_mk 0)
  have p1 := put_fi (gl := gl) w0 (by omega) h.ref 8 (by omega) (by omega)
  have w1 := w0.app (fi_digs h.ref 8)
  have p2 := put_fi (gl := gl) w1 (by omega) 2 2 (by omega) (by omega)
  have w2 := w1.app (fi_digs 2 2)
  have p3 := put_fi (gl := gl) w2 (by omega) h.flags 3 (by omega) (by omega)
  have w3 := w2.app (fi_digs h.flags 3)
  have p4 := put_fi (gl := gl) w3 (by omega) h.fmt 3 (by omega) (by omega)
  have w4 := w3.app (fi_digs h.fmt 3)
  have p5 := put_fi (gl := gl) w4 (by omega) (iD h.inter) 1 (by omega) (by unfold iD; split <;> decide)
  have w5 := w4.app (fi_digs (iD h.inter) 1)
  have p6 := put_fi (gl := gl) w5 (by omega) 0 4 (by omega) (by omega)
  have w6 := w5.app (fi_digs 0 4)
  have p7 := put_fi (gl := gl) w6 (by omega) h.quant 5 (by omega) (by omega)
  have w7 := w6.app (fi_digs h.quant 5)
  have p8 := put_fi (gl := gl) w7 (by omega) 0 1 (by omega) (by omega)
  have w8 := w7.app (fi_digs 0 1)
  have e8 : padS w ++ mkRow 0 ++ digs h.ref 8 8 ++ digs 2 2 2 ++ digs h.flags 3 3 ++ digs h.fmt 3 3 ++ digs (iD h.inter) 1 1 ++ digs 0 4 4 ++ digs h.quant 5 5 ++ digs 0 1 1 = padS w ++ hdRow h := by unfold hdRow; simp only [List.append_assoc]
  rw [e8] at p8 w8
  have e0 : padS w ++ hdRow h ++ (h.supp.take 0).flatMap suRow = padS w ++ hdRow h := by simp
  have hi : (h.inter = false ∧ iD h.inter = 0) ∨ (h.inter = true ∧ iD h.inter = 1) := by cases h.inter <;> decide
  rcases hi with ⟨hb, hi⟩ | ⟨hb, hi⟩
  all_goals
    rw [hi] at p5 p6 p7 p8
    refine ACalls.enter Tryd.func75 rfl Tryd.ntmps75 (by kernel_rfl) rfl ?_; simp only [argEnv, Nat.reduceAdd, List.length_nil, List.length_cons]
    repeat (first | apply AGo.seq | apply AGo.block | apply AGo.blk | apply AGo.skip | apply AGo.nil | (apply AGo.region; rfl) | (apply AGo.q true; rfl; rfl; rfl; rfl; first | exact True.intro | omega | (simp only [Int.toNat_natCast, Int.reduceToNat, IntKind.bits]; omega) | (rw [hl]; omega)) | (apply AGo.callH [0,1] ( m0); (iterate 6 rfl); decide; rfl; rfl; simp only [names, putH, AV.ren, AV.renL, AObj.ren, nh, Nat.reduceAdd, Nat.reduceSub]) | (apply AGo.callH [0,1] ( p1); (iterate 6 rfl); decide; rfl; rfl; simp only [names, putH, AV.ren, AV.renL, AObj.ren, nh, Nat.reduceAdd, Nat.reduceSub]) | (apply AGo.callH [0,1] ( p2); (iterate 6 rfl); decide; rfl; rfl; simp only [names, putH, AV.ren, AV.renL, AObj.ren, nh, Nat.reduceAdd, Nat.reduceSub]) | (apply AGo.callH [0,1] ( p3); (iterate 6 rfl); decide; rfl; rfl; simp only [names, putH, AV.ren, AV.renL, AObj.ren, nh, Nat.reduceAdd, Nat.reduceSub]) | (apply AGo.callH [0,1] ( p4); (iterate 6 rfl); decide; rfl; rfl; simp only [names, putH, AV.ren, AV.renL, AObj.ren, nh, Nat.reduceAdd, Nat.reduceSub]) | (apply AGo.callH [0,1] ( p5); (iterate 6 rfl); decide; rfl; rfl; simp only [names, putH, AV.ren, AV.renL, AObj.ren, nh, Nat.reduceAdd, Nat.reduceSub]) | (apply AGo.callH [0,1] ( p6); (iterate 6 rfl); decide; rfl; rfl; simp only [names, putH, AV.ren, AV.renL, AObj.ren, nh, Nat.reduceAdd, Nat.reduceSub]) | (apply AGo.callH [0,1] ( p7); (iterate 6 rfl); decide; rfl; rfl; simp only [names, putH, AV.ren, AV.renL, AObj.ren, nh, Nat.reduceAdd, Nat.reduceSub]) | (apply AGo.callH [0,1] ( p8); (iterate 6 rfl); decide; rfl; rfl; simp only [names, putH, AV.ren, AV.renL, AObj.ren, nh, Nat.reduceAdd, Nat.reduceSub]) | (apply AGo.callPF ( mc); (iterate 7 rfl)) | (apply AGo.condDT; rfl; first | omega | rfl) | (apply AGo.condDF; rfl; omega) | (apply AGo.condF; rfl) | (apply AGo.box; (iterate 6 rfl); simp only [nm, Nat.reduceAdd, spliceA, AV.cells, D.cells]) | (apply AGo.cBT; rfl; first | (simp only [bT]; omega) | (exact hb)) | (apply AGo.cBF; rfl; first | (simp only [bF]; omega) | exact ndF rfl | (exact hb)))
    refine AGo.weak (env' := [(47, I ((0 : Nat) : Int)), (46, I ((suD h.supp).length : Int)), (45, .d (.sl 1 (suD h.supp))), (0, .ptr 0 0)]) ⟨rfl, rfl, rfl, rfl, trivial⟩ ?_
    refine AGo.loop (fun m env H => ∃ k : Nat, m = h.supp.length - k ∧ k ≤ h.supp.length ∧ env = [(47, I (k : Int)), (46, I ((suD h.supp).length : Int)), (45, .d (.sl 1 (suD h.supp))), (0, .ptr 0 0)] ∧ H = WO (padS w ++ hdRow h ++ (h.supp.take k).flatMap suRow) ++ [.cells [.d (Nn h.ref), .d (Nn h.flags), .d (Nn h.fmt), .d (.bool h.inter), .d (Nn h.quant), .d (.sl 1 (suD h.supp)), .d (.sl 4 rs), .d (Nn z)]]) h.supp.length
      ⟨0, rfl, by omega, rfl, by rw [e0]; rfl⟩ ?_
    rintro m env H ⟨k, rfl, hk, rfl, rfl⟩
    have wk := w8.app (fi_sus (h.supp.take k))
    have hkl : (h.supp.take k).length ≤ 8 := by rw [List.length_take]; omega
    rcases Nat.lt_or_ge k h.supp.length with hlt | hge
    · obtain ⟨v, hv⟩ : ∃ v, h.supp[k]? = some v := ⟨_, List.getElem?_eq_getElem hlt⟩
      have g1 := suD_get h.supp k v hv
      have hvb := fs v (List.mem_of_getElem? hv)
      obtain ⟨o1, o2⟩ := su_or v hvb
      have pk := put_fi (gl := gl) wk (by omega) ((((256 : Int).toNat ||| v.toNat : Nat)) : Int) 9 (by omega) ⟨by omega, by omega⟩
      rw [o1, List.append_assoc (padS w ++ hdRow h), ← take_sus h.supp k v hv] at pk
      repeat' (first | apply AGo.seq | apply AGo.block | apply AGo.blk | apply AGo.skip | apply AGo.nil | (apply AGo.region; rfl) | (apply AGo.q true; rfl; rfl; rfl; rfl; first | exact True.intro | omega | (simp only [Int.toNat_natCast, Int.reduceToNat, IntKind.bits]; omega) | (rw [hl]; omega)) | (apply AGo.callH [0,1] ( pk); (iterate 6 rfl); decide; rfl; rfl; simp only [names, putH, AV.ren, AV.renL, AObj.ren, nh, Nat.reduceAdd, Nat.reduceSub]) | (apply AGo.condDT; rfl; first | omega | rfl) | (apply AGo.condDF; rfl; omega) | (apply AGo.condF; rfl) | (apply AGo.box; (iterate 6 rfl); simp only [nm, Nat.reduceAdd, spliceA, AV.cells, D.cells]) | (apply AGo.cBT; rfl; first | (simp only [bT]; omega)) | (apply AGo.cBF; rfl; first | (simp only [bF]; omega) | exact ndF rfl) | (apply AGo.loadG; (iterate 7 rfl); exact g1) | intro _ | (apply AGo.retN; rfl; rfl; rfl; rfl) | (apply AGo.outL; rfl; rfl))
      all_goals first
        | exact AGo.round [(47, I (((k + 1 : Nat)) : Int)), (46, I ((suD h.supp).length : Int)), (45, .d (.sl 1 (suD h.supp))), (0, .ptr 0 0)] (h.supp.length - (k + 1)) (by omega) ⟨rfl, rfl, rfl, rfl, trivial⟩ ⟨k + 1, rfl, hlt, rfl, rfl⟩
        | (exfalso; omega)
        | trace_state
    · obtain rfl : k = h.supp.length := by omega
      have pk := put_fi (gl := gl) wk (by omega) 0 1 (by omega) (by omega)
      have ef : padS w ++ hdRow h ++ (h.supp.take h.supp.length).flatMap suRow ++ digs 0 1 1 = padS w ++ headRow h := by unfold headRow; rw [List.take_length]; simp only [List.append_assoc]
      rw [ef] at pk
      repeat' (first | apply AGo.seq | apply AGo.block | apply AGo.blk | apply AGo.skip | apply AGo.nil | (apply AGo.region; rfl) | (apply AGo.q true; rfl; rfl; rfl; rfl; first | exact True.intro | omega | (simp only [Int.toNat_natCast, Int.reduceToNat, IntKind.bits]; omega)) | (apply AGo.callH [0,1] ( pk); (iterate 6 rfl); decide; rfl; rfl; simp only [names, putH, AV.ren, AV.renL, AObj.ren, nh, Nat.reduceAdd, Nat.reduceSub]) | (apply AGo.condDT; rfl; first | omega | rfl) | (apply AGo.condDF; rfl; omega) | (apply AGo.condF; rfl) | (apply AGo.box; (iterate 6 rfl); simp only [nm, Nat.reduceAdd, spliceA, AV.cells, D.cells]) | (apply AGo.cBT; rfl; first | (simp only [bT]; omega)) | (apply AGo.cBF; rfl; first | (simp only [bF]; omega) | exact ndF rfl) | intro _ | (apply AGo.retN; rfl; rfl; rfl; rfl) | (apply AGo.outL; rfl; rfl))
      all_goals first | exact ⟨rfl, rfl⟩ | (exfalso; omega) | trace_state
end Go.Proofs.YtdihjnifoikbeaaDoor.Av.Sh

/- Heads of sheets that may not be: nothing is written. -/
set_option linter.unusedSimpArgs false
set_option linter.unusedVariables false
set_option maxRecDepth 100000
namespace Go.Proofs.YtdihjnifoikbeaaDoor.Av.Sh
open Go Bt Wr
attribute [local irreducible] AGo ACalls
variable {gl : List (Nat × List D)}
attribute [local irreducible] octets packN padS suD
set_option maxHeartbeats 8000000 in
theorem sputno_c (h : Hd) (rs : List D) (z : Int) (w : List UInt8) (hh : hdOk h = false) (hl : h.supp.length ≤ 100) :
    ACalls (cxg gl) 75 [.ptr 0 0, .d (shD h rs z)] (WO w) (fun r H => r = I 12 ∧ H = WO w) := by
  have mc := may_c (gl := gl) h rs z hl
  rw [hh] at mc
  refine ACalls.enter Tryd.func75 rfl Tryd.ntmps75 (by kernel_rfl) rfl ?_; simp only [argEnv, Nat.reduceAdd, List.length_nil, List.length_cons]
  repeat' (first | apply AGo.seq | apply AGo.block | apply AGo.nil | (apply AGo.region; rfl) | (apply AGo.q true; rfl; rfl; rfl; rfl; first | exact True.intro | omega | (simp only [Int.toNat_natCast, Int.reduceToNat, IntKind.bits]; omega)) | (apply AGo.callPF ( mc); (iterate 7 rfl)) | (apply AGo.condT; rfl) | (apply AGo.condF; rfl) | (apply AGo.box; (iterate 6 rfl); simp only [nm, Nat.reduceAdd, spliceA, AV.cells, D.cells]) | intro _ | (apply AGo.retN; rfl; rfl; rfl; rfl))
  all_goals first | exact ⟨rfl, rfl⟩ | (exfalso; omega) | trace_state
end Go.Proofs.YtdihjnifoikbeaaDoor.Av.Sh
