/- The scan: At and Of. -/
import Derived.Test.YtnmkmhbfgebalaaDoorCx
import Derived.Test.YtnmkmhbfgebalaaDoorAv12
set_option linter.unusedSimpArgs false
set_option linter.unusedVariables false
set_option maxRecDepth 100000
namespace Go.Proofs.YtnmkmhbfgebalaaDoor.Av
open Go
attribute [local irreducible] AGo ACalls
abbrev I (n : Int) : AV := .d (.int .i64 n)
abbrev B (b : Bool) : AV := .d (.bool b)
abbrev S (s : List UInt8) : AV := .d (.str s)
noncomputable abbrev cs0 : Ctx := cxg [(0, gl0)]
theorem lt64 {P : Int → Prop} (k : Int) (h0 : 0 ≤ k) (h1 : k < 64) (p0 : P 0) (p1 : P 1) (p2 : P 2) (p3 : P 3) (p4 : P 4) (p5 : P 5) (p6 : P 6) (p7 : P 7) (p8 : P 8) (p9 : P 9) (p10 : P 10) (p11 : P 11) (p12 : P 12) (p13 : P 13) (p14 : P 14) (p15 : P 15) (p16 : P 16) (p17 : P 17) (p18 : P 18) (p19 : P 19) (p20 : P 20) (p21 : P 21) (p22 : P 22) (p23 : P 23) (p24 : P 24) (p25 : P 25) (p26 : P 26) (p27 : P 27) (p28 : P 28) (p29 : P 29) (p30 : P 30) (p31 : P 31) (p32 : P 32) (p33 : P 33) (p34 : P 34) (p35 : P 35) (p36 : P 36) (p37 : P 37) (p38 : P 38) (p39 : P 39) (p40 : P 40) (p41 : P 41) (p42 : P 42) (p43 : P 43) (p44 : P 44) (p45 : P 45) (p46 : P 46) (p47 : P 47) (p48 : P 48) (p49 : P 49) (p50 : P 50) (p51 : P 51) (p52 : P 52) (p53 : P 53) (p54 : P 54) (p55 : P 55) (p56 : P 56) (p57 : P 57) (p58 : P 58) (p59 : P 59) (p60 : P 60) (p61 : P 61) (p62 : P 62) (p63 : P 63) : P k := by
  obtain ⟨n, rfl⟩ := Int.eq_ofNat_of_zero_le h0
  have hn : n < 64 := by omega
  match n, hn with
  | 0, _ => exact p0
  | 1, _ => exact p1
  | 2, _ => exact p2
  | 3, _ => exact p3
  | 4, _ => exact p4
  | 5, _ => exact p5
  | 6, _ => exact p6
  | 7, _ => exact p7
  | 8, _ => exact p8
  | 9, _ => exact p9
  | 10, _ => exact p10
  | 11, _ => exact p11
  | 12, _ => exact p12
  | 13, _ => exact p13
  | 14, _ => exact p14
  | 15, _ => exact p15
  | 16, _ => exact p16
  | 17, _ => exact p17
  | 18, _ => exact p18
  | 19, _ => exact p19
  | 20, _ => exact p20
  | 21, _ => exact p21
  | 22, _ => exact p22
  | 23, _ => exact p23
  | 24, _ => exact p24
  | 25, _ => exact p25
  | 26, _ => exact p26
  | 27, _ => exact p27
  | 28, _ => exact p28
  | 29, _ => exact p29
  | 30, _ => exact p30
  | 31, _ => exact p31
  | 32, _ => exact p32
  | 33, _ => exact p33
  | 34, _ => exact p34
  | 35, _ => exact p35
  | 36, _ => exact p36
  | 37, _ => exact p37
  | 38, _ => exact p38
  | 39, _ => exact p39
  | 40, _ => exact p40
  | 41, _ => exact p41
  | 42, _ => exact p42
  | 43, _ => exact p43
  | 44, _ => exact p44
  | 45, _ => exact p45
  | 46, _ => exact p46
  | 47, _ => exact p47
  | 48, _ => exact p48
  | 49, _ => exact p49
  | 50, _ => exact p50
  | 51, _ => exact p51
  | 52, _ => exact p52
  | 53, _ => exact p53
  | 54, _ => exact p54
  | 55, _ => exact p55
  | 56, _ => exact p56
  | 57, _ => exact p57
  | 58, _ => exact p58
  | 59, _ => exact p59
  | 60, _ => exact p60
  | 61, _ => exact p61
  | 62, _ => exact p62
  | 63, _ => exact p63
  | n + 64, h => omega
def pl (k : Int) : Int := gi0.getD k.toNat 0
def ofS (p : Int) : Int × Bool := if p ∈ gi0 then ((gi0.idxOf p : Nat), true) else (0, false)
theorem mem_gi0 (p : Int) : p ∈ gi0 ↔ 0 ≤ p ∧ p < 64 := by
  constructor
  · intro h
    have : ∀ x ∈ gi0, 0 ≤ x ∧ x < 64 := by decide
    exact this p h
  · rintro ⟨h0, h1⟩
    revert h0 h1
    intro h0 h1
    apply lt64 (P := fun p => p ∈ gi0) p h0 h1
    all_goals decide
set_option maxHeartbeats 4000000 in
theorem at_c (k : Int) : ACalls cs0 15 [I k] [] (fun r H => r = .tup [I (if 0 ≤ k ∧ k < 64 then pl k else 0), B (decide (0 ≤ k ∧ k < 64))] ∧ H = []) := by
  by_cases hk : 0 ≤ k ∧ k < 64
  · rw [if_pos hk, decide_eq_true hk]
    obtain ⟨h0, h1⟩ := hk
    apply lt64 (P := fun k => ACalls cs0 15 [I k] [] (fun r H => r = .tup [I (pl k), B true] ∧ H = [])) k h0 h1
    all_goals (refine ACalls.enter Tryd.func15 rfl Tryd.ntmps15 (by kernel_rfl) rfl ?_; simp only [argEnv, Nat.reduceAdd, List.length_nil, List.length_cons])
    all_goals repeat' (first | apply AGo.seq | apply AGo.block | apply AGo.blk | apply AGo.skip | apply AGo.nil | apply AGo.qnil | (apply AGo.region; rfl) | (apply AGo.q true; rfl; rfl; rfl; rfl; first | exact True.intro | omega | (simp only [Int.toNat_natCast, Int.reduceToNat, IntKind.bits]; omega) | decide) | (apply AGo.qq true; rfl; rfl; rfl; rfl; first | exact True.intro | omega | (simp only [Int.toNat_natCast, Int.reduceToNat, IntKind.bits]; omega) | decide) | (apply AGo.draw; rfl; kernel_rfl) | (apply AGo.exit; rfl) | (apply AGo.condDT; rfl; first | omega | rfl) | (apply AGo.condDF; rfl; omega) | (apply AGo.condT; rfl) | (apply AGo.condF; rfl) | (apply AGo.alloc; rfl; rfl; rfl; rfl; rfl; simp only [List.length_cons, List.length_nil, List.cons_append, List.nil_append, Nat.reduceAdd, List.map_cons, List.map_nil, List.set_cons_zero, List.set_cons_succ, spliceA, List.take_succ_cons, List.take_zero, List.drop_succ_cons, List.drop_zero, AV.cells, D.cells]) | (apply AGo.box; rfl; rfl; rfl; rfl; rfl; rfl; simp only [List.length_cons, List.length_nil, List.cons_append, List.nil_append, Nat.reduceAdd, List.map_cons, List.map_nil, List.set_cons_zero, List.set_cons_succ, spliceA, List.take_succ_cons, List.take_zero, List.drop_succ_cons, List.drop_zero, AV.cells, D.cells]) | (apply AGo.store; rfl; rfl; rfl; rfl; rfl; rfl; rfl; rfl; rfl; exact Nat.le_of_ble_eq_true rfl; simp only [List.length_cons, List.length_nil, List.cons_append, List.nil_append, Nat.reduceAdd, List.map_cons, List.map_nil, List.set_cons_zero, List.set_cons_succ, spliceA, List.take_succ_cons, List.take_zero, List.drop_succ_cons, List.drop_zero, AV.cells, D.cells]) | (apply AGo.build; rfl; rfl; rfl; rfl; rfl; simp only [List.length_cons, List.length_nil, List.cons_append, List.nil_append, Nat.reduceAdd, List.map_cons, List.map_nil, List.set_cons_zero, List.set_cons_succ, spliceA, List.take_succ_cons, List.take_zero, List.drop_succ_cons, List.drop_zero, AV.cells, D.cells, mkAgg, unDs, AV.unD]) | (apply AGo.qbuild; rfl; rfl; rfl; rfl; rfl; simp only [List.length_cons, List.length_nil, List.cons_append, List.nil_append, Nat.reduceAdd, List.map_cons, List.map_nil, List.set_cons_zero, List.set_cons_succ, spliceA, List.take_succ_cons, List.take_zero, List.drop_succ_cons, List.drop_zero, AV.cells, D.cells, mkAgg, unDs, AV.unD]) | (apply AGo.unguard; rfl; rfl) | (apply AGo.gT; rfl; rfl; rfl; first | omega | rfl) | (apply AGo.gF; rfl; rfl; rfl; omega) | (apply AGo.qgT; rfl; rfl; rfl; first | omega | rfl) | (apply AGo.qgF; rfl; rfl; rfl; omega) | (apply AGo.cBT; rfl; first | (simp only [Bool.or_eq_true, Bool.and_eq_true, Bool.not_eq_true', decide_eq_true_eq, decide_eq_false_iff_not]; omega)) | (apply AGo.cBF; rfl; first | (simp only [Bool.or_eq_false_iff, Bool.and_eq_false_iff, Bool.not_eq_false', decide_eq_true_eq, decide_eq_false_iff_not]; omega)) | (apply AGo.qunguard; rfl; rfl) | (apply AGo.skipOp; rfl; rfl; rfl) | (apply AGo.qskipOp; rfl; rfl; rfl) | (apply AGo.buildSlice; rfl; rfl; rfl; rfl; rfl; rfl; rfl; rfl; rfl; rfl; rfl) | apply AGo.loopU | apply AGo.lpU | intro _ | (apply AGo.condD' ; rfl) | (apply AGo.gD; rfl; rfl; rfl) | (apply AGo.qgD; rfl; rfl; rfl) | (apply AGo.retN; rfl; rfl; rfl; rfl))
    all_goals exact ⟨rfl, rfl⟩
  · rw [if_neg hk, decide_eq_false hk]
    refine ACalls.enter Tryd.func15 rfl Tryd.ntmps15 (by kernel_rfl) rfl ?_; simp only [argEnv, Nat.reduceAdd, List.length_nil, List.length_cons]
    repeat' (first | apply AGo.seq | apply AGo.block | apply AGo.blk | apply AGo.skip | apply AGo.nil | apply AGo.qnil | (apply AGo.region; rfl) | (apply AGo.q true; rfl; rfl; rfl; rfl; first | exact True.intro | omega | (simp only [Int.toNat_natCast, Int.reduceToNat, IntKind.bits]; omega)) | (apply AGo.qq true; rfl; rfl; rfl; rfl; first | exact True.intro | omega | (simp only [Int.toNat_natCast, Int.reduceToNat, IntKind.bits]; omega)) | (apply AGo.draw; rfl; kernel_rfl) | (apply AGo.exit; rfl) | (apply AGo.condDT; rfl; first | omega | rfl) | (apply AGo.condDF; rfl; omega) | (apply AGo.condT; rfl) | (apply AGo.condF; rfl) | (apply AGo.alloc; rfl; rfl; rfl; rfl; rfl; simp only [List.length_cons, List.length_nil, List.cons_append, List.nil_append, Nat.reduceAdd, List.map_cons, List.map_nil, List.set_cons_zero, List.set_cons_succ, spliceA, List.take_succ_cons, List.take_zero, List.drop_succ_cons, List.drop_zero, AV.cells, D.cells]) | (apply AGo.box; rfl; rfl; rfl; rfl; rfl; rfl; simp only [List.length_cons, List.length_nil, List.cons_append, List.nil_append, Nat.reduceAdd, List.map_cons, List.map_nil, List.set_cons_zero, List.set_cons_succ, spliceA, List.take_succ_cons, List.take_zero, List.drop_succ_cons, List.drop_zero, AV.cells, D.cells]) | (apply AGo.store; rfl; rfl; rfl; rfl; rfl; rfl; rfl; rfl; rfl; exact Nat.le_of_ble_eq_true rfl; simp only [List.length_cons, List.length_nil, List.cons_append, List.nil_append, Nat.reduceAdd, List.map_cons, List.map_nil, List.set_cons_zero, List.set_cons_succ, spliceA, List.take_succ_cons, List.take_zero, List.drop_succ_cons, List.drop_zero, AV.cells, D.cells]) | (apply AGo.build; rfl; rfl; rfl; rfl; rfl; simp only [List.length_cons, List.length_nil, List.cons_append, List.nil_append, Nat.reduceAdd, List.map_cons, List.map_nil, List.set_cons_zero, List.set_cons_succ, spliceA, List.take_succ_cons, List.take_zero, List.drop_succ_cons, List.drop_zero, AV.cells, D.cells, mkAgg, unDs, AV.unD]) | (apply AGo.qbuild; rfl; rfl; rfl; rfl; rfl; simp only [List.length_cons, List.length_nil, List.cons_append, List.nil_append, Nat.reduceAdd, List.map_cons, List.map_nil, List.set_cons_zero, List.set_cons_succ, spliceA, List.take_succ_cons, List.take_zero, List.drop_succ_cons, List.drop_zero, AV.cells, D.cells, mkAgg, unDs, AV.unD]) | (apply AGo.unguard; rfl; rfl) | (apply AGo.gT; rfl; rfl; rfl; first | omega | rfl) | (apply AGo.gF; rfl; rfl; rfl; omega) | (apply AGo.qgT; rfl; rfl; rfl; first | omega | rfl) | (apply AGo.qgF; rfl; rfl; rfl; omega) | (apply AGo.cBT; rfl; first | (simp only [Bool.or_eq_true, Bool.and_eq_true, Bool.not_eq_true', decide_eq_true_eq, decide_eq_false_iff_not]; omega)) | (apply AGo.cBF; rfl; first | (simp only [Bool.or_eq_false_iff, Bool.and_eq_false_iff, Bool.not_eq_false', decide_eq_true_eq, decide_eq_false_iff_not]; omega)) | (apply AGo.qunguard; rfl; rfl) | (apply AGo.skipOp; rfl; rfl; rfl) | (apply AGo.qskipOp; rfl; rfl; rfl) | (apply AGo.buildSlice; rfl; rfl; rfl; rfl; rfl; rfl; rfl; rfl; rfl; rfl; rfl) | apply AGo.loopU | apply AGo.lpU | intro _ | (apply AGo.condD' ; rfl) | (apply AGo.gD; rfl; rfl; rfl) | (apply AGo.qgD; rfl; rfl; rfl) | (apply AGo.retN; rfl; rfl; rfl; rfl))
    all_goals first | omega | exact ⟨rfl, rfl⟩
set_option maxHeartbeats 4000000 in
theorem of_c (p : Int) : ACalls cs0 16 [I p] [] (fun r H => r = .tup [I (ofS p).1, B (ofS p).2] ∧ H = []) := by
  refine ACalls.enter Tryd.func16 rfl Tryd.ntmps16 (by kernel_rfl) rfl ?_; simp only [argEnv, Nat.reduceAdd, List.length_nil, List.length_cons]
  repeat' (first | apply AGo.seq | apply AGo.block | apply AGo.blk | apply AGo.skip | apply AGo.nil | apply AGo.qnil | (apply AGo.region; rfl) | (apply AGo.q true; rfl; rfl; rfl; rfl; first | exact True.intro | omega | (simp only [Int.toNat_natCast, Int.reduceToNat, IntKind.bits]; omega) | decide) | (apply AGo.qq true; rfl; rfl; rfl; rfl; first | exact True.intro | omega | (simp only [Int.toNat_natCast, Int.reduceToNat, IntKind.bits]; omega) | decide) | (apply AGo.draw; rfl; kernel_rfl) | (apply AGo.exit; rfl) | (apply AGo.condDT; rfl; first | omega | rfl) | (apply AGo.condDF; rfl; omega) | (apply AGo.condT; rfl) | (apply AGo.condF; rfl) | (apply AGo.alloc; rfl; rfl; rfl; rfl; rfl; simp only [List.length_cons, List.length_nil, List.cons_append, List.nil_append, Nat.reduceAdd, List.map_cons, List.map_nil, List.set_cons_zero, List.set_cons_succ, spliceA, List.take_succ_cons, List.take_zero, List.drop_succ_cons, List.drop_zero, AV.cells, D.cells]) | (apply AGo.box; rfl; rfl; rfl; rfl; rfl; rfl; simp only [List.length_cons, List.length_nil, List.cons_append, List.nil_append, Nat.reduceAdd, List.map_cons, List.map_nil, List.set_cons_zero, List.set_cons_succ, spliceA, List.take_succ_cons, List.take_zero, List.drop_succ_cons, List.drop_zero, AV.cells, D.cells]) | (apply AGo.store; rfl; rfl; rfl; rfl; rfl; rfl; rfl; rfl; rfl; exact Nat.le_of_ble_eq_true rfl; simp only [List.length_cons, List.length_nil, List.cons_append, List.nil_append, Nat.reduceAdd, List.map_cons, List.map_nil, List.set_cons_zero, List.set_cons_succ, spliceA, List.take_succ_cons, List.take_zero, List.drop_succ_cons, List.drop_zero, AV.cells, D.cells]) | (apply AGo.build; rfl; rfl; rfl; rfl; rfl; simp only [List.length_cons, List.length_nil, List.cons_append, List.nil_append, Nat.reduceAdd, List.map_cons, List.map_nil, List.set_cons_zero, List.set_cons_succ, spliceA, List.take_succ_cons, List.take_zero, List.drop_succ_cons, List.drop_zero, AV.cells, D.cells, mkAgg, unDs, AV.unD]) | (apply AGo.qbuild; rfl; rfl; rfl; rfl; rfl; simp only [List.length_cons, List.length_nil, List.cons_append, List.nil_append, Nat.reduceAdd, List.map_cons, List.map_nil, List.set_cons_zero, List.set_cons_succ, spliceA, List.take_succ_cons, List.take_zero, List.drop_succ_cons, List.drop_zero, AV.cells, D.cells, mkAgg, unDs, AV.unD]) | (apply AGo.unguard; rfl; rfl) | (apply AGo.gT; rfl; rfl; rfl; first | omega | rfl) | (apply AGo.gF; rfl; rfl; rfl; omega) | (apply AGo.qgT; rfl; rfl; rfl; first | omega | rfl) | (apply AGo.qgF; rfl; rfl; rfl; omega) | (apply AGo.cBT; rfl; first | (simp only [Bool.or_eq_true, Bool.and_eq_true, Bool.not_eq_true', decide_eq_true_eq, decide_eq_false_iff_not]; omega)) | (apply AGo.cBF; rfl; first | (simp only [Bool.or_eq_false_iff, Bool.and_eq_false_iff, Bool.not_eq_false', decide_eq_true_eq, decide_eq_false_iff_not]; omega)) | (apply AGo.qunguard; rfl; rfl) | (apply AGo.skipOp; rfl; rfl; rfl) | (apply AGo.qskipOp; rfl; rfl; rfl) | (apply AGo.buildSlice; rfl; rfl; rfl; rfl; rfl; rfl; rfl; rfl; rfl; rfl; rfl) | apply AGo.loopU | apply AGo.lpU | intro _ | (apply AGo.condD' ; rfl) | (apply AGo.gD; rfl; rfl; rfl) | (apply AGo.qgD; rfl; rfl; rfl) | (apply AGo.retN; rfl; rfl; rfl; rfl))
  all_goals first
    | (rename_i h; subst h; exact ⟨rfl, rfl⟩)
    | (have hn : p ∉ gi0 := by
         simp only [gi0, List.mem_cons, List.not_mem_nil, or_false, not_or]
         and_intros <;> (intro h; exact absurd h.symm (by assumption))
       exact ⟨by simp only [ofS, if_neg hn], rfl⟩)
end Go.Proofs.YtnmkmhbfgebalaaDoor.Av
