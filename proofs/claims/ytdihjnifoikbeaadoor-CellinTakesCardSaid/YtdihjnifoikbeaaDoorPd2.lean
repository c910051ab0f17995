/- Contracts that hold over any tables: readers of bits. The reference's rows of bits: Show. The reference's rows of a table: begins, Take. The plain law of tables of rows: reading digit by digit. -/
import Derived.Test.YtdihjnifoikbeaaDoorPd
/- Contracts that hold over any tables: readers of bits. -/
set_option linter.unusedSimpArgs false
set_option linter.unusedVariables false
set_option maxRecDepth 100000
namespace Go.Proofs.YtdihjnifoikbeaaDoor.Av.Bt
open Go
attribute [local irreducible] AGo ACalls
variable {gl : List (Nat × List D)}
abbrev Rd (s : List UInt8) (at' : Int) : AObj := .cells [S s, I at']
abbrev Pair (x : Int × Int) : AV := .tup [I x.1, I x.2]
set_option maxHeartbeats 2000000 in
theorem new_c (s : List UInt8) : ACalls (cxg gl) 17 [S s] [] (fun r H => r = .ptr 0 0 ∧ H = [Rd s 0]) := by
  refine ACalls.enter Tryd.func17 rfl Tryd.ntmps17 (by kernel_rfl) rfl ?_; simp only [argEnv, Nat.reduceAdd, List.length_nil, List.length_cons]
  repeat (first | apply AGo.seq | apply AGo.nil | (apply AGo.region; rfl) | (apply AGo.q true; rfl; rfl; rfl; rfl; first | exact True.intro | omega | (simp only [Int.toNat_natCast, Int.reduceToNat, IntKind.bits]; omega)) | (apply AGo.box; (iterate 6 rfl); simp only [nm, Nat.reduceAdd, spliceA, AV.cells, D.cells]) | (apply AGo.build; (iterate 5 rfl); simp only [nm, Nat.reduceAdd, spliceA, AV.cells, D.cells, mkAgg, unDs, AV.unD]))
  (apply AGo.retK 1; rfl; rfl; rfl; rfl; rfl)
  exact ⟨rfl, rfl⟩
/-- one bit -/
def pk1 (s : List UInt8) (p : Int) : Int × Int := if 8 * (s.length : Int) - p < 1 then (0, 2) else (bitS s p, 0)
def tk1 (s : List UInt8) (p : Int) : Int := if 8 * (s.length : Int) - p < 1 then p else p + 1
set_option maxHeartbeats 2000000 in
theorem peek1_c (s : List UInt8) (p : Int) (h0 : 0 ≤ p) (hs : s.length < 1000000000000000) (h1 : p ≤ 8 * (s.length : Int)) : ACalls (cxg gl) 142 [.ptr 0 0, I 1] [Rd s p] (fun r H => r = Pair (pk1 s p) ∧ H = [Rd s p]) := by
  refine ACalls.enter Tryd.func142 rfl Tryd.ntmps142 (by kernel_rfl) rfl ?_; simp only [argEnv, Nat.reduceAdd, List.length_nil, List.length_cons]
  by_cases hp : 8 * (s.length : Int) - p < 1
  · repeat' (first | apply AGo.seq | apply AGo.block | apply AGo.blk | apply AGo.skip | apply AGo.nil | apply AGo.qnil | (apply AGo.region; rfl) | ((first | apply AGo.q true | apply AGo.qq true); rfl; rfl; rfl; rfl; first | exact True.intro | omega | (simp only [Int.toNat_natCast, Int.reduceToNat, IntKind.bits]; omega)) | (apply AGo.drawQ; rfl; rfl; decide +kernel) | (apply AGo.exit; rfl) | (apply AGo.condDT; rfl; first | omega | rfl) | (apply AGo.condDF; rfl; omega) | (apply AGo.condF; rfl) | apply AGo.loopU | apply AGo.lpU | intro _ | (apply AGo.retN; rfl; rfl; rfl; rfl))
    refine ⟨?_, rfl⟩
    simp [pk1, hp]
  · repeat' (first | apply AGo.seq | apply AGo.block | apply AGo.blk | apply AGo.skip | apply AGo.nil | apply AGo.qnil | (apply AGo.region; rfl) | ((first | apply AGo.q true | apply AGo.qq true); rfl; rfl; rfl; rfl; first | exact True.intro | omega | (simp only [Int.toNat_natCast, Int.reduceToNat, IntKind.bits]; omega) | (exact ⟨bt_sh _ _ _, by decide⟩) | (simp only [Int.zero_mul, Int.toNat_zero, Nat.zero_or, Int.toNat_natCast, Int.reduceToNat, Nat.and_one_is_mod]; omega)) | (apply AGo.drawQ; rfl; rfl; decide +kernel) | (apply AGo.exit; rfl) | (apply AGo.condDT; rfl; first | omega | rfl) | (apply AGo.condDF; rfl; omega) | (apply AGo.condF; rfl) | apply AGo.loopU | apply AGo.lpU | intro _ | (apply AGo.retN; rfl; rfl; rfl; rfl))
    refine ⟨?_, rfl⟩
    have b1 := bt_sh s (p / 8).toNat (7 - p % 8).toNat
    simp only [pk1, if_neg hp, Int.zero_add, Int.add_zero, Int.zero_mul, Int.toNat_zero, Nat.zero_or, Int.toNat_natCast, Int.reduceToNat, Nat.and_one_is_mod, bitS]
    revert b1
    generalize bt s (p / 8).toNat / 2 ^ (7 - p % 8).toNat = A
    intro b1
    congr 4
    omega
set_option maxHeartbeats 2000000 in
theorem take1_c (s : List UInt8) (p : Int) (h0 : 0 ≤ p) (hs : s.length < 1000000000000000) (h1 : p ≤ 8 * (s.length : Int)) : ACalls (cxg gl) 118 [.ptr 0 0, I 1] [Rd s p] (fun r H => r = Pair (pk1 s p) ∧ H = [Rd s (tk1 s p)]) := by
  refine ACalls.enter Tryd.func118 rfl Tryd.ntmps118 (by kernel_rfl) rfl ?_; simp only [argEnv, Nat.reduceAdd, List.length_nil, List.length_cons]
  by_cases hp : 8 * (s.length : Int) - p < 1
  · have e : (pk1 s p).2 = 2 := by simp [pk1, hp]
    repeat' (first | apply AGo.seq | apply AGo.skip | apply AGo.nil | (apply AGo.region; rfl) | (apply AGo.q true; rfl; rfl; rfl; rfl; first | exact True.intro | omega | (simp only [Int.toNat_natCast, Int.reduceToNat, IntKind.bits]; omega)) | (apply AGo.callH [0] ( peek1_c s p h0 hs h1); (iterate 6 rfl); decide; rfl; rfl; simp only [names, putH, AV.ren, AV.renL, AObj.ren, nh, Nat.reduceAdd, Nat.reduceSub]) | (apply AGo.condDT; rfl; first | omega | rfl) | (apply AGo.condDF; rfl; omega) | (apply AGo.store; (iterate 9 rfl); exact Nat.le_of_ble_eq_true rfl; simp only [nm, Nat.reduceAdd, spliceA, AV.cells, D.cells]) | intro _ | (apply AGo.retN; rfl; rfl; rfl; rfl))
    refine ⟨rfl, ?_⟩
    simp [tk1, hp]
  · have e : (pk1 s p).2 = 0 := by simp [pk1, hp]
    repeat' (first | apply AGo.seq | apply AGo.skip | apply AGo.nil | (apply AGo.region; rfl) | (apply AGo.q true; rfl; rfl; rfl; rfl; first | exact True.intro | omega | (simp only [Int.toNat_natCast, Int.reduceToNat, IntKind.bits]; omega)) | (apply AGo.callH [0] ( peek1_c s p h0 hs h1); (iterate 6 rfl); decide; rfl; rfl; simp only [names, putH, AV.ren, AV.renL, AObj.ren, nh, Nat.reduceAdd, Nat.reduceSub]) | (apply AGo.condDT; rfl; first | omega | rfl) | (apply AGo.condDF; rfl; omega) | (apply AGo.store; (iterate 9 rfl); exact Nat.le_of_ble_eq_true rfl; simp only [nm, Nat.reduceAdd, spliceA, AV.cells, D.cells]) | intro _ | (apply AGo.retN; rfl; rfl; rfl; rfl))
    refine ⟨rfl, ?_⟩
    simp [tk1, hp]
set_option maxHeartbeats 2000000 in
theorem at_c (s : List UInt8) (p : Int) : ACalls (cxg gl) 24 [.ptr 0 0] [Rd s p] (fun r H => r = I p ∧ H = [Rd s p]) := by
  refine ACalls.enter Tryd.func24 rfl Tryd.ntmps24 (by kernel_rfl) rfl ?_; simp only [argEnv, Nat.reduceAdd, List.length_nil, List.length_cons]
  repeat' (first | apply AGo.seq | apply AGo.skip | apply AGo.nil | (apply AGo.region; rfl) | (apply AGo.q true; rfl; rfl; rfl; rfl; first | exact True.intro | omega | (simp only [Int.toNat_natCast, Int.reduceToNat, IntKind.bits]; omega)) | (apply AGo.condF; rfl) | intro _ | (apply AGo.retN; rfl; rfl; rfl; rfl))
  exact ⟨rfl, rfl⟩
set_option maxHeartbeats 2000000 in
theorem seek_c (s : List UInt8) (p q : Int) (hs : s.length < 1000000000000000) : ACalls (cxg gl) 18 [.ptr 0 0, I q] [Rd s p] (fun r H => r = I (if q < 0 ∨ 8 * (s.length : Int) < q then 1 else 0) ∧ H = [Rd s (if q < 0 ∨ 8 * (s.length : Int) < q then p else q)]) := by
  refine ACalls.enter Tryd.func18 rfl Tryd.ntmps18 (by kernel_rfl) rfl ?_; simp only [argEnv, Nat.reduceAdd, List.length_nil, List.length_cons]
  by_cases hq : q < 0 ∨ 8 * (s.length : Int) < q
  · rw [if_pos hq, if_pos hq]
    repeat' (first | apply AGo.seq | apply AGo.skip | apply AGo.nil | (apply AGo.region; rfl) | (apply AGo.q true; rfl; rfl; rfl; rfl; first | exact True.intro | omega | (simp only [Int.toNat_natCast, Int.reduceToNat, IntKind.bits]; omega)) | (apply AGo.condDT; rfl; first | omega | rfl) | (apply AGo.condDF; rfl; omega) | (apply AGo.condT; rfl) | (apply AGo.store; (iterate 9 rfl); exact Nat.le_of_ble_eq_true rfl; simp only [nm, Nat.reduceAdd, spliceA, AV.cells, D.cells]) | (apply AGo.unguard; rfl; rfl) | (apply AGo.gF; rfl; rfl; rfl; omega) | (apply AGo.skipOp; rfl; rfl; rfl) | intro _ | (apply AGo.gD; rfl; rfl; rfl) | (apply AGo.retN; rfl; rfl; rfl; rfl))
    all_goals first | omega | exact ⟨rfl, rfl⟩
  · rw [if_neg hq, if_neg hq]
    repeat' (first | apply AGo.seq | apply AGo.skip | apply AGo.nil | (apply AGo.region; rfl) | (apply AGo.q true; rfl; rfl; rfl; rfl; first | exact True.intro | omega | (simp only [Int.toNat_natCast, Int.reduceToNat, IntKind.bits]; omega)) | (apply AGo.condDT; rfl; first | omega | rfl) | (apply AGo.condDF; rfl; omega) | (apply AGo.condT; rfl) | (apply AGo.store; (iterate 9 rfl); exact Nat.le_of_ble_eq_true rfl; simp only [nm, Nat.reduceAdd, spliceA, AV.cells, D.cells]) | (apply AGo.unguard; rfl; rfl) | (apply AGo.gF; rfl; rfl; rfl; omega) | (apply AGo.skipOp; rfl; rfl; rfl) | intro _ | (apply AGo.gD; rfl; rfl; rfl) | (apply AGo.retN; rfl; rfl; rfl; rfl))
    all_goals first | omega | exact ⟨rfl, rfl⟩
theorem seek_ok (s : List UInt8) (p q : Int) (hs : s.length < 1000000000000000) (h : 0 ≤ q ∧ q ≤ 8 * (s.length : Int)) : ACalls (cxg gl) 18 [.ptr 0 0, I q] [Rd s p] (fun r H => r = I 0 ∧ H = [Rd s q]) := by
  have := seek_c (gl := gl) s p q hs
  rwa [if_neg (by omega), if_neg (by omega)] at this
theorem seek_bad (s : List UInt8) (p q : Int) (hs : s.length < 1000000000000000) (h : q < 0 ∨ 8 * (s.length : Int) < q) : ACalls (cxg gl) 18 [.ptr 0 0, I q] [Rd s p] (fun r H => r = I 1 ∧ H = [Rd s p]) := by
  have := seek_c (gl := gl) s p q hs
  rwa [if_pos h, if_pos h] at this
end Go.Proofs.YtdihjnifoikbeaaDoor.Av.Bt

/- The reference's rows of bits: Show. -/
set_option linter.unusedSimpArgs false
set_option linter.unusedVariables false
set_option maxRecDepth 100000
namespace Go.Proofs.YtdihjnifoikbeaaDoor.Av.Bt
open Go
attribute [local irreducible] AGo ACalls
variable {gl : List (Nat × List D)}
attribute [local irreducible] showN
set_option maxHeartbeats 2000000 in
theorem show_c (s : List UInt8) (h : s.length ≤ 1000000) : ACalls (cxg gl) 22 [S s] [] (fun r H => r = S (showN s) ∧ H = []) := by
  refine ACalls.enter Tryd.func22 rfl Tryd.ntmps22 (by kernel_rfl) rfl ?_; simp only [argEnv, Nat.reduceAdd, List.length_nil, List.length_cons]
  repeat (first | apply AGo.seq | apply AGo.block | apply AGo.blk | apply AGo.skip | apply AGo.nil | (apply AGo.region; rfl) | (apply AGo.q true; rfl; rfl; rfl; rfl; first | exact True.intro | omega | (simp only [Int.toNat_natCast, Int.reduceToNat, IntKind.bits]; omega)) | (apply AGo.condDT; rfl; first | omega | rfl) | (apply AGo.condDF; rfl; omega))
  refine AGo.weak (env' := [(4, I 0), (3, .d .nils), (0, S s)]) ⟨rfl, rfl, rfl, trivial⟩ ?_
  refine AGo.loop (fun m env H => ∃ i : Nat, m = s.length - i ∧ i ≤ s.length ∧ ((i = 0 ∧ env = [(4, I (i : Int)), (3, .d .nils), (0, S s)] ∧ H = []) ∨ (0 < i ∧ env = [(4, I (i : Int)), (3, .own 1 (octets (showN (s.take i))) 0), (0, S s)] ∧ H = [.front 5 1 (octets (showN (s.take i))).length]))) s.length ⟨0, by simp, Nat.zero_le _, .inl ⟨rfl, rfl, rfl⟩⟩ ?_
  rintro n env H ⟨i, rfl, hi, hcase⟩
  have hb := bt_bd s (i : Int).toNat
  have ht : i < s.length → showN (s.take (i + 1)) = showN (s.take i) ++ digs (bt s i) 8 8 := showN_take s i
  have hl := showN_len (s.take i)
  have h8 := digs_len (bt s i) 8 8
  rw [List.length_take] at hl
  rcases Nat.lt_or_ge i s.length with hlt | hge
  · rcases hcase with ⟨hi0, rfl, rfl⟩ | ⟨h0, rfl, rfl⟩
    · repeat (first | (apply AGo.append; (iterate 11 rfl); (first | rfl | (simp only [List.length_append, List.length_map, List.length_cons, List.length_nil]; omega)); (first | (simp only [List.length_append, List.length_map, List.length_cons, List.length_nil]; omega) | (simp only [octets_length, digs_len]; omega)); simp only [List.set_cons_zero, List.set_cons_succ]) | (apply AGo.appendN; (iterate 10 rfl); (first | (simp only [List.length_append, List.length_map, List.length_cons, List.length_nil]; omega) | (simp only [octets_length, digs_len]; omega)); simp only [List.nil_append, List.cons_append, List.length_nil, List.length_cons, Nat.reduceAdd]) | (apply AGo.strN; (iterate 11 rfl)) | (apply AGo.strB; (iterate 12 rfl)) | apply AGo.seq | apply AGo.block | apply AGo.blk | apply AGo.skip | apply AGo.nil | (apply AGo.region; rfl) | (apply AGo.q true; rfl; rfl; rfl; rfl; first | exact True.intro | omega | (simp only [Int.toNat_natCast, Int.reduceToNat, IntKind.bits]; omega) | (simp only [octets_length, digs_len]; omega)) | (apply AGo.callP (row8_c _ (bt_bd _ _)); (iterate 6 rfl)) | (apply AGo.condDT; rfl; first | omega | rfl) | (apply AGo.condDF; rfl; omega))
      refine AGo.done ⟨[(4, I ((i + 1 : Nat) : Int)), (3, .own 1 (octets (showN (s.take (i + 1)))) 0), (0, S s)], s.length - (i + 1), by omega, ⟨rfl, ?_, rfl, trivial⟩, i + 1, rfl, hlt, .inr ⟨by omega, rfl, ?_⟩⟩
      · subst hi0
        rw [ht hlt, showN_0, List.nil_append]; rfl
      · subst hi0
        rw [ht hlt, showN_0, List.nil_append]; rfl
    · repeat (first | (apply AGo.append; (iterate 11 rfl); (first | rfl | (simp only [List.length_append, List.length_map, List.length_cons, List.length_nil]; omega)); (first | (simp only [List.length_append, List.length_map, List.length_cons, List.length_nil]; omega) | (simp only [octets_length, digs_len, hl]; omega)); simp only [List.set_cons_zero, List.set_cons_succ]) | (apply AGo.appendN; (iterate 10 rfl); (first | (simp only [List.length_append, List.length_map, List.length_cons, List.length_nil]; omega) | (simp only [octets_length, digs_len, hl]; omega)); simp only [List.nil_append, List.cons_append, List.length_nil, List.length_cons, Nat.reduceAdd]) | (apply AGo.strN; (iterate 11 rfl)) | (apply AGo.strB; (iterate 12 rfl)) | apply AGo.seq | apply AGo.block | apply AGo.blk | apply AGo.skip | apply AGo.nil | (apply AGo.region; rfl) | (apply AGo.q true; rfl; rfl; rfl; rfl; first | exact True.intro | omega | (simp only [Int.toNat_natCast, Int.reduceToNat, IntKind.bits]; omega) | (simp only [octets_length, digs_len, hl]; omega)) | (apply AGo.callP (row8_c _ (bt_bd _ _)); (iterate 6 rfl)) | (apply AGo.condDT; rfl; first | omega | rfl) | (apply AGo.condDF; rfl; omega))
      refine AGo.done ⟨[(4, I ((i + 1 : Nat) : Int)), (3, .own 1 (octets (showN (s.take (i + 1)))) 0), (0, S s)], s.length - (i + 1), by omega, ⟨rfl, ?_, rfl, trivial⟩, i + 1, rfl, hlt, .inr ⟨by omega, rfl, ?_⟩⟩
      · rw [ht hlt, octets_append]; rfl
      · rw [ht hlt, octets_append]; rfl
  · rcases hcase with ⟨hi0, rfl, rfl⟩ | ⟨h0, rfl, rfl⟩
    · repeat (first | apply AGo.seq | apply AGo.block | apply AGo.blk | apply AGo.skip | apply AGo.nil | (apply AGo.region; rfl) | (apply AGo.q true; rfl; rfl; rfl; rfl; first | exact True.intro | omega | (simp only [Int.toNat_natCast, Int.reduceToNat, IntKind.bits]; omega)) | (apply AGo.condDT; rfl; first | omega | rfl) | (apply AGo.condDF; rfl; omega))
      refine AGo.out rfl ⟨_, rfl, ?_⟩
      repeat (first | (apply AGo.append; (iterate 11 rfl); (first | rfl | (simp only [List.length_append, List.length_map, List.length_cons, List.length_nil]; omega)); ((simp only [List.length_append, List.length_map, List.length_cons, List.length_nil]; omega)); simp only [List.set_cons_zero, List.set_cons_succ]) | (apply AGo.appendN; (iterate 10 rfl); ((simp only [List.length_append, List.length_map, List.length_cons, List.length_nil]; omega)); simp only [List.nil_append, List.cons_append, List.length_nil, List.length_cons, Nat.reduceAdd]) | (apply AGo.strN; (iterate 11 rfl)) | (apply AGo.strB; (iterate 12 rfl)) | apply AGo.seq | apply AGo.block | apply AGo.blk | apply AGo.skip | apply AGo.nil | (apply AGo.region; rfl) | (apply AGo.q true; rfl; rfl; rfl; rfl; first | exact True.intro | omega | (simp only [Int.toNat_natCast, Int.reduceToNat, IntKind.bits]; omega)) | (apply AGo.condDT; rfl; first | omega | rfl) | (apply AGo.condDF; rfl; omega))
      (apply AGo.retN; rfl; rfl; rfl; rfl)
      refine ⟨?_, rfl⟩
      have : s = [] := List.eq_nil_of_length_eq_zero (by omega)
      subst this
      unfold showN; rfl
    · repeat (first | apply AGo.seq | apply AGo.block | apply AGo.blk | apply AGo.skip | apply AGo.nil | (apply AGo.region; rfl) | (apply AGo.q true; rfl; rfl; rfl; rfl; first | exact True.intro | omega | (simp only [Int.toNat_natCast, Int.reduceToNat, IntKind.bits]; omega)) | (apply AGo.condDT; rfl; first | omega | rfl) | (apply AGo.condDF; rfl; omega))
      refine AGo.out rfl ⟨_, rfl, ?_⟩
      repeat (first | (apply AGo.append; (iterate 11 rfl); (first | rfl | (simp only [List.length_append, List.length_map, List.length_cons, List.length_nil]; omega)); ((simp only [List.length_append, List.length_map, List.length_cons, List.length_nil]; omega)); simp only [List.set_cons_zero, List.set_cons_succ]) | (apply AGo.appendN; (iterate 10 rfl); ((simp only [List.length_append, List.length_map, List.length_cons, List.length_nil]; omega)); simp only [List.nil_append, List.cons_append, List.length_nil, List.length_cons, Nat.reduceAdd]) | (apply AGo.strN; (iterate 11 rfl)) | (apply AGo.strB; (iterate 12 rfl)) | apply AGo.seq | apply AGo.block | apply AGo.blk | apply AGo.skip | apply AGo.nil | (apply AGo.region; rfl) | (apply AGo.q true; rfl; rfl; rfl; rfl; first | exact True.intro | omega | (simp only [Int.toNat_natCast, Int.reduceToNat, IntKind.bits]; omega)) | (apply AGo.condDT; rfl; first | omega | rfl) | (apply AGo.condDF; rfl; omega))
      (apply AGo.retN; rfl; rfl; rfl; rfl)
      exact ⟨by rw [List.take_of_length_le hge], rfl⟩
end Go.Proofs.YtdihjnifoikbeaaDoor.Av.Bt

/- The reference's rows of a table: begins, Take. -/
set_option linter.unusedSimpArgs false
set_option linter.unusedVariables false
set_option maxRecDepth 100000
namespace Go.Proofs.YtdihjnifoikbeaaDoor.Av.Bt
open Go
attribute [local irreducible] AGo ACalls
variable {gl : List (Nat × List D)}
theorem pre_iff (s w : List UInt8) (h : w.length ≤ s.length) : w.isPrefixOf s = decide (s.take w.length = w) := by
  rw [Bool.eq_iff_iff, List.isPrefixOf_iff_prefix, decide_eq_true_iff, List.prefix_iff_eq_take]
  exact eq_comm
set_option maxHeartbeats 2000000 in
theorem begins_c (s w : List UInt8) : ACalls (cxg gl) 128 [S s, S w] [] (fun r H => r = B (w.isPrefixOf s) ∧ H = []) := by
  refine ACalls.enter Tryd.func128 rfl Tryd.ntmps128 (by kernel_rfl) rfl ?_; simp only [argEnv, Nat.reduceAdd, List.length_nil, List.length_cons]
  by_cases h : w.length ≤ s.length
  · rw [pre_iff s w h]
    repeat' (first | apply AGo.seq | apply AGo.nil | (apply AGo.region; rfl) | (apply AGo.q true; rfl; rfl; rfl; rfl; first | exact True.intro | omega | (simp only [Int.toNat_natCast, Int.reduceToNat, IntKind.bits]; omega)) | (apply AGo.unguard; rfl; rfl) | (apply AGo.gT; rfl; rfl; rfl; first | omega | rfl) | (apply AGo.gF; rfl; rfl; rfl; omega) | (apply AGo.skipOp; rfl; rfl; rfl) | intro _ | (apply AGo.retN; rfl; rfl; rfl; rfl))
    all_goals refine ⟨?_, rfl⟩
    all_goals simp
  · have e : w.isPrefixOf s = false := by
      rw [Bool.eq_false_iff]
      intro hp
      exact h (List.isPrefixOf_iff_prefix.1 hp).length_le
    rw [e]
    repeat' (first | apply AGo.seq | apply AGo.nil | (apply AGo.region; rfl) | (apply AGo.q true; rfl; rfl; rfl; rfl; first | exact True.intro | omega | (simp only [Int.toNat_natCast, Int.reduceToNat, IntKind.bits]; omega)) | (apply AGo.unguard; rfl; rfl) | (apply AGo.gT; rfl; rfl; rfl; first | omega | rfl) | (apply AGo.gF; rfl; rfl; rfl; omega) | (apply AGo.skipOp; rfl; rfl; rfl) | intro _ | (apply AGo.retN; rfl; rfl; rfl; rfl))
    all_goals exact ⟨rfl, rfl⟩
def fidx (w : List UInt8) : List (List UInt8) → Nat → Option Nat
  | [], _ => none
  | r :: rs, i => if r = w then some i else fidx w rs (i + 1)
def t5 (rows : List (List UInt8)) (L : List UInt8) (p : Nat) : Nat → Nat → Int × Int × Int
  | 0, _ => (0, p, 3)
  | k + 1, n => if L.length < p + n then (0, p, 2) else
    match fidx ((L.drop p).take n) rows 0 with
    | some i => (i, ((p + n : Nat) : Int), 0)
    | none => if rows.any (fun r => ((L.drop p).take n).isPrefixOf r) then t5 rows L p k (n + 1) else (0, p, 3)
theorem take_any {α : Type} (l : List α) (p : α → Bool) (i : Nat) (x : α) (h : l[i]? = some x) : (l.take (i + 1)).any p = ((l.take i).any p || p x) := by
  have hl := getElem?_lt h
  rw [List.take_add_one, h]
  simp
attribute [local irreducible] rowsD
abbrev Tri (x : Int × Int × Int) : AV := .tup [I x.1, I x.2.1, I x.2.2]
set_option maxHeartbeats 2000000 in
theorem rtake_c (rows : List (List UInt8)) (L : List UInt8) (p : Nat) (hr : rows.length ≤ 1000000) (hL : L.length ≤ 1000000) (hp : p ≤ 1000000) :
    ACalls (cxg gl) 95 [.d (.sl 1 (rowsD rows)), S L, I p] [] (fun r H => r = Tri (t5 rows L p 25 1) ∧ H = []) := by
  have hrl := rowsD_len rows
  refine ACalls.enter Tryd.func95 rfl Tryd.ntmps95 (by kernel_rfl) rfl ?_; simp only [argEnv, Nat.reduceAdd, List.length_nil, List.length_cons]
  repeat (first | apply AGo.seq | apply AGo.block | apply AGo.blk | apply AGo.skip | apply AGo.nil | apply AGo.qnil | (apply AGo.region; rfl) | ((first | apply AGo.q true | apply AGo.qq true); rfl; rfl; rfl; rfl; first | exact True.intro | omega | (simp only [Int.toNat_natCast, Int.reduceToNat, IntKind.bits]; omega)) | (apply AGo.drawQ; rfl; rfl; decide +kernel) | (apply AGo.condDT; rfl; first | omega | rfl) | (apply AGo.condDF; rfl; omega) | (apply AGo.condT; rfl) | (apply AGo.condF; rfl) | (apply AGo.qunguard; rfl; rfl) | (apply AGo.cBT; rfl; first | (simp only [bT]; omega)) | (apply AGo.cBF; rfl; first | (simp only [bF]; omega) | exact ndF rfl) | (apply AGo.qskipOp; rfl; rfl; rfl))
  refine AGo.weak (env' := [(9, I 1), (2, I p), (1, S L), (0, .d (.sl 1 (rowsD rows)))]) ⟨rfl, rfl, rfl, rfl, trivial⟩ ?_
  refine AGo.loop (fun m env H => ∃ k : Nat, m = 25 - k ∧ k ≤ 25 ∧ t5 rows L p (25 - k) (k + 1) = t5 rows L p 25 1 ∧ env = [(9, I ((k + 1 : Nat) : Int)), (2, I p), (1, S L), (0, .d (.sl 1 (rowsD rows)))] ∧ H = []) 25
    ⟨0, rfl, by omega, rfl, rfl, rfl⟩ ?_
  rintro m env H ⟨k, rfl, hk, ht, rfl, rfl⟩
  rcases Nat.lt_or_ge k 25 with hlt | hge
  · rw [show 25 - k = (25 - (k + 1)) + 1 by omega, t5] at ht
    by_cases hs : L.length < p + (k + 1)
    · rw [if_pos hs] at ht
      repeat' (first | apply AGo.seq | apply AGo.block | apply AGo.blk | apply AGo.skip | apply AGo.nil | apply AGo.qnil | (apply AGo.region; rfl) | ((first | apply AGo.q true | apply AGo.qq true); rfl; rfl; rfl; rfl; first | exact True.intro | omega | (simp only [Int.toNat_natCast, Int.reduceToNat, IntKind.bits]; omega)) | (apply AGo.drawQ; rfl; rfl; decide +kernel) | (apply AGo.condDT; rfl; first | omega | rfl) | (apply AGo.condDF; rfl; omega) | (apply AGo.condT; rfl) | (apply AGo.condF; rfl) | (apply AGo.qunguard; rfl; rfl) | (apply AGo.cBT; rfl; first | (simp only [bT]; omega)) | (apply AGo.cBF; rfl; first | (simp only [bF]; omega) | exact ndF rfl) | (apply AGo.qskipOp; rfl; rfl; rfl) | intro _ | (apply AGo.retN; rfl; rfl; rfl; rfl) | (apply AGo.retL; rfl; rfl; rfl; rfl) | (apply AGo.retL2; rfl; rfl; rfl; rfl) | (apply AGo.outL; rfl; rfl))
      exact ⟨by rw [← ht], rfl⟩
    · rw [if_neg hs] at ht
      have hw : (L.take ((p : Int) + ((k + 1 : Nat) : Int)).toNat).drop (p : Int).toNat = (L.drop p).take (k + 1) := by
        rw [show ((p : Int) + ((k + 1 : Nat) : Int)).toNat = p + (k + 1) by omega, Int.toNat_natCast, List.drop_take]
        congr 1; omega
      generalize hwe : (L.drop p).take (k + 1) = w at *
      repeat (first | apply AGo.seq | apply AGo.block | apply AGo.blk | apply AGo.skip | apply AGo.nil | apply AGo.qnil | (apply AGo.region; rfl) | ((first | apply AGo.q true | apply AGo.qq true); rfl; rfl; rfl; rfl; first | exact True.intro | omega | (simp only [Int.toNat_natCast, Int.reduceToNat, IntKind.bits]; omega)) | (apply AGo.drawQ; rfl; rfl; decide +kernel) | (apply AGo.condDT; rfl; first | omega | rfl) | (apply AGo.condDF; rfl; omega) | (apply AGo.condT; rfl) | (apply AGo.condF; rfl) | (apply AGo.qunguard; rfl; rfl) | (apply AGo.cBT; rfl; first | (simp only [bT]; omega)) | (apply AGo.cBF; rfl; first | (simp only [bF]; omega) | exact ndF rfl) | (apply AGo.qskipOp; rfl; rfl; rfl))
      refine AGo.weak (env' := [(11, I 0), (10, B false), (9, I ((k + 1 : Nat) : Int)), (2, I p), (1, S L), (0, .d (.sl 1 (rowsD rows)))]) ⟨rfl, rfl, rfl, rfl, rfl, rfl, trivial⟩ ?_
      refine AGo.loop (fun m env H => ∃ (i : Nat) (sm : Bool), m = rows.length - i ∧ i ≤ rows.length ∧ fidx w (rows.drop i) i = fidx w rows 0 ∧ sm = (rows.take i).any (fun r => w.isPrefixOf r) ∧
        env = [(11, I (i : Int)), (10, B sm), (9, I ((k + 1 : Nat) : Int)), (2, I p), (1, S L), (0, .d (.sl 1 (rowsD rows)))] ∧ H = []) rows.length
        ⟨0, false, rfl, by omega, rfl, rfl, rfl, rfl⟩ ?_
      rintro m env H ⟨i, sm, rfl, hi, hf, hsm, rfl, rfl⟩
      rcases Nat.lt_or_ge i rows.length with hil | hig
      · obtain ⟨x, hx⟩ : ∃ x, rows[i]? = some x := ⟨_, List.getElem?_eq_getElem hil⟩
        have g1 : ((rowsD rows).getD i .top).cells[0]? = some (.str x) := by rw [rowsD_get rows i hil]; simp [List.getD, hx]
        rw [drop_cut _ _ _ hx, fidx] at hf
        have ha := take_any rows (fun r => w.isPrefixOf r) i x hx
        rw [← hsm] at ha
        have hb := begins_c (gl := gl) x w
        by_cases hxw : x = w
        · rw [if_pos hxw] at hf
          rw [← hf] at ht
          have hd : decide (x = (L.take ((p : Int) + ((k + 1 : Nat) : Int)).toNat).drop (p : Int).toNat) = true := by rw [hw]; exact decide_eq_true hxw
          repeat' (first | apply AGo.seq | apply AGo.block | apply AGo.blk | apply AGo.skip | apply AGo.nil | apply AGo.qnil | (apply AGo.region; rfl) | ((first | apply AGo.q true | apply AGo.qq true); rfl; rfl; rfl; rfl; first | exact True.intro | omega | (simp only [Int.toNat_natCast, Int.reduceToNat, IntKind.bits]; omega)) | (apply AGo.drawQ; rfl; rfl; decide +kernel) | (apply AGo.condDT; rfl; first | omega | rfl) | (apply AGo.condDF; rfl; omega) | (apply AGo.condT; rfl) | (apply AGo.condF; rfl) | (apply AGo.qunguard; rfl; rfl) | (apply AGo.cBT; rfl; first | (simp only [bT]; omega) | (exact hd)) | (apply AGo.cBF; rfl; first | (simp only [bF]; omega) | exact ndF rfl | (exact hd)) | (apply AGo.qskipOp; rfl; rfl; rfl) | (apply AGo.qloadG; (iterate 7 rfl); exact g1) | intro _ | (apply AGo.retN; rfl; rfl; rfl; rfl) | (apply AGo.retL; rfl; rfl; rfl; rfl) | (apply AGo.retL2; rfl; rfl; rfl; rfl) | (apply AGo.outL; rfl; rfl))
          exact ⟨by rw [← ht]; rfl, rfl⟩
        · rw [if_neg hxw] at hf
          have hd : decide (x = (L.take ((p : Int) + ((k + 1 : Nat) : Int)).toNat).drop (p : Int).toNat) = false := by rw [hw]; exact decide_eq_false hxw
          rw [← hw] at hb
          cases sm
          · repeat' (first | apply AGo.seq | apply AGo.block | apply AGo.blk | apply AGo.skip | apply AGo.nil | apply AGo.qnil | (apply AGo.region; rfl) | ((first | apply AGo.q true | apply AGo.qq true); rfl; rfl; rfl; rfl; first | exact True.intro | omega | (simp only [Int.toNat_natCast, Int.reduceToNat, IntKind.bits]; omega)) | (apply AGo.qcallP (hb); (iterate 7 rfl)) | (apply AGo.drawQ; rfl; rfl; decide +kernel) | (apply AGo.condDT; rfl; first | omega | rfl) | (apply AGo.condDF; rfl; omega) | (apply AGo.condT; rfl) | (apply AGo.condF; rfl) | (apply AGo.qunguard; rfl; rfl) | (apply AGo.cBT; rfl; first | (simp only [bT]; omega) | (exact hd)) | (apply AGo.cBF; rfl; first | (simp only [bF]; omega) | exact ndF rfl | (exact hd)) | (apply AGo.qskipOp; rfl; rfl; rfl) | (apply AGo.qloadG; (iterate 7 rfl); exact g1) | intro _ | (apply AGo.retN; rfl; rfl; rfl; rfl) | (apply AGo.retL; rfl; rfl; rfl; rfl) | (apply AGo.retL2; rfl; rfl; rfl; rfl) | (apply AGo.outL; rfl; rfl))
            refine AGo.round [(11, I ((i + 1 : Nat) : Int)), (10, B ((rows.take (i + 1)).any (fun r => w.isPrefixOf r))), (9, I ((k + 1 : Nat) : Int)), (2, I p), (1, S L), (0, .d (.sl 1 (rowsD rows)))] (rows.length - (i + 1)) (by omega) ⟨rfl, ?_, rfl, rfl, rfl, rfl, trivial⟩ ⟨i + 1, _, rfl, hil, hf, rfl, rfl, rfl⟩
            rw [ha, ← hw]
            rfl
          · repeat' (first | apply AGo.seq | apply AGo.block | apply AGo.blk | apply AGo.skip | apply AGo.nil | apply AGo.qnil | (apply AGo.region; rfl) | ((first | apply AGo.q true | apply AGo.qq true); rfl; rfl; rfl; rfl; first | exact True.intro | omega | (simp only [Int.toNat_natCast, Int.reduceToNat, IntKind.bits]; omega)) | (apply AGo.qcallP (hb); (iterate 7 rfl)) | (apply AGo.drawQ; rfl; rfl; decide +kernel) | (apply AGo.condDT; rfl; first | omega | rfl) | (apply AGo.condDF; rfl; omega) | (apply AGo.condT; rfl) | (apply AGo.condF; rfl) | (apply AGo.qunguard; rfl; rfl) | (apply AGo.cBT; rfl; first | (simp only [bT]; omega) | (exact hd)) | (apply AGo.cBF; rfl; first | (simp only [bF]; omega) | exact ndF rfl | (exact hd)) | (apply AGo.qskipOp; rfl; rfl; rfl) | (apply AGo.qloadG; (iterate 7 rfl); exact g1) | intro _ | (apply AGo.retN; rfl; rfl; rfl; rfl) | (apply AGo.retL; rfl; rfl; rfl; rfl) | (apply AGo.retL2; rfl; rfl; rfl; rfl) | (apply AGo.outL; rfl; rfl))
            refine AGo.round [(11, I ((i + 1 : Nat) : Int)), (10, B ((rows.take (i + 1)).any (fun r => w.isPrefixOf r))), (9, I ((k + 1 : Nat) : Int)), (2, I p), (1, S L), (0, .d (.sl 1 (rowsD rows)))] (rows.length - (i + 1)) (by omega) ⟨rfl, ?_, rfl, rfl, rfl, rfl, trivial⟩ ⟨i + 1, _, rfl, hil, hf, rfl, rfl, rfl⟩
            rw [ha]
            rfl
      · obtain rfl : i = rows.length := by omega
        rw [List.drop_length, fidx] at hf
        rw [← hf] at ht
        simp only at ht
        rw [List.take_length] at hsm
        rw [← hsm] at ht
        cases sm
        · repeat' (first | apply AGo.seq | apply AGo.block | apply AGo.blk | apply AGo.skip | apply AGo.nil | apply AGo.qnil | (apply AGo.region; rfl) | ((first | apply AGo.q true | apply AGo.qq true); rfl; rfl; rfl; rfl; first | exact True.intro | omega | (simp only [Int.toNat_natCast, Int.reduceToNat, IntKind.bits]; omega)) | (apply AGo.drawQ; rfl; rfl; decide +kernel) | (apply AGo.condDT; rfl; first | omega | rfl) | (apply AGo.condDF; rfl; omega) | (apply AGo.condT; rfl) | (apply AGo.condF; rfl) | (apply AGo.qunguard; rfl; rfl) | (apply AGo.cBT; rfl; first | (simp only [bT]; omega)) | (apply AGo.cBF; rfl; first | (simp only [bF]; omega) | exact ndF rfl) | (apply AGo.qskipOp; rfl; rfl; rfl) | intro _ | (apply AGo.retN; rfl; rfl; rfl; rfl) | (apply AGo.retL; rfl; rfl; rfl; rfl) | (apply AGo.retL2; rfl; rfl; rfl; rfl) | (apply AGo.outL; rfl; rfl))
          exact ⟨by rw [← ht]; rfl, rfl⟩
        · repeat' (first | apply AGo.seq | apply AGo.block | apply AGo.blk | apply AGo.skip | apply AGo.nil | apply AGo.qnil | (apply AGo.region; rfl) | ((first | apply AGo.q true | apply AGo.qq true); rfl; rfl; rfl; rfl; first | exact True.intro | omega | (simp only [Int.toNat_natCast, Int.reduceToNat, IntKind.bits]; omega)) | (apply AGo.drawQ; rfl; rfl; decide +kernel) | (apply AGo.condDT; rfl; first | omega | rfl) | (apply AGo.condDF; rfl; omega) | (apply AGo.condT; rfl) | (apply AGo.condF; rfl) | (apply AGo.qunguard; rfl; rfl) | (apply AGo.cBT; rfl; first | (simp only [bT]; omega)) | (apply AGo.cBF; rfl; first | (simp only [bF]; omega) | exact ndF rfl) | (apply AGo.qskipOp; rfl; rfl; rfl) | intro _ | (apply AGo.retN; rfl; rfl; rfl; rfl) | (apply AGo.retL; rfl; rfl; rfl; rfl) | (apply AGo.retL2; rfl; rfl; rfl; rfl) | (apply AGo.outL; rfl; rfl))
          exact AGo.round [(9, I ((k + 1 + 1 : Nat) : Int)), (2, I p), (1, S L), (0, .d (.sl 1 (rowsD rows)))] (25 - (k + 1)) (by omega) ⟨rfl, rfl, rfl, rfl, trivial⟩ ⟨k + 1, rfl, hlt, ht, rfl, rfl⟩
  · obtain rfl : k = 25 := by omega
    repeat (first | apply AGo.seq | apply AGo.block | apply AGo.blk | apply AGo.skip | apply AGo.nil | apply AGo.qnil | (apply AGo.region; rfl) | ((first | apply AGo.q true | apply AGo.qq true); rfl; rfl; rfl; rfl; first | exact True.intro | omega | (simp only [Int.toNat_natCast, Int.reduceToNat, IntKind.bits]; omega)) | (apply AGo.drawQ; rfl; rfl; decide +kernel) | (apply AGo.condDT; rfl; first | omega | rfl) | (apply AGo.condDF; rfl; omega) | (apply AGo.condT; rfl) | (apply AGo.condF; rfl) | (apply AGo.qunguard; rfl; rfl) | (apply AGo.cBT; rfl; first | (simp only [bT]; omega)) | (apply AGo.cBF; rfl; first | (simp only [bF]; omega) | exact ndF rfl) | (apply AGo.qskipOp; rfl; rfl; rfl))
    refine AGo.out rfl ⟨_, rfl, ?_⟩
    repeat (first | apply AGo.seq | apply AGo.block | apply AGo.blk | apply AGo.skip | apply AGo.nil | apply AGo.qnil | (apply AGo.region; rfl) | ((first | apply AGo.q true | apply AGo.qq true); rfl; rfl; rfl; rfl; first | exact True.intro | omega | (simp only [Int.toNat_natCast, Int.reduceToNat, IntKind.bits]; omega)) | (apply AGo.drawQ; rfl; rfl; decide +kernel) | (apply AGo.condDT; rfl; first | omega | rfl) | (apply AGo.condDF; rfl; omega) | (apply AGo.condT; rfl) | (apply AGo.condF; rfl) | (apply AGo.qunguard; rfl; rfl) | (apply AGo.cBT; rfl; first | (simp only [bT]; omega)) | (apply AGo.cBF; rfl; first | (simp only [bF]; omega) | exact ndF rfl) | (apply AGo.qskipOp; rfl; rfl; rfl))
    (apply AGo.retN; rfl; rfl; rfl; rfl)
    exact ⟨by rw [← ht]; rfl, rfl⟩
end Go.Proofs.YtdihjnifoikbeaaDoor.Av.Bt

/- The plain law of tables of rows: reading digit by digit. -/
set_option linter.unusedSimpArgs false
set_option linter.unusedVariables false
namespace Go.Proofs.YtdihjnifoikbeaaDoor.Av.Bt
open Go
/-- what one more digit tells -/
inductive RR where
  | done (i : Nat) (c : Nat) | fail | next (w : List UInt8)
def rstep (rows : List (List UInt8)) (w : List UInt8) (x : UInt8) : RR :=
  match fidx (w ++ [x]) rows 0 with
  | some i => .done i (w.length + 1)
  | none => if rows.any (fun r => (w ++ [x]).isPrefixOf r) then .next (w ++ [x]) else .fail
/-- which row stands there, what is wrong, how many digits it has -/
def rrun (rows : List (List UInt8)) : List UInt8 → List UInt8 → Int × Int × Nat
  | [], _ => (0, 2, 0)
  | x :: r, w => match rstep rows w x with
    | .done i c => ((i : Int), 0, c)
    | .fail => (0, 3, 0)
    | .next w' => rrun rows r w'
def rconv (p : Nat) (x : Int × Int × Nat) : Int × Int × Int := if x.2.1 = 0 then (x.1, ((p + x.2.2 : Nat) : Int), 0) else (0, (p : Int), x.2.1)
theorem any_pre {rows : List (List UInt8)} {w : List UInt8} (h : rows.any (fun r => w.isPrefixOf r) = true) : ∃ r ∈ rows, w.length ≤ r.length := by
  obtain ⟨r, hr, hp⟩ := List.any_eq_true.1 h
  exact ⟨r, hr, (List.isPrefixOf_iff_prefix.1 hp).length_le⟩
theorem t5_rrun (rows : List (List UInt8)) (L : List UInt8) (p : Nat) (hr : ∀ r ∈ rows, r.length ≤ 24) (hp : p ≤ L.length) : ∀ (D w : List UInt8) (k : Nat), L.drop p = w ++ D → w.length + 1 + k = 26 → (w = [] ∨ rows.any (fun r => w.isPrefixOf r) = true) →
    t5 rows L p k (w.length + 1) = rconv p (rrun rows D w)
  | D, w, 0, hd, hk, hw => by
    rcases hw with rfl | hw
    · simp at hk
    · obtain ⟨r, h1, h2⟩ := any_pre hw
      have := hr r h1
      omega
  | [], w, k + 1, hd, hk, hw => by
    rw [List.append_nil] at hd
    have hl : L.length = p + w.length := by rw [← hd, List.length_drop]; omega
    rw [t5, if_pos (by omega)]
    rfl
  | x :: D, w, k + 1, hd, hk, hw => by
    have hl : L.length = p + (w.length + 1 + D.length) := by
      have := congrArg List.length hd
      simp at this; omega
    have e : (L.drop p).take (w.length + 1) = w ++ [x] := by
      rw [hd, List.take_append, List.take_of_length_le (by omega)]
      simp
    rw [t5, if_neg (by omega), e, rrun, rstep]
    cases hf : fidx (w ++ [x]) rows 0 with
    | some i => simp [rconv]
    | none =>
      simp only
      by_cases ha : rows.any (fun r => (w ++ [x]).isPrefixOf r) = true
      · rw [if_pos ha, if_pos ha]
        have := t5_rrun rows L p hr hp D (w ++ [x]) k (by rw [hd]; simp) (by simp; omega) (.inr ha)
        rw [List.length_append] at this
        exact this
      · rw [if_neg ha, if_neg ha]
        rfl
theorem t5_all (rows : List (List UInt8)) (L : List UInt8) (p : Nat) (hr : ∀ r ∈ rows, r.length ≤ 24) (hp : p ≤ L.length) : t5 rows L p 25 1 = rconv p (rrun rows (L.drop p) []) :=
  t5_rrun rows L p hr hp (L.drop p) [] 25 rfl rfl (.inl rfl)
end Go.Proofs.YtdihjnifoikbeaaDoor.Av.Bt
