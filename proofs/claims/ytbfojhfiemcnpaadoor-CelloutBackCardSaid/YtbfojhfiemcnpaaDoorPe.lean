/- strings.Trim of binary digits; what may be a row. strings.Trim of the two digits; prefix.right. Maps of rows and of symbols, as the tables hold them. prefix's add: a code is taken in, or not. -/
import Derived.Test.YtbfojhfiemcnpaaDoorPd
import Derived.Test.YtbfojhfiemcnpaaDoorPm
/- strings.Trim of binary digits; what may be a row. -/
set_option linter.unusedSimpArgs false
set_option linter.unusedVariables false
set_option maxRecDepth 100000
namespace Go.Proofs.YtbfojhfiemcnpaaDoor.Av.Px
open Go Bt
attribute [local irreducible] AGo ACalls
variable {gl : List (Nat × List D)}
/-- the set of the two digits -/
def setD : List D := ((List.replicate 256 (D.bool false)).set 48 (.bool true)).set 49 (.bool true)
def setA : List AV := setD.map .d
theorem setA_eq : setA = ((List.replicate 256 (B false)).set 48 (B true)).set 49 (B true) := by
  unfold setA setD
  rw [List.map_set, List.map_set, List.map_replicate]
theorem setA_get (c : Int) (h : 0 ≤ c ∧ c ≤ 255) : setA[0 + c.toNat * 1]? = some (B (decide (c = 48) || decide (c = 49))) := by
  obtain ⟨n, rfl⟩ := Int.eq_ofNat_of_zero_le h.1
  rw [setA_eq, show 0 + ((n : Int)).toNat * 1 = n by omega, List.getElem?_set, List.getElem?_set]
  simp only [List.length_set, List.length_replicate, List.getElem?_replicate]
  by_cases h9 : n = 49
  · subst h9; simp
  · by_cases h8 : n = 48
    · subst h8; simp
    · rw [if_neg (by omega), if_neg (by omega), if_pos (by omega)]
      have e1 : ¬ ((n : Int) = 48) := by omega
      have e2 : ¬ ((n : Int) = 49) := by omega
      simp [e1, e2]
set_option maxHeartbeats 2000000 in
theorem contains_c (c : Int) (h : 0 ≤ c ∧ c ≤ 255) : ACalls (cxg gl) 95 [.ptr 0 0, .d (.int .u8 c)] [.cells setA] (fun r H => r = B (decide (c = 48) || decide (c = 49)) ∧ H = [.cells setA]) := by
  have g1 := setA_get c h
  refine ACalls.enter Tryd.func95 rfl Tryd.ntmps95 (by kernel_rfl) rfl ?_; simp only [argEnv, Nat.reduceAdd, List.length_nil, List.length_cons]
  repeat' (first | apply AGo.seq | apply AGo.nil | (apply AGo.region; rfl) | (apply AGo.q true; rfl; rfl; rfl; rfl; first | exact True.intro | omega | (simp only [Int.toNat_natCast, Int.reduceToNat, IntKind.bits]; omega)) | (apply AGo.loadO; (iterate 8 rfl); exact g1) | intro _ | (apply AGo.retN; rfl; rfl; rfl; rfl))
  all_goals exact ⟨rfl, rfl⟩
def trR (s : List UInt8) : List UInt8 := (s.reverse.dropWhile isDig).reverse
def trL (s : List UInt8) : List UInt8 := s.dropWhile isDig
theorem trR_snoc (s : List UInt8) (c : UInt8) : trR (s ++ [c]) = if isDig c = true then trR s else s ++ [c] := by
  unfold trR
  rw [List.reverse_append, List.reverse_singleton, List.singleton_append, List.dropWhile_cons]
  split
  · rfl
  · simp
theorem tr_nil (s : List UInt8) : trL (trR s) = [] ↔ s.all isDig = true := by
  have h1 : ∀ l : List UInt8, l.dropWhile isDig = [] ↔ l.all isDig = true := fun l => by
    induction l with
    | nil => simp
    | cons c l ih =>
      rw [List.dropWhile_cons, List.all_cons]
      cases hc : isDig c with
      | true => simpa using ih
      | false => simp
  have h2 : trR s = [] ↔ s.all isDig = true := by
    unfold trR
    rw [List.reverse_eq_nil_iff, h1, List.all_reverse]
  unfold trL
  rw [h1]
  constructor
  · intro h
    refine snoc_ind (P := fun s => (trR s).all isDig = true → s.all isDig = true) (fun _ => rfl) (fun l c ih h => ?_) s h
    rw [trR_snoc] at h
    split at h
    · rename_i hc
      rw [List.all_append, ih h]
      simp [hc]
    · exact h
  · intro h
    rw [h2.2 h]; rfl
theorem dig_bt (c : UInt8) : (decide ((c.toNat : Int) = 48) || decide ((c.toNat : Int) = 49)) = isDig c := by
  unfold isDig
  have h8 := toNat_eq (c := c) (n := 48) (by omega)
  have h9 := toNat_eq (c := c) (n := 49) (by omega)
  have e8 : decide ((c.toNat : Int) = 48) = decide (c = 48) := decide_eq_decide.2 h8
  have e9 : decide ((c.toNat : Int) = 49) = decide (c = 49) := decide_eq_decide.2 h9
  rw [e8, e9]
attribute [local irreducible] trR trL isDig
set_option maxHeartbeats 2000000 in
theorem trimR_c (s : List UInt8) (hs : s.length ≤ 9223372036854775807) : ACalls (cxg gl) 92 [S s, .ptr 0 0] [.cells setA] (fun r H => r = S (trR s) ∧ H = [.cells setA]) := by
  refine ACalls.enter Tryd.func92 rfl Tryd.ntmps92 (by kernel_rfl) rfl ?_; simp only [argEnv, Nat.reduceAdd, List.length_nil, List.length_cons]
  repeat (first | apply AGo.seq | apply AGo.block | apply AGo.blk | apply AGo.skip | apply AGo.nil | (apply AGo.region; rfl) | (apply AGo.q true; rfl; rfl; rfl; rfl; first | exact True.intro | omega | (simp only [Int.toNat_natCast, Int.reduceToNat, IntKind.bits]; omega)) | (apply AGo.condDT; rfl; first | omega | rfl) | (apply AGo.condT; rfl) | (apply AGo.condF; rfl))
  refine AGo.weak (env' := [(0, S s), (1, .ptr 0 0)]) ⟨rfl, rfl, trivial⟩ ?_
  refine AGo.loop (fun m env H => ∃ t : List UInt8, m = t.length ∧ t.length ≤ s.length ∧ trR t = trR s ∧ env = [(0, S t), (1, .ptr 0 0)] ∧ H = [.cells setA]) s.length
    ⟨s, rfl, Nat.le_refl _, rfl, rfl, rfl⟩ ?_
  rintro m env H ⟨t, rfl, hl, ht, rfl, rfl⟩
  rcases List.eq_nil_or_concat t with rfl | ⟨u, c, rfl⟩
  · rw [← ht]
    repeat' (first | apply AGo.seq | apply AGo.block | apply AGo.blk | apply AGo.skip | apply AGo.nil | (apply AGo.region; rfl) | (apply AGo.q true; rfl; rfl; rfl; rfl; first | exact True.intro | omega | (simp only [Int.toNat_natCast, Int.reduceToNat, IntKind.bits]; omega)) | (apply AGo.condDT; rfl; first | omega | rfl) | (apply AGo.condT; rfl) | (apply AGo.condF; rfl) | intro _ | (apply AGo.retN; rfl; rfl; rfl; rfl) | (apply AGo.outL; rfl; rfl))
    all_goals exact ⟨by unfold trR; rfl, rfl⟩
  · have hln : (u.concat c).length = u.length + 1 := by simp
    have hb : bt (u.concat c) (((u.concat c).length : Int) - 1).toNat = (c.toNat : Int) := bt_get _ _ _ (by rw [hln, show (((u.length + 1 : Nat) : Int) - 1).toNat = u.length by omega]; simp)
    have hc := contains_c (gl := gl) (bt (u.concat c) (((u.concat c).length : Int) - 1).toNat) (bt_bd _ _)
    rw [hb, dig_bt, ← hb] at hc
    have hd : (u.concat c).take (((u.concat c).length : Int) - 1).toNat = u := by rw [hln, show (((u.length + 1 : Nat) : Int) - 1).toNat = u.length by omega]; simp
    have ht' := ht
    rw [List.concat_eq_append, trR_snoc] at ht'
    cases hdc : isDig c with
    | true =>
      rw [hdc] at hc
      rw [if_pos hdc] at ht'
      repeat' (first | apply AGo.seq | apply AGo.block | apply AGo.blk | apply AGo.skip | apply AGo.nil | (apply AGo.region; rfl) | (apply AGo.q true; rfl; rfl; rfl; rfl; first | exact True.intro | omega | (simp only [Int.toNat_natCast, Int.reduceToNat, IntKind.bits]; omega)) | (apply AGo.callH [0] ( hc); (iterate 6 rfl); decide; rfl; rfl; simp only [names, putH, AV.ren, AV.renL, AObj.ren, nh, Nat.reduceAdd, Nat.reduceSub]) | (apply AGo.condDT; rfl; first | omega | rfl) | (apply AGo.condT; rfl) | (apply AGo.condF; rfl) | intro _ | (apply AGo.retN; rfl; rfl; rfl; rfl) | (apply AGo.outL; rfl; rfl))
      exact AGo.round [(0, S u), (1, .ptr 0 0)] u.length (by omega) ⟨congrArg S hd, rfl, trivial⟩ ⟨u, rfl, by omega, ht', rfl, rfl⟩
    | false =>
      rw [hdc] at hc
      rw [if_neg (by rw [hdc]; decide)] at ht'
      rw [← ht']
      repeat' (first | apply AGo.seq | apply AGo.block | apply AGo.blk | apply AGo.skip | apply AGo.nil | (apply AGo.region; rfl) | (apply AGo.q true; rfl; rfl; rfl; rfl; first | exact True.intro | omega | (simp only [Int.toNat_natCast, Int.reduceToNat, IntKind.bits]; omega)) | (apply AGo.callH [0] ( hc); (iterate 6 rfl); decide; rfl; rfl; simp only [names, putH, AV.ren, AV.renL, AObj.ren, nh, Nat.reduceAdd, Nat.reduceSub]) | (apply AGo.condDT; rfl; first | omega | rfl) | (apply AGo.condT; rfl) | (apply AGo.condF; rfl) | intro _ | (apply AGo.retN; rfl; rfl; rfl; rfl) | (apply AGo.outL; rfl; rfl))
      all_goals exact ⟨by rw [List.concat_eq_append], rfl⟩
set_option maxHeartbeats 2000000 in
theorem trimL_c (s : List UInt8) (hs : s.length ≤ 9223372036854775807) : ACalls (cxg gl) 91 [S s, .ptr 0 0] [.cells setA] (fun r H => r = S (trL s) ∧ H = [.cells setA]) := by
  refine ACalls.enter Tryd.func91 rfl Tryd.ntmps91 (by kernel_rfl) rfl ?_; simp only [argEnv, Nat.reduceAdd, List.length_nil, List.length_cons]
  repeat (first | apply AGo.seq | apply AGo.block | apply AGo.blk | apply AGo.skip | apply AGo.nil | (apply AGo.region; rfl) | (apply AGo.q true; rfl; rfl; rfl; rfl; first | exact True.intro | omega | (simp only [Int.toNat_natCast, Int.reduceToNat, IntKind.bits]; omega)) | (apply AGo.condDT; rfl; first | omega | rfl) | (apply AGo.condT; rfl) | (apply AGo.condF; rfl))
  refine AGo.weak (env' := [(0, S s), (1, .ptr 0 0)]) ⟨rfl, rfl, trivial⟩ ?_
  refine AGo.loop (fun m env H => ∃ t : List UInt8, m = t.length ∧ t.length ≤ s.length ∧ trL t = trL s ∧ env = [(0, S t), (1, .ptr 0 0)] ∧ H = [.cells setA]) s.length
    ⟨s, rfl, Nat.le_refl _, rfl, rfl, rfl⟩ ?_
  rintro m env H ⟨t, rfl, hl, ht, rfl, rfl⟩
  cases t with
  | nil =>
    rw [← ht]
    repeat' (first | apply AGo.seq | apply AGo.block | apply AGo.blk | apply AGo.skip | apply AGo.nil | (apply AGo.region; rfl) | (apply AGo.q true; rfl; rfl; rfl; rfl; first | exact True.intro | omega | (simp only [Int.toNat_natCast, Int.reduceToNat, IntKind.bits]; omega)) | (apply AGo.condDT; rfl; first | omega | rfl) | (apply AGo.condT; rfl) | (apply AGo.condF; rfl) | intro _ | (apply AGo.retN; rfl; rfl; rfl; rfl) | (apply AGo.outL; rfl; rfl))
    all_goals exact ⟨by unfold trL; rfl, rfl⟩
  | cons c u =>
    have hln : (c :: u).length = u.length + 1 := rfl
    have hb : bt (c :: u) (Int.toNat 0) = (c.toNat : Int) := rfl
    have hc := contains_c (gl := gl) (bt (c :: u) (Int.toNat 0)) (bt_bd _ _)
    rw [hb, dig_bt, ← hb] at hc
    have ht' := ht
    unfold trL at ht'
    rw [List.dropWhile_cons] at ht'
    cases hdc : isDig c with
    | true =>
      rw [hdc] at hc
      rw [if_pos hdc] at ht'
      repeat' (first | apply AGo.seq | apply AGo.block | apply AGo.blk | apply AGo.skip | apply AGo.nil | (apply AGo.region; rfl) | (apply AGo.q true; rfl; rfl; rfl; rfl; first | exact True.intro | omega | (simp only [Int.toNat_natCast, Int.reduceToNat, IntKind.bits]; omega)) | (apply AGo.callH [0] ( hc); (iterate 6 rfl); decide; rfl; rfl; simp only [names, putH, AV.ren, AV.renL, AObj.ren, nh, Nat.reduceAdd, Nat.reduceSub]) | (apply AGo.condDT; rfl; first | omega | rfl) | (apply AGo.condT; rfl) | (apply AGo.condF; rfl) | intro _ | (apply AGo.retN; rfl; rfl; rfl; rfl) | (apply AGo.outL; rfl; rfl))
      exact AGo.round [(0, S u), (1, .ptr 0 0)] u.length (by omega) ⟨rfl, rfl, trivial⟩ ⟨u, rfl, by omega, by unfold trL; exact ht', rfl, rfl⟩
    | false =>
      rw [hdc] at hc
      rw [if_neg (by rw [hdc]; decide)] at ht'
      have e : trL s = c :: u := by unfold trL; exact ht'.symm
      rw [e]
      repeat' (first | apply AGo.seq | apply AGo.block | apply AGo.blk | apply AGo.skip | apply AGo.nil | (apply AGo.region; rfl) | (apply AGo.q true; rfl; rfl; rfl; rfl; first | exact True.intro | omega | (simp only [Int.toNat_natCast, Int.reduceToNat, IntKind.bits]; omega)) | (apply AGo.callH [0] ( hc); (iterate 6 rfl); decide; rfl; rfl; simp only [names, putH, AV.ren, AV.renL, AObj.ren, nh, Nat.reduceAdd, Nat.reduceSub]) | (apply AGo.condDT; rfl; first | omega | rfl) | (apply AGo.condT; rfl) | (apply AGo.condF; rfl) | intro _ | (apply AGo.retN; rfl; rfl; rfl; rfl) | (apply AGo.outL; rfl; rfl))
      all_goals exact ⟨rfl, rfl⟩
end Go.Proofs.YtbfojhfiemcnpaaDoor.Av.Px

/- strings.Trim of the two digits; prefix.right. -/
set_option linter.unusedSimpArgs false
set_option linter.unusedVariables false
set_option maxRecDepth 100000
namespace Go.Proofs.YtbfojhfiemcnpaaDoor.Av.Px
open Go Bt
attribute [local irreducible] AGo ACalls
variable {gl : List (Nat × List D)}
set_option maxHeartbeats 4000000 in
theorem makeSet_c : ACalls (cxg gl) 90 [S [48, 49]] [] (fun r H => r = .tup [.d (.agg setD), B true] ∧ H = []) := by
  refine ACalls.enter Tryd.func90 rfl Tryd.ntmps90 (by kernel_rfl) rfl ?_; simp only [argEnv, Nat.reduceAdd, List.length_nil, List.length_cons]
  repeat (first | apply AGo.seq | apply AGo.block | apply AGo.blk | apply AGo.skip | apply AGo.nil | (apply AGo.region; rfl) | (apply AGo.q true; rfl; rfl; rfl; rfl; first | exact True.intro | omega | (simp only [Int.toNat_natCast, Int.reduceToNat, IntKind.bits]; omega)) | (apply AGo.exit; rfl) | (apply AGo.condT; rfl) | (apply AGo.condF; rfl) | (apply AGo.alloc; (iterate 5 rfl); simp only [nm, Nat.reduceAdd, spliceA, AV.cells, D.cells]) | (apply AGo.store; (iterate 9 rfl); exact Nat.le_of_ble_eq_true rfl; simp only [nm, Nat.reduceAdd, spliceA, AV.cells, D.cells]))
  refine AGo.loopU ?_
  repeat (first | apply AGo.seq | apply AGo.block | apply AGo.blk | apply AGo.skip | apply AGo.nil | (apply AGo.region; rfl) | (apply AGo.q true; rfl; rfl; rfl; rfl; first | exact True.intro | omega | (simp only [Int.toNat_natCast, Int.reduceToNat, IntKind.bits]; omega) | decide) | (apply AGo.exit; rfl) | (apply AGo.condT; rfl) | (apply AGo.condF; rfl) | (apply AGo.alloc; (iterate 5 rfl); simp only [nm, Nat.reduceAdd, spliceA, AV.cells, D.cells]) | (apply AGo.store; (iterate 9 rfl); exact Nat.le_of_ble_eq_true rfl; simp only [nm, Nat.reduceAdd, spliceA, AV.cells, D.cells]))
  refine AGo.lpU ?_
  repeat (first | apply AGo.seq | apply AGo.block | apply AGo.blk | apply AGo.skip | apply AGo.nil | (apply AGo.region; rfl) | (apply AGo.q true; rfl; rfl; rfl; rfl; first | exact True.intro | omega | (simp only [Int.toNat_natCast, Int.reduceToNat, IntKind.bits]; omega) | decide) | (apply AGo.exit; rfl) | (apply AGo.condT; rfl) | (apply AGo.condF; rfl) | (apply AGo.alloc; (iterate 5 rfl); simp only [nm, Nat.reduceAdd, spliceA, AV.cells, D.cells]) | (apply AGo.store; (iterate 9 rfl); exact Nat.le_of_ble_eq_true rfl; simp only [nm, Nat.reduceAdd, spliceA, AV.cells, D.cells]))
  refine AGo.lpU ?_
  repeat (first | apply AGo.seq | apply AGo.block | apply AGo.blk | apply AGo.skip | apply AGo.nil | (apply AGo.region; rfl) | (apply AGo.q true; rfl; rfl; rfl; rfl; first | exact True.intro | omega | (simp only [Int.toNat_natCast, Int.reduceToNat, IntKind.bits]; omega) | decide) | (apply AGo.exit; rfl) | (apply AGo.condT; rfl) | (apply AGo.condF; rfl) | (apply AGo.alloc; (iterate 5 rfl); simp only [nm, Nat.reduceAdd, spliceA, AV.cells, D.cells]) | (apply AGo.store; (iterate 9 rfl); exact Nat.le_of_ble_eq_true rfl; simp only [nm, Nat.reduceAdd, spliceA, AV.cells, D.cells]))
  (apply AGo.retN; rfl; rfl; rfl; rfl)
  exact ⟨rfl, rfl⟩
attribute [local irreducible] trR trL isDig
set_option maxHeartbeats 4000000 in
theorem trim_c (s : List UInt8) (hs : s.length ≤ 9223372036854775807) : ACalls (cxg gl) 82 [S s, S [48, 49]] [] (fun r H => r = S (trL (trR s)) ∧ H = []) := by
  have hl : (trR s).length ≤ 9223372036854775807 := by
    have : (trR s).length ≤ s.length := by
      unfold trR
      rw [List.length_reverse]
      refine Nat.le_trans (List.Sublist.length_le (List.dropWhile_sublist _)) ?_
      rw [List.length_reverse]; exact Nat.le_refl _
    omega
  have h1 := trimR_c (gl := gl) s hs
  have h2 := trimL_c (gl := gl) (trR s) hl
  by_cases h0 : s = []
  · subst h0
    have e : trL (trR []) = [] := by unfold trL trR; rfl
    rw [e]
    refine ACalls.enter Tryd.func82 rfl Tryd.ntmps82 (by kernel_rfl) rfl ?_; simp only [argEnv, Nat.reduceAdd, List.length_nil, List.length_cons]
    repeat' (first | apply AGo.seq | apply AGo.skip | apply AGo.nil | (apply AGo.region; rfl) | (apply AGo.q true; rfl; rfl; rfl; rfl; first | exact True.intro | omega | (simp only [Int.toNat_natCast, Int.reduceToNat, IntKind.bits]; omega)) | (apply AGo.condT; rfl) | (apply AGo.condF; rfl) | (apply AGo.alloc; (iterate 5 rfl); simp only [nm, Nat.reduceAdd, spliceA, AV.cells, D.cells]) | (apply AGo.store; (iterate 9 rfl); exact Nat.le_of_ble_eq_true rfl; simp only [nm, Nat.reduceAdd, spliceA, AV.cells, D.cells]) | (apply AGo.unguard; rfl; rfl) | (apply AGo.gT; rfl; rfl; rfl; first | omega | rfl) | (apply AGo.gF; rfl; rfl; rfl; omega) | (apply AGo.skipOp; rfl; rfl; rfl) | intro _ | (apply AGo.retN; rfl; rfl; rfl; rfl))
    all_goals exact ⟨rfl, rfl⟩
  · have k1 : (decide (s = ({ data := #[] } : ByteArray).data.toList)) = false := decide_eq_false (by intro h; exact h0 h)
    refine ACalls.enter Tryd.func82 rfl Tryd.ntmps82 (by kernel_rfl) rfl ?_; simp only [argEnv, Nat.reduceAdd, List.length_nil, List.length_cons]
    repeat' (first | apply AGo.seq | apply AGo.skip | apply AGo.nil | (apply AGo.region; rfl) | (apply AGo.q true; rfl; rfl; rfl; rfl; first | exact True.intro | omega | (simp only [Int.toNat_natCast, Int.reduceToNat, IntKind.bits]; omega)) | (apply AGo.callH [0] ( h1); (iterate 6 rfl); decide; rfl; rfl; simp only [names, putH, AV.ren, AV.renL, AObj.ren, nh, Nat.reduceAdd, Nat.reduceSub]) | (apply AGo.callH [0] ( h2); (iterate 6 rfl); decide; rfl; rfl; simp only [names, putH, AV.ren, AV.renL, AObj.ren, nh, Nat.reduceAdd, Nat.reduceSub]) | (apply AGo.callP (makeSet_c); (iterate 6 rfl)) | (apply AGo.condT; rfl) | (apply AGo.condF; rfl) | (apply AGo.alloc; (iterate 5 rfl); simp only [nm, Nat.reduceAdd, spliceA, AV.cells, D.cells]) | (apply AGo.store; (iterate 9 rfl); exact Nat.le_of_ble_eq_true rfl; simp only [nm, Nat.reduceAdd, spliceA, AV.cells, D.cells]) | (apply AGo.unguard; rfl; rfl) | (apply AGo.gT; rfl; rfl; rfl; first | omega | rfl) | (apply AGo.gF; rfl; rfl; rfl; omega) | (apply AGo.skipOp; rfl; rfl; rfl) | intro _ | (apply AGo.retN; rfl; rfl; rfl; rfl))
    all_goals first | exact ⟨rfl, rfl⟩ | (exfalso; simp_all) | trace_state
/-- what may be a row -/
def rightB (row : List UInt8) : Bool := !decide (row = []) && decide (row.length ≤ 24) && row.all isDig
set_option maxHeartbeats 4000000 in
theorem right_c (s : List UInt8) (hs : s.length ≤ 9223372036854775807) : ACalls (cxg gl) 79 [S s] [] (fun r H => r = B (rightB s) ∧ H = []) := by
  have ht := trim_c (gl := gl) s hs
  have hn := tr_nil s
  by_cases h0 : s = []
  · subst h0
    refine ACalls.enter Tryd.func79 rfl Tryd.ntmps79 (by kernel_rfl) rfl ?_; simp only [argEnv, Nat.reduceAdd, List.length_nil, List.length_cons]
    repeat' (first | apply AGo.seq | apply AGo.nil | (apply AGo.region; rfl) | (apply AGo.q true; rfl; rfl; rfl; rfl; first | exact True.intro | omega | (simp only [Int.toNat_natCast, Int.reduceToNat, IntKind.bits]; omega)) | (apply AGo.unguard; rfl; rfl) | (apply AGo.gT; rfl; rfl; rfl; first | omega | rfl) | (apply AGo.gF; rfl; rfl; rfl; omega) | (apply AGo.gBT; rfl; rfl; rfl; first | (simp only [bT]; omega)) | (apply AGo.gBF; rfl; rfl; rfl; first | (simp only [bF]; omega) | exact ndF rfl) | (apply AGo.skipOp; rfl; rfl; rfl) | intro _ | (apply AGo.retN; rfl; rfl; rfl; rfl))
    all_goals exact ⟨rfl, rfl⟩
  · have k1 : (!decide (s = ({ data := #[] } : ByteArray).data.toList)) = true := by
      have : decide (s = ({ data := #[] } : ByteArray).data.toList) = false := decide_eq_false (by intro h; exact h0 h)
      rw [this]; rfl
    by_cases h24 : s.length ≤ 24
    · have e : rightB s = s.all isDig := by simp [rightB, h0, h24]
      rw [e]
      have e2 : decide (trL (trR s) = ({ data := #[] } : ByteArray).data.toList) = s.all isDig := by
        rw [Bool.eq_iff_iff, decide_eq_true_iff]; exact hn
      refine ACalls.enter Tryd.func79 rfl Tryd.ntmps79 (by kernel_rfl) rfl ?_; simp only [argEnv, Nat.reduceAdd, List.length_nil, List.length_cons]
      repeat' (first | apply AGo.seq | apply AGo.nil | (apply AGo.region; rfl) | (apply AGo.q true; rfl; rfl; rfl; rfl; first | exact True.intro | omega | (simp only [Int.toNat_natCast, Int.reduceToNat, IntKind.bits]; omega)) | (apply AGo.callP (ht); (iterate 6 rfl)) | (apply AGo.unguard; rfl; rfl) | (apply AGo.gT; rfl; rfl; rfl; first | omega | rfl) | (apply AGo.gF; rfl; rfl; rfl; omega) | (apply AGo.gBT; rfl; rfl; rfl; first | (simp only [bT]; omega) | (exact k1)) | (apply AGo.gBF; rfl; rfl; rfl; first | (simp only [bF]; omega) | exact ndF rfl | (exact k1)) | (apply AGo.skipOp; rfl; rfl; rfl) | intro _ | (apply AGo.retN; rfl; rfl; rfl; rfl))
      all_goals first | exact ⟨congrArg B (by rw [e2]; simp [h0, h24]), rfl⟩ | (exfalso; simp_all) | trace_state
    · have e : rightB s = false := by simp [rightB, h24]
      rw [e]
      refine ACalls.enter Tryd.func79 rfl Tryd.ntmps79 (by kernel_rfl) rfl ?_; simp only [argEnv, Nat.reduceAdd, List.length_nil, List.length_cons]
      repeat' (first | apply AGo.seq | apply AGo.nil | (apply AGo.region; rfl) | (apply AGo.q true; rfl; rfl; rfl; rfl; first | exact True.intro | omega | (simp only [Int.toNat_natCast, Int.reduceToNat, IntKind.bits]; omega)) | (apply AGo.callP (ht); (iterate 6 rfl)) | (apply AGo.unguard; rfl; rfl) | (apply AGo.gT; rfl; rfl; rfl; first | omega | rfl) | (apply AGo.gF; rfl; rfl; rfl; omega) | (apply AGo.gBT; rfl; rfl; rfl; first | (simp only [bT]; omega) | (exact k1)) | (apply AGo.gBF; rfl; rfl; rfl; first | (simp only [bF]; omega) | exact ndF rfl | (exact k1)) | (apply AGo.skipOp; rfl; rfl; rfl) | intro _ | (apply AGo.retN; rfl; rfl; rfl; rfl))
      all_goals first | exact ⟨rfl, rfl⟩ | exact ⟨congrArg B (by simp), rfl⟩ | (exfalso; simp_all) | trace_state
end Go.Proofs.YtbfojhfiemcnpaaDoor.Av.Px

/- Maps of rows and of symbols, as the tables hold them. -/
set_option linter.unusedSimpArgs false
set_option linter.unusedVariables false
set_option maxRecDepth 100000
namespace Go.Proofs.YtbfojhfiemcnpaaDoor.Av.Px
open Go Bt
def smap (l : List (List UInt8 × Int)) : List (D × D) := l.map fun p => (.str p.1, .int .i64 p.2)
def imap (l : List (Int × Int)) : List (D × D) := l.map fun p => (.int .i64 p.1, .int .i64 p.2)
def gfind {α : Type} [DecidableEq α] (w : α) : List (α × Int) → Nat → Option (Nat × Int)
  | [], _ => none
  | (k, v) :: r, i => if w = k then some (i, v) else gfind w r (i + 1)
theorem mfind_smap (w : List UInt8) : ∀ (l : List (List UInt8 × Int)) (i : Nat), mfind (.str w) (smap l) i = some ((gfind w l i).map fun p => (p.1, .int .i64 p.2))
  | [], i => rfl
  | (k, v) :: r, i => by
    simp only [smap, List.map_cons, mfind, kCmp, gfind]
    by_cases h : w = k
    · rw [if_pos h, decide_eq_true h]; rfl
    · rw [if_neg h, decide_eq_false h]
      exact mfind_smap w r (i + 1)
theorem mfind_imap (w : Int) : ∀ (l : List (Int × Int)) (i : Nat), mfind (.int .i64 w) (imap l) i = some ((gfind w l i).map fun p => (p.1, .int .i64 p.2))
  | [], i => rfl
  | (k, v) :: r, i => by
    simp only [imap, List.map_cons, mfind, kCmp, gfind, decide_true, cond_true]
    by_cases h : w = k
    · rw [if_pos h, decide_eq_true h]; rfl
    · rw [if_neg h, decide_eq_false h]
      exact mfind_imap w r (i + 1)
def gval {α : Type} [DecidableEq α] (w : α) (l : List (α × Int)) : Int := match gfind w l 0 with | some (_, v) => v | none => 0
/-- a value is laid at a key -/
def gput {α : Type} [DecidableEq α] (l : List (α × Int)) (w : α) (v : Int) : List (α × Int) := match gfind w l 0 with
  | some (i, _) => l.modify i fun p => (p.1, v)
  | none => l ++ [(w, v)]
theorem smap_put (l : List (List UInt8 × Int)) (w : List UInt8) (v : Int) : mput (smap l) (.str w) (.int .i64 v) ((gfind w l 0).map fun p => (p.1, .int .i64 p.2)) = smap (gput l w v) := by
  unfold gput
  cases hf : gfind w l 0 with
  | none => simp [mput, smap]
  | some jv =>
    obtain ⟨j, u⟩ := jv
    simp only [Option.map_some, mput, msetV, smap]
    apply List.ext_getElem?
    intro i
    simp only [List.getElem?_modify, List.getElem?_map]
    cases hi : l[i]? with
    | none => simp
    | some p =>
      by_cases e : j = i <;> simp [e]
theorem gfind_shift {α : Type} [DecidableEq α] (w : α) : ∀ (l : List (α × Int)) (i : Nat), gfind w l i = (gfind w l 0).map fun p => (p.1 + i, p.2)
  | [], i => rfl
  | (k, v) :: r, i => by
    simp only [gfind]
    by_cases h : w = k
    · simp [h]
    · rw [if_neg h, if_neg h, gfind_shift w r (i + 1), gfind_shift w r (0 + 1)]
      cases gfind w r 0 with
      | none => rfl
      | some p => simp; omega
theorem gval_nil {α : Type} [DecidableEq α] (w : α) : gval w ([] : List (α × Int)) = 0 := rfl
theorem gval_cons {α : Type} [DecidableEq α] (w k : α) (v : Int) (r : List (α × Int)) : gval w ((k, v) :: r) = if w = k then v else gval w r := by
  unfold gval
  simp only [gfind]
  by_cases h : w = k
  · simp [h]
  · rw [if_neg h, if_neg h, gfind_shift w r (0 + 1)]
    cases gfind w r 0 <;> simp
theorem gput_nil {α : Type} [DecidableEq α] (w : α) (v : Int) : gput ([] : List (α × Int)) w v = [(w, v)] := rfl
theorem gput_cons {α : Type} [DecidableEq α] (w k : α) (v u : Int) (r : List (α × Int)) : gput ((k, u) :: r) w v = if w = k then (k, v) :: r else (k, u) :: gput r w v := by
  unfold gput
  simp only [gfind]
  by_cases h : w = k
  · simp [h]
  · rw [if_neg h, if_neg h, gfind_shift w r (0 + 1)]
    cases gfind w r 0 with
    | none => simp
    | some p => simp [List.modify_succ_cons]
theorem gval_put {α : Type} [DecidableEq α] (x w : α) (v : Int) : ∀ l : List (α × Int), gval x (gput l w v) = if x = w then v else gval x l
  | [] => by rw [gput_nil, gval_cons]
  | (k, u) :: r => by
    rw [gput_cons]
    by_cases h : w = k
    · subst h
      rw [if_pos rfl, gval_cons, gval_cons]
      by_cases h2 : x = w <;> simp [h2]
    · rw [if_neg h, gval_cons, gval_cons, gval_put x w v r]
      by_cases h2 : x = k
      · subst h2
        rw [if_pos rfl, if_pos rfl, if_neg (fun e => h e.symm)]
      · rw [if_neg h2, if_neg h2]
/-- each beginning of a row counts one more -/
def bumps (row : List UInt8) : Nat → List (List UInt8 × Int) → List (List UInt8 × Int)
  | 0, l => l
  | k + 1, l => gput (bumps row k l) (row.take (k + 1)) (gval (row.take (k + 1)) (bumps row k l) + 1)
theorem bumps_bd (row : List UInt8) (l : List (List UInt8 × Int)) (N : Int) (h : ∀ w, 0 ≤ gval w l ∧ gval w l ≤ N) : ∀ (k : Nat) (w : List UInt8), 0 ≤ gval w (bumps row k l) ∧ gval w (bumps row k l) ≤ N + k
  | 0, w => by have := h w; simp [bumps]; omega
  | k + 1, w => by
    have h1 := bumps_bd row l N h k w
    have h2 := bumps_bd row l N h k (row.take (k + 1))
    rw [bumps, gval_put]
    split <;> omega
/-- a code, as the slice of codes has it -/
def codeD (p : List UInt8 × Int) : D := .agg [.str p.1, .int .i64 p.2]
def codesD (l : List (List UInt8 × Int)) : List D := l.map codeD
theorem codesD_len (l : List (List UInt8 × Int)) : (codesD l).length = l.length := by simp [codesD]
theorem codesD_snoc (l : List (List UInt8 × Int)) (p : List UInt8 × Int) : codesD (l ++ [p]) = codesD l ++ [codeD p] := by simp [codesD]
/-- what a table knows -/
structure Tb where
  codes : List (List UInt8 × Int)
  sym : List (List UInt8 × Int)
  rws : List (Int × Int)
  beg : List (List UInt8 × Int)
  lng : Int
def addB (t : Tb) (row : List UInt8) (sy : Int) : Bool :=
  (gfind sy t.rws 0).isNone && rightB row && decide (gval row t.beg ≤ 0) && (List.range row.length).all fun n => (gfind (row.take (n + 1)) t.sym 0).isNone
def addT (t : Tb) (row : List UInt8) (sy : Int) : Tb :=
  ⟨t.codes ++ [(row, sy)], t.sym ++ [(row, (t.codes.length : Int))], t.rws ++ [(sy, (t.codes.length : Int))], bumps row row.length t.beg, max t.lng row.length⟩
/-- the objects of a table: without a code yet, and with some -/
def tob0 (t : Tb) : List AObj := [.cells [.d .nils, .mp 1, .mp 2, .mp 3, I t.lng], .map (smap t.sym), .map (imap t.rws), .map (smap t.beg)]
def tob1 (t : Tb) : List AObj := [.cells [.own 2 (codesD t.codes) 4, .mp 1, .mp 2, .mp 3, I t.lng], .map (smap t.sym), .map (imap t.rws), .map (smap t.beg), .front 99 2 (codesD t.codes).length]
end Go.Proofs.YtbfojhfiemcnpaaDoor.Av.Px

/- prefix's add: a code is taken in, or not. -/
set_option linter.unusedSimpArgs false
set_option linter.unusedVariables false
set_option maxRecDepth 100000
namespace Go.Proofs.YtbfojhfiemcnpaaDoor.Av.Px
open Go Bt
attribute [local irreducible] AGo ACalls
variable {gl : List (Nat × List D)}
theorem msetV_last (l : List (D × D)) (k z v : D) (n : Int) (hn : n = (l.length : Int)) : msetV (l ++ [(k, z)]) n.toNat v = l ++ [(k, v)] := by
  subst hn
  unfold msetV
  rw [Int.toNat_natCast]
  induction l with
  | nil => rfl
  | cons x l ih => simpa [List.modify_succ_cons] using ih
theorem smap_snoc (l : List (List UInt8 × Int)) (w : List UInt8) (v : Int) : smap (l ++ [(w, v)]) = smap l ++ [(.str w, .int .i64 v)] := by simp [smap]
theorem imap_snoc (l : List (Int × Int)) (w : Int) (v : Int) : imap (l ++ [(w, v)]) = imap l ++ [(.int .i64 w, .int .i64 v)] := by simp [imap]
theorem addB_iff (t : Tb) (row : List UInt8) (sy : Int) : addB t row sy = true ↔ gfind sy t.rws 0 = none ∧ rightB row = true ∧ gval row t.beg ≤ 0 ∧ ∀ n, n < row.length → gfind (row.take (n + 1)) t.sym 0 = none := by
  unfold addB
  simp only [Bool.and_eq_true, Option.isNone_iff_eq_none, decide_eq_true_eq, List.all_eq_true, List.mem_range, and_assoc]
theorem gval_some {α : Type} [DecidableEq α] {w : α} {l : List (α × Int)} {j : Nat} {v : Int} (h : gfind w l 0 = some (j, v)) : gval w l = v := by unfold gval; rw [h]
theorem gval_none {α : Type} [DecidableEq α] {w : α} {l : List (α × Int)} (h : gfind w l 0 = none) : gval w l = 0 := by unfold gval; rw [h]
theorem tk1 (row : List UInt8) (k : Nat) : row.take ((k : Int) + 1).toNat = row.take (k + 1) := by rw [show ((k : Int) + 1).toNat = k + 1 by omega]
attribute [local irreducible] smap imap codesD rightB bumps
end Go.Proofs.YtbfojhfiemcnpaaDoor.Av.Px
