/- Cells: the reference's Row. -/
import Derived.Test.YtocmdllfdeiceaaGreatDoorCo8
set_option linter.unusedSimpArgs false
set_option linter.unusedVariables false
set_option maxRecDepth 100000
namespace Go.Proofs.YtocmdllfdeiceaaGreatDoor.Av.Co
open Go Bt Tc Wr Bl Mb Cb Mv
attribute [local irreducible] AGo ACalls
variable {gl : List (Nat × List D)}
def lumS (c : Cel) : Nat → Int
  | 0 => 0
  | 1 => bitS' c.e0
  | 2 => 2 * bitS' c.e0 + bitS' c.e1
  | 3 => 4 * bitS' c.e0 + 2 * bitS' c.e1 + bitS' c.e2
  | _ => 8 * bitS' c.e0 + 4 * bitS' c.e1 + 2 * bitS' c.e2 + bitS' c.e3
theorem lumS_4 (c : Cel) : lumS c 4 = codedS c / 2 ^ 2 := by
  have h1 := bitS'_bd c.e4
  have h2 := bitS'_bd c.e5
  show 8 * bitS' c.e0 + 4 * bitS' c.e1 + 2 * bitS' c.e2 + bitS' c.e3 = _
  unfold codedS; omega
theorem lum1 (c : Cel) : lumS c 1 = 2 * lumS c 0 + bitS' c.e0 := by simp only [lumS]; omega
theorem lum2 (c : Cel) : lumS c 2 = 2 * lumS c 1 + bitS' c.e1 := by simp only [lumS]
theorem lum3 (c : Cel) : lumS c 3 = 2 * lumS c 2 + bitS' c.e2 := by simp only [lumS]; omega
theorem lum4 (c : Cel) : lumS c 4 = 2 * lumS c 3 + bitS' c.e3 := by simp only [lumS]; omega
theorem lumS_bd (c : Cel) (i : Nat) : 0 ≤ lumS c i ∧ lumS c i ≤ 15 := by
  have := bitS'_bd c.e0
  have := bitS'_bd c.e1
  have := bitS'_bd c.e2
  have := bitS'_bd c.e3
  match i with
  | 0 => simp [lumS]
  | 1 => simp only [lumS]; omega
  | 2 => simp only [lumS]; omega
  | 3 => simp only [lumS]; omega
  | n + 4 => simp only [lumS]; omega
theorem chroma_bits (c : Cel) : chroma c = 2 * bitS' c.e4 + bitS' c.e5 := by
  have h1 := bitS'_bd c.e4
  have h2 := bitS'_bd c.e5
  rw [chroma_eq]; unfold codedS; omega
theorem kind_I {b : Bool} {c : Cel} (h : headMay b c = true) : (intraS c.kind = true → 2 < c.kind ∧ c.kind ≤ 4) ∧ (intraS c.kind = false → 0 ≤ c.kind ∧ c.kind < 2) := by
  have hb := headMay_bd h
  unfold headMay at h
  refine ⟨fun hi => ?_, fun hi => ?_⟩
  · have := of_decide_eq_true hi; omega
  · rw [hi] at h
    simp only [Bool.false_or, Bool.and_eq_true, decide_eq_true_eq] at h
    omega
theorem step_no {c : Cel} (h : stepMay c = true) (hT : steppedS c.kind = false) : stRow c.step = [] := by
  unfold stepMay at h
  rw [hT] at h
  simp only [Bool.and_eq_true, beq_iff_eq] at h
  exact st_nil _ h.1
theorem put_app (w : List UInt8) (b : Bool) (px py : Int) (c : Cel) : putRow w b px py c = w ++ putRow [] b px py c := by
  unfold putRow
  split <;> simp only [List.append_assoc, List.nil_append]
attribute [local irreducible] evsD mbRow codedS cbRow stRow mrow blRow blMay wrapS stIs chroma bitS' intraS steppedS
set_option maxHeartbeats 40000000 in
theorem rcrow_c (b : Bool) (px py : Int) (c : Cel) (ok : CelOk c) (hpx : I64 px) (hpy : I64 py) (h : rightS b c = true) : ACalls (cxg gl) 47 [B b, .d (prD px py), .d (celD c)] [] (fun r H => r = S (putRow [] b px py c) ∧ H = []) := by
  obtain ⟨hs, hcase⟩ := right_inv h
  obtain ⟨n, hn⟩ := Int.eq_ofNat_of_zero_le hs.1
  obtain ⟨s1, s2⟩ := stuffRow_ok b
  have r5 := rmbrow_c (gl := gl) b 5 0
  have la := (again_ok b).2
  have l5 := (mbRow_in b 5 0 (mbIs_st b)).2.1
  have lo : ∀ i, i ≤ 64 → ((List.replicate i (stuffRow b)).flatten).length ≤ 640 := fun i hi => by
    obtain ⟨_, k2⟩ := rep_ok (stuffRow b) s1 i
    rw [k2]
    exact Nat.mul_le_mul hi s2
  have e0 : ([] : List UInt8) = (List.replicate 0 (stuffRow b)).flatten := rfl
  have es : ∀ i, (List.replicate (i + 1) (stuffRow b)).flatten = ((List.replicate i (stuffRow b)).flatten ++ again b) ++ mbRow b 5 0 := fun i => by
    rw [rep_succ, List.append_assoc]; rfl
  have hpr : putRow [] b px py c = if c.skip = true then (List.replicate n (stuffRow b)).flatten ++ [49] else
      (((((((((((((List.replicate n (stuffRow b)).flatten ++ again b) ++ mbRow b c.kind (chroma c)) ++ cbRow (intraS c.kind) (lumS c 4)) ++ stR c) ++ mvR c c.mx px) ++ mvR c c.my py) ++ blRow (intraS c.kind) c.d0 c.e0) ++ blRow (intraS c.kind) c.d1 c.e1) ++ blRow (intraS c.kind) c.d2 c.e2) ++ blRow (intraS c.kind) c.d3 c.e3) ++ blRow (intraS c.kind) c.d4 c.e4) ++ blRow (intraS c.kind) c.d5 c.e5) := by
    unfold putRow headRow tailRow
    rw [lumS_4, hn, Int.toNat_natCast]
    split
    · simp only [List.nil_append]
    · simp only [List.nil_append, List.append_assoc]
  rw [hpr]
  rcases Bool.eq_false_or_eq_true b with hb | hb
  all_goals
    refine ACalls.enter Tryz.func47 rfl Tryz.ntmps47 (by kernel_rfl) rfl ?_; simp only [argEnv, Nat.reduceAdd, List.length_nil, List.length_cons]
    repeat (first | apply AGo.seq | apply AGo.block | apply AGo.blk | apply AGo.skip | apply AGo.nil | apply AGo.qnil | (apply AGo.region; rfl) | ((first | apply AGo.q true | apply AGo.qq true); rfl; rfl; rfl; rfl; first | exact True.intro | omega | (simp only [Int.toNat_natCast, Int.reduceToNat, IntKind.bits]; omega)) | (apply AGo.drawQ; rfl; rfl; decide +kernel) | (apply AGo.exit; rfl) | (apply AGo.condDT; rfl; first | omega | rfl) | (apply AGo.condDF; rfl; omega) | (apply AGo.condF; rfl) | (apply AGo.box; (iterate 6 rfl); simp only [nm, Nat.reduceAdd, spliceA, AV.cells, D.cells]) | (apply AGo.unguard; rfl; rfl) | (apply AGo.gF; rfl; rfl; rfl; omega) | (apply AGo.cBT; rfl; first | (simp only [bT]; omega) | (exact hb)) | (apply AGo.cBF; rfl; first | (simp only [bF]; omega) | exact ndF rfl | (exact hb)) | (apply AGo.skipOp; rfl; rfl; rfl))
    refine AGo.weak (env' := [(9, I ((0 : Nat) : Int)), (8, S []), (7, S (again b)), (5, .ptr 1 0), (4, .ptr 0 0), (0, B b)]) ⟨rfl, rfl, congrArg S (by rw [hb]; rfl), rfl, rfl, rfl, trivial⟩ ?_
    refine AGo.loop (fun m env H => ∃ i : Nat, m = n - i ∧ i ≤ n ∧ env = [(9, I (i : Int)), (8, S ((List.replicate i (stuffRow b)).flatten)), (7, S (again b)), (5, .ptr 1 0), (4, .ptr 0 0), (0, B b)] ∧ H = [.cells [I px, I py], .cells (celA c)]) n
      ⟨0, rfl, by omega, rfl, rfl⟩ ?_
    rintro m env H ⟨i, rfl, hi, rfl, rfl⟩
    have lo1 := lo i (by omega)
    rcases Nat.lt_or_ge i n with hlt | hge
    · repeat' (first | apply AGo.seq | apply AGo.block | apply AGo.blk | apply AGo.skip | apply AGo.nil | apply AGo.qnil | (apply AGo.region; rfl) | ((first | apply AGo.q true | apply AGo.qq true); rfl; rfl; rfl; rfl; first | exact True.intro | omega | (simp only [Int.toNat_natCast, Int.reduceToNat, IntKind.bits]; omega) | (simp only [List.length_append]; omega)) | (apply AGo.callP (r5); (iterate 6 rfl)) | (apply AGo.qcallP (r5); (iterate 7 rfl)) | (apply AGo.drawQ; rfl; rfl; decide +kernel) | (apply AGo.exit; rfl) | (apply AGo.condDT; rfl; first | omega | rfl) | (apply AGo.condDF; rfl; omega) | (apply AGo.condF; rfl) | (apply AGo.box; (iterate 6 rfl); simp only [nm, Nat.reduceAdd, spliceA, AV.cells, D.cells]) | (apply AGo.unguard; rfl; rfl) | (apply AGo.gF; rfl; rfl; rfl; omega) | (apply AGo.cBT; rfl; first | (simp only [bT]; omega)) | (apply AGo.cBF; rfl; first | (simp only [bF]; omega) | exact ndF rfl) | (apply AGo.skipOp; rfl; rfl; rfl) | intro _ | (apply AGo.condD' ; rfl) | (apply AGo.retN; rfl; rfl; rfl; rfl) | (apply AGo.outL; rfl; rfl))
      all_goals first | exact AGo.round [(9, I ((i + 1 : Nat) : Int)), (8, S ((List.replicate (i + 1) (stuffRow b)).flatten)), (7, S (again b)), (5, .ptr 1 0), (4, .ptr 0 0), (0, B b)] (n - (i + 1)) (by omega) ⟨rfl, congrArg S (es i).symm, rfl, rfl, rfl, rfl, trivial⟩ ⟨i + 1, rfl, hlt, rfl, rfl⟩ | omega | trace_state
    · obtain rfl : i = n := by omega
      rcases hcase with hk | ⟨hk, hm, hst, hv, hbl⟩
      · rw [if_pos hk]
        repeat' (first | apply AGo.seq | apply AGo.block | apply AGo.blk | apply AGo.skip | apply AGo.nil | apply AGo.qnil | (apply AGo.region; rfl) | ((first | apply AGo.q true | apply AGo.qq true); rfl; rfl; rfl; rfl; first | exact True.intro | omega | (simp only [Int.toNat_natCast, Int.reduceToNat, IntKind.bits]; omega) | (simp only [List.length_append, List.length_cons, List.length_nil]; omega)) | (apply AGo.drawQ; rfl; rfl; decide +kernel) | (apply AGo.exit; rfl) | (apply AGo.condDT; rfl; first | omega | rfl) | (apply AGo.condDF; rfl; omega) | (apply AGo.condF; rfl) | (apply AGo.box; (iterate 6 rfl); simp only [nm, Nat.reduceAdd, spliceA, AV.cells, D.cells]) | (apply AGo.unguard; rfl; rfl) | (apply AGo.gF; rfl; rfl; rfl; omega) | (apply AGo.cBT; rfl; first | (simp only [bT]; omega) | (exact hk)) | (apply AGo.cBF; rfl; first | (simp only [bF]; omega) | exact ndF rfl | (exact hk)) | (apply AGo.skipOp; rfl; rfl; rfl) | intro _ | (apply AGo.condD' ; rfl) | (apply AGo.retN; rfl; rfl; rfl; rfl) | (apply AGo.outL; rfl; rfl))
        all_goals first | exact ⟨rfl, rfl⟩ | (exfalso; omega) | trace_state
      · rw [if_neg (by rw [hk]; decide)]
        repeat (first | apply AGo.seq | apply AGo.block | apply AGo.blk | apply AGo.skip | apply AGo.nil | apply AGo.qnil | (apply AGo.region; rfl) | ((first | apply AGo.q true | apply AGo.qq true); rfl; rfl; rfl; rfl; first | exact True.intro | omega | (simp only [Int.toNat_natCast, Int.reduceToNat, IntKind.bits]; omega)) | (apply AGo.drawQ; rfl; rfl; decide +kernel) | (apply AGo.exit; rfl) | (apply AGo.condDT; rfl; first | omega | rfl) | (apply AGo.condDF; rfl; omega) | (apply AGo.condF; rfl) | (apply AGo.box; (iterate 6 rfl); simp only [nm, Nat.reduceAdd, spliceA, AV.cells, D.cells]) | (apply AGo.unguard; rfl; rfl) | (apply AGo.gF; rfl; rfl; rfl; omega) | (apply AGo.cBT; rfl; first | (simp only [bT]; omega) | (exact hk)) | (apply AGo.cBF; rfl; first | (simp only [bF]; omega) | exact ndF rfl | (exact hk)) | (apply AGo.skipOp; rfl; rfl; rfl))
        refine AGo.out rfl ⟨_, rfl, ?_⟩
        repeat (first | apply AGo.seq | apply AGo.block | apply AGo.blk | apply AGo.skip | apply AGo.nil | apply AGo.qnil | (apply AGo.region; rfl) | ((first | apply AGo.q true | apply AGo.qq true); rfl; rfl; rfl; rfl; first | exact True.intro | omega | (simp only [Int.toNat_natCast, Int.reduceToNat, IntKind.bits]; omega)) | (apply AGo.drawQ; rfl; rfl; decide +kernel) | (apply AGo.exit; rfl) | (apply AGo.condDT; rfl; first | omega | rfl) | (apply AGo.condDF; rfl; omega) | (apply AGo.condF; rfl) | (apply AGo.box; (iterate 6 rfl); simp only [nm, Nat.reduceAdd, spliceA, AV.cells, D.cells]) | (apply AGo.unguard; rfl; rfl) | (apply AGo.gF; rfl; rfl; rfl; omega) | (apply AGo.cBT; rfl; first | (simp only [bT]; omega) | (exact hk)) | (apply AGo.cBF; rfl; first | (simp only [bF]; omega) | exact ndF rfl | (exact hk)) | (apply AGo.skipOp; rfl; rfl; rfl))
        refine AGo.weak (env' := [(11, I ((0 : Nat) : Int)), (10, I (lumS c 0)), (8, S ((List.replicate i (stuffRow b)).flatten)), (7, S (again b)), (5, .ptr 1 0), (4, .ptr 0 0), (0, B b)]) ⟨rfl, rfl, rfl, rfl, rfl, rfl, rfl, trivial⟩ ?_
        refine AGo.loop (fun m env H => ∃ q : Nat, m = 4 - q ∧ q ≤ 4 ∧ env = [(11, I (q : Int)), (10, I (lumS c q)), (8, S ((List.replicate i (stuffRow b)).flatten)), (7, S (again b)), (5, .ptr 1 0), (4, .ptr 0 0), (0, B b)] ∧ H = [.cells [I px, I py], .cells (celA c)]) 4
          ⟨0, rfl, by omega, rfl, rfl⟩ ?_
        rintro m env H ⟨q, rfl, hq, rfl, rfl⟩
        have lb := lumS_bd c q
        rcases Nat.lt_or_ge q 4 with hlt4 | hge4
        · rcases (show q = 0 ∨ q = 1 ∨ q = 2 ∨ q = 3 by omega) with rfl | rfl | rfl | rfl
          · repeat' (first | apply AGo.seq | apply AGo.block | apply AGo.blk | apply AGo.skip | apply AGo.nil | apply AGo.qnil | (apply AGo.region; rfl) | ((first | apply AGo.q true | apply AGo.qq true); rfl; rfl; rfl; rfl; first | exact True.intro | omega | (simp only [Int.toNat_natCast, Int.reduceToNat, IntKind.bits]; omega) | (exact ⟨by omega, Nat.le_of_ble_eq_true rfl⟩)) | (apply AGo.drawQ; rfl; rfl; decide +kernel) | (apply AGo.exit; rfl) | (apply AGo.condDT; rfl; first | omega | rfl) | (apply AGo.condDF; rfl; omega) | (apply AGo.condF; rfl) | (apply AGo.box; (iterate 6 rfl); simp only [nm, Nat.reduceAdd, spliceA, AV.cells, D.cells]) | (apply AGo.unguard; rfl; rfl) | (apply AGo.gF; rfl; rfl; rfl; omega) | (apply AGo.cBT; rfl; first | (simp only [bT]; omega)) | (apply AGo.cBF; rfl; first | (simp only [bF]; omega) | exact ndF rfl) | (apply AGo.skipOp; rfl; rfl; rfl) | intro _ | (apply AGo.condD' ; rfl) | (apply AGo.retN; rfl; rfl; rfl; rfl) | (apply AGo.outL; rfl; rfl))
            all_goals first | exact AGo.round [(11, I ((1 : Nat) : Int)), (10, I (lumS c 1)), (8, S ((List.replicate i (stuffRow b)).flatten)), (7, S (again b)), (5, .ptr 1 0), (4, .ptr 0 0), (0, B b)] 3 (by omega) ⟨rfl, congrArg I (by first | rw [lum1, bit_pos (l := c.e0) (by assumption)] | rw [lum1, bit_neg (l := c.e0) (by assumption), Int.add_zero]), rfl, rfl, rfl, rfl, rfl, trivial⟩ ⟨1, rfl, by omega, rfl, rfl⟩ | trace_state
          · repeat' (first | apply AGo.seq | apply AGo.block | apply AGo.blk | apply AGo.skip | apply AGo.nil | apply AGo.qnil | (apply AGo.region; rfl) | ((first | apply AGo.q true | apply AGo.qq true); rfl; rfl; rfl; rfl; first | exact True.intro | omega | (simp only [Int.toNat_natCast, Int.reduceToNat, IntKind.bits]; omega) | (exact ⟨by omega, Nat.le_of_ble_eq_true rfl⟩)) | (apply AGo.drawQ; rfl; rfl; decide +kernel) | (apply AGo.exit; rfl) | (apply AGo.condDT; rfl; first | omega | rfl) | (apply AGo.condDF; rfl; omega) | (apply AGo.condF; rfl) | (apply AGo.box; (iterate 6 rfl); simp only [nm, Nat.reduceAdd, spliceA, AV.cells, D.cells]) | (apply AGo.unguard; rfl; rfl) | (apply AGo.gF; rfl; rfl; rfl; omega) | (apply AGo.cBT; rfl; first | (simp only [bT]; omega)) | (apply AGo.cBF; rfl; first | (simp only [bF]; omega) | exact ndF rfl) | (apply AGo.skipOp; rfl; rfl; rfl) | intro _ | (apply AGo.condD' ; rfl) | (apply AGo.retN; rfl; rfl; rfl; rfl) | (apply AGo.outL; rfl; rfl))
            all_goals first | exact AGo.round [(11, I ((2 : Nat) : Int)), (10, I (lumS c 2)), (8, S ((List.replicate i (stuffRow b)).flatten)), (7, S (again b)), (5, .ptr 1 0), (4, .ptr 0 0), (0, B b)] 2 (by omega) ⟨rfl, congrArg I (by first | rw [lum2, bit_pos (l := c.e1) (by assumption)] | rw [lum2, bit_neg (l := c.e1) (by assumption), Int.add_zero]), rfl, rfl, rfl, rfl, rfl, trivial⟩ ⟨2, rfl, by omega, rfl, rfl⟩ | trace_state
          · repeat' (first | apply AGo.seq | apply AGo.block | apply AGo.blk | apply AGo.skip | apply AGo.nil | apply AGo.qnil | (apply AGo.region; rfl) | ((first | apply AGo.q true | apply AGo.qq true); rfl; rfl; rfl; rfl; first | exact True.intro | omega | (simp only [Int.toNat_natCast, Int.reduceToNat, IntKind.bits]; omega) | (exact ⟨by omega, Nat.le_of_ble_eq_true rfl⟩)) | (apply AGo.drawQ; rfl; rfl; decide +kernel) | (apply AGo.exit; rfl) | (apply AGo.condDT; rfl; first | omega | rfl) | (apply AGo.condDF; rfl; omega) | (apply AGo.condF; rfl) | (apply AGo.box; (iterate 6 rfl); simp only [nm, Nat.reduceAdd, spliceA, AV.cells, D.cells]) | (apply AGo.unguard; rfl; rfl) | (apply AGo.gF; rfl; rfl; rfl; omega) | (apply AGo.cBT; rfl; first | (simp only [bT]; omega)) | (apply AGo.cBF; rfl; first | (simp only [bF]; omega) | exact ndF rfl) | (apply AGo.skipOp; rfl; rfl; rfl) | intro _ | (apply AGo.condD' ; rfl) | (apply AGo.retN; rfl; rfl; rfl; rfl) | (apply AGo.outL; rfl; rfl))
            all_goals first | exact AGo.round [(11, I ((3 : Nat) : Int)), (10, I (lumS c 3)), (8, S ((List.replicate i (stuffRow b)).flatten)), (7, S (again b)), (5, .ptr 1 0), (4, .ptr 0 0), (0, B b)] 1 (by omega) ⟨rfl, congrArg I (by first | rw [lum3, bit_pos (l := c.e2) (by assumption)] | rw [lum3, bit_neg (l := c.e2) (by assumption), Int.add_zero]), rfl, rfl, rfl, rfl, rfl, trivial⟩ ⟨3, rfl, by omega, rfl, rfl⟩ | trace_state
          · repeat' (first | apply AGo.seq | apply AGo.block | apply AGo.blk | apply AGo.skip | apply AGo.nil | apply AGo.qnil | (apply AGo.region; rfl) | ((first | apply AGo.q true | apply AGo.qq true); rfl; rfl; rfl; rfl; first | exact True.intro | omega | (simp only [Int.toNat_natCast, Int.reduceToNat, IntKind.bits]; omega) | (exact ⟨by omega, Nat.le_of_ble_eq_true rfl⟩)) | (apply AGo.drawQ; rfl; rfl; decide +kernel) | (apply AGo.exit; rfl) | (apply AGo.condDT; rfl; first | omega | rfl) | (apply AGo.condDF; rfl; omega) | (apply AGo.condF; rfl) | (apply AGo.box; (iterate 6 rfl); simp only [nm, Nat.reduceAdd, spliceA, AV.cells, D.cells]) | (apply AGo.unguard; rfl; rfl) | (apply AGo.gF; rfl; rfl; rfl; omega) | (apply AGo.cBT; rfl; first | (simp only [bT]; omega)) | (apply AGo.cBF; rfl; first | (simp only [bF]; omega) | exact ndF rfl) | (apply AGo.skipOp; rfl; rfl; rfl) | intro _ | (apply AGo.condD' ; rfl) | (apply AGo.retN; rfl; rfl; rfl; rfl) | (apply AGo.outL; rfl; rfl))
            all_goals first | exact AGo.round [(11, I ((4 : Nat) : Int)), (10, I (lumS c 4)), (8, S ((List.replicate i (stuffRow b)).flatten)), (7, S (again b)), (5, .ptr 1 0), (4, .ptr 0 0), (0, B b)] 0 (by omega) ⟨rfl, congrArg I (by first | rw [lum4, bit_pos (l := c.e3) (by assumption)] | rw [lum4, bit_neg (l := c.e3) (by assumption), Int.add_zero]), rfl, rfl, rfl, rfl, rfl, trivial⟩ ⟨4, rfl, by omega, rfl, rfl⟩ | trace_state
        · obtain rfl : q = 4 := by omega
          have hcd := codedS_bd c
          have r6 := rmbrow_c (gl := gl) b c.kind (chroma c)
          have r7 := Cb.rcrow_c (gl := gl) (intraS c.kind) (lumS c 4)
          have l6 := (mbRow_in b c.kind (chroma c) (mbIs_cel hm)).2.1
          have l7 := (cb_fine (intraS c.kind) (lumS c 4) lb).2
          have r20 := rstrow_c (gl := gl) c.step ok.step
          have l20 := (st_fine c.step).2
          have hki := kind_I hm
          unfold blksMay at hbl
          simp only [Bool.and_eq_true] at hbl
          obtain ⟨⟨⟨⟨⟨b0, b1⟩, b2⟩, b3⟩, b4⟩, b5⟩ := hbl
          have ic := rintra_c (gl := gl) c.kind
          have w1 := rwrap_c (gl := gl) px hpx
          have w2 := rwrap_c (gl := gl) py hpy
          have q1 := wrapS_bd px
          have q2 := wrapS_bd py
          have x0 := rbrow_c (gl := gl) _ _ _ b0
          have x1 := rbrow_c (gl := gl) _ _ _ b1
          have x2 := rbrow_c (gl := gl) _ _ _ b2
          have x3 := rbrow_c (gl := gl) _ _ _ b3
          have x4 := rbrow_c (gl := gl) _ _ _ b4
          have x5 := rbrow_c (gl := gl) _ _ _ b5
          have y0 := (bl_fine b0).2
          have y1 := (bl_fine b1).2
          have y2 := (bl_fine b2).2
          have y3 := (bl_fine b3).2
          have y4 := (bl_fine b4).2
          have y5 := (bl_fine b5).2
          have ec : chroma c = 2 * bitS' c.e4 + bitS' c.e5 := chroma_bits c
          have est : stR c = stRow c.step := by
            unfold stR
            rcases Bool.eq_false_or_eq_true (steppedS c.kind) with hT | hT
            · rw [if_pos hT]
            · rw [if_neg (by rw [hT]; decide), step_no hst hT]
          rw [est]
          unfold mvR
          rcases Bool.eq_false_or_eq_true (intraS c.kind) with hI | hI
          · rw [if_pos hI, if_pos hI, List.append_nil, List.append_nil]
            have hk2 := hki.1 hI
            rw [hI] at ic x0 x1 x2 x3 x4 x5 y0 y1 y2 y3 y4 y5 r7 l7 ⊢
            by_cases h4 : 0 < ((evsD c.e4).length : Int)
            all_goals by_cases h5 : 0 < ((evsD c.e5).length : Int)
            all_goals
              simp only [bit_pos, bit_neg, not_false_eq_true, h4, h5] at ec
              rw [ec] at r6 l6 ⊢
              repeat' (first | apply AGo.seq | apply AGo.block | apply AGo.blk | apply AGo.skip | apply AGo.nil | apply AGo.qnil | (apply AGo.region; rfl) | ((first | apply AGo.q true | apply AGo.qq true); rfl; rfl; rfl; rfl; first | exact True.intro | omega | (simp only [Int.toNat_natCast, Int.reduceToNat, IntKind.bits]; omega) | (simp only [List.length_append]; omega)) | (apply AGo.callP (r6); (iterate 6 rfl)) | (apply AGo.qcallP (r6); (iterate 7 rfl)) | (apply AGo.callP (r7); (iterate 6 rfl)) | (apply AGo.qcallP (r7); (iterate 7 rfl)) | (apply AGo.callP (r20); (iterate 6 rfl)) | (apply AGo.qcallP (r20); (iterate 7 rfl)) | (apply AGo.callP (ic); (iterate 6 rfl)) | (apply AGo.qcallP (ic); (iterate 7 rfl)) | (apply AGo.callP (x0); (iterate 6 rfl)) | (apply AGo.qcallP (x0); (iterate 7 rfl)) | (apply AGo.callP (x1); (iterate 6 rfl)) | (apply AGo.qcallP (x1); (iterate 7 rfl)) | (apply AGo.callP (x2); (iterate 6 rfl)) | (apply AGo.qcallP (x2); (iterate 7 rfl)) | (apply AGo.callP (x3); (iterate 6 rfl)) | (apply AGo.qcallP (x3); (iterate 7 rfl)) | (apply AGo.callP (x4); (iterate 6 rfl)) | (apply AGo.qcallP (x4); (iterate 7 rfl)) | (apply AGo.callP (x5); (iterate 6 rfl)) | (apply AGo.qcallP (x5); (iterate 7 rfl)) | (apply AGo.drawQ; rfl; rfl; decide +kernel) | (apply AGo.exit; rfl) | (apply AGo.condDT; rfl; first | omega | rfl) | (apply AGo.condDF; rfl; omega) | (apply AGo.condF; rfl) | (apply AGo.box; (iterate 6 rfl); simp only [nm, Nat.reduceAdd, spliceA, AV.cells, D.cells]) | (apply AGo.unguard; rfl; rfl) | (apply AGo.gF; rfl; rfl; rfl; omega) | (apply AGo.cBT; rfl; first | (simp only [bT]; omega)) | (apply AGo.cBF; rfl; first | (simp only [bF]; omega) | exact ndF rfl) | (apply AGo.skipOp; rfl; rfl; rfl) | apply AGo.loopU | apply AGo.lpU | intro _ | (apply AGo.condD' ; rfl) | (apply AGo.retN; rfl; rfl; rfl; rfl) | (apply AGo.outL; rfl; rfl))
              all_goals first | exact ⟨rfl, rfl⟩ | (exfalso; omega) | trace_state
          · rw [if_neg (by rw [hI]; decide), if_neg (by rw [hI]; decide)]
            have hk2 := hki.2 hI
            have hvv : wrapS c.mx = c.mx ∧ wrapS c.my = c.my := by
              unfold vectorS at hv
              rw [hI] at hv
              simpa using hv
            have v1 := wrapS_bd c.mx
            have v2 := wrapS_bd c.my
            rw [hvv.1] at v1
            rw [hvv.2] at v2
            have w3 := rwrap_c (gl := gl) (c.mx - wrapS px) (by omega)
            have w4 := rwrap_c (gl := gl) (c.my - wrapS py) (by omega)
            have m1 := rmrow_c (gl := gl) (wrapS (c.mx - wrapS px))
            have m2 := rmrow_c (gl := gl) (wrapS (c.my - wrapS py))
            have lm1 := (mrow_fine (c.mx - wrapS px)).2
            have lm2 := (mrow_fine (c.my - wrapS py)).2
            rw [hI] at ic x0 x1 x2 x3 x4 x5 y0 y1 y2 y3 y4 y5 r7 l7 ⊢
            by_cases h4 : 0 < ((evsD c.e4).length : Int)
            all_goals by_cases h5 : 0 < ((evsD c.e5).length : Int)
            all_goals
              simp only [bit_pos, bit_neg, not_false_eq_true, h4, h5] at ec
              rw [ec] at r6 l6 ⊢
              repeat' (first | apply AGo.seq | apply AGo.block | apply AGo.blk | apply AGo.skip | apply AGo.nil | apply AGo.qnil | (apply AGo.region; rfl) | ((first | apply AGo.q true | apply AGo.qq true); rfl; rfl; rfl; rfl; first | exact True.intro | omega | (simp only [Int.toNat_natCast, Int.reduceToNat, IntKind.bits]; omega) | (simp only [List.length_append]; omega)) | (apply AGo.callP (r6); (iterate 6 rfl)) | (apply AGo.qcallP (r6); (iterate 7 rfl)) | (apply AGo.callP (r7); (iterate 6 rfl)) | (apply AGo.qcallP (r7); (iterate 7 rfl)) | (apply AGo.callP (r20); (iterate 6 rfl)) | (apply AGo.qcallP (r20); (iterate 7 rfl)) | (apply AGo.callP (ic); (iterate 6 rfl)) | (apply AGo.qcallP (ic); (iterate 7 rfl)) | (apply AGo.callP (w1); (iterate 6 rfl)) | (apply AGo.qcallP (w1); (iterate 7 rfl)) | (apply AGo.callP (w2); (iterate 6 rfl)) | (apply AGo.qcallP (w2); (iterate 7 rfl)) | (apply AGo.callP (w3); (iterate 6 rfl)) | (apply AGo.qcallP (w3); (iterate 7 rfl)) | (apply AGo.callP (w4); (iterate 6 rfl)) | (apply AGo.qcallP (w4); (iterate 7 rfl)) | (apply AGo.callP (m1); (iterate 6 rfl)) | (apply AGo.qcallP (m1); (iterate 7 rfl)) | (apply AGo.callP (m2); (iterate 6 rfl)) | (apply AGo.qcallP (m2); (iterate 7 rfl)) | (apply AGo.callP (x0); (iterate 6 rfl)) | (apply AGo.qcallP (x0); (iterate 7 rfl)) | (apply AGo.callP (x1); (iterate 6 rfl)) | (apply AGo.qcallP (x1); (iterate 7 rfl)) | (apply AGo.callP (x2); (iterate 6 rfl)) | (apply AGo.qcallP (x2); (iterate 7 rfl)) | (apply AGo.callP (x3); (iterate 6 rfl)) | (apply AGo.qcallP (x3); (iterate 7 rfl)) | (apply AGo.callP (x4); (iterate 6 rfl)) | (apply AGo.qcallP (x4); (iterate 7 rfl)) | (apply AGo.callP (x5); (iterate 6 rfl)) | (apply AGo.qcallP (x5); (iterate 7 rfl)) | (apply AGo.drawQ; rfl; rfl; decide +kernel) | (apply AGo.exit; rfl) | (apply AGo.condDT; rfl; first | omega | rfl) | (apply AGo.condDF; rfl; omega) | (apply AGo.condF; rfl) | (apply AGo.box; (iterate 6 rfl); simp only [nm, Nat.reduceAdd, spliceA, AV.cells, D.cells]) | (apply AGo.unguard; rfl; rfl) | (apply AGo.gF; rfl; rfl; rfl; omega) | (apply AGo.cBT; rfl; first | (simp only [bT]; omega)) | (apply AGo.cBF; rfl; first | (simp only [bF]; omega) | exact ndF rfl) | (apply AGo.skipOp; rfl; rfl; rfl) | apply AGo.loopU | apply AGo.lpU | intro _ | (apply AGo.condD' ; rfl) | (apply AGo.retN; rfl; rfl; rfl; rfl) | (apply AGo.outL; rfl; rfl))
              all_goals first | exact ⟨rfl, rfl⟩ | (exfalso; omega) | trace_state
end Go.Proofs.YtocmdllfdeiceaaGreatDoor.Av.Co
