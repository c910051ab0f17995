/- Cells are read: the document's Take, cells of kind 3. -/
import Derived.Test.YtdihjnifoikbeaaDoorPq7
set_option linter.unusedSimpArgs false
set_option linter.unusedVariables false
set_option maxRecDepth 100000
namespace Go.Proofs.YtdihjnifoikbeaaDoor.Av.Ci
open Go Bt Tc Co Bl
attribute [local irreducible] AGo ACalls ARegH ARegK ARegK1 AReg
variable {gl : List (Nat × List D)}
attribute [local irreducible] blX bitsF Tc.evsD cdb cbN mvN stN wrapS showN
set_option maxHeartbeats 64000000 in
theorem rtk3_c (b : Bool) (px py st ch : Int) (u : Nat) (s : List UInt8) (p : Nat) (hpx : I64 px) (hpy : I64 py) (hs : s.length ≤ 100000) (hch : 0 ≤ ch ∧ ch ≤ 3) (hu : p + u ≤ 8 * s.length)
    (rb : ACalls (cxg gl) 51 [S (showN s), I p, B b] [] (fun r H => r = .tup [.d (celQ st false 3), I ch, I ((p + u : Nat) : Int), I 0] ∧ H = [])) :
    ACalls (cxg gl) 21 [S (showN s), I p, B b, .d (.agg [In px, In py])] []
    (fun r H => r = .tup [.d (celD (celT px py (bitsF s p) ⟨st, false, 3, ch, 0, u⟩).1), I ((p + (celT px py (bitsF s p) ⟨st, false, 3, ch, 0, u⟩).2.2 : Nat) : Int), I (celT px py (bitsF s p) ⟨st, false, 3, ch, 0, u⟩).2.1] ∧ H = []) := by
  have e00 : evsD [] = [] := by unfold Tc.evsD; rfl
  have hI : intraS 3 = true := rfl
  have hS : steppedS 3 = false := rfl
  have ri := rintra21_c (gl := gl) 3
  rw [hI] at ri
  have w1 := rwrap_c (gl := gl) px hpx
  have w2 := rwrap_c (gl := gl) py hpy
  have wb1 := wrapS_bd px
  have wb2 := wrapS_bd py
  have ww := fun n h => rwrap_c (gl := gl) n h
  have hBl := bitsF_len s
  have bl := fun c q hq => rbltake_c (gl := gl) s q true c hs hq
  have ble := fun c q hq => blX_le true c s q hq
  unfold celT
  simp only [ne_eq, not_true_eq_false, if_false, Bool.false_eq_true, bits_drop, hI]
  obtain ⟨M, hM⟩ : ∃ M, M = mdX 3 px py (bitsF s (p + u)) := ⟨_, rfl⟩
  rw [← hM]
  unfold mdX mdM at hM
  simp only [bits_drop, hI, hS, if_true, Bool.false_eq_true, if_false] at hM
  have cb := rcbt_c (gl := gl) true s (p + u) hs hu
  have cl := cbN_le true (bitsF s (p + u))
  have cp := cbN_pat true (bitsF s (p + u))
  rw [hBl] at cl
  generalize cbN true (bitsF s (p + u)) = x at *
  obtain ⟨pat, ce, cu⟩ := x
  simp only at cb cl cp hM
  by_cases hce : ce = 0
  · subst hce
    simp only [ne_eq, not_true_eq_false, if_false] at hM
    subst hM
    simp only [not_true_eq_false, if_false]
    generalize hY : bdX true (cds (4 * pat + ch)) (bitsF s (p + u)) (cu) = Y
    unfold cds at hY
    refine ACalls.enter Tryd.func21 rfl Tryd.ntmps21 (by kernel_rfl) rfl ?_; simp only [argEnv, Nat.reduceAdd, List.length_nil, List.length_cons]
    repeat' (first | (apply AGo.drawY [0, 1, 2, 3, 4, 5, 6, 7, 8, 9, 10, 11, 12, 13, 14, 15, 16, 17, 18, 19] 20 20; rfl) | (apply ARegH.pureX; rfl; (apply PureTo.q true; rfl; rfl; first | exact True.intro | omega); exact fun _ _ _ h => h; (iterate 6 rfl); kernel_rfl; kernel_rfl) | (apply ARegH.load; rfl; rfl; (first | exact True.intro | omega); exact fun _ _ _ h => h; (iterate 6 rfl); kernel_rfl; kernel_rfl) | (apply ARegH.go) | (apply ARegK.fin; kernel_rfl) | (apply ARegK.pureX; rfl; (apply PureTo.q true; rfl; rfl; first | exact True.intro | omega); exact fun _ _ _ h => h; (iterate 6 rfl); kernel_rfl; kernel_rfl) | (apply ARegK.call (rb); (iterate 8 rfl); kernel_rfl; rfl; rfl; rfl; try simp only [names, putH, AV.ren, AV.renL, AObj.ren, nh, Nat.reduceAdd, Nat.reduceSub]) | (apply ARegK.call (ri); (iterate 8 rfl); kernel_rfl; rfl; rfl; rfl; try simp only [names, putH, AV.ren, AV.renL, AObj.ren, nh, Nat.reduceAdd, Nat.reduceSub]) | (apply ARegK.call (cb); (iterate 8 rfl); kernel_rfl; rfl; rfl; rfl; try simp only [names, putH, AV.ren, AV.renL, AObj.ren, nh, Nat.reduceAdd, Nat.reduceSub]) | (exact AGo.mid0) | apply AGo.seq | apply AGo.block | apply AGo.blk | apply AGo.skip | apply AGo.nil | (apply AGo.region; rfl) | (apply AGo.q true; rfl; rfl; rfl; rfl; first | exact True.intro | omega | (simp only [Int.toNat_natCast, Int.reduceToNat, IntKind.bits]; omega)) | (apply AGo.callP (rb); (iterate 6 rfl)) | (apply AGo.callP (ri); (iterate 6 rfl)) | (apply AGo.callP (cb); (iterate 6 rfl)) | (apply AGo.exit; rfl) | (apply AGo.condDT; rfl; first | omega | rfl) | (apply AGo.condDF; rfl; omega) | (apply AGo.condF; rfl) | (apply AGo.alloc; (iterate 5 rfl); simp only [nm, Nat.reduceAdd, spliceA, AV.cells, D.cells]) | (apply AGo.box; (iterate 6 rfl); simp only [nm, Nat.reduceAdd, spliceA, AV.cells, D.cells]) | (apply AGo.store; (iterate 9 rfl); exact Nat.le_of_ble_eq_true rfl; simp only [nm, Nat.reduceAdd, spliceA, AV.cells, D.cells]) | (apply AGo.build; (iterate 5 rfl); simp only [nm, Nat.reduceAdd, spliceA, AV.cells, D.cells, mkAgg, unDs, AV.unD]) | (apply AGo.unguard; rfl; rfl) | (apply AGo.cBT; rfl; first | (simp only [bT]; omega)) | intro _ | (apply AGo.retN; rfl; rfl; rfl; rfl) | (apply AGo.outL; rfl; rfl))
    apply AGo.loopU
    repeat' (first | (apply AGo.drawY [0, 1, 2, 3, 4, 5, 6, 7, 8, 9, 10, 11, 12, 13, 14, 15, 16, 17, 18, 19] 20 20; rfl) | (apply ARegH.pureX; rfl; (apply PureTo.q true; rfl; rfl; first | exact True.intro | omega); exact fun _ _ _ h => h; (iterate 6 rfl); kernel_rfl; kernel_rfl) | (apply ARegH.load; rfl; rfl; (first | exact True.intro | omega); exact fun _ _ _ h => h; (iterate 6 rfl); kernel_rfl; kernel_rfl) | (apply ARegH.go) | (apply ARegK.fin; kernel_rfl) | (apply ARegK.pureX; rfl; (apply PureTo.q true; rfl; rfl; first | exact True.intro | omega); exact fun _ _ _ h => h; (iterate 6 rfl); kernel_rfl; kernel_rfl) | (apply ARegK.call (rb); (iterate 8 rfl); kernel_rfl; rfl; rfl; rfl; try simp only [names, putH, AV.ren, AV.renL, AObj.ren, nh, Nat.reduceAdd, Nat.reduceSub]) | (apply ARegK.call (ri); (iterate 8 rfl); kernel_rfl; rfl; rfl; rfl; try simp only [names, putH, AV.ren, AV.renL, AObj.ren, nh, Nat.reduceAdd, Nat.reduceSub]) | (apply ARegK.call (cb); (iterate 8 rfl); kernel_rfl; rfl; rfl; rfl; try simp only [names, putH, AV.ren, AV.renL, AObj.ren, nh, Nat.reduceAdd, Nat.reduceSub]) | (exact AGo.mid0) | apply AGo.seq | apply AGo.block | apply AGo.blk | apply AGo.skip | apply AGo.nil | (apply AGo.region; rfl) | (apply AGo.q true; rfl; rfl; rfl; rfl; first | exact True.intro | omega | (simp only [Int.toNat_natCast, Int.reduceToNat, IntKind.bits]; omega)) | (apply AGo.callP (rb); (iterate 6 rfl)) | (apply AGo.callP (ri); (iterate 6 rfl)) | (apply AGo.callP (cb); (iterate 6 rfl)) | (apply AGo.exit; rfl) | (apply AGo.condDT; rfl; first | omega | rfl) | (apply AGo.condDF; rfl; omega) | (apply AGo.condF; rfl) | (apply AGo.alloc; (iterate 5 rfl); simp only [nm, Nat.reduceAdd, spliceA, AV.cells, D.cells]) | (apply AGo.box; (iterate 6 rfl); simp only [nm, Nat.reduceAdd, spliceA, AV.cells, D.cells]) | (apply AGo.store; (iterate 9 rfl); exact Nat.le_of_ble_eq_true rfl; simp only [nm, Nat.reduceAdd, spliceA, AV.cells, D.cells]) | (apply AGo.build; (iterate 5 rfl); simp only [nm, Nat.reduceAdd, spliceA, AV.cells, D.cells, mkAgg, unDs, AV.unD]) | (apply AGo.unguard; rfl; rfl) | (apply AGo.cBT; rfl; first | (simp only [bT]; omega)) | intro _ | (apply AGo.retN; rfl; rfl; rfl; rfl) | (apply AGo.outL; rfl; rfl))
    refine AGo.weak (env' := [(24, I 0), (23, I 32), (15, I (4 * pat + ch)), (13, I ((p + u + cu : Nat) : Int)), (11, .ptr 2 0), (8, .ptr 1 0), (1, I p), (0, S (showN s))]) ⟨rfl, rfl, rfl, rfl, rfl, rfl, rfl, rfl, trivial⟩ ?_
    refine AGo.loop (fun m env H => ∃ (i : Nat) (j y : Int) (q : Nat) (L : List (Int × List Ev)), j = i ∧ y = 32 / 2 ^ i ∧ m = 6 - i ∧ i ≤ 6 ∧ p + u + cu + q ≤ 8 * s.length ∧ L.length = i ∧ bdA L (bdX true (List.drop i [cdb (4 * pat + ch) 0, cdb (4 * pat + ch) 1, cdb (4 * pat + ch) 2, cdb (4 * pat + ch) 3, cdb (4 * pat + ch) 4, cdb (4 * pat + ch) 5]) (bitsF s (p + u)) (cu + q)) = Y ∧ env = [(24, I j), (23, I y), (15, I (4 * pat + ch)), (13, I ((p + u + cu + q : Nat) : Int)), (11, .ptr 2 0), (8, .ptr 1 0), (1, I p), (0, S (showN s))] ∧ H = [.cells [I px, I py], .cells (celZ 0 false 0), .cells (celB st 3 0 0 0 L)]) 6
      ⟨0, 0, 32, 0, [], rfl, rfl, rfl, by omega, by omega, rfl, hY, rfl, rfl⟩ ?_
    rintro m env H ⟨i, j, y, q, L, hj, hy, rfl, hi, hq, hL, hY, rfl, rfl⟩
    rcases Nat.lt_or_ge i 6 with hi6 | hi6
    · obtain ⟨f, rfl⟩ := of_len L hL
      have hdr : List.drop i [cdb (4 * pat + ch) 0, cdb (4 * pat + ch) 1, cdb (4 * pat + ch) 2, cdb (4 * pat + ch) 3, cdb (4 * pat + ch) 4, cdb (4 * pat + ch) 5] = cdb (4 * pat + ch) i :: List.drop (i + 1) [cdb (4 * pat + ch) 0, cdb (4 * pat + ch) 1, cdb (4 * pat + ch) 2, cdb (4 * pat + ch) 3, cdb (4 * pat + ch) 4, cdb (4 * pat + ch) 5] := by
        rcases (show i = 0 ∨ i = 1 ∨ i = 2 ∨ i = 3 ∨ i = 4 ∨ i = 5 by omega) with rfl | rfl | rfl | rfl | rfl | rfl <;> rfl
      have bb := bl (cdb (4 * pat + ch) i) (p + u + cu + q) hq
      have gg := ble (cdb (4 * pat + ch) i) (p + u + cu + q) hq
      have oo := @bdX_ok true (cdb (4 * pat + ch) i) (List.drop (i + 1) [cdb (4 * pat + ch) 0, cdb (4 * pat + ch) 1, cdb (4 * pat + ch) 2, cdb (4 * pat + ch) 3, cdb (4 * pat + ch) 4, cdb (4 * pat + ch) 5]) s (p + u) (cu + q)
      have xx := @bdX_err true (cdb (4 * pat + ch) i) (List.drop (i + 1) [cdb (4 * pat + ch) 0, cdb (4 * pat + ch) 1, cdb (4 * pat + ch) 2, cdb (4 * pat + ch) 3, cdb (4 * pat + ch) 4, cdb (4 * pat + ch) 5]) s (p + u) (cu + q)
      rw [show p + u + (cu + q) = p + u + cu + q by omega] at oo xx
      rw [hdr] at hY
      generalize blX true (cdb (4 * pat + ch) i) (bitsF s (p + u + cu + q)) = z at *
      obtain ⟨d, l, er, uu⟩ := z
      simp only at bb gg oo xx
      rw [cdb_r (4 * pat + ch) i y (by rw [hy]; exact pow_i i hi6)] at bb
      obtain ⟨i', hi'⟩ : ∃ i', i' = i := ⟨i, rfl⟩
      by_cases h : er = 0
      · subst h
        rw [oo rfl] at hY
        rw [Nat.add_assoc (p + u + cu)] at bb
        rcases (show i = 0 ∨ i = 1 ∨ i = 2 ∨ i = 3 ∨ i = 4 ∨ i = 5 by omega) with hc | hc | hc | hc | hc | hc
        all_goals
          first
            | (obtain rfl : i = 0 := hc; obtain rfl : j = 0 := hj; obtain rfl : y = 32 := hy)
            | (obtain rfl : i = 1 := hc; obtain rfl : j = 1 := hj; obtain rfl : y = 16 := hy)
            | (obtain rfl : i = 2 := hc; obtain rfl : j = 2 := hj; obtain rfl : y = 8 := hy)
            | (obtain rfl : i = 3 := hc; obtain rfl : j = 3 := hj; obtain rfl : y = 4 := hy)
            | (obtain rfl : i = 4 := hc; obtain rfl : j = 4 := hj; obtain rfl : y = 2 := hy)
            | (obtain rfl : i = 5 := hc; obtain rfl : j = 5 := hj; obtain rfl : y = 1 := hy)
          repeat' (first | (apply AGo.drawY [0, 1, 2, 3, 4, 5, 6, 7, 8, 9, 10, 11, 12, 13, 14, 15, 16, 17, 18, 19] 20 20; rfl) | (apply ARegH.pureX; rfl; (apply PureTo.q true; rfl; rfl; first | exact True.intro | omega); exact fun _ _ _ h => h; (iterate 6 rfl); kernel_rfl; kernel_rfl) | (apply ARegH.load; rfl; rfl; (first | exact True.intro | omega); exact fun _ _ _ h => h; (iterate 6 rfl); kernel_rfl; kernel_rfl) | (apply ARegH.go) | (apply ARegK.fin; kernel_rfl) | (apply ARegK.pureX; rfl; (apply PureTo.q true; rfl; rfl; first | exact True.intro | omega); exact fun _ _ _ h => h; (iterate 6 rfl); kernel_rfl; kernel_rfl) | (apply ARegK.call (ri); (iterate 8 rfl); kernel_rfl; rfl; rfl; rfl; try simp only [names, putH, AV.ren, AV.renL, AObj.ren, nh, Nat.reduceAdd, Nat.reduceSub]) | (apply ARegK.call (bb); (iterate 8 rfl); kernel_rfl; rfl; rfl; rfl; try simp only [names, putH, AV.ren, AV.renL, AObj.ren, nh, Nat.reduceAdd, Nat.reduceSub]) | (exact AGo.mid0) | apply AGo.seq | apply AGo.block | apply AGo.blk | apply AGo.skip | apply AGo.nil | (apply AGo.region; rfl) | (apply AGo.q true; rfl; rfl; rfl; rfl; first | exact True.intro | omega | (simp only [Int.toNat_natCast, Int.reduceToNat, IntKind.bits]; omega)) | (apply AGo.callP (ri); (iterate 6 rfl)) | (apply AGo.callP (bb); (iterate 6 rfl)) | (apply AGo.exit; rfl) | (apply AGo.condDT; rfl; first | omega | rfl) | (apply AGo.condDF; rfl; omega) | (apply AGo.condF; rfl) | (apply AGo.alloc; (iterate 5 rfl); simp only [nm, Nat.reduceAdd, spliceA, AV.cells, D.cells]) | (apply AGo.box; (iterate 6 rfl); simp only [nm, Nat.reduceAdd, spliceA, AV.cells, D.cells]) | (apply AGo.store; (iterate 9 rfl); exact Nat.le_of_ble_eq_true rfl; simp only [nm, Nat.reduceAdd, spliceA, AV.cells, D.cells]) | (apply AGo.build; (iterate 5 rfl); simp only [nm, Nat.reduceAdd, spliceA, AV.cells, D.cells, mkAgg, unDs, AV.unD]) | (apply AGo.unguard; rfl; rfl) | (apply AGo.cBT; rfl; first | (simp only [bT]; omega)) | intro _ | (apply AGo.retN; rfl; rfl; rfl; rfl) | (apply AGo.outL; rfl; rfl))
          all_goals first
            | exact AGo.round [(24, I ((i' : Int) + 1)), (23, I (32 / 2 ^ (i' + 1))), (15, I (4 * pat + ch)), (13, I ((p + u + cu + (q + uu) : Nat) : Int)), (11, .ptr 2 0), (8, .ptr 1 0), (1, I p), (0, S (showN s))] (6 - (i' + 1)) (by omega) (by subst hi'; exact ⟨rfl, rfl, rfl, rfl, rfl, rfl, rfl, rfl, trivial⟩)
                ⟨i' + 1, (i' : Int) + 1, 32 / 2 ^ (i' + 1), q + uu, (List.range i').map f ++ [(d, l)], rfl, rfl, rfl, by omega, by omega, by simp, by subst hi'; rw [← hY, ← Nat.add_assoc]; rfl, rfl, by subst hi'; rfl⟩
            | (exfalso; omega) | trace_state
      · have hY2 : Y = ((List.range i).map f, er, cu + q) := by rw [← hY, xx h]; simp [bdA]
        subst hY2
        rw [if_pos h]
        simp only [Nat.add_zero]
        rcases (show i = 0 ∨ i = 1 ∨ i = 2 ∨ i = 3 ∨ i = 4 ∨ i = 5 by omega) with hc | hc | hc | hc | hc | hc
        all_goals
          first
            | (obtain rfl : i = 0 := hc; obtain rfl : j = 0 := hj; obtain rfl : y = 32 := hy)
            | (obtain rfl : i = 1 := hc; obtain rfl : j = 1 := hj; obtain rfl : y = 16 := hy)
            | (obtain rfl : i = 2 := hc; obtain rfl : j = 2 := hj; obtain rfl : y = 8 := hy)
            | (obtain rfl : i = 3 := hc; obtain rfl : j = 3 := hj; obtain rfl : y = 4 := hy)
            | (obtain rfl : i = 4 := hc; obtain rfl : j = 4 := hj; obtain rfl : y = 2 := hy)
            | (obtain rfl : i = 5 := hc; obtain rfl : j = 5 := hj; obtain rfl : y = 1 := hy)
          repeat' (first | (apply AGo.drawY [0, 1, 2, 3, 4, 5, 6, 7, 8, 9, 10, 11, 12, 13, 14, 15, 16, 17, 18, 19] 20 20; rfl) | (apply ARegH.pureX; rfl; (apply PureTo.q true; rfl; rfl; first | exact True.intro | omega); exact fun _ _ _ h => h; (iterate 6 rfl); kernel_rfl; kernel_rfl) | (apply ARegH.load; rfl; rfl; (first | exact True.intro | omega); exact fun _ _ _ h => h; (iterate 6 rfl); kernel_rfl; kernel_rfl) | (apply ARegH.go) | (apply ARegK.fin; kernel_rfl) | (apply ARegK.pureX; rfl; (apply PureTo.q true; rfl; rfl; first | exact True.intro | omega); exact fun _ _ _ h => h; (iterate 6 rfl); kernel_rfl; kernel_rfl) | (apply ARegK.call (ri); (iterate 8 rfl); kernel_rfl; rfl; rfl; rfl; try simp only [names, putH, AV.ren, AV.renL, AObj.ren, nh, Nat.reduceAdd, Nat.reduceSub]) | (apply ARegK.call (bb); (iterate 8 rfl); kernel_rfl; rfl; rfl; rfl; try simp only [names, putH, AV.ren, AV.renL, AObj.ren, nh, Nat.reduceAdd, Nat.reduceSub]) | (exact AGo.mid0) | apply AGo.seq | apply AGo.block | apply AGo.blk | apply AGo.skip | apply AGo.nil | (apply AGo.region; rfl) | (apply AGo.q true; rfl; rfl; rfl; rfl; first | exact True.intro | omega | (simp only [Int.toNat_natCast, Int.reduceToNat, IntKind.bits]; omega)) | (apply AGo.callP (ri); (iterate 6 rfl)) | (apply AGo.callP (bb); (iterate 6 rfl)) | (apply AGo.exit; rfl) | (apply AGo.condDT; rfl; first | omega | rfl) | (apply AGo.condDF; rfl; omega) | (apply AGo.condF; rfl) | (apply AGo.alloc; (iterate 5 rfl); simp only [nm, Nat.reduceAdd, spliceA, AV.cells, D.cells]) | (apply AGo.box; (iterate 6 rfl); simp only [nm, Nat.reduceAdd, spliceA, AV.cells, D.cells]) | (apply AGo.store; (iterate 9 rfl); exact Nat.le_of_ble_eq_true rfl; simp only [nm, Nat.reduceAdd, spliceA, AV.cells, D.cells]) | (apply AGo.build; (iterate 5 rfl); simp only [nm, Nat.reduceAdd, spliceA, AV.cells, D.cells, mkAgg, unDs, AV.unD]) | (apply AGo.unguard; rfl; rfl) | (apply AGo.cBT; rfl; first | (simp only [bT]; omega)) | (apply AGo.retLW (.tup [.d (celD cel0), I p, I er]); rfl; exact Weak.tup ⟨Weak.d (celN'_weak 0 false), Weak.refl _, Weak.refl _, trivial⟩; rfl; rfl; rfl) | intro _ | (apply AGo.retN; rfl; rfl; rfl; rfl) | (apply AGo.outL; rfl; rfl))
          all_goals first | exact ⟨rfl, rfl⟩ | (exfalso; omega) | trace_state
    · obtain rfl : i = 6 := by omega
      obtain rfl : j = 6 := hj
      match L, hL with
      | [t0, t1, t2, t3, t4, t5], _ =>
        have hY6 : Y = ([t0, t1, t2, t3, t4, t5], 0, cu + q) := by rw [← hY]; rfl
        subst hY6
        simp only [not_true_eq_false, if_false]
        simp only [← Nat.add_assoc]
        repeat' (first | apply AGo.seq | apply AGo.block | apply AGo.blk | apply AGo.skip | apply AGo.nil | (apply AGo.region; rfl) | (apply AGo.q true; rfl; rfl; rfl; rfl; first | exact True.intro | omega | (simp only [Int.toNat_natCast, Int.reduceToNat, IntKind.bits]; omega)) | (apply AGo.exit; rfl) | (apply AGo.condDT; rfl; first | omega | rfl) | (apply AGo.condDF; rfl; omega) | (apply AGo.condF; rfl) | (apply AGo.alloc; (iterate 5 rfl); simp only [nm, Nat.reduceAdd, spliceA, AV.cells, D.cells]) | (apply AGo.box; (iterate 6 rfl); simp only [nm, Nat.reduceAdd, spliceA, AV.cells, D.cells]) | (apply AGo.store; (iterate 9 rfl); exact Nat.le_of_ble_eq_true rfl; simp only [nm, Nat.reduceAdd, spliceA, AV.cells, D.cells]) | (apply AGo.build; (iterate 5 rfl); simp only [nm, Nat.reduceAdd, spliceA, AV.cells, D.cells, mkAgg, unDs, AV.unD]) | (apply AGo.unguard; rfl; rfl) | (apply AGo.cBT; rfl; first | (simp only [bT]; omega)) | intro _ | (apply AGo.retN; rfl; rfl; rfl; rfl) | (apply AGo.outL; rfl; rfl))
        all_goals first | exact ⟨rfl, rfl⟩ | (exfalso; omega) | trace_state
  · rw [if_pos hce] at hM
    subst hM
    rw [if_pos hce]
    simp only [Nat.add_zero]
    refine ACalls.enter Tryd.func21 rfl Tryd.ntmps21 (by kernel_rfl) rfl ?_; simp only [argEnv, Nat.reduceAdd, List.length_nil, List.length_cons]
    repeat' (first | (apply AGo.drawY [0, 1, 2, 3, 4, 5, 6, 7, 8, 9, 10, 11, 12, 13, 14, 15, 16, 17, 18, 19] 20 20; rfl) | (apply ARegH.pureX; rfl; (apply PureTo.q true; rfl; rfl; first | exact True.intro | omega); exact fun _ _ _ h => h; (iterate 6 rfl); kernel_rfl; kernel_rfl) | (apply ARegH.load; rfl; rfl; (first | exact True.intro | omega); exact fun _ _ _ h => h; (iterate 6 rfl); kernel_rfl; kernel_rfl) | (apply ARegH.go) | (apply ARegK.fin; kernel_rfl) | (apply ARegK.pureX; rfl; (apply PureTo.q true; rfl; rfl; first | exact True.intro | omega); exact fun _ _ _ h => h; (iterate 6 rfl); kernel_rfl; kernel_rfl) | (apply ARegK.call (rb); (iterate 8 rfl); kernel_rfl; rfl; rfl; rfl; try simp only [names, putH, AV.ren, AV.renL, AObj.ren, nh, Nat.reduceAdd, Nat.reduceSub]) | (apply ARegK.call (ri); (iterate 8 rfl); kernel_rfl; rfl; rfl; rfl; try simp only [names, putH, AV.ren, AV.renL, AObj.ren, nh, Nat.reduceAdd, Nat.reduceSub]) | (apply ARegK.call (cb); (iterate 8 rfl); kernel_rfl; rfl; rfl; rfl; try simp only [names, putH, AV.ren, AV.renL, AObj.ren, nh, Nat.reduceAdd, Nat.reduceSub]) | (exact AGo.mid0) | apply AGo.seq | apply AGo.block | apply AGo.blk | apply AGo.skip | apply AGo.nil | (apply AGo.region; rfl) | (apply AGo.q true; rfl; rfl; rfl; rfl; first | exact True.intro | omega | (simp only [Int.toNat_natCast, Int.reduceToNat, IntKind.bits]; omega)) | (apply AGo.callP (rb); (iterate 6 rfl)) | (apply AGo.callP (ri); (iterate 6 rfl)) | (apply AGo.callP (cb); (iterate 6 rfl)) | (apply AGo.exit; rfl) | (apply AGo.condDT; rfl; first | omega | rfl) | (apply AGo.condDF; rfl; omega) | (apply AGo.condF; rfl) | (apply AGo.alloc; (iterate 5 rfl); simp only [nm, Nat.reduceAdd, spliceA, AV.cells, D.cells]) | (apply AGo.box; (iterate 6 rfl); simp only [nm, Nat.reduceAdd, spliceA, AV.cells, D.cells]) | (apply AGo.store; (iterate 9 rfl); exact Nat.le_of_ble_eq_true rfl; simp only [nm, Nat.reduceAdd, spliceA, AV.cells, D.cells]) | (apply AGo.build; (iterate 5 rfl); simp only [nm, Nat.reduceAdd, spliceA, AV.cells, D.cells, mkAgg, unDs, AV.unD]) | (apply AGo.unguard; rfl; rfl) | (apply AGo.cBT; rfl; first | (simp only [bT]; omega)) | (apply AGo.retW (.tup [.d (celD cel0), I p, I ce]); rfl; exact Weak.tup ⟨Weak.d (celN'_weak 0 false), Weak.refl _, Weak.refl _, trivial⟩; rfl; rfl; rfl) | apply AGo.loopU | intro _ | (apply AGo.retN; rfl; rfl; rfl; rfl) | (apply AGo.outL; rfl; rfl))
    all_goals first | exact ⟨rfl, rfl⟩ | (exfalso; omega) | trace_state
end Go.Proofs.YtdihjnifoikbeaaDoor.Av.Ci
