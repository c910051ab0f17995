/- The law CellinTakes. -/
import Derived.Test.YtdihjnifoikbeaaDoorPq6
import Derived.Test.YtdihjnifoikbeaaDoorCi9
import Derived.Test.YtdihjnifoikbeaaDoorPq9
import Derived.Test.YtdihjnifoikbeaaDoorPd2
import Derived.Test.YtdihjnifoikbeaaDoorMb4
import Derived.Test.YtdihjnifoikbeaaDoorPn4
set_option linter.unusedSimpArgs false
set_option linter.unusedVariables false
set_option maxRecDepth 100000
namespace Go.Proofs.YtdihjnifoikbeaaDoor.Av.Ci
open Go Bt Tc Co Bl
attribute [local irreducible] AGo ACalls ARegH ARegK ARegK1 AReg
variable {gl : List (Nat × List D)}
theorem cx1 : celX true 0 0 (bitsF [128] 0) = (celS 0 true, 0, 1) := by kernel_rfl
theorem cx2 : celX true 3 (-2) (bitsF [124] 0) = (⟨0, false, 0, 0, 3, -2, 0, 0, 0, 0, 0, 0, [], [], [], [], [], []⟩, 0, 6) := by kernel_rfl
theorem evsX_short : ∀ (f : Nat) (B : List Int) (a : Int), (evsX f B a).1.length ≤ f
  | 0, _, _ => Nat.zero_le _
  | f + 1, B, a => by
    rw [evsX]
    have ih := fun B a => evsX_short f B a
    split
    · exact Nat.zero_le _
    · split
      · exact Nat.zero_le _
      · split
        · simp
        · split
          · exact Nat.zero_le _
          · simp only [List.length_cons]
            exact Nat.succ_le_succ (ih _ _)
theorem blX_short (b c : Bool) (B : List Int) : (blX b c B).2.1.length ≤ 66 := by
  unfold blX
  split
  · exact Nat.zero_le _
  · split
    · split
      · exact Nat.zero_le _
      · exact evsX_short 66 _ _
    · exact Nat.zero_le _
theorem bdX_short (b : Bool) : ∀ (cs : List Bool) (B : List Int) (q : Nat), ∀ x ∈ (bdX b cs B q).1, x.2.length ≤ 66
  | [], B, q, x, hx => by simp [bdX] at hx
  | c :: cs, B, q, x, hx => by
    rw [bdX] at hx
    split at hx
    · simp at hx
    · rcases List.mem_cons.1 hx with rfl | hx
      · exact blX_short b c _
      · exact bdX_short b cs B _ x hx
theorem cel0_short : Cs.ShortF cel0 := by unfold Cs.ShortF; decide
theorem celOf_short (st k sp mx my : Int) : ∀ L : List (Int × List Ev), (∀ x ∈ L, x.2.length ≤ 66) → Cs.ShortF (celOf st k sp mx my L)
  | [b0, b1, b2, b3, b4, b5], h => by
    have h0 := h b0 (by simp)
    have h1 := h b1 (by simp)
    have h2 := h b2 (by simp)
    have h3 := h b3 (by simp)
    have h4 := h b4 (by simp)
    have h5 := h b5 (by simp)
    unfold Cs.ShortF celOf
    simp only
    omega
  | [], _ | [_], _ | [_, _], _ | [_, _, _], _ | [_, _, _, _], _ | [_, _, _, _, _], _ | _ :: _ :: _ :: _ :: _ :: _ :: _ :: _, _ => cel0_short
theorem celX_short (b : Bool) (px py : Int) (s : List UInt8) (p : Nat) : Cs.ShortF (celX b px py (bitsF s p)).1 := by
  unfold celX celT
  split
  · exact cel0_short
  · split
    · unfold Cs.ShortF; simp
    · split
      · exact cel0_short
      · split
        · exact cel0_short
        · exact celOf_short _ _ _ _ _ _ (bdX_short _ _ _ _)
attribute [local irreducible] Tc.evsD
set_option maxHeartbeats 16000000 in
theorem cilives_c : ACalls (cxg gB) 19 [] [] (fun r H => r = B true ∧ H = []) := by
  have t1 := citake_c true 0 0 [128] 0 (by unfold I64; omega) (by unfold I64; omega) (by decide) (by decide)
  have t2 := citake_c true 3 (-2) [124] 0 (by unfold I64; omega) (by unfold I64; omega) (by decide) (by decide)
  rw [cx1] at t1
  rw [cx2] at t2
  simp only at t1 t2
  refine ACalls.enter Tryd.func19 rfl Tryd.ntmps19 (by kernel_rfl) rfl ?_; simp only [argEnv, Nat.reduceAdd, List.length_nil, List.length_cons]
  repeat' (first | apply AGo.seq | apply AGo.nil | (apply AGo.region; rfl) | (apply AGo.q true; rfl; rfl; rfl; rfl; first | exact True.intro | omega | (simp only [Int.toNat_natCast, Int.reduceToNat, IntKind.bits]; omega)) | (apply AGo.callH [] ( new_c [128]); (iterate 6 rfl); decide; rfl; rfl; simp only [names, putH, AV.ren, AV.renL, AObj.ren, nh, Nat.reduceAdd, Nat.reduceSub]) | (apply AGo.callH [0] ( t1); (iterate 6 rfl); decide; rfl; rfl; simp only [names, putH, AV.ren, AV.renL, AObj.ren, nh, Nat.reduceAdd, Nat.reduceSub]) | (apply AGo.callH [] ( new_c [124]); (iterate 6 rfl); decide; rfl; rfl; simp only [names, putH, AV.ren, AV.renL, AObj.ren, nh, Nat.reduceAdd, Nat.reduceSub]) | (apply AGo.callH [2] ( t2); (iterate 6 rfl); decide; rfl; rfl; simp only [names, putH, AV.ren, AV.renL, AObj.ren, nh, Nat.reduceAdd, Nat.reduceSub]) | (apply AGo.alloc; (iterate 5 rfl); simp only [nm, Nat.reduceAdd, spliceA, AV.cells, D.cells]) | (apply AGo.store; (iterate 9 rfl); exact Nat.le_of_ble_eq_true rfl; simp only [nm, Nat.reduceAdd, spliceA, AV.cells, D.cells]) | (apply AGo.build; (iterate 5 rfl); simp only [nm, Nat.reduceAdd, spliceA, AV.cells, D.cells, mkAgg, unDs, AV.unD]) | (apply AGo.unguard; rfl; rfl) | (apply AGo.opx; (apply quiet_eqInts; (iterate 12 rfl)); rfl; rfl; rfl) | intro _ | (apply AGo.retN; rfl; rfl; rfl; rfl))
  all_goals first | exact ⟨rfl, rfl⟩ | (exfalso; omega) | trace_state
attribute [local irreducible] celX bitsF showN
set_option maxHeartbeats 32000000 in
theorem citakes_in (s : List UInt8) (q : Int) (b : Bool) (px py : Int) (hs : s.length ≤ 140737488351232) (hq : I64 q) (hpx : I64 px) (hpy : I64 py) :
    ACalls (cxg gB) 4 [S s, .d (.agg [In q, .bool b]), .d (.agg [In px, In py])] [] (fun r H => r = B true ∧ H = []) := by
  have lv := cilives_c
  have nw := new_c (gl := gB) s
  rcases Nat.lt_or_ge 500 s.length with hlen | hlen
  · refine ACalls.enter Tryd.func4 rfl Tryd.ntmps4 (by kernel_rfl) rfl ?_; simp only [argEnv, Nat.reduceAdd, List.length_nil, List.length_cons]
    repeat' (first | apply AGo.seq | apply AGo.skip | apply AGo.nil | (apply AGo.region; rfl) | (apply AGo.q true; rfl; rfl; rfl; rfl; first | exact True.intro | omega | (simp only [Int.toNat_natCast, Int.reduceToNat, IntKind.bits]; omega)) | (apply AGo.callH [] ( nw); (iterate 6 rfl); decide; rfl; rfl; simp only [names, putH, AV.ren, AV.renL, AObj.ren, nh, Nat.reduceAdd, Nat.reduceSub]) | (apply AGo.callP (lv); (iterate 6 rfl)) | (apply AGo.condT; rfl) | (apply AGo.condF; rfl) | (apply AGo.alloc; (iterate 5 rfl); simp only [nm, Nat.reduceAdd, spliceA, AV.cells, D.cells]) | (apply AGo.box; (iterate 6 rfl); simp only [nm, Nat.reduceAdd, spliceA, AV.cells, D.cells]) | (apply AGo.store; (iterate 9 rfl); exact Nat.le_of_ble_eq_true rfl; simp only [nm, Nat.reduceAdd, spliceA, AV.cells, D.cells]) | (apply AGo.unguard; rfl; rfl) | (apply AGo.gT; rfl; rfl; rfl; first | omega | rfl) | (apply AGo.gF; rfl; rfl; rfl; omega) | (apply AGo.skipOp; rfl; rfl; rfl) | intro _ | (apply AGo.retN; rfl; rfl; rfl; rfl))
    all_goals first | exact ⟨rfl, rfl⟩ | (exfalso; omega) | trace_state
  · by_cases hr : q < 0 ∨ 8 * (s.length : Int) < q
    · have sk := seek_bad (gl := gB) s 0 q (by omega) hr
      refine ACalls.enter Tryd.func4 rfl Tryd.ntmps4 (by kernel_rfl) rfl ?_; simp only [argEnv, Nat.reduceAdd, List.length_nil, List.length_cons]
      repeat' (first | apply AGo.seq | apply AGo.skip | apply AGo.nil | (apply AGo.region; rfl) | (apply AGo.q true; rfl; rfl; rfl; rfl; first | exact True.intro | omega | (simp only [Int.toNat_natCast, Int.reduceToNat, IntKind.bits]; omega)) | (apply AGo.callH [] ( nw); (iterate 6 rfl); decide; rfl; rfl; simp only [names, putH, AV.ren, AV.renL, AObj.ren, nh, Nat.reduceAdd, Nat.reduceSub]) | (apply AGo.callH [2] ( sk); (iterate 6 rfl); decide; rfl; rfl; simp only [names, putH, AV.ren, AV.renL, AObj.ren, nh, Nat.reduceAdd, Nat.reduceSub]) | (apply AGo.callP (lv); (iterate 6 rfl)) | (apply AGo.condT; rfl) | (apply AGo.condF; rfl) | (apply AGo.alloc; (iterate 5 rfl); simp only [nm, Nat.reduceAdd, spliceA, AV.cells, D.cells]) | (apply AGo.box; (iterate 6 rfl); simp only [nm, Nat.reduceAdd, spliceA, AV.cells, D.cells]) | (apply AGo.store; (iterate 9 rfl); exact Nat.le_of_ble_eq_true rfl; simp only [nm, Nat.reduceAdd, spliceA, AV.cells, D.cells]) | (apply AGo.unguard; rfl; rfl) | (apply AGo.gT; rfl; rfl; rfl; first | omega | rfl) | (apply AGo.gF; rfl; rfl; rfl; omega) | (apply AGo.skipOp; rfl; rfl; rfl) | intro _ | (apply AGo.retN; rfl; rfl; rfl; rfl))
      all_goals first | exact ⟨rfl, rfl⟩ | (exfalso; omega) | trace_state
    · obtain ⟨p, rfl⟩ := Int.eq_ofNat_of_zero_le (show 0 ≤ q by omega)
      have sk := seek_ok (gl := gB) s 0 p (by omega) ⟨by omega, by omega⟩
      have tk := citake_c b px py s p hpx hpy (by omega) (by omega)
      have rt := rcitake_c (gl := gB) b px py s p hpx hpy (by omega) (by omega)
      have sh := show_c (gl := gB) s (by omega)
      have nl := citakenil_c (gl := gB) b px py
      have a0 := at_c (gl := gB) s ((p + (celX b px py (bitsF s p)).2.2 : Nat) : Int)
      have sm := Cs.rsame21_refl (gl := gB) (celX b px py (bitsF s p)).1 (celX_short b px py s p)
      generalize celX b px py (bitsF s p) = X at *
      obtain ⟨c, e, u⟩ := X
      simp only at tk rt a0 sm

      refine ACalls.enter Tryd.func4 rfl Tryd.ntmps4 (by kernel_rfl) rfl ?_; simp only [argEnv, Nat.reduceAdd, List.length_nil, List.length_cons]
      repeat' (first | (apply AGo.seal 0 4; rfl; rfl; simp only [List.map, AV.viewD, List.set_cons_zero, List.set_cons_succ]) | (apply AGo.seal 1 5; rfl; rfl; simp only [List.map, AV.viewD, List.set_cons_zero, List.set_cons_succ]) | (apply AGo.drawZ1 [0, 1, 2, 3, 4, 5, 6, 7, 8, 9, 10, 11, 12, 13, 14, 15] 16; rfl) | (apply ARegI.pureX; rfl; (apply PureTo.q true; rfl; rfl; first | exact True.intro | omega); exact fun _ _ _ h => h; (iterate 5 rfl); kernel_rfl; kernel_rfl) | (apply ARegI.load; (iterate 5 rfl); exact fun _ _ _ h => h; (iterate 5 rfl); kernel_rfl; kernel_rfl) | (apply ARegI.go) | (apply ARegA.fin; kernel_rfl) | (apply ARegA.pureX; rfl; (apply PureTo.q true; rfl; rfl; first | exact True.intro | omega); exact fun _ _ _ h => h; (iterate 5 rfl); kernel_rfl; kernel_rfl) | (apply ARegA.fork1; rfl; kernel_rfl) | (apply ARegA.fork2; rfl; kernel_rfl) | (apply ARegA1.step; rfl) | (apply ARegA.back) | (exact AGo.mid0) | (apply AGo.midDone; (repeat' (first | exact EnvEq.nil | (apply EnvEq.cons; rfl))); rfl) | apply AGo.seq | apply AGo.skip | apply AGo.nil | (apply AGo.region; rfl) | (apply AGo.q true; rfl; rfl; rfl; rfl; first | exact True.intro | omega | (simp only [Int.toNat_natCast, Int.reduceToNat, IntKind.bits]; omega)) | (apply AGo.callH [] ( nw); (iterate 6 rfl); decide; rfl; rfl; simp only [names, putH, AV.ren, AV.renL, AObj.ren, nh, Nat.reduceAdd, Nat.reduceSub]) | (apply AGo.callH [2] ( sk); (iterate 6 rfl); decide; rfl; rfl; simp only [names, putH, AV.ren, AV.renL, AObj.ren, nh, Nat.reduceAdd, Nat.reduceSub]) | (apply AGo.callH [2] ( tk); (iterate 6 rfl); decide; rfl; rfl; simp only [names, putH, AV.ren, AV.renL, AObj.ren, nh, Nat.reduceAdd, Nat.reduceSub]) | (apply AGo.callH [2] ( a0); (iterate 6 rfl); decide; rfl; rfl; simp only [names, putH, AV.ren, AV.renL, AObj.ren, nh, Nat.reduceAdd, Nat.reduceSub]) | (apply AGo.callP (sh); (iterate 6 rfl)) | (apply AGo.callP (rt); (iterate 6 rfl)) | (apply AGo.callP (nl); (iterate 6 rfl)) | (apply AGo.callP (sm); (iterate 6 rfl)) | (apply AGo.callP (lv); (iterate 6 rfl)) | (apply AGo.condT; rfl) | (apply AGo.condF; rfl) | (apply AGo.alloc; (iterate 5 rfl); simp only [nm, Nat.reduceAdd, spliceA, AV.cells, D.cells]) | (apply AGo.box; (iterate 6 rfl); simp only [nm, Nat.reduceAdd, spliceA, AV.cells, D.cells]) | (apply AGo.store; (iterate 9 rfl); exact Nat.le_of_ble_eq_true rfl; simp only [nm, Nat.reduceAdd, spliceA, AV.cells, D.cells]) | (apply AGo.unguard; rfl; rfl) | (apply AGo.gT; rfl; rfl; rfl; first | omega | rfl) | (apply AGo.gF; rfl; rfl; rfl; omega) | (apply AGo.skipOp; rfl; rfl; rfl) | intro _ | (apply AGo.retN; rfl; rfl; rfl; rfl))
      all_goals first | exact ⟨rfl, rfl⟩ | (exfalso; omega) | trace_state
theorem how21_of (x : D) (h : TyV tys 9 39 x) : ∃ n b, x = .agg [In n, .bool b] ∧ I64 n := by
  obtain ⟨hc, ha⟩ := h
  obtain ⟨l, rfl⟩ := ha rfl
  change l.length = 2 ∧ ∀ o t', (o, t') ∈ [((0 : Nat), (3 : Nat)), (1, 4)] → TyC tys 8 t' ((l.drop o).take (szT tys t')) at hc
  obtain ⟨hl, hf⟩ := hc
  have h0 := hf 0 3 (by simp)
  have h1 := hf 1 4 (by simp)
  match l, hl with
  | [a, c], _ =>
    change ∃ n, [a] = [.int .i64 n] ∧ (Lit.int .i64 n).wf = true at h0
    change ∃ b, [c] = [.bool b] at h1
    obtain ⟨n, e0, w0⟩ := h0
    obtain ⟨b, e1⟩ := h1
    obtain rfl : a = .int .i64 n := by simpa using e0
    obtain rfl : c = .bool b := by simpa using e1
    exact ⟨n, b, rfl, bd_i64 w0⟩
theorem cellinTakes_law (s : List UInt8) (how pred : D) (hs : s.length ≤ 140737488351232) (h' : TyV tys 9 39 how) (h'' : TyV tys 9 40 pred) :
    ACalls (cxg gB) 4 [S s, .d how, .d pred] [] (fun r H => r = B true ∧ H = []) := by
  obtain ⟨n, b, rfl, hn⟩ := how21_of how h'
  obtain ⟨x, y, rfl, hx, hy⟩ := arr2_of pred h''
  exact citakes_in s n b x y hs hn hx hy
end Go.Proofs.YtdihjnifoikbeaaDoor.Av.Ci
