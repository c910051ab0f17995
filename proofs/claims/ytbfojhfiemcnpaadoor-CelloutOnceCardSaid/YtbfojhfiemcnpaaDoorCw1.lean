/- The law CelloutOnce. -/
import Derived.Test.YtbfojhfiemcnpaaDoorPq6
import Derived.Test.YtbfojhfiemcnpaaDoorPr2
import Derived.Test.YtbfojhfiemcnpaaDoorCo11
import Derived.Test.YtbfojhfiemcnpaaDoorPn5
import Derived.Test.YtbfojhfiemcnpaaDoorPn4
set_option linter.unusedSimpArgs false
set_option linter.unusedVariables false
set_option maxRecDepth 100000
namespace Go.Proofs.YtbfojhfiemcnpaaDoor.Av.Cw
open Go Bt Tc Co Bl Ci Rn Wr
attribute [local irreducible] AGo ACalls ARegH ARegK ARegK1 AReg
variable {gl : List (Nat × List D)}
theorem celX_u0 (b : Bool) (px py : Int) (B : List Int) (h : (celX b px py B).2.1 ≠ 0) : (celX b px py B).2.2 = 0 := by
  unfold celX celT at h ⊢
  split
  · rfl
  · rename_i h0
    rw [if_neg h0] at h
    split
    · rename_i h1; rw [if_pos h1] at h; exact absurd rfl h
    · rename_i h1
      rw [if_neg h1] at h
      split
      · rfl
      · rename_i h2
        rw [if_neg h2] at h
        split
        · rfl
        · rename_i h3
          rw [if_neg h3] at h; exact absurd rfl h
set_option maxHeartbeats 4000000 in
theorem lenR_c (es : List D) (n : Int) : ACalls (cxg gl) 17 [.d (.iptr [.sl 1 es, In n])] [] (fun r H => r = I n ∧ H = []) := by
  refine ACalls.enter Tryd.func17 rfl Tryd.ntmps17 (by kernel_rfl) rfl ?_; simp only [argEnv, Nat.reduceAdd, List.length_nil, List.length_cons]
  repeat' (first | apply AGo.seq | apply AGo.skip | apply AGo.nil | (apply AGo.region; rfl) | (apply AGo.q true; rfl; rfl; rfl; rfl; first | exact True.intro | omega | (simp only [Int.toNat_natCast, Int.reduceToNat, IntKind.bits]; omega)) | (apply AGo.condF; rfl) | intro _ | (apply AGo.retN; rfl; rfl; rfl; rfl))
  all_goals first | exact ⟨rfl, rfl⟩ | trace_state
set_option maxHeartbeats 4000000 in
theorem textR_c (P : List UInt8) (n : Int) : ACalls (cxg gl) 19 [.d (.iptr [.sl 1 (octets P), In n])] [] (fun r H => r = S P ∧ H = []) := by
  refine ACalls.enter Tryd.func19 rfl Tryd.ntmps19 (by kernel_rfl) rfl ?_; simp only [argEnv, Nat.reduceAdd, List.length_nil, List.length_cons]
  repeat' (first | (apply AGo.strB; (iterate 12 rfl)) | apply AGo.seq | apply AGo.skip | apply AGo.nil | (apply AGo.region; rfl) | (apply AGo.q true; rfl; rfl; rfl; rfl; first | exact True.intro | omega | (simp only [Int.toNat_natCast, Int.reduceToNat, IntKind.bits]; omega)) | (apply AGo.condF; rfl) | intro _ | (apply AGo.retN; rfl; rfl; rfl; rfl))
  all_goals first | exact ⟨rfl, rfl⟩ | trace_state
set_option maxHeartbeats 4000000 in
theorem atR_c (s : List UInt8) (q : Int) : ACalls (cxg gl) 13 [.d (.iptr [.str s, In q])] [] (fun r H => r = I q ∧ H = []) := by
  refine ACalls.enter Tryd.func13 rfl Tryd.ntmps13 (by kernel_rfl) rfl ?_; simp only [argEnv, Nat.reduceAdd, List.length_nil, List.length_cons]
  repeat' (first | apply AGo.seq | apply AGo.skip | apply AGo.nil | (apply AGo.region; rfl) | (apply AGo.q true; rfl; rfl; rfl; rfl; first | exact True.intro | omega | (simp only [Int.toNat_natCast, Int.reduceToNat, IntKind.bits]; omega)) | (apply AGo.condF; rfl) | intro _ | (apply AGo.retN; rfl; rfl; rfl; rfl))
  all_goals first | exact ⟨rfl, rfl⟩ | trace_state
attribute [local irreducible] Tc.evsD celX bitsF showN putRow rightS octets packN
set_option maxHeartbeats 32000000 in
theorem once_in (s h : List UInt8) (b : Bool) (px py : Int) (hs : s.length ≤ 140737488351232) (hh : h.length ≤ 9223372036854775807) (hpx : I64 px) (hpy : I64 py) :
    ACalls (cxg gB) 4 [S s, .d (howD h b), .d (.agg [In px, In py])] [] (fun r H => r = B true ∧ H = []) := by
  have lv : ACalls (cxg gB) 11 [] [] (fun r H => r = B true ∧ H = []) := colives_c
  have nw := new_c (gl := gB) s
  generalize hp : h.length = p at *
  rcases Nat.lt_or_ge 500 s.length with hlen | hlen
  · refine ACalls.enter Tryd.func4 rfl Tryd.ntmps4 (by kernel_rfl) rfl ?_; simp only [argEnv, Nat.reduceAdd, List.length_nil, List.length_cons]
    repeat' (first | apply AGo.seq | apply AGo.skip | apply AGo.nil | apply AGo.qnil | (apply AGo.region; rfl) | ((first | apply AGo.q true | apply AGo.qq true); rfl; rfl; rfl; rfl; first | exact True.intro | omega | (simp only [Int.toNat_natCast, Int.reduceToNat, IntKind.bits]; omega)) | (apply AGo.callH [] ( nw); (iterate 6 rfl); decide; rfl; rfl; simp only [names, putH, AV.ren, AV.renL, AObj.ren, nh, Nat.reduceAdd, Nat.reduceSub]) | (apply AGo.callP (lv); (iterate 6 rfl)) | (apply AGo.qcallP (lv); (iterate 7 rfl)) | (apply AGo.drawQ; rfl; rfl; decide +kernel) | (apply AGo.condT; rfl) | (apply AGo.condF; rfl) | (apply AGo.alloc; (iterate 5 rfl); simp only [nm, Nat.reduceAdd, spliceA, AV.cells, D.cells]) | (apply AGo.box; (iterate 6 rfl); simp only [nm, Nat.reduceAdd, spliceA, AV.cells, D.cells]) | (apply AGo.store; (iterate 9 rfl); exact Nat.le_of_ble_eq_true rfl; simp only [nm, Nat.reduceAdd, spliceA, AV.cells, D.cells]) | ((first | apply AGo.unguard | apply AGo.qunguard); rfl; rfl) | ((first | apply AGo.gT | apply AGo.qgT); rfl; rfl; rfl; first | omega | rfl) | (apply AGo.gF; rfl; rfl; rfl; omega) | (apply AGo.cBT; rfl; first | (simp only [bT]; omega)) | (apply AGo.qgBT; rfl; rfl; rfl; first | (simp only [bT]; omega)) | (apply AGo.skipOp; rfl; rfl; rfl) | intro _ | (apply AGo.retN; rfl; rfl; rfl; rfl))
    all_goals first | exact ⟨rfl, rfl⟩ | (exfalso; omega) | trace_state
  · rcases Nat.lt_or_ge (8 * s.length) p with hr | hr
    · have sk := seek_bad (gl := gB) s 0 (p : Int) (by omega) (by omega)
      rw [← hp] at sk
      refine ACalls.enter Tryd.func4 rfl Tryd.ntmps4 (by kernel_rfl) rfl ?_; simp only [argEnv, Nat.reduceAdd, List.length_nil, List.length_cons]
      repeat' (first | apply AGo.seq | apply AGo.skip | apply AGo.nil | apply AGo.qnil | (apply AGo.region; rfl) | ((first | apply AGo.q true | apply AGo.qq true); rfl; rfl; rfl; rfl; first | exact True.intro | omega | (simp only [Int.toNat_natCast, Int.reduceToNat, IntKind.bits]; omega)) | (apply AGo.callH [] ( nw); (iterate 6 rfl); decide; rfl; rfl; simp only [names, putH, AV.ren, AV.renL, AObj.ren, nh, Nat.reduceAdd, Nat.reduceSub]) | (apply AGo.callH [2] ( sk); (iterate 6 rfl); decide; rfl; rfl; simp only [names, putH, AV.ren, AV.renL, AObj.ren, nh, Nat.reduceAdd, Nat.reduceSub]) | (apply AGo.callP (lv); (iterate 6 rfl)) | (apply AGo.qcallP (lv); (iterate 7 rfl)) | (apply AGo.drawQ; rfl; rfl; decide +kernel) | (apply AGo.condT; rfl) | (apply AGo.condF; rfl) | (apply AGo.alloc; (iterate 5 rfl); simp only [nm, Nat.reduceAdd, spliceA, AV.cells, D.cells]) | (apply AGo.box; (iterate 6 rfl); simp only [nm, Nat.reduceAdd, spliceA, AV.cells, D.cells]) | (apply AGo.store; (iterate 9 rfl); exact Nat.le_of_ble_eq_true rfl; simp only [nm, Nat.reduceAdd, spliceA, AV.cells, D.cells]) | ((first | apply AGo.unguard | apply AGo.qunguard); rfl; rfl) | ((first | apply AGo.gT | apply AGo.qgT); rfl; rfl; rfl; first | omega | rfl) | (apply AGo.gF; rfl; rfl; rfl; omega) | (apply AGo.cBT; rfl; first | (simp only [bT]; omega)) | (apply AGo.qgBT; rfl; rfl; rfl; first | (simp only [bT]; omega)) | (apply AGo.skipOp; rfl; rfl; rfl) | intro _ | (apply AGo.retN; rfl; rfl; rfl; rfl))
      all_goals first | exact ⟨rfl, rfl⟩ | (exfalso; omega) | trace_state
    · have sk := seek_ok (gl := gB) s 0 (p : Int) (by omega) ⟨by omega, by omega⟩
      rw [← hp] at sk
      have tk := citake_c b px py s p hpx hpy (by omega) (by omega)
      rw [← hp] at tk
      have hu := celX_u0 b px py (bitsF s p)
      have on := cel_once b px py (bitsF s p) (bitsF_01 s p)
      have a0 := at_c (gl := gB) s ((h.length + (celX b px py (bitsF s p)).2.2 : Nat) : Int)
      rw [← hp] at on hu a0
      generalize celX b px py (bitsF s h.length) = X at *
      obtain ⟨c, e, u⟩ := X
      simp only at tk on a0 hu
      by_cases he : e = 0
      · subst he
        obtain ⟨o1, o2, o3, o4⟩ := on rfl
        have hBl := bitsF_len s h.length
        have pt := cput_c [] b px py c o2 hpx hpy o1 (Fine.nil 10000000)
        have cr := (cright_c b c o2).more gtc_A
        rw [o1] at cr
        have pf := (put_fine (px := px) (py := py) (Fine.nil 0) o1)
        have hZl : (putRow [] b px py c).length = u := by rw [← o4, List.length_map, List.length_take]; omega
        have nw2 := wnew_c (gl := gB)
        have ln := wlen_c (gl := gB) (putRow [] b px py c)
        have tx := wtext_c (gl := gB) (putRow [] b px py c)
        have hpk : (packN (putRow [] b px py c)).length ≤ 1000000 := by rw [packN_length]; have := pf.2; simp only [List.length_nil, Nat.zero_add] at this; omega
        have sh1 := show_c (gl := gB) (packN (putRow [] b px py c)) hpk
        have sh2 := show_c (gl := gB) s (by omega)
        have hl2 := showN_len s
        have e1 : (showN (packN (putRow [] b px py c))).take (((putRow [] b px py c).length : Nat) : Int).toNat = putRow [] b px py c := by
          rw [showN_pack _ pf.1, Int.toNat_natCast]; unfold padS; exact List.take_left
        have e2 : ((showN s).take (((h.length + u : Nat) : Int)).toNat).drop (((h.length : Nat) : Int)).toNat = putRow [] b px py c := by
          rw [Int.toNat_natCast, Int.toNat_natCast, slice_show, o4]
        have e3 : (showN (packN (putRow [] b px py c))).length = (padS (putRow [] b px py c)).length := by rw [showN_pack _ pf.1]
        have e4 := padS_len (putRow [] b px py c)
        generalize putRow [] b px py c = Z at *
        generalize showN (packN Z) = SZ at *
        have lr := lenR_c (gl := gB) (octets (packN Z)) (Z.length : Int)
        have tr := textR_c (gl := gB) (packN Z) (Z.length : Int)
        have ar := atR_c (gl := gB) s ((h.length + u : Nat) : Int)
        refine ACalls.enter Tryd.func4 rfl Tryd.ntmps4 (by kernel_rfl) rfl ?_; simp only [argEnv, Nat.reduceAdd, List.length_nil, List.length_cons]
        repeat' (first | apply AGo.seq | apply AGo.skip | apply AGo.nil | apply AGo.qnil | (apply AGo.region; rfl) | ((first | apply AGo.q true | apply AGo.qq true); rfl; rfl; rfl; rfl; first | exact True.intro | omega | (simp only [Int.toNat_natCast, Int.reduceToNat, IntKind.bits]; omega)) | (apply AGo.callH [] ( nw); (iterate 6 rfl); decide; rfl; rfl; simp only [names, putH, AV.ren, AV.renL, AObj.ren, nh, Nat.reduceAdd, Nat.reduceSub]) | (apply AGo.callH [2] ( sk); (iterate 6 rfl); decide; rfl; rfl; simp only [names, putH, AV.ren, AV.renL, AObj.ren, nh, Nat.reduceAdd, Nat.reduceSub]) | (apply AGo.callH [2] ( tk); (iterate 6 rfl); decide; rfl; rfl; simp only [names, putH, AV.ren, AV.renL, AObj.ren, nh, Nat.reduceAdd, Nat.reduceSub]) | (apply AGo.callH [] ( nw2); (iterate 6 rfl); decide; rfl; rfl; simp only [names, putH, AV.ren, AV.renL, AObj.ren, nh, Nat.reduceAdd, Nat.reduceSub]) | (apply AGo.drawQ; rfl; rfl; decide +kernel) | (apply AGo.condT; rfl) | (apply AGo.condF; rfl) | (apply AGo.alloc; (iterate 5 rfl); simp only [nm, Nat.reduceAdd, spliceA, AV.cells, D.cells]) | (apply AGo.box; (iterate 6 rfl); simp only [nm, Nat.reduceAdd, spliceA, AV.cells, D.cells]) | (apply AGo.store; (iterate 9 rfl); exact Nat.le_of_ble_eq_true rfl; simp only [nm, Nat.reduceAdd, spliceA, AV.cells, D.cells]) | ((first | apply AGo.unguard | apply AGo.qunguard); rfl; rfl) | ((first | apply AGo.gT | apply AGo.qgT); rfl; rfl; rfl; first | omega | rfl) | (apply AGo.gF; rfl; rfl; rfl; omega) | (apply AGo.cBT; rfl; first | (simp only [bT]; omega)) | (apply AGo.qgBT; rfl; rfl; rfl; first | (simp only [bT]; omega)) | (apply AGo.skipOp; rfl; rfl; rfl) | intro _ | (apply AGo.retN; rfl; rfl; rfl; rfl))
        (apply AGo.callH [4, 5] (pt); rfl; rfl; rfl; rfl; rfl; rfl; decide; rfl; rfl; simp only [names, putH, AV.ren, AV.renL, AObj.ren, nh, Nat.reduceAdd, Nat.reduceSub])
        (apply AGo.freezeC 4 0; rfl; rfl; rfl; rfl; simp only [List.set_cons_zero, List.set_cons_succ])
        (apply AGo.plainC 4 0; rfl; rfl; simp only [List.set_cons_zero, List.set_cons_succ])
        repeat' (first | apply AGo.seq | apply AGo.skip | apply AGo.nil | apply AGo.qnil | (apply AGo.region; rfl) | ((first | apply AGo.q true | apply AGo.qq true); rfl; rfl; rfl; rfl; first | exact True.intro | omega | (simp only [Int.toNat_natCast, Int.reduceToNat, IntKind.bits]; omega) | (rw [hl2]; omega) | (rw [e3]; omega)) | (apply AGo.callP (cr); (iterate 6 rfl)) | (apply AGo.qcallP (cr); (iterate 7 rfl)) | (apply AGo.callP (sh1); (iterate 6 rfl)) | (apply AGo.qcallP (sh1); (iterate 7 rfl)) | (apply AGo.callP (sh2); (iterate 6 rfl)) | (apply AGo.qcallP (sh2); (iterate 7 rfl)) | (apply AGo.callP (lv); (iterate 6 rfl)) | (apply AGo.qcallP (lv); (iterate 7 rfl)) | (apply AGo.drawQ; rfl; rfl; decide +kernel) | (apply AGo.condT; rfl) | (apply AGo.condF; rfl) | (apply AGo.alloc; (iterate 5 rfl); simp only [nm, Nat.reduceAdd, spliceA, AV.cells, D.cells]) | (apply AGo.box; (iterate 6 rfl); simp only [nm, Nat.reduceAdd, spliceA, AV.cells, D.cells]) | (apply AGo.store; (iterate 9 rfl); exact Nat.le_of_ble_eq_true rfl; simp only [nm, Nat.reduceAdd, spliceA, AV.cells, D.cells]) | ((first | apply AGo.unguard | apply AGo.qunguard); rfl; rfl) | ((first | apply AGo.gT | apply AGo.qgT); rfl; rfl; rfl; first | omega | rfl) | (apply AGo.gF; rfl; rfl; rfl; omega) | (apply AGo.cBT; rfl; first | (simp only [bT]; omega) | (exact decide_eq_true (by rw [e1, e2])) | ((simp; done))) | (apply AGo.qgBT; rfl; rfl; rfl; first | (simp only [bT]; omega) | (exact decide_eq_true (by rw [e1, e2])) | ((simp; done))) | (apply AGo.skipOp; rfl; rfl; rfl) | (apply AGo.qcallR (lr); (iterate 9 rfl)) | (apply AGo.qcallR (tr); (iterate 9 rfl)) | (apply AGo.qcallR (ar); (iterate 9 rfl)) | intro _ | (apply AGo.retN; rfl; rfl; rfl; rfl))
        all_goals first | exact ⟨rfl, rfl⟩ | (exfalso; omega) | trace_state
      · obtain rfl := hu he
        rw [Nat.add_zero] at tk a0
        refine ACalls.enter Tryd.func4 rfl Tryd.ntmps4 (by kernel_rfl) rfl ?_; simp only [argEnv, Nat.reduceAdd, List.length_nil, List.length_cons]
        repeat' (first | apply AGo.seq | apply AGo.skip | apply AGo.nil | apply AGo.qnil | (apply AGo.region; rfl) | ((first | apply AGo.q true | apply AGo.qq true); rfl; rfl; rfl; rfl; first | exact True.intro | omega | (simp only [Int.toNat_natCast, Int.reduceToNat, IntKind.bits]; omega)) | (apply AGo.callH [] ( nw); (iterate 6 rfl); decide; rfl; rfl; simp only [names, putH, AV.ren, AV.renL, AObj.ren, nh, Nat.reduceAdd, Nat.reduceSub]) | (apply AGo.callH [2] ( sk); (iterate 6 rfl); decide; rfl; rfl; simp only [names, putH, AV.ren, AV.renL, AObj.ren, nh, Nat.reduceAdd, Nat.reduceSub]) | (apply AGo.callH [2] ( tk); (iterate 6 rfl); decide; rfl; rfl; simp only [names, putH, AV.ren, AV.renL, AObj.ren, nh, Nat.reduceAdd, Nat.reduceSub]) | (apply AGo.callH [2] ( a0); (iterate 6 rfl); decide; rfl; rfl; simp only [names, putH, AV.ren, AV.renL, AObj.ren, nh, Nat.reduceAdd, Nat.reduceSub]) | (apply AGo.callP (lv); (iterate 6 rfl)) | (apply AGo.qcallP (lv); (iterate 7 rfl)) | (apply AGo.drawQ; rfl; rfl; decide +kernel) | (apply AGo.condT; rfl) | (apply AGo.condF; rfl) | (apply AGo.alloc; (iterate 5 rfl); simp only [nm, Nat.reduceAdd, spliceA, AV.cells, D.cells]) | (apply AGo.box; (iterate 6 rfl); simp only [nm, Nat.reduceAdd, spliceA, AV.cells, D.cells]) | (apply AGo.store; (iterate 9 rfl); exact Nat.le_of_ble_eq_true rfl; simp only [nm, Nat.reduceAdd, spliceA, AV.cells, D.cells]) | ((first | apply AGo.unguard | apply AGo.qunguard); rfl; rfl) | ((first | apply AGo.gT | apply AGo.qgT); rfl; rfl; rfl; first | omega | rfl) | (apply AGo.gF; rfl; rfl; rfl; omega) | (apply AGo.cBT; rfl; first | (simp only [bT]; omega)) | (apply AGo.qgBT; rfl; rfl; rfl; first | (simp only [bT]; omega)) | (apply AGo.skipOp; rfl; rfl; rfl) | intro _ | (apply AGo.retN; rfl; rfl; rfl; rfl))
        all_goals first | exact ⟨rfl, rfl⟩ | (exfalso; omega) | trace_state
theorem celloutOnce_law (s : List UInt8) (how pred : D) (hs : s.length ≤ 140737488351232) (h' : TyV tys 9 31 how) (h'' : TyV tys 9 22 pred) :
    ACalls (cxg gB) 4 [S s, .d how, .d pred] [] (fun r H => r = B true ∧ H = []) := by
  obtain ⟨h, b, rfl, hh⟩ := how_of how h'
  obtain ⟨x, y, rfl, hx, hy⟩ := arr2_of pred h''
  exact once_in s h b x y hs hh hx hy
end Go.Proofs.YtbfojhfiemcnpaaDoor.Av.Cw
