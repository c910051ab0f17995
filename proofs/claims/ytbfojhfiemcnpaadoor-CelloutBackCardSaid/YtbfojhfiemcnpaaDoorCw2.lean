/- The law CelloutBack. -/
import Derived.Test.YtbfojhfiemcnpaaDoorPq6
import Derived.Test.YtbfojhfiemcnpaaDoorPr2
import Derived.Test.YtbfojhfiemcnpaaDoorCo11
import Derived.Test.YtbfojhfiemcnpaaDoorPq10
set_option linter.unusedSimpArgs false
set_option linter.unusedVariables false
set_option maxRecDepth 100000
namespace Go.Proofs.YtbfojhfiemcnpaaDoor.Av.Cw
open Go Bt Tc Co Bl Ci Rn Wr
attribute [local irreducible] AGo ACalls ARegH ARegK ARegK1 AReg
variable {gl : List (Nat × List D)}
theorem und_pack (w Z : List UInt8) (h : (w ++ Z).all isDig = true) : ∃ R : List Int, (∀ x ∈ R, x = 0 ∨ x = 1) ∧ bitsF (packN (w ++ Z)) w.length = Z.map und ++ R := by
  refine ⟨(List.replicate (padN (w ++ Z).length) 48).map und, ?_, ?_⟩
  · intro x hx
    obtain ⟨c, hc, rfl⟩ := List.mem_map.1 hx
    obtain rfl := (List.mem_replicate.1 hc).2
    exact .inl rfl
  · have h1 := bits_drop (packN (w ++ Z)) 0 w.length
    rw [Nat.zero_add, bitsF_pack _ h, padS, List.map_append, List.map_append, List.append_assoc, List.drop_left' (by rw [List.length_map])] at h1
    exact h1.symm
theorem short_few {c : Cel} (h : fewP c) : Cs.ShortE c := by unfold fewP at h; unfold Cs.ShortE; omega
attribute [local irreducible] Tc.evsD celX bitsF showN putRow rightS octets packN Cs.sameS
set_option maxHeartbeats 32000000 in
theorem back_in (c : Cel) (ci : CelI c) (s : List UInt8) (b : Bool) (px py : Int) (hs : s.length ≤ 9223372036854775807) (hpx : I64 px) (hpy : I64 py) :
    ACalls (cxg gB) 5 [.d (celD c), .d (howD s b), .d (.agg [In px, In py])] [] (fun r H => r = B true ∧ H = []) := by
  have lv : ACalls (cxg gB) 11 [] [] (fun r H => r = B true ∧ H = []) := colives_c
  by_cases hf : fewP c
  · have fw := few_yes (gl := gB) c hf
    have sh := short_few hf
    obtain ⟨h0, h1, h2, h3, h4, h5⟩ := hf
    have ok := ci.ok h0 h1 h2 h3 h4 h5
    rcases Nat.lt_or_ge 100 s.length with hlen | hlen
    · refine ACalls.enter Tryd.func5 rfl Tryd.ntmps5 (by kernel_rfl) rfl ?_; simp only [argEnv, Nat.reduceAdd, List.length_nil, List.length_cons]
      repeat' (first | apply AGo.seq | apply AGo.skip | apply AGo.nil | (apply AGo.region; rfl) | (apply AGo.q true; rfl; rfl; rfl; rfl; first | exact True.intro | omega | (simp only [Int.toNat_natCast, Int.reduceToNat, IntKind.bits]; omega)) | (apply AGo.callP (fw); (iterate 6 rfl)) | (apply AGo.callP (lv); (iterate 6 rfl)) | (apply AGo.condDT; rfl; first | omega | rfl) | (apply AGo.condDF; rfl; omega) | (apply AGo.condT; rfl) | (apply AGo.condF; rfl) | (apply AGo.alloc; (iterate 5 rfl); simp only [nm, Nat.reduceAdd, spliceA, AV.cells, D.cells]) | (apply AGo.box; (iterate 6 rfl); simp only [nm, Nat.reduceAdd, spliceA, AV.cells, D.cells]) | (apply AGo.store; (iterate 9 rfl); exact Nat.le_of_ble_eq_true rfl; simp only [nm, Nat.reduceAdd, spliceA, AV.cells, D.cells]) | (apply AGo.unguard; rfl; rfl) | (apply AGo.gT; rfl; rfl; rfl; first | omega | rfl) | (apply AGo.skipOp; rfl; rfl; rfl) | intro _ | (apply AGo.retN; rfl; rfl; rfl; rfl))
      all_goals first | exact ⟨rfl, rfl⟩ | (exfalso; omega) | trace_state
    · have nw := wnew_c (gl := gB)
      obtain ⟨w0, e0, had, hd, hw⟩ : ∃ (w0 : List UInt8) (e0 : Int), ACalls (cxg gB) 21 [.ptr 0 0, S s] (WO []) (fun r H => r = I e0 ∧ H = WO w0) ∧ w0.all isDig = true ∧ w0.length ≤ 100 := by
        cases hd : s.all isDig with
        | true =>
          have ad := wadd_c (gl := gB) [] s rfl hd (by simp only [List.length_nil]; omega)
          rw [List.nil_append] at ad
          exact ⟨s, 0, ad, hd, hlen⟩
        | false => exact ⟨[], 1, waddbad_c (gl := gB) [] s hd, rfl, by simp⟩
      have ln0 := wlen_c (gl := gB) w0
      have cr : ACalls (cxg gB) 16 [B b, .d (celD c)] [] (fun r H => r = B (rightS b c) ∧ H = []) := (cright_c b c ok).more gtc_A
      cases hR : rightS b c with
      | false =>
        rw [hR] at cr
        have pb : ACalls (cxg gB) 15 [.ptr 0 0, B b, .d (prD px py), .d (celD c)] (WO w0) (fun r H => r = I 12 ∧ H = WO w0) := cputbad_c w0 b px py c ok hR
        refine ACalls.enter Tryd.func5 rfl Tryd.ntmps5 (by kernel_rfl) rfl ?_; simp only [argEnv, Nat.reduceAdd, List.length_nil, List.length_cons]
        repeat' (first | apply AGo.seq | apply AGo.skip | apply AGo.nil | (apply AGo.region; rfl) | (apply AGo.q true; rfl; rfl; rfl; rfl; first | exact True.intro | omega | (simp only [Int.toNat_natCast, Int.reduceToNat, IntKind.bits]; omega)) | (apply AGo.callH [] ( nw); (iterate 6 rfl); decide; rfl; rfl; simp only [names, putH, AV.ren, AV.renL, AObj.ren, nh, Nat.reduceAdd, Nat.reduceSub]) | (apply AGo.callH [3,4] ( had); (iterate 6 rfl); decide; rfl; rfl; simp only [names, putH, AV.ren, AV.renL, AObj.ren, nh, Nat.reduceAdd, Nat.reduceSub]) | (apply AGo.callH [3,4] ( pb); (iterate 6 rfl); decide; rfl; rfl; simp only [names, putH, AV.ren, AV.renL, AObj.ren, nh, Nat.reduceAdd, Nat.reduceSub]) | (apply AGo.callH [3,4] ( ln0); (iterate 6 rfl); decide; rfl; rfl; simp only [names, putH, AV.ren, AV.renL, AObj.ren, nh, Nat.reduceAdd, Nat.reduceSub]) | (apply AGo.callP (fw); (iterate 6 rfl)) | (apply AGo.callP (lv); (iterate 6 rfl)) | (apply AGo.callP (cr); (iterate 6 rfl)) | (apply AGo.condDT; rfl; first | omega | rfl) | (apply AGo.condDF; rfl; omega) | (apply AGo.condT; rfl) | (apply AGo.condF; rfl) | (apply AGo.alloc; (iterate 5 rfl); simp only [nm, Nat.reduceAdd, spliceA, AV.cells, D.cells]) | (apply AGo.box; (iterate 6 rfl); simp only [nm, Nat.reduceAdd, spliceA, AV.cells, D.cells]) | (apply AGo.store; (iterate 9 rfl); exact Nat.le_of_ble_eq_true rfl; simp only [nm, Nat.reduceAdd, spliceA, AV.cells, D.cells]) | (apply AGo.unguard; rfl; rfl) | (apply AGo.gT; rfl; rfl; rfl; first | omega | rfl) | (apply AGo.skipOp; rfl; rfl; rfl) | intro _ | (apply AGo.retN; rfl; rfl; rfl; rfl))
        all_goals first | exact ⟨rfl, rfl⟩ | (exfalso; omega) | trace_state
      | true =>
        have pt : ACalls (cxg gB) 15 [.ptr 0 0, B b, .d (prD px py), .d (celD c)] (WO w0) (fun r H => r = I 0 ∧ H = WO (putRow w0 b px py c)) := cput_c w0 b px py c ok hpx hpy hR ⟨hd, by omega⟩
        rw [put_app] at pt
        obtain ⟨z1, z2⟩ := put_fine (px := px) (py := py) (Fine.nil 0) hR
        have cb := fun R hR' => cel_back b px py c R hR' hR
        generalize putRow [] b px py c = Z at *
        have hzd : (w0 ++ Z).all isDig = true := by rw [List.all_append, hd, z1]; rfl
        obtain ⟨R, hR1, hR2⟩ := und_pack w0 Z hzd
        have hlz : (w0 ++ Z).length = w0.length + Z.length := List.length_append
        have hpl := packN_length (w0 ++ Z)
        have ln := wlen_c (gl := gB) (w0 ++ Z)
        have tx := wtext_c (gl := gB) (w0 ++ Z)
        have rn := new_c (gl := gB) (packN (w0 ++ Z))
        have sk := seek_ok (gl := gB) (packN (w0 ++ Z)) 0 (w0.length : Int) (by rw [hpl]; simp only [List.length_nil, Nat.zero_add] at z2; omega) ⟨by omega, by rw [hpl]; omega⟩
        have tk := citake_c b px py (packN (w0 ++ Z)) w0.length hpx hpy (by rw [hpl]; simp only [List.length_nil, Nat.zero_add] at z2; omega) (by rw [hpl]; omega)
        rw [hR2, cb R hR1] at tk
        simp only at tk
        have a0 := at_c (gl := gB) (packN (w0 ++ Z)) ((w0.length + Z.length : Nat) : Int)
        have sm := Cs.csame_c (gl := gB) c c sh sh
        rw [Cs.sameS_refl] at sm
        refine ACalls.enter Tryd.func5 rfl Tryd.ntmps5 (by kernel_rfl) rfl ?_; simp only [argEnv, Nat.reduceAdd, List.length_nil, List.length_cons]
        repeat' (first | apply AGo.seq | apply AGo.skip | apply AGo.nil | (apply AGo.region; rfl) | (apply AGo.q true; rfl; rfl; rfl; rfl; first | exact True.intro | omega | (simp only [Int.toNat_natCast, Int.reduceToNat, IntKind.bits]; omega)) | (apply AGo.callH [] ( nw); (iterate 6 rfl); decide; rfl; rfl; simp only [names, putH, AV.ren, AV.renL, AObj.ren, nh, Nat.reduceAdd, Nat.reduceSub]) | (apply AGo.callH [3,4] ( had); (iterate 6 rfl); decide; rfl; rfl; simp only [names, putH, AV.ren, AV.renL, AObj.ren, nh, Nat.reduceAdd, Nat.reduceSub]) | (apply AGo.callH [3,4] ( pt); (iterate 6 rfl); decide; rfl; rfl; simp only [names, putH, AV.ren, AV.renL, AObj.ren, nh, Nat.reduceAdd, Nat.reduceSub]) | (apply AGo.callH [3,4] ( ln0); (iterate 6 rfl); decide; rfl; rfl; simp only [names, putH, AV.ren, AV.renL, AObj.ren, nh, Nat.reduceAdd, Nat.reduceSub]) | (apply AGo.callH [3,4] ( ln); (iterate 6 rfl); decide; rfl; rfl; simp only [names, putH, AV.ren, AV.renL, AObj.ren, nh, Nat.reduceAdd, Nat.reduceSub]) | (apply AGo.callH [3,4] ( tx); (iterate 6 rfl); decide; rfl; rfl; simp only [names, putH, AV.ren, AV.renL, AObj.ren, nh, Nat.reduceAdd, Nat.reduceSub]) | (apply AGo.callH [] ( rn); (iterate 6 rfl); decide; rfl; rfl; simp only [names, putH, AV.ren, AV.renL, AObj.ren, nh, Nat.reduceAdd, Nat.reduceSub]) | (apply AGo.callH [5] ( sk); (iterate 6 rfl); decide; rfl; rfl; simp only [names, putH, AV.ren, AV.renL, AObj.ren, nh, Nat.reduceAdd, Nat.reduceSub]) | (apply AGo.callH [5] ( tk); (iterate 6 rfl); decide; rfl; rfl; simp only [names, putH, AV.ren, AV.renL, AObj.ren, nh, Nat.reduceAdd, Nat.reduceSub]) | (apply AGo.callH [5] ( a0); (iterate 6 rfl); decide; rfl; rfl; simp only [names, putH, AV.ren, AV.renL, AObj.ren, nh, Nat.reduceAdd, Nat.reduceSub]) | (apply AGo.callP (fw); (iterate 6 rfl)) | (apply AGo.callP (lv); (iterate 6 rfl)) | (apply AGo.callP (sm); (iterate 6 rfl)) | (apply AGo.condDT; rfl; first | omega | rfl) | (apply AGo.condDF; rfl; omega) | (apply AGo.condT; rfl) | (apply AGo.condF; rfl) | (apply AGo.alloc; (iterate 5 rfl); simp only [nm, Nat.reduceAdd, spliceA, AV.cells, D.cells]) | (apply AGo.box; (iterate 6 rfl); simp only [nm, Nat.reduceAdd, spliceA, AV.cells, D.cells]) | (apply AGo.store; (iterate 9 rfl); exact Nat.le_of_ble_eq_true rfl; simp only [nm, Nat.reduceAdd, spliceA, AV.cells, D.cells]) | (apply AGo.unguard; rfl; rfl) | (apply AGo.gT; rfl; rfl; rfl; first | omega | rfl) | (apply AGo.skipOp; rfl; rfl; rfl) | intro _ | (apply AGo.retN; rfl; rfl; rfl; rfl))
        all_goals first | exact ⟨rfl, rfl⟩ | (exfalso; omega) | trace_state
  · have fw := few_no (gl := gB) c hf
    refine ACalls.enter Tryd.func5 rfl Tryd.ntmps5 (by kernel_rfl) rfl ?_; simp only [argEnv, Nat.reduceAdd, List.length_nil, List.length_cons]
    repeat' (first | apply AGo.seq | apply AGo.skip | apply AGo.nil | (apply AGo.region; rfl) | (apply AGo.q true; rfl; rfl; rfl; rfl; first | exact True.intro | omega | (simp only [Int.toNat_natCast, Int.reduceToNat, IntKind.bits]; omega)) | (apply AGo.callP (fw); (iterate 6 rfl)) | (apply AGo.callP (lv); (iterate 6 rfl)) | (apply AGo.condDT; rfl; first | omega | rfl) | (apply AGo.condDF; rfl; omega) | (apply AGo.condT; rfl) | (apply AGo.condF; rfl) | (apply AGo.alloc; (iterate 5 rfl); simp only [nm, Nat.reduceAdd, spliceA, AV.cells, D.cells]) | (apply AGo.box; (iterate 6 rfl); simp only [nm, Nat.reduceAdd, spliceA, AV.cells, D.cells]) | (apply AGo.store; (iterate 9 rfl); exact Nat.le_of_ble_eq_true rfl; simp only [nm, Nat.reduceAdd, spliceA, AV.cells, D.cells]) | (apply AGo.unguard; rfl; rfl) | (apply AGo.gT; rfl; rfl; rfl; first | omega | rfl) | (apply AGo.skipOp; rfl; rfl; rfl) | intro _ | (apply AGo.retN; rfl; rfl; rfl; rfl))
    all_goals first | exact ⟨rfl, rfl⟩ | (exfalso; omega) | trace_state
theorem celloutBack_law (c how pred : D) (h : TyV tys 9 27 c) (h' : TyV tys 9 31 how) (h'' : TyV tys 9 22 pred) :
    ACalls (cxg gB) 5 [.d c, .d how, .d pred] [] (fun r H => r = B true ∧ H = []) := by
  obtain ⟨c', w, ci⟩ := cel_of c h
  obtain ⟨s, b, rfl, hs⟩ := how_of how h'
  obtain ⟨x, y, rfl, hx, hy⟩ := arr2_of pred h''
  exact (back_in c' ci s b x y hs hx hy).weak ⟨Weak.d w, Weak.refl _, Weak.refl _, trivial⟩
end Go.Proofs.YtbfojhfiemcnpaaDoor.Av.Cw
