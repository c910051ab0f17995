/- mcbpc: the reference's Take. -/
import Derived.Test.YtdihjnifoikbeaaDoorMb4
import Derived.Test.YtdihjnifoikbeaaDoorMb3
set_option linter.unusedSimpArgs false
set_option linter.unusedVariables false
set_option maxRecDepth 100000
namespace Go.Proofs.YtdihjnifoikbeaaDoor.Av.Mb
open Go Bt Px
attribute [local irreducible] AGo ACalls
variable {gl : List (Nat × List D)}
theorem mbRs_short (b : Bool) : ∀ r ∈ mbRs b, r.length ≤ 24 := by unfold mbRs; cases b <;> decide +kernel
theorem mbRs_lit (b : Bool) : mbRs b = if b = true then wdI.flatten else wdJ.flatten := by unfold mbRs; cases b <;> decide +kernel
abbrev Quad (x : Int × Int × Int × Int) : AV := .tup [I x.1, I x.2.1, I x.2.2.1, I x.2.2.2]
attribute [local irreducible] mbX qfin
set_option maxHeartbeats 40000000 in
theorem rmbtake_c (b : Bool) (L : List UInt8) (p : Nat) (hL : L.length ≤ 1000000) (hp : p ≤ L.length) :
    ACalls (cxg gl) 94 [S L, I p, B b] [] (fun r H => r = Quad ((mbX b (L.drop p)).1, (mbX b (L.drop p)).2.1, ((qfin p (mbX b (L.drop p)) : Nat) : Int), (mbX b (L.drop p)).2.2.1) ∧ H = []) := by
  have rr := rmrows_c (gl := gl) b
  have ht := rtake_c (gl := gl) (mbRs b) L p (by rw [mbRs_len]; split <;> decide) hL (by omega)
  rw [t5_all (mbRs b) L p (mbRs_short b) hp] at ht
  have he := rrun_err (mbRs b) (L.drop p) []
  have hb := rrun_bd (mbRs b) (L.drop p) []
  rw [mbRs_len] at hb
  unfold mbX
  generalize rrun (mbRs b) (L.drop p) [] = y at *
  obtain ⟨i, e, c⟩ := y
  simp only at he hb ht ⊢
  rw [mbRs_lit] at ht
  unfold rowsD at ht rr
  unfold mbFull at rr
  unfold rconv at ht
  by_cases h0 : e = 0
  · have hb' := hb h0
    subst h0
    simp only [if_true] at ht ⊢
    cases b
    · simp only [Bool.false_eq_true, if_false] at ht hb' ⊢
      by_cases h2 : (i + 12) / 4 = 2
      · rw [if_pos h2]
        unfold qfin
        refine ACalls.enter Tryd.func94 rfl Tryd.ntmps94 (by kernel_rfl) rfl ?_; simp only [argEnv, Nat.reduceAdd, List.length_nil, List.length_cons]
        repeat' (first | (apply AGo.append; (iterate 11 rfl); (first | rfl | (simp only [List.length_append, List.length_map, List.length_cons, List.length_nil]; omega)); (first | (simp only [List.length_append, List.length_map, List.length_cons, List.length_nil]; omega) | (decide)); simp only [List.set_cons_zero, List.set_cons_succ]) | (apply AGo.appendN; (iterate 10 rfl); (first | (simp only [List.length_append, List.length_map, List.length_cons, List.length_nil]; omega) | (decide)); simp only [List.nil_append, List.cons_append, List.length_nil, List.length_cons, Nat.reduceAdd]) | apply AGo.seq | apply AGo.block | apply AGo.blk | apply AGo.skip | apply AGo.nil | (apply AGo.region; rfl) | (apply AGo.q true; rfl; rfl; rfl; rfl; first | exact True.intro | omega | (simp only [Int.toNat_natCast, Int.reduceToNat, IntKind.bits]; omega) | (decide)) | (apply AGo.callPF (ht); (iterate 7 rfl)) | (apply AGo.callP (rr); (iterate 6 rfl)) | (apply AGo.exit; rfl) | (apply AGo.condDT; rfl; first | omega | rfl) | (apply AGo.condDF; rfl; omega) | (apply AGo.condT; rfl) | (apply AGo.condF; rfl) | (apply AGo.cBT; rfl; first | (simp only [bT]; omega)) | (apply AGo.buildSlice; (iterate 11 rfl)) | apply AGo.loopU | apply AGo.lpU | intro _ | (apply AGo.retN; rfl; rfl; rfl; rfl))
        all_goals first | exact ⟨rfl, rfl⟩ | (exfalso; omega) | trace_state
      · rw [if_neg h2]
        unfold qfin
        refine ACalls.enter Tryd.func94 rfl Tryd.ntmps94 (by kernel_rfl) rfl ?_; simp only [argEnv, Nat.reduceAdd, List.length_nil, List.length_cons]
        repeat' (first | (apply AGo.append; (iterate 11 rfl); (first | rfl | (simp only [List.length_append, List.length_map, List.length_cons, List.length_nil]; omega)); (first | (simp only [List.length_append, List.length_map, List.length_cons, List.length_nil]; omega) | (decide)); simp only [List.set_cons_zero, List.set_cons_succ]) | (apply AGo.appendN; (iterate 10 rfl); (first | (simp only [List.length_append, List.length_map, List.length_cons, List.length_nil]; omega) | (decide)); simp only [List.nil_append, List.cons_append, List.length_nil, List.length_cons, Nat.reduceAdd]) | apply AGo.seq | apply AGo.block | apply AGo.blk | apply AGo.skip | apply AGo.nil | (apply AGo.region; rfl) | (apply AGo.q true; rfl; rfl; rfl; rfl; first | exact True.intro | omega | (simp only [Int.toNat_natCast, Int.reduceToNat, IntKind.bits]; omega) | (decide)) | (apply AGo.callPF (ht); (iterate 7 rfl)) | (apply AGo.callP (rr); (iterate 6 rfl)) | (apply AGo.exit; rfl) | (apply AGo.condDT; rfl; first | omega | rfl) | (apply AGo.condDF; rfl; omega) | (apply AGo.condT; rfl) | (apply AGo.condF; rfl) | (apply AGo.cBT; rfl; first | (simp only [bT]; omega)) | (apply AGo.buildSlice; (iterate 11 rfl)) | apply AGo.loopU | apply AGo.lpU | intro _ | (apply AGo.retN; rfl; rfl; rfl; rfl))
        all_goals first | exact ⟨rfl, rfl⟩ | (exfalso; omega) | trace_state
    · simp only [if_true, Int.add_zero] at ht hb' ⊢
      by_cases h2 : i / 4 = 2
      · rw [if_pos h2]
        unfold qfin
        refine ACalls.enter Tryd.func94 rfl Tryd.ntmps94 (by kernel_rfl) rfl ?_; simp only [argEnv, Nat.reduceAdd, List.length_nil, List.length_cons]
        repeat' (first | (apply AGo.append; (iterate 11 rfl); (first | rfl | (simp only [List.length_append, List.length_map, List.length_cons, List.length_nil]; omega)); (first | (simp only [List.length_append, List.length_map, List.length_cons, List.length_nil]; omega) | (decide)); simp only [List.set_cons_zero, List.set_cons_succ]) | (apply AGo.appendN; (iterate 10 rfl); (first | (simp only [List.length_append, List.length_map, List.length_cons, List.length_nil]; omega) | (decide)); simp only [List.nil_append, List.cons_append, List.length_nil, List.length_cons, Nat.reduceAdd]) | apply AGo.seq | apply AGo.block | apply AGo.blk | apply AGo.skip | apply AGo.nil | (apply AGo.region; rfl) | (apply AGo.q true; rfl; rfl; rfl; rfl; first | exact True.intro | omega | (simp only [Int.toNat_natCast, Int.reduceToNat, IntKind.bits]; omega) | (decide)) | (apply AGo.callPF (ht); (iterate 7 rfl)) | (apply AGo.callP (rr); (iterate 6 rfl)) | (apply AGo.exit; rfl) | (apply AGo.condDT; rfl; first | omega | rfl) | (apply AGo.condDF; rfl; omega) | (apply AGo.condT; rfl) | (apply AGo.condF; rfl) | (apply AGo.cBT; rfl; first | (simp only [bT]; omega)) | (apply AGo.buildSlice; (iterate 11 rfl)) | apply AGo.loopU | apply AGo.lpU | intro _ | (apply AGo.retN; rfl; rfl; rfl; rfl))
        all_goals first | exact ⟨rfl, rfl⟩ | (exfalso; omega) | trace_state
      · rw [if_neg h2]
        unfold qfin
        refine ACalls.enter Tryd.func94 rfl Tryd.ntmps94 (by kernel_rfl) rfl ?_; simp only [argEnv, Nat.reduceAdd, List.length_nil, List.length_cons]
        repeat' (first | (apply AGo.append; (iterate 11 rfl); (first | rfl | (simp only [List.length_append, List.length_map, List.length_cons, List.length_nil]; omega)); (first | (simp only [List.length_append, List.length_map, List.length_cons, List.length_nil]; omega) | (decide)); simp only [List.set_cons_zero, List.set_cons_succ]) | (apply AGo.appendN; (iterate 10 rfl); (first | (simp only [List.length_append, List.length_map, List.length_cons, List.length_nil]; omega) | (decide)); simp only [List.nil_append, List.cons_append, List.length_nil, List.length_cons, Nat.reduceAdd]) | apply AGo.seq | apply AGo.block | apply AGo.blk | apply AGo.skip | apply AGo.nil | (apply AGo.region; rfl) | (apply AGo.q true; rfl; rfl; rfl; rfl; first | exact True.intro | omega | (simp only [Int.toNat_natCast, Int.reduceToNat, IntKind.bits]; omega) | (decide)) | (apply AGo.callPF (ht); (iterate 7 rfl)) | (apply AGo.callP (rr); (iterate 6 rfl)) | (apply AGo.exit; rfl) | (apply AGo.condDT; rfl; first | omega | rfl) | (apply AGo.condDF; rfl; omega) | (apply AGo.condT; rfl) | (apply AGo.condF; rfl) | (apply AGo.cBT; rfl; first | (simp only [bT]; omega)) | (apply AGo.buildSlice; (iterate 11 rfl)) | apply AGo.loopU | apply AGo.lpU | intro _ | (apply AGo.retN; rfl; rfl; rfl; rfl))
        all_goals first | exact ⟨rfl, rfl⟩ | (exfalso; omega) | trace_state
  · simp only [if_neg h0] at ht ⊢
    unfold qfin
    simp only [if_neg h0]
    cases b
    · simp only [Bool.false_eq_true, if_false] at ht
      refine ACalls.enter Tryd.func94 rfl Tryd.ntmps94 (by kernel_rfl) rfl ?_; simp only [argEnv, Nat.reduceAdd, List.length_nil, List.length_cons]
      repeat' (first | (apply AGo.append; (iterate 11 rfl); (first | rfl | (simp only [List.length_append, List.length_map, List.length_cons, List.length_nil]; omega)); (first | (simp only [List.length_append, List.length_map, List.length_cons, List.length_nil]; omega) | (decide)); simp only [List.set_cons_zero, List.set_cons_succ]) | (apply AGo.appendN; (iterate 10 rfl); (first | (simp only [List.length_append, List.length_map, List.length_cons, List.length_nil]; omega) | (decide)); simp only [List.nil_append, List.cons_append, List.length_nil, List.length_cons, Nat.reduceAdd]) | apply AGo.seq | apply AGo.block | apply AGo.blk | apply AGo.skip | apply AGo.nil | (apply AGo.region; rfl) | (apply AGo.q true; rfl; rfl; rfl; rfl; first | exact True.intro | omega | (simp only [Int.toNat_natCast, Int.reduceToNat, IntKind.bits]; omega) | (decide)) | (apply AGo.callPF (ht); (iterate 7 rfl)) | (apply AGo.callP (rr); (iterate 6 rfl)) | (apply AGo.exit; rfl) | (apply AGo.condDT; rfl; first | omega | rfl) | (apply AGo.condDF; rfl; omega) | (apply AGo.condT; rfl) | (apply AGo.condF; rfl) | (apply AGo.cBT; rfl; first | (simp only [bT]; omega)) | (apply AGo.buildSlice; (iterate 11 rfl)) | apply AGo.loopU | apply AGo.lpU | intro _ | (apply AGo.retN; rfl; rfl; rfl; rfl))
      all_goals first | exact ⟨rfl, rfl⟩ | (exfalso; omega) | trace_state
    · simp only [if_true] at ht
      refine ACalls.enter Tryd.func94 rfl Tryd.ntmps94 (by kernel_rfl) rfl ?_; simp only [argEnv, Nat.reduceAdd, List.length_nil, List.length_cons]
      repeat' (first | (apply AGo.append; (iterate 11 rfl); (first | rfl | (simp only [List.length_append, List.length_map, List.length_cons, List.length_nil]; omega)); (first | (simp only [List.length_append, List.length_map, List.length_cons, List.length_nil]; omega) | (decide)); simp only [List.set_cons_zero, List.set_cons_succ]) | (apply AGo.appendN; (iterate 10 rfl); (first | (simp only [List.length_append, List.length_map, List.length_cons, List.length_nil]; omega) | (decide)); simp only [List.nil_append, List.cons_append, List.length_nil, List.length_cons, Nat.reduceAdd]) | apply AGo.seq | apply AGo.block | apply AGo.blk | apply AGo.skip | apply AGo.nil | (apply AGo.region; rfl) | (apply AGo.q true; rfl; rfl; rfl; rfl; first | exact True.intro | omega | (simp only [Int.toNat_natCast, Int.reduceToNat, IntKind.bits]; omega) | (decide)) | (apply AGo.callPF (ht); (iterate 7 rfl)) | (apply AGo.callP (rr); (iterate 6 rfl)) | (apply AGo.exit; rfl) | (apply AGo.condDT; rfl; first | omega | rfl) | (apply AGo.condDF; rfl; omega) | (apply AGo.condT; rfl) | (apply AGo.condF; rfl) | (apply AGo.cBT; rfl; first | (simp only [bT]; omega)) | (apply AGo.buildSlice; (iterate 11 rfl)) | apply AGo.loopU | apply AGo.lpU | intro _ | (apply AGo.retN; rfl; rfl; rfl; rfl))
      all_goals first | exact ⟨rfl, rfl⟩ | (exfalso; omega) | trace_state
end Go.Proofs.YtdihjnifoikbeaaDoor.Av.Mb
