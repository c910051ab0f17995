/- The law CelloutPuts. -/
import Derived.Test.YtbfojhfiemcnpaaDoorCo12
import Derived.Test.YtbfojhfiemcnpaaDoorCo10
import Derived.Test.YtbfojhfiemcnpaaDoorPn
set_option linter.unusedSimpArgs false
set_option linter.unusedVariables false
set_option maxRecDepth 100000
namespace Go.Proofs.YtbfojhfiemcnpaaDoor.Av.Co
open Go Bt Tc Wr Bl
attribute [local irreducible] AGo ACalls
variable {gl : List (Nat × List D)}
theorem CelI.ok {c : Cel} (h : CelI c) (h0 : c.e0.length ≤ 100) (h1 : c.e1.length ≤ 100) (h2 : c.e2.length ≤ 100) (h3 : c.e3.length ≤ 100) (h4 : c.e4.length ≤ 100) (h5 : c.e5.length ≤ 100) : CelOk c :=
  ⟨h.x, h.y, h.step, ⟨by omega, h.e0.2⟩, ⟨by omega, h.e1.2⟩, ⟨by omega, h.e2.2⟩, ⟨by omega, h.e3.2⟩, ⟨by omega, h.e4.2⟩, ⟨by omega, h.e5.2⟩⟩
def fewP (c : Cel) : Prop := c.e0.length ≤ 100 ∧ c.e1.length ≤ 100 ∧ c.e2.length ≤ 100 ∧ c.e3.length ≤ 100 ∧ c.e4.length ≤ 100 ∧ c.e5.length ≤ 100
def celL (st : Int) : Cel := ⟨st, true, 0, 0, 0, 0, 0, 0, 0, 0, 0, 0, [], [], [], [], [], []⟩
abbrev celN (st : Int) : D := .agg [In st, .bool true, In 0, In 0, In 0, In 0, In 0, In 0, In 0, In 0, In 0, In 0, .nils, .nils, .nils, .nils, .nils, .nils]
theorem celN_weak (st : Int) : DWeak (celN st) (celD (celL st)) := DWeak.agg rfl (by simp [D.one]) (fun i c d hc hd => by
  have hn : DWeak .nils (evS []) := DWeak.nils 3
  match i, hc, hd with
  | 0, hc, hd | 1, hc, hd | 2, hc, hd | 3, hc, hd | 4, hc, hd | 5, hc, hd | 6, hc, hd | 7, hc, hd | 8, hc, hd | 9, hc, hd | 10, hc, hd | 11, hc, hd => cases hc; cases hd; exact DWeak.refl _
  | 12, hc, hd | 13, hc, hd | 14, hc, hd | 15, hc, hd | 16, hc, hd | 17, hc, hd => cases hc; cases hd; exact hn
  | i + 18, hc, hd => simp at hc)
attribute [local irreducible] evsD
set_option maxHeartbeats 8000000 in
theorem few_yes (c : Cel) (h : fewP c) : ACalls (cxg gl) 20 [.d (celD c)] [] (fun r H => r = B true ∧ H = []) := by
  obtain ⟨h0, h1, h2, h3, h4, h5⟩ := h
  have l0 := evsD_len c.e0
  have l1 := evsD_len c.e1
  have l2 := evsD_len c.e2
  have l3 := evsD_len c.e3
  have l4 := evsD_len c.e4
  have l5 := evsD_len c.e5
  refine ACalls.enter Tryd.func20 rfl Tryd.ntmps20 (by kernel_rfl) rfl ?_; simp only [argEnv, Nat.reduceAdd, List.length_nil, List.length_cons]
  repeat' (first | apply AGo.seq | apply AGo.block | apply AGo.blk | apply AGo.skip | apply AGo.nil | (apply AGo.region; rfl) | (apply AGo.q true; rfl; rfl; rfl; rfl; first | exact True.intro | omega | (simp only [Int.toNat_natCast, Int.reduceToNat, IntKind.bits]; omega) | (exact ⟨by omega, Nat.le_of_ble_eq_true rfl⟩)) | (apply AGo.exit; rfl) | (apply AGo.condDT; rfl; first | omega | rfl) | (apply AGo.condDF; rfl; omega) | (apply AGo.box; (iterate 6 rfl); simp only [nm, Nat.reduceAdd, spliceA, AV.cells, D.cells]) | apply AGo.loopU | apply AGo.lpU | intro _ | (apply AGo.retN; rfl; rfl; rfl; rfl))
  all_goals first | exact ⟨rfl, rfl⟩ | (exfalso; omega) | trace_state
set_option maxHeartbeats 8000000 in
theorem few_no (c : Cel) (h : ¬ fewP c) : ACalls (cxg gl) 20 [.d (celD c)] [] (fun r H => r = B false ∧ H = []) := by
  unfold fewP at h
  have l0 := evsD_len c.e0
  have l1 := evsD_len c.e1
  have l2 := evsD_len c.e2
  have l3 := evsD_len c.e3
  have l4 := evsD_len c.e4
  have l5 := evsD_len c.e5
  refine ACalls.enter Tryd.func20 rfl Tryd.ntmps20 (by kernel_rfl) rfl ?_; simp only [argEnv, Nat.reduceAdd, List.length_nil, List.length_cons]
  repeat' (first | apply AGo.seq | apply AGo.block | apply AGo.blk | apply AGo.skip | apply AGo.nil | (apply AGo.region; rfl) | (apply AGo.q true; rfl; rfl; rfl; rfl; first | exact True.intro | omega | (simp only [Int.toNat_natCast, Int.reduceToNat, IntKind.bits]; omega) | (exact ⟨by omega, Nat.le_of_ble_eq_true rfl⟩)) | (apply AGo.condDT; rfl; first | omega | rfl) | (apply AGo.box; (iterate 6 rfl); simp only [nm, Nat.reduceAdd, spliceA, AV.cells, D.cells]) | apply AGo.loopU | apply AGo.lpU | intro _ | (apply AGo.condD' ; rfl) | (apply AGo.retN; rfl; rfl; rfl; rfl))
  all_goals first | exact ⟨rfl, rfl⟩ | (exfalso; omega) | trace_state
theorem celL_ok (st : Int) : CelOk (celL st) := by
  have h : EvsOk [] := ⟨by decide, by simp⟩
  have h0 : I64 0 := by unfold I64; decide
  exact ⟨h0, h0, h0, h, h, h, h, h, h⟩
theorem cl1 : rightS true (celL 1) = true := by decide +kernel
theorem cl2 : rightS false (celL 0) = false := by decide +kernel
theorem cl3 : putRow [] true 0 0 (celL 1) = [48, 48, 48, 48, 48, 48, 48, 48, 48, 49, 49] := by decide +kernel
theorem cl4 : packN [48, 48, 48, 48, 48, 48, 48, 48, 48, 49, 49] = [0, 96] := by decide +kernel
attribute [local irreducible] rightS putRow packN octets
set_option maxHeartbeats 8000000 in
theorem colives_c : ACalls (cxg gA) 11 [] [] (fun r H => r = B true ∧ H = []) := by
  have nw := wnew_c (gl := gA)
  have pt := (cput_c [] true 0 0 (celL 1) (celL_ok 1) (by unfold I64; decide) (by unfold I64; decide) cl1 (Fine.nil _)).weak (args := [.ptr 0 0, B true, .d (prD 0 0), .d (celN 1)]) ⟨Weak.refl _, Weak.refl _, Weak.refl _, Weak.d (celN_weak 1), trivial⟩
  have rt := ((cright_c false (celL 0) (celL_ok 0)).more gtc_A).weak (args := [B false, .d (celN 0)]) ⟨Weak.refl _, Weak.d (celN_weak 0), trivial⟩
  rw [cl3] at pt
  rw [cl2] at rt
  have ln := wlen_c (gl := gA) [48, 48, 48, 48, 48, 48, 48, 48, 48, 49, 49]
  have tx := wtext_c (gl := gA) [48, 48, 48, 48, 48, 48, 48, 48, 48, 49, 49]
  rw [cl4] at tx
  refine ACalls.enter Tryd.func11 rfl Tryd.ntmps11 (by kernel_rfl) rfl ?_; simp only [argEnv, Nat.reduceAdd, List.length_nil, List.length_cons]
  repeat' (first | apply AGo.seq | apply AGo.nil | (apply AGo.region; rfl) | (apply AGo.q true; rfl; rfl; rfl; rfl; first | exact True.intro | omega | (simp only [Int.toNat_natCast, Int.reduceToNat, IntKind.bits]; omega)) | (apply AGo.callH [] ( nw); (iterate 6 rfl); decide; rfl; rfl; simp only [names, putH, AV.ren, AV.renL, AObj.ren, nh, Nat.reduceAdd, Nat.reduceSub]) | (apply AGo.callH [0,1] ( pt); (iterate 6 rfl); decide; rfl; rfl; simp only [names, putH, AV.ren, AV.renL, AObj.ren, nh, Nat.reduceAdd, Nat.reduceSub]) | (apply AGo.callH [0,1] ( ln); (iterate 6 rfl); decide; rfl; rfl; simp only [names, putH, AV.ren, AV.renL, AObj.ren, nh, Nat.reduceAdd, Nat.reduceSub]) | (apply AGo.callH [0,1] ( tx); (iterate 6 rfl); decide; rfl; rfl; simp only [names, putH, AV.ren, AV.renL, AObj.ren, nh, Nat.reduceAdd, Nat.reduceSub]) | (apply AGo.callP (rt); (iterate 6 rfl)) | (apply AGo.build; (iterate 5 rfl); simp only [nm, Nat.reduceAdd, spliceA, AV.cells, D.cells, mkAgg, unDs, AV.unD]) | (apply AGo.unguard; rfl; rfl) | intro _ | (apply AGo.retN; rfl; rfl; rfl; rfl))
  all_goals first | exact ⟨rfl, rfl⟩ | trace_state
abbrev howD (s : List UInt8) (b : Bool) : D := .agg [.str s, .bool b]
end Go.Proofs.YtbfojhfiemcnpaaDoor.Av.Co
namespace Go.Proofs.YtbfojhfiemcnpaaDoor.Av.Co
open Go Bt Tc Wr Bl
theorem how_of (x : D) (h : TyV tys 9 31 x) : ∃ s b, x = howD s b ∧ s.length ≤ 9223372036854775807 := by
  obtain ⟨hc, ha⟩ := h
  obtain ⟨l, rfl⟩ := ha rfl
  change l.length = 2 ∧ ∀ o t', (o, t') ∈ [((0 : Nat), (9 : Nat)), (1, 4)] → TyC tys 8 t' ((l.drop o).take (szT tys t')) at hc
  obtain ⟨hl, hf⟩ := hc
  have h0 := hf 0 9 (by simp)
  have h1 := hf 1 4 (by simp)
  match l, hl with
  | [a, b], _ =>
    obtain ⟨bb, rfl⟩ := bool_of h1
    change ∃ s, [a] = [.str s] ∧ s.length ≤ 9223372036854775807 at h0
    obtain ⟨s, e, hs⟩ := h0
    obtain rfl : a = .str s := by simpa using e
    exact ⟨s, bb, rfl, hs⟩
end Go.Proofs.YtbfojhfiemcnpaaDoor.Av.Co
