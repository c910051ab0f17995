/- Heads of sheets: the document's answer. -/
import Derived.Test.YtdihjnifoikbeaaDoorPs1
set_option linter.unusedSimpArgs false
set_option linter.unusedVariables false
set_option maxRecDepth 100000
namespace Go.Proofs.YtdihjnifoikbeaaDoor.Av.Sh
open Go Bt Wr
attribute [local irreducible] AGo ACalls
variable {gl : List (Nat × List D)}
theorem fN_0 (f : Int) : (fN f = 0 ∧ fOk f = false) ∨ (fN f ≠ 0 ∧ fOk f = true) := by
  rcases fmts f with rfl | rfl | rfl | rfl | rfl | rfl | h
  rotate_right
  · obtain ⟨e1, e2, e3, e4, e5⟩ := f_no h
    exact .inl ⟨by unfold fN fA; rw [e1]; simp, e5⟩
  all_goals exact .inr (by decide)
theorem iD_row (b : Bool) : digs (iD b) 1 1 = if b = true then [49] else [48] := by cases b <;> decide +kernel
theorem d2 : digs 2 2 2 = [49, 48] := by decide +kernel
theorem d4 : digs 0 4 4 = [48, 48, 48, 48] := by decide +kernel
theorem d1 : digs 0 1 1 = [48] := by decide +kernel
def hdRow2 (h : Hd) (i : List UInt8) : List UInt8 := mkRow 0 ++ digs h.ref 8 8 ++ [49, 48] ++ digs h.flags 3 3 ++ digs h.fmt 3 3 ++ i ++ [48, 48, 48, 48] ++ digs h.quant 5 5 ++ [48]
theorem hdRow_eq (h : Hd) : hdRow h = hdRow2 h (if h.inter = true then [49] else [48]) := by unfold hdRow hdRow2; rw [iD_row, d2, d4, d1]
theorem suRow_eq (v : Int) : suRow v = [49] ++ digs v 8 8 := rfl
theorem z_len (n : Nat) : (zs n).length = n := by unfold zs; simp
attribute [local irreducible] suD suRow digs mkRow zs
set_option maxHeartbeats 8000000 in
theorem rright_c (h : Hd) (rs : List D) (z : Int) (hl : h.supp.length ≤ 100) (hb : -9223372036854775808 ≤ h.fmt ∧ h.fmt ≤ 9223372036854775807) : ACalls (cxg gl) 39 [.d (shD h rs z)] [] (fun r H => r = B (hdOk h) ∧ H = []) := by
  have hs := rmany_c (gl := gl) h.fmt hb
  have hn := suD_len h.supp
  have hf := fN_0 h.fmt
  generalize fN h.fmt = N at hs hf
  by_cases hp : baseP h
  · have hh : hdOk h = h.supp.all okB := by unfold hdOk; rw [decide_eq_true hp]; rfl
    obtain ⟨f0, f1, f2, f3, f4⟩ := hp
    rw [f0] at hf
    have hN : N ≠ 0 := by
      rcases hf with h | h
      · exact absurd h.2 (by decide)
      · exact h.1
    refine ACalls.enter Tryd.func39 rfl Tryd.ntmps39 (by kernel_rfl) rfl ?_; simp only [argEnv, Nat.reduceAdd, List.length_nil, List.length_cons]
    repeat (first | apply AGo.seq | apply AGo.block | apply AGo.blk | apply AGo.skip | apply AGo.nil | (apply AGo.region; rfl) | (apply AGo.q true; rfl; rfl; rfl; rfl; first | exact True.intro | omega | (simp only [Int.toNat_natCast, Int.reduceToNat, IntKind.bits]; omega) | (rw [hn]; omega)) | (apply AGo.callP (hs); (iterate 6 rfl)) | (apply AGo.condDT; rfl; first | omega | rfl) | (apply AGo.condDF; rfl; omega) | (apply AGo.condT; rfl) | (apply AGo.box; (iterate 6 rfl); simp only [nm, Nat.reduceAdd, spliceA, AV.cells, D.cells]) | (apply AGo.unguard; rfl; rfl) | (apply AGo.gF; rfl; rfl; rfl; omega) | (apply AGo.skipOp; rfl; rfl; rfl))
    rw [hh]
    refine AGo.weak (env' := [(3, I ((0 : Nat) : Int)), (1, .ptr 0 0)]) ⟨rfl, rfl, trivial⟩ ?_
    refine AGo.loop (fun m env H => ∃ k : Nat, m = h.supp.length - k ∧ k ≤ h.supp.length ∧ (h.supp.take k).all okB = true ∧ env = [(3, I (k : Int)), (1, .ptr 0 0)] ∧ H = [.cells [.d (Nn h.ref), .d (Nn h.flags), .d (Nn h.fmt), .d (.bool h.inter), .d (Nn h.quant), .d (.sl 1 (suD h.supp)), .d (.sl 4 rs), .d (Nn z)]]) h.supp.length
      ⟨0, rfl, by omega, by simp, rfl, rfl⟩ ?_
    rintro m env H ⟨k, rfl, hk, hq, rfl, rfl⟩
    rcases Nat.lt_or_ge k h.supp.length with hlt | hge
    · obtain ⟨v, hv⟩ : ∃ v, h.supp[k]? = some v := ⟨_, List.getElem?_eq_getElem hlt⟩
      have g1 := suD_get h.supp k v hv
      have ht := take_all h.supp k v hv
      rw [hq, Bool.true_and] at ht
      by_cases hvb : 0 ≤ v ∧ v ≤ 255
      · rw [show okB v = true from decide_eq_true hvb] at ht
        repeat' (first | apply AGo.seq | apply AGo.block | apply AGo.blk | apply AGo.skip | apply AGo.nil | (apply AGo.region; rfl) | (apply AGo.q true; rfl; rfl; rfl; rfl; first | exact True.intro | omega | (simp only [Int.toNat_natCast, Int.reduceToNat, IntKind.bits]; omega) | (rw [hn]; omega)) | (apply AGo.condDT; rfl; first | omega | rfl) | (apply AGo.condDF; rfl; omega) | (apply AGo.condT; rfl) | (apply AGo.box; (iterate 6 rfl); simp only [nm, Nat.reduceAdd, spliceA, AV.cells, D.cells]) | (apply AGo.unguard; rfl; rfl) | (apply AGo.gF; rfl; rfl; rfl; omega) | (apply AGo.skipOp; rfl; rfl; rfl) | (apply AGo.loadG; (iterate 7 rfl); exact g1) | intro _ | (apply AGo.gD; rfl; rfl; rfl) | (apply AGo.retN; rfl; rfl; rfl; rfl) | (apply AGo.retL; rfl; rfl; rfl; rfl) | (apply AGo.outL; rfl; rfl))
        all_goals first
          | exact AGo.round [(3, I (((k + 1 : Nat)) : Int)), (1, .ptr 0 0)] (h.supp.length - (k + 1)) (by omega) ⟨rfl, rfl, trivial⟩ ⟨k + 1, rfl, hlt, ht, rfl, rfl⟩
          | (exfalso; omega)
          | trace_state
      · have hno : h.supp.all okB = false := by
          rw [List.all_eq_false]
          exact ⟨v, List.mem_of_getElem? hv, by rw [show okB v = false from decide_eq_false hvb]; decide⟩
        rw [hno]
        repeat' (first | apply AGo.seq | apply AGo.block | apply AGo.blk | apply AGo.skip | apply AGo.nil | (apply AGo.region; rfl) | (apply AGo.q true; rfl; rfl; rfl; rfl; first | exact True.intro | omega | (simp only [Int.toNat_natCast, Int.reduceToNat, IntKind.bits]; omega) | (rw [hn]; omega)) | (apply AGo.condDT; rfl; first | omega | rfl) | (apply AGo.condDF; rfl; omega) | (apply AGo.condT; rfl) | (apply AGo.box; (iterate 6 rfl); simp only [nm, Nat.reduceAdd, spliceA, AV.cells, D.cells]) | (apply AGo.unguard; rfl; rfl) | (apply AGo.gF; rfl; rfl; rfl; omega) | (apply AGo.skipOp; rfl; rfl; rfl) | (apply AGo.loadG; (iterate 7 rfl); exact g1) | intro _ | (apply AGo.gD; rfl; rfl; rfl) | (apply AGo.retN; rfl; rfl; rfl; rfl) | (apply AGo.retL; rfl; rfl; rfl; rfl) | (apply AGo.outL; rfl; rfl))
        all_goals first
          | exact ⟨rfl, rfl⟩
          | (exfalso; omega)
          | trace_state
    · obtain rfl : k = h.supp.length := by omega
      rw [List.take_length] at hq
      rw [hq]
      repeat' (first | apply AGo.seq | apply AGo.block | apply AGo.blk | apply AGo.skip | apply AGo.nil | (apply AGo.region; rfl) | (apply AGo.q true; rfl; rfl; rfl; rfl; first | exact True.intro | omega | (simp only [Int.toNat_natCast, Int.reduceToNat, IntKind.bits]; omega) | (rw [hn]; omega)) | (apply AGo.condDT; rfl; first | omega | rfl) | (apply AGo.condDF; rfl; omega) | (apply AGo.condT; rfl) | (apply AGo.box; (iterate 6 rfl); simp only [nm, Nat.reduceAdd, spliceA, AV.cells, D.cells]) | (apply AGo.unguard; rfl; rfl) | (apply AGo.gF; rfl; rfl; rfl; omega) | (apply AGo.skipOp; rfl; rfl; rfl) | intro _ | (apply AGo.gD; rfl; rfl; rfl) | (apply AGo.retN; rfl; rfl; rfl; rfl) | (apply AGo.retL; rfl; rfl; rfl; rfl) | (apply AGo.outL; rfl; rfl))
      all_goals first | exact ⟨rfl, rfl⟩ | (exfalso; omega) | trace_state
  · have hh : hdOk h = false := by unfold hdOk; rw [decide_eq_false hp]; rfl
    rw [hh]
    have hp3 : ¬ (N ≠ 0 ∧ (0 ≤ h.ref ∧ h.ref ≤ 255) ∧ (0 ≤ h.flags ∧ h.flags ≤ 7) ∧ (1 ≤ h.quant ∧ h.quant ≤ 31) ∧ h.supp.length ≤ 8) := fun ⟨q, r⟩ => hp ⟨by
      rcases hf with h1 | h1
      · exact absurd h1.1 q
      · exact h1.2, r⟩
    refine ACalls.enter Tryd.func39 rfl Tryd.ntmps39 (by kernel_rfl) rfl ?_; simp only [argEnv, Nat.reduceAdd, List.length_nil, List.length_cons]
    repeat' (first | apply AGo.seq | apply AGo.block | apply AGo.blk | apply AGo.skip | apply AGo.nil | (apply AGo.region; rfl) | (apply AGo.q true; rfl; rfl; rfl; rfl; first | exact True.intro | omega | (simp only [Int.toNat_natCast, Int.reduceToNat, IntKind.bits]; omega) | (rw [hn]; omega)) | (apply AGo.callP (hs); (iterate 6 rfl)) | (apply AGo.condDT; rfl; first | omega | rfl) | (apply AGo.condDF; rfl; omega) | (apply AGo.condT; rfl) | (apply AGo.box; (iterate 6 rfl); simp only [nm, Nat.reduceAdd, spliceA, AV.cells, D.cells]) | (apply AGo.unguard; rfl; rfl) | (apply AGo.gF; rfl; rfl; rfl; omega) | (apply AGo.skipOp; rfl; rfl; rfl) | intro _ | (apply AGo.gD; rfl; rfl; rfl) | (apply AGo.retN; rfl; rfl; rfl; rfl) | (apply AGo.retL; rfl; rfl; rfl; rfl) | (apply AGo.outL; rfl; rfl))
    all_goals first | exact ⟨rfl, rfl⟩ | (exfalso; omega) | trace_state
end Go.Proofs.YtdihjnifoikbeaaDoor.Av.Sh
