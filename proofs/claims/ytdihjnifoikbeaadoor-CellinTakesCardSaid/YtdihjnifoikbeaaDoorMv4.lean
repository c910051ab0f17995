/- mvd: the document's answer. -/
import Derived.Test.YtdihjnifoikbeaaDoorMv1
import Derived.Test.YtdihjnifoikbeaaDoorPd
set_option linter.unusedSimpArgs false
set_option linter.unusedVariables false
set_option maxRecDepth 100000
namespace Go.Proofs.YtdihjnifoikbeaaDoor.Av.Mv
open Go Bt
attribute [local irreducible] AGo ACalls
def amL : List (List UInt8) := [[49], [48, 49], [48, 48, 49], [48, 48, 48, 49], [48, 48, 48, 48, 49, 49], [48, 48, 48, 48, 49, 48, 49], [48, 48, 48, 48, 49, 48, 48], [48, 48, 48, 48, 48, 49, 49], [48, 48, 48, 48, 48, 49, 48, 49, 49], [48, 48, 48, 48, 48, 49, 48, 49, 48], [48, 48, 48, 48, 48, 49, 48, 48, 49], [48, 48, 48, 48, 48, 49, 48, 48, 48, 49], [48, 48, 48, 48, 48, 49, 48, 48, 48, 48], [48, 48, 48, 48, 48, 48, 49, 49, 49, 49], [48, 48, 48, 48, 48, 48, 49, 49, 49, 48], [48, 48, 48, 48, 48, 48, 49, 49, 48, 49], [48, 48, 48, 48, 48, 48, 49, 49, 48, 48], [48, 48, 48, 48, 48, 48, 49, 48, 49, 49], [48, 48, 48, 48, 48, 48, 49, 48, 49, 48], [48, 48, 48, 48, 48, 48, 49, 48, 48, 49], [48, 48, 48, 48, 48, 48, 49, 48, 48, 48], [48, 48, 48, 48, 48, 48, 48, 49, 49, 49], [48, 48, 48, 48, 48, 48, 48, 49, 49, 48], [48, 48, 48, 48, 48, 48, 48, 49, 48, 49], [48, 48, 48, 48, 48, 48, 48, 49, 48, 48], [48, 48, 48, 48, 48, 48, 48, 48, 49, 49, 49], [48, 48, 48, 48, 48, 48, 48, 48, 49, 49, 48], [48, 48, 48, 48, 48, 48, 48, 48, 49, 48, 49], [48, 48, 48, 48, 48, 48, 48, 48, 49, 48, 48], [48, 48, 48, 48, 48, 48, 48, 48, 48, 49, 49], [48, 48, 48, 48, 48, 48, 48, 48, 48, 49, 48], [48, 48, 48, 48, 48, 48, 48, 48, 48, 48, 49, 49], [48, 48, 48, 48, 48, 48, 48, 48, 48, 48, 49, 48]]
theorem am_eq : ∀ k : _root_.Fin 33, amL.getD k.val [] = arow (k.val : Int) := by decide +kernel
theorem am_eq' (a : Int) (h : 0 ≤ a ∧ a ≤ 32) : amL.getD a.toNat [] = arow a := by
  obtain ⟨k, rfl⟩ := Int.eq_ofNat_of_zero_le h.1
  exact am_eq ⟨k, by omega⟩
set_option maxHeartbeats 2000000 in
theorem amounts_c {gl : List (Nat × List D)} : ACalls (cxg gl) 129 [] [] (fun r H => r = .d (.sl 1 (rowsD amL)) ∧ H = []) := by
  refine ACalls.enter Tryd.func129 rfl Tryd.ntmps129 (by kernel_rfl) rfl ?_; simp only [argEnv, Nat.reduceAdd, List.length_nil, List.length_cons]
  repeat' (first | apply AGo.seq | apply AGo.nil | (apply AGo.region; rfl) | (apply AGo.q true; rfl; rfl; rfl; rfl; first | exact True.intro | omega | (simp only [Int.toNat_natCast, Int.reduceToNat, IntKind.bits]; omega)) | (apply AGo.buildSlice; (iterate 11 rfl)) | intro _ | (apply AGo.retN; rfl; rfl; rfl; rfl))
  all_goals refine ⟨?_, rfl⟩
  all_goals unfold rowsD
  all_goals rfl
theorem amD_len : (rowsD amL).length = 33 := by rw [rowsD_len]; rfl
theorem amD_get (a : Int) (h : 0 ≤ a ∧ a ≤ 32) : ((rowsD amL).getD a.toNat .top).cells[0]? = some (.str (arow a)) := by
  have hl : amL.length = 33 := rfl
  rw [rowsD_get amL _ (by omega), am_eq' a h]
attribute [local irreducible] arow lnS rowsD
set_option maxHeartbeats 2000000 in
theorem rmrow_c {gl : List (Nat × List D)} (d : Int) : ACalls (cxg gl) 98 [I d] [] (fun r H => r = S (mrow d) ∧ H = []) := by
  have hal := amD_len
  by_cases h1 : d < -32 ∨ d > 31
  · refine ACalls.enter Tryd.func98 rfl Tryd.ntmps98 (by kernel_rfl) rfl ?_; simp only [argEnv, Nat.reduceAdd, List.length_nil, List.length_cons]
    repeat' (first | apply AGo.seq | apply AGo.skip | apply AGo.nil | (apply AGo.region; rfl) | (apply AGo.q true; rfl; rfl; rfl; rfl; first | exact True.intro | omega | (simp only [Int.toNat_natCast, Int.reduceToNat, IntKind.bits]; omega)) | (apply AGo.condDT; rfl; first | omega | rfl) | (apply AGo.condDF; rfl; omega) | (apply AGo.condT; rfl) | (apply AGo.condF; rfl) | (apply AGo.unguard; rfl; rfl) | (apply AGo.gF; rfl; rfl; rfl; omega) | (apply AGo.skipOp; rfl; rfl; rfl) | intro _ | (apply AGo.gD; rfl; rfl; rfl) | (apply AGo.retN; rfl; rfl; rfl; rfl))
    all_goals refine ⟨?_, rfl⟩
    all_goals simp only [mrow, if_pos h1]
  · simp only [mrow, if_neg h1]
    rcases Int.lt_trichotomy d 0 with h2 | h2 | h2
    · have g1 := amD_get (-d) (by omega)
      have l1 := arow_len (-d)
      have b1 := cd_bd' (-d) (by omega)
      rw [if_pos h2]
      refine ACalls.enter Tryd.func98 rfl Tryd.ntmps98 (by kernel_rfl) rfl ?_; simp only [argEnv, Nat.reduceAdd, List.length_nil, List.length_cons]
      repeat' (first | apply AGo.seq | apply AGo.skip | apply AGo.nil | (apply AGo.region; rfl) | (apply AGo.q true; rfl; rfl; rfl; rfl; first | exact True.intro | omega | (simp only [Int.toNat_natCast, Int.reduceToNat, IntKind.bits]; omega) | (rw [hal]; omega) | (simp only [List.length_append, List.length_cons, List.length_nil, l1]; omega)) | (apply AGo.callP (amounts_c); (iterate 6 rfl)) | (apply AGo.condDT; rfl; first | omega | rfl) | (apply AGo.condDF; rfl; omega) | (apply AGo.condT; rfl) | (apply AGo.condF; rfl) | (apply AGo.unguard; rfl; rfl) | (apply AGo.gF; rfl; rfl; rfl; omega) | (apply AGo.skipOp; rfl; rfl; rfl) | (apply AGo.loadG; (iterate 7 rfl); exact g1) | intro _ | (apply AGo.gD; rfl; rfl; rfl) | (apply AGo.retN; rfl; rfl; rfl; rfl))
      all_goals first | omega | exact ⟨rfl, rfl⟩
    · subst h2
      have g1 := amD_get 0 (by omega)
      rw [if_neg (by omega), if_pos rfl]
      refine ACalls.enter Tryd.func98 rfl Tryd.ntmps98 (by kernel_rfl) rfl ?_; simp only [argEnv, Nat.reduceAdd, List.length_nil, List.length_cons]
      repeat' (first | apply AGo.seq | apply AGo.skip | apply AGo.nil | (apply AGo.region; rfl) | (apply AGo.q true; rfl; rfl; rfl; rfl; first | exact True.intro | omega | (simp only [Int.toNat_natCast, Int.reduceToNat, IntKind.bits]; omega) | (rw [hal]; omega)) | (apply AGo.callP (amounts_c); (iterate 6 rfl)) | (apply AGo.condDT; rfl; first | omega | rfl) | (apply AGo.condDF; rfl; omega) | (apply AGo.condT; rfl) | (apply AGo.condF; rfl) | (apply AGo.unguard; rfl; rfl) | (apply AGo.gF; rfl; rfl; rfl; omega) | (apply AGo.skipOp; rfl; rfl; rfl) | (apply AGo.loadG; (iterate 7 rfl); exact g1) | intro _ | (apply AGo.gD; rfl; rfl; rfl) | (apply AGo.retN; rfl; rfl; rfl; rfl))
      all_goals first | omega | exact ⟨rfl, rfl⟩
    · have g1 := amD_get d (by omega)
      have l1 := arow_len d
      have b1 := cd_bd' d (by omega)
      rw [if_neg (by omega), if_neg (by omega)]
      refine ACalls.enter Tryd.func98 rfl Tryd.ntmps98 (by kernel_rfl) rfl ?_; simp only [argEnv, Nat.reduceAdd, List.length_nil, List.length_cons]
      repeat' (first | apply AGo.seq | apply AGo.skip | apply AGo.nil | (apply AGo.region; rfl) | (apply AGo.q true; rfl; rfl; rfl; rfl; first | exact True.intro | omega | (simp only [Int.toNat_natCast, Int.reduceToNat, IntKind.bits]; omega) | (rw [hal]; omega) | (simp only [List.length_append, List.length_cons, List.length_nil, l1]; omega)) | (apply AGo.callP (amounts_c); (iterate 6 rfl)) | (apply AGo.condDT; rfl; first | omega | rfl) | (apply AGo.condDF; rfl; omega) | (apply AGo.condT; rfl) | (apply AGo.condF; rfl) | (apply AGo.unguard; rfl; rfl) | (apply AGo.gF; rfl; rfl; rfl; omega) | (apply AGo.skipOp; rfl; rfl; rfl) | (apply AGo.loadG; (iterate 7 rfl); exact g1) | intro _ | (apply AGo.gD; rfl; rfl; rfl) | (apply AGo.retN; rfl; rfl; rfl; rfl))
      all_goals first | omega | exact ⟨rfl, rfl⟩
end Go.Proofs.YtdihjnifoikbeaaDoor.Av.Mv
