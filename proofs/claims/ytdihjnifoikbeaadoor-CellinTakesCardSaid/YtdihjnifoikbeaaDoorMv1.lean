/- mvd: the rows of amounts. -/
import Derived.Test.YtdihjnifoikbeaaDoorPd
set_option linter.unusedSimpArgs false
set_option linter.unusedVariables false
set_option maxRecDepth 100000
namespace Go.Proofs.YtdihjnifoikbeaaDoor.Av.Mv
open Go Bt
attribute [local irreducible] AGo ACalls
noncomputable abbrev cs1 : Ctx := cxg [(0, gl0)]
def lnS (a : Int) : Int := if a < 4 then a + 1 else if a = 4 then 6 else if a < 8 then 7 else if a < 11 then 9 else if a < 25 then 10 else if a < 31 then 11 else 12
set_option maxHeartbeats 2000000 in
theorem length_c {gl : List (Nat × List D)} (a : Int) (h : -1000 ≤ a ∧ a ≤ 1000) : ACalls (cxg gl) 105 [I a] [] (fun r H => r = I (lnS a) ∧ H = []) := by
  refine ACalls.enter Tryd.func105 rfl Tryd.ntmps105 (by kernel_rfl) rfl ?_; simp only [argEnv, Nat.reduceAdd, List.length_nil, List.length_cons]
  repeat' (first | apply AGo.seq | apply AGo.block | apply AGo.blk | apply AGo.skip | apply AGo.nil | (apply AGo.region; rfl) | (apply AGo.q true; rfl; rfl; rfl; rfl; first | exact True.intro | omega | (simp only [Int.toNat_natCast, Int.reduceToNat, IntKind.bits]; omega)) | intro _ | (apply AGo.condD' ; rfl) | (apply AGo.retN; rfl; rfl; rfl; rfl))
  all_goals refine ⟨?_, rfl⟩
  all_goals simp [lnS, *]
def cd (a : Int) : Int := gi0.getD a.toNat 0
theorem gl1_eq : gl0 = gi0.map (.int .i64) := rfl
theorem gl1_get (k : Nat) (h : k < 33) : (gl0.drop (k * 1))[0]? = some (.int .i64 (cd k)) := by
  have hl : gi0.length = 33 := rfl
  rw [gl1_eq, List.getElem?_drop, List.getElem?_map]
  simp [cd, List.getD, hl, h]
theorem cd_bd : ∀ k : _root_.Fin 33, (0 ≤ lnS k.val ∧ lnS k.val ≤ 32) ∧ 0 ≤ cd k.val ∧ cd k.val < 2 ^ (lnS k.val).toNat := by decide
theorem cd_bd' (a : Int) (h : 0 ≤ a ∧ a ≤ 32) : (0 ≤ lnS a ∧ lnS a ≤ 32) ∧ 0 ≤ cd a ∧ cd a < 2 ^ (lnS a).toNat := by
  obtain ⟨k, rfl⟩ := Int.eq_ofNat_of_zero_le h.1
  exact cd_bd ⟨k, by omega⟩
theorem gl1_get' (a : Int) (h : 0 ≤ a ∧ a ≤ 32) : (gl0.drop (a.toNat * 1))[0]? = some (.int .i64 (cd a)) := by
  obtain ⟨k, rfl⟩ := Int.eq_ofNat_of_zero_le h.1
  exact gl1_get k (by omega)
theorem gl1_len : 33 * 1 ≤ gl0.length := by unfold gl0; decide
def arow (a : Int) : List UInt8 := digs (cd a) (lnS a).toNat (lnS a).toNat
/-- the row of a difference -/
def mrow (d : Int) : List UInt8 := if d < -32 ∨ d > 31 then [] else if d < 0 then arow (-d) ++ [49] else if d = 0 then arow 0 else arow d ++ [48]
attribute [local irreducible] lnS cd gl0 arow
theorem arow_len (a : Int) : (arow a).length = (lnS a).toNat := by unfold arow; exact digs_len _ _ _
end Go.Proofs.YtdihjnifoikbeaaDoor.Av.Mv
