/- Cells' digits are few. -/
import Derived.Test.YtbfojhfiemcnpaaDoorCo9
set_option linter.unusedSimpArgs false
set_option linter.unusedVariables false
set_option maxRecDepth 100000
namespace Go.Proofs.YtbfojhfiemcnpaaDoor.Av.Co
open Go Bt Tc Wr Bl
attribute [local irreducible] AGo ACalls
variable {gl : List (Nat × List D)}
theorem Fine.nil (n : Nat) : Fine [] n := ⟨rfl, by simp⟩
theorem stR_fine (c : Cel) : Fine (stR c) 2 := by
  unfold stR
  split
  · exact st_fine _
  · exact Fine.nil _
theorem mvR_fine (c : Cel) (m p : Int) : Fine (mvR c m p) 13 := by
  unfold mvR
  split
  · exact Fine.nil _
  · exact mrow_fine _
theorem put_fine {w : List UInt8} {n : Nat} {b : Bool} {px py : Int} {c : Cel} (hw : Fine w n) (h : rightS b c = true) : Fine (putRow w b px py c) (n + 13000) := by
  obtain ⟨hs, hcase⟩ := right_inv h
  have hh : c.skip = true ∨ headMay b c = true := by rcases hcase with h1 | h1; exact .inl h1; exact .inr h1.2.1
  have f0 := hw.app (head_fine hs hh)
  have hcd := codedS_bd c
  unfold putRow
  rcases hcase with hk | ⟨hk, hm, hst, hv, hbl⟩
  · rw [if_pos hk]
    exact ⟨f0.1, by have := f0.2; omega⟩
  · rw [if_neg (by rw [hk]; decide)]
    unfold blksMay at hbl
    simp only [Bool.and_eq_true] at hbl
    obtain ⟨⟨⟨⟨⟨b0, b1⟩, b2⟩, b3⟩, b4⟩, b5⟩ := hbl
    have f := ((((((((((f0.app (cb_fine (intraS c.kind) (codedS c / 2 ^ 2) (by omega))).app (stR_fine c)).app (mvR_fine c c.mx px)).app (mvR_fine c c.my py)).app (bl_fine b0)).app (bl_fine b1)).app (bl_fine b2)).app (bl_fine b3)).app (bl_fine b4)).app (bl_fine b5))
    exact ⟨f.1, by have := f.2; omega⟩
end Go.Proofs.YtbfojhfiemcnpaaDoor.Av.Co
