/- mcbpc: row, Row. -/
import Derived.Test.YtdihjnifoikbeaaDoorMb1
set_option linter.unusedSimpArgs false
set_option linter.unusedVariables false
set_option maxRecDepth 100000
namespace Go.Proofs.YtdihjnifoikbeaaDoor.Av.Mb
open Go Bt
attribute [local irreducible] AGo ACalls
variable {gl : List (Nat × List D)}
def mbText (b : Bool) (k : Int) : List UInt8 := if k < 0 ∨ 5 < k then [] else (if b = true then txI else txJ).getD k.toNat []
def mbWords (b : Bool) (k : Int) : List (List UInt8) := if k < 0 ∨ 5 < k then [] else (if b = true then wdI else wdJ).getD k.toNat []
theorem kinds (k : Int) : k = 0 ∨ k = 1 ∨ k = 2 ∨ k = 3 ∨ k = 4 ∨ k = 5 ∨ (k < 0 ∨ 5 < k) := by omega
theorem mbFields (b : Bool) (k : Int) : FieldsAre (mbText b k) (mbWords b k) := by
  obtain ⟨h0, h1, h2, h3, h4, h5, h6, h7, h8⟩ := fields_all
  rcases kinds k with rfl | rfl | rfl | rfl | rfl | rfl | h
  all_goals cases b
  any_goals (first | exact h0 | exact h1 | exact h2 | exact h3 | exact h4 | exact h5 | exact h6 | exact h7 | exact h8)
  all_goals
    unfold mbText mbWords
    rw [if_pos h, if_pos h]
    exact h6
theorem mbText_3 (k : Int) (h : k ≠ 3) (h4 : k ≠ 4) (h5 : k ≠ 5) : mbText false k = [] := by
  rcases kinds k with rfl | rfl | rfl | rfl | rfl | rfl | h
  any_goals rfl
  any_goals omega
  unfold mbText; rw [if_pos h]
theorem mbText_o (b : Bool) (k : Int) (h : k < 0 ∨ 5 < k) : mbText b k = [] := by unfold mbText; rw [if_pos h]
set_option maxHeartbeats 4000000 in
theorem rowtx_c (b : Bool) (k : Int) : ACalls (cxg gl) 135 [B b, I k] [] (fun r H => r = S (mbText b k) ∧ H = []) := by
  cases b
  · by_cases h : k = 3 ∨ k = 4 ∨ k = 5
    · rcases h with rfl | rfl | rfl
      all_goals
        refine ACalls.enter Tryd.func135 rfl Tryd.ntmps135 (by kernel_rfl) rfl ?_; simp only [argEnv, Nat.reduceAdd, List.length_nil, List.length_cons]
        repeat' (first | apply AGo.seq | apply AGo.block | apply AGo.blk | apply AGo.skip | apply AGo.nil | (apply AGo.region; rfl) | (apply AGo.q true; rfl; rfl; rfl; rfl; first | exact True.intro | omega | (simp only [Int.toNat_natCast, Int.reduceToNat, IntKind.bits]; omega)) | (apply AGo.condDT; rfl; first | omega | rfl) | (apply AGo.condDF; rfl; omega) | (apply AGo.condT; rfl) | (apply AGo.condF; rfl) | intro _ | (apply AGo.retN; rfl; rfl; rfl; rfl))
        all_goals first | exact ⟨rfl, rfl⟩ | trace_state
    · rw [mbText_3 k (by omega) (by omega) (by omega)]
      refine ACalls.enter Tryd.func135 rfl Tryd.ntmps135 (by kernel_rfl) rfl ?_; simp only [argEnv, Nat.reduceAdd, List.length_nil, List.length_cons]
      repeat' (first | apply AGo.seq | apply AGo.block | apply AGo.blk | apply AGo.skip | apply AGo.nil | (apply AGo.region; rfl) | (apply AGo.q true; rfl; rfl; rfl; rfl; first | exact True.intro | omega | (simp only [Int.toNat_natCast, Int.reduceToNat, IntKind.bits]; omega)) | (apply AGo.condDT; rfl; first | omega | rfl) | (apply AGo.condDF; rfl; omega) | (apply AGo.condT; rfl) | (apply AGo.condF; rfl) | intro _ | (apply AGo.retN; rfl; rfl; rfl; rfl))
      all_goals first | exact ⟨rfl, rfl⟩ | trace_state
  · have h : k = 0 ∨ k = 1 ∨ k = 2 ∨ k = 3 ∨ k = 4 ∨ k = 5 ∨ ((k < 0 ∨ 5 < k) ∧ mbText true k = []) := by
      rcases kinds k with h | h | h | h | h | h | h
      any_goals omega
      have := mbText_o true k h
      exact .inr (.inr (.inr (.inr (.inr (.inr ⟨h, this⟩)))))
    rcases h with rfl | rfl | rfl | rfl | rfl | rfl | ⟨h, e⟩
    any_goals rw [e]
    all_goals
      refine ACalls.enter Tryd.func135 rfl Tryd.ntmps135 (by kernel_rfl) rfl ?_; simp only [argEnv, Nat.reduceAdd, List.length_nil, List.length_cons]
      repeat' (first | apply AGo.seq | apply AGo.block | apply AGo.blk | apply AGo.skip | apply AGo.nil | (apply AGo.region; rfl) | (apply AGo.q true; rfl; rfl; rfl; rfl; first | exact True.intro | omega | (simp only [Int.toNat_natCast, Int.reduceToNat, IntKind.bits]; omega)) | (apply AGo.condDT; rfl; first | omega | rfl) | (apply AGo.condDF; rfl; omega) | (apply AGo.condT; rfl) | (apply AGo.condF; rfl) | intro _ | (apply AGo.retN; rfl; rfl; rfl; rfl))
      all_goals first | exact ⟨rfl, rfl⟩ | trace_state
attribute [local irreducible] mbText mbWords rowsD
end Go.Proofs.YtdihjnifoikbeaaDoor.Av.Mb
