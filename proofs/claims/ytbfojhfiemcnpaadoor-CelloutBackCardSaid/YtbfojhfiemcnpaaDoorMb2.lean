/- mcbpc: row, Row. -/
import Derived.Test.YtbfojhfiemcnpaaDoorMb1
set_option linter.unusedSimpArgs false
set_option linter.unusedVariables false
set_option maxRecDepth 100000
namespace Go.Proofs.YtbfojhfiemcnpaaDoor.Av.Mb
open Go Bt
attribute [local irreducible] AGo ACalls
variable {gl : List (Nat × List D)}
def mbText (b : Bool) (k : Int) : List UInt8 := if k < 0 ∨ 5 < k then [] else (if b = true then txI else txJ).getD k.toNat []
def mbWords (b : Bool) (k : Int) : List (List UInt8) := if k < 0 ∨ 5 < k then [] else (if b = true then wdI else wdJ).getD k.toNat []
def mbRow (b : Bool) (k c : Int) : List UInt8 := if 0 ≤ c ∧ c < (mbWords b k).length then (mbWords b k).getD c.toNat [] else []
def mbIs (b : Bool) (k c : Int) : Bool := decide (0 ≤ c ∧ c < ((mbWords b k).length : Int))
theorem kinds (k : Int) : k = 0 ∨ k = 1 ∨ k = 2 ∨ k = 3 ∨ k = 4 ∨ k = 5 ∨ (k < 0 ∨ 5 < k) := by omega
theorem mbFields (b : Bool) (k : Int) : FieldsAre (mbText b k) (mbWords b k) := by
  obtain ⟨h0, h1, h2, h3, h4, h5, h6, h7, h8⟩ := fields_all
  rcases kinds k with rfl | rfl | rfl | rfl | rfl | rfl | h
  all_goals cases b
  any_goals (first | exact h0 | exact h1 | exact h2 | exact h3 | exact h4 | exact h5 | exact h6 | exact h7 | exact h8)
  all_goals
    unfold mbText mbWords
    rw [if_pos h, if_pos h]
    exact h6
theorem mbText_3 (k : Int) (h : k ≠ 3) (h4 : k ≠ 4) (h5 : k ≠ 5) : mbText false k = [] := by
  rcases kinds k with rfl | rfl | rfl | rfl | rfl | rfl | h
  any_goals rfl
  any_goals omega
  unfold mbText; rw [if_pos h]
theorem mbText_o (b : Bool) (k : Int) (h : k < 0 ∨ 5 < k) : mbText b k = [] := by unfold mbText; rw [if_pos h]
set_option maxHeartbeats 4000000 in
theorem rowtx_c (b : Bool) (k : Int) : ACalls (cxg gl) 66 [B b, I k] [] (fun r H => r = S (mbText b k) ∧ H = []) := by
  cases b
  · by_cases h : k = 3 ∨ k = 4 ∨ k = 5
    · rcases h with rfl | rfl | rfl
      all_goals
        refine ACalls.enter Tryd.func66 rfl Tryd.ntmps66 (by kernel_rfl) rfl ?_; simp only [argEnv, Nat.reduceAdd, List.length_nil, List.length_cons]
        repeat' (first | apply AGo.seq | apply AGo.block | apply AGo.blk | apply AGo.skip | apply AGo.nil | (apply AGo.region; rfl) | (apply AGo.q true; rfl; rfl; rfl; rfl; first | exact True.intro | omega | (simp only [Int.toNat_natCast, Int.reduceToNat, IntKind.bits]; omega)) | (apply AGo.condDT; rfl; first | omega | rfl) | (apply AGo.condDF; rfl; omega) | (apply AGo.condT; rfl) | (apply AGo.condF; rfl) | intro _ | (apply AGo.retN; rfl; rfl; rfl; rfl))
        all_goals first | exact ⟨rfl, rfl⟩ | trace_state
    · rw [mbText_3 k (by omega) (by omega) (by omega)]
      refine ACalls.enter Tryd.func66 rfl Tryd.ntmps66 (by kernel_rfl) rfl ?_; simp only [argEnv, Nat.reduceAdd, List.length_nil, List.length_cons]
      repeat' (first | apply AGo.seq | apply AGo.block | apply AGo.blk | apply AGo.skip | apply AGo.nil | (apply AGo.region; rfl) | (apply AGo.q true; rfl; rfl; rfl; rfl; first | exact True.intro | omega | (simp only [Int.toNat_natCast, Int.reduceToNat, IntKind.bits]; omega)) | (apply AGo.condDT; rfl; first | omega | rfl) | (apply AGo.condDF; rfl; omega) | (apply AGo.condT; rfl) | (apply AGo.condF; rfl) | intro _ | (apply AGo.retN; rfl; rfl; rfl; rfl))
      all_goals first | exact ⟨rfl, rfl⟩ | trace_state
  · have h : k = 0 ∨ k = 1 ∨ k = 2 ∨ k = 3 ∨ k = 4 ∨ k = 5 ∨ ((k < 0 ∨ 5 < k) ∧ mbText true k = []) := by
      rcases kinds k with h | h | h | h | h | h | h
      any_goals omega
      have := mbText_o true k h
      exact .inr (.inr (.inr (.inr (.inr (.inr ⟨h, this⟩)))))
    rcases h with rfl | rfl | rfl | rfl | rfl | rfl | ⟨h, e⟩
    any_goals rw [e]
    all_goals
      refine ACalls.enter Tryd.func66 rfl Tryd.ntmps66 (by kernel_rfl) rfl ?_; simp only [argEnv, Nat.reduceAdd, List.length_nil, List.length_cons]
      repeat' (first | apply AGo.seq | apply AGo.block | apply AGo.blk | apply AGo.skip | apply AGo.nil | (apply AGo.region; rfl) | (apply AGo.q true; rfl; rfl; rfl; rfl; first | exact True.intro | omega | (simp only [Int.toNat_natCast, Int.reduceToNat, IntKind.bits]; omega)) | (apply AGo.condDT; rfl; first | omega | rfl) | (apply AGo.condDF; rfl; omega) | (apply AGo.condT; rfl) | (apply AGo.condF; rfl) | intro _ | (apply AGo.retN; rfl; rfl; rfl; rfl))
      all_goals first | exact ⟨rfl, rfl⟩ | trace_state
attribute [local irreducible] mbText mbWords rowsD
set_option maxHeartbeats 4000000 in
theorem mbrow_c (b : Bool) (k c : Int) : ACalls (cxg gsp) 48 [B b, I k, I c] [] (fun r H => r = .tup [S (mbRow b k c), B (mbIs b k c)] ∧ H = []) := by
  have f1 := mbFields b k
  have r1 := rowtx_c (gl := gsp) b k
  have hl := rowsD_len (mbWords b k)
  unfold FieldsAre at f1
  unfold mbRow mbIs
  by_cases h : 0 ≤ c ∧ c < ((mbWords b k).length : Int)
  · rw [if_pos h, decide_eq_true h]
    have g := rowsD_get (mbWords b k) c.toNat (by omega)
    refine ACalls.enter Tryd.func48 rfl Tryd.ntmps48 (by kernel_rfl) rfl ?_; simp only [argEnv, Nat.reduceAdd, List.length_nil, List.length_cons]
    repeat' (first | apply AGo.seq | apply AGo.skip | apply AGo.nil | (apply AGo.region; rfl) | (apply AGo.q true; rfl; rfl; rfl; rfl; first | exact True.intro | omega | (simp only [Int.toNat_natCast, Int.reduceToNat, IntKind.bits]; omega) | (rw [hl]; omega)) | (apply AGo.callH [] ( f1); (iterate 6 rfl); decide; rfl; rfl; simp only [names, putH, AV.ren, AV.renL, AObj.ren, nh, Nat.reduceAdd, Nat.reduceSub]) | (apply AGo.callP (r1); (iterate 6 rfl)) | (apply AGo.condDT; rfl; first | omega | rfl) | (apply AGo.condDF; rfl; omega) | (apply AGo.condT; rfl) | (apply AGo.unguard; rfl; rfl) | (apply AGo.gF; rfl; rfl; rfl; omega) | (apply AGo.skipOp; rfl; rfl; rfl) | (apply AGo.loadG; (iterate 7 rfl); exact g) | intro _ | (apply AGo.gD; rfl; rfl; rfl) | (apply AGo.retN; rfl; rfl; rfl; rfl))
    all_goals first | exact ⟨rfl, rfl⟩ | omega | trace_state
  · rw [if_neg h, decide_eq_false h]
    refine ACalls.enter Tryd.func48 rfl Tryd.ntmps48 (by kernel_rfl) rfl ?_; simp only [argEnv, Nat.reduceAdd, List.length_nil, List.length_cons]
    repeat' (first | apply AGo.seq | apply AGo.skip | apply AGo.nil | (apply AGo.region; rfl) | (apply AGo.q true; rfl; rfl; rfl; rfl; first | exact True.intro | omega | (simp only [Int.toNat_natCast, Int.reduceToNat, IntKind.bits]; omega) | (rw [hl]; omega)) | (apply AGo.callH [] ( f1); (iterate 6 rfl); decide; rfl; rfl; simp only [names, putH, AV.ren, AV.renL, AObj.ren, nh, Nat.reduceAdd, Nat.reduceSub]) | (apply AGo.callP (r1); (iterate 6 rfl)) | (apply AGo.condDT; rfl; first | omega | rfl) | (apply AGo.condDF; rfl; omega) | (apply AGo.condT; rfl) | (apply AGo.unguard; rfl; rfl) | (apply AGo.gF; rfl; rfl; rfl; omega) | (apply AGo.skipOp; rfl; rfl; rfl) | intro _ | (apply AGo.gD; rfl; rfl; rfl) | (apply AGo.retN; rfl; rfl; rfl; rfl))
    all_goals first | exact ⟨rfl, rfl⟩ | omega | trace_state
end Go.Proofs.YtbfojhfiemcnpaaDoor.Av.Mb
