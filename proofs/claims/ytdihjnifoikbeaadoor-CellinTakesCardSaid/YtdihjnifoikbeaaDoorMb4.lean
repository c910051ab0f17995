/- mcbpc: the reference's Row; the rows. -/
import Derived.Test.YtdihjnifoikbeaaDoorMb2
import Derived.Test.YtdihjnifoikbeaaDoorPn
set_option linter.unusedSimpArgs false
set_option linter.unusedVariables false
set_option maxRecDepth 100000
namespace Go.Proofs.YtdihjnifoikbeaaDoor.Av
open Go
/-- an array of two numbers -/
theorem arr2_of (l : D) (h : TyV tys 9 40 l) : ∃ x y : Int, l = .agg [.int .i64 x, .int .i64 y] ∧ (-9223372036854775808 ≤ x ∧ x ≤ 9223372036854775807) ∧ (-9223372036854775808 ≤ y ∧ y ≤ 9223372036854775807) := by
  obtain ⟨hc, ha⟩ := h
  obtain ⟨l, rfl⟩ := ha rfl
  change l.length = 2 ∧ ∀ i, i < 2 → TyC tys 8 3 ((l.drop (i * szT tys 3)).take (szT tys 3)) at hc
  obtain ⟨hl, hf⟩ := hc
  have h0 := hf 0 (by decide)
  have h1 := hf 1 (by decide)
  change ∃ n, (l.drop 0).take 1 = [.int .i64 n] ∧ (Lit.int .i64 n).wf = true at h0
  change ∃ n, (l.drop 1).take 1 = [.int .i64 n] ∧ (Lit.int .i64 n).wf = true at h1
  obtain ⟨x, e0, w0⟩ := h0
  obtain ⟨y, e1, w1⟩ := h1
  match l, hl with
  | [a, b], _ =>
    simp at e0 e1
    subst e0; subst e1
    exact ⟨x, y, rfl, bd_i64 w0, bd_i64 w1⟩
end Go.Proofs.YtdihjnifoikbeaaDoor.Av
namespace Go.Proofs.YtdihjnifoikbeaaDoor.Av.Mb
open Go Bt
attribute [local irreducible] AGo ACalls
variable {gl : List (Nat × List D)}
def mbFull (b : Bool) : List (List UInt8) := if b = true then wdI.flatten else List.replicate 12 [] ++ wdJ.flatten
theorem rmrows_c (b : Bool) : ACalls (cxg gl) 127 [B b] [] (fun r H => r = .d (.sl 1 (rowsD (mbFull b))) ∧ H = []) := by
  cases b
  all_goals
    unfold rowsD mbFull
    refine ACalls.enter Tryd.func127 rfl Tryd.ntmps127 (by kernel_rfl) rfl ?_; simp only [argEnv, Nat.reduceAdd, List.length_nil, List.length_cons]
    repeat' (first | apply AGo.seq | apply AGo.skip | apply AGo.nil | (apply AGo.region; rfl) | (apply AGo.q true; rfl; rfl; rfl; rfl; first | exact True.intro | omega | (simp only [Int.toNat_natCast, Int.reduceToNat, IntKind.bits]; omega)) | (apply AGo.condT; rfl) | (apply AGo.condF; rfl) | (apply AGo.buildSlice; (iterate 11 rfl)) | intro _ | (apply AGo.retN; rfl; rfl; rfl; rfl))
    all_goals first | exact ⟨rfl, rfl⟩ | trace_state
attribute [local irreducible] rowsD mbFull
end Go.Proofs.YtdihjnifoikbeaaDoor.Av.Mb
