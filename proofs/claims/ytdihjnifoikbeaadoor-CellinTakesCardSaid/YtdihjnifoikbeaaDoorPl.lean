/- Blocks: what may be one, and its row: both programs. Blocks: Put, and the reference's May and Row. Blocks: the reference's May and Row. -/
import Derived.Test.YtdihjnifoikbeaaDoorPt2
import Derived.Test.YtdihjnifoikbeaaDoorPt1
import Derived.Test.YtdihjnifoikbeaaDoorPw
/- Blocks: what may be one, and its row: both programs. -/
set_option linter.unusedSimpArgs false
set_option linter.unusedVariables false
set_option maxRecDepth 100000
namespace Go.Proofs.YtdihjnifoikbeaaDoor.Av.Bl
open Go Bt Tc Wr
attribute [local irreducible] AGo ACalls
variable {gl : List (Nat × List D)}
def frm (b : Bool) : Nat := if b = true then 1 else 0
theorem from_c (b : Bool) : ACalls (cxg gl) 126 [B b] [] (fun r H => r = I (frm b : Nat) ∧ H = []) := by
  cases b
  all_goals
    refine ACalls.enter Tryd.func126 rfl Tryd.ntmps126 (by kernel_rfl) rfl ?_; simp only [argEnv, Nat.reduceAdd, List.length_nil, List.length_cons]
    repeat' (first | apply AGo.seq | apply AGo.skip | apply AGo.nil | (apply AGo.region; rfl) | (apply AGo.q true; rfl; rfl; rfl; rfl; first | exact True.intro | omega | (simp only [Int.toNat_natCast, Int.reduceToNat, IntKind.bits]; omega)) | (apply AGo.condT; rfl) | (apply AGo.condF; rfl) | intro _ | (apply AGo.retN; rfl; rfl; rfl; rfl))
    all_goals first | exact ⟨rfl, rfl⟩ | trace_state
theorem rfrom_c (b : Bool) : ACalls (cxg gl) 99 [B b] [] (fun r H => r = I (frm b : Nat) ∧ H = []) := by
  cases b
  all_goals
    refine ACalls.enter Tryd.func99 rfl Tryd.ntmps99 (by kernel_rfl) rfl ?_; simp only [argEnv, Nat.reduceAdd, List.length_nil, List.length_cons]
    repeat' (first | apply AGo.seq | apply AGo.skip | apply AGo.nil | (apply AGo.region; rfl) | (apply AGo.q true; rfl; rfl; rfl; rfl; first | exact True.intro | omega | (simp only [Int.toNat_natCast, Int.reduceToNat, IntKind.bits]; omega)) | (apply AGo.condT; rfl) | (apply AGo.condF; rfl) | intro _ | (apply AGo.retN; rfl; rfl; rfl; rfl))
    all_goals first | exact ⟨rfl, rfl⟩ | trace_state
attribute [local irreducible] evsD evR digs
end Go.Proofs.YtdihjnifoikbeaaDoor.Av.Bl

/- Blocks: Put, and the reference's May and Row. -/
set_option linter.unusedSimpArgs false
set_option linter.unusedVariables false
set_option maxRecDepth 100000
namespace Go.Proofs.YtdihjnifoikbeaaDoor.Av.Bl
open Go Bt Tc Wr
attribute [local irreducible] AGo ACalls
variable {gl : List (Nat × List D)}
attribute [local irreducible] evsD evR digs octets packN
end Go.Proofs.YtdihjnifoikbeaaDoor.Av.Bl

/- Blocks: the reference's May and Row. -/
set_option linter.unusedSimpArgs false
set_option linter.unusedVariables false
set_option maxRecDepth 100000
namespace Go.Proofs.YtdihjnifoikbeaaDoor.Av.Bl
open Go Bt Tc Wr
attribute [local irreducible] AGo ACalls
variable {gl : List (Nat × List D)}
attribute [local irreducible] evsD evR digs
end Go.Proofs.YtdihjnifoikbeaaDoor.Av.Bl
