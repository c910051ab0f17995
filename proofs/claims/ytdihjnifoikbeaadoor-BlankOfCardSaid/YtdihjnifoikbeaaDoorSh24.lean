/- A sheet's digits: the document's answer. -/
import Derived.Test.YtdihjnifoikbeaaDoorPs4
import Derived.Test.YtdihjnifoikbeaaDoorSh20
set_option linter.unusedSimpArgs false
set_option linter.unusedVariables false
set_option maxRecDepth 100000
namespace Go.Proofs.YtdihjnifoikbeaaDoor.Av.Sh
open Go Bt Co
attribute [local irreducible] AGo ACalls
variable {gl : List (Nat × List D)}
def nz (n k : Nat) : List D := List.replicate k (D.int .u8 48) ++ List.replicate (n - k) (D.int .u8 0)
theorem nz_len {n k : Nat} (h : k ≤ n) : (nz n k).length = n := by simp [nz]; omega
theorem nz_0 (n : Nat) : nz n 0 = List.replicate n (D.int .u8 0) := by simp [nz]
theorem nz_n (n : Nat) : nz n n = octets (zs n) := by unfold nz octets zs; simp
theorem nz_get {n k : Nat} (h : k < n) : (nz n k)[k]? = some (D.int .u8 0) := by
  unfold nz
  rw [List.getElem?_append_right (by simp), List.length_replicate, Nat.sub_self, List.getElem?_replicate, if_pos (by omega)]
theorem nz_set {n k : Nat} (h : k < n) : (nz n k).set k (D.int .u8 48) = nz n (k + 1) := by
  unfold nz
  rw [List.set_append_right _ _ (by simp)]
  have e : n - k = (n - (k + 1)) + 1 := by omega
  rw [e, List.replicate_succ]
  simp [List.replicate_succ']
theorem vecs_I2 {rs : List Rw} (ok : RwsOk rs) (i : Nat) : VecsI (mvs (cellsOf (rs.take i))) := fun p hp => by
  unfold mvs at hp
  obtain ⟨c, hc, rfl⟩ := List.mem_map.1 hp
  unfold cellsOf at hc
  obtain ⟨r, hr, hcr⟩ := List.mem_flatMap.1 hc
  have := (ok.cells r (List.mem_of_mem_take hr)).2 c hcr
  exact ⟨this.x, this.y⟩
attribute [local irreducible] Tc.evsD suD celsD rsD rightS octets packN padS putRow ofV vD rowsS hdOk Sh.headRow rhRow zs cellsOut outS headOut firstS mvs cellsOf cellRow fW fR fL fH nz
end Go.Proofs.YtdihjnifoikbeaaDoor.Av.Sh
