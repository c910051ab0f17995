/- Cells: the reference's Row. -/
import Derived.Test.YtdihjnifoikbeaaDoorCo8
set_option linter.unusedSimpArgs false
set_option linter.unusedVariables false
set_option maxRecDepth 100000
namespace Go.Proofs.YtdihjnifoikbeaaDoor.Av.Co
open Go Bt Tc Wr Bl Mb Cb Mv
attribute [local irreducible] AGo ACalls
variable {gl : List (Nat × List D)}
def lumS (c : Cel) : Nat → Int
  | 0 => 0
  | 1 => bitS' c.e0
  | 2 => 2 * bitS' c.e0 + bitS' c.e1
  | 3 => 4 * bitS' c.e0 + 2 * bitS' c.e1 + bitS' c.e2
  | _ => 8 * bitS' c.e0 + 4 * bitS' c.e1 + 2 * bitS' c.e2 + bitS' c.e3
theorem lumS_4 (c : Cel) : lumS c 4 = codedS c / 2 ^ 2 := by
  have h1 := bitS'_bd c.e4
  have h2 := bitS'_bd c.e5
  show 8 * bitS' c.e0 + 4 * bitS' c.e1 + 2 * bitS' c.e2 + bitS' c.e3 = _
  unfold codedS; omega
theorem lum1 (c : Cel) : lumS c 1 = 2 * lumS c 0 + bitS' c.e0 := by simp only [lumS]; omega
theorem lum2 (c : Cel) : lumS c 2 = 2 * lumS c 1 + bitS' c.e1 := by simp only [lumS]
theorem lum3 (c : Cel) : lumS c 3 = 2 * lumS c 2 + bitS' c.e2 := by simp only [lumS]; omega
theorem lum4 (c : Cel) : lumS c 4 = 2 * lumS c 3 + bitS' c.e3 := by simp only [lumS]; omega
theorem lumS_bd (c : Cel) (i : Nat) : 0 ≤ lumS c i ∧ lumS c i ≤ 15 := by
  have := bitS'_bd c.e0
  have := bitS'_bd c.e1
  have := bitS'_bd c.e2
  have := bitS'_bd c.e3
  match i with
  | 0 => simp [lumS]
  | 1 => simp only [lumS]; omega
  | 2 => simp only [lumS]; omega
  | 3 => simp only [lumS]; omega
  | n + 4 => simp only [lumS]; omega
theorem chroma_bits (c : Cel) : chroma c = 2 * bitS' c.e4 + bitS' c.e5 := by
  have h1 := bitS'_bd c.e4
  have h2 := bitS'_bd c.e5
  rw [chroma_eq]; unfold codedS; omega
theorem kind_I {b : Bool} {c : Cel} (h : headMay b c = true) : (intraS c.kind = true → 2 < c.kind ∧ c.kind ≤ 4) ∧ (intraS c.kind = false → 0 ≤ c.kind ∧ c.kind < 2) := by
  have hb := headMay_bd h
  unfold headMay at h
  refine ⟨fun hi => ?_, fun hi => ?_⟩
  · have := of_decide_eq_true hi; omega
  · rw [hi] at h
    simp only [Bool.false_or, Bool.and_eq_true, decide_eq_true_eq] at h
    omega
theorem step_no {c : Cel} (h : stepMay c = true) (hT : steppedS c.kind = false) : stRow c.step = [] := by
  unfold stepMay at h
  rw [hT] at h
  simp only [Bool.and_eq_true, beq_iff_eq] at h
  exact st_nil _ h.1
theorem put_app (w : List UInt8) (b : Bool) (px py : Int) (c : Cel) : putRow w b px py c = w ++ putRow [] b px py c := by
  unfold putRow
  split <;> simp only [List.append_assoc, List.nil_append]
attribute [local irreducible] evsD mbRow codedS cbRow stRow mrow blRow blMay wrapS stIs chroma bitS' intraS steppedS
end Go.Proofs.YtdihjnifoikbeaaDoor.Av.Co
