/- The digits that Show tells are the bits that the reader takes. -/
import Derived.Test.YtnmkmhbfgebalaaSt7
set_option linter.unusedSimpArgs false
set_option linter.unusedVariables false
set_option maxRecDepth 100000
namespace Go.Proofs.Ytnmkmhbfgebalaa.Av
open Go
theorem dg_digB (v : Int) : dg v = digB (v % 2) := rfl
theorem rowN_get (v : Int) (j : Nat) (hj : j < 8) : (rowN v)[j]? = some (digB (v / 2 ^ (7 - j) % 2)) := by
  have h2 : ∀ (a : Int) (n : Nat), a / 2 ^ n / 2 = a / 2 ^ (n + 1) := fun a n => by rw [Int.ediv_ediv_of_nonneg (by exact Int.le_of_lt (Int.pow_pos (by decide))), ← Int.pow_succ]
  have e1 : v / 2 = v / 2 ^ 1 := rfl
  have e2 : v / 2 / 2 = v / 2 ^ 2 := by rw [e1, h2]
  have e3 : v / 2 / 2 / 2 = v / 2 ^ 3 := by rw [e2, h2]
  have e4 : v / 2 / 2 / 2 / 2 = v / 2 ^ 4 := by rw [e3, h2]
  have e5 : v / 2 / 2 / 2 / 2 / 2 = v / 2 ^ 5 := by rw [e4, h2]
  have e6 : v / 2 / 2 / 2 / 2 / 2 / 2 = v / 2 ^ 6 := by rw [e5, h2]
  have e7 : v / 2 / 2 / 2 / 2 / 2 / 2 / 2 = v / 2 ^ 7 := by rw [e6, h2]
  unfold rowN
  simp only [dg_digB]
  rw [e7, e6, e5, e4, e3, e2, e1]
  match j, hj with
  | 0, _ => rfl
  | 1, _ => rfl
  | 2, _ => rfl
  | 3, _ => rfl
  | 4, _ => rfl
  | 5, _ => rfl
  | 6, _ => rfl
  | 7, _ => simp
  | n + 8, h => omega
theorem showN_get (s : List UInt8) : ∀ (i j : Nat), i < s.length → j < 8 → (showN s)[8 * i + j]? = (rowN (bt s i))[j]? := by
  induction s with
  | nil => intro i j h; simp at h
  | cons b s ih =>
    intro i j hi hj
    have e : showN (b :: s) = rowN (b.toNat : Int) ++ showN s := by simp [showN]
    rw [e]
    cases i with
    | zero => rw [List.getElem?_append_left (by rw [rowN_len]; omega)]; simp [bt]
    | succ i =>
      rw [List.getElem?_append_right (by rw [rowN_len]; omega), rowN_len, show 8 * (i + 1) + j - 8 = 8 * i + j by omega, ih i j (by simpa using hi) hj, bt_succ]
theorem showN_bit (s : List UInt8) (p : Int) (h0 : 0 ≤ p) (h1 : p < 8 * (s.length : Int)) : (showN s)[p.toNat]? = some (digB (bitS s p)) := by
  have e : p.toNat = 8 * (p / 8).toNat + (p % 8).toNat := by omega
  rw [e, showN_get s _ _ (by omega) (by omega), rowN_get _ _ (by omega)]
  unfold bitS
  have : 7 - (p % 8).toNat = (7 - p % 8).toNat := by omega
  rw [this]
theorem showN_two (s : List UInt8) (p : Int) (h0 : 0 ≤ p) (h1 : p + 2 ≤ 8 * (s.length : Int)) : ((showN s).take (p + 2).toNat).drop p.toNat = [digB (bitS s p), digB (bitS s (p + 1))] := by
  have a := showN_bit s p h0 (by omega)
  have b := showN_bit s (p + 1) (by omega) (by omega)
  have e : (p + 1).toNat = p.toNat + 1 := by omega
  have e2 : (p + 2).toNat = p.toNat + 2 := by omega
  rw [e] at b
  rw [e2]
  apply List.ext_getElem?
  intro i
  rw [List.getElem?_drop, List.getElem?_take]
  match i with
  | 0 => simpa using a
  | 1 => simpa using b
  | n + 2 => rw [if_neg (by omega)]; simp
end Go.Proofs.Ytnmkmhbfgebalaa.Av
