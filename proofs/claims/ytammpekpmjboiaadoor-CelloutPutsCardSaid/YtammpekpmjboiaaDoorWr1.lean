/- The writer of bits, plain: what one more digit does to the bytes. -/
import Derived.Test.YtammpekpmjboiaaDoorPd
import Derived.Test.YtammpekpmjboiaaDoorPn
set_option linter.unusedSimpArgs false
set_option linter.unusedVariables false
set_option maxRecDepth 100000
namespace Go.Proofs.YtammpekpmjboiaaDoor.Av.Wr
open Go Bt
theorem numS_zeros (w : List UInt8) : ∀ k, numS (w ++ List.replicate k 48) = numS w * 2 ^ k
  | 0 => by simp
  | k + 1 => by
    rw [List.replicate_succ', ← List.append_assoc, numS_snoc, numS_zeros w k, Int.pow_succ]
    have : (((48 : UInt8).toNat : Nat) : Int) = 48 := rfl
    have e : numS w * (2 ^ k * 2) = numS w * 2 ^ k * 2 := by rw [Int.mul_assoc]
    rw [this, e]
    generalize numS w * 2 ^ k = x at *
    omega
/-- the byte of at most eight digits -/
def byteS (d : List UInt8) : UInt8 := UInt8.ofNat (numS (d ++ List.replicate (8 - d.length) 48)).toNat
theorem packN_eq (w : List UInt8) : packN w = (List.range ((w.length + 7) / 8)).map fun t => byteS ((w.drop (8 * t)).take 8) := by
  have h1 := padS_len w
  obtain ⟨p1, p2⟩ := padN_ok w.length
  have h2 : (padS w).length / 8 = (w.length + 7) / 8 := by omega
  unfold packN packB
  rw [h2]
  apply List.map_congr_left
  intro t ht
  rw [List.mem_range] at ht
  unfold byteS
  congr 2
  unfold padS
  rw [List.drop_append, List.take_append]
  by_cases hl : 8 * (t + 1) ≤ w.length
  · have e1 : ((w.drop (8 * t)).take 8).length = 8 := by rw [List.length_take, List.length_drop]; omega
    rw [e1, List.length_drop]
    rw [show 8 - (w.length - 8 * t) = 0 by omega]
    simp
  · have e1 : (w.drop (8 * t)).take 8 = w.drop (8 * t) := List.take_of_length_le (by rw [List.length_drop]; omega)
    rw [e1, List.length_drop, show 8 * t - w.length = 0 by omega, List.drop_zero, List.take_replicate]
    congr 2
    congr 1
    omega
theorem packN_length (w : List UInt8) : (packN w).length = (w.length + 7) / 8 := by rw [packN_eq]; simp
theorem packN_get (w : List UInt8) (t : Nat) (h : t < (w.length + 7) / 8) : (packN w)[t]? = some (byteS ((w.drop (8 * t)).take 8)) := by
  rw [packN_eq]; simp [h]
/-- the digits of the last byte -/
def tailS (w : List UInt8) : List UInt8 := w.drop (8 * (w.length / 8))
theorem tailS_len (w : List UInt8) : (tailS w).length = w.length % 8 := by unfold tailS; rw [List.length_drop]; omega
theorem packN_old (w : List UInt8) (d : UInt8) (t : Nat) (h : t < w.length / 8) : (packN (w ++ [d]))[t]? = (packN w)[t]? := by
  rw [packN_get _ _ (by simp; omega), packN_get _ _ (by omega)]
  congr 2
  rw [List.drop_append_of_le_length (by omega), List.take_append_of_le_length (by rw [List.length_drop]; omega)]
theorem packN_snoc0 (w : List UInt8) (d : UInt8) (h : w.length % 8 = 0) : packN (w ++ [d]) = packN w ++ [byteS [d]] := by
  apply List.ext_getElem?
  intro t
  have hl := packN_length w
  rcases Nat.lt_trichotomy t (w.length / 8) with h1 | h1 | h1
  · rw [packN_old w d t h1, List.getElem?_append_left (by omega)]
  · subst h1
    rw [packN_get _ _ (by simp; omega), List.getElem?_append_right (by omega), show w.length / 8 - (packN w).length = 0 by omega]
    have e : 8 * (w.length / 8) = w.length := by omega
    rw [e, List.drop_left]; rfl
  · rw [List.getElem?_eq_none (by rw [packN_length]; simp; omega), List.getElem?_eq_none (by simp; omega)]
theorem packN_snocS (w : List UInt8) (d : UInt8) (h : w.length % 8 ≠ 0) : packN (w ++ [d]) = (packN w).set (w.length / 8) (byteS (tailS w ++ [d])) := by
  have hl := packN_length w
  have hl2 := packN_length (w ++ [d])
  simp only [List.length_append, List.length_singleton] at hl2
  apply List.ext_getElem?
  intro t
  rcases Nat.lt_trichotomy t (w.length / 8) with h1 | h1 | h1
  · rw [packN_old w d t h1, List.getElem?_set_ne (by omega)]
  · subst h1
    rw [packN_get _ _ (by simp; omega), List.getElem?_set_self (by omega), List.drop_append_of_le_length (by omega), List.take_of_length_le (by simp; omega)]
    rfl
  · rw [List.getElem?_eq_none (by omega), List.getElem?_eq_none (by simp; omega)]
theorem packN_last (w : List UInt8) (h : w.length % 8 ≠ 0) : (packN w)[w.length / 8]? = some (byteS (tailS w)) := by
  rw [packN_get _ _ (by omega), List.take_of_length_le (by rw [List.length_drop]; omega)]
  rfl
theorem tailS_dig (w : List UInt8) (h : w.all isDig = true) : (tailS w).all isDig = true := by
  rw [List.all_eq_true] at h ⊢
  exact fun x hx => h x (List.mem_of_mem_drop hx)
theorem byteS_val (d : List UInt8) (hd : d.all isDig = true) (hl : d.length ≤ 8) : ((byteS d).toNat : Int) = numS d * 2 ^ (8 - d.length) ∧ 0 ≤ numS d := by
  obtain ⟨b0, b1⟩ := numS_bd d hd
  have e := numS_zeros d (8 - d.length)
  have hp : (0 : Int) < 2 ^ (8 - d.length) := Int.pow_pos (by decide)
  have h2 : numS d * 2 ^ (8 - d.length) < 256 := by
    have h3 : numS d * 2 ^ (8 - d.length) < 2 ^ d.length * 2 ^ (8 - d.length) := Int.mul_lt_mul_of_pos_right b1 hp
    rw [← Int.pow_add, show d.length + (8 - d.length) = 8 by omega] at h3
    exact h3
  have h4 : 0 ≤ numS d * 2 ^ (8 - d.length) := Int.mul_nonneg b0 (by omega)
  refine ⟨?_, b0⟩
  unfold byteS
  rw [e]
  simp only [UInt8.toNat_ofNat', Nat.reducePow]
  generalize numS d * 2 ^ (8 - d.length) = x at *
  omega
/-- a 0 digit changes nothing, a 1 digit sets its bit -/
theorem byteS_0 (d : List UInt8) (hd : d.all isDig = true) (hl : d.length < 8) : byteS (d ++ [48]) = byteS d := by
  unfold byteS
  congr 2
  rw [List.append_assoc, List.length_append, List.length_singleton]
  congr 1
  rw [show 8 - d.length = (8 - (d.length + 1)) + 1 by omega, List.replicate_succ]; rfl
theorem byteS_1 (d : List UInt8) (hd : d.all isDig = true) (hl : d.length < 8) : ((byteS d).toNat ||| 2 ^ (7 - d.length)) = (byteS (d ++ [49])).toNat := by
  obtain ⟨v1, b1⟩ := byteS_val d hd (by omega)
  obtain ⟨v2, _⟩ := byteS_val (d ++ [49]) (by rw [List.all_append, hd]; rfl) (by rw [List.length_append]; simp; omega)
  rw [numS_snoc, List.length_append, List.length_singleton] at v2
  obtain ⟨n, hn⟩ := Int.eq_ofNat_of_zero_le b1
  rw [hn] at v1 v2
  have e49 : (((49 : UInt8).toNat : Nat) : Int) = 49 := rfl
  rw [e49] at v2
  have e1 : (byteS d).toNat = 2 ^ (8 - d.length) * n := by
    have : ((2 ^ (8 - d.length) * n : Nat) : Int) = (n : Int) * 2 ^ (8 - d.length) := by rw [Int.natCast_mul, Int.natCast_pow, Int.mul_comm]; rfl
    rw [← this] at v1
    exact Int.ofNat.inj v1
  have e2 : (byteS (d ++ [49])).toNat = (2 * n + 1) * 2 ^ (7 - d.length) := by
    have : (((2 * n + 1) * 2 ^ (7 - d.length) : Nat) : Int) = (2 * (n : Int) + (49 - 48)) * 2 ^ (8 - (d.length + 1)) := by
      rw [Int.natCast_mul, Int.natCast_pow, show 8 - (d.length + 1) = 7 - d.length by omega]
      congr 1
    rw [← this] at v2
    exact Int.ofNat.inj v2
  rw [e1, e2, ← Nat.two_pow_add_eq_or_of_lt (Nat.pow_lt_pow_right (by decide) (by omega))]
  rw [show 8 - d.length = (7 - d.length) + 1 by omega, Nat.pow_succ, Nat.add_mul, Nat.one_mul]
  congr 1
  rw [Nat.mul_comm (2 ^ (7 - d.length)) 2, Nat.mul_assoc, Nat.mul_assoc, Nat.mul_comm n]
end Go.Proofs.YtammpekpmjboiaaDoor.Av.Wr
