/- The writer of bits, plain: what one more digit does to the bytes. The writer of bits: New, bit. The writer of bits: plain, Put, Add, Len, Text. -/
import Derived.Test.YtbfojhfiemcnpaaGreatDoorPd
import Derived.Test.YtbfojhfiemcnpaaGreatDoorPn
set_option linter.unusedVariables false
set_option linter.unusedSimpArgs false
set_option maxRecDepth 100000
set_option maxHeartbeats 64000000
namespace Go.Proofs.YtbfojhfiemcnpaaGreatDoor.Av
namespace Wr
open Go Bt
theorem qZ (w : List UInt8) : ∀ k, fF (w ++ List.replicate k 48) = fF w * 2 ^ k
 | 0 => by simp
 | k + 1 => by
  rw [List.replicate_succ', ← List.append_assoc, jV, qZ w k, Int.pow_succ]
  have : (((48 : UInt8).toNat : Nat) : Int) = 48 := rfl
  have e : fF w * (2 ^ k * 2) = fF w * 2 ^ k * 2 := by rw [Int.mul_assoc]
  rw [this, e]
  generalize fF w * 2 ^ k = x at *
  omega
def eP (d : List UInt8) : UInt8 := UInt8.ofNat (fF (d ++ List.replicate (8 - d.length) 48)).toNat
theorem vT (w : List UInt8) : bJ w = (List.range ((w.length + 7) / 8)).map fun t => eP ((w.drop (8 * t)).take 8) := by
 have h1 := li w
 obtain ⟨p1, p2⟩ := lS w.length
 have h2 : (eH w).length / 8 = (w.length + 7) / 8 := by omega
 unfold bJ Cv
 rw [h2]
 apply List.map_congr_left
 intro t ht
 rw [List.mem_range] at ht
 unfold eP
 congr 2
 unfold eH
 rw [List.drop_append, List.take_append]
 by_cases hl : 8 * (t + 1) ≤ w.length
 ·have e1 : ((w.drop (8 * t)).take 8).length = 8 := by rw [List.length_take, List.length_drop]; omega
  rw [e1, List.length_drop]
  rw [show 8 - (w.length - 8 * t) = 0 by omega]
  simp
 ·have e1 : (w.drop (8 * t)).take 8 = w.drop (8 * t) := List.take_of_length_le (by rw [List.length_drop]; omega)
  rw [e1, List.length_drop, show 8 * t - w.length = 0 by omega, List.drop_zero, List.take_replicate]
  congr 2
  congr 1
  omega
theorem gQ (w : List UInt8) : (bJ w).length = (w.length + 7) / 8 := by rw [vT]; simp
theorem jU (w : List UInt8) (t : Nat) (h : t < (w.length + 7) / 8) : (bJ w)[t]? = some (eP ((w.drop (8 * t)).take 8)) := by
 rw [vT]; simp [h]
def gL (w : List UInt8) : List UInt8 := w.drop (8 * (w.length / 8))
theorem zY (w : List UInt8) : (gL w).length = w.length % 8 := by unfold gL; rw [List.length_drop]; omega
theorem sO (w : List UInt8) (d : UInt8) (t : Nat) (h : t < w.length / 8) : (bJ (w ++ [d]))[t]? = (bJ w)[t]? := by
 rw [jU _ _ (by simp; omega), jU _ _ (by omega)]
 congr 2
 rw [List.drop_append_of_le_length (by omega), List.take_append_of_le_length (by rw [List.length_drop]; omega)]
theorem vS (w : List UInt8) (d : UInt8) (h : w.length % 8 = 0) : bJ (w ++ [d]) = bJ w ++ [eP [d]] := by
 apply List.ext_getElem?
 intro t
 have hl := gQ w
 rcases Nat.lt_trichotomy t (w.length / 8) with h1 | h1 | h1
 ·rw [sO w d t h1, List.getElem?_append_left (by omega)]
 ·subst h1
  rw [jU _ _ (by simp; omega), List.getElem?_append_right (by omega), show w.length / 8 - (bJ w).length = 0 by omega]
  have e : 8 * (w.length / 8) = w.length := by omega
  rw [e, List.drop_left]; rfl
 ·rw [List.getElem?_eq_none (by rw [gQ]; simp; omega), List.getElem?_eq_none (by simp; omega)]
theorem vR (w : List UInt8) (d : UInt8) (h : w.length % 8 ≠ 0) : bJ (w ++ [d]) = (bJ w).set (w.length / 8) (eP (gL w ++ [d])) := by
 have hl := gQ w
 have hl2 := gQ (w ++ [d])
 simp only [List.length_append, List.length_singleton] at hl2
 apply List.ext_getElem?
 intro t
 rcases Nat.lt_trichotomy t (w.length / 8) with h1 | h1 | h1
 ·rw [sO w d t h1, List.getElem?_set_ne (by omega)]
 ·subst h1
  rw [jU _ _ (by simp; omega), List.getElem?_set_self (by omega), List.drop_append_of_le_length (by omega), List.take_of_length_le (by simp; omega)]
  rfl
 ·rw [List.getElem?_eq_none (by omega), List.getElem?_eq_none (by simp; omega)]
theorem xI (w : List UInt8) (h : w.length % 8 ≠ 0) : (bJ w)[w.length / 8]? = some (eP (gL w)) := by
 rw [jU _ _ (by omega), List.take_of_length_le (by rw [List.length_drop]; omega)]
 rfl
theorem zZ (w : List UInt8) (h : w.all aX = true) : (gL w).all aX = true := by
 rw [List.all_eq_true] at h ⊢
 exact fun x hx => h x (List.mem_of_mem_drop hx)
theorem tH (d : List UInt8) (hd : d.all aX = true) (hl : d.length ≤ 8) : ((eP d).toNat : Int) = fF d * 2 ^ (8 - d.length) ∧ 0 ≤ fF d := by
 obtain ⟨b0, b1⟩ := Fp d hd
 have e := qZ d (8 - d.length)
 have hp : (0 : Int) < 2 ^ (8 - d.length) := Int.pow_pos (by decide)
 have h2 : fF d * 2 ^ (8 - d.length) < 256 := by
  have h3 : fF d * 2 ^ (8 - d.length) < 2 ^ d.length * 2 ^ (8 - d.length) := Int.mul_lt_mul_of_pos_right b1 hp
  rw [← Int.pow_add, show d.length + (8 - d.length) = 8 by omega] at h3
  exact h3
 have h4 : 0 ≤ fF d * 2 ^ (8 - d.length) := Int.mul_nonneg b0 (by omega)
 refine ⟨?_, b0⟩
 unfold eP
 rw [e]
 simp only [UInt8.toNat_ofNat', Nat.reducePow]
 generalize fF d * 2 ^ (8 - d.length) = x at *
 omega
theorem Gn (d : List UInt8) (hd : d.all aX = true) (hl : d.length < 8) : eP (d ++ [48]) = eP d := by
 unfold eP
 congr 2
 rw [List.append_assoc, List.length_append, List.length_singleton]
 congr 1
 rw [show 8 - d.length = (8 - (d.length + 1)) + 1 by omega, List.replicate_succ]; rfl
theorem Gm (d : List UInt8) (hd : d.all aX = true) (hl : d.length < 8) : ((eP d).toNat ||| 2 ^ (7 - d.length)) = (eP (d ++ [49])).toNat := by
 obtain ⟨v1, b1⟩ := tH d hd (by omega)
 obtain ⟨v2, _⟩ := tH (d ++ [49]) (by rw [List.all_append, hd]; rfl) (by rw [List.length_append]; simp; omega)
 rw [jV, List.length_append, List.length_singleton] at v2
 obtain ⟨n, hn⟩ := Int.eq_ofNat_of_zero_le b1
 rw [hn] at v1 v2
 have e49 : (((49 : UInt8).toNat : Nat) : Int) = 49 := rfl
 rw [e49] at v2
 have e1 : (eP d).toNat = 2 ^ (8 - d.length) * n := by
  have : ((2 ^ (8 - d.length) * n : Nat) : Int) = (n : Int) * 2 ^ (8 - d.length) := by rw [Int.natCast_mul, Int.natCast_pow, Int.mul_comm]; rfl
  rw [← this] at v1
  exact Int.ofNat.inj v1
 have e2 : (eP (d ++ [49])).toNat = (2 * n + 1) * 2 ^ (7 - d.length) := by
  have : (((2 * n + 1) * 2 ^ (7 - d.length) : Nat) : Int) = (2 * (n : Int) + (49 - 48)) * 2 ^ (8 - (d.length + 1)) := by
   rw [Int.natCast_mul, Int.natCast_pow, show 8 - (d.length + 1) = 7 - d.length by omega]
   congr 1
  rw [← this] at v2
  exact Int.ofNat.inj v2
 rw [e1, e2, ← Nat.two_pow_add_eq_or_of_lt (Nat.pow_lt_pow_right (by decide) (by omega))]
 rw [show 8 - d.length = (7 - d.length) + 1 by omega, Nat.pow_succ, Nat.add_mul, Nat.one_mul]
 congr 1
 rw [Nat.mul_comm (2 ^ (7 - d.length)) 2, Nat.mul_assoc, Nat.mul_assoc, Nat.mul_comm n]
end Wr
namespace Wr
open Go Bt
attribute [local irreducible] aa ACalls
variable {gl : List (Nat × List D)}
abbrev WO (w : List UInt8) : List aF := [.cells [.ms 1 (aS (bJ w)).length, I w.length], .arr 5 1 (aS (bJ w))]
def dgB (b : Bool) : UInt8 := if b = true then 49 else 48
theorem xk : ACalls (cxg gl) 17 [] [] (fun r H => r = .ptr 0 0 ∧ H = WO []) := by
 refine ACalls.enter Tryz.func17 rfl Tryz.ntmps17 (by kernel_rfl) rfl ?_; simp only [au, nm, Nat.reduceAdd]
 repeat (first | (apply aa.st; rfl) | (apply aa.q true; rfl; rfl; rfl; rfl; first | exact True.intro | omega | (simp only [tn, Int.reduceToNat]; omega)) | (apply aa.box; (iterate 6 rfl); simp only [nm, nz, Nat.reduceAdd]) | (apply aa.build; (iterate 5 rfl); simp only [nm, nz, Nat.reduceAdd, bA, cH, AV.unD]))
 apply aa.oG 0 0 5 1
 rfl; rfl
 (apply aa.vI 2; rfl; rfl; rfl; rfl; rfl)
 exact ⟨rfl, rfl⟩
theorem Fj (P : List UInt8) (i : Nat) (b : UInt8) (h : P[i]? = some b) : (aS P)[i]? = some (.int .u8 (b.toNat : Int)) := by simp [aS, h]
theorem Fh (P : List UInt8) (i : Nat) (b : UInt8) : (aS P).set i (.int .u8 (b.toNat : Int)) = aS (P.set i b) := by simp [aS, List.map_set]
theorem uI {es fs : List D} {m : Int} {n : Nat} (h : es = fs) (hm : m = n) (x : Nat) (hx : x = fs.length) : ([.cells [.ms 1 x, I m], .arr 5 1 es] : List aF) = [.cells [.ms 1 fs.length, I n], .arr 5 1 fs] := by rw [h, hm, hx]
theorem o48 : aS [eP [dgB false]] = [.int .u8 0] := rfl
theorem o49 : aS [eP [dgB true]] = [.int .u8 128] := rfl
theorem set_self {α : Type} {l : List α} {i : Nat} {x : α} (h : l[i]? = some x) : l.set i x = l := by
 apply List.ext_getElem?
 intro j
 by_cases hj : i = j
 ·subst hj; rw [List.getElem?_set_self (av h), h]
 ·rw [List.getElem?_set_ne hj]
attribute [local irreducible] aS bJ eP
theorem wY (w : List UInt8) (one : Bool) (hd : w.all aX = true) (hl : w.length ≤ 1000000000) : ACalls (cxg gl) 56 [.ptr 0 0, B one] (WO w) (fun r H => r = .bG [] ∧ H = WO (w ++ [dgB one])) := by
 have hP := gQ w
 have hO := fI (bJ w)
 unfold WO
 have hin : (w ++ [dgB one]).length = w.length + 1 := by simp
 by_cases h8 : w.length % 8 = 0
 ·have hs := vS w (dgB one) h8
  cases one
  ·have e : aS (bJ w) ++ [.int .u8 0] = aS (bJ (w ++ [dgB false])) := by rw [hs, iw, o48]
   refine ACalls.enter Tryz.func56 rfl Tryz.ntmps56 (by kernel_rfl) rfl ?_; simp only [au, nm, Nat.reduceAdd]
   repeat' (first | (apply aa.st; rfl) | ((first | apply aa.q true | apply aa.sq true); rfl; rfl; rfl; rfl; first | exact True.intro | omega | (simp only [tn, Int.reduceToNat]; omega) | (rw [hO, hP]; simp only [List.length_cons, List.length_nil]; omega)) | (apply aa.cA; rfl; rfl; rfl; decide +kernel) | (apply aa.af; rfl; first | omega | rfl) | (apply aa.ae; rfl; omega) | (apply aa.aB; rfl) | (apply aa.ak; rfl) | (apply aa.store; (iterate 9 rfl); exact Nat.le_of_ble_eq_true rfl; simp only [nm, nz, Nat.reduceAdd]) | (apply aa.buildSlice; (iterate 11 rfl)) | (apply aa.oK; rfl; rfl; rfl; rfl) | (apply aa.jI; (iterate 11 rfl); (first | rfl | (simp only [List.length_append, List.length_map, List.length_set, List.length_replicate, List.length_cons, List.length_nil]; omega) | (rw [hO, hP]; simp only [List.length_cons, List.length_nil]; omega)); (first | (simp only [List.length_append, List.length_map, List.length_cons, List.length_nil]; omega) | (rw [hO, hP]; simp only [List.length_cons, List.length_nil]; omega)); simp only [List.set_cons_zero, List.set_cons_succ]) | (apply aa.qL; (iterate 11 rfl); (first | rfl | (simp only [List.length_append, List.length_map, List.length_set, List.length_replicate, List.length_cons, List.length_nil]; omega) | (rw [hO, hP]; simp only [List.length_cons, List.length_nil]; omega)); rfl; (first | decide | exact Nat.le_of_ble_eq_true rfl | (dsimp only; omega) | decide +kernel | (rw [hO, hP]; simp only [List.length_cons, List.length_nil]; omega)); simp only [List.set_cons_zero, List.set_cons_succ]) | (apply aa.BQ; (first | (apply iZ; (iterate 8 rfl); (first | rfl | (simp only [List.length_append, List.length_map, List.length_set, List.length_replicate, List.length_cons, List.length_nil]; omega) | (rw [hO, hP]; simp only [List.length_cons, List.length_nil]; omega)); (first | decide | exact Nat.le_of_ble_eq_true rfl | (dsimp only; omega) | decide +kernel | (rw [hO, hP]; simp only [List.length_cons, List.length_nil]; omega))) | (apply jy; rfl; rfl; rfl; rfl; (first | rfl | (simp only [List.length_append, List.length_map, List.length_set, List.length_replicate, List.length_cons, List.length_nil]; omega) | (rw [hO, hP]; simp only [List.length_cons, List.length_nil]; omega)); rfl; rfl)); rfl; rfl; rfl) | intro _)
   all_goals first | exact ⟨rfl, uI e (by simp) _ (by first | (rw [← e]; done) | rw [← e, List.length_set])⟩
  ·have m1 : (aS (bJ w) ++ [.int .u8 0])[((w.length : Int) / 8).toNat]? = some (.int .u8 0) := by
    rw [List.getElem?_append_right (by omega), show ((w.length : Int) / 8).toNat - (aS (bJ w)).length = 0 by omega]; rfl
   have ez : (7 - (w.length : Int) % 8) = 7 := by omega
   have e : (aS (bJ w) ++ [D.int .u8 0]).set ((w.length : Int) / 8).toNat (D.int .u8 ((((0 : Int).toNat ||| (1 * 2 ^ (7 - (w.length : Int) % 8).toNat % 256 : Int).toNat : Nat)) : Int)) = aS (bJ (w ++ [dgB true])) := by
    rw [hs, iw, List.set_append_right _ _ (by omega), show ((w.length : Int) / 8).toNat - (aS (bJ w)).length = 0 by omega, ez, o49]; rfl
   refine ACalls.enter Tryz.func56 rfl Tryz.ntmps56 (by kernel_rfl) rfl ?_; simp only [au, nm, Nat.reduceAdd]
   repeat' (first | (apply aa.st; rfl) | ((first | apply aa.q true | apply aa.sq true); rfl; rfl; rfl; rfl; first | exact True.intro | omega | (simp only [tn, Int.reduceToNat]; omega) | (rw [hO, hP]; simp only [List.length_cons, List.length_nil]; omega) | (rw [List.length_append, hO, hP]; simp only [List.length_cons, List.length_nil]; omega) | (rw [ez]; decide)) | (apply aa.cA; rfl; rfl; rfl; decide +kernel) | (apply aa.af; rfl; first | omega | rfl) | (apply aa.ae; rfl; omega) | (apply aa.aB; rfl) | (apply aa.ak; rfl) | (apply aa.store; (iterate 9 rfl); exact Nat.le_of_ble_eq_true rfl; simp only [nm, nz, Nat.reduceAdd]) | (apply aa.buildSlice; (iterate 11 rfl)) | (apply aa.oK; rfl; rfl; rfl; rfl) | (apply aa.jI; (iterate 11 rfl); (first | rfl | (simp only [List.length_append, List.length_map, List.length_set, List.length_replicate, List.length_cons, List.length_nil]; omega) | (rw [hO, hP]; simp only [List.length_cons, List.length_nil]; omega) | (rw [List.length_append, hO, hP]; simp only [List.length_cons, List.length_nil]; omega) | (rw [ez]; decide)); (first | (simp only [List.length_append, List.length_map, List.length_cons, List.length_nil]; omega) | (rw [hO, hP]; simp only [List.length_cons, List.length_nil]; omega) | (rw [List.length_append, hO, hP]; simp only [List.length_cons, List.length_nil]; omega) | (rw [ez]; decide)); simp only [List.set_cons_zero, List.set_cons_succ]) | (apply aa.qL; (iterate 11 rfl); (first | rfl | (simp only [List.length_append, List.length_map, List.length_set, List.length_replicate, List.length_cons, List.length_nil]; omega) | (rw [hO, hP]; simp only [List.length_cons, List.length_nil]; omega) | (rw [List.length_append, hO, hP]; simp only [List.length_cons, List.length_nil]; omega) | (rw [ez]; decide)); (first | rfl | exact m1); (first | decide | exact Nat.le_of_ble_eq_true rfl | (dsimp only; omega) | decide +kernel | (rw [hO, hP]; simp only [List.length_cons, List.length_nil]; omega) | (rw [List.length_append, hO, hP]; simp only [List.length_cons, List.length_nil]; omega) | (rw [ez]; decide)); simp only [List.set_cons_zero, List.set_cons_succ]) | (apply aa.BQ; (first | (apply iZ; (iterate 8 rfl); (first | rfl | (simp only [List.length_append, List.length_map, List.length_set, List.length_replicate, List.length_cons, List.length_nil]; omega) | (rw [hO, hP]; simp only [List.length_cons, List.length_nil]; omega) | (rw [List.length_append, hO, hP]; simp only [List.length_cons, List.length_nil]; omega) | (rw [ez]; decide)); (first | decide | exact Nat.le_of_ble_eq_true rfl | (dsimp only; omega) | decide +kernel | (rw [hO, hP]; simp only [List.length_cons, List.length_nil]; omega) | (rw [List.length_append, hO, hP]; simp only [List.length_cons, List.length_nil]; omega) | (rw [ez]; decide))) | (apply jy; rfl; rfl; rfl; rfl; (first | rfl | (simp only [List.length_append, List.length_map, List.length_set, List.length_replicate, List.length_cons, List.length_nil]; omega) | (rw [hO, hP]; simp only [List.length_cons, List.length_nil]; omega) | (rw [List.length_append, hO, hP]; simp only [List.length_cons, List.length_nil]; omega) | (rw [ez]; decide)); (first | rfl | exact m1); rfl)); rfl; rfl; rfl) | intro _)
   all_goals first | exact ⟨rfl, uI e (by simp) _ (by first | (rw [← e]; done) | rw [← e, List.length_set])⟩
 ·have hs := vR w (dgB one) h8
  have hlast := xI w h8
  have hT := zY w
  have hTd := zZ w hd
  have ei : ((w.length : Int) / 8).toNat = w.length / 8 := by omega
  cases one
  ·have e : aS (bJ w) = aS (bJ (w ++ [dgB false])) := by
    rw [hs]
    unfold dgB
    rw [if_neg (by decide), Gn _ hTd (by omega), set_self hlast]
   refine ACalls.enter Tryz.func56 rfl Tryz.ntmps56 (by kernel_rfl) rfl ?_; simp only [au, nm, Nat.reduceAdd]
   repeat' (first | (apply aa.st; rfl) | ((first | apply aa.q true | apply aa.sq true); rfl; rfl; rfl; rfl; first | exact True.intro | omega | (simp only [tn, Int.reduceToNat]; omega)) | (apply aa.cA; rfl; rfl; rfl; decide +kernel) | (apply aa.af; rfl; first | omega | rfl) | (apply aa.ae; rfl; omega) | (apply aa.aB; rfl) | (apply aa.ak; rfl) | (apply aa.store; (iterate 9 rfl); exact Nat.le_of_ble_eq_true rfl; simp only [nm, nz, Nat.reduceAdd]) | (apply aa.buildSlice; (iterate 11 rfl)) | (apply aa.oK; rfl; rfl; rfl; rfl) | (apply aa.jI; (iterate 11 rfl); (first | rfl | (simp only [List.length_append, List.length_map, List.length_set, List.length_replicate, List.length_cons, List.length_nil]; omega)); ((simp only [List.length_append, List.length_map, List.length_cons, List.length_nil]; omega)); simp only [List.set_cons_zero, List.set_cons_succ]) | (apply aa.qL; (iterate 11 rfl); (first | rfl | (simp only [List.length_append, List.length_map, List.length_set, List.length_replicate, List.length_cons, List.length_nil]; omega)); rfl; (first | decide | exact Nat.le_of_ble_eq_true rfl | (dsimp only; omega) | decide +kernel); simp only [List.set_cons_zero, List.set_cons_succ]) | (apply aa.BQ; (first | (apply iZ; (iterate 8 rfl); (first | rfl | (simp only [List.length_append, List.length_map, List.length_set, List.length_replicate, List.length_cons, List.length_nil]; omega)); (first | decide | exact Nat.le_of_ble_eq_true rfl | (dsimp only; omega) | decide +kernel)) | (apply jy; rfl; rfl; rfl; rfl; (first | rfl | (simp only [List.length_append, List.length_map, List.length_set, List.length_replicate, List.length_cons, List.length_nil]; omega)); rfl; rfl)); rfl; rfl; rfl) | intro _)
   all_goals first | exact ⟨rfl, uI e (by simp) _ (by first | (rw [← e]; done) | rw [← e, List.length_set])⟩
  ·have m1 : (aS (bJ w))[((w.length : Int) / 8).toNat]? = some (.int .u8 ((eP (gL w)).toNat : Int)) := by rw [ei]; exact Fj _ _ _ hlast
   have ez : (7 - (w.length : Int) % 8).toNat = 7 - (gL w).length := by omega
   have hb1 := Gm (gL w) hTd (by omega)
   have hv : (((((eP (gL w)).toNat : Int).toNat ||| (1 * 2 ^ (7 - (w.length : Int) % 8).toNat % 256 : Int).toNat : Nat)) : Int) = ((eP (gL w ++ [49])).toNat : Int) := by
    rw [ez, Int.toNat_natCast, ← hb1]
    have hpw : (2 : Nat) ^ (7 - (gL w).length) < 256 := Nat.lt_of_le_of_lt (Nat.pow_le_pow_right (by decide) (Nat.sub_le 7 _)) (by decide)
    have : (1 * 2 ^ (7 - (gL w).length) % 256 : Int).toNat = 2 ^ (7 - (gL w).length) := by
     have hc : ((2 ^ (7 - (gL w).length) : Nat) : Int) = (2 : Int) ^ (7 - (gL w).length) := by simp
     rw [← hc]
     generalize (2 : Nat) ^ (7 - (gL w).length) = z at *
     omega
    rw [this]
   have e : (aS (bJ w)).set ((w.length : Int) / 8).toNat (D.int .u8 (((((eP (gL w)).toNat : Int).toNat ||| (1 * 2 ^ (7 - (w.length : Int) % 8).toNat % 256 : Int).toNat : Nat)) : Int)) = aS (bJ (w ++ [dgB true])) := by
    rw [hv, ei, Fh, hs]; rfl
   have hbd : ((eP (gL w)).toNat : Int) ≤ 255 := by have := (eP (gL w)).toNat_lt; omega
   refine ACalls.enter Tryz.func56 rfl Tryz.ntmps56 (by kernel_rfl) rfl ?_; simp only [au, nm, Nat.reduceAdd]
   repeat' (first | (apply aa.st; rfl) | ((first | apply aa.q true | apply aa.sq true); rfl; rfl; rfl; rfl; first | exact True.intro | omega | (simp only [tn, Int.reduceToNat]; omega) | (rw [hO, hP]; omega) | (exact ⟨by omega, by omega⟩)) | (apply aa.cA; rfl; rfl; rfl; decide +kernel) | (apply aa.af; rfl; first | omega | rfl) | (apply aa.ae; rfl; omega) | (apply aa.aB; rfl) | (apply aa.ak; rfl) | (apply aa.store; (iterate 9 rfl); exact Nat.le_of_ble_eq_true rfl; simp only [nm, nz, Nat.reduceAdd]) | (apply aa.buildSlice; (iterate 11 rfl)) | (apply aa.oK; rfl; rfl; rfl; rfl) | (apply aa.jI; (iterate 11 rfl); (first | rfl | (simp only [List.length_append, List.length_map, List.length_set, List.length_replicate, List.length_cons, List.length_nil]; omega) | (rw [hO, hP]; omega) | (exact ⟨by omega, by omega⟩)); (first | (simp only [List.length_append, List.length_map, List.length_cons, List.length_nil]; omega) | (rw [hO, hP]; omega) | (exact ⟨by omega, by omega⟩)); simp only [List.set_cons_zero, List.set_cons_succ]) | (apply aa.qL; (iterate 11 rfl); (first | rfl | (simp only [List.length_append, List.length_map, List.length_set, List.length_replicate, List.length_cons, List.length_nil]; omega) | (rw [hO, hP]; omega) | (exact ⟨by omega, by omega⟩)); (first | rfl | exact m1); (first | decide | exact Nat.le_of_ble_eq_true rfl | (dsimp only; omega) | decide +kernel | (rw [hO, hP]; omega) | (exact ⟨by omega, by omega⟩)); simp only [List.set_cons_zero, List.set_cons_succ]) | (apply aa.BQ; (first | (apply iZ; (iterate 8 rfl); (first | rfl | (simp only [List.length_append, List.length_map, List.length_set, List.length_replicate, List.length_cons, List.length_nil]; omega) | (rw [hO, hP]; omega) | (exact ⟨by omega, by omega⟩)); (first | decide | exact Nat.le_of_ble_eq_true rfl | (dsimp only; omega) | decide +kernel | (rw [hO, hP]; omega) | (exact ⟨by omega, by omega⟩))) | (apply jy; rfl; rfl; rfl; rfl; (first | rfl | (simp only [List.length_append, List.length_map, List.length_set, List.length_replicate, List.length_cons, List.length_nil]; omega) | (rw [hO, hP]; omega) | (exact ⟨by omega, by omega⟩)); (first | rfl | exact m1); rfl)); rfl; rfl; rfl) | intro _)
   all_goals first | exact ⟨rfl, uI e (by simp) _ (by first | (rw [← e]; done) | rw [← e, List.length_set])⟩
end Wr
namespace Wr
open Go Bt
attribute [local irreducible] aa ACalls
variable {gl : List (Nat × List D)}
theorem DZ {α : Type} (l : List α) (i : Nat) (x : α) (h : l[i]? = some x) : l.drop i = x :: l.drop (i + 1) := wQ l i x h
theorem Gw (s : List UInt8) (h : s.all aX = true) {k : Nat} {b : UInt8} (hk : s[k]? = some b) : b = 48 ∨ b = 49 := jC (List.all_eq_true.1 h b (List.mem_of_getElem? hk))
theorem n48 : (((48 : UInt8).toNat : Nat) : Int) = 48 := rfl
theorem n49 : (((49 : UInt8).toNat : Nat) : Int) = 49 := rfl
theorem Cw (s : List UInt8) : ACalls (cxg gl) 55 [S s] [] (fun r H => r = B (s.all aX) ∧ H = []) := by
 refine ACalls.enter Tryz.func55 rfl Tryz.ntmps55 (by kernel_rfl) rfl ?_; simp only [au, nm, Nat.reduceAdd]
 repeat (first | (apply aa.st; rfl) | (apply aa.q true; rfl; rfl; rfl; rfl; first | exact True.intro | omega | (simp only [tn, Int.reduceToNat]; omega)) | (apply aa.aB; rfl) | (apply aa.ak; rfl) | (apply aa.aj; rfl; rfl) | (apply aa.cBT; rfl; first | (simp only [bT]; omega)) | (apply aa.gBT; rfl; rfl; rfl; first | (simp only [bT]; omega)) | (apply aa.gBF; rfl; rfl; rfl; first | (simp only [bF]; omega) | exact ndF rfl) | (apply aa.az; rfl; rfl; rfl) | (apply aa.Cm; (iterate 7 rfl); simp only [List.length_cons, List.length_nil, Nat.reduceAdd, List.cons_append, List.nil_append]))
 refine aa.weak (env' := [(6, .it 0), (2, B false)]) ⟨rfl, rfl, trivial⟩ ?_
 refine aa.loop (fun m env H => ∃ k : Nat, m = s.length - k ∧ k ≤ s.length ∧ (s.drop k).all aX = s.all aX ∧ env = [(6, .it 0), (2, B false)] ∧ H = [.siter ⟨s.toArray⟩ k]) s.length
  ⟨0, rfl, by omega, rfl, rfl, rfl⟩ ?_
 rintro m env H ⟨k, rfl, hk, hall, rfl, rfl⟩
 rcases Nat.lt_or_ge k s.length with hlt | hge
 ·obtain ⟨b, hb⟩ : ∃ b, s[k]? = some b := ⟨_, List.getElem?_eq_getElem hlt⟩
  rw [DZ s k b hb, List.all_cons] at hall
  by_cases h1 : 128 ≤ b.toNat
  ·have e : aX b = false := by
    cases he : aX b with
    | false => rfl
    | true => rcases jC he with rfl | rfl <;> simp at h1
   rw [e, Bool.false_and] at hall
   rw [← hall]
   repeat' (first | (apply aa.st; rfl) | (apply aa.q true; rfl; rfl; rfl; rfl; first | exact True.intro | omega | (simp only [tn, Int.reduceToNat]; omega)) | (apply aa.aB; rfl) | (apply aa.ak; rfl) | (apply aa.aj; rfl; rfl) | (apply aa.cBT; rfl; first | (simp only [bT]; omega)) | (apply aa.gBT; rfl; rfl; rfl; first | (simp only [bT]; omega)) | (apply aa.gBF; rfl; rfl; rfl; first | (simp only [bF]; omega) | exact ndF rfl) | (apply aa.az; rfl; rfl; rfl) | (apply aa.Ja; (iterate 6 rfl); exact hb; exact h1; intro _ _ _ _; simp only [List.set_cons_zero, List.set_cons_succ]) | intro _ | (apply aa.aC; rfl; rfl; rfl; rfl) | (apply aa.bf; rfl; rfl; rfl; rfl) | (apply aa.aP; rfl; rfl))
   all_goals first | exact ⟨rfl, rfl⟩ | omega
  ·by_cases h8 : b = 48
   ·subst h8
    have hall' : (s.drop (k + 1)).all aX = s.all aX := by rw [← hall]; rfl
    repeat' (first | (apply aa.st; rfl) | (apply aa.q true; rfl; rfl; rfl; rfl; first | exact True.intro | omega | (simp only [tn, Int.reduceToNat]; omega)) | (apply aa.aB; rfl) | (apply aa.ak; rfl) | (apply aa.aj; rfl; rfl) | (apply aa.cBT; rfl; first | (simp only [bT]; omega)) | (apply aa.gBT; rfl; rfl; rfl; first | (simp only [bT]; omega)) | (apply aa.gBF; rfl; rfl; rfl; first | (simp only [bF]; omega) | exact ndF rfl) | (apply aa.az; rfl; rfl; rfl) | (apply aa.vX; (iterate 6 rfl); exact hb; exact (by decide); exact n48; simp only [List.set_cons_zero, List.set_cons_succ]) | intro _ | (apply aa.aC; rfl; rfl; rfl; rfl) | (apply aa.bf; rfl; rfl; rfl; rfl) | (apply aa.aP; rfl; rfl))
    exact aa.round [(6, .it 0), (2, B false)] (s.length - (k + 1)) (by omega) ⟨rfl, rfl, trivial⟩ ⟨k + 1, rfl, hlt, hall', rfl, rfl⟩
   ·by_cases h9 : b = 49
    ·subst h9
     have hall' : (s.drop (k + 1)).all aX = s.all aX := by rw [← hall]; rfl
     repeat' (first | (apply aa.st; rfl) | (apply aa.q true; rfl; rfl; rfl; rfl; first | exact True.intro | omega | (simp only [tn, Int.reduceToNat]; omega)) | (apply aa.aB; rfl) | (apply aa.ak; rfl) | (apply aa.aj; rfl; rfl) | (apply aa.cBT; rfl; first | (simp only [bT]; omega)) | (apply aa.gBT; rfl; rfl; rfl; first | (simp only [bT]; omega)) | (apply aa.gBF; rfl; rfl; rfl; first | (simp only [bF]; omega) | exact ndF rfl) | (apply aa.az; rfl; rfl; rfl) | (apply aa.vX; (iterate 6 rfl); exact hb; exact (by decide); exact n49; simp only [List.set_cons_zero, List.set_cons_succ]) | intro _ | (apply aa.aC; rfl; rfl; rfl; rfl) | (apply aa.bf; rfl; rfl; rfl; rfl) | (apply aa.aP; rfl; rfl))
     exact aa.round [(6, .it 0), (2, B false)] (s.length - (k + 1)) (by omega) ⟨rfl, rfl, trivial⟩ ⟨k + 1, rfl, hlt, hall', rfl, rfl⟩
    ·have e1 : (b.toNat : Int) ≠ 48 := fun h => h8 ((mO (c := b) (n := 48) (by omega)).1 h)
     have e2 : (b.toNat : Int) ≠ 49 := fun h => h9 ((mO (c := b) (n := 49) (by omega)).1 h)
     have e3 : aX b = false := by simp [aX, h8, h9]
     rw [e3, Bool.false_and] at hall
     rw [← hall]
     have hlt8 : b.toNat < 128 := by omega
     repeat' (first | (apply aa.st; rfl) | (apply aa.q true; rfl; rfl; rfl; rfl; first | exact True.intro | omega | (simp only [tn, Int.reduceToNat]; omega)) | (apply aa.aB; rfl) | (apply aa.ak; rfl) | (apply aa.aj; rfl; rfl) | (apply aa.cBT; rfl; first | (simp only [bT]; omega)) | (apply aa.gBT; rfl; rfl; rfl; first | (simp only [bT]; omega)) | (apply aa.gBF; rfl; rfl; rfl; first | (simp only [bF]; omega) | exact ndF rfl) | (apply aa.az; rfl; rfl; rfl) | (apply aa.vX; (iterate 6 rfl); exact hb; exact hlt8; exact rfl; simp only [List.set_cons_zero, List.set_cons_succ]) | intro _ | (apply aa.aC; rfl; rfl; rfl; rfl) | (apply aa.bf; rfl; rfl; rfl; rfl) | (apply aa.aP; rfl; rfl))
     all_goals first | exact ⟨rfl, rfl⟩ | omega
 ·obtain rfl : k = s.length := by omega
  rw [List.drop_length] at hall
  rw [← hall]
  have hsz : (⟨s.toArray⟩ : ByteArray).size ≤ s.length := Nat.le_of_eq (zI s)
  repeat' (first | (apply aa.st; rfl) | (apply aa.q true; rfl; rfl; rfl; rfl; first | exact True.intro | omega | (simp only [tn, Int.reduceToNat]; omega)) | (apply aa.aB; rfl) | (apply aa.ak; rfl) | (apply aa.aj; rfl; rfl) | (apply aa.cBT; rfl; first | (simp only [bT]; omega)) | (apply aa.gBT; rfl; rfl; rfl; first | (simp only [bT]; omega)) | (apply aa.gBF; rfl; rfl; rfl; first | (simp only [bF]; omega) | exact ndF rfl) | (apply aa.az; rfl; rfl; rfl) | (apply aa.y9; (iterate 6 rfl); exact hsz) | intro _ | (apply aa.aC; rfl; rfl; rfl; rfl) | (apply aa.bf; rfl; rfl; rfl; rfl) | (apply aa.aP; rfl; rfl))
  all_goals first | exact ⟨rfl, rfl⟩
theorem Iq (x : Int) (hx : 0 ≤ x) : dgB (decide (((x.toNat &&& (1 : Int).toNat : Nat) : Int) = 1)) = dg x := by
 have h : (x.toNat &&& (1 : Int).toNat) = x.toNat % 2 := Nat.and_one_is_mod _
 rw [h]
 have : x % 2 = 0 ∨ x % 2 = 1 := by omega
 unfold dg dgB
 rcases this with h2 | h2
 ·rw [if_neg (by rw [decide_eq_true_eq]; omega), h2]; rfl
 ·rw [if_pos (by rw [decide_eq_true_eq]; omega), h2]; rfl
theorem Ip (x : Int) : aX (dg x) = true := by
 have : x % 2 = 0 ∨ x % 2 = 1 := by omega
 unfold dg
 rcases this with h | h <;> rw [h] <;> decide
theorem j6 (v : Int) (n k : Nat) : (bv v n k).all aX = true := by
 unfold bv
 rw [List.all_eq_true]
 intro x hx
 obtain ⟨j, _, rfl⟩ := List.mem_map.1 hx
 exact Ip _
attribute [local irreducible] aS bJ bv dg
theorem xh (w : List UInt8) (v : Int) (n : Nat) (hd : w.all aX = true) (hl : w.length ≤ 100000000) (hn : n ≤ 32) (hv : 0 ≤ v ∧ v < 2 ^ n) :
  ACalls (cxg gl) 53 [.ptr 0 0, I v, I n] (WO w) (fun r H => r = I 0 ∧ H = WO (w ++ bv v n n)) := by
 have hf := DK (gl := gl) v n hn hv
 have hp32 := qY hn
 have e0 : bv v n 0 = [] := List.eq_nil_of_length_eq_zero (fq v n 0)
 refine ACalls.enter Tryz.func53 rfl Tryz.ntmps53 (by kernel_rfl) rfl ?_; simp only [au, nm, Nat.reduceAdd]
 repeat (first | (apply aa.st; rfl) | (apply aa.q true; rfl; rfl; rfl; rfl; first | exact True.intro | omega | (simp only [tn, Int.reduceToNat]; omega)) | (apply aa.aA (hf); (iterate 6 rfl)) | (apply aa.af; rfl; first | omega | rfl) | (apply aa.ae; rfl; omega) | (apply aa.ak; rfl) | (apply aa.aj; rfl; rfl))
 refine aa.weak (env' := [(7, I ((n : Int) - 1)), (1, I v), (0, .ptr 0 0)]) ⟨rfl, rfl, rfl, trivial⟩ ?_
 refine aa.loop (fun m env H => ∃ k : Nat, m = n - k ∧ k ≤ n ∧ env = [(7, I ((n : Int) - 1 - k)), (1, I v), (0, .ptr 0 0)] ∧ H = WO (w ++ bv v n k)) n
  ⟨0, rfl, by omega, by simp, by rw [e0, List.append_nil]⟩ ?_
 rintro m env H ⟨k, rfl, hk, rfl, rfl⟩
 rcases Nat.lt_or_ge k n with hlt | hge
 ·have hx : 0 ≤ v / 2 ^ ((n : Int) - 1 - k).toNat ∧ v / 2 ^ ((n : Int) - 1 - k).toNat ≤ 4294967296 := by
   have h2 := mX ((n : Int) - 1 - k).toNat
   exact ⟨Int.ediv_nonneg hv.1 (by omega), Int.le_trans (Int.ediv_le_self _ hv.1) (by omega)⟩
  have hdk := fq v n k
  have hb := wY (gl := gl) (w ++ bv v n k) (decide ((((v / 2 ^ ((n : Int) - 1 - k).toNat).toNat &&& (1 : Int).toNat : Nat) : Int) = 1)) (by rw [List.all_append, hd, j6]; rfl) (by rw [List.length_append, hdk]; omega)
  rw [Iq _ hx.1, List.append_assoc, show ((n : Int) - 1 - k).toNat = n - 1 - k by omega, ← lY, ← show ((n : Int) - 1 - k).toNat = n - 1 - k by omega] at hb
  repeat' (first | (apply aa.st; rfl) | (apply aa.q true; rfl; rfl; rfl; rfl; first | exact True.intro | omega | (simp only [tn, Int.reduceToNat]; omega)) | (apply aa.ah [0,1] ( hb); (iterate 6 rfl); decide; rfl; rfl; simp only [ny, nh, Nat.reduceAdd, Nat.reduceSub]) | (apply aa.af; rfl; first | omega | rfl) | (apply aa.ae; rfl; omega) | (apply aa.ak; rfl) | (apply aa.aj; rfl; rfl) | intro _ | (apply aa.aC; rfl; rfl; rfl; rfl) | (apply aa.aP; rfl; rfl))
  all_goals first | exact aa.round [(7, I ((n : Int) - 1 - ((k + 1 : Nat) : Int))), (1, I v), (0, .ptr 0 0)] (n - (k + 1)) (by omega) ⟨congrArg I (by omega), rfl, rfl, trivial⟩ ⟨k + 1, rfl, hlt, rfl, rfl⟩ | omega
 ·obtain rfl : k = n := by omega
  repeat' (first | (apply aa.st; rfl) | (apply aa.q true; rfl; rfl; rfl; rfl; first | exact True.intro | omega | (simp only [tn, Int.reduceToNat]; omega)) | (apply aa.af; rfl; first | omega | rfl) | (apply aa.ae; rfl; omega) | (apply aa.ak; rfl) | (apply aa.aj; rfl; rfl) | intro _ | (apply aa.aC; rfl; rfl; rfl; rfl) | (apply aa.aP; rfl; rfl))
  all_goals first | exact ⟨rfl, rfl⟩ | omega
theorem og (w s : List UInt8) (hd : w.all aX = true) (hs : s.all aX = true) (hl : w.length + s.length ≤ 100000000) :
  ACalls (cxg gl) 22 [.ptr 0 0, S s] (WO w) (fun r H => r = I 0 ∧ H = WO (w ++ s)) := by
 have hp := Cw (gl := gl) s
 rw [hs] at hp
 refine ACalls.enter Tryz.func22 rfl Tryz.ntmps22 (by kernel_rfl) rfl ?_; simp only [au, nm, Nat.reduceAdd]
 repeat (first | (apply aa.st; rfl) | (apply aa.q true; rfl; rfl; rfl; rfl; first | exact True.intro | omega | (simp only [tn, Int.reduceToNat]; omega)) | (apply aa.aA (hp); (iterate 6 rfl)) | (apply aa.aB; rfl) | (apply aa.ak; rfl) | (apply aa.aj; rfl; rfl) | (apply aa.Cm; (iterate 7 rfl); simp only [List.length_cons, List.length_nil, Nat.reduceAdd, List.cons_append, List.nil_append]))
 refine aa.weak (env' := [(15, .it 2), (0, .ptr 0 0)]) ⟨rfl, rfl, trivial⟩ ?_
 refine aa.loop (fun m env H => ∃ k : Nat, m = s.length - k ∧ k ≤ s.length ∧ env = [(15, .it 2), (0, .ptr 0 0)] ∧ H = [.cells [.ms 1 (aS (bJ (w ++ s.take k))).length, I (w ++ s.take k).length], .arr 5 1 (aS (bJ (w ++ s.take k))), .siter ⟨s.toArray⟩ k]) s.length
  ⟨0, rfl, by omega, rfl, by simp⟩ ?_
 rintro m env H ⟨k, rfl, hk, rfl, rfl⟩
 have hwd : (w ++ s.take k).all aX = true := by
  rw [List.all_append, hd, Bool.true_and, List.all_eq_true]
  exact fun x hx => List.all_eq_true.1 hs x (List.mem_of_mem_take hx)
 rcases Nat.lt_or_ge k s.length with hlt | hge
 ·obtain ⟨b, hb⟩ : ∃ b, s[k]? = some b := ⟨_, List.getElem?_eq_getElem hlt⟩
  have ht : w ++ s.take (k + 1) = w ++ s.take k ++ [b] := by rw [List.take_add_one, hb, List.append_assoc]; rfl
  have hwl : (w ++ s.take k).length ≤ 1000000000 := by rw [List.length_append, List.length_take]; omega
  rcases Gw s hs hb with rfl | rfl
  ·have hbit := wY (gl := gl) (w ++ s.take k) false hwd hwl
   rw [show dgB false = 48 from rfl, ← ht] at hbit
   repeat' (first | (apply aa.st; rfl) | (apply aa.q true; rfl; rfl; rfl; rfl; first | exact True.intro | omega | (simp only [tn, Int.reduceToNat]; omega)) | (apply aa.ah [0,1] ( hbit); (iterate 6 rfl); decide; rfl; rfl; simp only [ny, nh, Nat.reduceAdd, Nat.reduceSub]) | (apply aa.aB; rfl) | (apply aa.ak; rfl) | (apply aa.aj; rfl; rfl) | (apply aa.vX; (iterate 6 rfl); exact hb; exact (by decide); exact n48; simp only [List.set_cons_zero, List.set_cons_succ]) | intro _ | (apply aa.aC; rfl; rfl; rfl; rfl) | (apply aa.aP; rfl; rfl))
   all_goals first | exact aa.round [(15, .it 2), (0, .ptr 0 0)] (s.length - (k + 1)) (by omega) ⟨rfl, rfl, trivial⟩ ⟨k + 1, rfl, hlt, rfl, rfl⟩
  ·have hbit := wY (gl := gl) (w ++ s.take k) true hwd hwl
   rw [show dgB true = 49 from rfl, ← ht] at hbit
   repeat' (first | (apply aa.st; rfl) | (apply aa.q true; rfl; rfl; rfl; rfl; first | exact True.intro | omega | (simp only [tn, Int.reduceToNat]; omega)) | (apply aa.ah [0,1] ( hbit); (iterate 6 rfl); decide; rfl; rfl; simp only [ny, nh, Nat.reduceAdd, Nat.reduceSub]) | (apply aa.aB; rfl) | (apply aa.ak; rfl) | (apply aa.aj; rfl; rfl) | (apply aa.vX; (iterate 6 rfl); exact hb; exact (by decide); exact n49; simp only [List.set_cons_zero, List.set_cons_succ]) | intro _ | (apply aa.aC; rfl; rfl; rfl; rfl) | (apply aa.aP; rfl; rfl))
   all_goals first | exact aa.round [(15, .it 2), (0, .ptr 0 0)] (s.length - (k + 1)) (by omega) ⟨rfl, rfl, trivial⟩ ⟨k + 1, rfl, hlt, rfl, rfl⟩
 ·obtain rfl : k = s.length := by omega
  rw [List.take_length]
  have hsz : (⟨s.toArray⟩ : ByteArray).size ≤ s.length := Nat.le_of_eq (zI s)
  repeat' (first | (apply aa.st; rfl) | (apply aa.q true; rfl; rfl; rfl; rfl; first | exact True.intro | omega | (simp only [tn, Int.reduceToNat]; omega)) | (apply aa.aB; rfl) | (apply aa.ak; rfl) | (apply aa.aj; rfl; rfl) | (apply aa.y9; (iterate 6 rfl); exact hsz) | intro _ | (apply aa.aC; rfl; rfl; rfl; rfl) | (apply aa.aP; rfl; rfl))
  all_goals first | exact ⟨rfl, rfl⟩
end Wr
end Go.Proofs.YtbfojhfiemcnpaaGreatDoor.Av
