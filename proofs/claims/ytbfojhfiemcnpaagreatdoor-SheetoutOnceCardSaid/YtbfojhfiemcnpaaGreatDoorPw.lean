/- The writer of bits, plain: what one more digit does to the bytes. The writer of bits: New, bit. The writer of bits: plain, Put, Add, Len, Text. -/
import Derived.Test.YtbfojhfiemcnpaaGreatDoorPd
import Derived.Test.YtbfojhfiemcnpaaGreatDoorPn
set_option linter.unusedVariables false
set_option linter.unusedSimpArgs false
set_option maxRecDepth 100000
set_option maxHeartbeats 64000000
namespace Go.Proofs.YtbfojhfiemcnpaaGreatDoor.Av
namespace Wr
open Go Bt
theorem tY (w : List UInt8) : ∀ k, gX (w ++ List.replicate k 48) = gX w * 2 ^ k
 | 0 => by simp
 | k + 1 => by
  rw [List.replicate_succ', ← List.append_assoc, kg, tY w k, Int.pow_succ]
  have : (((48 : UInt8).toNat : Nat) : Int) = 48 := rfl
  have e : gX w * (2 ^ k * 2) = gX w * 2 ^ k * 2 := by rw [Int.mul_assoc]
  rw [this, e]
  generalize gX w * 2 ^ k = x at *
  omega
def gU (d : List UInt8) : UInt8 := UInt8.ofNat (gX (d ++ List.replicate (8 - d.length) 48)).toNat
theorem yn (w : List UInt8) : bR w = (List.range ((w.length + 7) / 8)).map fun t => gU ((w.drop (8 * t)).take 8) := by
 have h1 := kH w
 obtain ⟨p1, p2⟩ := kZ w.length
 have h2 : (eQ w).length / 8 = (w.length + 7) / 8 := by omega
 unfold bR pX
 rw [h2]
 apply List.map_congr_left
 intro t ht
 rw [List.mem_range] at ht
 unfold gU
 congr 2
 unfold eQ
 rw [List.drop_append, List.take_append]
 by_cases hl : 8 * (t + 1) ≤ w.length
 ·have e1 : ((w.drop (8 * t)).take 8).length = 8 := by rw [List.length_take, List.length_drop]; omega
  rw [e1, List.length_drop]
  rw [show 8 - (w.length - 8 * t) = 0 by omega]
  simp
 ·have e1 : (w.drop (8 * t)).take 8 = w.drop (8 * t) := List.take_of_length_le (by rw [List.length_drop]; omega)
  rw [e1, List.length_drop, show 8 * t - w.length = 0 by omega, List.drop_zero, List.take_replicate]
  congr 2
  congr 1
  omega
theorem ji (w : List UInt8) : (bR w).length = (w.length + 7) / 8 := by rw [yn]; simp
theorem lS (w : List UInt8) (t : Nat) (h : t < (w.length + 7) / 8) : (bR w)[t]? = some (gU ((w.drop (8 * t)).take 8)) := by
 rw [yn]; simp [h]
def je (w : List UInt8) : List UInt8 := w.drop (8 * (w.length / 8))
theorem CN (w : List UInt8) : (je w).length = w.length % 8 := by unfold je; rw [List.length_drop]; omega
theorem vp (w : List UInt8) (d : UInt8) (t : Nat) (h : t < w.length / 8) : (bR (w ++ [d]))[t]? = (bR w)[t]? := by
 rw [lS _ _ (by simp; omega), lS _ _ (by omega)]
 congr 2
 rw [List.drop_append_of_le_length (by omega), List.take_append_of_le_length (by rw [List.length_drop]; omega)]
theorem ym (w : List UInt8) (d : UInt8) (h : w.length % 8 = 0) : bR (w ++ [d]) = bR w ++ [gU [d]] := by
 apply List.ext_getElem?
 intro t
 have hl := ji w
 rcases Nat.lt_trichotomy t (w.length / 8) with h1 | h1 | h1
 ·rw [vp w d t h1, List.getElem?_append_left (by omega)]
 ·subst h1
  rw [lS _ _ (by simp; omega), List.getElem?_append_right (by omega), show w.length / 8 - (bR w).length = 0 by omega]
  have e : 8 * (w.length / 8) = w.length := by omega
  rw [e, List.drop_left]; rfl
 ·rw [List.getElem?_eq_none (by rw [ji]; simp; omega), List.getElem?_eq_none (by simp; omega)]
theorem yl (w : List UInt8) (d : UInt8) (h : w.length % 8 ≠ 0) : bR (w ++ [d]) = (bR w).set (w.length / 8) (gU (je w ++ [d])) := by
 have hl := ji w
 have hl2 := ji (w ++ [d])
 simp only [List.length_append, List.length_singleton] at hl2
 apply List.ext_getElem?
 intro t
 rcases Nat.lt_trichotomy t (w.length / 8) with h1 | h1 | h1
 ·rw [vp w d t h1, List.getElem?_set_ne (by omega)]
 ·subst h1
  rw [lS _ _ (by simp; omega), List.getElem?_set_self (by omega), List.drop_append_of_le_length (by omega), List.take_of_length_le (by simp; omega)]
  rfl
 ·rw [List.getElem?_eq_none (by omega), List.getElem?_eq_none (by simp; omega)]
theorem Aa (w : List UInt8) (h : w.length % 8 ≠ 0) : (bR w)[w.length / 8]? = some (gU (je w)) := by
 rw [lS _ _ (by omega), List.take_of_length_le (by rw [List.length_drop]; omega)]
 rfl
theorem CO (w : List UInt8) (h : w.all bq = true) : (je w).all bq = true := by
 rw [List.all_eq_true] at h ⊢
 exact fun x hx => h x (List.mem_of_mem_drop hx)
theorem vQ (d : List UInt8) (hd : d.all bq = true) (hl : d.length ≤ 8) : ((gU d).toNat : Int) = gX d * 2 ^ (8 - d.length) ∧ 0 ≤ gX d := by
 obtain ⟨b0, b1⟩ := BB d hd
 have e := tY d (8 - d.length)
 have hp : (0 : Int) < 2 ^ (8 - d.length) := Int.pow_pos (by decide)
 have h2 : gX d * 2 ^ (8 - d.length) < 256 := by
  have h3 : gX d * 2 ^ (8 - d.length) < 2 ^ d.length * 2 ^ (8 - d.length) := Int.mul_lt_mul_of_pos_right b1 hp
  rw [← Int.pow_add, show d.length + (8 - d.length) = 8 by omega] at h3
  exact h3
 have h4 : 0 ≤ gX d * 2 ^ (8 - d.length) := Int.mul_nonneg b0 (by omega)
 refine ⟨?_, b0⟩
 unfold gU
 rw [e]
 simp only [UInt8.toNat_ofNat', Nat.reducePow]
 generalize gX d * 2 ^ (8 - d.length) = x at *
 omega
theorem Ji (d : List UInt8) (hd : d.all bq = true) (hl : d.length < 8) : gU (d ++ [48]) = gU d := by
 unfold gU
 congr 2
 rw [List.append_assoc, List.length_append, List.length_singleton]
 congr 1
 rw [show 8 - d.length = (8 - (d.length + 1)) + 1 by omega, List.replicate_succ]; rfl
theorem Jh (d : List UInt8) (hd : d.all bq = true) (hl : d.length < 8) : ((gU d).toNat ||| 2 ^ (7 - d.length)) = (gU (d ++ [49])).toNat := by
 obtain ⟨v1, b1⟩ := vQ d hd (by omega)
 obtain ⟨v2, _⟩ := vQ (d ++ [49]) (by rw [List.all_append, hd]; rfl) (by rw [List.length_append]; simp; omega)
 rw [kg, List.length_append, List.length_singleton] at v2
 obtain ⟨n, hn⟩ := Int.eq_ofNat_of_zero_le b1
 rw [hn] at v1 v2
 have e49 : (((49 : UInt8).toNat : Nat) : Int) = 49 := rfl
 rw [e49] at v2
 have e1 : (gU d).toNat = 2 ^ (8 - d.length) * n := by
  have : ((2 ^ (8 - d.length) * n : Nat) : Int) = (n : Int) * 2 ^ (8 - d.length) := by rw [Int.natCast_mul, Int.natCast_pow, Int.mul_comm]; rfl
  rw [← this] at v1
  exact Int.ofNat.inj v1
 have e2 : (gU (d ++ [49])).toNat = (2 * n + 1) * 2 ^ (7 - d.length) := by
  have : (((2 * n + 1) * 2 ^ (7 - d.length) : Nat) : Int) = (2 * (n : Int) + (49 - 48)) * 2 ^ (8 - (d.length + 1)) := by
   rw [Int.natCast_mul, Int.natCast_pow, show 8 - (d.length + 1) = 7 - d.length by omega]
   congr 1
  rw [← this] at v2
  exact Int.ofNat.inj v2
 rw [e1, e2, ← Nat.two_pow_add_eq_or_of_lt (Nat.pow_lt_pow_right (by decide) (by omega))]
 rw [show 8 - d.length = (7 - d.length) + 1 by omega, Nat.pow_succ, Nat.add_mul, Nat.one_mul]
 congr 1
 rw [Nat.mul_comm (2 ^ (7 - d.length)) 2, Nat.mul_assoc, Nat.mul_assoc, Nat.mul_comm n]
end Wr
namespace Wr
open Go Bt
attribute [local irreducible] aa ACalls
variable {gl : List (Nat × List D)}
abbrev WO (w : List UInt8) : List aH := [.cells [.ms 1 (bg (bR w)).length, I w.length], .arr 5 1 (bg (bR w))]
def dgB (b : Bool) : UInt8 := if b = true then 49 else 48
theorem qK : ACalls (cxg gl) 17 [] [] (fun r H => r = .ptr 0 0 ∧ H = WO []) := by
 refine ACalls.enter Tryz.func17 rfl Tryz.ntmps17 (by kernel_rfl) rfl ?_; simp only [aB, nm, Nat.reduceAdd]
 repeat (first | refine aa.aD ?_ | refine aa.aY true ?_ | (refine aa.aP ?_; simp only [nm, nz, Nat.reduceAdd]) | (refine aa.bz ?_; simp only [nm, nz, Nat.reduceAdd, bS, dF, AV.unD]))
 apply aa.qY 0 0 5 1
 rfl; rfl
 (apply aa.xX 2; rfl; rfl; rfl; rfl; rfl)
 exact ⟨rfl, rfl⟩
theorem Ij (P : List UInt8) (i : Nat) (b : UInt8) (h : P[i]? = some b) : (bg P)[i]? = some (.int .u8 (b.toNat : Int)) := by simp [bg, h]
theorem Ii (P : List UInt8) (i : Nat) (b : UInt8) : (bg P).set i (.int .u8 (b.toNat : Int)) = bg (P.set i b) := by simp [bg, List.map_set]
theorem xg {es fs : List D} {m : Int} {n : Nat} (h : es = fs) (hm : m = n) (x : Nat) (hx : x = fs.length) : ([.cells [.ms 1 x, I m], .arr 5 1 es] : List aH) = [.cells [.ms 1 fs.length, I n], .arr 5 1 fs] := by rw [h, hm, hx]
theorem o48 : bg [gU [dgB false]] = [.int .u8 0] := rfl
theorem o49 : bg [gU [dgB true]] = [.int .u8 128] := rfl
theorem set_self {α : Type} {l : List α} {i : Nat} {x : α} (h : l[i]? = some x) : l.set i x = l := by
 apply List.ext_getElem?
 intro j
 by_cases hj : i = j
 ·subst hj; rw [List.getElem?_set_self (aF h), h]
 ·rw [List.getElem?_set_ne hj]
attribute [local irreducible] bg bR gU
theorem zn (w : List UInt8) (one : Bool) (hd : w.all bq = true) (hl : w.length ≤ 1000000000) : ACalls (cxg gl) 56 [.ptr 0 0, B one] (WO w) (fun r H => r = .bW [] ∧ H = WO (w ++ [dgB one])) := by
 have hP := ji w
 have hO := iC (bR w)
 unfold WO
 have hin : (w ++ [dgB one]).length = w.length + 1 := by simp
 by_cases h8 : w.length % 8 = 0
 ·have hs := ym w (dgB one) h8
  cases one
  ·have e : bg (bR w) ++ [.int .u8 0] = bg (bR (w ++ [dgB false])) := by rw [hs, jE, o48]
   refine ACalls.enter Tryz.func56 rfl Tryz.ntmps56 (by kernel_rfl) rfl ?_; simp only [aB, nm, Nat.reduceAdd]
   repeat' (first | refine aa.aD ?_ | ((first | apply aa.q true | apply aa.sq true); rfl; rfl; rfl; rfl; first | exact True.intro | omega | (simp only [tn, Int.reduceToNat]; omega) | (rw [hO, hP]; simp only [List.length_cons, List.length_nil]; omega)) | refine aa.bL ?_ | refine aa.ah ?_ | refine aa.af ?_ | refine aa.av ?_ | refine aa.ai ?_ | (refine aa.az ?_; simp only [nm, nz, Nat.reduceAdd]) | refine aa.aV ?_ | refine aa.jR ?_ | (apply aa.lm; (iterate 11 rfl); (first | rfl | (simp only [List.length_append, List.length_map, List.length_set, List.length_replicate, List.length_cons, List.length_nil]; omega) | (rw [hO, hP]; simp only [List.length_cons, List.length_nil]; omega)); (first | (simp only [List.length_append, List.length_map, List.length_cons, List.length_nil]; omega) | (rw [hO, hP]; simp only [List.length_cons, List.length_nil]; omega)); simp only [List.set_cons_zero, List.set_cons_succ]) | (apply aa.tK; (iterate 11 rfl); (first | rfl | (simp only [List.length_append, List.length_map, List.length_set, List.length_replicate, List.length_cons, List.length_nil]; omega) | (rw [hO, hP]; simp only [List.length_cons, List.length_nil]; omega)); rfl; (first | decide | exact Nat.le_of_ble_eq_true rfl | (dsimp only; omega) | decide +kernel | (rw [hO, hP]; simp only [List.length_cons, List.length_nil]; omega)); simp only [List.set_cons_zero, List.set_cons_succ]) | (apply aa.Ez; (first | (apply kE; (iterate 8 rfl); (first | rfl | (simp only [List.length_append, List.length_map, List.length_set, List.length_replicate, List.length_cons, List.length_nil]; omega) | (rw [hO, hP]; simp only [List.length_cons, List.length_nil]; omega)); (first | decide | exact Nat.le_of_ble_eq_true rfl | (dsimp only; omega) | decide +kernel | (rw [hO, hP]; simp only [List.length_cons, List.length_nil]; omega))) | (apply kY; rfl; rfl; rfl; rfl; (first | rfl | (simp only [List.length_append, List.length_map, List.length_set, List.length_replicate, List.length_cons, List.length_nil]; omega) | (rw [hO, hP]; simp only [List.length_cons, List.length_nil]; omega)); rfl; rfl)); rfl; rfl; rfl) | intro _)
   all_goals first | exact ⟨rfl, xg e (by simp) _ (by first | (rw [← e]; done) | rw [← e, List.length_set])⟩
  ·have m1 : (bg (bR w) ++ [.int .u8 0])[((w.length : Int) / 8).toNat]? = some (.int .u8 0) := by
    rw [List.getElem?_append_right (by omega), show ((w.length : Int) / 8).toNat - (bg (bR w)).length = 0 by omega]; rfl
   have ez : (7 - (w.length : Int) % 8) = 7 := by omega
   have e : (bg (bR w) ++ [D.int .u8 0]).set ((w.length : Int) / 8).toNat (D.int .u8 ((((0 : Int).toNat ||| (1 * 2 ^ (7 - (w.length : Int) % 8).toNat % 256 : Int).toNat : Nat)) : Int)) = bg (bR (w ++ [dgB true])) := by
    rw [hs, jE, List.set_append_right _ _ (by omega), show ((w.length : Int) / 8).toNat - (bg (bR w)).length = 0 by omega, ez, o49]; rfl
   refine ACalls.enter Tryz.func56 rfl Tryz.ntmps56 (by kernel_rfl) rfl ?_; simp only [aB, nm, Nat.reduceAdd]
   repeat' (first | refine aa.aD ?_ | ((first | apply aa.q true | apply aa.sq true); rfl; rfl; rfl; rfl; first | exact True.intro | omega | (simp only [tn, Int.reduceToNat]; omega) | (rw [hO, hP]; simp only [List.length_cons, List.length_nil]; omega) | (rw [List.length_append, hO, hP]; simp only [List.length_cons, List.length_nil]; omega) | (rw [ez]; decide)) | refine aa.bL ?_ | refine aa.ah ?_ | refine aa.af ?_ | refine aa.av ?_ | refine aa.ai ?_ | (refine aa.az ?_; simp only [nm, nz, Nat.reduceAdd]) | refine aa.aV ?_ | refine aa.jR ?_ | (apply aa.lm; (iterate 11 rfl); (first | rfl | (simp only [List.length_append, List.length_map, List.length_set, List.length_replicate, List.length_cons, List.length_nil]; omega) | (rw [hO, hP]; simp only [List.length_cons, List.length_nil]; omega) | (rw [List.length_append, hO, hP]; simp only [List.length_cons, List.length_nil]; omega) | (rw [ez]; decide)); (first | (simp only [List.length_append, List.length_map, List.length_cons, List.length_nil]; omega) | (rw [hO, hP]; simp only [List.length_cons, List.length_nil]; omega) | (rw [List.length_append, hO, hP]; simp only [List.length_cons, List.length_nil]; omega) | (rw [ez]; decide)); simp only [List.set_cons_zero, List.set_cons_succ]) | (apply aa.tK; (iterate 11 rfl); (first | rfl | (simp only [List.length_append, List.length_map, List.length_set, List.length_replicate, List.length_cons, List.length_nil]; omega) | (rw [hO, hP]; simp only [List.length_cons, List.length_nil]; omega) | (rw [List.length_append, hO, hP]; simp only [List.length_cons, List.length_nil]; omega) | (rw [ez]; decide)); (first | rfl | exact m1); (first | decide | exact Nat.le_of_ble_eq_true rfl | (dsimp only; omega) | decide +kernel | (rw [hO, hP]; simp only [List.length_cons, List.length_nil]; omega) | (rw [List.length_append, hO, hP]; simp only [List.length_cons, List.length_nil]; omega) | (rw [ez]; decide)); simp only [List.set_cons_zero, List.set_cons_succ]) | (apply aa.Ez; (first | (apply kE; (iterate 8 rfl); (first | rfl | (simp only [List.length_append, List.length_map, List.length_set, List.length_replicate, List.length_cons, List.length_nil]; omega) | (rw [hO, hP]; simp only [List.length_cons, List.length_nil]; omega) | (rw [List.length_append, hO, hP]; simp only [List.length_cons, List.length_nil]; omega) | (rw [ez]; decide)); (first | decide | exact Nat.le_of_ble_eq_true rfl | (dsimp only; omega) | decide +kernel | (rw [hO, hP]; simp only [List.length_cons, List.length_nil]; omega) | (rw [List.length_append, hO, hP]; simp only [List.length_cons, List.length_nil]; omega) | (rw [ez]; decide))) | (apply kY; rfl; rfl; rfl; rfl; (first | rfl | (simp only [List.length_append, List.length_map, List.length_set, List.length_replicate, List.length_cons, List.length_nil]; omega) | (rw [hO, hP]; simp only [List.length_cons, List.length_nil]; omega) | (rw [List.length_append, hO, hP]; simp only [List.length_cons, List.length_nil]; omega) | (rw [ez]; decide)); (first | rfl | exact m1); rfl)); rfl; rfl; rfl) | intro _)
   all_goals first | exact ⟨rfl, xg e (by simp) _ (by first | (rw [← e]; done) | rw [← e, List.length_set])⟩
 ·have hs := yl w (dgB one) h8
  have hlast := Aa w h8
  have hT := CN w
  have hTd := CO w hd
  have ei : ((w.length : Int) / 8).toNat = w.length / 8 := by omega
  cases one
  ·have e : bg (bR w) = bg (bR (w ++ [dgB false])) := by
    rw [hs]
    unfold dgB
    rw [if_neg (by decide), Ji _ hTd (by omega), set_self hlast]
   refine ACalls.enter Tryz.func56 rfl Tryz.ntmps56 (by kernel_rfl) rfl ?_; simp only [aB, nm, Nat.reduceAdd]
   repeat' (first | refine aa.aD ?_ | refine aa.aY true ?_ | refine aa.iy true ?_ | refine aa.bL ?_ | refine aa.ah ?_ | refine aa.af ?_ | refine aa.av ?_ | refine aa.ai ?_ | (refine aa.az ?_; simp only [nm, nz, Nat.reduceAdd]) | refine aa.aV ?_ | refine aa.jR ?_ | (apply aa.lm; (iterate 11 rfl); (first | rfl | (simp only [List.length_append, List.length_map, List.length_set, List.length_replicate, List.length_cons, List.length_nil]; omega)); ((simp only [List.length_append, List.length_map, List.length_cons, List.length_nil]; omega)); simp only [List.set_cons_zero, List.set_cons_succ]) | (refine aa.Es ?_; simp only [List.set_cons_zero, List.set_cons_succ]) | (apply aa.Ez; (first | (apply kE; (iterate 8 rfl); (first | rfl | (simp only [List.length_append, List.length_map, List.length_set, List.length_replicate, List.length_cons, List.length_nil]; omega)); (first | decide | exact Nat.le_of_ble_eq_true rfl | (dsimp only; omega) | decide +kernel)) | (apply kY; rfl; rfl; rfl; rfl; (first | rfl | (simp only [List.length_append, List.length_map, List.length_set, List.length_replicate, List.length_cons, List.length_nil]; omega)); rfl; rfl)); rfl; rfl; rfl) | intro _)
   all_goals first | exact ⟨rfl, xg e (by simp) _ (by first | (rw [← e]; done) | rw [← e, List.length_set])⟩
  ·have m1 : (bg (bR w))[((w.length : Int) / 8).toNat]? = some (.int .u8 ((gU (je w)).toNat : Int)) := by rw [ei]; exact Ij _ _ _ hlast
   have ez : (7 - (w.length : Int) % 8).toNat = 7 - (je w).length := by omega
   have hb1 := Jh (je w) hTd (by omega)
   have hv : (((((gU (je w)).toNat : Int).toNat ||| (1 * 2 ^ (7 - (w.length : Int) % 8).toNat % 256 : Int).toNat : Nat)) : Int) = ((gU (je w ++ [49])).toNat : Int) := by
    rw [ez, Int.toNat_natCast, ← hb1]
    have hpw : (2 : Nat) ^ (7 - (je w).length) < 256 := Nat.lt_of_le_of_lt (Nat.pow_le_pow_right (by decide) (Nat.sub_le 7 _)) (by decide)
    have : (1 * 2 ^ (7 - (je w).length) % 256 : Int).toNat = 2 ^ (7 - (je w).length) := by
     have hc : ((2 ^ (7 - (je w).length) : Nat) : Int) = (2 : Int) ^ (7 - (je w).length) := by simp
     rw [← hc]
     generalize (2 : Nat) ^ (7 - (je w).length) = z at *
     omega
    rw [this]
   have e : (bg (bR w)).set ((w.length : Int) / 8).toNat (D.int .u8 (((((gU (je w)).toNat : Int).toNat ||| (1 * 2 ^ (7 - (w.length : Int) % 8).toNat % 256 : Int).toNat : Nat)) : Int)) = bg (bR (w ++ [dgB true])) := by
    rw [hv, ei, Ii, hs]; rfl
   have hbd : ((gU (je w)).toNat : Int) ≤ 255 := by have := (gU (je w)).toNat_lt; omega
   refine ACalls.enter Tryz.func56 rfl Tryz.ntmps56 (by kernel_rfl) rfl ?_; simp only [aB, nm, Nat.reduceAdd]
   repeat' (first | refine aa.aD ?_ | ((first | apply aa.q true | apply aa.sq true); rfl; rfl; rfl; rfl; first | exact True.intro | omega | (simp only [tn, Int.reduceToNat]; omega) | (rw [hO, hP]; omega) | (exact ⟨by omega, by omega⟩)) | refine aa.bL ?_ | refine aa.ah ?_ | refine aa.af ?_ | refine aa.av ?_ | refine aa.ai ?_ | (refine aa.az ?_; simp only [nm, nz, Nat.reduceAdd]) | refine aa.aV ?_ | refine aa.jR ?_ | (apply aa.lm; (iterate 11 rfl); (first | rfl | (simp only [List.length_append, List.length_map, List.length_set, List.length_replicate, List.length_cons, List.length_nil]; omega) | (rw [hO, hP]; omega) | (exact ⟨by omega, by omega⟩)); (first | (simp only [List.length_append, List.length_map, List.length_cons, List.length_nil]; omega) | (rw [hO, hP]; omega) | (exact ⟨by omega, by omega⟩)); simp only [List.set_cons_zero, List.set_cons_succ]) | (apply aa.tK; (iterate 11 rfl); (first | rfl | (simp only [List.length_append, List.length_map, List.length_set, List.length_replicate, List.length_cons, List.length_nil]; omega) | (rw [hO, hP]; omega) | (exact ⟨by omega, by omega⟩)); (first | rfl | exact m1); (first | decide | exact Nat.le_of_ble_eq_true rfl | (dsimp only; omega) | decide +kernel | (rw [hO, hP]; omega) | (exact ⟨by omega, by omega⟩)); simp only [List.set_cons_zero, List.set_cons_succ]) | (apply aa.Ez; (first | (apply kE; (iterate 8 rfl); (first | rfl | (simp only [List.length_append, List.length_map, List.length_set, List.length_replicate, List.length_cons, List.length_nil]; omega) | (rw [hO, hP]; omega) | (exact ⟨by omega, by omega⟩)); (first | decide | exact Nat.le_of_ble_eq_true rfl | (dsimp only; omega) | decide +kernel | (rw [hO, hP]; omega) | (exact ⟨by omega, by omega⟩))) | (apply kY; rfl; rfl; rfl; rfl; (first | rfl | (simp only [List.length_append, List.length_map, List.length_set, List.length_replicate, List.length_cons, List.length_nil]; omega) | (rw [hO, hP]; omega) | (exact ⟨by omega, by omega⟩)); (first | rfl | exact m1); rfl)); rfl; rfl; rfl) | intro _)
   all_goals first | exact ⟨rfl, xg e (by simp) _ (by first | (rw [← e]; done) | rw [← e, List.length_set])⟩
end Wr
namespace Wr
open Go Bt
attribute [local irreducible] aa ACalls
variable {gl : List (Nat × List D)}
theorem Gy {α : Type} (l : List α) (i : Nat) (x : α) (h : l[i]? = some x) : l.drop i = x :: l.drop (i + 1) := yX l i x h
theorem Js (s : List UInt8) (h : s.all bq = true) {k : Nat} {b : UInt8} (hk : s[k]? = some b) : b = 48 ∨ b = 49 := jM (List.all_eq_true.1 h b (List.mem_of_getElem? hk))
theorem n48 : (((48 : UInt8).toNat : Nat) : Int) = 48 := rfl
theorem n49 : (((49 : UInt8).toNat : Nat) : Int) = 49 := rfl
theorem Fe (s : List UInt8) : ACalls (cxg gl) 55 [S s] [] (fun r H => r = B (s.all bq) ∧ H = []) := by
 refine ACalls.enter Tryz.func55 rfl Tryz.ntmps55 (by kernel_rfl) rfl ?_; simp only [aB, nm, Nat.reduceAdd]
 repeat (first | refine aa.aD ?_ | refine aa.aY true ?_ | refine aa.av ?_ | refine aa.ai ?_ | refine aa.aj ?_ | refine aa.aU ?_ | refine aa.fw ?_ | refine aa.eG ?_ | refine aa.aA ?_ | (refine aa.xY ?_; simp only [List.length_cons, List.length_nil, Nat.reduceAdd, List.cons_append, List.nil_append]))
 refine aa.weak (env' := [(6, .it 0), (2, B false)]) ⟨rfl, rfl, trivial⟩ ?_
 refine aa.loop (fun m env H => ∃ k : Nat, m = s.length - k ∧ k ≤ s.length ∧ (s.drop k).all bq = s.all bq ∧ env = [(6, .it 0), (2, B false)] ∧ H = [.siter ⟨s.toArray⟩ k]) s.length
  ⟨0, rfl, by omega, rfl, rfl, rfl⟩ ?_
 rintro m env H ⟨k, rfl, hk, hall, rfl, rfl⟩
 rcases Nat.lt_or_ge k s.length with hlt | hge
 ·obtain ⟨b, hb⟩ : ∃ b, s[k]? = some b := ⟨_, List.getElem?_eq_getElem hlt⟩
  rw [Gy s k b hb, List.all_cons] at hall
  by_cases h1 : 128 ≤ b.toNat
  ·have e : bq b = false := by
    cases he : bq b with
    | false => rfl
    | true => rcases jM he with rfl | rfl <;> simp at h1
   rw [e, Bool.false_and] at hall
   rw [← hall]
   repeat' (first | refine aa.aD ?_ | refine aa.aY true ?_ | refine aa.av ?_ | refine aa.ai ?_ | refine aa.aj ?_ | refine aa.aU ?_ | refine aa.fw ?_ | refine aa.eG ?_ | refine aa.aA ?_ | (apply aa.Md; (iterate 6 rfl); exact hb; exact h1; intro _ _ _ _; simp only [List.set_cons_zero, List.set_cons_succ]) | intro _ | refine aa.au ?_ | refine aa.aQ ?_ | refine aa.aI ?_)
   all_goals first | exact ⟨rfl, rfl⟩ | omega
  ·by_cases h8 : b = 48
   ·subst h8
    have hall' : (s.drop (k + 1)).all bq = s.all bq := by rw [← hall]; rfl
    repeat' (first | refine aa.aD ?_ | refine aa.aY true ?_ | refine aa.av ?_ | refine aa.ai ?_ | refine aa.aj ?_ | refine aa.aU ?_ | refine aa.fw ?_ | refine aa.eG ?_ | refine aa.aA ?_ | (apply aa.yw; (iterate 6 rfl); exact hb; exact (by decide); exact n48; simp only [List.set_cons_zero, List.set_cons_succ]) | intro _ | refine aa.au ?_ | refine aa.aQ ?_ | refine aa.aI ?_)
    exact aa.round [(6, .it 0), (2, B false)] (s.length - (k + 1)) (by omega) ⟨rfl, rfl, trivial⟩ ⟨k + 1, rfl, hlt, hall', rfl, rfl⟩
   ·by_cases h9 : b = 49
    ·subst h9
     have hall' : (s.drop (k + 1)).all bq = s.all bq := by rw [← hall]; rfl
     repeat' (first | refine aa.aD ?_ | refine aa.aY true ?_ | refine aa.av ?_ | refine aa.ai ?_ | refine aa.aj ?_ | refine aa.aU ?_ | refine aa.fw ?_ | refine aa.eG ?_ | refine aa.aA ?_ | (apply aa.yw; (iterate 6 rfl); exact hb; exact (by decide); exact n49; simp only [List.set_cons_zero, List.set_cons_succ]) | intro _ | refine aa.au ?_ | refine aa.aQ ?_ | refine aa.aI ?_)
     exact aa.round [(6, .it 0), (2, B false)] (s.length - (k + 1)) (by omega) ⟨rfl, rfl, trivial⟩ ⟨k + 1, rfl, hlt, hall', rfl, rfl⟩
    ·have e1 : (b.toNat : Int) ≠ 48 := fun h => h8 ((pF (c := b) (n := 48) (by omega)).1 h)
     have e2 : (b.toNat : Int) ≠ 49 := fun h => h9 ((pF (c := b) (n := 49) (by omega)).1 h)
     have e3 : bq b = false := by simp [bq, h8, h9]
     rw [e3, Bool.false_and] at hall
     rw [← hall]
     have hlt8 : b.toNat < 128 := by omega
     repeat' (first | refine aa.aD ?_ | refine aa.aY true ?_ | refine aa.av ?_ | refine aa.ai ?_ | refine aa.aj ?_ | refine aa.aU ?_ | refine aa.fw ?_ | refine aa.eG ?_ | refine aa.aA ?_ | (apply aa.yw; (iterate 6 rfl); exact hb; exact hlt8; exact rfl; simp only [List.set_cons_zero, List.set_cons_succ]) | intro _ | refine aa.au ?_ | refine aa.aQ ?_ | refine aa.aI ?_)
     all_goals first | exact ⟨rfl, rfl⟩ | omega
 ·obtain rfl : k = s.length := by omega
  rw [List.drop_length] at hall
  rw [← hall]
  have hsz : (⟨s.toArray⟩ : ByteArray).size ≤ s.length := Nat.le_of_eq (Cu s)
  repeat' (first | refine aa.aD ?_ | refine aa.aY true ?_ | refine aa.av ?_ | refine aa.ai ?_ | refine aa.aj ?_ | refine aa.aU ?_ | refine aa.fw ?_ | refine aa.eG ?_ | refine aa.aA ?_ | (apply aa.BC; (iterate 6 rfl); exact hsz) | intro _ | refine aa.au ?_ | refine aa.aQ ?_ | refine aa.aI ?_)
  all_goals first | exact ⟨rfl, rfl⟩
theorem K6 (x : Int) (hx : 0 ≤ x) : dgB (decide (((x.toNat &&& (1 : Int).toNat : Nat) : Int) = 1)) = dg x := by
 have h : (x.toNat &&& (1 : Int).toNat) = x.toNat % 2 := Nat.and_one_is_mod _
 rw [h]
 have : x % 2 = 0 ∨ x % 2 = 1 := by omega
 unfold dg dgB
 rcases this with h2 | h2
 ·rw [if_neg (by rw [decide_eq_true_eq]; omega), h2]; rfl
 ·rw [if_pos (by rw [decide_eq_true_eq]; omega), h2]; rfl
theorem K5 (x : Int) : bq (dg x) = true := by
 have : x % 2 = 0 ∨ x % 2 = 1 := by omega
 unfold dg
 rcases this with h | h <;> rw [h] <;> decide
theorem iM (v : Int) (n k : Nat) : (bI v n k).all bq = true := by
 unfold bI
 rw [List.all_eq_true]
 intro x hx
 obtain ⟨j, _, rfl⟩ := List.mem_map.1 hx
 exact K5 _
attribute [local irreducible] bg bR bI dg
theorem qJ (w : List UInt8) (v : Int) (n : Nat) (hd : w.all bq = true) (hl : w.length ≤ 100000000) (hn : n ≤ 32) (hv : 0 ≤ v ∧ v < 2 ^ n) :
  ACalls (cxg gl) 53 [.ptr 0 0, I v, I n] (WO w) (fun r H => r = I 0 ∧ H = WO (w ++ bI v n n)) := by
 have hf := Gl (gl := gl) v n hn hv
 have hp32 := tX hn
 have e0 : bI v n 0 = [] := List.eq_nil_of_length_eq_zero (dA v n 0)
 refine ACalls.enter Tryz.func53 rfl Tryz.ntmps53 (by kernel_rfl) rfl ?_; simp only [aB, nm, Nat.reduceAdd]
 repeat (first | refine aa.aD ?_ | refine aa.aY true ?_ | refine aa.ak (hf) ?_ | refine aa.ah ?_ | refine aa.af ?_ | refine aa.ai ?_ | refine aa.aj ?_)
 refine aa.weak (env' := [(7, I ((n : Int) - 1)), (1, I v), (0, .ptr 0 0)]) ⟨rfl, rfl, rfl, trivial⟩ ?_
 refine aa.loop (fun m env H => ∃ k : Nat, m = n - k ∧ k ≤ n ∧ env = [(7, I ((n : Int) - 1 - k)), (1, I v), (0, .ptr 0 0)] ∧ H = WO (w ++ bI v n k)) n
  ⟨0, rfl, by omega, by simp, by rw [e0, List.append_nil]⟩ ?_
 rintro m env H ⟨k, rfl, hk, rfl, rfl⟩
 rcases Nat.lt_or_ge k n with hlt | hge
 ·have hx : 0 ≤ v / 2 ^ ((n : Int) - 1 - k).toNat ∧ v / 2 ^ ((n : Int) - 1 - k).toNat ≤ 4294967296 := by
   have h2 := pV ((n : Int) - 1 - k).toNat
   exact ⟨Int.ediv_nonneg hv.1 (by omega), Int.le_trans (Int.ediv_le_self _ hv.1) (by omega)⟩
  have hdk := dA v n k
  have hb := zn (gl := gl) (w ++ bI v n k) (decide ((((v / 2 ^ ((n : Int) - 1 - k).toNat).toNat &&& (1 : Int).toNat : Nat) : Int) = 1)) (by rw [List.all_append, hd, iM]; rfl) (by rw [List.length_append, hdk]; omega)
  rw [K6 _ hx.1, List.append_assoc, show ((n : Int) - 1 - k).toNat = n - 1 - k by omega, ← nY, ← show ((n : Int) - 1 - k).toNat = n - 1 - k by omega] at hb
  repeat' (first | refine aa.aD ?_ | refine aa.aY true ?_ | (refine aa.ae [0,1] ( hb) ?_; simp only [ny, nh, Nat.reduceAdd, Nat.reduceSub]) | refine aa.ah ?_ | refine aa.af ?_ | refine aa.ai ?_ | refine aa.aj ?_ | intro _ | refine aa.au ?_ | refine aa.aI ?_)
  all_goals first | exact aa.round [(7, I ((n : Int) - 1 - ((k + 1 : Nat) : Int))), (1, I v), (0, .ptr 0 0)] (n - (k + 1)) (by omega) ⟨congrArg I (by omega), rfl, rfl, trivial⟩ ⟨k + 1, rfl, hlt, rfl, rfl⟩ | omega
 ·obtain rfl : k = n := by omega
  repeat' (first | refine aa.aD ?_ | refine aa.aY true ?_ | refine aa.ah ?_ | refine aa.af ?_ | refine aa.ai ?_ | refine aa.aj ?_ | intro _ | refine aa.au ?_ | refine aa.aI ?_)
  all_goals first | exact ⟨rfl, rfl⟩ | omega
theorem qL (w s : List UInt8) (hd : w.all bq = true) (hs : s.all bq = true) (hl : w.length + s.length ≤ 100000000) :
  ACalls (cxg gl) 22 [.ptr 0 0, S s] (WO w) (fun r H => r = I 0 ∧ H = WO (w ++ s)) := by
 have hp := Fe (gl := gl) s
 rw [hs] at hp
 refine ACalls.enter Tryz.func22 rfl Tryz.ntmps22 (by kernel_rfl) rfl ?_; simp only [aB, nm, Nat.reduceAdd]
 repeat (first | refine aa.aD ?_ | refine aa.aY true ?_ | refine aa.ak (hp) ?_ | refine aa.av ?_ | refine aa.ai ?_ | refine aa.aj ?_ | (refine aa.xY ?_; simp only [List.length_cons, List.length_nil, Nat.reduceAdd, List.cons_append, List.nil_append]))
 refine aa.weak (env' := [(15, .it 2), (0, .ptr 0 0)]) ⟨rfl, rfl, trivial⟩ ?_
 refine aa.loop (fun m env H => ∃ k : Nat, m = s.length - k ∧ k ≤ s.length ∧ env = [(15, .it 2), (0, .ptr 0 0)] ∧ H = [.cells [.ms 1 (bg (bR (w ++ s.take k))).length, I (w ++ s.take k).length], .arr 5 1 (bg (bR (w ++ s.take k))), .siter ⟨s.toArray⟩ k]) s.length
  ⟨0, rfl, by omega, rfl, by simp⟩ ?_
 rintro m env H ⟨k, rfl, hk, rfl, rfl⟩
 have hwd : (w ++ s.take k).all bq = true := by
  rw [List.all_append, hd, Bool.true_and, List.all_eq_true]
  exact fun x hx => List.all_eq_true.1 hs x (List.mem_of_mem_take hx)
 rcases Nat.lt_or_ge k s.length with hlt | hge
 ·obtain ⟨b, hb⟩ : ∃ b, s[k]? = some b := ⟨_, List.getElem?_eq_getElem hlt⟩
  have ht : w ++ s.take (k + 1) = w ++ s.take k ++ [b] := by rw [List.take_add_one, hb, List.append_assoc]; rfl
  have hwl : (w ++ s.take k).length ≤ 1000000000 := by rw [List.length_append, List.length_take]; omega
  rcases Js s hs hb with rfl | rfl
  ·have hbit := zn (gl := gl) (w ++ s.take k) false hwd hwl
   rw [show dgB false = 48 from rfl, ← ht] at hbit
   repeat' (first | refine aa.aD ?_ | refine aa.aY true ?_ | (refine aa.ae [0,1] ( hbit) ?_; simp only [ny, nh, Nat.reduceAdd, Nat.reduceSub]) | refine aa.av ?_ | refine aa.ai ?_ | refine aa.aj ?_ | (apply aa.yw; (iterate 6 rfl); exact hb; exact (by decide); exact n48; simp only [List.set_cons_zero, List.set_cons_succ]) | intro _ | refine aa.au ?_ | refine aa.aI ?_)
   all_goals first | exact aa.round [(15, .it 2), (0, .ptr 0 0)] (s.length - (k + 1)) (by omega) ⟨rfl, rfl, trivial⟩ ⟨k + 1, rfl, hlt, rfl, rfl⟩
  ·have hbit := zn (gl := gl) (w ++ s.take k) true hwd hwl
   rw [show dgB true = 49 from rfl, ← ht] at hbit
   repeat' (first | refine aa.aD ?_ | refine aa.aY true ?_ | (refine aa.ae [0,1] ( hbit) ?_; simp only [ny, nh, Nat.reduceAdd, Nat.reduceSub]) | refine aa.av ?_ | refine aa.ai ?_ | refine aa.aj ?_ | (apply aa.yw; (iterate 6 rfl); exact hb; exact (by decide); exact n49; simp only [List.set_cons_zero, List.set_cons_succ]) | intro _ | refine aa.au ?_ | refine aa.aI ?_)
   all_goals first | exact aa.round [(15, .it 2), (0, .ptr 0 0)] (s.length - (k + 1)) (by omega) ⟨rfl, rfl, trivial⟩ ⟨k + 1, rfl, hlt, rfl, rfl⟩
 ·obtain rfl : k = s.length := by omega
  rw [List.take_length]
  have hsz : (⟨s.toArray⟩ : ByteArray).size ≤ s.length := Nat.le_of_eq (Cu s)
  repeat' (first | refine aa.aD ?_ | refine aa.aY true ?_ | refine aa.av ?_ | refine aa.ai ?_ | refine aa.aj ?_ | (apply aa.BC; (iterate 6 rfl); exact hsz) | intro _ | refine aa.au ?_ | refine aa.aI ?_)
  all_goals first | exact ⟨rfl, rfl⟩
theorem zB (w : List UInt8) : ACalls (cxg gl) 19 [.ptr 0 0] (WO w) (fun r H => r = I w.length ∧ H = WO w) := by
 refine ACalls.enter Tryz.func19 rfl Tryz.ntmps19 (by kernel_rfl) rfl ?_; simp only [aB, nm, Nat.reduceAdd]
 repeat' (first | refine aa.aD ?_ | refine aa.aY true ?_ | refine aa.ai ?_ | intro _ | refine aa.au ?_)
 all_goals first | exact ⟨rfl, rfl⟩
theorem Ht (w : List UInt8) : ACalls (cxg gl) 20 [.ptr 0 0] (WO w) (fun r H => r = S (bR w) ∧ H = WO w) := by
 refine ACalls.enter Tryz.func20 rfl Tryz.ntmps20 (by kernel_rfl) rfl ?_; simp only [aB, nm, Nat.reduceAdd]
 repeat' (first | refine aa.aD ?_ | refine aa.aY true ?_ | refine aa.ai ?_ | (apply aa.opx; ((apply zS; (iterate 9 rfl); (first | rfl | (simp only [List.length_append, List.length_map, List.length_set, List.length_replicate, List.length_cons, List.length_nil]; omega)); rfl)); rfl; rfl; rfl) | intro _ | refine aa.au ?_)
 all_goals first | exact ⟨rfl, rfl⟩
end Wr
end Go.Proofs.YtbfojhfiemcnpaaGreatDoor.Av
