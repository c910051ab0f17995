/- The reference's rows of events. The reference's Row of an event. The program's rows of events: many, place. The program's rows of events: Row; it agrees with the reference's. -/
import Derived.Test.YtbfojhfiemcnpaaGreatDoorPt1
set_option linter.unusedVariables false
set_option linter.unusedSimpArgs false
set_option maxRecDepth 100000
set_option maxHeartbeats 64000000
namespace Go.Proofs.YtbfojhfiemcnpaaGreatDoor.Av
namespace Tc
open Go Bt
attribute [local irreducible] aa ACalls
variable {gl : List (Nat × List D)}
def BH : List (List UInt8) := [[49, 48, 32, 49, 49, 49, 49, 32, 48, 49, 48, 49, 48, 49, 32, 48, 48, 49, 48, 49, 49, 49, 32, 48, 48, 48, 49, 49, 49, 49, 49, 32, 48, 48, 48, 49, 48, 48, 49, 48, 49, 32, 48, 48, 48, 49, 48, 48, 49, 48, 48, 32, 48, 48, 48, 48, 49, 48, 48, 48, 48, 49, 32, 48, 48, 48, 48, 49, 48, 48, 48, 48, 48, 32, 48, 48, 48, 48, 48, 48, 48, 48, 49, 49, 49, 32, 48, 48, 48, 48, 48, 48, 48, 48, 49, 49, 48, 32, 48, 48, 48, 48, 48, 49, 48, 48, 48, 48, 48], [49, 49, 48, 32, 48, 49, 48, 49, 48, 48, 32, 48, 48, 48, 49, 49, 49, 49, 48, 32, 48, 48, 48, 48, 48, 48, 49, 49, 49, 49, 32, 48, 48, 48, 48, 48, 49, 48, 48, 48, 48, 49, 32, 48, 48, 48, 48, 48, 49, 48, 49, 48, 48, 48, 48], [49, 49, 49, 48, 32, 48, 48, 48, 49, 49, 49, 48, 49, 32, 48, 48, 48, 48, 48, 48, 49, 49, 49, 48, 32, 48, 48, 48, 48, 48, 49, 48, 49, 48, 48, 48, 49], [48, 49, 49, 48, 49, 32, 48, 48, 48, 49, 48, 48, 48, 49, 49, 32, 48, 48, 48, 48, 48, 48, 49, 49, 48, 49], [48, 49, 49, 48, 48, 32, 48, 48, 48, 49, 48, 48, 48, 49, 48, 32, 48, 48, 48, 48, 48, 49, 48, 49, 48, 48, 49, 48], [48, 49, 48, 49, 49, 32, 48, 48, 48, 48, 48, 48, 49, 49, 48, 48, 32, 48, 48, 48, 48, 48, 49, 48, 49, 48, 48, 49, 49], [48, 49, 48, 48, 49, 49, 32, 48, 48, 48, 48, 48, 48, 49, 48, 49, 49, 32, 48, 48, 48, 48, 48, 49, 48, 49, 48, 49, 48, 48], [48, 49, 48, 48, 49, 48, 32, 48, 48, 48, 48, 48, 48, 49, 48, 49, 48], [48, 49, 48, 48, 48, 49, 32, 48, 48, 48, 48, 48, 48, 49, 48, 48, 49], [48, 49, 48, 48, 48, 48, 32, 48, 48, 48, 48, 48, 48, 49, 48, 48, 48], [48, 48, 49, 48, 49, 49, 48, 32, 48, 48, 48, 48, 48, 49, 48, 49, 48, 49, 48, 49], [48, 48, 49, 48, 49, 48, 49], [48, 48, 49, 48, 49, 48, 48], [48, 48, 48, 49, 49, 49, 48, 48], [48, 48, 48, 49, 49, 48, 49, 49], [48, 48, 48, 49, 48, 48, 48, 48, 49], [48, 48, 48, 49, 48, 48, 48, 48, 48], [48, 48, 48, 48, 49, 49, 49, 49, 49], [48, 48, 48, 48, 49, 49, 49, 49, 48], [48, 48, 48, 48, 49, 49, 49, 48, 49], [48, 48, 48, 48, 49, 49, 49, 48, 48], [48, 48, 48, 48, 49, 49, 48, 49, 49], [48, 48, 48, 48, 49, 49, 48, 49, 48], [48, 48, 48, 48, 48, 49, 48, 48, 48, 49, 48], [48, 48, 48, 48, 48, 49, 48, 48, 48, 49, 49], [48, 48, 48, 48, 48, 49, 48, 49, 48, 49, 49, 48], [48, 48, 48, 48, 48, 49, 48, 49, 48, 49, 49, 49]]
def DY : List (List UInt8) := [[48, 49, 49, 49, 32, 48, 48, 48, 48, 49, 49, 48, 48, 49, 32, 48, 48, 48, 48, 48, 48, 48, 48, 49, 48, 49], [48, 48, 49, 49, 49, 49, 32, 48, 48, 48, 48, 48, 48, 48, 48, 49, 48, 48], [48, 48, 49, 49, 49, 48], [48, 48, 49, 49, 48, 49], [48, 48, 49, 49, 48, 48], [48, 48, 49, 48, 48, 49, 49], [48, 48, 49, 48, 48, 49, 48], [48, 48, 49, 48, 48, 48, 49], [48, 48, 49, 48, 48, 48, 48], [48, 48, 48, 49, 49, 48, 49, 48], [48, 48, 48, 49, 49, 48, 48, 49], [48, 48, 48, 49, 49, 48, 48, 48], [48, 48, 48, 49, 48, 49, 49, 49], [48, 48, 48, 49, 48, 49, 49, 48], [48, 48, 48, 49, 48, 49, 48, 49], [48, 48, 48, 49, 48, 49, 48, 48], [48, 48, 48, 49, 48, 48, 49, 49], [48, 48, 48, 48, 49, 49, 48, 48, 48], [48, 48, 48, 48, 49, 48, 49, 49, 49], [48, 48, 48, 48, 49, 48, 49, 49, 48], [48, 48, 48, 48, 49, 48, 49, 48, 49], [48, 48, 48, 48, 49, 48, 49, 48, 48], [48, 48, 48, 48, 49, 48, 48, 49, 49], [48, 48, 48, 48, 49, 48, 48, 49, 48], [48, 48, 48, 48, 49, 48, 48, 48, 49], [48, 48, 48, 48, 48, 48, 48, 49, 49, 49], [48, 48, 48, 48, 48, 48, 48, 49, 49, 48], [48, 48, 48, 48, 48, 48, 48, 49, 48, 49], [48, 48, 48, 48, 48, 48, 48, 49, 48, 48], [48, 48, 48, 48, 48, 49, 48, 48, 49, 48, 48], [48, 48, 48, 48, 48, 49, 48, 48, 49, 48, 49], [48, 48, 48, 48, 48, 49, 48, 48, 49, 49, 48], [48, 48, 48, 48, 48, 49, 48, 48, 49, 49, 49], [48, 48, 48, 48, 48, 49, 48, 49, 49, 48, 48, 48], [48, 48, 48, 48, 48, 49, 48, 49, 49, 48, 48, 49], [48, 48, 48, 48, 48, 49, 48, 49, 49, 48, 49, 48], [48, 48, 48, 48, 48, 49, 48, 49, 49, 48, 49, 49], [48, 48, 48, 48, 48, 49, 48, 49, 49, 49, 48, 48], [48, 48, 48, 48, 48, 49, 48, 49, 49, 49, 48, 49], [48, 48, 48, 48, 48, 49, 48, 49, 49, 49, 49, 48], [48, 48, 48, 48, 48, 49, 48, 49, 49, 49, 49, 49]]
def Ji (la : Bool) : List (List UInt8) := if la = true then DY else BH
def mi (la : Bool) (ru : Int) : List (List UInt8) := if (Ji la).length ≤ ru.toNat then [] else qG ((Ji la).getD ru.toNat [])
def jZ (la : Bool) (ru am : Int) : List UInt8 := if ((mi la ru).length : Int) < am then [] else (mi la ru).getD (am - 1).toNat []
def tY (n : Int) : List UInt8 := if n < 0 then [49] else [48]
def kR (n : Int) : Int := if n < 0 then -n else n
def wD (la : Bool) : List UInt8 := if la = true then [49] else [48]
def dE (e : Ev) : List UInt8 := if evR e = true then
    (if jZ e.last e.run (kR e.level) ≠ [] then jZ e.last e.run (kR e.level) ++ tY e.level
     else (([48, 48, 48, 48, 48, 49, 49] ++ wD e.last) ++ bv e.run 6 6) ++ bv (if e.level < 0 then 256 + e.level else e.level) 8 8)
  else []
attribute [local irreducible] gM qG BH DY
attribute [local irreducible] mi
end Tc
namespace Tc
open Go Bt
attribute [local irreducible] aa ACalls
variable {gl : List (Nat × List D)}
theorem zP {n : Int} (h : n ≠ 0 ∧ -127 ≤ n ∧ n ≤ 127) : 1 ≤ kR n ∧ kR n ≤ 127 := by unfold kR; split <;> omega
theorem vB (n : Int) : (tY n).length = 1 := by unfold tY; split <;> rfl
theorem zS : ∀ la : Bool, ∀ ru : _root_.Fin 64, ∀ w ∈ mi la ru.val, w.length ≤ 12 := by decide +kernel
theorem Dv (la : Bool) (ru am : Int) (h : 0 ≤ ru ∧ ru ≤ 63) : (jZ la ru am).length ≤ 12 := by
 unfold jZ
 split
 ·simp
 ·rename_i hm
  rw [List.getD_eq_getElem?_getD]
  cases hx : (mi la ru)[(am - 1).toNat]? with
  | none => simp
  | some w =>
   have := zS la ⟨ru.toNat, by omega⟩ w
   simp only at this
   rw [show ((ru.toNat : Nat) : Int) = ru by omega] at this
   exact this (List.mem_of_getElem? hx)
attribute [local irreducible] gM qG BH DY mi jZ bv
end Tc
namespace Tc
open Go Bt
attribute [local irreducible] aa ACalls
variable {gl : List (Nat × List D)}
noncomputable abbrev gtc : List (Nat × List D) := [(1, gl1), (2, gl2)]
def cW (la : Bool) (ru : Int) : Int := if la = true then (if ru = 0 then 3 else if ru = 1 then 2 else if ru ≤ 40 then 1 else 0)
 else (if ru = 0 then 12 else if ru = 1 then 6 else if ru = 2 then 4 else if ru ≤ 6 then 3 else if ru ≤ 10 then 2 else if ru ≤ 26 then 1 else 0)
def eQ (la : Bool) : Nat → Int
 | 0 => 0
 | n + 1 => eQ la n + cW la n
def nU (la : Bool) : Int := if la = true then eQ false 63 else 0
def bO (la : Bool) (ru am : Int) : Int := if cW la ru < am then -1 else nU la + eQ la ru.toNat + am - 1
theorem fK (la : Bool) (ru : Int) : 0 ≤ cW la ru ∧ cW la ru ≤ 12 := by unfold cW; repeat' split; all_goals omega
theorem jr (la : Bool) : ∀ n, 0 ≤ eQ la n ∧ eQ la n ≤ 12 * n
 | 0 => by simp [eQ]
 | n + 1 => by have := jr la n; have := fK la n; simp only [eQ]; omega
theorem rz (la : Bool) (ru : Int) : ACalls (cxg gl) 153 [B la, I ru] [] (fun r H => r = I (cW la ru) ∧ H = []) := by
 cases la
 all_goals
  refine ACalls.enter Tryz.func153 rfl Tryz.ntmps153 (by kernel_rfl) rfl ?_; simp only [au, nm, Nat.reduceAdd]
  repeat' (first | (apply aa.st; rfl) | (apply aa.q true; rfl; rfl; rfl; rfl; first | exact True.intro | omega | (simp only [tn, Int.reduceToNat]; omega)) | (apply aa.aB; rfl) | (apply aa.ak; rfl) | (apply aa.aj; rfl; rfl) | (apply aa.az; rfl; rfl; rfl) | intro _ | (apply aa.dw ; rfl) | (apply aa.aC; rfl; rfl; rfl; rfl))
  all_goals refine ⟨congrArg I ?_, rfl⟩
  all_goals unfold cW
  all_goals simp only [Bool.false_eq_true, if_false, if_true]
  all_goals repeat' split
  all_goals first | rfl | omega | (simp only [bT] at *; omega)
attribute [local irreducible] cW
theorem jP (la : Bool) (n : Nat) : eQ la (n + 1) = eQ la n + cW la n := rfl
theorem BI (la : Bool) : eQ la 0 = 0 := rfl
attribute [local irreducible] eQ
theorem yT (la : Bool) (ru am : Int) (hr : 0 ≤ ru ∧ ru ≤ 63) (ha : 1 ≤ am ∧ am ≤ 127) : ACalls (cxg gl) 142 [B la, I ru, I am] [] (fun r H => r = I (bO la ru am) ∧ H = []) := by
 have hm := rz (gl := gl) la ru
 have hb := fK la ru
 unfold bO
 by_cases h : cW la ru < am
 ·rw [if_pos h]
  refine ACalls.enter Tryz.func142 rfl Tryz.ntmps142 (by kernel_rfl) rfl ?_; simp only [au, nm, Nat.reduceAdd]
  repeat' (first | (apply aa.st; rfl) | (apply aa.q true; rfl; rfl; rfl; rfl; first | exact True.intro | omega | (simp only [tn, Int.reduceToNat]; omega)) | (apply aa.aA (hm); (iterate 6 rfl)) | (apply aa.af; rfl; first | omega | rfl) | (apply aa.ae; rfl; omega) | (apply aa.aB; rfl) | (apply aa.ak; rfl) | intro _ | (apply aa.aC; rfl; rfl; rfl; rfl) | (apply aa.aP; rfl; rfl))
  all_goals first | exact ⟨rfl, rfl⟩ | omega
 ·rw [if_neg h]
  unfold nU
  obtain ⟨n, rfl⟩ := Int.eq_ofNat_of_zero_le hr.1
  rw [Int.toNat_natCast]
  have s0 : ∀ la, eQ la 0 = 0 := fun la => BI la
  have hq := jr false 63
  cases la
  ·refine ACalls.enter Tryz.func142 rfl Tryz.ntmps142 (by kernel_rfl) rfl ?_; simp only [au, nm, Nat.reduceAdd]
   repeat (first | (apply aa.st; rfl) | (apply aa.q true; rfl; rfl; rfl; rfl; first | exact True.intro | omega | (simp only [tn, Int.reduceToNat]; omega)) | (apply aa.aA (hm); (iterate 6 rfl)) | (apply aa.af; rfl; first | omega | rfl) | (apply aa.ae; rfl; omega) | (apply aa.aB; rfl) | (apply aa.ak; rfl))
   refine aa.weak (env' := [(25, I ((0 : Nat) : Int)), (24, I (n : Int)), (7, I 0), (0, B false), (2, I am)]) ⟨rfl, rfl, rfl, rfl, rfl, trivial⟩ ?_
   refine aa.loop (fun m env H => ∃ k : Nat, m = n - k ∧ k ≤ n ∧ env = [(25, I (k : Int)), (24, I (n : Int)), (7, I (0 + eQ false k)), (0, B false), (2, I am)] ∧ H = []) n
    ⟨0, rfl, by omega, by simp only [s0, Int.add_zero], rfl⟩ ?_
   rintro m env H ⟨k, rfl, hk, rfl, rfl⟩
   have hs := jr false k
   have hmk := rz (gl := gl) false k
   have hbk := fK false k
   have e1 := jP false k
   rcases Nat.lt_or_ge k n with hlt | hge
   ·repeat' (first | (apply aa.st; rfl) | (apply aa.q true; rfl; rfl; rfl; rfl; first | exact True.intro | omega | (simp only [tn, Int.reduceToNat]; omega)) | (apply aa.aA (hmk); (iterate 6 rfl)) | (apply aa.af; rfl; first | omega | rfl) | (apply aa.ae; rfl; omega) | (apply aa.aB; rfl) | (apply aa.ak; rfl) | intro _ | (apply aa.aC; rfl; rfl; rfl; rfl) | (apply aa.aP; rfl; rfl))
    all_goals first | exact aa.round [(25, I ((k + 1 : Nat) : Int)), (24, I (n : Int)), (7, I (0 + eQ false (k + 1))), (0, B false), (2, I am)] (n - (k + 1)) (by omega) ⟨rfl, rfl, congrArg I (by rw [e1]; omega), rfl, rfl, trivial⟩ ⟨k + 1, rfl, hlt, rfl, rfl⟩
   ·obtain rfl : k = n := by omega
    repeat' (first | (apply aa.st; rfl) | (apply aa.q true; rfl; rfl; rfl; rfl; first | exact True.intro | omega | (simp only [tn, Int.reduceToNat]; omega)) | (apply aa.af; rfl; first | omega | rfl) | (apply aa.ae; rfl; omega) | (apply aa.aB; rfl) | (apply aa.ak; rfl) | intro _ | (apply aa.aC; rfl; rfl; rfl; rfl) | (apply aa.aP; rfl; rfl))
    all_goals first | exact ⟨congrArg I (by simp; omega), rfl⟩ | exact ⟨rfl, rfl⟩
  ·refine ACalls.enter Tryz.func142 rfl Tryz.ntmps142 (by kernel_rfl) rfl ?_; simp only [au, nm, Nat.reduceAdd]
   repeat (first | (apply aa.st; rfl) | (apply aa.q true; rfl; rfl; rfl; rfl; first | exact True.intro | omega | (simp only [tn, Int.reduceToNat]; omega)) | (apply aa.aA (hm); (iterate 6 rfl)) | (apply aa.af; rfl; first | omega | rfl) | (apply aa.ae; rfl; omega) | (apply aa.aB; rfl) | (apply aa.ak; rfl))
   refine aa.weak (env' := [(16, I ((0 : Nat) : Int)), (7, I 0), (0, B true), (1, I (n : Int)), (2, I am)]) ⟨rfl, rfl, rfl, rfl, rfl, trivial⟩ ?_
   refine aa.loop (fun m env H => ∃ k : Nat, m = 63 - k ∧ k ≤ 63 ∧ env = [(16, I (k : Int)), (7, I (eQ false k)), (0, B true), (1, I (n : Int)), (2, I am)] ∧ H = []) 63
    ⟨0, rfl, by omega, by simp only [s0], rfl⟩ ?_
   rintro m env H ⟨k, rfl, hk, rfl, rfl⟩
   have hs := jr false k
   have hmk := rz (gl := gl) false k
   have hbk := fK false k
   have e1 := jP false k
   rcases Nat.lt_or_ge k 63 with hlt | hge
   ·repeat' (first | (apply aa.st; rfl) | (apply aa.q true; rfl; rfl; rfl; rfl; first | exact True.intro | omega | (simp only [tn, Int.reduceToNat]; omega)) | (apply aa.aA (hmk); (iterate 6 rfl)) | (apply aa.af; rfl; first | omega | rfl) | (apply aa.ae; rfl; omega) | (apply aa.aB; rfl) | (apply aa.ak; rfl) | intro _ | (apply aa.aC; rfl; rfl; rfl; rfl) | (apply aa.aP; rfl; rfl))
    all_goals first | exact aa.round [(16, I ((k + 1 : Nat) : Int)), (7, I (eQ false (k + 1))), (0, B true), (1, I (n : Int)), (2, I am)] (63 - (k + 1)) (by omega) ⟨rfl, congrArg I (by rw [e1]), rfl, rfl, rfl, trivial⟩ ⟨k + 1, rfl, hlt, rfl, rfl⟩
   ·obtain rfl : k = 63 := by omega
    repeat (first | (apply aa.st; rfl) | (apply aa.q true; rfl; rfl; rfl; rfl; first | exact True.intro | omega | (simp only [tn, Int.reduceToNat]; omega)) | (apply aa.af; rfl; first | omega | rfl) | (apply aa.ae; rfl; omega) | (apply aa.aB; rfl) | (apply aa.ak; rfl))
    refine aa.out rfl ⟨_, rfl, ?_⟩
    repeat (first | (apply aa.st; rfl) | (apply aa.q true; rfl; rfl; rfl; rfl; first | exact True.intro | omega | (simp only [tn, Int.reduceToNat]; omega)) | (apply aa.af; rfl; first | omega | rfl) | (apply aa.ae; rfl; omega) | (apply aa.aB; rfl) | (apply aa.ak; rfl))
    refine aa.weak (env' := [(25, I ((0 : Nat) : Int)), (24, I (n : Int)), (7, I (eQ false 63)), (0, B true), (2, I am)]) ⟨rfl, rfl, rfl, rfl, rfl, trivial⟩ ?_
    refine aa.loop (fun m env H => ∃ k : Nat, m = n - k ∧ k ≤ n ∧ env = [(25, I (k : Int)), (24, I (n : Int)), (7, I (eQ false 63 + eQ true k)), (0, B true), (2, I am)] ∧ H = []) n
     ⟨0, rfl, by omega, by simp only [s0, Int.add_zero], rfl⟩ ?_
    rintro m env H ⟨k, rfl, hk, rfl, rfl⟩
    have hs := jr true k
    have hmk := rz (gl := gl) true k
    have hbk := fK true k
    have e1 := jP true k
    rcases Nat.lt_or_ge k n with hlt | hge
    ·repeat' (first | (apply aa.st; rfl) | (apply aa.q true; rfl; rfl; rfl; rfl; first | exact True.intro | omega | (simp only [tn, Int.reduceToNat]; omega)) | (apply aa.aA (hmk); (iterate 6 rfl)) | (apply aa.af; rfl; first | omega | rfl) | (apply aa.ae; rfl; omega) | (apply aa.aB; rfl) | (apply aa.ak; rfl) | intro _ | (apply aa.aC; rfl; rfl; rfl; rfl) | (apply aa.aP; rfl; rfl))
     all_goals first | exact aa.round [(25, I ((k + 1 : Nat) : Int)), (24, I (n : Int)), (7, I (eQ false 63 + eQ true (k + 1))), (0, B true), (2, I am)] (n - (k + 1)) (by omega) ⟨rfl, rfl, congrArg I (by rw [e1]; omega), rfl, rfl, trivial⟩ ⟨k + 1, rfl, hlt, rfl, rfl⟩
    ·obtain rfl : k = n := by omega
     repeat' (first | (apply aa.st; rfl) | (apply aa.q true; rfl; rfl; rfl; rfl; first | exact True.intro | omega | (simp only [tn, Int.reduceToNat]; omega)) | (apply aa.af; rfl; first | omega | rfl) | (apply aa.ae; rfl; omega) | (apply aa.aB; rfl) | (apply aa.ak; rfl) | intro _ | (apply aa.aC; rfl; rfl; rfl; rfl) | (apply aa.aP; rfl; rfl))
     all_goals first | exact ⟨congrArg I (by simp; omega), rfl⟩ | exact ⟨rfl, rfl⟩
end Tc
namespace Tc
open Go Bt
attribute [local irreducible] aa ACalls
variable {gl : List (Nat × List D)}
def cd2 (k : Int) : Int := gi1.getD k.toNat 0
def ln2 (k : Int) : Int := gi2.getD k.toNat 0
theorem Iz : ∀ k : _root_.Fin 102, (0 ≤ ln2 k.val ∧ ln2 k.val ≤ 12) ∧ 0 ≤ cd2 k.val ∧ cd2 k.val < 2 ^ (ln2 k.val).toNat := by decide +kernel
theorem zH (a : Int) (h : 0 ≤ a ∧ a ≤ 101) : (0 ≤ ln2 a ∧ ln2 a ≤ 12) ∧ 0 ≤ cd2 a ∧ cd2 a < 2 ^ (ln2 a).toNat := by
 obtain ⟨k, rfl⟩ := Int.eq_ofNat_of_zero_le h.1
 exact Iz ⟨k, by omega⟩
theorem H8 : gl1 = gi1.map (.int .i64) := rfl
theorem H6 : gl2 = gi2.map (.int .i64) := rfl
theorem zt : 102 * 1 ≤ gl1.length := by unfold gl1; decide
theorem zq : 102 * 1 ≤ gl2.length := by unfold gl2; decide
theorem zu (a : Int) (h : 0 ≤ a ∧ a ≤ 101) : (gl1.drop (a.toNat * 1))[0]? = some (.int .i64 (cd2 a)) := by
 have hl : gi1.length = 102 := rfl
 rw [H8, List.getElem?_drop, List.getElem?_map]
 simp [cd2, List.getD, hl, show a.toNat < 102 by omega]
theorem zr (a : Int) (h : 0 ≤ a ∧ a ≤ 101) : (gl2.drop (a.toNat * 1))[0]? = some (.int .i64 (ln2 a)) := by
 have hl : gi2.length = 102 := rfl
 rw [H6, List.getElem?_drop, List.getElem?_map]
 simp [ln2, List.getD, hl, show a.toNat < 102 by omega]
theorem BC : ∀ la : Bool, ∀ ru : _root_.Fin 64, ((mi la ru.val).length : Int) = cW la ru.val ∧ ∀ a : _root_.Fin 12, (a.val : Int) < cW la ru.val → (0 ≤ bO la ru.val (a.val + 1) ∧ bO la ru.val (a.val + 1) ≤ 101) ∧
  (mi la ru.val).getD a.val [] = bv (cd2 (bO la ru.val (a.val + 1))) (ln2 (bO la ru.val (a.val + 1))).toNat (ln2 (bO la ru.val (a.val + 1))).toNat ∧ (mi la ru.val).getD a.val [] ≠ [] := by decide +kernel
theorem Gx (la : Bool) (ru am : Int) (h : 0 ≤ ru ∧ ru ≤ 63) (hm : cW la ru < am) : jZ la ru am = [] ∧ bO la ru am = -1 := by
 obtain ⟨k1, _⟩ := BC la ⟨ru.toNat, by omega⟩
 simp only at k1
 rw [show ((ru.toNat : Nat) : Int) = ru by omega] at k1
 unfold jZ bO
 rw [k1, if_pos hm, if_pos hm]; exact ⟨rfl, rfl⟩
theorem BB (la : Bool) (ru am : Int) (h : 0 ≤ ru ∧ ru ≤ 63) (ha : 1 ≤ am) (hm : ¬ cW la ru < am) : (0 ≤ bO la ru am ∧ bO la ru am ≤ 101) ∧ jZ la ru am = bv (cd2 (bO la ru am)) (ln2 (bO la ru am)).toNat (ln2 (bO la ru am)).toNat ∧ jZ la ru am ≠ [] := by
 have hb := fK la ru
 obtain ⟨k1, k2⟩ := BC la ⟨ru.toNat, by omega⟩
 have k3 := k2 ⟨(am - 1).toNat, by omega⟩
 simp only at k1 k3
 rw [show ((ru.toNat : Nat) : Int) = ru by omega] at k1 k3
 rw [show (((am - 1).toNat : Nat) : Int) = am - 1 by omega, show am - 1 + 1 = am by omega] at k3
 have k4 := k3 (by omega)
 have e : jZ la ru am = (mi la ru).getD (am - 1).toNat [] := by unfold jZ; rw [k1, if_neg hm]
 rw [e]; exact k4
theorem zE (b : Bool) : ACalls (cxg gl) 143 [B b] [] (fun r H => r = S (wD b) ∧ H = []) := by
 cases b
 all_goals
  refine ACalls.enter Tryz.func143 rfl Tryz.ntmps143 (by kernel_rfl) rfl ?_; simp only [au, nm, Nat.reduceAdd]
  repeat' (first | (apply aa.st; rfl) | (apply aa.q true; rfl; rfl; rfl; rfl; first | exact True.intro | omega | (simp only [tn, Int.reduceToNat]; omega)) | (apply aa.aB; rfl) | (apply aa.ak; rfl) | intro _ | (apply aa.aC; rfl; rfl; rfl; rfl))
  all_goals first | exact ⟨rfl, rfl⟩
theorem E8 (n : Int) : wD (decide (n < 0)) = tY n := by
 unfold wD tY
 by_cases h : n < 0
 ·rw [decide_eq_true h, if_pos rfl, if_pos h]
 ·rw [decide_eq_false h, if_neg (by decide), if_neg h]
theorem uW (n : Int) : kR n = max n (-n) := by unfold kR; split <;> omega
theorem dg7 : bv 3 7 7 = [48, 48, 48, 48, 48, 49, 49] := by decide +kernel
theorem wC (b : Bool) : (wD b).length = 1 := by cases b <;> rfl
attribute [local irreducible] gM qG BH DY mi jZ bv bO cW cd2 ln2
theorem uL (e : Ev) : ACalls (cxg gtc) 125 [.d (evD e)] [] (fun r H => r = .bG [S (dE e), B (evR e)] ∧ H = []) := by
 obtain ⟨la, ru, le⟩ := e
 have rc := lM (gl := gtc) ⟨la, ru, le⟩
 unfold dE
 cases hR : evR ⟨la, ru, le⟩ with
 | false =>
  rw [hR] at rc
  rw [if_neg (by decide)]
  refine ACalls.enter Tryz.func125 rfl Tryz.ntmps125 (by kernel_rfl) rfl ?_; simp only [au, nm, Nat.reduceAdd]
  repeat' (first | (apply aa.st; rfl) | ((first | apply aa.q true | apply aa.qq true); rfl; rfl; rfl; rfl; first | exact True.intro | omega | (simp only [tn, Int.reduceToNat]; omega)) | (apply aa.aA (rc); (iterate 6 rfl)) | (apply aa.bD (rc); (iterate 7 rfl)) | (apply aa.aY; rfl; rfl; decide +kernel) | (apply aa.af; rfl; first | omega | rfl) | (apply aa.ae; rfl; omega) | (apply aa.aB; rfl) | (apply aa.ak; rfl) | (apply aa.box; (iterate 6 rfl); simp only [nm, nz, Nat.reduceAdd]) | intro _ | (apply aa.aC; rfl; rfl; rfl; rfl))
  all_goals first | exact ⟨rfl, rfl⟩
 | true =>
  rw [hR] at rc
  have hb : (0 ≤ ru ∧ ru ≤ 63) ∧ le ≠ 0 ∧ -127 ≤ le ∧ le ≤ 127 := of_decide_eq_true hR
  have ab := zP hb.2
  rw [if_pos rfl]
  have pl := yT (gl := gtc) la ru (kR le) hb.1 ab
  rw [uW] at pl ab
  simp only [uW]
  have hsl := vB le
  have d1 := zE (gl := gtc) (decide (le < 0))
  rw [E8] at d1
  by_cases hm : cW la ru < max le (-le)
  ·obtain ⟨t1, t2⟩ := Gx la ru (max le (-le)) hb.1 hm
   rw [t1, if_neg (by simp)]
   rw [t2] at pl
   have o7 := uq (gl := gtc) 3 7 (by decide) (by decide)
   rw [dg7] at o7
   have o6 := uq (gl := gtc) ru 6 (by decide) (by omega)
   have o8 := uq (gl := gtc) ((le + 256) % 256) 8 (by decide) (by omega)
   rw [show (le + 256) % 256 = (if le < 0 then 256 + le else le) by split <;> omega] at o8
   have e8 : (le + 256) % 256 = (if le < 0 then 256 + le else le) := by split <;> omega
   have d2 := zE (gl := gtc) la
   have l6 := fq ru 6 6
   have l8 := fq (if le < 0 then 256 + le else le) 8 8
   have l1 := wC la
   rw [← e8] at o8 l8 ⊢
   refine ACalls.enter Tryz.func125 rfl Tryz.ntmps125 (by kernel_rfl) rfl ?_; simp only [au, nm, Nat.reduceAdd]
   repeat' (first | (apply aa.st; rfl) | ((first | apply aa.q true | apply aa.qq true); rfl; rfl; rfl; rfl; first | exact True.intro | omega | (simp only [tn, Int.reduceToNat]; omega) | (simp only [List.length_append, List.length_cons, List.length_nil, l6, l8, l1]; omega)) | (apply aa.aA (rc); (iterate 6 rfl)) | (apply aa.bD (rc); (iterate 7 rfl)) | (apply aa.aA (pl); (iterate 6 rfl)) | (apply aa.bD (pl); (iterate 7 rfl)) | (apply aa.aA (o7); (iterate 6 rfl)) | (apply aa.bD (o7); (iterate 7 rfl)) | (apply aa.aA (o6); (iterate 6 rfl)) | (apply aa.bD (o6); (iterate 7 rfl)) | (apply aa.aA (o8); (iterate 6 rfl)) | (apply aa.bD (o8); (iterate 7 rfl)) | (apply aa.aA (d2); (iterate 6 rfl)) | (apply aa.bD (d2); (iterate 7 rfl)) | (apply aa.aY; rfl; rfl; decide +kernel) | (apply aa.af; rfl; first | omega | rfl) | (apply aa.ae; rfl; omega) | (apply aa.aB; rfl) | (apply aa.ak; rfl) | (apply aa.box; (iterate 6 rfl); simp only [nm, nz, Nat.reduceAdd]) | intro _ | (apply aa.aC; rfl; rfl; rfl; rfl))
   all_goals first | exact ⟨rfl, rfl⟩ | omega
  ·obtain ⟨t1, t2, t3⟩ := BB la ru (max le (-le)) hb.1 ab.1 hm
   rw [if_pos t3, t2]
   obtain ⟨c1, c2⟩ := zH _ t1
   have g1 := zu _ t1
   have g2 := zr _ t1
   have o1 := Hw (gl := gtc) _ _ ⟨c1.1, by omega⟩ c2
   have lo := fq (cd2 (bO la ru (max le (-le)))) (ln2 (bO la ru (max le (-le)))).toNat (ln2 (bO la ru (max le (-le)))).toNat
   have hl1 := zt
   have hl2 := zq
   generalize bO la ru (max le (-le)) = pc at *
   refine ACalls.enter Tryz.func125 rfl Tryz.ntmps125 (by kernel_rfl) rfl ?_; simp only [au, nm, Nat.reduceAdd]
   repeat' (first | (apply aa.st; rfl) | ((first | apply aa.q true | apply aa.qq true); rfl; rfl; rfl; rfl; first | exact True.intro | omega | (simp only [tn, Int.reduceToNat]; omega) | (exact ⟨by omega, hl1⟩) | (exact ⟨by omega, hl2⟩) | (simp only [List.length_append, List.length_cons, List.length_nil, lo, hsl]; omega)) | (apply aa.aA (rc); (iterate 6 rfl)) | (apply aa.bD (rc); (iterate 7 rfl)) | (apply aa.aA (pl); (iterate 6 rfl)) | (apply aa.bD (pl); (iterate 7 rfl)) | (apply aa.aA (o1); (iterate 6 rfl)) | (apply aa.bD (o1); (iterate 7 rfl)) | (apply aa.aA (d1); (iterate 6 rfl)) | (apply aa.bD (d1); (iterate 7 rfl)) | (apply aa.aY; rfl; rfl; decide +kernel) | (apply aa.af; rfl; first | omega | rfl) | (apply aa.ae; rfl; omega) | (apply aa.aB; rfl) | (apply aa.ak; rfl) | (apply aa.box; (iterate 6 rfl); simp only [nm, nz, Nat.reduceAdd]) | (apply aa.Cn; (iterate 7 rfl); exact g1) | (apply aa.Cn; (iterate 7 rfl); exact g2) | intro _ | (apply aa.aC; rfl; rfl; rfl; rfl))
   all_goals first | exact ⟨rfl, rfl⟩ | omega
end Tc
end Go.Proofs.YtbfojhfiemcnpaaGreatDoor.Av
