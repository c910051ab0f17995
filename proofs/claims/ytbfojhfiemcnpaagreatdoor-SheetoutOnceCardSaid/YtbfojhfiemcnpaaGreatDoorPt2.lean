/- The reference's rows of events. The reference's Row of an event. The program's rows of events: many, place. The program's rows of events: Row; it agrees with the reference's. -/
import Derived.Test.YtbfojhfiemcnpaaGreatDoorPt1
set_option linter.unusedVariables false
set_option linter.unusedSimpArgs false
set_option maxRecDepth 100000
set_option maxHeartbeats 64000000
namespace Go.Proofs.YtbfojhfiemcnpaaGreatDoor.Av
namespace Tc
open Go Bt
attribute [local irreducible] aa ACalls
variable {gl : List (Nat × List D)}
def Em : List (List UInt8) := [[49, 48, 32, 49, 49, 49, 49, 32, 48, 49, 48, 49, 48, 49, 32, 48, 48, 49, 48, 49, 49, 49, 32, 48, 48, 48, 49, 49, 49, 49, 49, 32, 48, 48, 48, 49, 48, 48, 49, 48, 49, 32, 48, 48, 48, 49, 48, 48, 49, 48, 48, 32, 48, 48, 48, 48, 49, 48, 48, 48, 48, 49, 32, 48, 48, 48, 48, 49, 48, 48, 48, 48, 48, 32, 48, 48, 48, 48, 48, 48, 48, 48, 49, 49, 49, 32, 48, 48, 48, 48, 48, 48, 48, 48, 49, 49, 48, 32, 48, 48, 48, 48, 48, 49, 48, 48, 48, 48, 48], [49, 49, 48, 32, 48, 49, 48, 49, 48, 48, 32, 48, 48, 48, 49, 49, 49, 49, 48, 32, 48, 48, 48, 48, 48, 48, 49, 49, 49, 49, 32, 48, 48, 48, 48, 48, 49, 48, 48, 48, 48, 49, 32, 48, 48, 48, 48, 48, 49, 48, 49, 48, 48, 48, 48], [49, 49, 49, 48, 32, 48, 48, 48, 49, 49, 49, 48, 49, 32, 48, 48, 48, 48, 48, 48, 49, 49, 49, 48, 32, 48, 48, 48, 48, 48, 49, 48, 49, 48, 48, 48, 49], [48, 49, 49, 48, 49, 32, 48, 48, 48, 49, 48, 48, 48, 49, 49, 32, 48, 48, 48, 48, 48, 48, 49, 49, 48, 49], [48, 49, 49, 48, 48, 32, 48, 48, 48, 49, 48, 48, 48, 49, 48, 32, 48, 48, 48, 48, 48, 49, 48, 49, 48, 48, 49, 48], [48, 49, 48, 49, 49, 32, 48, 48, 48, 48, 48, 48, 49, 49, 48, 48, 32, 48, 48, 48, 48, 48, 49, 48, 49, 48, 48, 49, 49], [48, 49, 48, 48, 49, 49, 32, 48, 48, 48, 48, 48, 48, 49, 48, 49, 49, 32, 48, 48, 48, 48, 48, 49, 48, 49, 48, 49, 48, 48], [48, 49, 48, 48, 49, 48, 32, 48, 48, 48, 48, 48, 48, 49, 48, 49, 48], [48, 49, 48, 48, 48, 49, 32, 48, 48, 48, 48, 48, 48, 49, 48, 48, 49], [48, 49, 48, 48, 48, 48, 32, 48, 48, 48, 48, 48, 48, 49, 48, 48, 48], [48, 48, 49, 48, 49, 49, 48, 32, 48, 48, 48, 48, 48, 49, 48, 49, 48, 49, 48, 49], [48, 48, 49, 48, 49, 48, 49], [48, 48, 49, 48, 49, 48, 48], [48, 48, 48, 49, 49, 49, 48, 48], [48, 48, 48, 49, 49, 48, 49, 49], [48, 48, 48, 49, 48, 48, 48, 48, 49], [48, 48, 48, 49, 48, 48, 48, 48, 48], [48, 48, 48, 48, 49, 49, 49, 49, 49], [48, 48, 48, 48, 49, 49, 49, 49, 48], [48, 48, 48, 48, 49, 49, 49, 48, 49], [48, 48, 48, 48, 49, 49, 49, 48, 48], [48, 48, 48, 48, 49, 49, 48, 49, 49], [48, 48, 48, 48, 49, 49, 48, 49, 48], [48, 48, 48, 48, 48, 49, 48, 48, 48, 49, 48], [48, 48, 48, 48, 48, 49, 48, 48, 48, 49, 49], [48, 48, 48, 48, 48, 49, 48, 49, 48, 49, 49, 48], [48, 48, 48, 48, 48, 49, 48, 49, 48, 49, 49, 49]]
def Gx : List (List UInt8) := [[48, 49, 49, 49, 32, 48, 48, 48, 48, 49, 49, 48, 48, 49, 32, 48, 48, 48, 48, 48, 48, 48, 48, 49, 48, 49], [48, 48, 49, 49, 49, 49, 32, 48, 48, 48, 48, 48, 48, 48, 48, 49, 48, 48], [48, 48, 49, 49, 49, 48], [48, 48, 49, 49, 48, 49], [48, 48, 49, 49, 48, 48], [48, 48, 49, 48, 48, 49, 49], [48, 48, 49, 48, 48, 49, 48], [48, 48, 49, 48, 48, 48, 49], [48, 48, 49, 48, 48, 48, 48], [48, 48, 48, 49, 49, 48, 49, 48], [48, 48, 48, 49, 49, 48, 48, 49], [48, 48, 48, 49, 49, 48, 48, 48], [48, 48, 48, 49, 48, 49, 49, 49], [48, 48, 48, 49, 48, 49, 49, 48], [48, 48, 48, 49, 48, 49, 48, 49], [48, 48, 48, 49, 48, 49, 48, 48], [48, 48, 48, 49, 48, 48, 49, 49], [48, 48, 48, 48, 49, 49, 48, 48, 48], [48, 48, 48, 48, 49, 48, 49, 49, 49], [48, 48, 48, 48, 49, 48, 49, 49, 48], [48, 48, 48, 48, 49, 48, 49, 48, 49], [48, 48, 48, 48, 49, 48, 49, 48, 48], [48, 48, 48, 48, 49, 48, 48, 49, 49], [48, 48, 48, 48, 49, 48, 48, 49, 48], [48, 48, 48, 48, 49, 48, 48, 48, 49], [48, 48, 48, 48, 48, 48, 48, 49, 49, 49], [48, 48, 48, 48, 48, 48, 48, 49, 49, 48], [48, 48, 48, 48, 48, 48, 48, 49, 48, 49], [48, 48, 48, 48, 48, 48, 48, 49, 48, 48], [48, 48, 48, 48, 48, 49, 48, 48, 49, 48, 48], [48, 48, 48, 48, 48, 49, 48, 48, 49, 48, 49], [48, 48, 48, 48, 48, 49, 48, 48, 49, 49, 48], [48, 48, 48, 48, 48, 49, 48, 48, 49, 49, 49], [48, 48, 48, 48, 48, 49, 48, 49, 49, 48, 48, 48], [48, 48, 48, 48, 48, 49, 48, 49, 49, 48, 48, 49], [48, 48, 48, 48, 48, 49, 48, 49, 49, 48, 49, 48], [48, 48, 48, 48, 48, 49, 48, 49, 49, 48, 49, 49], [48, 48, 48, 48, 48, 49, 48, 49, 49, 49, 48, 48], [48, 48, 48, 48, 48, 49, 48, 49, 49, 49, 48, 49], [48, 48, 48, 48, 48, 49, 48, 49, 49, 49, 49, 48], [48, 48, 48, 48, 48, 49, 48, 49, 49, 49, 49, 49]]
def Mq (la : Bool) : List (List UInt8) := if la = true then Gx else Em
def oI (la : Bool) (ru : Int) : List (List UInt8) := if (Mq la).length ≤ ru.toNat then [] else tC ((Mq la).getD ru.toNat [])
def lW (la : Bool) (ru am : Int) : List UInt8 := if ((oI la ru).length : Int) < am then [] else (oI la ru).getD (am - 1).toNat []
def wo (n : Int) : List UInt8 := if n < 0 then [49] else [48]
def mS (n : Int) : Int := if n < 0 then -n else n
def yJ (la : Bool) : List UInt8 := if la = true then [49] else [48]
def fC (e : Ev) : List UInt8 := if evR e = true then
    (if lW e.last e.run (mS e.level) ≠ [] then lW e.last e.run (mS e.level) ++ wo e.level
     else (([48, 48, 48, 48, 48, 49, 49] ++ yJ e.last) ++ bI e.run 6 6) ++ bI (if e.level < 0 then 256 + e.level else e.level) 8 8)
  else []
attribute [local irreducible] jf tC Em Gx
attribute [local irreducible] oI
end Tc
namespace Tc
open Go Bt
attribute [local irreducible] aa ACalls
variable {gl : List (Nat × List D)}
theorem CC {n : Int} (h : n ≠ 0 ∧ -127 ≤ n ∧ n ≤ 127) : 1 ≤ mS n ∧ mS n ≤ 127 := by unfold mS; split <;> omega
theorem xR (n : Int) : (wo n).length = 1 := by unfold wo; split <;> rfl
theorem CH : ∀ la : Bool, ∀ ru : _root_.Fin 64, ∀ w ∈ oI la ru.val, w.length ≤ 12 := by decide +kernel
theorem F9 (la : Bool) (ru am : Int) (h : 0 ≤ ru ∧ ru ≤ 63) : (lW la ru am).length ≤ 12 := by
 unfold lW
 split
 ·simp
 ·rename_i hm
  rw [List.getD_eq_getElem?_getD]
  cases hx : (oI la ru)[(am - 1).toNat]? with
  | none => simp
  | some w =>
   have := CH la ⟨ru.toNat, by omega⟩ w
   simp only at this
   rw [show ((ru.toNat : Nat) : Int) = ru by omega] at this
   exact this (List.mem_of_getElem? hx)
attribute [local irreducible] jf tC Em Gx oI lW bI
end Tc
namespace Tc
open Go Bt
attribute [local irreducible] aa ACalls
variable {gl : List (Nat × List D)}
noncomputable abbrev gtc : List (Nat × List D) := [(1, gl1), (2, gl2)]
def dY (la : Bool) (ru : Int) : Int := if la = true then (if ru = 0 then 3 else if ru = 1 then 2 else if ru ≤ 40 then 1 else 0)
 else (if ru = 0 then 12 else if ru = 1 then 6 else if ru = 2 then 4 else if ru ≤ 6 then 3 else if ru ≤ 10 then 2 else if ru ≤ 26 then 1 else 0)
def gV (la : Bool) : Nat → Int
 | 0 => 0
 | n + 1 => gV la n + dY la n
def qF (la : Bool) : Int := if la = true then gV false 63 else 0
def cJ (la : Bool) (ru am : Int) : Int := if dY la ru < am then -1 else qF la + gV la ru.toNat + am - 1
theorem iG (la : Bool) (ru : Int) : 0 ≤ dY la ru ∧ dY la ru ≤ 12 := by unfold dY; repeat' split; all_goals omega
theorem kV (la : Bool) : ∀ n, 0 ≤ gV la n ∧ gV la n ≤ 12 * n
 | 0 => by simp [gV]
 | n + 1 => by have := kV la n; have := iG la n; simp only [gV]; omega
theorem uh (la : Bool) (ru : Int) : ACalls (cxg gl) 153 [B la, I ru] [] (fun r H => r = I (dY la ru) ∧ H = []) := by
 cases la
 all_goals
  refine ACalls.enter Tryz.func153 rfl Tryz.ntmps153 (by kernel_rfl) rfl ?_; simp only [aB, nm, Nat.reduceAdd]
  repeat' (first | refine aa.aD ?_ | refine aa.aY true ?_ | refine aa.av ?_ | refine aa.ai ?_ | refine aa.aj ?_ | refine aa.aA ?_ | intro _ | (apply aa.eu ; rfl) | refine aa.au ?_)
  all_goals refine ⟨congrArg I ?_, rfl⟩
  all_goals unfold dY
  all_goals simp only [Bool.false_eq_true, if_false, if_true]
  all_goals repeat' split
  all_goals first | rfl | omega | (simp only [bT] at *; omega)
attribute [local irreducible] dY
theorem lK (la : Bool) (n : Nat) : gV la (n + 1) = gV la n + dY la n := rfl
theorem Eo (la : Bool) : gV la 0 = 0 := rfl
attribute [local irreducible] gV
theorem Bv (la : Bool) (ru am : Int) (hr : 0 ≤ ru ∧ ru ≤ 63) (ha : 1 ≤ am ∧ am ≤ 127) : ACalls (cxg gl) 142 [B la, I ru, I am] [] (fun r H => r = I (cJ la ru am) ∧ H = []) := by
 have hm := uh (gl := gl) la ru
 have hb := iG la ru
 unfold cJ
 by_cases h : dY la ru < am
 ·rw [if_pos h]
  refine ACalls.enter Tryz.func142 rfl Tryz.ntmps142 (by kernel_rfl) rfl ?_; simp only [aB, nm, Nat.reduceAdd]
  repeat' (first | refine aa.aD ?_ | refine aa.aY true ?_ | refine aa.ak (hm) ?_ | refine aa.ah ?_ | refine aa.af ?_ | refine aa.av ?_ | refine aa.ai ?_ | intro _ | refine aa.au ?_ | refine aa.aI ?_)
  all_goals first | exact ⟨rfl, rfl⟩ | omega
 ·rw [if_neg h]
  unfold qF
  obtain ⟨n, rfl⟩ := Int.eq_ofNat_of_zero_le hr.1
  rw [Int.toNat_natCast]
  have s0 : ∀ la, gV la 0 = 0 := fun la => Eo la
  have hq := kV false 63
  cases la
  ·refine ACalls.enter Tryz.func142 rfl Tryz.ntmps142 (by kernel_rfl) rfl ?_; simp only [aB, nm, Nat.reduceAdd]
   repeat (first | refine aa.aD ?_ | refine aa.aY true ?_ | refine aa.ak (hm) ?_ | refine aa.ah ?_ | refine aa.af ?_ | refine aa.av ?_ | refine aa.ai ?_)
   refine aa.weak (env' := [(25, I ((0 : Nat) : Int)), (24, I (n : Int)), (7, I 0), (0, B false), (2, I am)]) ⟨rfl, rfl, rfl, rfl, rfl, trivial⟩ ?_
   refine aa.loop (fun m env H => ∃ k : Nat, m = n - k ∧ k ≤ n ∧ env = [(25, I (k : Int)), (24, I (n : Int)), (7, I (0 + gV false k)), (0, B false), (2, I am)] ∧ H = []) n
    ⟨0, rfl, by omega, by simp only [s0, Int.add_zero], rfl⟩ ?_
   rintro m env H ⟨k, rfl, hk, rfl, rfl⟩
   have hs := kV false k
   have hmk := uh (gl := gl) false k
   have hbk := iG false k
   have e1 := lK false k
   rcases Nat.lt_or_ge k n with hlt | hge
   ·repeat' (first | refine aa.aD ?_ | refine aa.aY true ?_ | refine aa.ak (hmk) ?_ | refine aa.ah ?_ | refine aa.af ?_ | refine aa.av ?_ | refine aa.ai ?_ | intro _ | refine aa.au ?_ | refine aa.aI ?_)
    all_goals first | exact aa.round [(25, I ((k + 1 : Nat) : Int)), (24, I (n : Int)), (7, I (0 + gV false (k + 1))), (0, B false), (2, I am)] (n - (k + 1)) (by omega) ⟨rfl, rfl, congrArg I (by rw [e1]; omega), rfl, rfl, trivial⟩ ⟨k + 1, rfl, hlt, rfl, rfl⟩
   ·obtain rfl : k = n := by omega
    repeat' (first | refine aa.aD ?_ | refine aa.aY true ?_ | refine aa.ah ?_ | refine aa.af ?_ | refine aa.av ?_ | refine aa.ai ?_ | intro _ | refine aa.au ?_ | refine aa.aI ?_)
    all_goals first | exact ⟨congrArg I (by simp; omega), rfl⟩ | exact ⟨rfl, rfl⟩
  ·refine ACalls.enter Tryz.func142 rfl Tryz.ntmps142 (by kernel_rfl) rfl ?_; simp only [aB, nm, Nat.reduceAdd]
   repeat (first | refine aa.aD ?_ | refine aa.aY true ?_ | refine aa.ak (hm) ?_ | refine aa.ah ?_ | refine aa.af ?_ | refine aa.av ?_ | refine aa.ai ?_)
   refine aa.weak (env' := [(16, I ((0 : Nat) : Int)), (7, I 0), (0, B true), (1, I (n : Int)), (2, I am)]) ⟨rfl, rfl, rfl, rfl, rfl, trivial⟩ ?_
   refine aa.loop (fun m env H => ∃ k : Nat, m = 63 - k ∧ k ≤ 63 ∧ env = [(16, I (k : Int)), (7, I (gV false k)), (0, B true), (1, I (n : Int)), (2, I am)] ∧ H = []) 63
    ⟨0, rfl, by omega, by simp only [s0], rfl⟩ ?_
   rintro m env H ⟨k, rfl, hk, rfl, rfl⟩
   have hs := kV false k
   have hmk := uh (gl := gl) false k
   have hbk := iG false k
   have e1 := lK false k
   rcases Nat.lt_or_ge k 63 with hlt | hge
   ·repeat' (first | refine aa.aD ?_ | refine aa.aY true ?_ | refine aa.ak (hmk) ?_ | refine aa.ah ?_ | refine aa.af ?_ | refine aa.av ?_ | refine aa.ai ?_ | intro _ | refine aa.au ?_ | refine aa.aI ?_)
    all_goals first | exact aa.round [(16, I ((k + 1 : Nat) : Int)), (7, I (gV false (k + 1))), (0, B true), (1, I (n : Int)), (2, I am)] (63 - (k + 1)) (by omega) ⟨rfl, congrArg I (by rw [e1]), rfl, rfl, rfl, trivial⟩ ⟨k + 1, rfl, hlt, rfl, rfl⟩
   ·obtain rfl : k = 63 := by omega
    repeat (first | refine aa.aD ?_ | refine aa.aY true ?_ | refine aa.ah ?_ | refine aa.af ?_ | refine aa.av ?_ | refine aa.ai ?_)
    refine aa.out rfl ⟨_, rfl, ?_⟩
    repeat (first | refine aa.aD ?_ | refine aa.aY true ?_ | refine aa.ah ?_ | refine aa.af ?_ | refine aa.av ?_ | refine aa.ai ?_)
    refine aa.weak (env' := [(25, I ((0 : Nat) : Int)), (24, I (n : Int)), (7, I (gV false 63)), (0, B true), (2, I am)]) ⟨rfl, rfl, rfl, rfl, rfl, trivial⟩ ?_
    refine aa.loop (fun m env H => ∃ k : Nat, m = n - k ∧ k ≤ n ∧ env = [(25, I (k : Int)), (24, I (n : Int)), (7, I (gV false 63 + gV true k)), (0, B true), (2, I am)] ∧ H = []) n
     ⟨0, rfl, by omega, by simp only [s0, Int.add_zero], rfl⟩ ?_
    rintro m env H ⟨k, rfl, hk, rfl, rfl⟩
    have hs := kV true k
    have hmk := uh (gl := gl) true k
    have hbk := iG true k
    have e1 := lK true k
    rcases Nat.lt_or_ge k n with hlt | hge
    ·repeat' (first | refine aa.aD ?_ | refine aa.aY true ?_ | refine aa.ak (hmk) ?_ | refine aa.ah ?_ | refine aa.af ?_ | refine aa.av ?_ | refine aa.ai ?_ | intro _ | refine aa.au ?_ | refine aa.aI ?_)
     all_goals first | exact aa.round [(25, I ((k + 1 : Nat) : Int)), (24, I (n : Int)), (7, I (gV false 63 + gV true (k + 1))), (0, B true), (2, I am)] (n - (k + 1)) (by omega) ⟨rfl, rfl, congrArg I (by rw [e1]; omega), rfl, rfl, trivial⟩ ⟨k + 1, rfl, hlt, rfl, rfl⟩
    ·obtain rfl : k = n := by omega
     repeat' (first | refine aa.aD ?_ | refine aa.aY true ?_ | refine aa.ah ?_ | refine aa.af ?_ | refine aa.av ?_ | refine aa.ai ?_ | intro _ | refine aa.au ?_ | refine aa.aI ?_)
     all_goals first | exact ⟨congrArg I (by simp; omega), rfl⟩ | exact ⟨rfl, rfl⟩
end Tc
namespace Tc
open Go Bt
attribute [local irreducible] aa ACalls
variable {gl : List (Nat × List D)}
def cd2 (k : Int) : Int := gi1.getD k.toNat 0
def ln2 (k : Int) : Int := gi2.getD k.toNat 0
theorem Lg : ∀ k : _root_.Fin 102, (0 ≤ ln2 k.val ∧ ln2 k.val ≤ 12) ∧ 0 ≤ cd2 k.val ∧ cd2 k.val < 2 ^ (ln2 k.val).toNat := by decide +kernel
theorem Ct (a : Int) (h : 0 ≤ a ∧ a ≤ 101) : (0 ≤ ln2 a ∧ ln2 a ≤ 12) ∧ 0 ≤ cd2 a ∧ cd2 a < 2 ^ (ln2 a).toNat := by
 obtain ⟨k, rfl⟩ := Int.eq_ofNat_of_zero_le h.1
 exact Lg ⟨k, by omega⟩
theorem KO : gl1 = gi1.map (.int .i64) := rfl
theorem KL : gl2 = gi2.map (.int .i64) := rfl
theorem BW : 102 * 1 ≤ gl1.length := by unfold gl1; decide
theorem BS : 102 * 1 ≤ gl2.length := by unfold gl2; decide
theorem BX (a : Int) (h : 0 ≤ a ∧ a ≤ 101) : (gl1.drop (a.toNat * 1))[0]? = some (.int .i64 (cd2 a)) := by
 have hl : gi1.length = 102 := rfl
 rw [KO, List.getElem?_drop, List.getElem?_map]
 simp [cd2, List.getD, hl, show a.toNat < 102 by omega]
theorem BU (a : Int) (h : 0 ≤ a ∧ a ≤ 101) : (gl2.drop (a.toNat * 1))[0]? = some (.int .i64 (ln2 a)) := by
 have hl : gi2.length = 102 := rfl
 rw [KL, List.getElem?_drop, List.getElem?_map]
 simp [ln2, List.getD, hl, show a.toNat < 102 by omega]
theorem Ei : ∀ la : Bool, ∀ ru : _root_.Fin 64, ((oI la ru.val).length : Int) = dY la ru.val ∧ ∀ a : _root_.Fin 12, (a.val : Int) < dY la ru.val → (0 ≤ cJ la ru.val (a.val + 1) ∧ cJ la ru.val (a.val + 1) ≤ 101) ∧
  (oI la ru.val).getD a.val [] = bI (cd2 (cJ la ru.val (a.val + 1))) (ln2 (cJ la ru.val (a.val + 1))).toNat (ln2 (cJ la ru.val (a.val + 1))).toNat ∧ (oI la ru.val).getD a.val [] ≠ [] := by decide +kernel
theorem Jt (la : Bool) (ru am : Int) (h : 0 ≤ ru ∧ ru ≤ 63) (hm : dY la ru < am) : lW la ru am = [] ∧ cJ la ru am = -1 := by
 obtain ⟨k1, _⟩ := Ei la ⟨ru.toNat, by omega⟩
 simp only at k1
 rw [show ((ru.toNat : Nat) : Int) = ru by omega] at k1
 unfold lW cJ
 rw [k1, if_pos hm, if_pos hm]; exact ⟨rfl, rfl⟩
theorem Eh (la : Bool) (ru am : Int) (h : 0 ≤ ru ∧ ru ≤ 63) (ha : 1 ≤ am) (hm : ¬ dY la ru < am) : (0 ≤ cJ la ru am ∧ cJ la ru am ≤ 101) ∧ lW la ru am = bI (cd2 (cJ la ru am)) (ln2 (cJ la ru am)).toNat (ln2 (cJ la ru am)).toNat ∧ lW la ru am ≠ [] := by
 have hb := iG la ru
 obtain ⟨k1, k2⟩ := Ei la ⟨ru.toNat, by omega⟩
 have k3 := k2 ⟨(am - 1).toNat, by omega⟩
 simp only at k1 k3
 rw [show ((ru.toNat : Nat) : Int) = ru by omega] at k1 k3
 rw [show (((am - 1).toNat : Nat) : Int) = am - 1 by omega, show am - 1 + 1 = am by omega] at k3
 have k4 := k3 (by omega)
 have e : lW la ru am = (oI la ru).getD (am - 1).toNat [] := by unfold lW; rw [k1, if_neg hm]
 rw [e]; exact k4
theorem Ch (b : Bool) : ACalls (cxg gl) 143 [B b] [] (fun r H => r = S (yJ b) ∧ H = []) := by
 cases b
 all_goals
  refine ACalls.enter Tryz.func143 rfl Tryz.ntmps143 (by kernel_rfl) rfl ?_; simp only [aB, nm, Nat.reduceAdd]
  repeat' (first | refine aa.aD ?_ | refine aa.aY true ?_ | refine aa.av ?_ | refine aa.ai ?_ | intro _ | refine aa.au ?_)
  all_goals first | exact ⟨rfl, rfl⟩
theorem H2 (n : Int) : yJ (decide (n < 0)) = wo n := by
 unfold yJ wo
 by_cases h : n < 0
 ·rw [decide_eq_true h, if_pos rfl, if_pos h]
 ·rw [decide_eq_false h, if_neg (by decide), if_neg h]
theorem xD (n : Int) : mS n = max n (-n) := by unfold mS; split <;> omega
theorem dg7 : bI 3 7 7 = [48, 48, 48, 48, 48, 49, 49] := by decide +kernel
theorem yI (b : Bool) : (yJ b).length = 1 := by cases b <;> rfl
attribute [local irreducible] jf tC Em Gx oI lW bI cJ dY cd2 ln2
theorem xk (e : Ev) : ACalls (cxg gtc) 125 [.d (evD e)] [] (fun r H => r = .bW [S (fC e), B (evR e)] ∧ H = []) := by
 obtain ⟨la, ru, le⟩ := e
 have rc := nR (gl := gtc) ⟨la, ru, le⟩
 unfold fC
 cases hR : evR ⟨la, ru, le⟩ with
 | false =>
  rw [hR] at rc
  rw [if_neg (by decide)]
  refine ACalls.enter Tryz.func125 rfl Tryz.ntmps125 (by kernel_rfl) rfl ?_; simp only [aB, nm, Nat.reduceAdd]
  repeat' (first | refine aa.aD ?_ | refine aa.aY true ?_ | refine aa.dL true ?_ | refine aa.ak (rc) ?_ | refine aa.aL (rc) ?_ | refine aa.aR ?_ | refine aa.ah ?_ | refine aa.af ?_ | refine aa.av ?_ | refine aa.ai ?_ | (refine aa.aP ?_; simp only [nm, nz, Nat.reduceAdd]) | intro _ | refine aa.au ?_)
  all_goals first | exact ⟨rfl, rfl⟩
 | true =>
  rw [hR] at rc
  have hb : (0 ≤ ru ∧ ru ≤ 63) ∧ le ≠ 0 ∧ -127 ≤ le ∧ le ≤ 127 := of_decide_eq_true hR
  have ab := CC hb.2
  rw [if_pos rfl]
  have pl := Bv (gl := gtc) la ru (mS le) hb.1 ab
  rw [xD] at pl ab
  simp only [xD]
  have hsl := xR le
  have d1 := Ch (gl := gtc) (decide (le < 0))
  rw [H2] at d1
  by_cases hm : dY la ru < max le (-le)
  ·obtain ⟨t1, t2⟩ := Jt la ru (max le (-le)) hb.1 hm
   rw [t1, if_neg (by simp)]
   rw [t2] at pl
   have o7 := wL (gl := gtc) 3 7 (by decide) (by decide)
   rw [dg7] at o7
   have o6 := wL (gl := gtc) ru 6 (by decide) (by omega)
   have o8 := wL (gl := gtc) ((le + 256) % 256) 8 (by decide) (by omega)
   rw [show (le + 256) % 256 = (if le < 0 then 256 + le else le) by split <;> omega] at o8
   have e8 : (le + 256) % 256 = (if le < 0 then 256 + le else le) := by split <;> omega
   have d2 := Ch (gl := gtc) la
   have l6 := dA ru 6 6
   have l8 := dA (if le < 0 then 256 + le else le) 8 8
   have l1 := yI la
   rw [← e8] at o8 l8 ⊢
   refine ACalls.enter Tryz.func125 rfl Tryz.ntmps125 (by kernel_rfl) rfl ?_; simp only [aB, nm, Nat.reduceAdd]
   repeat' (first | refine aa.aD ?_ | ((first | apply aa.q true | apply aa.qq true); rfl; rfl; rfl; rfl; first | exact True.intro | omega | (simp only [tn, Int.reduceToNat]; omega) | (simp only [List.length_append, List.length_cons, List.length_nil, l6, l8, l1]; omega)) | refine aa.ak (rc) ?_ | refine aa.aL (rc) ?_ | refine aa.ak (pl) ?_ | refine aa.aL (pl) ?_ | refine aa.ak (o7) ?_ | refine aa.aL (o7) ?_ | refine aa.ak (o6) ?_ | refine aa.aL (o6) ?_ | refine aa.ak (o8) ?_ | refine aa.aL (o8) ?_ | refine aa.ak (d2) ?_ | refine aa.aL (d2) ?_ | refine aa.aR ?_ | refine aa.ah ?_ | refine aa.af ?_ | refine aa.av ?_ | refine aa.ai ?_ | (refine aa.aP ?_; simp only [nm, nz, Nat.reduceAdd]) | intro _ | refine aa.au ?_)
   all_goals first | exact ⟨rfl, rfl⟩ | omega
  ·obtain ⟨t1, t2, t3⟩ := Eh la ru (max le (-le)) hb.1 ab.1 hm
   rw [if_pos t3, t2]
   obtain ⟨c1, c2⟩ := Ct _ t1
   have g1 := BX _ t1
   have g2 := BU _ t1
   have o1 := wK (gl := gtc) _ _ ⟨c1.1, by omega⟩ c2
   have lo := dA (cd2 (cJ la ru (max le (-le)))) (ln2 (cJ la ru (max le (-le)))).toNat (ln2 (cJ la ru (max le (-le)))).toNat
   have hl1 := BW
   have hl2 := BS
   generalize cJ la ru (max le (-le)) = pc at *
   refine ACalls.enter Tryz.func125 rfl Tryz.ntmps125 (by kernel_rfl) rfl ?_; simp only [aB, nm, Nat.reduceAdd]
   repeat' (first | refine aa.aD ?_ | ((first | apply aa.q true | apply aa.qq true); rfl; rfl; rfl; rfl; first | exact True.intro | omega | (simp only [tn, Int.reduceToNat]; omega) | (exact ⟨by omega, hl1⟩) | (exact ⟨by omega, hl2⟩) | (simp only [List.length_append, List.length_cons, List.length_nil, lo, hsl]; omega)) | refine aa.ak (rc) ?_ | refine aa.aL (rc) ?_ | refine aa.ak (pl) ?_ | refine aa.aL (pl) ?_ | refine aa.ak (o1) ?_ | refine aa.aL (o1) ?_ | refine aa.ak (d1) ?_ | refine aa.aL (d1) ?_ | refine aa.aR ?_ | refine aa.ah ?_ | refine aa.af ?_ | refine aa.av ?_ | refine aa.ai ?_ | (refine aa.aP ?_; simp only [nm, nz, Nat.reduceAdd]) | (apply aa.tQ; (iterate 7 rfl); exact g1) | (apply aa.tQ; (iterate 7 rfl); exact g2) | intro _ | refine aa.au ?_)
   all_goals first | exact ⟨rfl, rfl⟩ | omega
end Tc
end Go.Proofs.YtbfojhfiemcnpaaGreatDoor.Av
