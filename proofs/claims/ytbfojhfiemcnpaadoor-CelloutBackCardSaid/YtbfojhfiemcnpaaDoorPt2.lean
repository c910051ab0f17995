/- The reference's rows of events. The reference's Row of an event. The program's rows of events: many, place. The program's rows of events: Row; it agrees with the reference's. -/
import Derived.Test.YtbfojhfiemcnpaaDoorPt1
/- The reference's rows of events. -/
set_option linter.unusedSimpArgs false
set_option linter.unusedVariables false
set_option maxRecDepth 100000
namespace Go.Proofs.YtbfojhfiemcnpaaDoor.Av.Tc
open Go Bt
attribute [local irreducible] AGo ACalls
variable {gl : List (Nat × List D)}
def tabS : List (List UInt8) := [[49, 48, 32, 49, 49, 49, 49, 32, 48, 49, 48, 49, 48, 49, 32, 48, 48, 49, 48, 49, 49, 49, 32, 48, 48, 48, 49, 49, 49, 49, 49, 32, 48, 48, 48, 49, 48, 48, 49, 48, 49, 32, 48, 48, 48, 49, 48, 48, 49, 48, 48, 32, 48, 48, 48, 48, 49, 48, 48, 48, 48, 49, 32, 48, 48, 48, 48, 49, 48, 48, 48, 48, 48, 32, 48, 48, 48, 48, 48, 48, 48, 48, 49, 49, 49, 32, 48, 48, 48, 48, 48, 48, 48, 48, 49, 49, 48, 32, 48, 48, 48, 48, 48, 49, 48, 48, 48, 48, 48], [49, 49, 48, 32, 48, 49, 48, 49, 48, 48, 32, 48, 48, 48, 49, 49, 49, 49, 48, 32, 48, 48, 48, 48, 48, 48, 49, 49, 49, 49, 32, 48, 48, 48, 48, 48, 49, 48, 48, 48, 48, 49, 32, 48, 48, 48, 48, 48, 49, 48, 49, 48, 48, 48, 48], [49, 49, 49, 48, 32, 48, 48, 48, 49, 49, 49, 48, 49, 32, 48, 48, 48, 48, 48, 48, 49, 49, 49, 48, 32, 48, 48, 48, 48, 48, 49, 48, 49, 48, 48, 48, 49], [48, 49, 49, 48, 49, 32, 48, 48, 48, 49, 48, 48, 48, 49, 49, 32, 48, 48, 48, 48, 48, 48, 49, 49, 48, 49], [48, 49, 49, 48, 48, 32, 48, 48, 48, 49, 48, 48, 48, 49, 48, 32, 48, 48, 48, 48, 48, 49, 48, 49, 48, 48, 49, 48], [48, 49, 48, 49, 49, 32, 48, 48, 48, 48, 48, 48, 49, 49, 48, 48, 32, 48, 48, 48, 48, 48, 49, 48, 49, 48, 48, 49, 49], [48, 49, 48, 48, 49, 49, 32, 48, 48, 48, 48, 48, 48, 49, 48, 49, 49, 32, 48, 48, 48, 48, 48, 49, 48, 49, 48, 49, 48, 48], [48, 49, 48, 48, 49, 48, 32, 48, 48, 48, 48, 48, 48, 49, 48, 49, 48], [48, 49, 48, 48, 48, 49, 32, 48, 48, 48, 48, 48, 48, 49, 48, 48, 49], [48, 49, 48, 48, 48, 48, 32, 48, 48, 48, 48, 48, 48, 49, 48, 48, 48], [48, 48, 49, 48, 49, 49, 48, 32, 48, 48, 48, 48, 48, 49, 48, 49, 48, 49, 48, 49], [48, 48, 49, 48, 49, 48, 49], [48, 48, 49, 48, 49, 48, 48], [48, 48, 48, 49, 49, 49, 48, 48], [48, 48, 48, 49, 49, 48, 49, 49], [48, 48, 48, 49, 48, 48, 48, 48, 49], [48, 48, 48, 49, 48, 48, 48, 48, 48], [48, 48, 48, 48, 49, 49, 49, 49, 49], [48, 48, 48, 48, 49, 49, 49, 49, 48], [48, 48, 48, 48, 49, 49, 49, 48, 49], [48, 48, 48, 48, 49, 49, 49, 48, 48], [48, 48, 48, 48, 49, 49, 48, 49, 49], [48, 48, 48, 48, 49, 49, 48, 49, 48], [48, 48, 48, 48, 48, 49, 48, 48, 48, 49, 48], [48, 48, 48, 48, 48, 49, 48, 48, 48, 49, 49], [48, 48, 48, 48, 48, 49, 48, 49, 48, 49, 49, 48], [48, 48, 48, 48, 48, 49, 48, 49, 48, 49, 49, 49]]
def endS : List (List UInt8) := [[48, 49, 49, 49, 32, 48, 48, 48, 48, 49, 49, 48, 48, 49, 32, 48, 48, 48, 48, 48, 48, 48, 48, 49, 48, 49], [48, 48, 49, 49, 49, 49, 32, 48, 48, 48, 48, 48, 48, 48, 48, 49, 48, 48], [48, 48, 49, 49, 49, 48], [48, 48, 49, 49, 48, 49], [48, 48, 49, 49, 48, 48], [48, 48, 49, 48, 48, 49, 49], [48, 48, 49, 48, 48, 49, 48], [48, 48, 49, 48, 48, 48, 49], [48, 48, 49, 48, 48, 48, 48], [48, 48, 48, 49, 49, 48, 49, 48], [48, 48, 48, 49, 49, 48, 48, 49], [48, 48, 48, 49, 49, 48, 48, 48], [48, 48, 48, 49, 48, 49, 49, 49], [48, 48, 48, 49, 48, 49, 49, 48], [48, 48, 48, 49, 48, 49, 48, 49], [48, 48, 48, 49, 48, 49, 48, 48], [48, 48, 48, 49, 48, 48, 49, 49], [48, 48, 48, 48, 49, 49, 48, 48, 48], [48, 48, 48, 48, 49, 48, 49, 49, 49], [48, 48, 48, 48, 49, 48, 49, 49, 48], [48, 48, 48, 48, 49, 48, 49, 48, 49], [48, 48, 48, 48, 49, 48, 49, 48, 48], [48, 48, 48, 48, 49, 48, 48, 49, 49], [48, 48, 48, 48, 49, 48, 48, 49, 48], [48, 48, 48, 48, 49, 48, 48, 48, 49], [48, 48, 48, 48, 48, 48, 48, 49, 49, 49], [48, 48, 48, 48, 48, 48, 48, 49, 49, 48], [48, 48, 48, 48, 48, 48, 48, 49, 48, 49], [48, 48, 48, 48, 48, 48, 48, 49, 48, 48], [48, 48, 48, 48, 48, 49, 48, 48, 49, 48, 48], [48, 48, 48, 48, 48, 49, 48, 48, 49, 48, 49], [48, 48, 48, 48, 48, 49, 48, 48, 49, 49, 48], [48, 48, 48, 48, 48, 49, 48, 48, 49, 49, 49], [48, 48, 48, 48, 48, 49, 48, 49, 49, 48, 48, 48], [48, 48, 48, 48, 48, 49, 48, 49, 49, 48, 48, 49], [48, 48, 48, 48, 48, 49, 48, 49, 49, 48, 49, 48], [48, 48, 48, 48, 48, 49, 48, 49, 49, 48, 49, 49], [48, 48, 48, 48, 48, 49, 48, 49, 49, 49, 48, 48], [48, 48, 48, 48, 48, 49, 48, 49, 49, 49, 48, 49], [48, 48, 48, 48, 48, 49, 48, 49, 49, 49, 49, 48], [48, 48, 48, 48, 48, 49, 48, 49, 49, 49, 49, 49]]
def lstS (la : Bool) : List (List UInt8) := if la = true then endS else tabS
def wdsS (la : Bool) (ru : Int) : List (List UInt8) := if (lstS la).length ≤ ru.toNat then [] else wordsS ((lstS la).getD ru.toNat [])
def hasS (la : Bool) (ru am : Int) : List UInt8 := if ((wdsS la ru).length : Int) < am then [] else (wdsS la ru).getD (am - 1).toNat []
def sgnS (n : Int) : List UInt8 := if n < 0 then [49] else [48]
def absS (n : Int) : Int := if n < 0 then -n else n
def lstD (la : Bool) : List UInt8 := if la = true then [49] else [48]
/-- the row of an event -/
def evRow (e : Ev) : List UInt8 := if evR e = true then
    (if hasS e.last e.run (absS e.level) ≠ [] then hasS e.last e.run (absS e.level) ++ sgnS e.level
     else (([48, 48, 48, 48, 48, 49, 49] ++ lstD e.last) ++ digs e.run 6 6) ++ digs (if e.level < 0 then 256 + e.level else e.level) 8 8)
  else []
attribute [local irreducible] rowsD wordsS tabS endS
attribute [local irreducible] wdsS
end Go.Proofs.YtbfojhfiemcnpaaDoor.Av.Tc

/- The reference's Row of an event. -/
set_option linter.unusedSimpArgs false
set_option linter.unusedVariables false
set_option maxRecDepth 100000
namespace Go.Proofs.YtbfojhfiemcnpaaDoor.Av.Tc
open Go Bt
attribute [local irreducible] AGo ACalls
variable {gl : List (Nat × List D)}
theorem absS_bd {n : Int} (h : n ≠ 0 ∧ -127 ≤ n ∧ n ≤ 127) : 1 ≤ absS n ∧ absS n ≤ 127 := by unfold absS; split <;> omega
theorem sgnS_len (n : Int) : (sgnS n).length = 1 := by unfold sgnS; split <;> rfl
theorem wds_short : ∀ la : Bool, ∀ ru : _root_.Fin 64, ∀ w ∈ wdsS la ru.val, w.length ≤ 12 := by decide +kernel
theorem hasS_len (la : Bool) (ru am : Int) (h : 0 ≤ ru ∧ ru ≤ 63) : (hasS la ru am).length ≤ 12 := by
  unfold hasS
  split
  · simp
  · rename_i hm
    rw [List.getD_eq_getElem?_getD]
    cases hx : (wdsS la ru)[(am - 1).toNat]? with
    | none => simp
    | some w =>
      have := wds_short la ⟨ru.toNat, by omega⟩ w
      simp only at this
      rw [show ((ru.toNat : Nat) : Int) = ru by omega] at this
      exact this (List.mem_of_getElem? hx)
attribute [local irreducible] rowsD wordsS tabS endS wdsS hasS digs
end Go.Proofs.YtbfojhfiemcnpaaDoor.Av.Tc

/- The program's rows of events: many, place. -/
set_option linter.unusedSimpArgs false
set_option linter.unusedVariables false
set_option maxRecDepth 100000
namespace Go.Proofs.YtbfojhfiemcnpaaDoor.Av.Tc
open Go Bt
attribute [local irreducible] AGo ACalls
variable {gl : List (Nat × List D)}
noncomputable abbrev gtc : List (Nat × List D) := [(1, gl1), (2, gl2)]
def manyS (la : Bool) (ru : Int) : Int := if la = true then (if ru = 0 then 3 else if ru = 1 then 2 else if ru ≤ 40 then 1 else 0)
  else (if ru = 0 then 12 else if ru = 1 then 6 else if ru = 2 then 4 else if ru ≤ 6 then 3 else if ru ≤ 10 then 2 else if ru ≤ 26 then 1 else 0)
def sumM (la : Bool) : Nat → Int
  | 0 => 0
  | n + 1 => sumM la n + manyS la n
def baseM (la : Bool) : Int := if la = true then sumM false 63 else 0
def placeS (la : Bool) (ru am : Int) : Int := if manyS la ru < am then -1 else baseM la + sumM la ru.toNat + am - 1
theorem manyS_bd (la : Bool) (ru : Int) : 0 ≤ manyS la ru ∧ manyS la ru ≤ 12 := by unfold manyS; repeat' split; all_goals omega
theorem sumM_bd (la : Bool) : ∀ n, 0 ≤ sumM la n ∧ sumM la n ≤ 12 * n
  | 0 => by simp [sumM]
  | n + 1 => by have := sumM_bd la n; have := manyS_bd la n; simp only [sumM]; omega
theorem many_c (la : Bool) (ru : Int) : ACalls (cxg gl) 78 [B la, I ru] [] (fun r H => r = I (manyS la ru) ∧ H = []) := by
  cases la
  all_goals
    refine ACalls.enter Tryd.func78 rfl Tryd.ntmps78 (by kernel_rfl) rfl ?_; simp only [argEnv, Nat.reduceAdd, List.length_nil, List.length_cons]
    repeat' (first | apply AGo.seq | apply AGo.block | apply AGo.blk | apply AGo.skip | apply AGo.nil | (apply AGo.region; rfl) | (apply AGo.q true; rfl; rfl; rfl; rfl; first | exact True.intro | omega | (simp only [Int.toNat_natCast, Int.reduceToNat, IntKind.bits]; omega)) | (apply AGo.condT; rfl) | (apply AGo.condF; rfl) | (apply AGo.unguard; rfl; rfl) | (apply AGo.skipOp; rfl; rfl; rfl) | intro _ | (apply AGo.condD' ; rfl) | (apply AGo.retN; rfl; rfl; rfl; rfl))
    all_goals refine ⟨congrArg I ?_, rfl⟩
    all_goals unfold manyS
    all_goals simp only [Bool.false_eq_true, if_false, if_true]
    all_goals repeat' split
    all_goals first | rfl | omega | (simp only [bT] at *; omega)
attribute [local irreducible] manyS
theorem sumM_succ (la : Bool) (n : Nat) : sumM la (n + 1) = sumM la n + manyS la n := rfl
theorem sumM_0 (la : Bool) : sumM la 0 = 0 := rfl
attribute [local irreducible] sumM
set_option maxHeartbeats 4000000 in
theorem place_c (la : Bool) (ru am : Int) (hr : 0 ≤ ru ∧ ru ≤ 63) (ha : 1 ≤ am ∧ am ≤ 127) : ACalls (cxg gl) 70 [B la, I ru, I am] [] (fun r H => r = I (placeS la ru am) ∧ H = []) := by
  have hm := many_c (gl := gl) la ru
  have hb := manyS_bd la ru
  unfold placeS
  by_cases h : manyS la ru < am
  · rw [if_pos h]
    refine ACalls.enter Tryd.func70 rfl Tryd.ntmps70 (by kernel_rfl) rfl ?_; simp only [argEnv, Nat.reduceAdd, List.length_nil, List.length_cons]
    repeat' (first | apply AGo.seq | apply AGo.block | apply AGo.blk | apply AGo.skip | apply AGo.nil | (apply AGo.region; rfl) | (apply AGo.q true; rfl; rfl; rfl; rfl; first | exact True.intro | omega | (simp only [Int.toNat_natCast, Int.reduceToNat, IntKind.bits]; omega)) | (apply AGo.callP (hm); (iterate 6 rfl)) | (apply AGo.condDT; rfl; first | omega | rfl) | (apply AGo.condDF; rfl; omega) | (apply AGo.condT; rfl) | (apply AGo.condF; rfl) | intro _ | (apply AGo.retN; rfl; rfl; rfl; rfl) | (apply AGo.outL; rfl; rfl))
    all_goals first | exact ⟨rfl, rfl⟩ | (exfalso; omega) | trace_state
  · rw [if_neg h]
    unfold baseM
    obtain ⟨n, rfl⟩ := Int.eq_ofNat_of_zero_le hr.1
    rw [Int.toNat_natCast]
    have s0 : ∀ la, sumM la 0 = 0 := fun la => sumM_0 la
    have hq := sumM_bd false 63
    cases la
    · refine ACalls.enter Tryd.func70 rfl Tryd.ntmps70 (by kernel_rfl) rfl ?_; simp only [argEnv, Nat.reduceAdd, List.length_nil, List.length_cons]
      repeat (first | apply AGo.seq | apply AGo.block | apply AGo.blk | apply AGo.skip | apply AGo.nil | (apply AGo.region; rfl) | (apply AGo.q true; rfl; rfl; rfl; rfl; first | exact True.intro | omega | (simp only [Int.toNat_natCast, Int.reduceToNat, IntKind.bits]; omega)) | (apply AGo.callP (hm); (iterate 6 rfl)) | (apply AGo.condDT; rfl; first | omega | rfl) | (apply AGo.condDF; rfl; omega) | (apply AGo.condT; rfl) | (apply AGo.condF; rfl))
      refine AGo.weak (env' := [(25, I ((0 : Nat) : Int)), (24, I (n : Int)), (7, I 0), (0, B false), (2, I am)]) ⟨rfl, rfl, rfl, rfl, rfl, trivial⟩ ?_
      refine AGo.loop (fun m env H => ∃ k : Nat, m = n - k ∧ k ≤ n ∧ env = [(25, I (k : Int)), (24, I (n : Int)), (7, I (0 + sumM false k)), (0, B false), (2, I am)] ∧ H = []) n
        ⟨0, rfl, by omega, by simp only [s0, Int.add_zero], rfl⟩ ?_
      rintro m env H ⟨k, rfl, hk, rfl, rfl⟩
      have hs := sumM_bd false k
      have hmk := many_c (gl := gl) false k
      have hbk := manyS_bd false k
      have e1 := sumM_succ false k
      rcases Nat.lt_or_ge k n with hlt | hge
      · repeat' (first | apply AGo.seq | apply AGo.block | apply AGo.blk | apply AGo.skip | apply AGo.nil | (apply AGo.region; rfl) | (apply AGo.q true; rfl; rfl; rfl; rfl; first | exact True.intro | omega | (simp only [Int.toNat_natCast, Int.reduceToNat, IntKind.bits]; omega)) | (apply AGo.callP (hmk); (iterate 6 rfl)) | (apply AGo.condDT; rfl; first | omega | rfl) | (apply AGo.condDF; rfl; omega) | (apply AGo.condT; rfl) | (apply AGo.condF; rfl) | intro _ | (apply AGo.retN; rfl; rfl; rfl; rfl) | (apply AGo.outL; rfl; rfl))
        all_goals first | exact AGo.round [(25, I ((k + 1 : Nat) : Int)), (24, I (n : Int)), (7, I (0 + sumM false (k + 1))), (0, B false), (2, I am)] (n - (k + 1)) (by omega) ⟨rfl, rfl, congrArg I (by rw [e1]; omega), rfl, rfl, trivial⟩ ⟨k + 1, rfl, hlt, rfl, rfl⟩ | trace_state
      · obtain rfl : k = n := by omega
        repeat' (first | apply AGo.seq | apply AGo.block | apply AGo.blk | apply AGo.skip | apply AGo.nil | (apply AGo.region; rfl) | (apply AGo.q true; rfl; rfl; rfl; rfl; first | exact True.intro | omega | (simp only [Int.toNat_natCast, Int.reduceToNat, IntKind.bits]; omega)) | (apply AGo.condDT; rfl; first | omega | rfl) | (apply AGo.condDF; rfl; omega) | (apply AGo.condT; rfl) | (apply AGo.condF; rfl) | intro _ | (apply AGo.retN; rfl; rfl; rfl; rfl) | (apply AGo.outL; rfl; rfl))
        all_goals first | exact ⟨congrArg I (by simp; omega), rfl⟩ | exact ⟨rfl, rfl⟩ | trace_state
    · refine ACalls.enter Tryd.func70 rfl Tryd.ntmps70 (by kernel_rfl) rfl ?_; simp only [argEnv, Nat.reduceAdd, List.length_nil, List.length_cons]
      repeat (first | apply AGo.seq | apply AGo.block | apply AGo.blk | apply AGo.skip | apply AGo.nil | (apply AGo.region; rfl) | (apply AGo.q true; rfl; rfl; rfl; rfl; first | exact True.intro | omega | (simp only [Int.toNat_natCast, Int.reduceToNat, IntKind.bits]; omega)) | (apply AGo.callP (hm); (iterate 6 rfl)) | (apply AGo.condDT; rfl; first | omega | rfl) | (apply AGo.condDF; rfl; omega) | (apply AGo.condT; rfl) | (apply AGo.condF; rfl))
      refine AGo.weak (env' := [(16, I ((0 : Nat) : Int)), (7, I 0), (0, B true), (1, I (n : Int)), (2, I am)]) ⟨rfl, rfl, rfl, rfl, rfl, trivial⟩ ?_
      refine AGo.loop (fun m env H => ∃ k : Nat, m = 63 - k ∧ k ≤ 63 ∧ env = [(16, I (k : Int)), (7, I (sumM false k)), (0, B true), (1, I (n : Int)), (2, I am)] ∧ H = []) 63
        ⟨0, rfl, by omega, by simp only [s0], rfl⟩ ?_
      rintro m env H ⟨k, rfl, hk, rfl, rfl⟩
      have hs := sumM_bd false k
      have hmk := many_c (gl := gl) false k
      have hbk := manyS_bd false k
      have e1 := sumM_succ false k
      rcases Nat.lt_or_ge k 63 with hlt | hge
      · repeat' (first | apply AGo.seq | apply AGo.block | apply AGo.blk | apply AGo.skip | apply AGo.nil | (apply AGo.region; rfl) | (apply AGo.q true; rfl; rfl; rfl; rfl; first | exact True.intro | omega | (simp only [Int.toNat_natCast, Int.reduceToNat, IntKind.bits]; omega)) | (apply AGo.callP (hmk); (iterate 6 rfl)) | (apply AGo.condDT; rfl; first | omega | rfl) | (apply AGo.condDF; rfl; omega) | (apply AGo.condT; rfl) | (apply AGo.condF; rfl) | intro _ | (apply AGo.retN; rfl; rfl; rfl; rfl) | (apply AGo.outL; rfl; rfl))
        all_goals first | exact AGo.round [(16, I ((k + 1 : Nat) : Int)), (7, I (sumM false (k + 1))), (0, B true), (1, I (n : Int)), (2, I am)] (63 - (k + 1)) (by omega) ⟨rfl, congrArg I (by rw [e1]), rfl, rfl, rfl, trivial⟩ ⟨k + 1, rfl, hlt, rfl, rfl⟩ | trace_state
      · obtain rfl : k = 63 := by omega
        repeat (first | apply AGo.seq | apply AGo.block | apply AGo.blk | apply AGo.skip | apply AGo.nil | (apply AGo.region; rfl) | (apply AGo.q true; rfl; rfl; rfl; rfl; first | exact True.intro | omega | (simp only [Int.toNat_natCast, Int.reduceToNat, IntKind.bits]; omega)) | (apply AGo.condDT; rfl; first | omega | rfl) | (apply AGo.condDF; rfl; omega) | (apply AGo.condT; rfl) | (apply AGo.condF; rfl))
        refine AGo.out rfl ⟨_, rfl, ?_⟩
        repeat (first | apply AGo.seq | apply AGo.block | apply AGo.blk | apply AGo.skip | apply AGo.nil | (apply AGo.region; rfl) | (apply AGo.q true; rfl; rfl; rfl; rfl; first | exact True.intro | omega | (simp only [Int.toNat_natCast, Int.reduceToNat, IntKind.bits]; omega)) | (apply AGo.condDT; rfl; first | omega | rfl) | (apply AGo.condDF; rfl; omega) | (apply AGo.condT; rfl) | (apply AGo.condF; rfl))
        refine AGo.weak (env' := [(25, I ((0 : Nat) : Int)), (24, I (n : Int)), (7, I (sumM false 63)), (0, B true), (2, I am)]) ⟨rfl, rfl, rfl, rfl, rfl, trivial⟩ ?_
        refine AGo.loop (fun m env H => ∃ k : Nat, m = n - k ∧ k ≤ n ∧ env = [(25, I (k : Int)), (24, I (n : Int)), (7, I (sumM false 63 + sumM true k)), (0, B true), (2, I am)] ∧ H = []) n
          ⟨0, rfl, by omega, by simp only [s0, Int.add_zero], rfl⟩ ?_
        rintro m env H ⟨k, rfl, hk, rfl, rfl⟩
        have hs := sumM_bd true k
        have hmk := many_c (gl := gl) true k
        have hbk := manyS_bd true k
        have e1 := sumM_succ true k
        rcases Nat.lt_or_ge k n with hlt | hge
        · repeat' (first | apply AGo.seq | apply AGo.block | apply AGo.blk | apply AGo.skip | apply AGo.nil | (apply AGo.region; rfl) | (apply AGo.q true; rfl; rfl; rfl; rfl; first | exact True.intro | omega | (simp only [Int.toNat_natCast, Int.reduceToNat, IntKind.bits]; omega)) | (apply AGo.callP (hmk); (iterate 6 rfl)) | (apply AGo.condDT; rfl; first | omega | rfl) | (apply AGo.condDF; rfl; omega) | (apply AGo.condT; rfl) | (apply AGo.condF; rfl) | intro _ | (apply AGo.retN; rfl; rfl; rfl; rfl) | (apply AGo.outL; rfl; rfl))
          all_goals first | exact AGo.round [(25, I ((k + 1 : Nat) : Int)), (24, I (n : Int)), (7, I (sumM false 63 + sumM true (k + 1))), (0, B true), (2, I am)] (n - (k + 1)) (by omega) ⟨rfl, rfl, congrArg I (by rw [e1]; omega), rfl, rfl, trivial⟩ ⟨k + 1, rfl, hlt, rfl, rfl⟩ | trace_state
        · obtain rfl : k = n := by omega
          repeat' (first | apply AGo.seq | apply AGo.block | apply AGo.blk | apply AGo.skip | apply AGo.nil | (apply AGo.region; rfl) | (apply AGo.q true; rfl; rfl; rfl; rfl; first | exact True.intro | omega | (simp only [Int.toNat_natCast, Int.reduceToNat, IntKind.bits]; omega)) | (apply AGo.condDT; rfl; first | omega | rfl) | (apply AGo.condDF; rfl; omega) | (apply AGo.condT; rfl) | (apply AGo.condF; rfl) | intro _ | (apply AGo.retN; rfl; rfl; rfl; rfl) | (apply AGo.outL; rfl; rfl))
          all_goals first | exact ⟨congrArg I (by simp; omega), rfl⟩ | exact ⟨rfl, rfl⟩ | trace_state

end Go.Proofs.YtbfojhfiemcnpaaDoor.Av.Tc

/- The program's rows of events: Row; it agrees with the reference's. -/
set_option linter.unusedSimpArgs false
set_option linter.unusedVariables false
set_option maxRecDepth 100000
namespace Go.Proofs.YtbfojhfiemcnpaaDoor.Av.Tc
open Go Bt
attribute [local irreducible] AGo ACalls
variable {gl : List (Nat × List D)}
def cd2 (k : Int) : Int := gi1.getD k.toNat 0
def ln2 (k : Int) : Int := gi2.getD k.toNat 0
theorem cdl_ok : ∀ k : _root_.Fin 102, (0 ≤ ln2 k.val ∧ ln2 k.val ≤ 12) ∧ 0 ≤ cd2 k.val ∧ cd2 k.val < 2 ^ (ln2 k.val).toNat := by decide +kernel
theorem cdl_ok' (a : Int) (h : 0 ≤ a ∧ a ≤ 101) : (0 ≤ ln2 a ∧ ln2 a ≤ 12) ∧ 0 ≤ cd2 a ∧ cd2 a < 2 ^ (ln2 a).toNat := by
  obtain ⟨k, rfl⟩ := Int.eq_ofNat_of_zero_le h.1
  exact cdl_ok ⟨k, by omega⟩
theorem gcd_eq : gl1 = gi1.map (.int .i64) := rfl
theorem gln_eq : gl2 = gi2.map (.int .i64) := rfl
theorem gcd_len : 102 * 1 ≤ gl1.length := by unfold gl1; decide
theorem gln_len : 102 * 1 ≤ gl2.length := by unfold gl2; decide
theorem gcd_get (a : Int) (h : 0 ≤ a ∧ a ≤ 101) : (gl1.drop (a.toNat * 1))[0]? = some (.int .i64 (cd2 a)) := by
  have hl : gi1.length = 102 := rfl
  rw [gcd_eq, List.getElem?_drop, List.getElem?_map]
  simp [cd2, List.getD, hl, show a.toNat < 102 by omega]
theorem gln_get (a : Int) (h : 0 ≤ a ∧ a ≤ 101) : (gl2.drop (a.toNat * 1))[0]? = some (.int .i64 (ln2 a)) := by
  have hl : gi2.length = 102 := rfl
  rw [gln_eq, List.getElem?_drop, List.getElem?_map]
  simp [ln2, List.getD, hl, show a.toNat < 102 by omega]
set_option maxHeartbeats 4000000 in
theorem tc_key : ∀ la : Bool, ∀ ru : _root_.Fin 64, ((wdsS la ru.val).length : Int) = manyS la ru.val ∧ ∀ a : _root_.Fin 12, (a.val : Int) < manyS la ru.val → (0 ≤ placeS la ru.val (a.val + 1) ∧ placeS la ru.val (a.val + 1) ≤ 101) ∧
    (wdsS la ru.val).getD a.val [] = digs (cd2 (placeS la ru.val (a.val + 1))) (ln2 (placeS la ru.val (a.val + 1))).toNat (ln2 (placeS la ru.val (a.val + 1))).toNat ∧ (wdsS la ru.val).getD a.val [] ≠ [] := by decide +kernel
theorem tc_no (la : Bool) (ru am : Int) (h : 0 ≤ ru ∧ ru ≤ 63) (hm : manyS la ru < am) : hasS la ru am = [] ∧ placeS la ru am = -1 := by
  obtain ⟨k1, _⟩ := tc_key la ⟨ru.toNat, by omega⟩
  simp only at k1
  rw [show ((ru.toNat : Nat) : Int) = ru by omega] at k1
  unfold hasS placeS
  rw [k1, if_pos hm, if_pos hm]; exact ⟨rfl, rfl⟩
theorem tc_yes (la : Bool) (ru am : Int) (h : 0 ≤ ru ∧ ru ≤ 63) (ha : 1 ≤ am) (hm : ¬ manyS la ru < am) : (0 ≤ placeS la ru am ∧ placeS la ru am ≤ 101) ∧ hasS la ru am = digs (cd2 (placeS la ru am)) (ln2 (placeS la ru am)).toNat (ln2 (placeS la ru am)).toNat ∧ hasS la ru am ≠ [] := by
  have hb := manyS_bd la ru
  obtain ⟨k1, k2⟩ := tc_key la ⟨ru.toNat, by omega⟩
  have k3 := k2 ⟨(am - 1).toNat, by omega⟩
  simp only at k1 k3
  rw [show ((ru.toNat : Nat) : Int) = ru by omega] at k1 k3
  rw [show (((am - 1).toNat : Nat) : Int) = am - 1 by omega, show am - 1 + 1 = am by omega] at k3
  have k4 := k3 (by omega)
  have e : hasS la ru am = (wdsS la ru).getD (am - 1).toNat [] := by unfold hasS; rw [k1, if_neg hm]
  rw [e]; exact k4
theorem digit_c (b : Bool) : ACalls (cxg gl) 71 [B b] [] (fun r H => r = S (lstD b) ∧ H = []) := by
  cases b
  all_goals
    refine ACalls.enter Tryd.func71 rfl Tryd.ntmps71 (by kernel_rfl) rfl ?_; simp only [argEnv, Nat.reduceAdd, List.length_nil, List.length_cons]
    repeat' (first | apply AGo.seq | apply AGo.skip | apply AGo.nil | (apply AGo.region; rfl) | (apply AGo.q true; rfl; rfl; rfl; rfl; first | exact True.intro | omega | (simp only [Int.toNat_natCast, Int.reduceToNat, IntKind.bits]; omega)) | (apply AGo.condT; rfl) | (apply AGo.condF; rfl) | intro _ | (apply AGo.retN; rfl; rfl; rfl; rfl))
    all_goals first | exact ⟨rfl, rfl⟩ | trace_state
theorem sgn_lst (n : Int) : lstD (decide (n < 0)) = sgnS n := by
  unfold lstD sgnS
  by_cases h : n < 0
  · rw [decide_eq_true h, if_pos rfl, if_pos h]
  · rw [decide_eq_false h, if_neg (by decide), if_neg h]
theorem abs_max (n : Int) : absS n = max n (-n) := by unfold absS; split <;> omega
theorem dg7 : digs 3 7 7 = [48, 48, 48, 48, 48, 49, 49] := by decide +kernel
theorem lstD_len (b : Bool) : (lstD b).length = 1 := by cases b <;> rfl
attribute [local irreducible] rowsD wordsS tabS endS wdsS hasS digs placeS manyS cd2 ln2
set_option maxHeartbeats 4000000 in
theorem evrow_c (e : Ev) : ACalls (cxg gtc) 55 [.d (evD e)] [] (fun r H => r = .tup [S (evRow e), B (evR e)] ∧ H = []) := by
  obtain ⟨la, ru, le⟩ := e
  have rc := right_c (gl := gtc) ⟨la, ru, le⟩
  unfold evRow
  cases hR : evR ⟨la, ru, le⟩ with
  | false =>
    rw [hR] at rc
    rw [if_neg (by decide)]
    refine ACalls.enter Tryd.func55 rfl Tryd.ntmps55 (by kernel_rfl) rfl ?_; simp only [argEnv, Nat.reduceAdd, List.length_nil, List.length_cons]
    repeat' (first | apply AGo.seq | apply AGo.skip | apply AGo.nil | apply AGo.qnil | (apply AGo.region; rfl) | ((first | apply AGo.q true | apply AGo.qq true); rfl; rfl; rfl; rfl; first | exact True.intro | omega | (simp only [Int.toNat_natCast, Int.reduceToNat, IntKind.bits]; omega)) | (apply AGo.callP (rc); (iterate 6 rfl)) | (apply AGo.qcallP (rc); (iterate 7 rfl)) | (apply AGo.drawQ; rfl; rfl; decide +kernel) | (apply AGo.condDT; rfl; first | omega | rfl) | (apply AGo.condDF; rfl; omega) | (apply AGo.condT; rfl) | (apply AGo.condF; rfl) | (apply AGo.box; (iterate 6 rfl); simp only [nm, Nat.reduceAdd, spliceA, AV.cells, D.cells]) | intro _ | (apply AGo.retN; rfl; rfl; rfl; rfl))
    all_goals first | exact ⟨rfl, rfl⟩ | trace_state
  | true =>
    rw [hR] at rc
    have hb : (0 ≤ ru ∧ ru ≤ 63) ∧ le ≠ 0 ∧ -127 ≤ le ∧ le ≤ 127 := of_decide_eq_true hR
    have ab := absS_bd hb.2
    rw [if_pos rfl]
    have pl := place_c (gl := gtc) la ru (absS le) hb.1 ab
    rw [abs_max] at pl ab
    simp only [abs_max]
    have hsl := sgnS_len le
    have d1 := digit_c (gl := gtc) (decide (le < 0))
    rw [sgn_lst] at d1
    by_cases hm : manyS la ru < max le (-le)
    · obtain ⟨t1, t2⟩ := tc_no la ru (max le (-le)) hb.1 hm
      rw [t1, if_neg (by simp)]
      rw [t2] at pl
      have o7 := orow_c (gl := gtc) 3 7 (by decide) (by decide)
      rw [dg7] at o7
      have o6 := orow_c (gl := gtc) ru 6 (by decide) (by omega)
      have o8 := orow_c (gl := gtc) ((le + 256) % 256) 8 (by decide) (by omega)
      rw [show (le + 256) % 256 = (if le < 0 then 256 + le else le) by split <;> omega] at o8
      have e8 : (le + 256) % 256 = (if le < 0 then 256 + le else le) := by split <;> omega
      have d2 := digit_c (gl := gtc) la
      have l6 := digs_len ru 6 6
      have l8 := digs_len (if le < 0 then 256 + le else le) 8 8
      have l1 := lstD_len la
      rw [← e8] at o8 l8 ⊢
      refine ACalls.enter Tryd.func55 rfl Tryd.ntmps55 (by kernel_rfl) rfl ?_; simp only [argEnv, Nat.reduceAdd, List.length_nil, List.length_cons]
      repeat' (first | apply AGo.seq | apply AGo.skip | apply AGo.nil | apply AGo.qnil | (apply AGo.region; rfl) | ((first | apply AGo.q true | apply AGo.qq true); rfl; rfl; rfl; rfl; first | exact True.intro | omega | (simp only [Int.toNat_natCast, Int.reduceToNat, IntKind.bits]; omega) | (simp only [List.length_append, List.length_cons, List.length_nil, l6, l8, l1]; omega)) | (apply AGo.callP (rc); (iterate 6 rfl)) | (apply AGo.qcallP (rc); (iterate 7 rfl)) | (apply AGo.callP (pl); (iterate 6 rfl)) | (apply AGo.qcallP (pl); (iterate 7 rfl)) | (apply AGo.callP (o7); (iterate 6 rfl)) | (apply AGo.qcallP (o7); (iterate 7 rfl)) | (apply AGo.callP (o6); (iterate 6 rfl)) | (apply AGo.qcallP (o6); (iterate 7 rfl)) | (apply AGo.callP (o8); (iterate 6 rfl)) | (apply AGo.qcallP (o8); (iterate 7 rfl)) | (apply AGo.callP (d2); (iterate 6 rfl)) | (apply AGo.qcallP (d2); (iterate 7 rfl)) | (apply AGo.drawQ; rfl; rfl; decide +kernel) | (apply AGo.condDT; rfl; first | omega | rfl) | (apply AGo.condDF; rfl; omega) | (apply AGo.condT; rfl) | (apply AGo.condF; rfl) | (apply AGo.box; (iterate 6 rfl); simp only [nm, Nat.reduceAdd, spliceA, AV.cells, D.cells]) | intro _ | (apply AGo.retN; rfl; rfl; rfl; rfl))
      all_goals first | exact ⟨rfl, rfl⟩ | (exfalso; omega) | trace_state
    · obtain ⟨t1, t2, t3⟩ := tc_yes la ru (max le (-le)) hb.1 ab.1 hm
      rw [if_pos t3, t2]
      obtain ⟨c1, c2⟩ := cdl_ok' _ t1
      have g1 := gcd_get _ t1
      have g2 := gln_get _ t1
      have o1 := orow_i (gl := gtc) _ _ ⟨c1.1, by omega⟩ c2
      have lo := digs_len (cd2 (placeS la ru (max le (-le)))) (ln2 (placeS la ru (max le (-le)))).toNat (ln2 (placeS la ru (max le (-le)))).toNat
      have hl1 := gcd_len
      have hl2 := gln_len
      generalize placeS la ru (max le (-le)) = pc at *
      refine ACalls.enter Tryd.func55 rfl Tryd.ntmps55 (by kernel_rfl) rfl ?_; simp only [argEnv, Nat.reduceAdd, List.length_nil, List.length_cons]
      repeat' (first | apply AGo.seq | apply AGo.skip | apply AGo.nil | apply AGo.qnil | (apply AGo.region; rfl) | ((first | apply AGo.q true | apply AGo.qq true); rfl; rfl; rfl; rfl; first | exact True.intro | omega | (simp only [Int.toNat_natCast, Int.reduceToNat, IntKind.bits]; omega) | (exact ⟨by omega, hl1⟩) | (exact ⟨by omega, hl2⟩) | (simp only [List.length_append, List.length_cons, List.length_nil, lo, hsl]; omega)) | (apply AGo.callP (rc); (iterate 6 rfl)) | (apply AGo.qcallP (rc); (iterate 7 rfl)) | (apply AGo.callP (pl); (iterate 6 rfl)) | (apply AGo.qcallP (pl); (iterate 7 rfl)) | (apply AGo.callP (o1); (iterate 6 rfl)) | (apply AGo.qcallP (o1); (iterate 7 rfl)) | (apply AGo.callP (d1); (iterate 6 rfl)) | (apply AGo.qcallP (d1); (iterate 7 rfl)) | (apply AGo.drawQ; rfl; rfl; decide +kernel) | (apply AGo.condDT; rfl; first | omega | rfl) | (apply AGo.condDF; rfl; omega) | (apply AGo.condT; rfl) | (apply AGo.condF; rfl) | (apply AGo.box; (iterate 6 rfl); simp only [nm, Nat.reduceAdd, spliceA, AV.cells, D.cells]) | (apply AGo.qloadG; (iterate 7 rfl); exact g1) | (apply AGo.qloadG; (iterate 7 rfl); exact g2) | intro _ | (apply AGo.retN; rfl; rfl; rfl; rfl))
      all_goals first | exact ⟨rfl, rfl⟩ | (exfalso; omega) | trace_state
end Go.Proofs.YtbfojhfiemcnpaaDoor.Av.Tc
