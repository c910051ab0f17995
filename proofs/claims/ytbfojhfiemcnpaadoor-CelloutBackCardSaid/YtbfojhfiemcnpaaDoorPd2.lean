/- Contracts that hold over any tables: readers of bits. The reference's rows of bits: Show. The reference's rows of a table: begins, Take. The plain law of tables of rows: reading digit by digit. -/
import Derived.Test.YtbfojhfiemcnpaaDoorPd
/- Contracts that hold over any tables: readers of bits. -/
set_option linter.unusedSimpArgs false
set_option linter.unusedVariables false
set_option maxRecDepth 100000
namespace Go.Proofs.YtbfojhfiemcnpaaDoor.Av.Bt
open Go
attribute [local irreducible] AGo ACalls
variable {gl : List (Nat × List D)}
abbrev Rd (s : List UInt8) (at' : Int) : AObj := .cells [S s, I at']
abbrev Pair (x : Int × Int) : AV := .tup [I x.1, I x.2]
set_option maxHeartbeats 2000000 in
theorem new_c (s : List UInt8) : ACalls (cxg gl) 9 [S s] [] (fun r H => r = .ptr 0 0 ∧ H = [Rd s 0]) := by
  refine ACalls.enter Tryd.func9 rfl Tryd.ntmps9 (by kernel_rfl) rfl ?_; simp only [argEnv, Nat.reduceAdd, List.length_nil, List.length_cons]
  repeat (first | apply AGo.seq | apply AGo.nil | (apply AGo.region; rfl) | (apply AGo.q true; rfl; rfl; rfl; rfl; first | exact True.intro | omega | (simp only [Int.toNat_natCast, Int.reduceToNat, IntKind.bits]; omega)) | (apply AGo.box; (iterate 6 rfl); simp only [nm, Nat.reduceAdd, spliceA, AV.cells, D.cells]) | (apply AGo.build; (iterate 5 rfl); simp only [nm, Nat.reduceAdd, spliceA, AV.cells, D.cells, mkAgg, unDs, AV.unD]))
  (apply AGo.retK 1; rfl; rfl; rfl; rfl; rfl)
  exact ⟨rfl, rfl⟩
/-- one bit -/
def pk1 (s : List UInt8) (p : Int) : Int × Int := if 8 * (s.length : Int) - p < 1 then (0, 2) else (bitS s p, 0)
def tk1 (s : List UInt8) (p : Int) : Int := if 8 * (s.length : Int) - p < 1 then p else p + 1
set_option maxHeartbeats 2000000 in
theorem peek1_c (s : List UInt8) (p : Int) (h0 : 0 ≤ p) (hs : s.length < 1000000000000000) (h1 : p ≤ 8 * (s.length : Int)) : ACalls (cxg gl) 72 [.ptr 0 0, I 1] [Rd s p] (fun r H => r = Pair (pk1 s p) ∧ H = [Rd s p]) := by
  refine ACalls.enter Tryd.func72 rfl Tryd.ntmps72 (by kernel_rfl) rfl ?_; simp only [argEnv, Nat.reduceAdd, List.length_nil, List.length_cons]
  by_cases hp : 8 * (s.length : Int) - p < 1
  · repeat' (first | apply AGo.seq | apply AGo.block | apply AGo.blk | apply AGo.skip | apply AGo.nil | apply AGo.qnil | (apply AGo.region; rfl) | ((first | apply AGo.q true | apply AGo.qq true); rfl; rfl; rfl; rfl; first | exact True.intro | omega | (simp only [Int.toNat_natCast, Int.reduceToNat, IntKind.bits]; omega)) | (apply AGo.drawQ; rfl; rfl; decide +kernel) | (apply AGo.exit; rfl) | (apply AGo.condDT; rfl; first | omega | rfl) | (apply AGo.condDF; rfl; omega) | (apply AGo.condF; rfl) | apply AGo.loopU | apply AGo.lpU | intro _ | (apply AGo.retN; rfl; rfl; rfl; rfl))
    refine ⟨?_, rfl⟩
    simp [pk1, hp]
  · repeat' (first | apply AGo.seq | apply AGo.block | apply AGo.blk | apply AGo.skip | apply AGo.nil | apply AGo.qnil | (apply AGo.region; rfl) | ((first | apply AGo.q true | apply AGo.qq true); rfl; rfl; rfl; rfl; first | exact True.intro | omega | (simp only [Int.toNat_natCast, Int.reduceToNat, IntKind.bits]; omega) | (exact ⟨bt_sh _ _ _, by decide⟩) | (simp only [Int.zero_mul, Int.toNat_zero, Nat.zero_or, Int.toNat_natCast, Int.reduceToNat, Nat.and_one_is_mod]; omega)) | (apply AGo.drawQ; rfl; rfl; decide +kernel) | (apply AGo.exit; rfl) | (apply AGo.condDT; rfl; first | omega | rfl) | (apply AGo.condDF; rfl; omega) | (apply AGo.condF; rfl) | apply AGo.loopU | apply AGo.lpU | intro _ | (apply AGo.retN; rfl; rfl; rfl; rfl))
    refine ⟨?_, rfl⟩
    have b1 := bt_sh s (p / 8).toNat (7 - p % 8).toNat
    simp only [pk1, if_neg hp, Int.zero_add, Int.add_zero, Int.zero_mul, Int.toNat_zero, Nat.zero_or, Int.toNat_natCast, Int.reduceToNat, Nat.and_one_is_mod, bitS]
    revert b1
    generalize bt s (p / 8).toNat / 2 ^ (7 - p % 8).toNat = A
    intro b1
    congr 4
    omega
set_option maxHeartbeats 2000000 in
theorem take1_c (s : List UInt8) (p : Int) (h0 : 0 ≤ p) (hs : s.length < 1000000000000000) (h1 : p ≤ 8 * (s.length : Int)) : ACalls (cxg gl) 56 [.ptr 0 0, I 1] [Rd s p] (fun r H => r = Pair (pk1 s p) ∧ H = [Rd s (tk1 s p)]) := by
  refine ACalls.enter Tryd.func56 rfl Tryd.ntmps56 (by kernel_rfl) rfl ?_; simp only [argEnv, Nat.reduceAdd, List.length_nil, List.length_cons]
  by_cases hp : 8 * (s.length : Int) - p < 1
  · have e : (pk1 s p).2 = 2 := by simp [pk1, hp]
    repeat' (first | apply AGo.seq | apply AGo.skip | apply AGo.nil | (apply AGo.region; rfl) | (apply AGo.q true; rfl; rfl; rfl; rfl; first | exact True.intro | omega | (simp only [Int.toNat_natCast, Int.reduceToNat, IntKind.bits]; omega)) | (apply AGo.callH [0] ( peek1_c s p h0 hs h1); (iterate 6 rfl); decide; rfl; rfl; simp only [names, putH, AV.ren, AV.renL, AObj.ren, nh, Nat.reduceAdd, Nat.reduceSub]) | (apply AGo.condDT; rfl; first | omega | rfl) | (apply AGo.condDF; rfl; omega) | (apply AGo.store; (iterate 9 rfl); exact Nat.le_of_ble_eq_true rfl; simp only [nm, Nat.reduceAdd, spliceA, AV.cells, D.cells]) | intro _ | (apply AGo.retN; rfl; rfl; rfl; rfl))
    refine ⟨rfl, ?_⟩
    simp [tk1, hp]
  · have e : (pk1 s p).2 = 0 := by simp [pk1, hp]
    repeat' (first | apply AGo.seq | apply AGo.skip | apply AGo.nil | (apply AGo.region; rfl) | (apply AGo.q true; rfl; rfl; rfl; rfl; first | exact True.intro | omega | (simp only [Int.toNat_natCast, Int.reduceToNat, IntKind.bits]; omega)) | (apply AGo.callH [0] ( peek1_c s p h0 hs h1); (iterate 6 rfl); decide; rfl; rfl; simp only [names, putH, AV.ren, AV.renL, AObj.ren, nh, Nat.reduceAdd, Nat.reduceSub]) | (apply AGo.condDT; rfl; first | omega | rfl) | (apply AGo.condDF; rfl; omega) | (apply AGo.store; (iterate 9 rfl); exact Nat.le_of_ble_eq_true rfl; simp only [nm, Nat.reduceAdd, spliceA, AV.cells, D.cells]) | intro _ | (apply AGo.retN; rfl; rfl; rfl; rfl))
    refine ⟨rfl, ?_⟩
    simp [tk1, hp]
set_option maxHeartbeats 2000000 in
theorem at_c (s : List UInt8) (p : Int) : ACalls (cxg gl) 13 [.ptr 0 0] [Rd s p] (fun r H => r = I p ∧ H = [Rd s p]) := by
  refine ACalls.enter Tryd.func13 rfl Tryd.ntmps13 (by kernel_rfl) rfl ?_; simp only [argEnv, Nat.reduceAdd, List.length_nil, List.length_cons]
  repeat' (first | apply AGo.seq | apply AGo.skip | apply AGo.nil | (apply AGo.region; rfl) | (apply AGo.q true; rfl; rfl; rfl; rfl; first | exact True.intro | omega | (simp only [Int.toNat_natCast, Int.reduceToNat, IntKind.bits]; omega)) | (apply AGo.condF; rfl) | intro _ | (apply AGo.retN; rfl; rfl; rfl; rfl))
  exact ⟨rfl, rfl⟩
set_option maxHeartbeats 2000000 in
theorem seek_c (s : List UInt8) (p q : Int) (hs : s.length < 1000000000000000) : ACalls (cxg gl) 10 [.ptr 0 0, I q] [Rd s p] (fun r H => r = I (if q < 0 ∨ 8 * (s.length : Int) < q then 1 else 0) ∧ H = [Rd s (if q < 0 ∨ 8 * (s.length : Int) < q then p else q)]) := by
  refine ACalls.enter Tryd.func10 rfl Tryd.ntmps10 (by kernel_rfl) rfl ?_; simp only [argEnv, Nat.reduceAdd, List.length_nil, List.length_cons]
  by_cases hq : q < 0 ∨ 8 * (s.length : Int) < q
  · rw [if_pos hq, if_pos hq]
    repeat' (first | apply AGo.seq | apply AGo.skip | apply AGo.nil | (apply AGo.region; rfl) | (apply AGo.q true; rfl; rfl; rfl; rfl; first | exact True.intro | omega | (simp only [Int.toNat_natCast, Int.reduceToNat, IntKind.bits]; omega)) | (apply AGo.condDT; rfl; first | omega | rfl) | (apply AGo.condDF; rfl; omega) | (apply AGo.condT; rfl) | (apply AGo.store; (iterate 9 rfl); exact Nat.le_of_ble_eq_true rfl; simp only [nm, Nat.reduceAdd, spliceA, AV.cells, D.cells]) | (apply AGo.unguard; rfl; rfl) | (apply AGo.gF; rfl; rfl; rfl; omega) | (apply AGo.skipOp; rfl; rfl; rfl) | intro _ | (apply AGo.gD; rfl; rfl; rfl) | (apply AGo.retN; rfl; rfl; rfl; rfl))
    all_goals first | omega | exact ⟨rfl, rfl⟩
  · rw [if_neg hq, if_neg hq]
    repeat' (first | apply AGo.seq | apply AGo.skip | apply AGo.nil | (apply AGo.region; rfl) | (apply AGo.q true; rfl; rfl; rfl; rfl; first | exact True.intro | omega | (simp only [Int.toNat_natCast, Int.reduceToNat, IntKind.bits]; omega)) | (apply AGo.condDT; rfl; first | omega | rfl) | (apply AGo.condDF; rfl; omega) | (apply AGo.condT; rfl) | (apply AGo.store; (iterate 9 rfl); exact Nat.le_of_ble_eq_true rfl; simp only [nm, Nat.reduceAdd, spliceA, AV.cells, D.cells]) | (apply AGo.unguard; rfl; rfl) | (apply AGo.gF; rfl; rfl; rfl; omega) | (apply AGo.skipOp; rfl; rfl; rfl) | intro _ | (apply AGo.gD; rfl; rfl; rfl) | (apply AGo.retN; rfl; rfl; rfl; rfl))
    all_goals first | omega | exact ⟨rfl, rfl⟩
theorem seek_ok (s : List UInt8) (p q : Int) (hs : s.length < 1000000000000000) (h : 0 ≤ q ∧ q ≤ 8 * (s.length : Int)) : ACalls (cxg gl) 10 [.ptr 0 0, I q] [Rd s p] (fun r H => r = I 0 ∧ H = [Rd s q]) := by
  have := seek_c (gl := gl) s p q hs
  rwa [if_neg (by omega), if_neg (by omega)] at this
end Go.Proofs.YtbfojhfiemcnpaaDoor.Av.Bt

/- The reference's rows of bits: Show. -/
set_option linter.unusedSimpArgs false
set_option linter.unusedVariables false
set_option maxRecDepth 100000
namespace Go.Proofs.YtbfojhfiemcnpaaDoor.Av.Bt
open Go
attribute [local irreducible] AGo ACalls
variable {gl : List (Nat × List D)}
attribute [local irreducible] showN
end Go.Proofs.YtbfojhfiemcnpaaDoor.Av.Bt

/- The reference's rows of a table: begins, Take. -/
set_option linter.unusedSimpArgs false
set_option linter.unusedVariables false
set_option maxRecDepth 100000
namespace Go.Proofs.YtbfojhfiemcnpaaDoor.Av.Bt
open Go
attribute [local irreducible] AGo ACalls
variable {gl : List (Nat × List D)}
def fidx (w : List UInt8) : List (List UInt8) → Nat → Option Nat
  | [], _ => none
  | r :: rs, i => if r = w then some i else fidx w rs (i + 1)
attribute [local irreducible] rowsD
end Go.Proofs.YtbfojhfiemcnpaaDoor.Av.Bt

/- The plain law of tables of rows: reading digit by digit. -/
set_option linter.unusedSimpArgs false
set_option linter.unusedVariables false
namespace Go.Proofs.YtbfojhfiemcnpaaDoor.Av.Bt
open Go
/-- what one more digit tells -/
inductive RR where
  | done (i : Nat) (c : Nat) | fail | next (w : List UInt8)
def rstep (rows : List (List UInt8)) (w : List UInt8) (x : UInt8) : RR :=
  match fidx (w ++ [x]) rows 0 with
  | some i => .done i (w.length + 1)
  | none => if rows.any (fun r => (w ++ [x]).isPrefixOf r) then .next (w ++ [x]) else .fail
/-- which row stands there, what is wrong, how many digits it has -/
def rrun (rows : List (List UInt8)) : List UInt8 → List UInt8 → Int × Int × Nat
  | [], _ => (0, 2, 0)
  | x :: r, w => match rstep rows w x with
    | .done i c => ((i : Int), 0, c)
    | .fail => (0, 3, 0)
    | .next w' => rrun rows r w'
end Go.Proofs.YtbfojhfiemcnpaaDoor.Av.Bt
