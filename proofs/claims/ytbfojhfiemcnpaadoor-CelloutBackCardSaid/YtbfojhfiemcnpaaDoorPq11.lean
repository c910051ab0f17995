/- mcbpc: the reference's Take. The laws of mcbpc. -/
import Derived.Test.YtbfojhfiemcnpaaDoorMb4
import Derived.Test.YtbfojhfiemcnpaaDoorMb3
/- mcbpc: the reference's Take. -/
set_option linter.unusedSimpArgs false
set_option linter.unusedVariables false
set_option maxRecDepth 100000
namespace Go.Proofs.YtbfojhfiemcnpaaDoor.Av.Mb
open Go Bt Px
attribute [local irreducible] AGo ACalls
variable {gl : List (Nat × List D)}
theorem mbRs_lit (b : Bool) : mbRs b = if b = true then wdI.flatten else wdJ.flatten := by unfold mbRs; cases b <;> decide +kernel
attribute [local irreducible] mbX qfin
end Go.Proofs.YtbfojhfiemcnpaaDoor.Av.Mb

/- The laws of mcbpc. -/
set_option linter.unusedSimpArgs false
set_option linter.unusedVariables false
set_option maxRecDepth 100000
namespace Go.Proofs.YtbfojhfiemcnpaaDoor.Av.Mb
open Go Bt Px
attribute [local irreducible] AGo ACalls
variable {gl : List (Nat × List D)}
theorem mbX_lit (b : Bool) (Dg : List UInt8) : mbX b Dg = (fun (y : Int × Int × Nat) => if y.2.1 = 0 then
    (if (y.1 + (if b = true then 0 else 12)) / 4 = 2 then ((0 : Int), (0 : Int), (6 : Int), 0)
     else ((y.1 + (if b = true then 0 else 12)) / 4, (y.1 + (if b = true then 0 else 12)) % 4, 0, y.2.2))
  else (0, 0, y.2.1, 0)) (rrun (if b = true then wdI.flatten else wdJ.flatten) Dg []) := by unfold mbX; rw [mbRs_lit]
set_option maxHeartbeats 4000000 in
theorem mb_rowI : ∀ (i : Nat), i < 21 → ∀ R, rrun wdI.flatten (wdI.flatten.getD i [] ++ R) [] = ((i : Int), 0, (wdI.flatten.getD i []).length)
  | 0, _, R => rfl
  | 1, _, R => rfl
  | 2, _, R => rfl
  | 3, _, R => rfl
  | 4, _, R => rfl
  | 5, _, R => rfl
  | 6, _, R => rfl
  | 7, _, R => rfl
  | 8, _, R => rfl
  | 9, _, R => rfl
  | 10, _, R => rfl
  | 11, _, R => rfl
  | 12, _, R => rfl
  | 13, _, R => rfl
  | 14, _, R => rfl
  | 15, _, R => rfl
  | 16, _, R => rfl
  | 17, _, R => rfl
  | 18, _, R => rfl
  | 19, _, R => rfl
  | 20, _, R => rfl
  | n + 21, h, _ => absurd h (by omega)
set_option maxHeartbeats 4000000 in
theorem mb_rowJ : ∀ (i : Nat), i < 9 → ∀ R, rrun wdJ.flatten (wdJ.flatten.getD i [] ++ R) [] = ((i : Int), 0, (wdJ.flatten.getD i []).length)
  | 0, _, R => rfl
  | 1, _, R => rfl
  | 2, _, R => rfl
  | 3, _, R => rfl
  | 4, _, R => rfl
  | 5, _, R => rfl
  | 6, _, R => rfl
  | 7, _, R => rfl
  | 8, _, R => rfl
  | n + 9, h, _ => absurd h (by omega)
theorem mbRow_at : ∀ k : _root_.Fin 6, ∀ c : _root_.Fin 4, (mbIs true k.val c.val = true → 4 * k.val + c.val < 21 ∧ mbRow true k.val c.val = wdI.flatten.getD (4 * k.val + c.val) []) ∧
    (mbIs false k.val c.val = true → 12 ≤ 4 * k.val + c.val ∧ 4 * k.val + c.val < 21 ∧ mbRow false k.val c.val = wdJ.flatten.getD (4 * k.val + c.val - 12) []) := by decide +kernel
theorem mbX_row (b : Bool) (k c : Int) (h : mbIs b k c = true) (R : List UInt8) : mbX b (mbRow b k c ++ R) = if k = 2 then (0, 0, 6, 0) else (k, c, 0, (mbRow b k c).length) := by
  obtain ⟨hk, hc⟩ := mbIs_bd b k c h
  obtain ⟨h1, h2⟩ := mbRow_at ⟨k.toNat, by omega⟩ ⟨c.toNat, by omega⟩
  simp only at h1 h2
  rw [show ((k.toNat : Nat) : Int) = k by omega, show ((c.toNat : Nat) : Int) = c by omega] at h1 h2
  rw [mbX_lit]
  cases b with
  | true =>
    obtain ⟨a1, a2⟩ := h1 h
    have := mb_rowI _ a1 R
    rw [a2]
    simp only [if_true]
    rw [this]
    have e1 : (((4 * k.toNat + c.toNat : Nat) : Int) + 0) / 4 = k := by omega
    have e2 : (((4 * k.toNat + c.toNat : Nat) : Int) + 0) % 4 = c := by omega
    simp only [if_true, e1, e2]
  | false =>
    obtain ⟨a0, a1, a2⟩ := h2 h
    have := mb_rowJ _ (show 4 * k.toNat + c.toNat - 12 < 9 by omega) R
    rw [a2]
    simp only [Bool.false_eq_true, if_false]
    rw [this]
    have e1 : (((4 * k.toNat + c.toNat - 12 : Nat) : Int) + 12) / 4 = k := by omega
    have e2 : (((4 * k.toNat + c.toNat - 12 : Nat) : Int) + 12) % 4 = c := by omega
    simp only [if_true, e1, e2]
attribute [local irreducible] mbX bitsF qfin mbRow mbIs showN packN
end Go.Proofs.YtbfojhfiemcnpaaDoor.Av.Mb
