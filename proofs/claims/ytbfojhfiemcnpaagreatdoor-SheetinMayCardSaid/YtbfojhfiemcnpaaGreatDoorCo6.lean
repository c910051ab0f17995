/- Cells: Put. -/
import Derived.Test.YtbfojhfiemcnpaaGreatDoorCo5
set_option linter.unusedVariables false
set_option linter.unusedSimpArgs false
set_option maxRecDepth 100000
set_option maxHeartbeats 64000000
namespace Go.Proofs.YtbfojhfiemcnpaaGreatDoor.Av
namespace Co
open Go Bt Tc Wr Bl Mb Cb Mv
attribute [local irreducible] aa ACalls
variable {gl : List (Nat × List D)}
def uY (W : List UInt8) (n : Nat) : Prop := W.all aX = true ∧ W.length ≤ n
theorem uY.app {W r : List UInt8} {n m : Nat} (h : uY W n) (k : uY r m) : uY (W ++ r) (n + m) := by
 obtain ⟨h1, h2⟩ := h
 obtain ⟨k1, k2⟩ := k
 exact ⟨by rw [List.all_append, h1, k1]; rfl, by rw [List.length_append]; omega⟩
theorem uY.add {W r : List UInt8} {n m : Nat} (h : uY W n) (k : uY r m) (hl : n + m ≤ 100000000) : ACalls (cxg gl) 22 [.ptr 0 0, S r] (WO W) (fun x H => x = I 0 ∧ H = WO (W ++ r)) :=
 og W r h.1 k.1 (by have := h.2; have := k.2; omega)
def mvR (c : Cel) (m p : Int) : List UInt8 := if aH c.kind = true then [] else sj (dz (m - dz p))
def stR (c : Cel) : List UInt8 := if cE c.kind = true then qM c.step else []
def putRow (w : List UInt8) (b : Bool) (px py : Int) (c : Cel) : List UInt8 := if c.skip = true then w ++ cZ b c else
 ((((((((((w ++ cZ b c) ++ pJ (aH c.kind) (dU c / 2 ^ 2)) ++ stR c) ++ mvR c c.mx px) ++ mvR c c.my py) ++ iL (aH c.kind) c.d0 c.e0) ++ iL (aH c.kind) c.d1 c.e1) ++ iL (aH c.kind) c.d2 c.e2) ++ iL (aH c.kind) c.d3 c.e3) ++ iL (aH c.kind) c.d4 c.e4) ++ iL (aH c.kind) c.d5 c.e5
attribute [local irreducible] bg aS bJ dY jW dU eu cZ pJ qM sj iL di dz qN
end Co
end Go.Proofs.YtbfojhfiemcnpaaGreatDoor.Av
