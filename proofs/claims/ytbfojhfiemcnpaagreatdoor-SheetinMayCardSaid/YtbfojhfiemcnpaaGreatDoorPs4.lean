/- Cells' digits are few. A sheet's next cell is written: sheetout.Put$1. A sheet's digits. A sheet is written: sheetout.Put. -/
import Derived.Test.YtbfojhfiemcnpaaGreatDoorSh18
set_option linter.unusedVariables false
set_option linter.unusedSimpArgs false
set_option maxRecDepth 100000
set_option maxHeartbeats 64000000
namespace Go.Proofs.YtbfojhfiemcnpaaGreatDoor.Av
namespace Co
open Go Bt Tc Wr Bl
attribute [local irreducible] aa ACalls
variable {gl : List (Nat × List D)}
theorem uY.nil (n : Nat) : uY [] n := ⟨rfl, by simp⟩
end Co
namespace Sh
open Go Bt Co Wr
attribute [local irreducible] aa ACalls
variable {gl : List (Nat × List D)}
def qo (b : Bool) (A F : Int) (vs : List (Int × Int)) (c : Cel) : List UInt8 := putRow [] b (ofV vs A F).1 (ofV vs A F).2 c
attribute [local irreducible] Tc.bg suD bh rsD eu aS bJ eH putRow ofV vD
end Sh
namespace Sh
open Go Bt Co Wr
def mvs (l : List Cel) : List (Int × Int) := l.map mvP
theorem Fu (l m : List Cel) : mvs (l ++ m) = mvs l ++ mvs m := by simp [mvs]
theorem Ft (l : List Cel) : (mvs l).length = l.length := by simp [mvs]
def jh (b : Bool) (A F : Int) : List (Int × Int) → List Cel → List UInt8
 | _, [] => []
 | vs, c :: r => qo b A F vs c ++ jh b A F (vs ++ [mvP c]) r
def il (L : Int) (rs : List Rw) : Nat → Int
 | 0 => 0
 | i + 1 => match rs[i]? with | some r => if r.head = true then i * L else il L rs i | none => il L rs i
def jD (n : Nat) (i : Nat) (r : Rw) (out : List UInt8) : List UInt8 := if r.head = true then out ++ (zs (bP (n + out.length)) ++ yM i r.id r.quant) else out
def pQ (h : Hd) (rs : List Rw) (n : Nat) : Nat → List UInt8
 | 0 => zs (bP n) ++ cZ h
 | i + 1 => match rs[i]? with | some r => jD n i r (pQ h rs n i) ++ jh h.inter (fA h.fmt) (il (fL h.fmt) rs (i + 1)) (mvs (cellsOf (rs.take i))) r.cells | none => pQ h rs n i
theorem wI {L : Int} {rs : List Rw} {i : Nat} {r : Rw} (h : rs[i]? = some r) : il L rs (i + 1) = if r.head = true then i * L else il L rs i := by simp only [il, h]
theorem Ak {h : Hd} {rs : List Rw} {n i : Nat} {r : Rw} (hr : rs[i]? = some r) : pQ h rs n (i + 1) = jD n i r (pQ h rs n i) ++ jh h.inter (fA h.fmt) (il (fL h.fmt) rs (i + 1)) (mvs (cellsOf (rs.take i))) r.cells := by simp only [pQ, hr]
def qO (h : Hd) (rs : List Rw) (z : Int) (n : Nat) : List UInt8 := pQ h rs n rs.length ++ zs (bP (n + (pQ h rs n rs.length).length)) ++ zs (8 * z.toNat)
theorem lT (n : Nat) : bP n ≤ 7 := by have := lS n; omega
theorem vG {h : Hd} {rs : List Rw} : ∀ {n i : Nat} {r : Rw}, dW h rs n = true → i < n → rs[i]? = some r → qR h i r = true
 | n + 1, i, r, hh, hi, hr => by
  rw [dW, Bool.and_eq_true] at hh
  by_cases he : i = n
  ·subst he
   have := hh.2
   rw [hr] at this
   exact this
  ·exact vG hh.1 (by omega) hr
end Sh
namespace Sh
open Go Bt Co Wr
attribute [local irreducible] aa ACalls
variable {gl : List (Nat × List D)}
attribute [local irreducible] Tc.bg suD bh rsD eu aS bJ eH putRow ofV vD dW nG Sh.cZ yM zs jh pQ jD il mvs cellsOf qo rP eM
end Sh
end Go.Proofs.YtbfojhfiemcnpaaGreatDoor.Av
