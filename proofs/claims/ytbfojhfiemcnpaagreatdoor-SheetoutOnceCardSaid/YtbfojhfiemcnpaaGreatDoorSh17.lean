/- Sheets that may be: sound.Check. -/
import Derived.Test.YtbfojhfiemcnpaaGreatDoorSh16
import Derived.Test.YtbfojhfiemcnpaaGreatDoorPs2
import Derived.Test.YtbfojhfiemcnpaaGreatDoorCo6
set_option linter.unusedVariables false
set_option linter.unusedSimpArgs false
set_option maxRecDepth 100000
set_option maxHeartbeats 64000000
namespace Go.Proofs.YtbfojhfiemcnpaaGreatDoor.Av
namespace Sh
open Go Bt Tc Co Wr
attribute [local irreducible] aa ACalls
variable {gl : List (Nat × List D)}
def mvP (c : Cel) : Int × Int := (c.mx, c.my)
def oq (f : Int) (n : Nat) (c : Cel) : Bool := aK c.kind || qd f n (mvP c)
def gy (f : Int) (l : List Cel) : Nat → Bool
 | 0 => true
 | n + 1 => gy f l n && (match l[n]? with | some c => oq f n c | none => true)
theorem oJ {f : Int} {l : List Cel} {n : Nat} {c : Cel} (hc : l[n]? = some c) : gy f l (n + 1) = (gy f l n && oq f n c) := by simp only [gy, hc]
theorem xL {f : Int} {l : List Cel} {n : Nat} (hn : gy f l n = false) : ∀ k, gy f l (n + k) = false
 | 0 => hn
 | k + 1 => by
  have := xL hn k
  rw [← Nat.add_assoc, gy, this, Bool.false_and]
theorem vX {f : Int} {l : List Cel} {n : Nat} {c : Cel} (hc : l[n]? = some c) (hn : oq f n c = false) : gy f l l.length = false := by
 have h1 : gy f l (n + 1) = false := by rw [oJ hc, hn, Bool.and_false]
 have h2 := aF hc
 have := xL h1 (l.length - (n + 1))
 rwa [show n + 1 + (l.length - (n + 1)) = l.length by omega] at this
def jb (h : Hd) (rs : List Rw) (z : Int) : Bool := mH h && decide (0 ≤ z ∧ z ≤ 262144) && decide ((rs.length : Int) = fR h.fmt) && fQ h rs rs.length
def gK (h : Hd) (rs : List Rw) (z : Int) : Int := if jb h rs z = true then (if gy h.fmt (cellsOf rs) (cellsOf rs).length = true then 0 else 8) else 12
theorem xW {h : Hd} {n : Nat} {r : Rw} (hr : oP h n r = true) : (r.cells.length : Int) = fA h.fmt * fL h.fmt := by
 unfold oP at hr
 simp only [Bool.and_eq_true, decide_eq_true_eq] at hr
 exact hr.1.1
theorem vg {h : Hd} {rs : List Rw} : ∀ n, n ≤ rs.length → fQ h rs n = true → ((cellsOf (rs.take n)).length : Int) = n * (fA h.fmt * fL h.fmt)
 | 0, _, _ => by simp [cellsOf]
 | n + 1, hn, hh => by
  obtain ⟨r, hr⟩ : ∃ r, rs[n]? = some r := ⟨_, List.getElem?_eq_getElem (by omega)⟩
  rw [mi hr, Bool.and_eq_true] at hh
  have ih := vg n (by omega) hh.1
  have hl := xW hh.2
  rw [j4 hr, List.length_append, Int.natCast_add, ih, hl, Int.natCast_add, Int.add_mul]
  simp
theorem Gj {f : Int} (h : fOk f = true) : fR f * (fA f * fL f) = fA f * fD f := by
 have hb := uy h
 have : f = 1 ∨ f = 2 ∨ f = 3 ∨ f = 4 ∨ f = 5 ∨ f = 6 := by omega
 rcases this with rfl | rfl | rfl | rfl | rfl | rfl <;> decide
theorem jB {h : Hd} {rs : List Rw} {z : Int} (hh : jb h rs z = true) : mH h = true ∧ (0 ≤ z ∧ z ≤ 262144) ∧ (rs.length : Int) = fR h.fmt ∧ fQ h rs rs.length = true := by
 unfold jb at hh
 simp only [Bool.and_eq_true, decide_eq_true_eq] at hh
 exact ⟨hh.1.1.1, hh.1.1.2, hh.1.2, hh.2⟩
theorem q9 {h : Hd} {rs : List Rw} {z : Int} (hh : jb h rs z = true) : fOk h.fmt = true ∧ ((cellsOf rs).length : Int) = fA h.fmt * fD h.fmt := by
 obtain ⟨h1, h2, h3, h4⟩ := jB hh
 have hf := (nG h1).1.1
 refine ⟨hf, ?_⟩
 have := vg rs.length (Nat.le_refl _) h4
 rw [List.take_length, h3, Gj hf] at this
 exact this
attribute [local irreducible] bG suD bD rsD dE fQ mH cH bg bR eQ qd
theorem GL (h : Hd) (rs : List Rw) (z : Int) (ok : jP rs) (hl : h.supp.length ≤ 100) (hno : jb h rs z = false) :
  ACalls (cxg gtc) 15 [.d (shD h (rsD rs) z)] [] (fun x H => x = I 12 ∧ H = []) := by
 have hn := nQ rs
 have k2 := oO (gl := gtc) h.fmt
 have nw := qK (gl := gtc)
 cases hh : mH h with
 | false =>
  have sp := Ex (gl := gtc) h (rsD rs) z [] hh hl
  refine ACalls.enter Tryz.func15 rfl Tryz.ntmps15 (by kernel_rfl) rfl ?_; simp only [aB, nm, Nat.reduceAdd]
  repeat' (first | refine aa.aD ?_ | (apply aa.fE [0, 1, 2, 3, 4, 5, 6, 7, 8, 9, 10, 11, 12, 13, 14, 15, 16, 17, 18, 19, 20, 21, 22, 23, 24, 25, 26, 27] 28; rfl) | refine aM.cZ ?_ | (apply aM.go) | refine aM.kG ?_ | refine aM.jg true ?_ | refine aM.fu ?_ | (apply aM.two; rfl; rfl; rfl; kernel_rfl) | (exact aa.fS) | (apply aa.bK; (repeat' (first | exact aZ.nil | (apply aZ.cons; rfl))); rfl) | refine aa.aY true ?_ | (refine aa.ae [] ( nw) ?_; simp only [ny, nh, Nat.reduceAdd, Nat.reduceSub]) | (refine aa.ae [1,2] ( sp) ?_; simp only [ny, nh, Nat.reduceAdd, Nat.reduceSub]) | refine aa.ak (k2) ?_ | refine aa.av ?_ | (refine aa.aP ?_; simp only [nm, nz, Nat.reduceAdd]) | refine aa.aj ?_ | refine aa.cN ?_ | refine aa.bh ?_ | refine aa.fw ?_ | refine aa.eG ?_ | refine aa.aA ?_ | intro _ | refine aa.au ?_)
  all_goals first | exact ⟨rfl, rfl⟩ | omega
 | true =>
  have sp := zJ (gl := gtc) h (rsD rs) z [] 0 hh ⟨rfl, by simp⟩ (by omega)
  unfold jb at hno
  rw [hh, Bool.true_and] at hno
  by_cases hz : 0 ≤ z ∧ z ≤ 262144
  ·rw [decide_eq_true hz, Bool.true_and] at hno
   by_cases hR : (rs.length : Int) = fR h.fmt
   ·rw [decide_eq_true hR, Bool.true_and] at hno
    have ev := Ca h rs z ok
    rw [hno] at ev
    rw [← hR] at k2
    refine ACalls.enter Tryz.func15 rfl Tryz.ntmps15 (by kernel_rfl) rfl ?_; simp only [aB, nm, Nat.reduceAdd]
    repeat' (first | refine aa.aD ?_ | (apply aa.fE [0, 1, 2, 3, 4, 5, 6, 7, 8, 9, 10, 11, 12, 13, 14, 15, 16, 17, 18, 19, 20, 21, 22, 23, 24, 25, 26, 27] 28; rfl) | refine aM.cZ ?_ | (apply aM.go) | refine aM.kG ?_ | refine aM.jg true ?_ | refine aM.fu ?_ | (apply aM.two; rfl; rfl; rfl; kernel_rfl) | (exact aa.fS) | (apply aa.bK; (repeat' (first | exact aZ.nil | (apply aZ.cons; rfl))); rfl) | refine aa.aY true ?_ | (refine aa.ae [] ( nw) ?_; simp only [ny, nh, Nat.reduceAdd, Nat.reduceSub]) | (refine aa.ae [1,2] ( sp) ?_; simp only [ny, nh, Nat.reduceAdd, Nat.reduceSub]) | refine aa.ak (k2) ?_ | refine aa.ak (ev) ?_ | refine aa.av ?_ | (refine aa.aP ?_; simp only [nm, nz, Nat.reduceAdd]) | refine aa.aj ?_ | refine aa.cN ?_ | refine aa.bh ?_ | refine aa.fw ?_ | refine aa.eG ?_ | refine aa.aA ?_ | intro _ | refine aa.au ?_)
    all_goals first | exact ⟨rfl, rfl⟩ | omega
   ·refine ACalls.enter Tryz.func15 rfl Tryz.ntmps15 (by kernel_rfl) rfl ?_; simp only [aB, nm, Nat.reduceAdd]
    repeat' (first | refine aa.aD ?_ | (apply aa.fE [0, 1, 2, 3, 4, 5, 6, 7, 8, 9, 10, 11, 12, 13, 14, 15, 16, 17, 18, 19, 20, 21, 22, 23, 24, 25, 26, 27] 28; rfl) | refine aM.cZ ?_ | (apply aM.go) | refine aM.kG ?_ | refine aM.jg true ?_ | refine aM.fu ?_ | (apply aM.two; rfl; rfl; rfl; kernel_rfl) | (exact aa.fS) | (apply aa.bK; (repeat' (first | exact aZ.nil | (apply aZ.cons; rfl))); rfl) | refine aa.aY true ?_ | (refine aa.ae [] ( nw) ?_; simp only [ny, nh, Nat.reduceAdd, Nat.reduceSub]) | (refine aa.ae [1,2] ( sp) ?_; simp only [ny, nh, Nat.reduceAdd, Nat.reduceSub]) | refine aa.ak (k2) ?_ | refine aa.av ?_ | (refine aa.aP ?_; simp only [nm, nz, Nat.reduceAdd]) | refine aa.aj ?_ | refine aa.cN ?_ | refine aa.bh ?_ | refine aa.fw ?_ | refine aa.eG ?_ | refine aa.aA ?_ | intro _ | refine aa.au ?_)
    all_goals first | exact ⟨rfl, rfl⟩ | omega
  ·rcases (show z < 0 ∨ 262144 < z by omega) with hz0 | hz0
   all_goals
    refine ACalls.enter Tryz.func15 rfl Tryz.ntmps15 (by kernel_rfl) rfl ?_; simp only [aB, nm, Nat.reduceAdd]
    repeat' (first | refine aa.aD ?_ | (apply aa.fE [0, 1, 2, 3, 4, 5, 6, 7, 8, 9, 10, 11, 12, 13, 14, 15, 16, 17, 18, 19, 20, 21, 22, 23, 24, 25, 26, 27] 28; rfl) | refine aM.cZ ?_ | (apply aM.go) | refine aM.kG ?_ | refine aM.jg true ?_ | refine aM.fu ?_ | (apply aM.two; rfl; rfl; rfl; kernel_rfl) | (exact aa.fS) | (apply aa.bK; (repeat' (first | exact aZ.nil | (apply aZ.cons; rfl))); rfl) | refine aa.aY true ?_ | (refine aa.ae [] ( nw) ?_; simp only [ny, nh, Nat.reduceAdd, Nat.reduceSub]) | (refine aa.ae [1,2] ( sp) ?_; simp only [ny, nh, Nat.reduceAdd, Nat.reduceSub]) | refine aa.ak (k2) ?_ | refine aa.av ?_ | (refine aa.aP ?_; simp only [nm, nz, Nat.reduceAdd]) | refine aa.aj ?_ | refine aa.cN ?_ | refine aa.bh ?_ | refine aa.fw ?_ | refine aa.eG ?_ | refine aa.aA ?_ | intro _ | refine aa.au ?_)
    all_goals first | exact ⟨rfl, rfl⟩ | omega
end Sh
end Go.Proofs.YtbfojhfiemcnpaaGreatDoor.Av
