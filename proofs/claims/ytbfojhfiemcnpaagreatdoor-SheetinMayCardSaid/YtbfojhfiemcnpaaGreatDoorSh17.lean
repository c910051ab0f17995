/- Sheets that may be: sound.Check. -/
import Derived.Test.YtbfojhfiemcnpaaGreatDoorSh16
import Derived.Test.YtbfojhfiemcnpaaGreatDoorPs2
import Derived.Test.YtbfojhfiemcnpaaGreatDoorCo6
set_option linter.unusedVariables false
set_option linter.unusedSimpArgs false
set_option maxRecDepth 100000
set_option maxHeartbeats 64000000
namespace Go.Proofs.YtbfojhfiemcnpaaGreatDoor.Av
namespace Sh
open Go Bt Tc Co Wr
attribute [local irreducible] aa ACalls
variable {gl : List (Nat × List D)}
def mvP (c : Cel) : Int × Int := (c.mx, c.my)
def l9 (f : Int) (n : Nat) (c : Cel) : Bool := aH c.kind || nu f n (mvP c)
def eM (f : Int) (l : List Cel) : Nat → Bool
 | 0 => true
 | n + 1 => eM f l n && (match l[n]? with | some c => l9 f n c | none => true)
theorem mq {f : Int} {l : List Cel} {n : Nat} {c : Cel} (hc : l[n]? = some c) : eM f l (n + 1) = (eM f l n && l9 f n c) := by simp only [eM, hc]
theorem vp {f : Int} {l : List Cel} {n : Nat} (hn : eM f l n = false) : ∀ k, eM f l (n + k) = false
 | 0 => hn
 | k + 1 => by
  have := vp hn k
  rw [← Nat.add_assoc, eM, this, Bool.false_and]
theorem tQ {f : Int} {l : List Cel} {n : Nat} {c : Cel} (hc : l[n]? = some c) (hn : l9 f n c = false) : eM f l l.length = false := by
 have h1 : eM f l (n + 1) = false := by rw [mq hc, hn, Bool.and_false]
 have h2 := av hc
 have := vp h1 (l.length - (n + 1))
 rwa [show n + 1 + (l.length - (n + 1)) = l.length by omega] at this
def j5 (h : Hd) (rs : List Rw) (z : Int) : Bool := nG h && decide (0 ≤ z ∧ z ≤ 262144) && decide ((rs.length : Int) = fR h.fmt) && dW h rs rs.length
def rP (h : Hd) (rs : List Rw) (z : Int) : Int := if j5 h rs z = true then (if eM h.fmt (cellsOf rs) (cellsOf rs).length = true then 0 else 8) else 12
theorem vH {h : Hd} {n : Nat} {r : Rw} (hr : qR h n r = true) : (r.cells.length : Int) = fA h.fmt * fL h.fmt := by
 unfold qR at hr
 simp only [Bool.and_eq_true, decide_eq_true_eq] at hr
 exact hr.1.1
theorem sK {h : Hd} {rs : List Rw} : ∀ n, n ≤ rs.length → dW h rs n = true → ((cellsOf (rs.take n)).length : Int) = n * (fA h.fmt * fL h.fmt)
 | 0, _, _ => by simp [cellsOf]
 | n + 1, hn, hh => by
  obtain ⟨r, hr⟩ : ∃ r, rs[n]? = some r := ⟨_, List.getElem?_eq_getElem (by omega)⟩
  rw [kC hr, Bool.and_eq_true] at hh
  have ih := sK n (by omega) hh.1
  have hl := vH hh.2
  rw [nP hr, List.length_append, Int.natCast_add, ih, hl, Int.natCast_add, Int.add_mul]
  simp
theorem DJ {f : Int} (h : fOk f = true) : fR f * (fA f * fL f) = fA f * fD f := by
 have hb := rK h
 have : f = 1 ∨ f = 2 ∨ f = 3 ∨ f = 4 ∨ f = 5 ∨ f = 6 := by omega
 rcases this with rfl | rfl | rfl | rfl | rfl | rfl <;> decide
theorem lX {h : Hd} {rs : List Rw} {z : Int} (hh : j5 h rs z = true) : nG h = true ∧ (0 ≤ z ∧ z ≤ 262144) ∧ (rs.length : Int) = fR h.fmt ∧ dW h rs rs.length = true := by
 unfold j5 at hh
 simp only [Bool.and_eq_true, decide_eq_true_eq] at hh
 exact ⟨hh.1.1.1, hh.1.1.2, hh.1.2, hh.2⟩
theorem sZ {h : Hd} {rs : List Rw} {z : Int} (hh : j5 h rs z = true) : fOk h.fmt = true ∧ ((cellsOf rs).length : Int) = fA h.fmt * fD h.fmt := by
 obtain ⟨h1, h2, h3, h4⟩ := lX hh
 have hf := (nE h1).1.1
 refine ⟨hf, ?_⟩
 have := sK rs.length (Nat.le_refl _) h4
 rw [List.take_length, h3, DJ hf] at this
 exact this
attribute [local irreducible] bg suD bh rsD eu dW nG cZ aS bJ eH nu
theorem Ef (h : Hd) (rs : List Rw) (z : Int) (ok : nX rs) (hl : h.supp.length ≤ 100) (hno : j5 h rs z = false) :
  ACalls (cxg gtc) 15 [.d (shD h (rsD rs) z)] [] (fun x H => x = I 12 ∧ H = []) := by
 have hn := mR rs
 have k2 := oq (gl := gtc) h.fmt
 have nw := xk (gl := gtc)
 cases hh : nG h with
 | false =>
  have sp := BN (gl := gtc) h (rsD rs) z [] hh hl
  refine ACalls.enter Tryz.func15 rfl Tryz.ntmps15 (by kernel_rfl) rfl ?_; simp only [au, nm, Nat.reduceAdd]
  repeat' (first | (apply aa.st; rfl) | (apply aa.dF [0, 1, 2, 3, 4, 5, 6, 7, 8, 9, 10, 11, 12, 13, 14, 15, 16, 17, 18, 19, 20, 21, 22, 23, 24, 25, 26, 27] 28; rfl) | (apply aG.fin; kernel_rfl) | (apply aG.go) | (apply aG.pass; rfl; exact fun _ _ _ h => h; rfl; rfl; rfl; rfl; kernel_rfl; kernel_rfl) | (apply aG.pure true; rfl; exact fun _ _ _ h => h; (iterate 6 rfl); kernel_rfl; kernel_rfl; first | exact True.intro | omega) | (apply aG.one; rfl; rfl; kernel_rfl) | (apply aG.two; rfl; rfl; rfl; kernel_rfl) | (exact aa.dR) | (apply aa.ba; (repeat' (first | exact aN.nil | (apply aN.cons; rfl))); rfl) | (apply aa.q true; rfl; rfl; rfl; rfl; first | exact True.intro | omega | (simp only [tn, Int.reduceToNat]; omega)) | (apply aa.ah [] ( nw); (iterate 6 rfl); decide; rfl; rfl; simp only [ny, nh, Nat.reduceAdd, Nat.reduceSub]) | (apply aa.ah [1,2] ( sp); (iterate 6 rfl); decide; rfl; rfl; simp only [ny, nh, Nat.reduceAdd, Nat.reduceSub]) | (apply aa.aA (k2); (iterate 6 rfl)) | (apply aa.aB; rfl) | (apply aa.box; (iterate 6 rfl); simp only [nm, nz, Nat.reduceAdd]) | (apply aa.aj; rfl; rfl) | (apply aa.gT; rfl; rfl; rfl; first | omega | rfl) | (apply aa.gF; rfl; rfl; rfl; omega) | (apply aa.gBT; rfl; rfl; rfl; first | (simp only [bT]; omega)) | (apply aa.gBF; rfl; rfl; rfl; first | (simp only [bF]; omega) | exact ndF rfl) | (apply aa.az; rfl; rfl; rfl) | intro _ | (apply aa.aC; rfl; rfl; rfl; rfl))
  all_goals first | exact ⟨rfl, rfl⟩ | omega
 | true =>
  have sp := BO (gl := gtc) h (rsD rs) z [] 0 hh ⟨rfl, by simp⟩ (by omega)
  unfold j5 at hno
  rw [hh, Bool.true_and] at hno
  by_cases hz : 0 ≤ z ∧ z ≤ 262144
  ·rw [decide_eq_true hz, Bool.true_and] at hno
   by_cases hR : (rs.length : Int) = fR h.fmt
   ·rw [decide_eq_true hR, Bool.true_and] at hno
    have ev := zy h rs z ok
    rw [hno] at ev
    rw [← hR] at k2
    refine ACalls.enter Tryz.func15 rfl Tryz.ntmps15 (by kernel_rfl) rfl ?_; simp only [au, nm, Nat.reduceAdd]
    repeat' (first | (apply aa.st; rfl) | (apply aa.dF [0, 1, 2, 3, 4, 5, 6, 7, 8, 9, 10, 11, 12, 13, 14, 15, 16, 17, 18, 19, 20, 21, 22, 23, 24, 25, 26, 27] 28; rfl) | (apply aG.fin; kernel_rfl) | (apply aG.go) | (apply aG.pass; rfl; exact fun _ _ _ h => h; rfl; rfl; rfl; rfl; kernel_rfl; kernel_rfl) | (apply aG.pure true; rfl; exact fun _ _ _ h => h; (iterate 6 rfl); kernel_rfl; kernel_rfl; first | exact True.intro | omega) | (apply aG.one; rfl; rfl; kernel_rfl) | (apply aG.two; rfl; rfl; rfl; kernel_rfl) | (exact aa.dR) | (apply aa.ba; (repeat' (first | exact aN.nil | (apply aN.cons; rfl))); rfl) | (apply aa.q true; rfl; rfl; rfl; rfl; first | exact True.intro | omega | (simp only [tn, Int.reduceToNat]; omega)) | (apply aa.ah [] ( nw); (iterate 6 rfl); decide; rfl; rfl; simp only [ny, nh, Nat.reduceAdd, Nat.reduceSub]) | (apply aa.ah [1,2] ( sp); (iterate 6 rfl); decide; rfl; rfl; simp only [ny, nh, Nat.reduceAdd, Nat.reduceSub]) | (apply aa.aA (k2); (iterate 6 rfl)) | (apply aa.aA (ev); (iterate 6 rfl)) | (apply aa.aB; rfl) | (apply aa.box; (iterate 6 rfl); simp only [nm, nz, Nat.reduceAdd]) | (apply aa.aj; rfl; rfl) | (apply aa.gT; rfl; rfl; rfl; first | omega | rfl) | (apply aa.gF; rfl; rfl; rfl; omega) | (apply aa.gBT; rfl; rfl; rfl; first | (simp only [bT]; omega)) | (apply aa.gBF; rfl; rfl; rfl; first | (simp only [bF]; omega) | exact ndF rfl) | (apply aa.az; rfl; rfl; rfl) | intro _ | (apply aa.aC; rfl; rfl; rfl; rfl))
    all_goals first | exact ⟨rfl, rfl⟩ | omega
   ·refine ACalls.enter Tryz.func15 rfl Tryz.ntmps15 (by kernel_rfl) rfl ?_; simp only [au, nm, Nat.reduceAdd]
    repeat' (first | (apply aa.st; rfl) | (apply aa.dF [0, 1, 2, 3, 4, 5, 6, 7, 8, 9, 10, 11, 12, 13, 14, 15, 16, 17, 18, 19, 20, 21, 22, 23, 24, 25, 26, 27] 28; rfl) | (apply aG.fin; kernel_rfl) | (apply aG.go) | (apply aG.pass; rfl; exact fun _ _ _ h => h; rfl; rfl; rfl; rfl; kernel_rfl; kernel_rfl) | (apply aG.pure true; rfl; exact fun _ _ _ h => h; (iterate 6 rfl); kernel_rfl; kernel_rfl; first | exact True.intro | omega) | (apply aG.one; rfl; rfl; kernel_rfl) | (apply aG.two; rfl; rfl; rfl; kernel_rfl) | (exact aa.dR) | (apply aa.ba; (repeat' (first | exact aN.nil | (apply aN.cons; rfl))); rfl) | (apply aa.q true; rfl; rfl; rfl; rfl; first | exact True.intro | omega | (simp only [tn, Int.reduceToNat]; omega)) | (apply aa.ah [] ( nw); (iterate 6 rfl); decide; rfl; rfl; simp only [ny, nh, Nat.reduceAdd, Nat.reduceSub]) | (apply aa.ah [1,2] ( sp); (iterate 6 rfl); decide; rfl; rfl; simp only [ny, nh, Nat.reduceAdd, Nat.reduceSub]) | (apply aa.aA (k2); (iterate 6 rfl)) | (apply aa.aB; rfl) | (apply aa.box; (iterate 6 rfl); simp only [nm, nz, Nat.reduceAdd]) | (apply aa.aj; rfl; rfl) | (apply aa.gT; rfl; rfl; rfl; first | omega | rfl) | (apply aa.gF; rfl; rfl; rfl; omega) | (apply aa.gBT; rfl; rfl; rfl; first | (simp only [bT]; omega)) | (apply aa.gBF; rfl; rfl; rfl; first | (simp only [bF]; omega) | exact ndF rfl) | (apply aa.az; rfl; rfl; rfl) | intro _ | (apply aa.aC; rfl; rfl; rfl; rfl))
    all_goals first | exact ⟨rfl, rfl⟩ | omega
  ·rcases (show z < 0 ∨ 262144 < z by omega) with hz0 | hz0
   all_goals
    refine ACalls.enter Tryz.func15 rfl Tryz.ntmps15 (by kernel_rfl) rfl ?_; simp only [au, nm, Nat.reduceAdd]
    repeat' (first | (apply aa.st; rfl) | (apply aa.dF [0, 1, 2, 3, 4, 5, 6, 7, 8, 9, 10, 11, 12, 13, 14, 15, 16, 17, 18, 19, 20, 21, 22, 23, 24, 25, 26, 27] 28; rfl) | (apply aG.fin; kernel_rfl) | (apply aG.go) | (apply aG.pass; rfl; exact fun _ _ _ h => h; rfl; rfl; rfl; rfl; kernel_rfl; kernel_rfl) | (apply aG.pure true; rfl; exact fun _ _ _ h => h; (iterate 6 rfl); kernel_rfl; kernel_rfl; first | exact True.intro | omega) | (apply aG.one; rfl; rfl; kernel_rfl) | (apply aG.two; rfl; rfl; rfl; kernel_rfl) | (exact aa.dR) | (apply aa.ba; (repeat' (first | exact aN.nil | (apply aN.cons; rfl))); rfl) | (apply aa.q true; rfl; rfl; rfl; rfl; first | exact True.intro | omega | (simp only [tn, Int.reduceToNat]; omega)) | (apply aa.ah [] ( nw); (iterate 6 rfl); decide; rfl; rfl; simp only [ny, nh, Nat.reduceAdd, Nat.reduceSub]) | (apply aa.ah [1,2] ( sp); (iterate 6 rfl); decide; rfl; rfl; simp only [ny, nh, Nat.reduceAdd, Nat.reduceSub]) | (apply aa.aA (k2); (iterate 6 rfl)) | (apply aa.aB; rfl) | (apply aa.box; (iterate 6 rfl); simp only [nm, nz, Nat.reduceAdd]) | (apply aa.aj; rfl; rfl) | (apply aa.gT; rfl; rfl; rfl; first | omega | rfl) | (apply aa.gF; rfl; rfl; rfl; omega) | (apply aa.gBT; rfl; rfl; rfl; first | (simp only [bT]; omega)) | (apply aa.gBF; rfl; rfl; rfl; first | (simp only [bF]; omega) | exact ndF rfl) | (apply aa.az; rfl; rfl; rfl) | intro _ | (apply aa.aC; rfl; rfl; rfl; rfl))
    all_goals first | exact ⟨rfl, rfl⟩ | omega
end Sh
end Go.Proofs.YtbfojhfiemcnpaaGreatDoor.Av
