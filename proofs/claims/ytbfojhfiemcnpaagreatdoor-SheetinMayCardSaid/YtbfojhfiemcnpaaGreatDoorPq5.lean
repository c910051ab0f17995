/- Cells are read: what is told of bits. Cells are read: steps; the parts' contracts. Cells are read: cellin's head. Cells are read: cellin's middle. -/
import Derived.Test.YtbfojhfiemcnpaaGreatDoorPq2
import Derived.Test.YtbfojhfiemcnpaaGreatDoorCo2
import Derived.Test.YtbfojhfiemcnpaaGreatDoorPq3
import Derived.Test.YtbfojhfiemcnpaaGreatDoorPq11
import Derived.Test.YtbfojhfiemcnpaaGreatDoorPn5
set_option linter.unusedVariables false
set_option linter.unusedSimpArgs false
set_option maxRecDepth 100000
set_option maxHeartbeats 64000000
namespace Go.Proofs.YtbfojhfiemcnpaaGreatDoor.Av
namespace Ci
open Go Bt Tc Co Bl
attribute [local irreducible] aa ACalls
variable {gl : List (Nat × List D)}
def mbN (b : Bool) (B : List Int) : Int × Int × Int × Nat := Mb.mbX b (B.map bi)
def cbN (b : Bool) (B : List Int) : Int × Int × Nat := ((Cb.cbX b (B.map bi)).1, (Cb.cbX b (B.map bi)).2.1, if (Cb.cbX b (B.map bi)).2.1 = 0 then (Cb.cbX b (B.map bi)).2.2 else 0)
def mvN (B : List Int) : Int × Int × Nat := ((Mv.mt B 0 1).1, (Mv.mt B 0 1).2.1, if (Mv.mt B 0 1).2.1 = 0 then (Mv.mt B 0 1).2.2 else 0)
def stX (v : Int) (n : Nat) : Int × Int × Nat := if n < 2 then (0, 2, 0) else (if 2 ≤ v then v - 1 else -1 - v, 0, 2)
def stN (B : List Int) : Int × Int × Nat := stX (nB (B.take 2)) B.length
structure HdR where
 stuff : Int
 skip : Bool
 kind : Int
 chr : Int
 err : Int
 used : Nat
def hdK (n : Int) (k : Nat) (x : Int × Int × Int × Nat) (y : HdR) : HdR :=
 if x.2.2.1 ≠ 0 then ⟨n, false, 0, 0, x.2.2.1, k⟩ else
 if x.1 ≠ 5 then ⟨n, false, x.1, x.2.1, 0, k + x.2.2.2⟩ else
 if n = 64 then ⟨n, false, 0, 0, 13, k + x.2.2.2⟩ else
 { y with used := k + x.2.2.2 + y.used }
def hdX (b : Bool) : Nat → Int → List Int → HdR
  | 0, n, _ => ⟨n, false, 0, 0, 13, 0⟩
  | f + 1, n, B =>
    if b = true then
      (if B = [] then ⟨n, false, 0, 0, 2, 0⟩ else if B.getD 0 0 = 1 then ⟨n, true, 0, 0, 0, 1⟩ else
       hdK n 1 (mbN b (B.drop 1)) (hdX b f (n + 1) (B.drop (1 + (mbN b (B.drop 1)).2.2.2))))
    else hdK n 0 (mbN b B) (hdX b f (n + 1) (B.drop (mbN b B).2.2.2))
structure MdR where
 pat : Int
 step : Int
 mx : Int
 my : Int
 err : Int
 used : Nat
def wr (p d : Int) : Int := dz (dz p + d)
def mdM (k px py : Int) (B : List Int) (pat step : Int) (q : Nat) : MdR :=
 if aH k = true then ⟨pat, step, 0, 0, 0, q⟩ else
 if (mvN (B.drop q)).2.1 ≠ 0 then ⟨pat, step, wr px (mvN (B.drop q)).1, 0, (mvN (B.drop q)).2.1, q⟩ else
 ⟨pat, step, wr px (mvN (B.drop q)).1, wr py (mvN (B.drop (q + (mvN (B.drop q)).2.2))).1, (mvN (B.drop (q + (mvN (B.drop q)).2.2))).2.1, q + (mvN (B.drop q)).2.2 + (mvN (B.drop (q + (mvN (B.drop q)).2.2))).2.2⟩
def mdX (k px py : Int) (B : List Int) : MdR :=
  if (cbN (aH k) B).2.1 ≠ 0 then ⟨(cbN (aH k) B).1, 0, 0, 0, (cbN (aH k) B).2.1, 0⟩ else
  if cE k = true then
    (if (stN (B.drop (cbN (aH k) B).2.2)).2.1 ≠ 0 then ⟨(cbN (aH k) B).1, (stN (B.drop (cbN (aH k) B).2.2)).1, 0, 0, (stN (B.drop (cbN (aH k) B).2.2)).2.1, (cbN (aH k) B).2.2⟩ else
     mdM k px py B (cbN (aH k) B).1 (stN (B.drop (cbN (aH k) B).2.2)).1 ((cbN (aH k) B).2.2 + (stN (B.drop (cbN (aH k) B).2.2)).2.2))
  else mdM k px py B (cbN (aH k) B).1 0 (cbN (aH k) B).2.2
def aZ (v : Int) (i : Nat) : Bool := decide (v / 2 ^ (5 - i) % 2 = 1)
def bdX (intra : Bool) : List Bool → List Int → Nat → List (Int × List Ev) × Int × Nat
 | [], _, q => ([], 0, q)
 | c :: cs, B, q =>
  if (blX intra c (B.drop q)).2.2.1 ≠ 0 then ([], (blX intra c (B.drop q)).2.2.1, q) else
  (((blX intra c (B.drop q)).1, (blX intra c (B.drop q)).2.1) :: (bdX intra cs B (q + (blX intra c (B.drop q)).2.2.2)).1, (bdX intra cs B (q + (blX intra c (B.drop q)).2.2.2)).2)
def cds (v : Int) : List Bool := [aZ v 0, aZ v 1, aZ v 2, aZ v 3, aZ v 4, aZ v 5]
def ym : Cel := ⟨0, false, 0, 0, 0, 0, 0, 0, 0, 0, 0, 0, [], [], [], [], [], []⟩
def ia (st k sp mx my : Int) : List (Int × List Ev) → Cel
 | [b0, b1, b2, b3, b4, b5] => ⟨st, false, k, sp, mx, my, b0.1, b1.1, b2.1, b3.1, b4.1, b5.1, b0.2, b1.2, b2.2, b3.2, b4.2, b5.2⟩
 | _ => ym
def Bb (px py : Int) (B : List Int) (h : HdR) : Cel × Int × Nat :=
  if h.err ≠ 0 then (ym, h.err, 0) else
  if h.skip = true then (⟨h.stuff, true, 0, 0, 0, 0, 0, 0, 0, 0, 0, 0, [], [], [], [], [], []⟩, 0, h.used) else
  if (mdX h.kind px py (B.drop h.used)).err ≠ 0 then (ym, (mdX h.kind px py (B.drop h.used)).err, 0) else
  if (bdX (aH h.kind) (cds (4 * (mdX h.kind px py (B.drop h.used)).pat + h.chr)) (B.drop h.used) (mdX h.kind px py (B.drop h.used)).used).2.1 ≠ 0 then (ym, (bdX (aH h.kind) (cds (4 * (mdX h.kind px py (B.drop h.used)).pat + h.chr)) (B.drop h.used) (mdX h.kind px py (B.drop h.used)).used).2.1, 0) else
  (ia h.stuff h.kind (mdX h.kind px py (B.drop h.used)).step (mdX h.kind px py (B.drop h.used)).mx (mdX h.kind px py (B.drop h.used)).my (bdX (aH h.kind) (cds (4 * (mdX h.kind px py (B.drop h.used)).pat + h.chr)) (B.drop h.used) (mdX h.kind px py (B.drop h.used)).used).1, 0,
   h.used + (bdX (aH h.kind) (cds (4 * (mdX h.kind px py (B.drop h.used)).pat + h.chr)) (B.drop h.used) (mdX h.kind px py (B.drop h.used)).used).2.2)
def fS (b : Bool) (px py : Int) (B : List Int) : Cel × Int × Nat := Bb px py B (hdX b 65 0 B)
theorem uA (b : Bool) (B : List Int) (h : (mbN b B).2.2.1 ≠ 0) : (mbN b B).1 = 0 ∧ (mbN b B).2.1 = 0 ∧ (mbN b B).2.2.2 = 0 := by
 unfold mbN Mb.mbX at h ⊢
 generalize bR (Mb.iF b) (B.map bi) [] = y at *
 obtain ⟨i, e, c⟩ := y
 simp only at h ⊢
 by_cases h1 : e = 0
 ·rw [if_pos h1] at h ⊢
  by_cases h2 : (i + (if b = true then 0 else 12)) / 4 = 2
  ·rw [if_pos h2]; exact ⟨rfl, rfl, rfl⟩
  ·rw [if_neg h2] at h
   exact absurd rfl h
 ·rw [if_neg h1]; exact ⟨rfl, rfl, rfl⟩
theorem xQ (b : Bool) (B : List Int) : (mbN b B).2.2.2 ≤ B.length := by
 have hu := jR (Mb.iF b) (B.map bi) []
 unfold mbN Mb.mbX
 generalize bR (Mb.iF b) (B.map bi) [] = y at *
 obtain ⟨i, e, c⟩ := y
 simp only at hu ⊢
 by_cases h1 : e = 0
 ·rw [if_pos h1]
  by_cases h2 : (i + (if b = true then 0 else 12)) / 4 = 2
  ·rw [if_pos h2]; exact Nat.zero_le _
  ·rw [if_neg h2]
   simpa using hu h1
 ·rw [if_neg h1]; exact Nat.zero_le _
theorem yp (b : Bool) (B : List Int) : (cbN b B).2.2 ≤ B.length := by
 have hu := jR Cb.cbR (B.map bi) []
 unfold cbN Cb.cbX
 split
 ·rename_i h1
  simpa using hu h1
 ·exact Nat.zero_le _
theorem xM {B : List Int} (hB : ∀ b ∈ B, b = 0 ∨ b = 1) : Mv.Same (Mv.mt B 0 1) (bR Mv.iK (B.map bi) []) := by
 have h2 := Mv.xd 14 _ _ Mv.Bg B hB
 rwa [Mv.zb] at h2
theorem uz {B : List Int} (hB : ∀ b ∈ B, b = 0 ∨ b = 1) : (mvN B).2.2 ≤ B.length := by
 have hs := xM hB
 have hu := jR Mv.iK (B.map bi) []
 unfold mvN
 split
 ·rename_i h1
  rw [hs.1] at h1 ⊢
  simpa using hu h1
 ·exact Nat.zero_le _
theorem BM (B : List Int) : (stN B).2.2 ≤ B.length := by
 unfold stN stX
 split
 ·exact Nat.zero_le _
 ·simp only; omega
theorem Ew (intra c : Bool) (s : List UInt8) (p : Nat) (hp : p ≤ 8 * s.length) : p + (blX intra c (ai s p)).2.2.2 ≤ 8 * s.length := by
 have hl := cL s p
 have hd := D7 (nB ((ai s p).take 8)) (ai s p).length
 have h0 : p + (dc0 intra (ai s p)).2.2 ≤ 8 * s.length := by
  unfold dc0
  split
  ·omega
  ·simpa using hp
 have he := uK 66 s (p + (dc0 intra (ai s p)).2.2) (frm intra : Nat) h0
 rw [← bW] at he
 unfold blX
 split
 ·simpa using hp
 ·split
  ·split
   ·simpa using hp
   ·simp only; omega
  ·exact h0
end Ci
namespace Ci
open Go Bt Tc Co Bl
attribute [local irreducible] aa ACalls
variable {gl : List (Nat × List D)}
noncomputable abbrev gB : List (Nat × List D) := [(0, gl0), (3, gl3), (1, gl1), (2, gl2)]
theorem Jn : ∀ p ∈ Mb.gsp, p ∈ gB := by simp [Mb.gsp, gB]
theorem GL : ∀ p ∈ gtc, p ∈ gB := by simp [gtc, gB]
theorem Jp : ∀ p ∈ [(0, gl0)], p ∈ gB := by simp [gB]
attribute [local irreducible] nB ai
theorem IU (s : List UInt8) (p : Nat) (hs : s.length ≤ 1000000) (hp : p ≤ 8 * s.length) : ACalls (cxg gl) 158 [.ptr 0 0] [Rd s p]
  (fun r H => r = .bG [I (stN (ai s p)).1, I (stN (ai s p)).2.1] ∧ H = [Rd s ((p + (stN (ai s p)).2.2 : Nat) : Int)]) := by
 have tk := fU (gl := gl) s p 2 (by omega) hp (by omega)
 have hBl := cL s p
 unfold pkN tkN at tk
 unfold stN stX
 rw [hBl]
 by_cases h : 8 * s.length < p + 2
 ·rw [if_pos h, if_pos h] at tk
  rw [if_pos (by omega)]
  refine ACalls.enter Tryz.func158 rfl Tryz.ntmps158 (by kernel_rfl) rfl ?_; simp only [au, nm, Nat.reduceAdd]
  repeat' (first | (apply aa.st; rfl) | (apply aa.q true; rfl; rfl; rfl; rfl; first | exact True.intro | omega | (simp only [tn, Int.reduceToNat]; omega)) | (apply aa.ah [0] ( tk); (iterate 6 rfl); decide; rfl; rfl; simp only [ny, nh, Nat.reduceAdd, Nat.reduceSub]) | (apply aa.af; rfl; first | omega | rfl) | (apply aa.ae; rfl; omega) | (apply aa.aB; rfl) | (apply aa.ak; rfl) | intro _ | (apply aa.aC; rfl; rfl; rfl; rfl))
  all_goals first | exact ⟨rfl, rfl⟩ | omega
 ·rw [if_neg h, if_neg h] at tk
  rw [if_neg (by omega)]
  have v01 := kO 2 _ (take_len s p 2 (by omega)) (iN s p 2)
  generalize nB ((ai s p).take 2) = v at *
  by_cases h2 : 2 ≤ v
  ·rw [if_pos h2]
   refine ACalls.enter Tryz.func158 rfl Tryz.ntmps158 (by kernel_rfl) rfl ?_; simp only [au, nm, Nat.reduceAdd]
   repeat' (first | (apply aa.st; rfl) | (apply aa.q true; rfl; rfl; rfl; rfl; first | exact True.intro | omega | (simp only [tn, Int.reduceToNat]; omega)) | (apply aa.ah [0] ( tk); (iterate 6 rfl); decide; rfl; rfl; simp only [ny, nh, Nat.reduceAdd, Nat.reduceSub]) | (apply aa.af; rfl; first | omega | rfl) | (apply aa.ae; rfl; omega) | (apply aa.aB; rfl) | (apply aa.ak; rfl) | intro _ | (apply aa.aC; rfl; rfl; rfl; rfl))
   all_goals first | exact ⟨rfl, rfl⟩ | omega
  ·rw [if_neg h2]
   refine ACalls.enter Tryz.func158 rfl Tryz.ntmps158 (by kernel_rfl) rfl ?_; simp only [au, nm, Nat.reduceAdd]
   repeat' (first | (apply aa.st; rfl) | (apply aa.q true; rfl; rfl; rfl; rfl; first | exact True.intro | omega | (simp only [tn, Int.reduceToNat]; omega)) | (apply aa.ah [0] ( tk); (iterate 6 rfl); decide; rfl; rfl; simp only [ny, nh, Nat.reduceAdd, Nat.reduceSub]) | (apply aa.af; rfl; first | omega | rfl) | (apply aa.ae; rfl; omega) | (apply aa.aB; rfl) | (apply aa.ak; rfl) | intro _ | (apply aa.aC; rfl; rfl; rfl; rfl))
   all_goals first | exact ⟨rfl, rfl⟩ | omega
theorem GI (b : Bool) (s : List UInt8) (p : Nat) (hs : s.length ≤ 1000000) (hp : p ≤ 8 * s.length) : ACalls (cxg gB) 155 [.ptr 0 0, B b] [Rd s p]
  (fun r H => r = .bG [I (mbN b (ai s p)).1, I (mbN b (ai s p)).2.1, I (mbN b (ai s p)).2.2.1] ∧ H = [Rd s ((p + (mbN b (ai s p)).2.2.2 : Nat) : Int)]) := by
 have h := (Mb.CP b s p hs hp).more Jn
 have he := uA b (ai s p)
 have e : Mb.xC p (mbN b (ai s p)) = p + (mbN b (ai s p)).2.2.2 := by
  unfold Mb.xC
  split
  ·rfl
  ·rename_i h1
   rw [(he h1).2.2]; rfl
 rw [← e]
 exact h
theorem JB (b : Bool) (s : List UInt8) (p : Nat) (hs : s.length ≤ 1000000) (hp : p ≤ 8 * s.length) : ACalls (cxg gl) 156 [.ptr 0 0, B b] [Rd s p]
  (fun r H => r = .bG [I (cbN b (ai s p)).1, I (cbN b (ai s p)).2.1] ∧ H = [Rd s ((p + (cbN b (ai s p)).2.2 : Nat) : Int)]) := by
 have h := Cb.F6 (gl := gl) b s p hs hp
 have e : Px.um p (Cb.cbX b ((ai s p).map bi)) = p + (cbN b (ai s p)).2.2 := by
  unfold Px.um cbN
  simp only
  split <;> rfl
 rw [e] at h
 exact h
theorem Jb (s : List UInt8) (p : Nat) (hs : s.length ≤ 1000000) (hp : p ≤ 8 * s.length) : ACalls (cxg gB) 159 [.ptr 0 0] [Rd s p]
  (fun r H => r = .bG [I (mvN (ai s p)).1, I (mvN (ai s p)).2.1] ∧ H = [Rd s ((p + (mvN (ai s p)).2.2 : Nat) : Int)]) := by
 have h := (Mv.Fv s p hs hp).more Jp
 have e : Mv.CL p (Mv.mt (ai s p) 0 1) = p + (mvN (ai s p)).2.2 := by
  unfold Mv.CL mvN
  simp only
  split <;> rfl
 rw [e] at h
 exact h
theorem JD (s : List UInt8) (p : Nat) (intra coded : Bool) (hs : s.length ≤ 1000000) (hp : p ≤ 8 * s.length) : ACalls (cxg gB) 160 [.ptr 0 0, B intra, B coded] [Rd s p]
  (fun r H => r = .bG [I (blX intra coded (ai s p)).1, .d (.sl 3 (bg (blX intra coded (ai s p)).2.1)), I (blX intra coded (ai s p)).2.2.1] ∧ H = [Rd s ((p + (blX intra coded (ai s p)).2.2.2 : Nat) : Int)]) := (Eu s p intra coded hs hp).more GL
end Ci
namespace Ci
open Go Bt Tc Co Bl
attribute [local irreducible] aa ACalls
variable {gl : List (Nat × List D)}
abbrev Rr (i : Nat) (e : Int) : aF := .cells [.ptr i 0, I e]
abbrev Gd (st : Int) (sk : Bool) (ki : Int) : List AV := [I st, B sk, I ki, I 0, I 0, I 0, I 0, I 0, I 0, I 0, I 0, I 0, .d .aU, .d .aU, .d .aU, .d .aU, .d .aU, .d .aU]
theorem FR (f : Nat) (n : Int) (s : List UInt8) (p : Nat) (h : 8 * s.length ≤ p) : hdX true (f + 1) n (ai s p) = ⟨n, false, 0, 0, 2, 0⟩ := by
 rw [iT s p h]; rfl
theorem FQ (f : Nat) (n : Int) (s : List UInt8) (p : Nat) (h : p < 8 * s.length) (h1 : dG s (p : Int) = 1) : hdX true (f + 1) n (ai s p) = ⟨n, true, 0, 0, 0, 1⟩ := by
 rw [gm s p h, hdX, if_pos rfl, if_neg (by simp), if_pos (by simpa using h1)]
theorem Dn (f : Nat) (n : Int) (s : List UInt8) (p : Nat) (h : p < 8 * s.length) (h1 : dG s (p : Int) ≠ 1) : hdX true (f + 1) n (ai s p) = hdK n 1 (mbN true (ai s (p + 1))) (hdX true f (n + 1) (ai s (p + 1 + (mbN true (ai s (p + 1))).2.2.2))) := by
 have e := gm s p h
 rw [hdX, if_pos rfl, if_neg (by rw [e]; simp), if_neg (by rw [e]; simpa using h1), bW, bW, ← Nat.add_assoc]
theorem Jk (f : Nat) (n : Int) (s : List UInt8) (p : Nat) : hdX false (f + 1) n (ai s p) = hdK n 0 (mbN false (ai s p)) (hdX false f (n + 1) (ai s (p + (mbN false (ai s p)).2.2.2))) := by
 rw [hdX, if_neg (by decide), bW]
theorem wY (s : List UInt8) (p : Nat) (hs : s.length ≤ 1000000) (h : p < 8 * s.length) : ACalls (cxg gl) 154 [.ptr 0 0] [Rr 1 0, Rd s p] (fun r H => r = I (dG s p) ∧ H = [Rr 1 0, Rd s ((p + 1 : Nat) : Int)]) := by
 have t := Mv.ib (gl := gl) s p (by omega) h
 refine ACalls.enter Tryz.func154 rfl Tryz.ntmps154 (by kernel_rfl) rfl ?_; simp only [au, nm, Nat.reduceAdd]
 repeat' (first | (apply aa.st; rfl) | (apply aa.q true; rfl; rfl; rfl; rfl; first | exact True.intro | omega | (simp only [tn, Int.reduceToNat]; omega)) | (apply aa.ah [1] ( t); (iterate 6 rfl); decide; rfl; rfl; simp only [ny, nh, Nat.reduceAdd, Nat.reduceSub]) | (apply aa.ak; rfl) | (apply aa.store; (iterate 9 rfl); exact Nat.le_of_ble_eq_true rfl; simp only [nm, nz, Nat.reduceAdd]) | intro _ | (apply aa.aC; rfl; rfl; rfl; rfl))
 all_goals first | exact ⟨rfl, rfl⟩
theorem Ex (s : List UInt8) (p : Nat) (hs : s.length ≤ 1000000) (h : p = 8 * s.length) : ACalls (cxg gl) 154 [.ptr 0 0] [Rr 1 0, Rd s p] (fun r H => r = I 0 ∧ H = [Rr 1 2, Rd s p]) := by
 have t := Mv.jO (gl := gl) s p (by omega) h
 refine ACalls.enter Tryz.func154 rfl Tryz.ntmps154 (by kernel_rfl) rfl ?_; simp only [au, nm, Nat.reduceAdd]
 repeat' (first | (apply aa.st; rfl) | (apply aa.q true; rfl; rfl; rfl; rfl; first | exact True.intro | omega | (simp only [tn, Int.reduceToNat]; omega)) | (apply aa.ah [1] ( t); (iterate 6 rfl); decide; rfl; rfl; simp only [ny, nh, Nat.reduceAdd, Nat.reduceSub]) | (apply aa.ak; rfl) | (apply aa.store; (iterate 9 rfl); exact Nat.le_of_ble_eq_true rfl; simp only [nm, nz, Nat.reduceAdd]) | intro _ | (apply aa.aC; rfl; rfl; rfl; rfl))
 all_goals first | exact ⟨rfl, rfl⟩
def hdA (q : Nat) (h : HdR) : HdR := { h with used := q + h.used }
theorem Jl (h : HdR) : hdA 0 h = h := by
 cases h; simp [hdA]
attribute [local irreducible] mbN ai dG hdX
theorem Gb (b : Bool) (s : List UInt8) (p : Nat) (hs : s.length ≤ 1000000) (hp : p ≤ 8 * s.length) : ACalls (cxg gB) 145 [.ptr 0 0, B b, .ptr 1 0] [Rr 2 0, .cells (Gd 0 false 0), Rd s p]
  (fun r H => r = .bG [I (hdX b 65 0 (ai s p)).chr, B (decide ((hdX b 65 0 (ai s p)).err = 0) && !(hdX b 65 0 (ai s p)).skip)] ∧ H = [Rr 2 (hdX b 65 0 (ai s p)).err, .cells (Gd (hdX b 65 0 (ai s p)).stuff (hdX b 65 0 (ai s p)).skip (hdX b 65 0 (ai s p)).kind), Rd s ((p + (hdX b 65 0 (ai s p)).used : Nat) : Int)]) := by
 have hle := fun q => xQ b (ai s q)
 generalize hh0 : hdX b 65 0 (ai s p) = h at *
 refine ACalls.enter Tryz.func145 rfl Tryz.ntmps145 (by kernel_rfl) rfl ?_; simp only [au, nm, Nat.reduceAdd]
 repeat (first | (apply aa.st; rfl) | (apply aa.q true; rfl; rfl; rfl; rfl; first | exact True.intro | omega | (simp only [tn, Int.reduceToNat]; omega)) | (apply aa.af; rfl; first | omega | rfl) | (apply aa.ae; rfl; omega) | (apply aa.aB; rfl) | (apply aa.ak; rfl) | (apply aa.store; (iterate 9 rfl); exact Nat.le_of_ble_eq_true rfl; simp only [nm, nz, Nat.reduceAdd]) | (apply aa.aj; rfl; rfl) | (apply aa.cBT; rfl; first | (simp only [bT]; omega)) | (apply aa.az; rfl; rfl; rfl))
 refine aa.weak (env' := [(2, .ptr 1 0), (1, B b), (0, .ptr 0 0)]) ⟨rfl, rfl, rfl, trivial⟩ ?_
 refine aa.loop (fun m env H => ∃ (f : Nat) (n : Int) (q : Nat), m = f ∧ (0 ≤ n ∧ n ≤ 64 ∧ 64 - n < f) ∧ p + q ≤ 8 * s.length ∧ hdA q (hdX b f n (ai s (p + q))) = h ∧ env = [(2, .ptr 1 0), (1, B b), (0, .ptr 0 0)] ∧
  H = [Rr 2 0, .cells (Gd n false 0), Rd s ((p + q : Nat) : Int)]) 65
  ⟨65, 0, 0, rfl, by omega, by omega, by rw [Nat.add_zero, hh0]; exact Jl h, rfl, rfl⟩ ?_
 rintro m env H ⟨f, n, q, rfl, hn, hq, hh, rfl, rfl⟩
 obtain ⟨f, rfl⟩ : ∃ g, m = g + 1 := ⟨m - 1, by omega⟩
 cases b with
 | false =>
  have mt := GI false s (p + q) hs hq
  have ml := hle (p + q)
  have me := uA false (ai s (p + q))
  rw [cL] at ml
  rw [Jk] at hh
  generalize mbN false (ai s (p + q)) = x at *
  obtain ⟨k, ch, e, u⟩ := x
  simp only at mt ml me hh
  unfold hdK at hh
  simp only at hh
  by_cases he : e = 0
  ·subst he
   rw [if_neg (by simp)] at hh
   by_cases h5 : k = 5
   ·subst h5
    rw [if_neg (by simp)] at hh
    by_cases h64 : n = 64
    ·subst h64
     rw [if_pos rfl] at hh
     subst hh
     simp only [hdA, Nat.zero_add, ← Nat.add_assoc]
     repeat' (first | (apply aa.st; rfl) | (apply aa.q true; rfl; rfl; rfl; rfl; first | exact True.intro | omega | (simp only [tn, Int.reduceToNat]; omega)) | (apply aa.ah [2] ( mt); (iterate 6 rfl); decide; rfl; rfl; simp only [ny, nh, Nat.reduceAdd, Nat.reduceSub]) | (apply aa.af; rfl; first | omega | rfl) | (apply aa.ae; rfl; omega) | (apply aa.aB; rfl) | (apply aa.ak; rfl) | (apply aa.store; (iterate 9 rfl); exact Nat.le_of_ble_eq_true rfl; simp only [nm, nz, Nat.reduceAdd]) | (apply aa.aj; rfl; rfl) | (apply aa.cBT; rfl; first | (simp only [bT]; omega)) | (apply aa.az; rfl; rfl; rfl) | intro _ | (apply aa.aC; rfl; rfl; rfl; rfl) | (apply aa.bf; rfl; rfl; rfl; rfl) | (apply aa.aP; rfl; rfl))
     all_goals first | exact ⟨rfl, rfl⟩ | omega
    ·rw [if_neg h64] at hh
     repeat' (first | (apply aa.st; rfl) | (apply aa.q true; rfl; rfl; rfl; rfl; first | exact True.intro | omega | (simp only [tn, Int.reduceToNat]; omega)) | (apply aa.ah [2] ( mt); (iterate 6 rfl); decide; rfl; rfl; simp only [ny, nh, Nat.reduceAdd, Nat.reduceSub]) | (apply aa.af; rfl; first | omega | rfl) | (apply aa.ae; rfl; omega) | (apply aa.aB; rfl) | (apply aa.ak; rfl) | (apply aa.store; (iterate 9 rfl); exact Nat.le_of_ble_eq_true rfl; simp only [nm, nz, Nat.reduceAdd]) | (apply aa.aj; rfl; rfl) | (apply aa.cBT; rfl; first | (simp only [bT]; omega)) | (apply aa.az; rfl; rfl; rfl) | intro _ | (apply aa.aC; rfl; rfl; rfl; rfl) | (apply aa.bf; rfl; rfl; rfl; rfl) | (apply aa.aP; rfl; rfl))
     all_goals first
      | exact aa.round [(2, .ptr 1 0), (1, B false), (0, .ptr 0 0)] f (by omega) ⟨rfl, rfl, rfl, trivial⟩ ⟨f, n + 1, q + u, rfl, by omega, by omega, by rw [← hh]; simp only [hdA, Nat.zero_add, Nat.add_assoc], rfl, by simp only [Nat.add_assoc]⟩
      | omega
   ·rw [if_pos h5] at hh
    subst hh
    simp only [hdA, Nat.zero_add, ← Nat.add_assoc]
    repeat' (first | (apply aa.st; rfl) | (apply aa.q true; rfl; rfl; rfl; rfl; first | exact True.intro | omega | (simp only [tn, Int.reduceToNat]; omega)) | (apply aa.ah [2] ( mt); (iterate 6 rfl); decide; rfl; rfl; simp only [ny, nh, Nat.reduceAdd, Nat.reduceSub]) | (apply aa.af; rfl; first | omega | rfl) | (apply aa.ae; rfl; omega) | (apply aa.aB; rfl) | (apply aa.ak; rfl) | (apply aa.store; (iterate 9 rfl); exact Nat.le_of_ble_eq_true rfl; simp only [nm, nz, Nat.reduceAdd]) | (apply aa.aj; rfl; rfl) | (apply aa.cBT; rfl; first | (simp only [bT]; omega)) | (apply aa.az; rfl; rfl; rfl) | intro _ | (apply aa.aC; rfl; rfl; rfl; rfl) | (apply aa.bf; rfl; rfl; rfl; rfl) | (apply aa.aP; rfl; rfl))
    all_goals first | exact ⟨rfl, rfl⟩ | omega
  ·rw [if_pos he] at hh
   obtain ⟨_, _, rfl⟩ := me he
   subst hh
   simp only [hdA, Nat.add_zero]
   rw [Nat.add_zero] at mt
   repeat' (first | (apply aa.st; rfl) | (apply aa.q true; rfl; rfl; rfl; rfl; first | exact True.intro | omega | (simp only [tn, Int.reduceToNat]; omega)) | (apply aa.ah [2] ( mt); (iterate 6 rfl); decide; rfl; rfl; simp only [ny, nh, Nat.reduceAdd, Nat.reduceSub]) | (apply aa.af; rfl; first | omega | rfl) | (apply aa.ae; rfl; omega) | (apply aa.aB; rfl) | (apply aa.ak; rfl) | (apply aa.store; (iterate 9 rfl); exact Nat.le_of_ble_eq_true rfl; simp only [nm, nz, Nat.reduceAdd]) | (apply aa.aj; rfl; rfl) | (apply aa.cBT; rfl; first | (simp only [bT]; omega)) | (apply aa.az; rfl; rfl; rfl) | intro _ | (apply aa.aC; rfl; rfl; rfl; rfl) | (apply aa.bf; rfl; rfl; rfl; rfl) | (apply aa.aP; rfl; rfl))
   all_goals first | exact ⟨by simp [he], rfl⟩ | omega
 | true =>
  rcases Nat.lt_or_ge (p + q) (8 * s.length) with hlt | hge
  ·have hb01 := kL s ((p + q : Nat) : Int)
   have bc := wY (gl := gB) s (p + q) hs hlt
   by_cases h1 : dG s ((p + q : Nat) : Int) = 1
   ·rw [FQ _ _ _ _ hlt h1] at hh
    rw [h1] at bc
    subst hh
    simp only [hdA, ← Nat.add_assoc]
    repeat' (first | (apply aa.st; rfl) | (apply aa.q true; rfl; rfl; rfl; rfl; first | exact True.intro | omega | (simp only [tn, Int.reduceToNat]; omega)) | (apply aa.ah [0,2] ( bc); (iterate 6 rfl); decide; rfl; rfl; simp only [ny, nh, Nat.reduceAdd, Nat.reduceSub]) | (apply aa.af; rfl; first | omega | rfl) | (apply aa.ae; rfl; omega) | (apply aa.aB; rfl) | (apply aa.ak; rfl) | (apply aa.store; (iterate 9 rfl); exact Nat.le_of_ble_eq_true rfl; simp only [nm, nz, Nat.reduceAdd]) | (apply aa.aj; rfl; rfl) | (apply aa.cBT; rfl; first | (simp only [bT]; omega)) | (apply aa.az; rfl; rfl; rfl) | intro _ | (apply aa.aC; rfl; rfl; rfl; rfl) | (apply aa.bf; rfl; rfl; rfl; rfl) | (apply aa.aP; rfl; rfl))
    all_goals first | exact ⟨rfl, rfl⟩ | omega
   ·rw [Dn _ _ _ _ hlt h1] at hh
    rw [show dG s ((p + q : Nat) : Int) = 0 by omega] at bc
    have mt := GI true s (p + q + 1) hs (by omega)
    have ml := hle (p + q + 1)
    have me := uA true (ai s (p + q + 1))
    rw [cL] at ml
    generalize mbN true (ai s (p + q + 1)) = x at *
    obtain ⟨k, ch, e, u⟩ := x
    simp only at mt ml me hh
    unfold hdK at hh
    simp only at hh
    by_cases he : e = 0
    ·subst he
     rw [if_neg (by simp)] at hh
     by_cases h5 : k = 5
     ·subst h5
      rw [if_neg (by simp)] at hh
      by_cases h64 : n = 64
      ·subst h64
       rw [if_pos rfl] at hh
       subst hh
       simp only [hdA, ← Nat.add_assoc]
       repeat' (first | (apply aa.st; rfl) | (apply aa.q true; rfl; rfl; rfl; rfl; first | exact True.intro | omega | (simp only [tn, Int.reduceToNat]; omega)) | (apply aa.ah [0,2] ( bc); (iterate 6 rfl); decide; rfl; rfl; simp only [ny, nh, Nat.reduceAdd, Nat.reduceSub]) | (apply aa.ah [2] ( mt); (iterate 6 rfl); decide; rfl; rfl; simp only [ny, nh, Nat.reduceAdd, Nat.reduceSub]) | (apply aa.af; rfl; first | omega | rfl) | (apply aa.ae; rfl; omega) | (apply aa.aB; rfl) | (apply aa.ak; rfl) | (apply aa.store; (iterate 9 rfl); exact Nat.le_of_ble_eq_true rfl; simp only [nm, nz, Nat.reduceAdd]) | (apply aa.aj; rfl; rfl) | (apply aa.cBT; rfl; first | (simp only [bT]; omega)) | (apply aa.az; rfl; rfl; rfl) | intro _ | (apply aa.aC; rfl; rfl; rfl; rfl) | (apply aa.bf; rfl; rfl; rfl; rfl) | (apply aa.aP; rfl; rfl))
       all_goals first | exact ⟨rfl, rfl⟩ | omega
      ·rw [if_neg h64] at hh
       repeat' (first | (apply aa.st; rfl) | (apply aa.q true; rfl; rfl; rfl; rfl; first | exact True.intro | omega | (simp only [tn, Int.reduceToNat]; omega)) | (apply aa.ah [0,2] ( bc); (iterate 6 rfl); decide; rfl; rfl; simp only [ny, nh, Nat.reduceAdd, Nat.reduceSub]) | (apply aa.ah [2] ( mt); (iterate 6 rfl); decide; rfl; rfl; simp only [ny, nh, Nat.reduceAdd, Nat.reduceSub]) | (apply aa.af; rfl; first | omega | rfl) | (apply aa.ae; rfl; omega) | (apply aa.aB; rfl) | (apply aa.ak; rfl) | (apply aa.store; (iterate 9 rfl); exact Nat.le_of_ble_eq_true rfl; simp only [nm, nz, Nat.reduceAdd]) | (apply aa.aj; rfl; rfl) | (apply aa.cBT; rfl; first | (simp only [bT]; omega)) | (apply aa.az; rfl; rfl; rfl) | intro _ | (apply aa.aC; rfl; rfl; rfl; rfl) | (apply aa.bf; rfl; rfl; rfl; rfl) | (apply aa.aP; rfl; rfl))
       all_goals first
        | exact aa.round [(2, .ptr 1 0), (1, B true), (0, .ptr 0 0)] f (by omega) ⟨rfl, rfl, rfl, trivial⟩ ⟨f, n + 1, q + 1 + u, rfl, by omega, by omega, by rw [← hh]; simp only [hdA, Nat.add_assoc], rfl, by simp only [Nat.add_assoc]⟩
        | omega
     ·rw [if_pos h5] at hh
      subst hh
      simp only [hdA, ← Nat.add_assoc]
      repeat' (first | (apply aa.st; rfl) | (apply aa.q true; rfl; rfl; rfl; rfl; first | exact True.intro | omega | (simp only [tn, Int.reduceToNat]; omega)) | (apply aa.ah [0,2] ( bc); (iterate 6 rfl); decide; rfl; rfl; simp only [ny, nh, Nat.reduceAdd, Nat.reduceSub]) | (apply aa.ah [2] ( mt); (iterate 6 rfl); decide; rfl; rfl; simp only [ny, nh, Nat.reduceAdd, Nat.reduceSub]) | (apply aa.af; rfl; first | omega | rfl) | (apply aa.ae; rfl; omega) | (apply aa.aB; rfl) | (apply aa.ak; rfl) | (apply aa.store; (iterate 9 rfl); exact Nat.le_of_ble_eq_true rfl; simp only [nm, nz, Nat.reduceAdd]) | (apply aa.aj; rfl; rfl) | (apply aa.cBT; rfl; first | (simp only [bT]; omega)) | (apply aa.az; rfl; rfl; rfl) | intro _ | (apply aa.aC; rfl; rfl; rfl; rfl) | (apply aa.bf; rfl; rfl; rfl; rfl) | (apply aa.aP; rfl; rfl))
      all_goals first | exact ⟨rfl, rfl⟩ | omega
    ·rw [if_pos he] at hh
     obtain ⟨_, _, rfl⟩ := me he
     subst hh
     simp only [hdA, ← Nat.add_assoc]
     rw [Nat.add_zero] at mt
     repeat' (first | (apply aa.st; rfl) | (apply aa.q true; rfl; rfl; rfl; rfl; first | exact True.intro | omega | (simp only [tn, Int.reduceToNat]; omega)) | (apply aa.ah [0,2] ( bc); (iterate 6 rfl); decide; rfl; rfl; simp only [ny, nh, Nat.reduceAdd, Nat.reduceSub]) | (apply aa.ah [2] ( mt); (iterate 6 rfl); decide; rfl; rfl; simp only [ny, nh, Nat.reduceAdd, Nat.reduceSub]) | (apply aa.af; rfl; first | omega | rfl) | (apply aa.ae; rfl; omega) | (apply aa.aB; rfl) | (apply aa.ak; rfl) | (apply aa.store; (iterate 9 rfl); exact Nat.le_of_ble_eq_true rfl; simp only [nm, nz, Nat.reduceAdd]) | (apply aa.aj; rfl; rfl) | (apply aa.cBT; rfl; first | (simp only [bT]; omega)) | (apply aa.az; rfl; rfl; rfl) | intro _ | (apply aa.aC; rfl; rfl; rfl; rfl) | (apply aa.bf; rfl; rfl; rfl; rfl) | (apply aa.aP; rfl; rfl))
     all_goals first | exact ⟨by simp [he], rfl⟩ | omega
  ·have be := Ex (gl := gB) s (p + q) hs (by omega)
   rw [FR _ _ _ _ hge] at hh
   subst hh
   simp only [hdA, Nat.add_zero]
   repeat' (first | (apply aa.st; rfl) | (apply aa.q true; rfl; rfl; rfl; rfl; first | exact True.intro | omega | (simp only [tn, Int.reduceToNat]; omega)) | (apply aa.ah [0,2] ( be); (iterate 6 rfl); decide; rfl; rfl; simp only [ny, nh, Nat.reduceAdd, Nat.reduceSub]) | (apply aa.af; rfl; first | omega | rfl) | (apply aa.ae; rfl; omega) | (apply aa.aB; rfl) | (apply aa.ak; rfl) | (apply aa.store; (iterate 9 rfl); exact Nat.le_of_ble_eq_true rfl; simp only [nm, nz, Nat.reduceAdd]) | (apply aa.aj; rfl; rfl) | (apply aa.cBT; rfl; first | (simp only [bT]; omega)) | (apply aa.az; rfl; rfl; rfl) | intro _ | (apply aa.aC; rfl; rfl; rfl; rfl) | (apply aa.bf; rfl; rfl; rfl; rfl) | (apply aa.aP; rfl; rfl))
   all_goals first | exact ⟨rfl, rfl⟩ | omega
end Ci
namespace Ci
open Go Bt Tc Co Bl
attribute [local irreducible] aa ACalls bq aL cz
variable {gl : List (Nat × List D)}
abbrev Iy (st : Int) (ki sp mx my : Int) : List AV := [I st, B false, I ki, I sp, I mx, I my, I 0, I 0, I 0, I 0, I 0, I 0, .d .aU, .d .aU, .d .aU, .d .aU, .d .aU, .d .aU]
theorem wT (k : Int) : ACalls (cxg gl) 157 [I k] [] (fun r H => r = B (aH k) ∧ H = []) := by
 by_cases h : k = 3 ∨ k = 4
 ·rw [show aH k = true from decide_eq_true h]
  rcases h with rfl | rfl
  all_goals
   refine ACalls.enter Tryz.func157 rfl Tryz.ntmps157 (by kernel_rfl) rfl ?_; simp only [au, nm, Nat.reduceAdd]
   repeat' (first | (apply aa.st; rfl) | (apply aa.q true; rfl; rfl; rfl; rfl; first | exact True.intro | omega | (simp only [tn, Int.reduceToNat]; omega)) | (apply aa.aj; rfl; rfl) | (apply aa.gT; rfl; rfl; rfl; first | omega | rfl) | (apply aa.gF; rfl; rfl; rfl; omega) | (apply aa.az; rfl; rfl; rfl) | intro _ | (apply aa.aC; rfl; rfl; rfl; rfl))
   all_goals first | exact ⟨rfl, rfl⟩
 ·rw [show aH k = false from decide_eq_false h]
  refine ACalls.enter Tryz.func157 rfl Tryz.ntmps157 (by kernel_rfl) rfl ?_; simp only [au, nm, Nat.reduceAdd]
  repeat' (first | (apply aa.st; rfl) | (apply aa.q true; rfl; rfl; rfl; rfl; first | exact True.intro | omega | (simp only [tn, Int.reduceToNat]; omega)) | (apply aa.aj; rfl; rfl) | (apply aa.gT; rfl; rfl; rfl; first | omega | rfl) | (apply aa.gF; rfl; rfl; rfl; omega) | (apply aa.az; rfl; rfl; rfl) | intro _ | (apply aa.aC; rfl; rfl; rfl; rfl))
  all_goals first | exact ⟨rfl, rfl⟩ | exact ⟨congrArg B (by simp only [bF]; omega), rfl⟩
theorem HB (B : List Int) (hB : ∀ x ∈ B, x = 0 ∨ x = 1) : -32 ≤ (mvN B).1 ∧ (mvN B).1 ≤ 31 := by
 have hs := xM hB
 have hb := Mv.jw Mv.iK (B.map bi) []
 rw [Mv.sS] at hb
 unfold mvN
 obtain ⟨a1, a2, a3⟩ := hs
 by_cases h : (Mv.mt B 0 1).2.1 = 0
 ·have e := a2 h
  have hb := hb (by rw [← a1]; exact h)
  simp only
  omega
 ·have e := a3 h
  simp only
  omega
theorem GG {B : List Int} (h : (mvN B).2.1 ≠ 0) : (mvN B).2.2 = 0 := by
 unfold mvN at h ⊢
 exact if_neg h
theorem JC {b : Bool} {B : List Int} (h : (cbN b B).2.1 ≠ 0) : (cbN b B).2.2 = 0 := by
 unfold cbN at h ⊢
 exact if_neg h
theorem GA {B : List Int} (h : (stN B).2.1 ≠ 0) : (stN B).1 = 0 ∧ (stN B).2.2 = 0 := by
 unfold stN stX at h ⊢
 split
 ·exact ⟨rfl, rfl⟩
 ·rename_i h1
  rw [if_neg h1] at h
  exact absurd rfl h
attribute [local irreducible] mbN cbN mvN stN ai dz
theorem Ir (st k px py : Int) (s : List UInt8) (p : Nat) (hk : k = 0 ∨ k = 1 ∨ k = 3 ∨ k = 4) (hpx : I64 px) (hpy : I64 py) (hs : s.length ≤ 1000000) (hp : p ≤ 8 * s.length) :
  ACalls (cxg gB) 146 [.ptr 0 0, .ptr 1 0, .d (.agg [In px, In py])] [Rr 2 0, .cells (Gd st false k), Rd s p]
  (fun r H => r = I (mdX k px py (ai s p)).pat ∧ H = [Rr 2 (mdX k px py (ai s p)).err, .cells (Iy st k (mdX k px py (ai s p)).step (mdX k px py (ai s p)).mx (mdX k px py (ai s p)).my), Rd s ((p + (mdX k px py (ai s p)).used : Nat) : Int)]) := by
 have ic := wT (gl := gB) k
 have cb := JB (gl := gB) (aH k) s p hs hp
 have cl := yp (aH k) (ai s p)
 have sl := BM
 have w1 := qz (gl := gB) px hpx
 have w2 := qz (gl := gB) py hpy
 have wb1 := qA px
 have wb2 := qA py
 have ww := fun n h => qz (gl := gB) n h
 have hBl := cL s
 have stc := fun q hq => IU (gl := gB) s q hs hq
 have mvc := fun q hq => Jb s q hs hq
 have mvl := fun q => uz (eD s q)
 have mvb := fun q => HB _ (eD s q)
 unfold mdX mdM
 simp only [bW]
 rw [hBl] at cl
 have cu := JC (b := aH k) (B := ai s p)
 generalize hX : cbN (aH k) (ai s p) = x at *
 obtain ⟨pat, e, u⟩ := x
 simp only at cb cl cu ⊢
 by_cases he : e = 0
 ·subst he
  simp only [ne_eq, not_true_eq_false, if_false]
  rcases hk with rfl | rfl | rfl | rfl
  ·have hI : aH 0 = false := rfl
   have hS : cE 0 = false := rfl
   rw [hI] at ic cb
   simp only [hI, hS, Bool.false_eq_true, if_false]
   have mv1 := fun h => mvc (p + u) h
   have ml1 := mvl (p + u)
   have mb1 := mvb (p + u)
   rw [hBl] at ml1
   have m1 := mv1 (by omega)
   have mu1 := GG (B := ai s (p + u))
   generalize mvN (ai s (p + u)) = y at *
   obtain ⟨d1, e1, u1⟩ := y
   simp only at m1 ml1 mb1 mu1 ⊢
   have v1 := ww (dz px + d1) (by omega)
   by_cases h1 : e1 = 0
   ·subst h1
    simp only [not_true_eq_false, if_false]
    simp only [← Nat.add_assoc]
    have m2 := mvc ((p + u) + u1) (by omega)
    have mb2 := mvb ((p + u) + u1)
    generalize mvN (ai s ((p + u) + u1)) = z at *
    obtain ⟨d2, e2, u2⟩ := z
    simp only at m2 mb2 ⊢
    have v2 := ww (dz py + d2) (by omega)
    unfold wr
    refine ACalls.enter Tryz.func146 rfl Tryz.ntmps146 (by kernel_rfl) rfl ?_; simp only [au, nm, Nat.reduceAdd]
    repeat' (first | (apply aa.st; rfl) | (apply aa.gI [0, 1, 2, 3, 4, 5, 6, 7, 8, 9, 10, 11, 12, 13, 14] 15 9; rfl) | (apply aa.gI [0, 1, 2, 3, 4, 5, 6, 7, 8, 9, 10, 11, 12] 13 12; rfl) | (apply bq.dL; rfl; (apply bL.q true; rfl; rfl; first | exact True.intro | omega); exact fun _ _ _ h => h; (iterate 6 rfl); kernel_rfl; kernel_rfl) | (apply bq.load; rfl; rfl; (first | exact True.intro | omega); exact fun _ _ _ h => h; (iterate 6 rfl); kernel_rfl; kernel_rfl) | (apply bq.go) | (apply aL.fin; kernel_rfl) | (apply aL.dL; rfl; (apply bL.q true; rfl; rfl; first | exact True.intro | omega); exact fun _ _ _ h => h; (iterate 6 rfl); kernel_rfl; kernel_rfl) | (apply aL.call (ic); (iterate 8 rfl); kernel_rfl; rfl; rfl; rfl; try simp only [ny, nh, Nat.reduceAdd, Nat.reduceSub]) | (apply aL.call (w1); (iterate 8 rfl); kernel_rfl; rfl; rfl; rfl; try simp only [ny, nh, Nat.reduceAdd, Nat.reduceSub]) | (apply aL.call (w2); (iterate 8 rfl); kernel_rfl; rfl; rfl; rfl; try simp only [ny, nh, Nat.reduceAdd, Nat.reduceSub]) | (apply aL.call (v1); (iterate 8 rfl); kernel_rfl; rfl; rfl; rfl; try simp only [ny, nh, Nat.reduceAdd, Nat.reduceSub]) | (apply aL.call (v2); (iterate 8 rfl); kernel_rfl; rfl; rfl; rfl; try simp only [ny, nh, Nat.reduceAdd, Nat.reduceSub]) | (apply aL.step; rfl; rfl; kernel_rfl; rfl) | (apply aL.kP; rfl; kernel_rfl) | (apply cz.step; rfl; rfl) | (apply aL.back) | (exact aa.dR) | (apply aa.ba; (repeat' (first | exact aN.nil | (apply aN.cons; rfl))); rfl) | (apply aa.q true; rfl; rfl; rfl; rfl; first | exact True.intro | omega | (simp only [tn, Int.reduceToNat]; omega)) | (apply aa.ah [2] ( cb); (iterate 6 rfl); decide; rfl; rfl; simp only [ny, nh, Nat.reduceAdd, Nat.reduceSub]) | (apply aa.ah [2] ( m1); (iterate 6 rfl); decide; rfl; rfl; simp only [ny, nh, Nat.reduceAdd, Nat.reduceSub]) | (apply aa.ah [2] ( m2); (iterate 6 rfl); decide; rfl; rfl; simp only [ny, nh, Nat.reduceAdd, Nat.reduceSub]) | (apply aa.aA (ic); (iterate 6 rfl)) | (apply aa.aA (w1); (iterate 6 rfl)) | (apply aa.aA (w2); (iterate 6 rfl)) | (apply aa.aA (v1); (iterate 6 rfl)) | (apply aa.aA (v2); (iterate 6 rfl)) | (apply aa.exit; rfl) | (apply aa.af; rfl; first | omega | rfl) | (apply aa.ae; rfl; omega) | (apply aa.aB; rfl) | (apply aa.ak; rfl) | (apply aa.box; (iterate 6 rfl); simp only [nm, nz, Nat.reduceAdd]) | (apply aa.store; (iterate 9 rfl); exact Nat.le_of_ble_eq_true rfl; simp only [nm, nz, Nat.reduceAdd]) | (apply aa.aj; rfl; rfl) | (apply aa.gT; rfl; rfl; rfl; first | omega | rfl) | (apply aa.gF; rfl; rfl; rfl; omega) | (apply aa.az; rfl; rfl; rfl) | apply aa.dM | apply aa.lpU | intro _ | (apply aa.aC; rfl; rfl; rfl; rfl))
    all_goals first | exact ⟨rfl, rfl⟩ | omega
   ·rw [if_pos h1]
    unfold wr
    obtain rfl := mu1 h1
    rw [Nat.add_zero] at m1
    simp only [← Nat.add_assoc]
    refine ACalls.enter Tryz.func146 rfl Tryz.ntmps146 (by kernel_rfl) rfl ?_; simp only [au, nm, Nat.reduceAdd]
    repeat' (first | (apply aa.st; rfl) | (apply aa.gI [0, 1, 2, 3, 4, 5, 6, 7, 8, 9, 10, 11, 12, 13, 14] 15 9; rfl) | (apply aa.gI [0, 1, 2, 3, 4, 5, 6, 7, 8, 9, 10, 11, 12] 13 12; rfl) | (apply bq.dL; rfl; (apply bL.q true; rfl; rfl; first | exact True.intro | omega); exact fun _ _ _ h => h; (iterate 6 rfl); kernel_rfl; kernel_rfl) | (apply bq.load; rfl; rfl; (first | exact True.intro | omega); exact fun _ _ _ h => h; (iterate 6 rfl); kernel_rfl; kernel_rfl) | (apply bq.go) | (apply aL.fin; kernel_rfl) | (apply aL.dL; rfl; (apply bL.q true; rfl; rfl; first | exact True.intro | omega); exact fun _ _ _ h => h; (iterate 6 rfl); kernel_rfl; kernel_rfl) | (apply aL.call (ic); (iterate 8 rfl); kernel_rfl; rfl; rfl; rfl; try simp only [ny, nh, Nat.reduceAdd, Nat.reduceSub]) | (apply aL.call (w1); (iterate 8 rfl); kernel_rfl; rfl; rfl; rfl; try simp only [ny, nh, Nat.reduceAdd, Nat.reduceSub]) | (apply aL.call (w2); (iterate 8 rfl); kernel_rfl; rfl; rfl; rfl; try simp only [ny, nh, Nat.reduceAdd, Nat.reduceSub]) | (apply aL.call (v1); (iterate 8 rfl); kernel_rfl; rfl; rfl; rfl; try simp only [ny, nh, Nat.reduceAdd, Nat.reduceSub]) | (apply aL.step; rfl; rfl; kernel_rfl; rfl) | (apply aL.kP; rfl; kernel_rfl) | (apply cz.step; rfl; rfl) | (apply aL.back) | (exact aa.dR) | (apply aa.ba; (repeat' (first | exact aN.nil | (apply aN.cons; rfl))); rfl) | (apply aa.q true; rfl; rfl; rfl; rfl; first | exact True.intro | omega | (simp only [tn, Int.reduceToNat]; omega)) | (apply aa.ah [2] ( cb); (iterate 6 rfl); decide; rfl; rfl; simp only [ny, nh, Nat.reduceAdd, Nat.reduceSub]) | (apply aa.ah [2] ( m1); (iterate 6 rfl); decide; rfl; rfl; simp only [ny, nh, Nat.reduceAdd, Nat.reduceSub]) | (apply aa.aA (ic); (iterate 6 rfl)) | (apply aa.aA (w1); (iterate 6 rfl)) | (apply aa.aA (w2); (iterate 6 rfl)) | (apply aa.aA (v1); (iterate 6 rfl)) | (apply aa.exit; rfl) | (apply aa.af; rfl; first | omega | rfl) | (apply aa.ae; rfl; omega) | (apply aa.aB; rfl) | (apply aa.ak; rfl) | (apply aa.box; (iterate 6 rfl); simp only [nm, nz, Nat.reduceAdd]) | (apply aa.store; (iterate 9 rfl); exact Nat.le_of_ble_eq_true rfl; simp only [nm, nz, Nat.reduceAdd]) | (apply aa.aj; rfl; rfl) | (apply aa.gT; rfl; rfl; rfl; first | omega | rfl) | (apply aa.gF; rfl; rfl; rfl; omega) | (apply aa.az; rfl; rfl; rfl) | apply aa.dM | apply aa.lpU | intro _ | (apply aa.aC; rfl; rfl; rfl; rfl))
    all_goals first | exact ⟨rfl, rfl⟩ | omega
  ·have hI : aH 1 = false := rfl
   have hS : cE 1 = true := rfl
   rw [hI] at ic cb
   simp only [hI, hS, Bool.false_eq_true, if_false, if_true]
   have st1 := stc (p + u) (by omega)
   have sl1 := sl (ai s (p + u))
   have su1 := GA (B := ai s (p + u))
   rw [hBl] at sl1
   generalize stN (ai s (p + u)) = t at *
   obtain ⟨sp, se, su⟩ := t
   simp only at st1 sl1 su1 ⊢
   by_cases hse : se = 0
   ·subst hse
    simp only [not_true_eq_false, if_false]
    simp only [← Nat.add_assoc]
    have mv1 := fun h => mvc (p + u + su) h
    have ml1 := mvl (p + u + su)
    have mb1 := mvb (p + u + su)
    rw [hBl] at ml1
    have m1 := mv1 (by omega)
    have mu1 := GG (B := ai s (p + u + su))
    generalize mvN (ai s (p + u + su)) = y at *
    obtain ⟨d1, e1, u1⟩ := y
    simp only at m1 ml1 mb1 mu1 ⊢
    have v1 := ww (dz px + d1) (by omega)
    by_cases h1 : e1 = 0
    ·subst h1
     simp only [not_true_eq_false, if_false]
     simp only [← Nat.add_assoc]
     have m2 := mvc ((p + u + su) + u1) (by omega)
     have mb2 := mvb ((p + u + su) + u1)
     generalize mvN (ai s ((p + u + su) + u1)) = z at *
     obtain ⟨d2, e2, u2⟩ := z
     simp only at m2 mb2 ⊢
     have v2 := ww (dz py + d2) (by omega)
     unfold wr
     refine ACalls.enter Tryz.func146 rfl Tryz.ntmps146 (by kernel_rfl) rfl ?_; simp only [au, nm, Nat.reduceAdd]
     repeat' (first | (apply aa.st; rfl) | (apply aa.gI [0, 1, 2, 3, 4, 5, 6, 7, 8, 9, 10, 11, 12, 13, 14] 15 9; rfl) | (apply aa.gI [0, 1, 2, 3, 4, 5, 6, 7, 8, 9, 10, 11, 12] 13 12; rfl) | (apply bq.dL; rfl; (apply bL.q true; rfl; rfl; first | exact True.intro | omega); exact fun _ _ _ h => h; (iterate 6 rfl); kernel_rfl; kernel_rfl) | (apply bq.load; rfl; rfl; (first | exact True.intro | omega); exact fun _ _ _ h => h; (iterate 6 rfl); kernel_rfl; kernel_rfl) | (apply bq.go) | (apply aL.fin; kernel_rfl) | (apply aL.dL; rfl; (apply bL.q true; rfl; rfl; first | exact True.intro | omega); exact fun _ _ _ h => h; (iterate 6 rfl); kernel_rfl; kernel_rfl) | (apply aL.call (ic); (iterate 8 rfl); kernel_rfl; rfl; rfl; rfl; try simp only [ny, nh, Nat.reduceAdd, Nat.reduceSub]) | (apply aL.call (w1); (iterate 8 rfl); kernel_rfl; rfl; rfl; rfl; try simp only [ny, nh, Nat.reduceAdd, Nat.reduceSub]) | (apply aL.call (w2); (iterate 8 rfl); kernel_rfl; rfl; rfl; rfl; try simp only [ny, nh, Nat.reduceAdd, Nat.reduceSub]) | (apply aL.call (v1); (iterate 8 rfl); kernel_rfl; rfl; rfl; rfl; try simp only [ny, nh, Nat.reduceAdd, Nat.reduceSub]) | (apply aL.call (v2); (iterate 8 rfl); kernel_rfl; rfl; rfl; rfl; try simp only [ny, nh, Nat.reduceAdd, Nat.reduceSub]) | (apply aL.step; rfl; rfl; kernel_rfl; rfl) | (apply aL.kP; rfl; kernel_rfl) | (apply cz.step; rfl; rfl) | (apply aL.back) | (exact aa.dR) | (apply aa.ba; (repeat' (first | exact aN.nil | (apply aN.cons; rfl))); rfl) | (apply aa.q true; rfl; rfl; rfl; rfl; first | exact True.intro | omega | (simp only [tn, Int.reduceToNat]; omega)) | (apply aa.ah [2] ( cb); (iterate 6 rfl); decide; rfl; rfl; simp only [ny, nh, Nat.reduceAdd, Nat.reduceSub]) | (apply aa.ah [2] ( st1); (iterate 6 rfl); decide; rfl; rfl; simp only [ny, nh, Nat.reduceAdd, Nat.reduceSub]) | (apply aa.ah [2] ( m1); (iterate 6 rfl); decide; rfl; rfl; simp only [ny, nh, Nat.reduceAdd, Nat.reduceSub]) | (apply aa.ah [2] ( m2); (iterate 6 rfl); decide; rfl; rfl; simp only [ny, nh, Nat.reduceAdd, Nat.reduceSub]) | (apply aa.aA (ic); (iterate 6 rfl)) | (apply aa.aA (w1); (iterate 6 rfl)) | (apply aa.aA (w2); (iterate 6 rfl)) | (apply aa.aA (v1); (iterate 6 rfl)) | (apply aa.aA (v2); (iterate 6 rfl)) | (apply aa.exit; rfl) | (apply aa.af; rfl; first | omega | rfl) | (apply aa.ae; rfl; omega) | (apply aa.aB; rfl) | (apply aa.ak; rfl) | (apply aa.box; (iterate 6 rfl); simp only [nm, nz, Nat.reduceAdd]) | (apply aa.store; (iterate 9 rfl); exact Nat.le_of_ble_eq_true rfl; simp only [nm, nz, Nat.reduceAdd]) | (apply aa.aj; rfl; rfl) | (apply aa.gT; rfl; rfl; rfl; first | omega | rfl) | (apply aa.gF; rfl; rfl; rfl; omega) | (apply aa.az; rfl; rfl; rfl) | apply aa.dM | apply aa.lpU | intro _ | (apply aa.aC; rfl; rfl; rfl; rfl))
     all_goals first | exact ⟨rfl, rfl⟩ | omega
    ·rw [if_pos h1]
     unfold wr
     obtain rfl := mu1 h1
     rw [Nat.add_zero] at m1
     simp only [← Nat.add_assoc]
     refine ACalls.enter Tryz.func146 rfl Tryz.ntmps146 (by kernel_rfl) rfl ?_; simp only [au, nm, Nat.reduceAdd]
     repeat' (first | (apply aa.st; rfl) | (apply aa.gI [0, 1, 2, 3, 4, 5, 6, 7, 8, 9, 10, 11, 12, 13, 14] 15 9; rfl) | (apply aa.gI [0, 1, 2, 3, 4, 5, 6, 7, 8, 9, 10, 11, 12] 13 12; rfl) | (apply bq.dL; rfl; (apply bL.q true; rfl; rfl; first | exact True.intro | omega); exact fun _ _ _ h => h; (iterate 6 rfl); kernel_rfl; kernel_rfl) | (apply bq.load; rfl; rfl; (first | exact True.intro | omega); exact fun _ _ _ h => h; (iterate 6 rfl); kernel_rfl; kernel_rfl) | (apply bq.go) | (apply aL.fin; kernel_rfl) | (apply aL.dL; rfl; (apply bL.q true; rfl; rfl; first | exact True.intro | omega); exact fun _ _ _ h => h; (iterate 6 rfl); kernel_rfl; kernel_rfl) | (apply aL.call (ic); (iterate 8 rfl); kernel_rfl; rfl; rfl; rfl; try simp only [ny, nh, Nat.reduceAdd, Nat.reduceSub]) | (apply aL.call (w1); (iterate 8 rfl); kernel_rfl; rfl; rfl; rfl; try simp only [ny, nh, Nat.reduceAdd, Nat.reduceSub]) | (apply aL.call (w2); (iterate 8 rfl); kernel_rfl; rfl; rfl; rfl; try simp only [ny, nh, Nat.reduceAdd, Nat.reduceSub]) | (apply aL.call (v1); (iterate 8 rfl); kernel_rfl; rfl; rfl; rfl; try simp only [ny, nh, Nat.reduceAdd, Nat.reduceSub]) | (apply aL.step; rfl; rfl; kernel_rfl; rfl) | (apply aL.kP; rfl; kernel_rfl) | (apply cz.step; rfl; rfl) | (apply aL.back) | (exact aa.dR) | (apply aa.ba; (repeat' (first | exact aN.nil | (apply aN.cons; rfl))); rfl) | (apply aa.q true; rfl; rfl; rfl; rfl; first | exact True.intro | omega | (simp only [tn, Int.reduceToNat]; omega)) | (apply aa.ah [2] ( cb); (iterate 6 rfl); decide; rfl; rfl; simp only [ny, nh, Nat.reduceAdd, Nat.reduceSub]) | (apply aa.ah [2] ( st1); (iterate 6 rfl); decide; rfl; rfl; simp only [ny, nh, Nat.reduceAdd, Nat.reduceSub]) | (apply aa.ah [2] ( m1); (iterate 6 rfl); decide; rfl; rfl; simp only [ny, nh, Nat.reduceAdd, Nat.reduceSub]) | (apply aa.aA (ic); (iterate 6 rfl)) | (apply aa.aA (w1); (iterate 6 rfl)) | (apply aa.aA (w2); (iterate 6 rfl)) | (apply aa.aA (v1); (iterate 6 rfl)) | (apply aa.exit; rfl) | (apply aa.af; rfl; first | omega | rfl) | (apply aa.ae; rfl; omega) | (apply aa.aB; rfl) | (apply aa.ak; rfl) | (apply aa.box; (iterate 6 rfl); simp only [nm, nz, Nat.reduceAdd]) | (apply aa.store; (iterate 9 rfl); exact Nat.le_of_ble_eq_true rfl; simp only [nm, nz, Nat.reduceAdd]) | (apply aa.aj; rfl; rfl) | (apply aa.gT; rfl; rfl; rfl; first | omega | rfl) | (apply aa.gF; rfl; rfl; rfl; omega) | (apply aa.az; rfl; rfl; rfl) | apply aa.dM | apply aa.lpU | intro _ | (apply aa.aC; rfl; rfl; rfl; rfl))
     all_goals first | exact ⟨rfl, rfl⟩ | omega
   ·rw [if_pos hse]
    obtain ⟨rfl, rfl⟩ := su1 hse
    rw [Nat.add_zero] at st1
    refine ACalls.enter Tryz.func146 rfl Tryz.ntmps146 (by kernel_rfl) rfl ?_; simp only [au, nm, Nat.reduceAdd]
    repeat' (first | (apply aa.st; rfl) | (apply aa.gI [0, 1, 2, 3, 4, 5, 6, 7, 8, 9, 10, 11, 12, 13, 14] 15 9; rfl) | (apply aa.gI [0, 1, 2, 3, 4, 5, 6, 7, 8, 9, 10, 11, 12] 13 12; rfl) | (apply bq.dL; rfl; (apply bL.q true; rfl; rfl; first | exact True.intro | omega); exact fun _ _ _ h => h; (iterate 6 rfl); kernel_rfl; kernel_rfl) | (apply bq.load; rfl; rfl; (first | exact True.intro | omega); exact fun _ _ _ h => h; (iterate 6 rfl); kernel_rfl; kernel_rfl) | (apply bq.go) | (apply aL.fin; kernel_rfl) | (apply aL.dL; rfl; (apply bL.q true; rfl; rfl; first | exact True.intro | omega); exact fun _ _ _ h => h; (iterate 6 rfl); kernel_rfl; kernel_rfl) | (apply aL.call (ic); (iterate 8 rfl); kernel_rfl; rfl; rfl; rfl; try simp only [ny, nh, Nat.reduceAdd, Nat.reduceSub]) | (apply aL.step; rfl; rfl; kernel_rfl; rfl) | (apply aL.kP; rfl; kernel_rfl) | (apply cz.step; rfl; rfl) | (apply aL.back) | (exact aa.dR) | (apply aa.ba; (repeat' (first | exact aN.nil | (apply aN.cons; rfl))); rfl) | (apply aa.q true; rfl; rfl; rfl; rfl; first | exact True.intro | omega | (simp only [tn, Int.reduceToNat]; omega)) | (apply aa.ah [2] ( cb); (iterate 6 rfl); decide; rfl; rfl; simp only [ny, nh, Nat.reduceAdd, Nat.reduceSub]) | (apply aa.ah [2] ( st1); (iterate 6 rfl); decide; rfl; rfl; simp only [ny, nh, Nat.reduceAdd, Nat.reduceSub]) | (apply aa.aA (ic); (iterate 6 rfl)) | (apply aa.exit; rfl) | (apply aa.af; rfl; first | omega | rfl) | (apply aa.ae; rfl; omega) | (apply aa.aB; rfl) | (apply aa.ak; rfl) | (apply aa.box; (iterate 6 rfl); simp only [nm, nz, Nat.reduceAdd]) | (apply aa.store; (iterate 9 rfl); exact Nat.le_of_ble_eq_true rfl; simp only [nm, nz, Nat.reduceAdd]) | (apply aa.aj; rfl; rfl) | (apply aa.gT; rfl; rfl; rfl; first | omega | rfl) | (apply aa.gF; rfl; rfl; rfl; omega) | (apply aa.az; rfl; rfl; rfl) | apply aa.dM | apply aa.lpU | intro _ | (apply aa.aC; rfl; rfl; rfl; rfl))
    all_goals first | exact ⟨rfl, rfl⟩ | omega
  ·have hI : aH 3 = true := rfl
   have hS : cE 3 = false := rfl
   rw [hI] at ic cb
   simp only [hI, hS, if_true, Bool.false_eq_true, if_false]
   refine ACalls.enter Tryz.func146 rfl Tryz.ntmps146 (by kernel_rfl) rfl ?_; simp only [au, nm, Nat.reduceAdd]
   repeat' (first | (apply aa.st; rfl) | (apply aa.gI [0, 1, 2, 3, 4, 5, 6, 7, 8, 9, 10, 11, 12, 13, 14] 15 9; rfl) | (apply aa.gI [0, 1, 2, 3, 4, 5, 6, 7, 8, 9, 10, 11, 12] 13 12; rfl) | (apply bq.dL; rfl; (apply bL.q true; rfl; rfl; first | exact True.intro | omega); exact fun _ _ _ h => h; (iterate 6 rfl); kernel_rfl; kernel_rfl) | (apply bq.load; rfl; rfl; (first | exact True.intro | omega); exact fun _ _ _ h => h; (iterate 6 rfl); kernel_rfl; kernel_rfl) | (apply bq.go) | (apply aL.fin; kernel_rfl) | (apply aL.dL; rfl; (apply bL.q true; rfl; rfl; first | exact True.intro | omega); exact fun _ _ _ h => h; (iterate 6 rfl); kernel_rfl; kernel_rfl) | (apply aL.call (ic); (iterate 8 rfl); kernel_rfl; rfl; rfl; rfl; try simp only [ny, nh, Nat.reduceAdd, Nat.reduceSub]) | (apply aL.step; rfl; rfl; kernel_rfl; rfl) | (apply aL.kP; rfl; kernel_rfl) | (apply cz.step; rfl; rfl) | (apply aL.back) | (exact aa.dR) | (apply aa.ba; (repeat' (first | exact aN.nil | (apply aN.cons; rfl))); rfl) | (apply aa.q true; rfl; rfl; rfl; rfl; first | exact True.intro | omega | (simp only [tn, Int.reduceToNat]; omega)) | (apply aa.ah [2] ( cb); (iterate 6 rfl); decide; rfl; rfl; simp only [ny, nh, Nat.reduceAdd, Nat.reduceSub]) | (apply aa.aA (ic); (iterate 6 rfl)) | (apply aa.exit; rfl) | (apply aa.af; rfl; first | omega | rfl) | (apply aa.ae; rfl; omega) | (apply aa.aB; rfl) | (apply aa.ak; rfl) | (apply aa.box; (iterate 6 rfl); simp only [nm, nz, Nat.reduceAdd]) | (apply aa.store; (iterate 9 rfl); exact Nat.le_of_ble_eq_true rfl; simp only [nm, nz, Nat.reduceAdd]) | (apply aa.aj; rfl; rfl) | (apply aa.gT; rfl; rfl; rfl; first | omega | rfl) | (apply aa.gF; rfl; rfl; rfl; omega) | (apply aa.az; rfl; rfl; rfl) | apply aa.dM | apply aa.lpU | intro _ | (apply aa.aC; rfl; rfl; rfl; rfl))
   all_goals first | exact ⟨rfl, rfl⟩ | omega
  ·have hI : aH 4 = true := rfl
   have hS : cE 4 = true := rfl
   rw [hI] at ic cb
   simp only [hI, hS, if_true]
   have st1 := stc (p + u) (by omega)
   have su1 := GA (B := ai s (p + u))
   generalize stN (ai s (p + u)) = t at *
   obtain ⟨sp, se, su⟩ := t
   simp only at st1 su1 ⊢
   by_cases hse : se = 0
   ·subst hse
    simp only [not_true_eq_false, if_false, if_true]
    simp only [← Nat.add_assoc]
    refine ACalls.enter Tryz.func146 rfl Tryz.ntmps146 (by kernel_rfl) rfl ?_; simp only [au, nm, Nat.reduceAdd]
    repeat' (first | (apply aa.st; rfl) | (apply aa.gI [0, 1, 2, 3, 4, 5, 6, 7, 8, 9, 10, 11, 12, 13, 14] 15 9; rfl) | (apply aa.gI [0, 1, 2, 3, 4, 5, 6, 7, 8, 9, 10, 11, 12] 13 12; rfl) | (apply bq.dL; rfl; (apply bL.q true; rfl; rfl; first | exact True.intro | omega); exact fun _ _ _ h => h; (iterate 6 rfl); kernel_rfl; kernel_rfl) | (apply bq.load; rfl; rfl; (first | exact True.intro | omega); exact fun _ _ _ h => h; (iterate 6 rfl); kernel_rfl; kernel_rfl) | (apply bq.go) | (apply aL.fin; kernel_rfl) | (apply aL.dL; rfl; (apply bL.q true; rfl; rfl; first | exact True.intro | omega); exact fun _ _ _ h => h; (iterate 6 rfl); kernel_rfl; kernel_rfl) | (apply aL.call (ic); (iterate 8 rfl); kernel_rfl; rfl; rfl; rfl; try simp only [ny, nh, Nat.reduceAdd, Nat.reduceSub]) | (apply aL.step; rfl; rfl; kernel_rfl; rfl) | (apply aL.kP; rfl; kernel_rfl) | (apply cz.step; rfl; rfl) | (apply aL.back) | (exact aa.dR) | (apply aa.ba; (repeat' (first | exact aN.nil | (apply aN.cons; rfl))); rfl) | (apply aa.q true; rfl; rfl; rfl; rfl; first | exact True.intro | omega | (simp only [tn, Int.reduceToNat]; omega)) | (apply aa.ah [2] ( cb); (iterate 6 rfl); decide; rfl; rfl; simp only [ny, nh, Nat.reduceAdd, Nat.reduceSub]) | (apply aa.ah [2] ( st1); (iterate 6 rfl); decide; rfl; rfl; simp only [ny, nh, Nat.reduceAdd, Nat.reduceSub]) | (apply aa.aA (ic); (iterate 6 rfl)) | (apply aa.exit; rfl) | (apply aa.af; rfl; first | omega | rfl) | (apply aa.ae; rfl; omega) | (apply aa.aB; rfl) | (apply aa.ak; rfl) | (apply aa.box; (iterate 6 rfl); simp only [nm, nz, Nat.reduceAdd]) | (apply aa.store; (iterate 9 rfl); exact Nat.le_of_ble_eq_true rfl; simp only [nm, nz, Nat.reduceAdd]) | (apply aa.aj; rfl; rfl) | (apply aa.gT; rfl; rfl; rfl; first | omega | rfl) | (apply aa.gF; rfl; rfl; rfl; omega) | (apply aa.az; rfl; rfl; rfl) | apply aa.dM | apply aa.lpU | intro _ | (apply aa.aC; rfl; rfl; rfl; rfl))
    all_goals first | exact ⟨rfl, rfl⟩ | omega
   ·rw [if_pos hse]
    obtain ⟨rfl, rfl⟩ := su1 hse
    rw [Nat.add_zero] at st1
    refine ACalls.enter Tryz.func146 rfl Tryz.ntmps146 (by kernel_rfl) rfl ?_; simp only [au, nm, Nat.reduceAdd]
    repeat' (first | (apply aa.st; rfl) | (apply aa.gI [0, 1, 2, 3, 4, 5, 6, 7, 8, 9, 10, 11, 12, 13, 14] 15 9; rfl) | (apply aa.gI [0, 1, 2, 3, 4, 5, 6, 7, 8, 9, 10, 11, 12] 13 12; rfl) | (apply bq.dL; rfl; (apply bL.q true; rfl; rfl; first | exact True.intro | omega); exact fun _ _ _ h => h; (iterate 6 rfl); kernel_rfl; kernel_rfl) | (apply bq.load; rfl; rfl; (first | exact True.intro | omega); exact fun _ _ _ h => h; (iterate 6 rfl); kernel_rfl; kernel_rfl) | (apply bq.go) | (apply aL.fin; kernel_rfl) | (apply aL.dL; rfl; (apply bL.q true; rfl; rfl; first | exact True.intro | omega); exact fun _ _ _ h => h; (iterate 6 rfl); kernel_rfl; kernel_rfl) | (apply aL.call (ic); (iterate 8 rfl); kernel_rfl; rfl; rfl; rfl; try simp only [ny, nh, Nat.reduceAdd, Nat.reduceSub]) | (apply aL.step; rfl; rfl; kernel_rfl; rfl) | (apply aL.kP; rfl; kernel_rfl) | (apply cz.step; rfl; rfl) | (apply aL.back) | (exact aa.dR) | (apply aa.ba; (repeat' (first | exact aN.nil | (apply aN.cons; rfl))); rfl) | (apply aa.q true; rfl; rfl; rfl; rfl; first | exact True.intro | omega | (simp only [tn, Int.reduceToNat]; omega)) | (apply aa.ah [2] ( cb); (iterate 6 rfl); decide; rfl; rfl; simp only [ny, nh, Nat.reduceAdd, Nat.reduceSub]) | (apply aa.ah [2] ( st1); (iterate 6 rfl); decide; rfl; rfl; simp only [ny, nh, Nat.reduceAdd, Nat.reduceSub]) | (apply aa.aA (ic); (iterate 6 rfl)) | (apply aa.exit; rfl) | (apply aa.af; rfl; first | omega | rfl) | (apply aa.ae; rfl; omega) | (apply aa.aB; rfl) | (apply aa.ak; rfl) | (apply aa.box; (iterate 6 rfl); simp only [nm, nz, Nat.reduceAdd]) | (apply aa.store; (iterate 9 rfl); exact Nat.le_of_ble_eq_true rfl; simp only [nm, nz, Nat.reduceAdd]) | (apply aa.aj; rfl; rfl) | (apply aa.gT; rfl; rfl; rfl; first | omega | rfl) | (apply aa.gF; rfl; rfl; rfl; omega) | (apply aa.az; rfl; rfl; rfl) | apply aa.dM | apply aa.lpU | intro _ | (apply aa.aC; rfl; rfl; rfl; rfl))
    all_goals first | exact ⟨rfl, rfl⟩ | omega
 ·rw [if_pos he]
  obtain rfl := cu he
  simp only
  rcases hk with rfl | rfl | rfl | rfl
  all_goals
   refine ACalls.enter Tryz.func146 rfl Tryz.ntmps146 (by kernel_rfl) rfl ?_; simp only [au, nm, Nat.reduceAdd]
   repeat' (first | (apply aa.st; rfl) | (apply aa.gI [0, 1, 2, 3, 4, 5, 6, 7, 8, 9, 10, 11, 12, 13, 14] 15 9; rfl) | (apply aa.gI [0, 1, 2, 3, 4, 5, 6, 7, 8, 9, 10, 11, 12] 13 12; rfl) | (apply bq.dL; rfl; (apply bL.q true; rfl; rfl; first | exact True.intro | omega); exact fun _ _ _ h => h; (iterate 6 rfl); kernel_rfl; kernel_rfl) | (apply bq.load; rfl; rfl; (first | exact True.intro | omega); exact fun _ _ _ h => h; (iterate 6 rfl); kernel_rfl; kernel_rfl) | (apply bq.go) | (apply aL.fin; kernel_rfl) | (apply aL.dL; rfl; (apply bL.q true; rfl; rfl; first | exact True.intro | omega); exact fun _ _ _ h => h; (iterate 6 rfl); kernel_rfl; kernel_rfl) | (apply aL.call (ic); (iterate 8 rfl); kernel_rfl; rfl; rfl; rfl; try simp only [ny, nh, Nat.reduceAdd, Nat.reduceSub]) | (apply aL.step; rfl; rfl; kernel_rfl; rfl) | (apply aL.kP; rfl; kernel_rfl) | (apply cz.step; rfl; rfl) | (apply aL.back) | (exact aa.dR) | (apply aa.ba; (repeat' (first | exact aN.nil | (apply aN.cons; rfl))); rfl) | (apply aa.q true; rfl; rfl; rfl; rfl; first | exact True.intro | omega | (simp only [tn, Int.reduceToNat]; omega)) | (apply aa.ah [2] ( cb); (iterate 6 rfl); decide; rfl; rfl; simp only [ny, nh, Nat.reduceAdd, Nat.reduceSub]) | (apply aa.aA (ic); (iterate 6 rfl)) | (apply aa.exit; rfl) | (apply aa.af; rfl; first | omega | rfl) | (apply aa.ae; rfl; omega) | (apply aa.aB; rfl) | (apply aa.ak; rfl) | (apply aa.box; (iterate 6 rfl); simp only [nm, nz, Nat.reduceAdd]) | (apply aa.store; (iterate 9 rfl); exact Nat.le_of_ble_eq_true rfl; simp only [nm, nz, Nat.reduceAdd]) | (apply aa.aj; rfl; rfl) | (apply aa.gT; rfl; rfl; rfl; first | omega | rfl) | (apply aa.gF; rfl; rfl; rfl; omega) | (apply aa.az; rfl; rfl; rfl) | apply aa.dM | apply aa.lpU | intro _ | (apply aa.aC; rfl; rfl; rfl; rfl))
   all_goals first | exact ⟨rfl, rfl⟩ | omega
end Ci
end Go.Proofs.YtbfojhfiemcnpaaGreatDoor.Av
