/- Cells are read: what is told of bits. Cells are read: steps; the parts' contracts. Cells are read: cellin's head. Cells are read: cellin's middle. -/
import Derived.Test.YtbfojhfiemcnpaaGreatDoorPq2
import Derived.Test.YtbfojhfiemcnpaaGreatDoorCo2
import Derived.Test.YtbfojhfiemcnpaaGreatDoorPq3
import Derived.Test.YtbfojhfiemcnpaaGreatDoorPq11
import Derived.Test.YtbfojhfiemcnpaaGreatDoorPn5
set_option linter.unusedVariables false
set_option linter.unusedSimpArgs false
set_option maxRecDepth 100000
set_option maxHeartbeats 64000000
namespace Go.Proofs.YtbfojhfiemcnpaaGreatDoor.Av
namespace Ci
open Go Bt Tc Co Bl
attribute [local irreducible] aa ACalls
variable {gl : List (Nat × List D)}
def mbN (b : Bool) (B : List Int) : Int × Int × Int × Nat := Mb.mbX b (B.map bJ)
def cbN (b : Bool) (B : List Int) : Int × Int × Nat := ((Cb.cbX b (B.map bJ)).1, (Cb.cbX b (B.map bJ)).2.1, if (Cb.cbX b (B.map bJ)).2.1 = 0 then (Cb.cbX b (B.map bJ)).2.2 else 0)
def mvN (B : List Int) : Int × Int × Nat := ((Mv.mt B 0 1).1, (Mv.mt B 0 1).2.1, if (Mv.mt B 0 1).2.1 = 0 then (Mv.mt B 0 1).2.2 else 0)
def stX (v : Int) (n : Nat) : Int × Int × Nat := if n < 2 then (0, 2, 0) else (if 2 ≤ v then v - 1 else -1 - v, 0, 2)
def stN (B : List Int) : Int × Int × Nat := stX (nB (B.take 2)) B.length
structure HdR where
 stuff : Int
 skip : Bool
 kind : Int
 chr : Int
 err : Int
 used : Nat
def hdK (n : Int) (k : Nat) (x : Int × Int × Int × Nat) (y : HdR) : HdR :=
 if x.2.2.1 ≠ 0 then ⟨n, false, 0, 0, x.2.2.1, k⟩ else
 if x.1 ≠ 5 then ⟨n, false, x.1, x.2.1, 0, k + x.2.2.2⟩ else
 if n = 64 then ⟨n, false, 0, 0, 13, k + x.2.2.2⟩ else
 { y with used := k + x.2.2.2 + y.used }
def hdX (b : Bool) : Nat → Int → List Int → HdR
  | 0, n, _ => ⟨n, false, 0, 0, 13, 0⟩
  | f + 1, n, B =>
    if b = true then
      (if B = [] then ⟨n, false, 0, 0, 2, 0⟩ else if B.getD 0 0 = 1 then ⟨n, true, 0, 0, 0, 1⟩ else
       hdK n 1 (mbN b (B.drop 1)) (hdX b f (n + 1) (B.drop (1 + (mbN b (B.drop 1)).2.2.2))))
    else hdK n 0 (mbN b B) (hdX b f (n + 1) (B.drop (mbN b B).2.2.2))
structure MdR where
 pat : Int
 step : Int
 mx : Int
 my : Int
 err : Int
 used : Nat
def wr (p d : Int) : Int := bN (bN p + d)
def mdM (k px py : Int) (B : List Int) (pat step : Int) (q : Nat) : MdR :=
 if aK k = true then ⟨pat, step, 0, 0, 0, q⟩ else
 if (mvN (B.drop q)).2.1 ≠ 0 then ⟨pat, step, wr px (mvN (B.drop q)).1, 0, (mvN (B.drop q)).2.1, q⟩ else
 ⟨pat, step, wr px (mvN (B.drop q)).1, wr py (mvN (B.drop (q + (mvN (B.drop q)).2.2))).1, (mvN (B.drop (q + (mvN (B.drop q)).2.2))).2.1, q + (mvN (B.drop q)).2.2 + (mvN (B.drop (q + (mvN (B.drop q)).2.2))).2.2⟩
def mdX (k px py : Int) (B : List Int) : MdR :=
  if (cbN (aK k) B).2.1 ≠ 0 then ⟨(cbN (aK k) B).1, 0, 0, 0, (cbN (aK k) B).2.1, 0⟩ else
  if cT k = true then
    (if (stN (B.drop (cbN (aK k) B).2.2)).2.1 ≠ 0 then ⟨(cbN (aK k) B).1, (stN (B.drop (cbN (aK k) B).2.2)).1, 0, 0, (stN (B.drop (cbN (aK k) B).2.2)).2.1, (cbN (aK k) B).2.2⟩ else
     mdM k px py B (cbN (aK k) B).1 (stN (B.drop (cbN (aK k) B).2.2)).1 ((cbN (aK k) B).2.2 + (stN (B.drop (cbN (aK k) B).2.2)).2.2))
  else mdM k px py B (cbN (aK k) B).1 0 (cbN (aK k) B).2.2
def bH (v : Int) (i : Nat) : Bool := decide (v / 2 ^ (5 - i) % 2 = 1)
def bdX (intra : Bool) : List Bool → List Int → Nat → List (Int × List Ev) × Int × Nat
 | [], _, q => ([], 0, q)
 | c :: cs, B, q =>
  if (blX intra c (B.drop q)).2.2.1 ≠ 0 then ([], (blX intra c (B.drop q)).2.2.1, q) else
  (((blX intra c (B.drop q)).1, (blX intra c (B.drop q)).2.1) :: (bdX intra cs B (q + (blX intra c (B.drop q)).2.2.2)).1, (bdX intra cs B (q + (blX intra c (B.drop q)).2.2.2)).2)
def cds (v : Int) : List Bool := [bH v 0, bH v 1, bH v 2, bH v 3, bH v 4, bH v 5]
def AP : Cel := ⟨0, false, 0, 0, 0, 0, 0, 0, 0, 0, 0, 0, [], [], [], [], [], []⟩
def ju (st k sp mx my : Int) : List (Int × List Ev) → Cel
 | [b0, b1, b2, b3, b4, b5] => ⟨st, false, k, sp, mx, my, b0.1, b1.1, b2.1, b3.1, b4.1, b5.1, b0.2, b1.2, b2.2, b3.2, b4.2, b5.2⟩
 | _ => AP
def DN (px py : Int) (B : List Int) (h : HdR) : Cel × Int × Nat :=
  if h.err ≠ 0 then (AP, h.err, 0) else
  if h.skip = true then (⟨h.stuff, true, 0, 0, 0, 0, 0, 0, 0, 0, 0, 0, [], [], [], [], [], []⟩, 0, h.used) else
  if (mdX h.kind px py (B.drop h.used)).err ≠ 0 then (AP, (mdX h.kind px py (B.drop h.used)).err, 0) else
  if (bdX (aK h.kind) (cds (4 * (mdX h.kind px py (B.drop h.used)).pat + h.chr)) (B.drop h.used) (mdX h.kind px py (B.drop h.used)).used).2.1 ≠ 0 then (AP, (bdX (aK h.kind) (cds (4 * (mdX h.kind px py (B.drop h.used)).pat + h.chr)) (B.drop h.used) (mdX h.kind px py (B.drop h.used)).used).2.1, 0) else
  (ju h.stuff h.kind (mdX h.kind px py (B.drop h.used)).step (mdX h.kind px py (B.drop h.used)).mx (mdX h.kind px py (B.drop h.used)).my (bdX (aK h.kind) (cds (4 * (mdX h.kind px py (B.drop h.used)).pat + h.chr)) (B.drop h.used) (mdX h.kind px py (B.drop h.used)).used).1, 0,
   h.used + (bdX (aK h.kind) (cds (4 * (mdX h.kind px py (B.drop h.used)).pat + h.chr)) (B.drop h.used) (mdX h.kind px py (B.drop h.used)).used).2.2)
def iN (b : Bool) (px py : Int) (B : List Int) : Cel × Int × Nat := DN px py B (hdX b 65 0 B)
theorem wV (b : Bool) (B : List Int) (h : (mbN b B).2.2.1 ≠ 0) : (mbN b B).1 = 0 ∧ (mbN b B).2.1 = 0 ∧ (mbN b B).2.2.2 = 0 := by
 unfold mbN Mb.mbX at h ⊢
 generalize cV (Mb.jK b) (B.map bJ) [] = y at *
 obtain ⟨i, e, c⟩ := y
 simp only at h ⊢
 by_cases h1 : e = 0
 ·rw [if_pos h1] at h ⊢
  by_cases h2 : (i + (if b = true then 0 else 12)) / 4 = 2
  ·rw [if_pos h2]; exact ⟨rfl, rfl, rfl⟩
  ·rw [if_neg h2] at h
   exact absurd rfl h
 ·rw [if_neg h1]; exact ⟨rfl, rfl, rfl⟩
theorem Al (b : Bool) (B : List Int) : (mbN b B).2.2.2 ≤ B.length := by
 have hu := lN (Mb.jK b) (B.map bJ) []
 unfold mbN Mb.mbX
 generalize cV (Mb.jK b) (B.map bJ) [] = y at *
 obtain ⟨i, e, c⟩ := y
 simp only at hu ⊢
 by_cases h1 : e = 0
 ·rw [if_pos h1]
  by_cases h2 : (i + (if b = true then 0 else 12)) / 4 = 2
  ·rw [if_pos h2]; exact Nat.zero_le _
  ·rw [if_neg h2]
   simpa using hu h1
 ·rw [if_neg h1]; exact Nat.zero_le _
theorem AR (b : Bool) (B : List Int) : (cbN b B).2.2 ≤ B.length := by
 have hu := lN Cb.cbR (B.map bJ) []
 unfold cbN Cb.cbX
 split
 ·rename_i h1
  simpa using hu h1
 ·exact Nat.zero_le _
theorem Ad {B : List Int} (hB : ∀ b ∈ B, b = 0 ∨ b = 1) : Mv.Same (Mv.mt B 0 1) (cV Mv.jS (B.map bJ) []) := by
 have h2 := Mv.zx 14 _ _ Mv.DV B hB
 rwa [Mv.BH] at h2
theorem wT {B : List Int} (hB : ∀ b ∈ B, b = 0 ∨ b = 1) : (mvN B).2.2 ≤ B.length := by
 have hs := Ad hB
 have hu := lN Mv.jS (B.map bJ) []
 unfold mvN
 split
 ·rename_i h1
  rw [hs.1] at h1 ⊢
  simpa using hu h1
 ·exact Nat.zero_le _
theorem Ew (B : List Int) : (stN B).2.2 ≤ B.length := by
 unfold stN stX
 split
 ·exact Nat.zero_le _
 ·simp only; omega
theorem Hb (intra c : Bool) (s : List UInt8) (p : Nat) (hp : p ≤ 8 * s.length) : p + (blX intra c (aC s p)).2.2.2 ≤ 8 * s.length := by
 have hl := dK s p
 have hd := GD (nB ((aC s p).take 8)) (aC s p).length
 have h0 : p + (dc0 intra (aC s p)).2.2 ≤ 8 * s.length := by
  unfold dc0
  split
  ·omega
  ·simpa using hp
 have he := xj 66 s (p + (dc0 intra (aC s p)).2.2) (frm intra : Nat) h0
 rw [← dm] at he
 unfold blX
 split
 ·simpa using hp
 ·split
  ·split
   ·simpa using hp
   ·simp only; omega
  ·exact h0
end Ci
namespace Ci
open Go Bt Tc Co Bl
attribute [local irreducible] aa ACalls
variable {gl : List (Nat × List D)}
noncomputable abbrev gB : List (Nat × List D) := [(0, gl0), (3, gl3), (1, gl1), (2, gl2)]
theorem My : ∀ p ∈ Mb.gsp, p ∈ gB := by simp [Mb.gsp, gB]
theorem Mx : ∀ p ∈ gtc, p ∈ gB := by simp [gtc, gB]
theorem MC : ∀ p ∈ [(0, gl0)], p ∈ gB := by simp [gB]
attribute [local irreducible] nB aC
theorem LC (s : List UInt8) (p : Nat) (hs : s.length ≤ 1000000) (hp : p ≤ 8 * s.length) : ACalls (cxg gl) 158 [.ptr 0 0] [Rd s p]
  (fun r H => r = .bW [I (stN (aC s p)).1, I (stN (aC s p)).2.1] ∧ H = [Rd s ((p + (stN (aC s p)).2.2 : Nat) : Int)]) := by
 have tk := iP (gl := gl) s p 2 (by omega) hp (by omega)
 have hBl := dK s p
 unfold pkN tkN at tk
 unfold stN stX
 rw [hBl]
 by_cases h : 8 * s.length < p + 2
 ·rw [if_pos h, if_pos h] at tk
  rw [if_pos (by omega)]
  refine ACalls.enter Tryz.func158 rfl Tryz.ntmps158 (by kernel_rfl) rfl ?_; simp only [aB, nm, Nat.reduceAdd]
  repeat' (first | refine aa.aD ?_ | refine aa.aY true ?_ | (refine aa.ae [0] ( tk) ?_; simp only [ny, nh, Nat.reduceAdd, Nat.reduceSub]) | refine aa.ah ?_ | refine aa.af ?_ | refine aa.av ?_ | refine aa.ai ?_ | intro _ | refine aa.au ?_)
  all_goals first | exact ⟨rfl, rfl⟩ | omega
 ·rw [if_neg h, if_neg h] at tk
  rw [if_neg (by omega)]
  have v01 := mO 2 _ (take_len s p 2 (by omega)) (jD s p 2)
  generalize nB ((aC s p).take 2) = v at *
  by_cases h2 : 2 ≤ v
  ·rw [if_pos h2]
   refine ACalls.enter Tryz.func158 rfl Tryz.ntmps158 (by kernel_rfl) rfl ?_; simp only [aB, nm, Nat.reduceAdd]
   repeat' (first | refine aa.aD ?_ | refine aa.aY true ?_ | (refine aa.ae [0] ( tk) ?_; simp only [ny, nh, Nat.reduceAdd, Nat.reduceSub]) | refine aa.ah ?_ | refine aa.af ?_ | refine aa.av ?_ | refine aa.ai ?_ | intro _ | refine aa.au ?_)
   all_goals first | exact ⟨rfl, rfl⟩ | omega
  ·rw [if_neg h2]
   refine ACalls.enter Tryz.func158 rfl Tryz.ntmps158 (by kernel_rfl) rfl ?_; simp only [aB, nm, Nat.reduceAdd]
   repeat' (first | refine aa.aD ?_ | refine aa.aY true ?_ | (refine aa.ae [0] ( tk) ?_; simp only [ny, nh, Nat.reduceAdd, Nat.reduceSub]) | refine aa.ah ?_ | refine aa.af ?_ | refine aa.av ?_ | refine aa.ai ?_ | intro _ | refine aa.au ?_)
   all_goals first | exact ⟨rfl, rfl⟩ | omega
theorem JB (b : Bool) (s : List UInt8) (p : Nat) (hs : s.length ≤ 1000000) (hp : p ≤ 8 * s.length) : ACalls (cxg gB) 155 [.ptr 0 0, B b] [Rd s p]
  (fun r H => r = .bW [I (mbN b (aC s p)).1, I (mbN b (aC s p)).2.1, I (mbN b (aC s p)).2.2.1] ∧ H = [Rd s ((p + (mbN b (aC s p)).2.2.2 : Nat) : Int)]) := by
 have h := (Mb.FD b s p hs hp).more My
 have he := wV b (aC s p)
 have e : Mb.zV p (mbN b (aC s p)) = p + (mbN b (aC s p)).2.2.2 := by
  unfold Mb.zV
  split
  ·rfl
  ·rename_i h1
   rw [(he h1).2.2]; rfl
 rw [← e]
 exact h
theorem MX (b : Bool) (s : List UInt8) (p : Nat) (hs : s.length ≤ 1000000) (hp : p ≤ 8 * s.length) : ACalls (cxg gl) 156 [.ptr 0 0, B b] [Rd s p]
  (fun r H => r = .bW [I (cbN b (aC s p)).1, I (cbN b (aC s p)).2.1] ∧ H = [Rd s ((p + (cbN b (aC s p)).2.2 : Nat) : Int)]) := by
 have h := Cb.I5 (gl := gl) b s p hs hp
 have e : Px.wH p (Cb.cbX b ((aC s p).map bJ)) = p + (cbN b (aC s p)).2.2 := by
  unfold Px.wH cbN
  simp only
  split <;> rfl
 rw [e] at h
 exact h
theorem Me (s : List UInt8) (p : Nat) (hs : s.length ≤ 1000000) (hp : p ≤ 8 * s.length) : ACalls (cxg gB) 159 [.ptr 0 0] [Rd s p]
  (fun r H => r = .bW [I (mvN (aC s p)).1, I (mvN (aC s p)).2.1] ∧ H = [Rd s ((p + (mvN (aC s p)).2.2 : Nat) : Int)]) := by
 have h := (Mv.Im s p hs hp).more MC
 have e : Mv.Fz p (Mv.mt (aC s p) 0 1) = p + (mvN (aC s p)).2.2 := by
  unfold Mv.Fz mvN
  simp only
  split <;> rfl
 rw [e] at h
 exact h
theorem M4 (s : List UInt8) (p : Nat) (intra coded : Bool) (hs : s.length ≤ 1000000) (hp : p ≤ 8 * s.length) : ACalls (cxg gB) 160 [.ptr 0 0, B intra, B coded] [Rd s p]
  (fun r H => r = .bW [I (blX intra coded (aC s p)).1, .d (.sl 3 (bG (blX intra coded (aC s p)).2.1)), I (blX intra coded (aC s p)).2.2.1] ∧ H = [Rd s ((p + (blX intra coded (aC s p)).2.2.2 : Nat) : Int)]) := (Ha s p intra coded hs hp).more Mx
end Ci
namespace Ci
open Go Bt Tc Co Bl
attribute [local irreducible] aa ACalls
variable {gl : List (Nat × List D)}
abbrev Rr (i : Nat) (e : Int) : aH := .cells [.ptr i 0, I e]
abbrev I8 (st : Int) (sk : Bool) (ki : Int) : List AV := [I st, B sk, I ki, I 0, I 0, I 0, I 0, I 0, I 0, I 0, I 0, I 0, .d .bf, .d .bf, .d .bf, .d .bf, .d .bf, .d .bf]
theorem IU (f : Nat) (n : Int) (s : List UInt8) (p : Nat) (h : 8 * s.length ≤ p) : hdX true (f + 1) n (aC s p) = ⟨n, false, 0, 0, 2, 0⟩ := by
 rw [kr s p h]; rfl
theorem IR (f : Nat) (n : Int) (s : List UInt8) (p : Nat) (h : p < 8 * s.length) (h1 : dS s (p : Int) = 1) : hdX true (f + 1) n (aC s p) = ⟨n, true, 0, 0, 0, 1⟩ := by
 rw [ik s p h, hdX, if_pos rfl, if_neg (by simp), if_pos (by simpa using h1)]
theorem F3 (f : Nat) (n : Int) (s : List UInt8) (p : Nat) (h : p < 8 * s.length) (h1 : dS s (p : Int) ≠ 1) : hdX true (f + 1) n (aC s p) = hdK n 1 (mbN true (aC s (p + 1))) (hdX true f (n + 1) (aC s (p + 1 + (mbN true (aC s (p + 1))).2.2.2))) := by
 have e := ik s p h
 rw [hdX, if_pos rfl, if_neg (by rw [e]; simp), if_neg (by rw [e]; simpa using h1), dm, dm, ← Nat.add_assoc]
theorem Ms (f : Nat) (n : Int) (s : List UInt8) (p : Nat) : hdX false (f + 1) n (aC s p) = hdK n 0 (mbN false (aC s p)) (hdX false f (n + 1) (aC s (p + (mbN false (aC s p)).2.2.2))) := by
 rw [hdX, if_neg (by decide), dm]
theorem zn (s : List UInt8) (p : Nat) (hs : s.length ≤ 1000000) (h : p < 8 * s.length) : ACalls (cxg gl) 154 [.ptr 0 0] [Rr 1 0, Rd s p] (fun r H => r = I (dS s p) ∧ H = [Rr 1 0, Rd s ((p + 1 : Nat) : Int)]) := by
 have t := Mv.jw (gl := gl) s p (by omega) h
 refine ACalls.enter Tryz.func154 rfl Tryz.ntmps154 (by kernel_rfl) rfl ?_; simp only [aB, nm, Nat.reduceAdd]
 repeat' (first | refine aa.aD ?_ | refine aa.aY true ?_ | (refine aa.ae [1] ( t) ?_; simp only [ny, nh, Nat.reduceAdd, Nat.reduceSub]) | refine aa.ai ?_ | (refine aa.az ?_; simp only [nm, nz, Nat.reduceAdd]) | intro _ | refine aa.au ?_)
 all_goals first | exact ⟨rfl, rfl⟩
theorem Hg (s : List UInt8) (p : Nat) (hs : s.length ≤ 1000000) (h : p = 8 * s.length) : ACalls (cxg gl) 154 [.ptr 0 0] [Rr 1 0, Rd s p] (fun r H => r = I 0 ∧ H = [Rr 1 2, Rd s p]) := by
 have t := Mv.lJ (gl := gl) s p (by omega) h
 refine ACalls.enter Tryz.func154 rfl Tryz.ntmps154 (by kernel_rfl) rfl ?_; simp only [aB, nm, Nat.reduceAdd]
 repeat' (first | refine aa.aD ?_ | refine aa.aY true ?_ | (refine aa.ae [1] ( t) ?_; simp only [ny, nh, Nat.reduceAdd, Nat.reduceSub]) | refine aa.ai ?_ | (refine aa.az ?_; simp only [nm, nz, Nat.reduceAdd]) | intro _ | refine aa.au ?_)
 all_goals first | exact ⟨rfl, rfl⟩
def hdA (q : Nat) (h : HdR) : HdR := { h with used := q + h.used }
theorem Mt (h : HdR) : hdA 0 h = h := by
 cases h; simp [hdA]
attribute [local irreducible] mbN aC dS hdX
theorem I7 (b : Bool) (s : List UInt8) (p : Nat) (hs : s.length ≤ 1000000) (hp : p ≤ 8 * s.length) : ACalls (cxg gB) 145 [.ptr 0 0, B b, .ptr 1 0] [Rr 2 0, .cells (I8 0 false 0), Rd s p]
  (fun r H => r = .bW [I (hdX b 65 0 (aC s p)).chr, B (decide ((hdX b 65 0 (aC s p)).err = 0) && !(hdX b 65 0 (aC s p)).skip)] ∧ H = [Rr 2 (hdX b 65 0 (aC s p)).err, .cells (I8 (hdX b 65 0 (aC s p)).stuff (hdX b 65 0 (aC s p)).skip (hdX b 65 0 (aC s p)).kind), Rd s ((p + (hdX b 65 0 (aC s p)).used : Nat) : Int)]) := by
 have hle := fun q => Al b (aC s q)
 generalize hh0 : hdX b 65 0 (aC s p) = h at *
 refine ACalls.enter Tryz.func145 rfl Tryz.ntmps145 (by kernel_rfl) rfl ?_; simp only [aB, nm, Nat.reduceAdd]
 repeat (first | refine aa.aD ?_ | refine aa.aY true ?_ | refine aa.ah ?_ | refine aa.af ?_ | refine aa.av ?_ | refine aa.ai ?_ | (refine aa.az ?_; simp only [nm, nz, Nat.reduceAdd]) | refine aa.aj ?_ | refine aa.aU ?_ | refine aa.aA ?_)
 refine aa.weak (env' := [(2, .ptr 1 0), (1, B b), (0, .ptr 0 0)]) ⟨rfl, rfl, rfl, trivial⟩ ?_
 refine aa.loop (fun m env H => ∃ (f : Nat) (n : Int) (q : Nat), m = f ∧ (0 ≤ n ∧ n ≤ 64 ∧ 64 - n < f) ∧ p + q ≤ 8 * s.length ∧ hdA q (hdX b f n (aC s (p + q))) = h ∧ env = [(2, .ptr 1 0), (1, B b), (0, .ptr 0 0)] ∧
  H = [Rr 2 0, .cells (I8 n false 0), Rd s ((p + q : Nat) : Int)]) 65
  ⟨65, 0, 0, rfl, by omega, by omega, by rw [Nat.add_zero, hh0]; exact Mt h, rfl, rfl⟩ ?_
 rintro m env H ⟨f, n, q, rfl, hn, hq, hh, rfl, rfl⟩
 obtain ⟨f, rfl⟩ : ∃ g, m = g + 1 := ⟨m - 1, by omega⟩
 cases b with
 | false =>
  have mt := JB false s (p + q) hs hq
  have ml := hle (p + q)
  have me := wV false (aC s (p + q))
  rw [dK] at ml
  rw [Ms] at hh
  generalize mbN false (aC s (p + q)) = x at *
  obtain ⟨k, ch, e, u⟩ := x
  simp only at mt ml me hh
  unfold hdK at hh
  simp only at hh
  by_cases he : e = 0
  ·subst he
   rw [if_neg (by simp)] at hh
   by_cases h5 : k = 5
   ·subst h5
    rw [if_neg (by simp)] at hh
    by_cases h64 : n = 64
    ·subst h64
     rw [if_pos rfl] at hh
     subst hh
     simp only [hdA, Nat.zero_add, ← Nat.add_assoc]
     repeat' (first | refine aa.aD ?_ | refine aa.aY true ?_ | (refine aa.ae [2] ( mt) ?_; simp only [ny, nh, Nat.reduceAdd, Nat.reduceSub]) | refine aa.ah ?_ | refine aa.af ?_ | refine aa.av ?_ | refine aa.ai ?_ | (refine aa.az ?_; simp only [nm, nz, Nat.reduceAdd]) | refine aa.aj ?_ | refine aa.aU ?_ | refine aa.aA ?_ | intro _ | refine aa.au ?_ | refine aa.aQ ?_ | refine aa.aI ?_)
     all_goals first | exact ⟨rfl, rfl⟩ | omega
    ·rw [if_neg h64] at hh
     repeat' (first | refine aa.aD ?_ | refine aa.aY true ?_ | (refine aa.ae [2] ( mt) ?_; simp only [ny, nh, Nat.reduceAdd, Nat.reduceSub]) | refine aa.ah ?_ | refine aa.af ?_ | refine aa.av ?_ | refine aa.ai ?_ | (refine aa.az ?_; simp only [nm, nz, Nat.reduceAdd]) | refine aa.aj ?_ | refine aa.aU ?_ | refine aa.aA ?_ | intro _ | refine aa.au ?_ | refine aa.aQ ?_ | refine aa.aI ?_)
     all_goals first
      | exact aa.round [(2, .ptr 1 0), (1, B false), (0, .ptr 0 0)] f (by omega) ⟨rfl, rfl, rfl, trivial⟩ ⟨f, n + 1, q + u, rfl, by omega, by omega, by rw [← hh]; simp only [hdA, Nat.zero_add, Nat.add_assoc], rfl, by simp only [Nat.add_assoc]⟩
      | omega
   ·rw [if_pos h5] at hh
    subst hh
    simp only [hdA, Nat.zero_add, ← Nat.add_assoc]
    repeat' (first | refine aa.aD ?_ | refine aa.aY true ?_ | (refine aa.ae [2] ( mt) ?_; simp only [ny, nh, Nat.reduceAdd, Nat.reduceSub]) | refine aa.ah ?_ | refine aa.af ?_ | refine aa.av ?_ | refine aa.ai ?_ | (refine aa.az ?_; simp only [nm, nz, Nat.reduceAdd]) | refine aa.aj ?_ | refine aa.aU ?_ | refine aa.aA ?_ | intro _ | refine aa.au ?_ | refine aa.aQ ?_ | refine aa.aI ?_)
    all_goals first | exact ⟨rfl, rfl⟩ | omega
  ·rw [if_pos he] at hh
   obtain ⟨_, _, rfl⟩ := me he
   subst hh
   simp only [hdA, Nat.add_zero]
   rw [Nat.add_zero] at mt
   repeat' (first | refine aa.aD ?_ | refine aa.aY true ?_ | (refine aa.ae [2] ( mt) ?_; simp only [ny, nh, Nat.reduceAdd, Nat.reduceSub]) | refine aa.ah ?_ | refine aa.af ?_ | refine aa.av ?_ | refine aa.ai ?_ | (refine aa.az ?_; simp only [nm, nz, Nat.reduceAdd]) | refine aa.aj ?_ | refine aa.aU ?_ | refine aa.aA ?_ | intro _ | refine aa.au ?_ | refine aa.aQ ?_ | refine aa.aI ?_)
   all_goals first | exact ⟨by simp [he], rfl⟩ | omega
 | true =>
  rcases Nat.lt_or_ge (p + q) (8 * s.length) with hlt | hge
  ·have hb01 := mL s ((p + q : Nat) : Int)
   have bc := zn (gl := gB) s (p + q) hs hlt
   by_cases h1 : dS s ((p + q : Nat) : Int) = 1
   ·rw [IR _ _ _ _ hlt h1] at hh
    rw [h1] at bc
    subst hh
    simp only [hdA, ← Nat.add_assoc]
    repeat' (first | refine aa.aD ?_ | refine aa.aY true ?_ | (refine aa.ae [0,2] ( bc) ?_; simp only [ny, nh, Nat.reduceAdd, Nat.reduceSub]) | refine aa.ah ?_ | refine aa.af ?_ | refine aa.av ?_ | refine aa.ai ?_ | (refine aa.az ?_; simp only [nm, nz, Nat.reduceAdd]) | refine aa.aj ?_ | refine aa.aU ?_ | refine aa.aA ?_ | intro _ | refine aa.au ?_ | refine aa.aQ ?_ | refine aa.aI ?_)
    all_goals first | exact ⟨rfl, rfl⟩ | omega
   ·rw [F3 _ _ _ _ hlt h1] at hh
    rw [show dS s ((p + q : Nat) : Int) = 0 by omega] at bc
    have mt := JB true s (p + q + 1) hs (by omega)
    have ml := hle (p + q + 1)
    have me := wV true (aC s (p + q + 1))
    rw [dK] at ml
    generalize mbN true (aC s (p + q + 1)) = x at *
    obtain ⟨k, ch, e, u⟩ := x
    simp only at mt ml me hh
    unfold hdK at hh
    simp only at hh
    by_cases he : e = 0
    ·subst he
     rw [if_neg (by simp)] at hh
     by_cases h5 : k = 5
     ·subst h5
      rw [if_neg (by simp)] at hh
      by_cases h64 : n = 64
      ·subst h64
       rw [if_pos rfl] at hh
       subst hh
       simp only [hdA, ← Nat.add_assoc]
       repeat' (first | refine aa.aD ?_ | refine aa.aY true ?_ | (refine aa.ae [0,2] ( bc) ?_; simp only [ny, nh, Nat.reduceAdd, Nat.reduceSub]) | (refine aa.ae [2] ( mt) ?_; simp only [ny, nh, Nat.reduceAdd, Nat.reduceSub]) | refine aa.ah ?_ | refine aa.af ?_ | refine aa.av ?_ | refine aa.ai ?_ | (refine aa.az ?_; simp only [nm, nz, Nat.reduceAdd]) | refine aa.aj ?_ | refine aa.aU ?_ | refine aa.aA ?_ | intro _ | refine aa.au ?_ | refine aa.aQ ?_ | refine aa.aI ?_)
       all_goals first | exact ⟨rfl, rfl⟩ | omega
      ·rw [if_neg h64] at hh
       repeat' (first | refine aa.aD ?_ | refine aa.aY true ?_ | (refine aa.ae [0,2] ( bc) ?_; simp only [ny, nh, Nat.reduceAdd, Nat.reduceSub]) | (refine aa.ae [2] ( mt) ?_; simp only [ny, nh, Nat.reduceAdd, Nat.reduceSub]) | refine aa.ah ?_ | refine aa.af ?_ | refine aa.av ?_ | refine aa.ai ?_ | (refine aa.az ?_; simp only [nm, nz, Nat.reduceAdd]) | refine aa.aj ?_ | refine aa.aU ?_ | refine aa.aA ?_ | intro _ | refine aa.au ?_ | refine aa.aQ ?_ | refine aa.aI ?_)
       all_goals first
        | exact aa.round [(2, .ptr 1 0), (1, B true), (0, .ptr 0 0)] f (by omega) ⟨rfl, rfl, rfl, trivial⟩ ⟨f, n + 1, q + 1 + u, rfl, by omega, by omega, by rw [← hh]; simp only [hdA, Nat.add_assoc], rfl, by simp only [Nat.add_assoc]⟩
        | omega
     ·rw [if_pos h5] at hh
      subst hh
      simp only [hdA, ← Nat.add_assoc]
      repeat' (first | refine aa.aD ?_ | refine aa.aY true ?_ | (refine aa.ae [0,2] ( bc) ?_; simp only [ny, nh, Nat.reduceAdd, Nat.reduceSub]) | (refine aa.ae [2] ( mt) ?_; simp only [ny, nh, Nat.reduceAdd, Nat.reduceSub]) | refine aa.ah ?_ | refine aa.af ?_ | refine aa.av ?_ | refine aa.ai ?_ | (refine aa.az ?_; simp only [nm, nz, Nat.reduceAdd]) | refine aa.aj ?_ | refine aa.aU ?_ | refine aa.aA ?_ | intro _ | refine aa.au ?_ | refine aa.aQ ?_ | refine aa.aI ?_)
      all_goals first | exact ⟨rfl, rfl⟩ | omega
    ·rw [if_pos he] at hh
     obtain ⟨_, _, rfl⟩ := me he
     subst hh
     simp only [hdA, ← Nat.add_assoc]
     rw [Nat.add_zero] at mt
     repeat' (first | refine aa.aD ?_ | refine aa.aY true ?_ | (refine aa.ae [0,2] ( bc) ?_; simp only [ny, nh, Nat.reduceAdd, Nat.reduceSub]) | (refine aa.ae [2] ( mt) ?_; simp only [ny, nh, Nat.reduceAdd, Nat.reduceSub]) | refine aa.ah ?_ | refine aa.af ?_ | refine aa.av ?_ | refine aa.ai ?_ | (refine aa.az ?_; simp only [nm, nz, Nat.reduceAdd]) | refine aa.aj ?_ | refine aa.aU ?_ | refine aa.aA ?_ | intro _ | refine aa.au ?_ | refine aa.aQ ?_ | refine aa.aI ?_)
     all_goals first | exact ⟨by simp [he], rfl⟩ | omega
  ·have be := Hg (gl := gB) s (p + q) hs (by omega)
   rw [IU _ _ _ _ hge] at hh
   subst hh
   simp only [hdA, Nat.add_zero]
   repeat' (first | refine aa.aD ?_ | refine aa.aY true ?_ | (refine aa.ae [0,2] ( be) ?_; simp only [ny, nh, Nat.reduceAdd, Nat.reduceSub]) | refine aa.ah ?_ | refine aa.af ?_ | refine aa.av ?_ | refine aa.ai ?_ | (refine aa.az ?_; simp only [nm, nz, Nat.reduceAdd]) | refine aa.aj ?_ | refine aa.aU ?_ | refine aa.aA ?_ | intro _ | refine aa.au ?_ | refine aa.aQ ?_ | refine aa.aI ?_)
   all_goals first | exact ⟨rfl, rfl⟩ | omega
end Ci
namespace Ci
open Go Bt Tc Co Bl
attribute [local irreducible] aa ACalls bE aT cQ
variable {gl : List (Nat × List D)}
abbrev Le (st : Int) (ki sp mx my : Int) : List AV := [I st, B false, I ki, I sp, I mx, I my, I 0, I 0, I 0, I 0, I 0, I 0, .d .bf, .d .bf, .d .bf, .d .bf, .d .bf, .d .bf]
theorem za (k : Int) : ACalls (cxg gl) 157 [I k] [] (fun r H => r = B (aK k) ∧ H = []) := by
 by_cases h : k = 3 ∨ k = 4
 ·rw [show aK k = true from decide_eq_true h]
  rcases h with rfl | rfl
  all_goals
   refine ACalls.enter Tryz.func157 rfl Tryz.ntmps157 (by kernel_rfl) rfl ?_; simp only [aB, nm, Nat.reduceAdd]
   repeat' (first | refine aa.aD ?_ | refine aa.aY true ?_ | refine aa.aj ?_ | refine aa.cN ?_ | refine aa.bh ?_ | refine aa.aA ?_ | intro _ | refine aa.au ?_)
   all_goals first | exact ⟨rfl, rfl⟩
 ·rw [show aK k = false from decide_eq_false h]
  refine ACalls.enter Tryz.func157 rfl Tryz.ntmps157 (by kernel_rfl) rfl ?_; simp only [aB, nm, Nat.reduceAdd]
  repeat' (first | refine aa.aD ?_ | refine aa.aY true ?_ | refine aa.aj ?_ | refine aa.cN ?_ | refine aa.bh ?_ | refine aa.aA ?_ | intro _ | refine aa.au ?_)
  all_goals first | exact ⟨rfl, rfl⟩ | exact ⟨congrArg B (by simp only [bF]; omega), rfl⟩
theorem Ku (B : List Int) (hB : ∀ x ∈ B, x = 0 ∨ x = 1) : -32 ≤ (mvN B).1 ∧ (mvN B).1 ≤ 31 := by
 have hs := Ad hB
 have hb := Mv.kX Mv.jS (B.map bJ) []
 rw [Mv.vA] at hb
 unfold mvN
 obtain ⟨a1, a2, a3⟩ := hs
 by_cases h : (Mv.mt B 0 1).2.1 = 0
 ·have e := a2 h
  have hb := hb (by rw [← a1]; exact h)
  simp only
  omega
 ·have e := a3 h
  simp only
  omega
theorem Jz {B : List Int} (h : (mvN B).2.1 ≠ 0) : (mvN B).2.2 = 0 := by
 unfold mvN at h ⊢
 exact if_neg h
theorem MZ {b : Bool} {B : List Int} (h : (cbN b B).2.1 ≠ 0) : (cbN b B).2.2 = 0 := by
 unfold cbN at h ⊢
 exact if_neg h
theorem Jv {B : List Int} (h : (stN B).2.1 ≠ 0) : (stN B).1 = 0 ∧ (stN B).2.2 = 0 := by
 unfold stN stX at h ⊢
 split
 ·exact ⟨rfl, rfl⟩
 ·rename_i h1
  rw [if_neg h1] at h
  exact absurd rfl h
attribute [local irreducible] mbN cbN mvN stN aC bN
theorem La (st k px py : Int) (s : List UInt8) (p : Nat) (hk : k = 0 ∨ k = 1 ∨ k = 3 ∨ k = 4) (hpx : I64 px) (hpy : I64 py) (hs : s.length ≤ 1000000) (hp : p ≤ 8 * s.length) :
  ACalls (cxg gB) 146 [.ptr 0 0, .ptr 1 0, .d (.agg [In px, In py])] [Rr 2 0, .cells (I8 st false k), Rd s p]
  (fun r H => r = I (mdX k px py (aC s p)).pat ∧ H = [Rr 2 (mdX k px py (aC s p)).err, .cells (Le st k (mdX k px py (aC s p)).step (mdX k px py (aC s p)).mx (mdX k px py (aC s p)).my), Rd s ((p + (mdX k px py (aC s p)).used : Nat) : Int)]) := by
 have ic := za (gl := gB) k
 have cb := MX (gl := gB) (aK k) s p hs hp
 have cl := AR (aK k) (aC s p)
 have sl := Ew
 have w1 := ku (gl := gB) px hpx
 have w2 := ku (gl := gB) py hpy
 have wb1 := iA px
 have wb2 := iA py
 have ww := fun n h => ku (gl := gB) n h
 have hBl := dK s
 have stc := fun q hq => LC (gl := gB) s q hs hq
 have mvc := fun q hq => Me s q hs hq
 have mvl := fun q => wT (gG s q)
 have mvb := fun q => Ku _ (gG s q)
 unfold mdX mdM
 simp only [dm]
 rw [hBl] at cl
 have cu := MZ (b := aK k) (B := aC s p)
 generalize hX : cbN (aK k) (aC s p) = x at *
 obtain ⟨pat, e, u⟩ := x
 simp only at cb cl cu ⊢
 by_cases he : e = 0
 ·subst he
  simp only [ne_eq, not_true_eq_false, if_false]
  rcases hk with rfl | rfl | rfl | rfl
  ·have hI : aK 0 = false := rfl
   have hS : cT 0 = false := rfl
   rw [hI] at ic cb
   simp only [hI, hS, Bool.false_eq_true, if_false]
   have mv1 := fun h => mvc (p + u) h
   have ml1 := mvl (p + u)
   have mb1 := mvb (p + u)
   rw [hBl] at ml1
   have m1 := mv1 (by omega)
   have mu1 := Jz (B := aC s (p + u))
   generalize mvN (aC s (p + u)) = y at *
   obtain ⟨d1, e1, u1⟩ := y
   simp only at m1 ml1 mb1 mu1 ⊢
   have v1 := ww (bN px + d1) (by omega)
   by_cases h1 : e1 = 0
   ·subst h1
    simp only [not_true_eq_false, if_false]
    simp only [← Nat.add_assoc]
    have m2 := mvc ((p + u) + u1) (by omega)
    have mb2 := mvb ((p + u) + u1)
    generalize mvN (aC s ((p + u) + u1)) = z at *
    obtain ⟨d2, e2, u2⟩ := z
    simp only at m2 mb2 ⊢
    have v2 := ww (bN py + d2) (by omega)
    unfold wr
    refine ACalls.enter Tryz.func146 rfl Tryz.ntmps146 (by kernel_rfl) rfl ?_; simp only [aB, nm, Nat.reduceAdd]
    repeat' (first | refine aa.aD ?_ | (apply aa.iL [0, 1, 2, 3, 4, 5, 6, 7, 8, 9, 10, 11, 12, 13, 14] 15 9; rfl) | (apply aa.iL [0, 1, 2, 3, 4, 5, 6, 7, 8, 9, 10, 11, 12] 13 12; rfl) | (apply bE.fq; rfl; (apply cE.q true; rfl; rfl; first | exact True.intro | omega); exact fun _ _ _ h => h; (iterate 6 rfl); kernel_rfl; kernel_rfl) | refine bE.kJ ?_ | (apply bE.go) | refine aT.cZ ?_ | (apply aT.fq; rfl; (apply cE.q true; rfl; rfl; first | exact True.intro | omega); exact fun _ _ _ h => h; (iterate 6 rfl); kernel_rfl; kernel_rfl) | (refine aT.dI (ic) ?_; try simp only [ny, nh, Nat.reduceAdd, Nat.reduceSub]) | (refine aT.dI (w1) ?_; try simp only [ny, nh, Nat.reduceAdd, Nat.reduceSub]) | (refine aT.dI (w2) ?_; try simp only [ny, nh, Nat.reduceAdd, Nat.reduceSub]) | (refine aT.dI (v1) ?_; try simp only [ny, nh, Nat.reduceAdd, Nat.reduceSub]) | (refine aT.dI (v2) ?_; try simp only [ny, nh, Nat.reduceAdd, Nat.reduceSub]) | refine aT.fK ?_ | (apply aT.mP; rfl; kernel_rfl) | refine cQ.fK ?_ | (apply aT.back) | (exact aa.fS) | (apply aa.bK; (repeat' (first | exact aZ.nil | (apply aZ.cons; rfl))); rfl) | refine aa.aY true ?_ | (refine aa.ae [2] ( cb) ?_; simp only [ny, nh, Nat.reduceAdd, Nat.reduceSub]) | (refine aa.ae [2] ( m1) ?_; simp only [ny, nh, Nat.reduceAdd, Nat.reduceSub]) | (refine aa.ae [2] ( m2) ?_; simp only [ny, nh, Nat.reduceAdd, Nat.reduceSub]) | refine aa.ak (ic) ?_ | refine aa.ak (w1) ?_ | refine aa.ak (w2) ?_ | refine aa.ak (v1) ?_ | refine aa.ak (v2) ?_ | refine aa.bO ?_ | refine aa.ah ?_ | refine aa.af ?_ | refine aa.av ?_ | refine aa.ai ?_ | (refine aa.aP ?_; simp only [nm, nz, Nat.reduceAdd]) | (refine aa.az ?_; simp only [nm, nz, Nat.reduceAdd]) | refine aa.aj ?_ | refine aa.cN ?_ | refine aa.bh ?_ | refine aa.aA ?_ | apply aa.dP | apply aa.lpU | intro _ | refine aa.au ?_)
    all_goals first | exact ⟨rfl, rfl⟩ | omega
   ·rw [if_pos h1]
    unfold wr
    obtain rfl := mu1 h1
    rw [Nat.add_zero] at m1
    simp only [← Nat.add_assoc]
    refine ACalls.enter Tryz.func146 rfl Tryz.ntmps146 (by kernel_rfl) rfl ?_; simp only [aB, nm, Nat.reduceAdd]
    repeat' (first | refine aa.aD ?_ | (apply aa.iL [0, 1, 2, 3, 4, 5, 6, 7, 8, 9, 10, 11, 12, 13, 14] 15 9; rfl) | (apply aa.iL [0, 1, 2, 3, 4, 5, 6, 7, 8, 9, 10, 11, 12] 13 12; rfl) | (apply bE.fq; rfl; (apply cE.q true; rfl; rfl; first | exact True.intro | omega); exact fun _ _ _ h => h; (iterate 6 rfl); kernel_rfl; kernel_rfl) | refine bE.kJ ?_ | (apply bE.go) | refine aT.cZ ?_ | (apply aT.fq; rfl; (apply cE.q true; rfl; rfl; first | exact True.intro | omega); exact fun _ _ _ h => h; (iterate 6 rfl); kernel_rfl; kernel_rfl) | (refine aT.dI (ic) ?_; try simp only [ny, nh, Nat.reduceAdd, Nat.reduceSub]) | (refine aT.dI (w1) ?_; try simp only [ny, nh, Nat.reduceAdd, Nat.reduceSub]) | (refine aT.dI (w2) ?_; try simp only [ny, nh, Nat.reduceAdd, Nat.reduceSub]) | (refine aT.dI (v1) ?_; try simp only [ny, nh, Nat.reduceAdd, Nat.reduceSub]) | refine aT.fK ?_ | (apply aT.mP; rfl; kernel_rfl) | refine cQ.fK ?_ | (apply aT.back) | (exact aa.fS) | (apply aa.bK; (repeat' (first | exact aZ.nil | (apply aZ.cons; rfl))); rfl) | refine aa.aY true ?_ | (refine aa.ae [2] ( cb) ?_; simp only [ny, nh, Nat.reduceAdd, Nat.reduceSub]) | (refine aa.ae [2] ( m1) ?_; simp only [ny, nh, Nat.reduceAdd, Nat.reduceSub]) | refine aa.ak (ic) ?_ | refine aa.ak (w1) ?_ | refine aa.ak (w2) ?_ | refine aa.ak (v1) ?_ | refine aa.bO ?_ | refine aa.ah ?_ | refine aa.af ?_ | refine aa.av ?_ | refine aa.ai ?_ | (refine aa.aP ?_; simp only [nm, nz, Nat.reduceAdd]) | (refine aa.az ?_; simp only [nm, nz, Nat.reduceAdd]) | refine aa.aj ?_ | refine aa.cN ?_ | refine aa.bh ?_ | refine aa.aA ?_ | apply aa.dP | apply aa.lpU | intro _ | refine aa.au ?_)
    all_goals first | exact ⟨rfl, rfl⟩ | omega
  ·have hI : aK 1 = false := rfl
   have hS : cT 1 = true := rfl
   rw [hI] at ic cb
   simp only [hI, hS, Bool.false_eq_true, if_false, if_true]
   have st1 := stc (p + u) (by omega)
   have sl1 := sl (aC s (p + u))
   have su1 := Jv (B := aC s (p + u))
   rw [hBl] at sl1
   generalize stN (aC s (p + u)) = t at *
   obtain ⟨sp, se, su⟩ := t
   simp only at st1 sl1 su1 ⊢
   by_cases hse : se = 0
   ·subst hse
    simp only [not_true_eq_false, if_false]
    simp only [← Nat.add_assoc]
    have mv1 := fun h => mvc (p + u + su) h
    have ml1 := mvl (p + u + su)
    have mb1 := mvb (p + u + su)
    rw [hBl] at ml1
    have m1 := mv1 (by omega)
    have mu1 := Jz (B := aC s (p + u + su))
    generalize mvN (aC s (p + u + su)) = y at *
    obtain ⟨d1, e1, u1⟩ := y
    simp only at m1 ml1 mb1 mu1 ⊢
    have v1 := ww (bN px + d1) (by omega)
    by_cases h1 : e1 = 0
    ·subst h1
     simp only [not_true_eq_false, if_false]
     simp only [← Nat.add_assoc]
     have m2 := mvc ((p + u + su) + u1) (by omega)
     have mb2 := mvb ((p + u + su) + u1)
     generalize mvN (aC s ((p + u + su) + u1)) = z at *
     obtain ⟨d2, e2, u2⟩ := z
     simp only at m2 mb2 ⊢
     have v2 := ww (bN py + d2) (by omega)
     unfold wr
     refine ACalls.enter Tryz.func146 rfl Tryz.ntmps146 (by kernel_rfl) rfl ?_; simp only [aB, nm, Nat.reduceAdd]
     repeat' (first | refine aa.aD ?_ | (apply aa.iL [0, 1, 2, 3, 4, 5, 6, 7, 8, 9, 10, 11, 12, 13, 14] 15 9; rfl) | (apply aa.iL [0, 1, 2, 3, 4, 5, 6, 7, 8, 9, 10, 11, 12] 13 12; rfl) | (apply bE.fq; rfl; (apply cE.q true; rfl; rfl; first | exact True.intro | omega); exact fun _ _ _ h => h; (iterate 6 rfl); kernel_rfl; kernel_rfl) | refine bE.kJ ?_ | (apply bE.go) | refine aT.cZ ?_ | (apply aT.fq; rfl; (apply cE.q true; rfl; rfl; first | exact True.intro | omega); exact fun _ _ _ h => h; (iterate 6 rfl); kernel_rfl; kernel_rfl) | (refine aT.dI (ic) ?_; try simp only [ny, nh, Nat.reduceAdd, Nat.reduceSub]) | (refine aT.dI (w1) ?_; try simp only [ny, nh, Nat.reduceAdd, Nat.reduceSub]) | (refine aT.dI (w2) ?_; try simp only [ny, nh, Nat.reduceAdd, Nat.reduceSub]) | (refine aT.dI (v1) ?_; try simp only [ny, nh, Nat.reduceAdd, Nat.reduceSub]) | (refine aT.dI (v2) ?_; try simp only [ny, nh, Nat.reduceAdd, Nat.reduceSub]) | refine aT.fK ?_ | (apply aT.mP; rfl; kernel_rfl) | refine cQ.fK ?_ | (apply aT.back) | (exact aa.fS) | (apply aa.bK; (repeat' (first | exact aZ.nil | (apply aZ.cons; rfl))); rfl) | refine aa.aY true ?_ | (refine aa.ae [2] ( cb) ?_; simp only [ny, nh, Nat.reduceAdd, Nat.reduceSub]) | (refine aa.ae [2] ( st1) ?_; simp only [ny, nh, Nat.reduceAdd, Nat.reduceSub]) | (refine aa.ae [2] ( m1) ?_; simp only [ny, nh, Nat.reduceAdd, Nat.reduceSub]) | (refine aa.ae [2] ( m2) ?_; simp only [ny, nh, Nat.reduceAdd, Nat.reduceSub]) | refine aa.ak (ic) ?_ | refine aa.ak (w1) ?_ | refine aa.ak (w2) ?_ | refine aa.ak (v1) ?_ | refine aa.ak (v2) ?_ | refine aa.bO ?_ | refine aa.ah ?_ | refine aa.af ?_ | refine aa.av ?_ | refine aa.ai ?_ | (refine aa.aP ?_; simp only [nm, nz, Nat.reduceAdd]) | (refine aa.az ?_; simp only [nm, nz, Nat.reduceAdd]) | refine aa.aj ?_ | refine aa.cN ?_ | refine aa.bh ?_ | refine aa.aA ?_ | apply aa.dP | apply aa.lpU | intro _ | refine aa.au ?_)
     all_goals first | exact ⟨rfl, rfl⟩ | omega
    ·rw [if_pos h1]
     unfold wr
     obtain rfl := mu1 h1
     rw [Nat.add_zero] at m1
     simp only [← Nat.add_assoc]
     refine ACalls.enter Tryz.func146 rfl Tryz.ntmps146 (by kernel_rfl) rfl ?_; simp only [aB, nm, Nat.reduceAdd]
     repeat' (first | refine aa.aD ?_ | (apply aa.iL [0, 1, 2, 3, 4, 5, 6, 7, 8, 9, 10, 11, 12, 13, 14] 15 9; rfl) | (apply aa.iL [0, 1, 2, 3, 4, 5, 6, 7, 8, 9, 10, 11, 12] 13 12; rfl) | (apply bE.fq; rfl; (apply cE.q true; rfl; rfl; first | exact True.intro | omega); exact fun _ _ _ h => h; (iterate 6 rfl); kernel_rfl; kernel_rfl) | refine bE.kJ ?_ | (apply bE.go) | refine aT.cZ ?_ | (apply aT.fq; rfl; (apply cE.q true; rfl; rfl; first | exact True.intro | omega); exact fun _ _ _ h => h; (iterate 6 rfl); kernel_rfl; kernel_rfl) | (refine aT.dI (ic) ?_; try simp only [ny, nh, Nat.reduceAdd, Nat.reduceSub]) | (refine aT.dI (w1) ?_; try simp only [ny, nh, Nat.reduceAdd, Nat.reduceSub]) | (refine aT.dI (w2) ?_; try simp only [ny, nh, Nat.reduceAdd, Nat.reduceSub]) | (refine aT.dI (v1) ?_; try simp only [ny, nh, Nat.reduceAdd, Nat.reduceSub]) | refine aT.fK ?_ | (apply aT.mP; rfl; kernel_rfl) | refine cQ.fK ?_ | (apply aT.back) | (exact aa.fS) | (apply aa.bK; (repeat' (first | exact aZ.nil | (apply aZ.cons; rfl))); rfl) | refine aa.aY true ?_ | (refine aa.ae [2] ( cb) ?_; simp only [ny, nh, Nat.reduceAdd, Nat.reduceSub]) | (refine aa.ae [2] ( st1) ?_; simp only [ny, nh, Nat.reduceAdd, Nat.reduceSub]) | (refine aa.ae [2] ( m1) ?_; simp only [ny, nh, Nat.reduceAdd, Nat.reduceSub]) | refine aa.ak (ic) ?_ | refine aa.ak (w1) ?_ | refine aa.ak (w2) ?_ | refine aa.ak (v1) ?_ | refine aa.bO ?_ | refine aa.ah ?_ | refine aa.af ?_ | refine aa.av ?_ | refine aa.ai ?_ | (refine aa.aP ?_; simp only [nm, nz, Nat.reduceAdd]) | (refine aa.az ?_; simp only [nm, nz, Nat.reduceAdd]) | refine aa.aj ?_ | refine aa.cN ?_ | refine aa.bh ?_ | refine aa.aA ?_ | apply aa.dP | apply aa.lpU | intro _ | refine aa.au ?_)
     all_goals first | exact ⟨rfl, rfl⟩ | omega
   ·rw [if_pos hse]
    obtain ⟨rfl, rfl⟩ := su1 hse
    rw [Nat.add_zero] at st1
    refine ACalls.enter Tryz.func146 rfl Tryz.ntmps146 (by kernel_rfl) rfl ?_; simp only [aB, nm, Nat.reduceAdd]
    repeat' (first | refine aa.aD ?_ | (apply aa.iL [0, 1, 2, 3, 4, 5, 6, 7, 8, 9, 10, 11, 12, 13, 14] 15 9; rfl) | (apply aa.iL [0, 1, 2, 3, 4, 5, 6, 7, 8, 9, 10, 11, 12] 13 12; rfl) | (apply bE.fq; rfl; (apply cE.q true; rfl; rfl; first | exact True.intro | omega); exact fun _ _ _ h => h; (iterate 6 rfl); kernel_rfl; kernel_rfl) | refine bE.kJ ?_ | (apply bE.go) | refine aT.cZ ?_ | (apply aT.fq; rfl; (apply cE.q true; rfl; rfl; first | exact True.intro | omega); exact fun _ _ _ h => h; (iterate 6 rfl); kernel_rfl; kernel_rfl) | (refine aT.dI (ic) ?_; try simp only [ny, nh, Nat.reduceAdd, Nat.reduceSub]) | refine aT.fK ?_ | (apply aT.mP; rfl; kernel_rfl) | refine cQ.fK ?_ | (apply aT.back) | (exact aa.fS) | (apply aa.bK; (repeat' (first | exact aZ.nil | (apply aZ.cons; rfl))); rfl) | refine aa.aY true ?_ | (refine aa.ae [2] ( cb) ?_; simp only [ny, nh, Nat.reduceAdd, Nat.reduceSub]) | (refine aa.ae [2] ( st1) ?_; simp only [ny, nh, Nat.reduceAdd, Nat.reduceSub]) | refine aa.ak (ic) ?_ | refine aa.bO ?_ | refine aa.ah ?_ | refine aa.af ?_ | refine aa.av ?_ | refine aa.ai ?_ | (refine aa.aP ?_; simp only [nm, nz, Nat.reduceAdd]) | (refine aa.az ?_; simp only [nm, nz, Nat.reduceAdd]) | refine aa.aj ?_ | refine aa.cN ?_ | refine aa.bh ?_ | refine aa.aA ?_ | apply aa.dP | apply aa.lpU | intro _ | refine aa.au ?_)
    all_goals first | exact ⟨rfl, rfl⟩ | omega
  ·have hI : aK 3 = true := rfl
   have hS : cT 3 = false := rfl
   rw [hI] at ic cb
   simp only [hI, hS, if_true, Bool.false_eq_true, if_false]
   refine ACalls.enter Tryz.func146 rfl Tryz.ntmps146 (by kernel_rfl) rfl ?_; simp only [aB, nm, Nat.reduceAdd]
   repeat' (first | refine aa.aD ?_ | (apply aa.iL [0, 1, 2, 3, 4, 5, 6, 7, 8, 9, 10, 11, 12, 13, 14] 15 9; rfl) | (apply aa.iL [0, 1, 2, 3, 4, 5, 6, 7, 8, 9, 10, 11, 12] 13 12; rfl) | (apply bE.fq; rfl; (apply cE.q true; rfl; rfl; first | exact True.intro | omega); exact fun _ _ _ h => h; (iterate 6 rfl); kernel_rfl; kernel_rfl) | refine bE.kJ ?_ | (apply bE.go) | refine aT.cZ ?_ | (apply aT.fq; rfl; (apply cE.q true; rfl; rfl; first | exact True.intro | omega); exact fun _ _ _ h => h; (iterate 6 rfl); kernel_rfl; kernel_rfl) | (refine aT.dI (ic) ?_; try simp only [ny, nh, Nat.reduceAdd, Nat.reduceSub]) | refine aT.fK ?_ | (apply aT.mP; rfl; kernel_rfl) | refine cQ.fK ?_ | (apply aT.back) | (exact aa.fS) | (apply aa.bK; (repeat' (first | exact aZ.nil | (apply aZ.cons; rfl))); rfl) | refine aa.aY true ?_ | (refine aa.ae [2] ( cb) ?_; simp only [ny, nh, Nat.reduceAdd, Nat.reduceSub]) | refine aa.ak (ic) ?_ | refine aa.bO ?_ | refine aa.ah ?_ | refine aa.af ?_ | refine aa.av ?_ | refine aa.ai ?_ | (refine aa.aP ?_; simp only [nm, nz, Nat.reduceAdd]) | (refine aa.az ?_; simp only [nm, nz, Nat.reduceAdd]) | refine aa.aj ?_ | refine aa.cN ?_ | refine aa.bh ?_ | refine aa.aA ?_ | apply aa.dP | apply aa.lpU | intro _ | refine aa.au ?_)
   all_goals first | exact ⟨rfl, rfl⟩ | omega
  ·have hI : aK 4 = true := rfl
   have hS : cT 4 = true := rfl
   rw [hI] at ic cb
   simp only [hI, hS, if_true]
   have st1 := stc (p + u) (by omega)
   have su1 := Jv (B := aC s (p + u))
   generalize stN (aC s (p + u)) = t at *
   obtain ⟨sp, se, su⟩ := t
   simp only at st1 su1 ⊢
   by_cases hse : se = 0
   ·subst hse
    simp only [not_true_eq_false, if_false, if_true]
    simp only [← Nat.add_assoc]
    refine ACalls.enter Tryz.func146 rfl Tryz.ntmps146 (by kernel_rfl) rfl ?_; simp only [aB, nm, Nat.reduceAdd]
    repeat' (first | refine aa.aD ?_ | (apply aa.iL [0, 1, 2, 3, 4, 5, 6, 7, 8, 9, 10, 11, 12, 13, 14] 15 9; rfl) | (apply aa.iL [0, 1, 2, 3, 4, 5, 6, 7, 8, 9, 10, 11, 12] 13 12; rfl) | (apply bE.fq; rfl; (apply cE.q true; rfl; rfl; first | exact True.intro | omega); exact fun _ _ _ h => h; (iterate 6 rfl); kernel_rfl; kernel_rfl) | refine bE.kJ ?_ | (apply bE.go) | refine aT.cZ ?_ | (apply aT.fq; rfl; (apply cE.q true; rfl; rfl; first | exact True.intro | omega); exact fun _ _ _ h => h; (iterate 6 rfl); kernel_rfl; kernel_rfl) | (refine aT.dI (ic) ?_; try simp only [ny, nh, Nat.reduceAdd, Nat.reduceSub]) | refine aT.fK ?_ | (apply aT.mP; rfl; kernel_rfl) | refine cQ.fK ?_ | (apply aT.back) | (exact aa.fS) | (apply aa.bK; (repeat' (first | exact aZ.nil | (apply aZ.cons; rfl))); rfl) | refine aa.aY true ?_ | (refine aa.ae [2] ( cb) ?_; simp only [ny, nh, Nat.reduceAdd, Nat.reduceSub]) | (refine aa.ae [2] ( st1) ?_; simp only [ny, nh, Nat.reduceAdd, Nat.reduceSub]) | refine aa.ak (ic) ?_ | refine aa.bO ?_ | refine aa.ah ?_ | refine aa.af ?_ | refine aa.av ?_ | refine aa.ai ?_ | (refine aa.aP ?_; simp only [nm, nz, Nat.reduceAdd]) | (refine aa.az ?_; simp only [nm, nz, Nat.reduceAdd]) | refine aa.aj ?_ | refine aa.cN ?_ | refine aa.bh ?_ | refine aa.aA ?_ | apply aa.dP | apply aa.lpU | intro _ | refine aa.au ?_)
    all_goals first | exact ⟨rfl, rfl⟩ | omega
   ·rw [if_pos hse]
    obtain ⟨rfl, rfl⟩ := su1 hse
    rw [Nat.add_zero] at st1
    refine ACalls.enter Tryz.func146 rfl Tryz.ntmps146 (by kernel_rfl) rfl ?_; simp only [aB, nm, Nat.reduceAdd]
    repeat' (first | refine aa.aD ?_ | (apply aa.iL [0, 1, 2, 3, 4, 5, 6, 7, 8, 9, 10, 11, 12, 13, 14] 15 9; rfl) | (apply aa.iL [0, 1, 2, 3, 4, 5, 6, 7, 8, 9, 10, 11, 12] 13 12; rfl) | (apply bE.fq; rfl; (apply cE.q true; rfl; rfl; first | exact True.intro | omega); exact fun _ _ _ h => h; (iterate 6 rfl); kernel_rfl; kernel_rfl) | refine bE.kJ ?_ | (apply bE.go) | refine aT.cZ ?_ | (apply aT.fq; rfl; (apply cE.q true; rfl; rfl; first | exact True.intro | omega); exact fun _ _ _ h => h; (iterate 6 rfl); kernel_rfl; kernel_rfl) | (refine aT.dI (ic) ?_; try simp only [ny, nh, Nat.reduceAdd, Nat.reduceSub]) | refine aT.fK ?_ | (apply aT.mP; rfl; kernel_rfl) | refine cQ.fK ?_ | (apply aT.back) | (exact aa.fS) | (apply aa.bK; (repeat' (first | exact aZ.nil | (apply aZ.cons; rfl))); rfl) | refine aa.aY true ?_ | (refine aa.ae [2] ( cb) ?_; simp only [ny, nh, Nat.reduceAdd, Nat.reduceSub]) | (refine aa.ae [2] ( st1) ?_; simp only [ny, nh, Nat.reduceAdd, Nat.reduceSub]) | refine aa.ak (ic) ?_ | refine aa.bO ?_ | refine aa.ah ?_ | refine aa.af ?_ | refine aa.av ?_ | refine aa.ai ?_ | (refine aa.aP ?_; simp only [nm, nz, Nat.reduceAdd]) | (refine aa.az ?_; simp only [nm, nz, Nat.reduceAdd]) | refine aa.aj ?_ | refine aa.cN ?_ | refine aa.bh ?_ | refine aa.aA ?_ | apply aa.dP | apply aa.lpU | intro _ | refine aa.au ?_)
    all_goals first | exact ⟨rfl, rfl⟩ | omega
 ·rw [if_pos he]
  obtain rfl := cu he
  simp only
  rcases hk with rfl | rfl | rfl | rfl
  all_goals
   refine ACalls.enter Tryz.func146 rfl Tryz.ntmps146 (by kernel_rfl) rfl ?_; simp only [aB, nm, Nat.reduceAdd]
   repeat' (first | refine aa.aD ?_ | (apply aa.iL [0, 1, 2, 3, 4, 5, 6, 7, 8, 9, 10, 11, 12, 13, 14] 15 9; rfl) | (apply aa.iL [0, 1, 2, 3, 4, 5, 6, 7, 8, 9, 10, 11, 12] 13 12; rfl) | (apply bE.fq; rfl; (apply cE.q true; rfl; rfl; first | exact True.intro | omega); exact fun _ _ _ h => h; (iterate 6 rfl); kernel_rfl; kernel_rfl) | refine bE.kJ ?_ | (apply bE.go) | refine aT.cZ ?_ | (apply aT.fq; rfl; (apply cE.q true; rfl; rfl; first | exact True.intro | omega); exact fun _ _ _ h => h; (iterate 6 rfl); kernel_rfl; kernel_rfl) | (refine aT.dI (ic) ?_; try simp only [ny, nh, Nat.reduceAdd, Nat.reduceSub]) | refine aT.fK ?_ | (apply aT.mP; rfl; kernel_rfl) | refine cQ.fK ?_ | (apply aT.back) | (exact aa.fS) | (apply aa.bK; (repeat' (first | exact aZ.nil | (apply aZ.cons; rfl))); rfl) | refine aa.aY true ?_ | (refine aa.ae [2] ( cb) ?_; simp only [ny, nh, Nat.reduceAdd, Nat.reduceSub]) | refine aa.ak (ic) ?_ | refine aa.bO ?_ | refine aa.ah ?_ | refine aa.af ?_ | refine aa.av ?_ | refine aa.ai ?_ | (refine aa.aP ?_; simp only [nm, nz, Nat.reduceAdd]) | (refine aa.az ?_; simp only [nm, nz, Nat.reduceAdd]) | refine aa.aj ?_ | refine aa.cN ?_ | refine aa.bh ?_ | refine aa.aA ?_ | apply aa.dP | apply aa.lpU | intro _ | refine aa.au ?_)
   all_goals first | exact ⟨rfl, rfl⟩ | omega
end Ci
end Go.Proofs.YtbfojhfiemcnpaaGreatDoor.Av
