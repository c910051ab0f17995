/- Cells: Put. -/
import Derived.Test.YtbfojhfiemcnpaaGreatDoorCo5
set_option linter.unusedVariables false
set_option linter.unusedSimpArgs false
set_option maxRecDepth 100000
set_option maxHeartbeats 64000000
namespace Go.Proofs.YtbfojhfiemcnpaaGreatDoor.Av
namespace Co
open Go Bt Tc Wr Bl Mb Cb Mv
attribute [local irreducible] aa ACalls
variable {gl : List (Nat × List D)}
def gM (W : List UInt8) (n : Nat) : Prop := W.all bq = true ∧ W.length ≤ n
theorem gM.app {W r : List UInt8} {n m : Nat} (h : gM W n) (k : gM r m) : gM (W ++ r) (n + m) := by
 obtain ⟨h1, h2⟩ := h
 obtain ⟨k1, k2⟩ := k
 exact ⟨by rw [List.all_append, h1, k1]; rfl, by rw [List.length_append]; omega⟩
theorem gM.add {W r : List UInt8} {n m : Nat} (h : gM W n) (k : gM r m) (hl : n + m ≤ 100000000) : ACalls (cxg gl) 22 [.ptr 0 0, S r] (WO W) (fun x H => x = I 0 ∧ H = WO (W ++ r)) :=
 qL W r h.1 k.1 (by have := h.2; have := k.2; omega)
theorem Ag : ∀ j : _root_.Fin 64, (nA ((j.val : Int) - 32)).all bq = true ∧ (nA ((j.val : Int) - 32)).length ≤ 13 := by decide +kernel
theorem iz (n : Int) : gM (nA (bN n)) 13 := by
 have hb := iA n
 have := Ag ⟨(bN n + 32).toNat, by omega⟩
 simp only at this
 rwa [show (((bN n + 32).toNat : Nat) : Int) - 32 = bN n by omega] at this
theorem pJ (n : Int) : gM (ou n) 2 := by
 unfold ou
 split
 ·exact ⟨rfl, by decide⟩
 split
 ·exact ⟨rfl, by decide⟩
 split
 ·exact ⟨rfl, by decide⟩
 split
 ·exact ⟨rfl, by decide⟩
 ·exact ⟨rfl, by decide⟩
theorem xy (b : Bool) (p : Int) (h : 0 ≤ p ∧ p ≤ 15) : gM (jU b p) 6 := ⟨(ze b p h).2.2, (ze b p h).2.1⟩
theorem df {b : Bool} {dc : Int} {l : List Ev} (h : dM b dc l = true) : gM (iO b dc l) 2000 := He b dc l h
theorem vF {b : Bool} {c : Cel} (hs : 0 ≤ c.stuff ∧ c.stuff ≤ 64) (h : c.skip = true ∨ fU b c = true) : gM (cH b c) 700 := by
 obtain ⟨s1, s2⟩ := rO b
 obtain ⟨k1, k2⟩ := EX (dw b) s1 c.stuff.toNat
 obtain ⟨t1, t2⟩ := tJ h
 have : c.stuff.toNat * (dw b).length ≤ 64 * 10 := Nat.mul_le_mul (by omega) s2
 unfold cH
 exact ⟨by rw [List.all_append, k1, t1]; rfl, by rw [List.length_append, k2]; omega⟩
def mvR (c : Cel) (m p : Int) : List UInt8 := if aK c.kind = true then [] else nA (bN (m - bN p))
def stR (c : Cel) : List UInt8 := if cT c.kind = true then ou c.step else []
def putRow (w : List UInt8) (b : Bool) (px py : Int) (c : Cel) : List UInt8 := if c.skip = true then w ++ cH b c else
 ((((((((((w ++ cH b c) ++ jU (aK c.kind) (eB c / 2 ^ 2)) ++ stR c) ++ mvR c c.mx px) ++ mvR c c.my py) ++ iO (aK c.kind) c.d0 c.e0) ++ iO (aK c.kind) c.d1 c.e1) ++ iO (aK c.kind) c.d2 c.e2) ++ iO (aK c.kind) c.d3 c.e3) ++ iO (aK c.kind) c.d4 c.e4) ++ iO (aK c.kind) c.d5 c.e5
theorem vn {b : Bool} {c : Cel} (h : dE b c = true) : (0 ≤ c.stuff ∧ c.stuff ≤ 64) ∧ (c.skip = true ∨ (c.skip = false ∧ fU b c = true ∧ pI c = true ∧ jV c = true ∧ mK c = true)) := by
 unfold dE at h
 split at h
 ·cases h
 ·rename_i hs
  refine ⟨by omega, ?_⟩
  split at h
  ·rename_i hk; exact .inl hk
  ·rename_i hk
   simp only [Bool.and_eq_true] at h
   exact .inr ⟨by simpa using hk, h.1.1.1, h.1.1.2, h.1.2, h.2⟩
abbrev prD (px py : Int) : D := .agg [In px, In py]
attribute [local irreducible] bG bg bR fV lT eB dE cH jU ou nA iO dM bN rY
theorem K7 (w : List UInt8) (b : Bool) (px py : Int) (c : Cel) (ok : lu c) (hpx : I64 px) (hpy : I64 py) (h : dE b c = true) (hw : gM w 10000000) : ACalls (cxg gA) 49 [.ptr 0 0, B b, .d (prD px py), .d (lH c)] (WO w) (fun r H => r = I 0 ∧ H = WO (putRow w b px py c)) := by
 have rc := (y9 b c ok).more gb
 rw [h] at rc
 obtain ⟨hs, hcase⟩ := vn h
 have hh : c.skip = true ∨ fU b c = true := by rcases hcase with h1 | h1; exact .inl h1; exact .inr h1.2.1
 have hc := Au w b c hs hh hw.1 (by have := hw.2; omega)
 have f0 := hw.app (vF hs hh)
 unfold putRow
 rcases hcase with hk | ⟨hk, hm, hst, hv, hbl⟩
 ·rw [if_pos hk]
  refine ACalls.enter Tryz.func49 rfl Tryz.ntmps49 (by kernel_rfl) rfl ?_; simp only [aB, nm, Nat.reduceAdd]
  repeat' (first | refine aa.aD ?_ | refine aa.aY true ?_ | refine aa.dL true ?_ | (refine aa.ae [0,1] ( hc) ?_; simp only [ny, nh, Nat.reduceAdd, Nat.reduceSub]) | refine aa.ak (rc) ?_ | refine aa.aL (rc) ?_ | refine aa.aR ?_ | refine aa.bO ?_ | refine aa.ah ?_ | refine aa.af ?_ | refine aa.av ?_ | refine aa.ai ?_ | (refine aa.aP ?_; simp only [nm, nz, Nat.reduceAdd]) | (apply aa.cBT; rfl; first | (simp only [bT]; omega) | (exact hk)) | (apply aa.cBF; rfl; first | (simp only [bF]; omega) | exact ndF rfl | (exact hk)) | apply aa.dP | apply aa.lpU | intro _ | refine aa.au ?_)
  all_goals first | exact ⟨rfl, rfl⟩
 ·rw [if_neg (by rw [hk]; decide)]
  have hcd := lZ c
  have ic := wZ (gl := gA) c.kind
  have sc := u9 (gl := gA) c.kind
  have cc := Cq (gl := gA) c
  have cb := Jb (gl := gA) (aK c.kind) (eB c / 2 ^ 2)
  rw [decide_eq_true (by omega)] at cb
  have tc := Bg (gl := gA) c.step
  unfold mK at hbl
  simp only [Bool.and_eq_true] at hbl
  obtain ⟨⟨⟨⟨⟨b0, b1⟩, b2⟩, b3⟩, b4⟩, b5⟩ := hbl
  have f1 := f0.app (xy (aK c.kind) (eB c / 2 ^ 2) (by omega))
  have a0 := f0.add (gl := gA) (xy (aK c.kind) (eB c / 2 ^ 2) (by omega)) (by decide)
  have w1 := ku (gl := gA) px hpx
  have w2 := ku (gl := gA) py hpy
  have q1 := iA px
  have q2 := iA py
  unfold stR mvR
  rcases Bool.eq_false_or_eq_true (aK c.kind) with hI | hI
  ·rcases Bool.eq_false_or_eq_true (cT c.kind) with hT | hT
   ·have hI2 := hI
    have hTT := hT
    have f2 := f1.app (pJ c.step)
    have a1 := f1.add (gl := gA) (pJ c.step) (by decide)
    have f3 := f2
    have f4 := f3
    skip
    rw [if_pos (by rw [hT]), if_pos (by rw [hI]), if_pos (by rw [hI]), List.append_nil, List.append_nil]
    have p0 := (eC _ (aK c.kind) c.d0 c.e0 ok.e0.2 b0 f4.1 (by have := f4.2; omega)).more gb
    have f5 := f4.app (df b0)
    have p1 := (eC _ (aK c.kind) c.d1 c.e1 ok.e1.2 b1 f5.1 (by have := f5.2; omega)).more gb
    have f6 := f5.app (df b1)
    have p2 := (eC _ (aK c.kind) c.d2 c.e2 ok.e2.2 b2 f6.1 (by have := f6.2; omega)).more gb
    have f7 := f6.app (df b2)
    have p3 := (eC _ (aK c.kind) c.d3 c.e3 ok.e3.2 b3 f7.1 (by have := f7.2; omega)).more gb
    have f8 := f7.app (df b3)
    have p4 := (eC _ (aK c.kind) c.d4 c.e4 ok.e4.2 b4 f8.1 (by have := f8.2; omega)).more gb
    have f9 := f8.app (df b4)
    have p5 := (eC _ (aK c.kind) c.d5 c.e5 ok.e5.2 b5 f9.1 (by have := f9.2; omega)).more gb
    rw [hI] at ic cb p0 p1 p2 p3 p4 p5 a0 a1  ⊢
    rw [hT] at sc
    refine ACalls.enter Tryz.func49 rfl Tryz.ntmps49 (by kernel_rfl) rfl ?_; simp only [aB, nm, Nat.reduceAdd]
    repeat' (first | refine aa.aD ?_ | (apply aa.qA (hs := [0, 1, 2, 4, 5, 6, 7, 8, 9, 10, 11]) (pre := [3]) (n := 12); exact fun _ _ _ h => h; rfl; rfl; rfl; decide +kernel; (repeat (first | exact bX.nil _ | (apply bX.cons true; (iterate 5 rfl); first | exact True.intro | omega))); apply PGo.call (ic); (iterate 8 rfl); simp only [ny, nh, Nat.reduceAdd, Nat.reduceSub]; apply PGo.nil) | refine aa.aY true ?_ | refine aa.dL true ?_ | (refine aa.ae [0,1] ( hc) ?_; simp only [ny, nh, Nat.reduceAdd, Nat.reduceSub]) | (refine aa.ae [0,1] ( a0) ?_; simp only [ny, nh, Nat.reduceAdd, Nat.reduceSub]) | (refine aa.ae [0,1] ( a1) ?_; simp only [ny, nh, Nat.reduceAdd, Nat.reduceSub]) | (refine aa.ae [0,1] ( p0) ?_; simp only [ny, nh, Nat.reduceAdd, Nat.reduceSub]) | (refine aa.ae [0,1] ( p1) ?_; simp only [ny, nh, Nat.reduceAdd, Nat.reduceSub]) | (refine aa.ae [0,1] ( p2) ?_; simp only [ny, nh, Nat.reduceAdd, Nat.reduceSub]) | (refine aa.ae [0,1] ( p3) ?_; simp only [ny, nh, Nat.reduceAdd, Nat.reduceSub]) | (refine aa.ae [0,1] ( p4) ?_; simp only [ny, nh, Nat.reduceAdd, Nat.reduceSub]) | (refine aa.ae [0,1] ( p5) ?_; simp only [ny, nh, Nat.reduceAdd, Nat.reduceSub]) | refine aa.ak (rc) ?_ | refine aa.aL (rc) ?_ | refine aa.ak (ic) ?_ | refine aa.aL (ic) ?_ | refine aa.ak (sc) ?_ | refine aa.aL (sc) ?_ | refine aa.ak (cc) ?_ | refine aa.aL (cc) ?_ | refine aa.ak (cb) ?_ | refine aa.aL (cb) ?_ | refine aa.ak (tc) ?_ | refine aa.aL (tc) ?_ | refine aa.ak (w1) ?_ | refine aa.aL (w1) ?_ | refine aa.ak (w2) ?_ | refine aa.aL (w2) ?_ | refine aa.aR ?_ | refine aa.bO ?_ | refine aa.ah ?_ | refine aa.af ?_ | refine aa.av ?_ | refine aa.ai ?_ | (refine aa.aP ?_; simp only [nm, nz, Nat.reduceAdd]) | (apply aa.cBT; rfl; first | (simp only [bT]; omega) | (exact hk)) | (apply aa.cBF; rfl; first | (simp only [bF]; omega) | exact ndF rfl | (exact hk)) | apply aa.dP | apply aa.lpU | intro _ | refine aa.au ?_)
    all_goals first | exact ⟨rfl, rfl⟩ | omega
   ·have hI2 := hI
    have hTT := hT
    have f2 := f1
    skip
    have f3 := f2
    have f4 := f3
    skip
    rw [if_neg (by rw [hT]; decide), if_pos (by rw [hI]), if_pos (by rw [hI]), List.append_nil, List.append_nil, List.append_nil]
    have p0 := (eC _ (aK c.kind) c.d0 c.e0 ok.e0.2 b0 f4.1 (by have := f4.2; omega)).more gb
    have f5 := f4.app (df b0)
    have p1 := (eC _ (aK c.kind) c.d1 c.e1 ok.e1.2 b1 f5.1 (by have := f5.2; omega)).more gb
    have f6 := f5.app (df b1)
    have p2 := (eC _ (aK c.kind) c.d2 c.e2 ok.e2.2 b2 f6.1 (by have := f6.2; omega)).more gb
    have f7 := f6.app (df b2)
    have p3 := (eC _ (aK c.kind) c.d3 c.e3 ok.e3.2 b3 f7.1 (by have := f7.2; omega)).more gb
    have f8 := f7.app (df b3)
    have p4 := (eC _ (aK c.kind) c.d4 c.e4 ok.e4.2 b4 f8.1 (by have := f8.2; omega)).more gb
    have f9 := f8.app (df b4)
    have p5 := (eC _ (aK c.kind) c.d5 c.e5 ok.e5.2 b5 f9.1 (by have := f9.2; omega)).more gb
    rw [hI] at ic cb p0 p1 p2 p3 p4 p5 a0  ⊢
    rw [hT] at sc
    refine ACalls.enter Tryz.func49 rfl Tryz.ntmps49 (by kernel_rfl) rfl ?_; simp only [aB, nm, Nat.reduceAdd]
    repeat' (first | refine aa.aD ?_ | (apply aa.qA (hs := [0, 1, 2, 4, 5, 6, 7, 8, 9, 10, 11]) (pre := [3]) (n := 12); exact fun _ _ _ h => h; rfl; rfl; rfl; decide +kernel; (repeat (first | exact bX.nil _ | (apply bX.cons true; (iterate 5 rfl); first | exact True.intro | omega))); apply PGo.call (ic); (iterate 8 rfl); simp only [ny, nh, Nat.reduceAdd, Nat.reduceSub]; apply PGo.nil) | refine aa.aY true ?_ | refine aa.dL true ?_ | (refine aa.ae [0,1] ( hc) ?_; simp only [ny, nh, Nat.reduceAdd, Nat.reduceSub]) | (refine aa.ae [0,1] ( a0) ?_; simp only [ny, nh, Nat.reduceAdd, Nat.reduceSub]) | (refine aa.ae [0,1] ( p0) ?_; simp only [ny, nh, Nat.reduceAdd, Nat.reduceSub]) | (refine aa.ae [0,1] ( p1) ?_; simp only [ny, nh, Nat.reduceAdd, Nat.reduceSub]) | (refine aa.ae [0,1] ( p2) ?_; simp only [ny, nh, Nat.reduceAdd, Nat.reduceSub]) | (refine aa.ae [0,1] ( p3) ?_; simp only [ny, nh, Nat.reduceAdd, Nat.reduceSub]) | (refine aa.ae [0,1] ( p4) ?_; simp only [ny, nh, Nat.reduceAdd, Nat.reduceSub]) | (refine aa.ae [0,1] ( p5) ?_; simp only [ny, nh, Nat.reduceAdd, Nat.reduceSub]) | refine aa.ak (rc) ?_ | refine aa.aL (rc) ?_ | refine aa.ak (ic) ?_ | refine aa.aL (ic) ?_ | refine aa.ak (sc) ?_ | refine aa.aL (sc) ?_ | refine aa.ak (cc) ?_ | refine aa.aL (cc) ?_ | refine aa.ak (cb) ?_ | refine aa.aL (cb) ?_ | refine aa.ak (tc) ?_ | refine aa.aL (tc) ?_ | refine aa.ak (w1) ?_ | refine aa.aL (w1) ?_ | refine aa.ak (w2) ?_ | refine aa.aL (w2) ?_ | refine aa.aR ?_ | refine aa.bO ?_ | refine aa.ah ?_ | refine aa.af ?_ | refine aa.av ?_ | refine aa.ai ?_ | (refine aa.aP ?_; simp only [nm, nz, Nat.reduceAdd]) | (apply aa.cBT; rfl; first | (simp only [bT]; omega) | (exact hk)) | (apply aa.cBF; rfl; first | (simp only [bF]; omega) | exact ndF rfl | (exact hk)) | apply aa.dP | apply aa.lpU | intro _ | refine aa.au ?_)
    all_goals first | exact ⟨rfl, rfl⟩ | omega
  ·rcases Bool.eq_false_or_eq_true (cT c.kind) with hT | hT
   ·have hI2 := hI
    have hTT := hT
    have f2 := f1.app (pJ c.step)
    have a1 := f1.add (gl := gA) (pJ c.step) (by decide)
    have f3 := f2.app (iz (c.mx - bN px))
    have f4 := f3.app (iz (c.my - bN py))
    have hvv : bN c.mx = c.mx ∧ bN c.my = c.my := by
     unfold jV at hv
     rw [hI] at hv
     simpa using hv
    have v1 := iA c.mx
    have v2 := iA c.my
    rw [hvv.1] at v1
    rw [hvv.2] at v2
    have w3 := ku (gl := gA) (c.mx - bN px) (by omega)
    have w4 := ku (gl := gA) (c.my - bN py) (by omega)
    have m1 := (wU (bN (c.mx - bN px))).more BR
    have m2 := (wU (bN (c.my - bN py))).more BR
    have a2 := f2.add (gl := gA) (iz (c.mx - bN px)) (by decide)
    have a3 := f3.add (gl := gA) (iz (c.my - bN py)) (by decide)
    rw [if_pos (by rw [hT]), if_neg (by rw [hI]; decide), if_neg (by rw [hI]; decide)]
    have p0 := (eC _ (aK c.kind) c.d0 c.e0 ok.e0.2 b0 f4.1 (by have := f4.2; omega)).more gb
    have f5 := f4.app (df b0)
    have p1 := (eC _ (aK c.kind) c.d1 c.e1 ok.e1.2 b1 f5.1 (by have := f5.2; omega)).more gb
    have f6 := f5.app (df b1)
    have p2 := (eC _ (aK c.kind) c.d2 c.e2 ok.e2.2 b2 f6.1 (by have := f6.2; omega)).more gb
    have f7 := f6.app (df b2)
    have p3 := (eC _ (aK c.kind) c.d3 c.e3 ok.e3.2 b3 f7.1 (by have := f7.2; omega)).more gb
    have f8 := f7.app (df b3)
    have p4 := (eC _ (aK c.kind) c.d4 c.e4 ok.e4.2 b4 f8.1 (by have := f8.2; omega)).more gb
    have f9 := f8.app (df b4)
    have p5 := (eC _ (aK c.kind) c.d5 c.e5 ok.e5.2 b5 f9.1 (by have := f9.2; omega)).more gb
    rw [hI] at ic cb p0 p1 p2 p3 p4 p5 a0 a1 a2 a3  ⊢
    rw [hT] at sc
    refine ACalls.enter Tryz.func49 rfl Tryz.ntmps49 (by kernel_rfl) rfl ?_; simp only [aB, nm, Nat.reduceAdd]
    repeat' (first | refine aa.aD ?_ | (apply aa.qA (hs := [0, 1, 2, 4, 5, 6, 7, 8, 9, 10, 11]) (pre := [3]) (n := 12); exact fun _ _ _ h => h; rfl; rfl; rfl; decide +kernel; (repeat (first | exact bX.nil _ | (apply bX.cons true; (iterate 5 rfl); first | exact True.intro | omega))); apply PGo.call (ic); (iterate 8 rfl); simp only [ny, nh, Nat.reduceAdd, Nat.reduceSub]; apply PGo.nil) | refine aa.aY true ?_ | refine aa.dL true ?_ | (refine aa.ae [0,1] ( hc) ?_; simp only [ny, nh, Nat.reduceAdd, Nat.reduceSub]) | (refine aa.ae [0,1] ( a0) ?_; simp only [ny, nh, Nat.reduceAdd, Nat.reduceSub]) | (refine aa.ae [0,1] ( a1) ?_; simp only [ny, nh, Nat.reduceAdd, Nat.reduceSub]) | (refine aa.ae [0,1] ( a2) ?_; simp only [ny, nh, Nat.reduceAdd, Nat.reduceSub]) | (refine aa.ae [0,1] ( a3) ?_; simp only [ny, nh, Nat.reduceAdd, Nat.reduceSub]) | (refine aa.ae [0,1] ( p0) ?_; simp only [ny, nh, Nat.reduceAdd, Nat.reduceSub]) | (refine aa.ae [0,1] ( p1) ?_; simp only [ny, nh, Nat.reduceAdd, Nat.reduceSub]) | (refine aa.ae [0,1] ( p2) ?_; simp only [ny, nh, Nat.reduceAdd, Nat.reduceSub]) | (refine aa.ae [0,1] ( p3) ?_; simp only [ny, nh, Nat.reduceAdd, Nat.reduceSub]) | (refine aa.ae [0,1] ( p4) ?_; simp only [ny, nh, Nat.reduceAdd, Nat.reduceSub]) | (refine aa.ae [0,1] ( p5) ?_; simp only [ny, nh, Nat.reduceAdd, Nat.reduceSub]) | refine aa.ak (rc) ?_ | refine aa.aL (rc) ?_ | refine aa.ak (ic) ?_ | refine aa.aL (ic) ?_ | refine aa.ak (sc) ?_ | refine aa.aL (sc) ?_ | refine aa.ak (cc) ?_ | refine aa.aL (cc) ?_ | refine aa.ak (cb) ?_ | refine aa.aL (cb) ?_ | refine aa.ak (tc) ?_ | refine aa.aL (tc) ?_ | refine aa.ak (w1) ?_ | refine aa.aL (w1) ?_ | refine aa.ak (w2) ?_ | refine aa.aL (w2) ?_ | refine aa.ak (w3) ?_ | refine aa.aL (w3) ?_ | refine aa.ak (w4) ?_ | refine aa.aL (w4) ?_ | refine aa.ak (m1) ?_ | refine aa.aL (m1) ?_ | refine aa.ak (m2) ?_ | refine aa.aL (m2) ?_ | refine aa.aR ?_ | refine aa.bO ?_ | refine aa.ah ?_ | refine aa.af ?_ | refine aa.av ?_ | refine aa.ai ?_ | (refine aa.aP ?_; simp only [nm, nz, Nat.reduceAdd]) | (apply aa.cBT; rfl; first | (simp only [bT]; omega) | (exact hk)) | (apply aa.cBF; rfl; first | (simp only [bF]; omega) | exact ndF rfl | (exact hk)) | apply aa.dP | apply aa.lpU | intro _ | refine aa.au ?_)
    all_goals first | exact ⟨rfl, rfl⟩ | omega
   ·have hI2 := hI
    have hTT := hT
    have f2 := f1
    skip
    have f3 := f2.app (iz (c.mx - bN px))
    have f4 := f3.app (iz (c.my - bN py))
    have hvv : bN c.mx = c.mx ∧ bN c.my = c.my := by
     unfold jV at hv
     rw [hI] at hv
     simpa using hv
    have v1 := iA c.mx
    have v2 := iA c.my
    rw [hvv.1] at v1
    rw [hvv.2] at v2
    have w3 := ku (gl := gA) (c.mx - bN px) (by omega)
    have w4 := ku (gl := gA) (c.my - bN py) (by omega)
    have m1 := (wU (bN (c.mx - bN px))).more BR
    have m2 := (wU (bN (c.my - bN py))).more BR
    have a2 := f2.add (gl := gA) (iz (c.mx - bN px)) (by decide)
    have a3 := f3.add (gl := gA) (iz (c.my - bN py)) (by decide)
    rw [if_neg (by rw [hT]; decide), if_neg (by rw [hI]; decide), if_neg (by rw [hI]; decide), List.append_nil]
    have p0 := (eC _ (aK c.kind) c.d0 c.e0 ok.e0.2 b0 f4.1 (by have := f4.2; omega)).more gb
    have f5 := f4.app (df b0)
    have p1 := (eC _ (aK c.kind) c.d1 c.e1 ok.e1.2 b1 f5.1 (by have := f5.2; omega)).more gb
    have f6 := f5.app (df b1)
    have p2 := (eC _ (aK c.kind) c.d2 c.e2 ok.e2.2 b2 f6.1 (by have := f6.2; omega)).more gb
    have f7 := f6.app (df b2)
    have p3 := (eC _ (aK c.kind) c.d3 c.e3 ok.e3.2 b3 f7.1 (by have := f7.2; omega)).more gb
    have f8 := f7.app (df b3)
    have p4 := (eC _ (aK c.kind) c.d4 c.e4 ok.e4.2 b4 f8.1 (by have := f8.2; omega)).more gb
    have f9 := f8.app (df b4)
    have p5 := (eC _ (aK c.kind) c.d5 c.e5 ok.e5.2 b5 f9.1 (by have := f9.2; omega)).more gb
    rw [hI] at ic cb p0 p1 p2 p3 p4 p5 a0 a2 a3  ⊢
    rw [hT] at sc
    refine ACalls.enter Tryz.func49 rfl Tryz.ntmps49 (by kernel_rfl) rfl ?_; simp only [aB, nm, Nat.reduceAdd]
    repeat' (first | refine aa.aD ?_ | (apply aa.qA (hs := [0, 1, 2, 4, 5, 6, 7, 8, 9, 10, 11]) (pre := [3]) (n := 12); exact fun _ _ _ h => h; rfl; rfl; rfl; decide +kernel; (repeat (first | exact bX.nil _ | (apply bX.cons true; (iterate 5 rfl); first | exact True.intro | omega))); apply PGo.call (ic); (iterate 8 rfl); simp only [ny, nh, Nat.reduceAdd, Nat.reduceSub]; apply PGo.nil) | refine aa.aY true ?_ | refine aa.dL true ?_ | (refine aa.ae [0,1] ( hc) ?_; simp only [ny, nh, Nat.reduceAdd, Nat.reduceSub]) | (refine aa.ae [0,1] ( a0) ?_; simp only [ny, nh, Nat.reduceAdd, Nat.reduceSub]) | (refine aa.ae [0,1] ( a2) ?_; simp only [ny, nh, Nat.reduceAdd, Nat.reduceSub]) | (refine aa.ae [0,1] ( a3) ?_; simp only [ny, nh, Nat.reduceAdd, Nat.reduceSub]) | (refine aa.ae [0,1] ( p0) ?_; simp only [ny, nh, Nat.reduceAdd, Nat.reduceSub]) | (refine aa.ae [0,1] ( p1) ?_; simp only [ny, nh, Nat.reduceAdd, Nat.reduceSub]) | (refine aa.ae [0,1] ( p2) ?_; simp only [ny, nh, Nat.reduceAdd, Nat.reduceSub]) | (refine aa.ae [0,1] ( p3) ?_; simp only [ny, nh, Nat.reduceAdd, Nat.reduceSub]) | (refine aa.ae [0,1] ( p4) ?_; simp only [ny, nh, Nat.reduceAdd, Nat.reduceSub]) | (refine aa.ae [0,1] ( p5) ?_; simp only [ny, nh, Nat.reduceAdd, Nat.reduceSub]) | refine aa.ak (rc) ?_ | refine aa.aL (rc) ?_ | refine aa.ak (ic) ?_ | refine aa.aL (ic) ?_ | refine aa.ak (sc) ?_ | refine aa.aL (sc) ?_ | refine aa.ak (cc) ?_ | refine aa.aL (cc) ?_ | refine aa.ak (cb) ?_ | refine aa.aL (cb) ?_ | refine aa.ak (tc) ?_ | refine aa.aL (tc) ?_ | refine aa.ak (w1) ?_ | refine aa.aL (w1) ?_ | refine aa.ak (w2) ?_ | refine aa.aL (w2) ?_ | refine aa.ak (w3) ?_ | refine aa.aL (w3) ?_ | refine aa.ak (w4) ?_ | refine aa.aL (w4) ?_ | refine aa.ak (m1) ?_ | refine aa.aL (m1) ?_ | refine aa.ak (m2) ?_ | refine aa.aL (m2) ?_ | refine aa.aR ?_ | refine aa.bO ?_ | refine aa.ah ?_ | refine aa.af ?_ | refine aa.av ?_ | refine aa.ai ?_ | (refine aa.aP ?_; simp only [nm, nz, Nat.reduceAdd]) | (apply aa.cBT; rfl; first | (simp only [bT]; omega) | (exact hk)) | (apply aa.cBF; rfl; first | (simp only [bF]; omega) | exact ndF rfl | (exact hk)) | apply aa.dP | apply aa.lpU | intro _ | refine aa.au ?_)
    all_goals first | exact ⟨rfl, rfl⟩ | omega
end Co
end Go.Proofs.YtbfojhfiemcnpaaGreatDoor.Av
