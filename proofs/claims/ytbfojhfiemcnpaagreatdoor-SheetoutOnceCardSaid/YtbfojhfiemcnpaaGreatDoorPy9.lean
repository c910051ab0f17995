/- Sheets that are read: the chapter's example; what is read may be. Sheets that are read are written as the bits that they were read from. -/
import Derived.Test.YtbfojhfiemcnpaaGreatDoorPy8
set_option linter.unusedVariables false
set_option linter.unusedSimpArgs false
set_option maxRecDepth 100000
set_option maxHeartbeats 64000000
namespace Go.Proofs.YtbfojhfiemcnpaaGreatDoor.Av
namespace Si
open Go Bt Sh Co Ci Tc
attribute [local irreducible] aa ACalls bE aT cQ aM cF bU cA
theorem J5 {h : Hd} {rs : List Rw} {z : Int} (hf : jb h rs z = true) (hc : ∀ r ∈ rs, ∀ c ∈ r.cells, lu c) : jP rs := by
 obtain ⟨h1, h2, h3, h4⟩ := jB hf
 obtain ⟨h5, _⟩ := q9 hf
 have hAL := AA h5
 refine ⟨by omega, fun r hr => ⟨?_, hc r hr⟩⟩
 obtain ⟨i, hi⟩ := List.getElem?_of_mem hr
 have := xW (pQ h4 (aF hi) hi)
 omega
theorem KJ {h : Hd} {rs : List Rw} {z : Int} (hf : jb h rs z = true) : h.supp.length ≤ 8 := by
 obtain ⟨h1, _⟩ := jB hf
 exact (nG h1).1.2.2.2.2
attribute [local irreducible] shX Tc.bG suD bD rsD jb gy eD
end Si
namespace Si
open Go Bt Sh Co Ci Tc Wr
attribute [local irreducible] aa ACalls bE aT cQ aM cF bU cA
theorem uG (s : List UInt8) (i : Nat) (h : i < s.length) : bt s i = ((s[i].toNat : Nat) : Int) := by
 unfold bt
 rw [List.getD_eq_getElem?_getD, List.getElem?_eq_getElem h]; rfl
theorem CR {a b : List UInt8} (h : iY a = iY b) : a = b := by
 have hl : a.length = b.length := by
  have h1 := lM a
  have h2 := lM b
  rw [h] at h1
  omega
 apply List.ext_getElem hl
 intro i h1 h2
 have e : bI (bt a i) 8 8 = bI (bt b i) 8 8 := by
  apply List.ext_getElem?
  intro j
  rcases Nat.lt_or_ge j 8 with hj | hj
  ·rw [← nP a i j h1 hj, ← nP b i j h2 hj, h]
  ·rw [List.getElem?_eq_none (by rw [dA]; omega), List.getElem?_eq_none (by rw [dA]; omega)]
 have b1 := uG a i h1
 have b2 := uG b i h2
 have c1 := a[i].toNat_lt
 have c2 := b[i].toNat_lt
 have n1 := Rn.BF 8 (bt a i) (by rw [b1]; omega) (by rw [b1]; have : (2 : Int) ^ 8 = 256 := rfl; omega)
 have n2 := Rn.BF 8 (bt b i) (by rw [b2]; omega) (by rw [b2]; have : (2 : Int) ^ 8 = 256 := rfl; omega)
 rw [e] at n1
 have : bt a i = bt b i := n1.symm.trans n2
 rw [b1, b2] at this
 exact UInt8.toNat_inj.1 (by omega)
theorem Ll (s : List UInt8) (j k i : Nat) (h : i < k - j) : bt ((s.take k).drop j) i = bt s (j + i) := by
 unfold bt
 rw [List.getD_eq_getElem?_getD, List.getD_eq_getElem?_getD, List.getElem?_drop, List.getElem?_take, if_pos (by omega)]
theorem Hh (s : List UInt8) (j k q : Nat) (h : q < 8 * (k - j)) : dS ((s.take k).drop j) (q : Int) = dS s ((8 * j + q : Nat) : Int) := by
 unfold dS
 have e1 : ((q : Int) / 8).toNat = q / 8 := by omega
 have e2 : (((8 * j + q : Nat) : Int) / 8).toNat = j + q / 8 := by omega
 have e3 : ((8 * j + q : Nat) : Int) % 8 = (q : Int) % 8 := by omega
 rw [e1, e2, e3, Ll s j k (q / 8) (by omega)]
theorem GZ (s : List UInt8) (j k : Nat) (hjk : j ≤ k) (hk : k ≤ s.length) : bR (W s (8 * j) (8 * k)) = (s.take k).drop j := by
 have hd : (W s (8 * j) (8 * k)).all bq = true := by
  unfold W
  exact all_map _ (jD s _ _)
 have hl := CF (s := s) (p := 8 * j) (u := 8 * k) (by omega) (by omega)
 apply CR
 rw [zK _ hd, sH, hl]
 have hp : Bt.bZ (8 * k - 8 * j) = 0 := by unfold Bt.bZ; omega
 rw [hp]
 have hz : zs 0 = [] := rfl
 rw [hz, List.append_nil]
 have hsl : ((s.take k).drop j).length = k - j := by rw [List.length_drop, List.length_take]; omega
 apply List.ext_getElem?
 intro q
 rcases Nat.lt_or_ge q (8 * (k - j)) with hq | hq
 ·rw [EE _ q (by rw [hsl]; exact hq), Hh s j k q hq]
  unfold W
  rw [List.getElem?_map, List.getElem?_take, if_pos (by omega)]
  have : (aC s (8 * j))[q]? = some (dS s ((8 * j + q : Nat) : Int)) := by
   unfold aC
   rw [List.getElem?_map, List.getElem?_range (by omega)]; rfl
  rw [this]; rfl
 ·rw [List.getElem?_eq_none (by rw [hl]; omega), List.getElem?_eq_none (by rw [lM, hsl]; omega)]
attribute [local irreducible] shX Tc.bG suD bD rsD jb gy eD bR W bg
theorem sheetoutOnce_law (s : List UInt8) (q : Int) (hs : s.length ≤ 140737488351232) (hq : I64 q) :
  ACalls (cxg gB) 5 [S s, I q] [] (fun r H => r = B true ∧ H = []) := by
 have lv : ACalls (cxg gB) 16 [] [] (fun r H => r = B true ∧ H = []) := zM
 have nw := BD (gl := gB) s
 rcases Nat.lt_or_ge 2000 s.length with hlen | hlen
 ·refine ACalls.enter Tryz.func5 rfl Tryz.ntmps5 (by kernel_rfl) rfl ?_; simp only [aB, nm, Nat.reduceAdd]
  repeat' (first | refine aa.aD ?_ | refine aa.aY true ?_ | (refine aa.ae [] ( nw) ?_; simp only [ny, nh, Nat.reduceAdd, Nat.reduceSub]) | refine aa.ak (lv) ?_ | refine aa.av ?_ | refine aa.ai ?_ | (refine aa.aG ?_; simp only [nm, nz, Nat.reduceAdd]) | (refine aa.az ?_; simp only [nm, nz, Nat.reduceAdd]) | refine aa.aj ?_ | refine aa.cN ?_ | refine aa.bh ?_ | refine aa.aU ?_ | refine aa.fw ?_ | refine aa.aA ?_ | intro _ | refine aa.au ?_)
  all_goals first | exact ⟨rfl, rfl⟩ | omega
 ·by_cases hr : q < 0 ∨ 8 * (s.length : Int) < q
  ·have sk := EH (gl := gB) s 0 q (by omega) hr
   refine ACalls.enter Tryz.func5 rfl Tryz.ntmps5 (by kernel_rfl) rfl ?_; simp only [aB, nm, Nat.reduceAdd]
   repeat' (first | refine aa.aD ?_ | refine aa.aY true ?_ | (refine aa.ae [] ( nw) ?_; simp only [ny, nh, Nat.reduceAdd, Nat.reduceSub]) | (refine aa.ae [0] ( sk) ?_; simp only [ny, nh, Nat.reduceAdd, Nat.reduceSub]) | refine aa.ak (lv) ?_ | refine aa.av ?_ | refine aa.ai ?_ | (refine aa.aG ?_; simp only [nm, nz, Nat.reduceAdd]) | (refine aa.az ?_; simp only [nm, nz, Nat.reduceAdd]) | refine aa.aj ?_ | refine aa.cN ?_ | refine aa.bh ?_ | refine aa.aU ?_ | refine aa.fw ?_ | refine aa.aA ?_ | intro _ | refine aa.au ?_)
   all_goals first | exact ⟨rfl, rfl⟩ | omega
  ·obtain ⟨p, rfl⟩ := Int.eq_ofNat_of_zero_le (show 0 ≤ q by omega)
   have sk := fM (gl := gB) s 0 p (by omega) ⟨by omega, by omega⟩
   have tk := EC s p (by omega) (by omega)
   have so := H0 (s := s) (p := p) (by omega) (by omega)
   generalize shX s p = X at *
   obtain ⟨h, rs, z, e, u⟩ := X
   simp only at tk so
   by_cases he : e = 0
   ·subst he
    obtain ⟨o1, o2, o3, o4, o5, o6, o7, o8⟩ := so rfl
    have ok := J5 o5 o7
    have hck : gK h rs z = 0 := by unfold gK; rw [if_pos o5, if_pos o6]
    have hW := CF (s := s) (p := p) (u := u) (by omega) o3
    have hso : (gW h rs 0 rs.length).length ≤ 16000 := by
     have e1 : (eD h rs z 0).length = u - p := by rw [o8, hW]
     unfold eD at e1
     simp only [List.length_append] at e1
     omega
    have wn := qK (gl := gB)
    have sp : ACalls (cxg gB) 18 [.ptr 0 0, .d (shD h (rsD rs) z)] (WO []) (fun r H => r = I 0 ∧ H = WO (eD h rs z 0)) :=
     rP [] 0 h rs z ok (by have := KJ o5; omega) hck o5 (gM.nil 0) rfl (by omega) (by have := (jB o5).2.1; omega)
    rw [o8] at sp
    have ln := zB (gl := gB) (W s p u)
    rw [hW] at ln
    have tx := Ht (gl := gB) (W s p u)
    have a0 := qG (gl := gB) s (u : Int)
    obtain ⟨j, rfl⟩ : ∃ j, p = 8 * j := ⟨p / 8, by omega⟩
    obtain ⟨k, rfl⟩ : ∃ k, u = 8 * k := ⟨u / 8, by omega⟩
    have bw := GZ s j k (by omega) (by omega)
    have e1 : (((8 * j : Nat) : Int) / 8).toNat = j := by omega
    have e2 : (((8 * k : Nat) : Int) / 8).toNat = k := by omega
    have hte : decide (bR (W s (8 * j) (8 * k)) = List.drop (((8 * j : Nat) : Int) / 8).toNat (List.take (((8 * k : Nat) : Int) / 8).toNat s)) = true := decide_eq_true (by rw [e1, e2, bw])
    refine ACalls.enter Tryz.func5 rfl Tryz.ntmps5 (by kernel_rfl) rfl ?_; simp only [aB, nm, Nat.reduceAdd]
    repeat' (first | refine aa.aD ?_ | refine aa.aY true ?_ | (refine aa.ae [] ( nw) ?_; simp only [ny, nh, Nat.reduceAdd, Nat.reduceSub]) | (refine aa.ae [0] ( sk) ?_; simp only [ny, nh, Nat.reduceAdd, Nat.reduceSub]) | (refine aa.ae [0] ( tk) ?_; simp only [ny, nh, Nat.reduceAdd, Nat.reduceSub]) | (refine aa.ae [] ( wn) ?_; simp only [ny, nh, Nat.reduceAdd, Nat.reduceSub]) | (refine aa.ae [2,3] ( sp) ?_; simp only [ny, nh, Nat.reduceAdd, Nat.reduceSub]) | (refine aa.ae [2,3] ( ln) ?_; simp only [ny, nh, Nat.reduceAdd, Nat.reduceSub]) | (refine aa.ae [2,3] ( tx) ?_; simp only [ny, nh, Nat.reduceAdd, Nat.reduceSub]) | (refine aa.ae [0] ( a0) ?_; simp only [ny, nh, Nat.reduceAdd, Nat.reduceSub]) | refine aa.ak (lv) ?_ | refine aa.av ?_ | refine aa.ai ?_ | (refine aa.aG ?_; simp only [nm, nz, Nat.reduceAdd]) | (refine aa.az ?_; simp only [nm, nz, Nat.reduceAdd]) | refine aa.aj ?_ | refine aa.cN ?_ | refine aa.bh ?_ | (apply aa.cBT; rfl; first | (simp only [bT]; omega) | (exact hte) | ((simp; done))) | (apply aa.gBT; rfl; rfl; rfl; first | (simp only [bT]; omega) | (exact hte) | ((simp; done))) | refine aa.aA ?_ | intro _ | refine aa.au ?_)
    all_goals first | exact ⟨rfl, rfl⟩ | omega
   ·refine ACalls.enter Tryz.func5 rfl Tryz.ntmps5 (by kernel_rfl) rfl ?_; simp only [aB, nm, Nat.reduceAdd]
    repeat' (first | refine aa.aD ?_ | refine aa.aY true ?_ | (refine aa.ae [] ( nw) ?_; simp only [ny, nh, Nat.reduceAdd, Nat.reduceSub]) | (refine aa.ae [0] ( sk) ?_; simp only [ny, nh, Nat.reduceAdd, Nat.reduceSub]) | (refine aa.ae [0] ( tk) ?_; simp only [ny, nh, Nat.reduceAdd, Nat.reduceSub]) | refine aa.ak (lv) ?_ | refine aa.av ?_ | refine aa.ai ?_ | (refine aa.aG ?_; simp only [nm, nz, Nat.reduceAdd]) | (refine aa.az ?_; simp only [nm, nz, Nat.reduceAdd]) | refine aa.aj ?_ | refine aa.cN ?_ | refine aa.bh ?_ | refine aa.aU ?_ | refine aa.fw ?_ | refine aa.aA ?_ | intro _ | refine aa.au ?_)
    all_goals first | exact ⟨rfl, rfl⟩ | omega
end Si
end Go.Proofs.YtbfojhfiemcnpaaGreatDoor.Av
