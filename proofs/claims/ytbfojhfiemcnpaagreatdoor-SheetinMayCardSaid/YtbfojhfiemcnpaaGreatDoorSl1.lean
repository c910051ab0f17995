/- Sheets that are read: the chapter's example; what is read may be. -/
import Derived.Test.YtbfojhfiemcnpaaGreatDoorPy5
set_option linter.unusedVariables false
set_option linter.unusedSimpArgs false
set_option maxRecDepth 100000
set_option maxHeartbeats 64000000
namespace Go.Proofs.YtbfojhfiemcnpaaGreatDoor.Av
namespace Si
open Go Bt Sh Co Ci Tc
attribute [local irreducible] aa ACalls bq aL cz aG cJ cn dx
abbrev JS : Hd := ⟨5, 0, 6, true, 4, []⟩
abbrev A8 : Cel := ⟨0, true, 0, 0, 0, 0, 0, 0, 0, 0, 0, 0, [], [], [], [], [], []⟩
abbrev Fb : Rw := ⟨false, 0, 0, [A8, A8]⟩
theorem JM : shX [0, 0, 128, 22, 26, 4, 60] 0 = (JS, [Fb, Fb], 0, 0, 56) := by kernel_rfl
theorem Ac : ACalls (cxg gB) 9 [] [] (fun r H => r = B true ∧ H = []) := by
 have t1 := vz [0, 0, 128, 22, 26, 4, 60] 0 (by decide) (by decide)
 rw [JM] at t1
 simp only at t1
 have er : rsD [Fb, Fb] = [.agg [.bool false, In 0, In 0, .sl 18 [jm A8, jm A8]], .agg [.bool false, In 0, In 0, .sl 18 [jm A8, jm A8]]] := rfl
 rw [er] at t1
 refine ACalls.enter Tryz.func9 rfl Tryz.ntmps9 (by kernel_rfl) rfl ?_; simp only [au, nm, Nat.reduceAdd]
 repeat' (first | (apply aa.st; rfl) | (apply aa.q true; rfl; rfl; rfl; rfl; first | exact True.intro | omega | (simp only [tn, Int.reduceToNat]; omega) | ((simp only [List.length_cons, List.length_nil]; omega))) | (apply aa.ah [] ( vY [0, 0, 128, 22, 26, 4, 60]); (iterate 6 rfl); decide; rfl; rfl; simp only [ny, nh, Nat.reduceAdd, Nat.reduceSub]) | (apply aa.ah [0] ( t1); (iterate 6 rfl); decide; rfl; rfl; simp only [ny, nh, Nat.reduceAdd, Nat.reduceSub]) | (apply aa.alloc; (iterate 5 rfl); simp only [nm, nz, Nat.reduceAdd]) | (apply aa.store; (iterate 9 rfl); exact Nat.le_of_ble_eq_true rfl; simp only [nm, nz, Nat.reduceAdd]) | (apply aa.aj; rfl; rfl) | intro _ | (apply aa.aC; rfl; rfl; rfl; rfl))
 all_goals first | exact ⟨rfl, rfl⟩ | omega
theorem Hn {s : List UInt8} {p : Nat} (h : (shX s p).2.2.2.1 ≠ 0) : shX s p = (hd0, [], 0, (shX s p).2.2.2.1, p) := by
 unfold shX shH at h ⊢
 by_cases h0 : (hdT s p).2.1 ≠ 0
 ·rw [if_pos h0]
 ·rw [if_neg h0] at h ⊢
  unfold shT at h ⊢
  by_cases h1 : (bhX (hdT s p).1 s (hdT s p).2.2).2.2.1 ≠ 0
  ·rw [if_pos h1]
  ·rw [if_neg h1] at h
   exact absurd rfl h
theorem Ho {h : Hd} {rs : List Rw} {z : Int} (hf : j5 h rs z = true) (hc : ∀ r ∈ rs, ∀ c ∈ r.cells, nZ c) : nX rs := by
 obtain ⟨h1, h2, h3, h4⟩ := lX hf
 obtain ⟨h5, _⟩ := sZ hf
 have hAL := yc h5
 refine ⟨by omega, fun r hr => ⟨?_, hc r hr⟩⟩
 obtain ⟨i, hi⟩ := List.getElem?_of_mem hr
 have := vH (vG h4 (av hi) hi)
 omega
theorem H5 {h : Hd} {rs : List Rw} {z : Int} (hf : j5 h rs z = true) : h.supp.length ≤ 8 := by
 obtain ⟨h1, _⟩ := lX hf
 exact (nE h1).1.2.2.2.2
attribute [local irreducible] shX Tc.bg suD bh rsD j5 eM qO
theorem sheetinMay_law (s : List UInt8) (q : Int) (hs : s.length ≤ 140737488351232) (hq : I64 q) :
  ACalls (cxg gB) 4 [S s, I q] [] (fun r H => r = B true ∧ H = []) := by
 have lv := Ac
 have nw := vY (gl := gB) s
 rcases Nat.lt_or_ge 2000 s.length with hlen | hlen
 ·refine ACalls.enter Tryz.func4 rfl Tryz.ntmps4 (by kernel_rfl) rfl ?_; simp only [au, nm, Nat.reduceAdd]
  repeat' (first | (apply aa.st; rfl) | (apply aa.q true; rfl; rfl; rfl; rfl; first | exact True.intro | omega | (simp only [tn, Int.reduceToNat]; omega)) | (apply aa.ah [] ( nw); (iterate 6 rfl); decide; rfl; rfl; simp only [ny, nh, Nat.reduceAdd, Nat.reduceSub]) | (apply aa.aA (lv); (iterate 6 rfl)) | (apply aa.aB; rfl) | (apply aa.ak; rfl) | (apply aa.alloc; (iterate 5 rfl); simp only [nm, nz, Nat.reduceAdd]) | (apply aa.store; (iterate 9 rfl); exact Nat.le_of_ble_eq_true rfl; simp only [nm, nz, Nat.reduceAdd]) | (apply aa.aj; rfl; rfl) | (apply aa.gT; rfl; rfl; rfl; first | omega | rfl) | (apply aa.gF; rfl; rfl; rfl; omega) | (apply aa.cBT; rfl; first | (simp only [bT]; omega)) | (apply aa.az; rfl; rfl; rfl) | intro _ | (apply aa.aC; rfl; rfl; rfl; rfl))
  all_goals first | exact ⟨rfl, rfl⟩ | omega
 ·by_cases hr : q < 0 ∨ 8 * (s.length : Int) < q
  ·have sk := BX (gl := gB) s 0 q (by omega) hr
   refine ACalls.enter Tryz.func4 rfl Tryz.ntmps4 (by kernel_rfl) rfl ?_; simp only [au, nm, Nat.reduceAdd]
   repeat' (first | (apply aa.st; rfl) | (apply aa.q true; rfl; rfl; rfl; rfl; first | exact True.intro | omega | (simp only [tn, Int.reduceToNat]; omega)) | (apply aa.ah [] ( nw); (iterate 6 rfl); decide; rfl; rfl; simp only [ny, nh, Nat.reduceAdd, Nat.reduceSub]) | (apply aa.ah [0] ( sk); (iterate 6 rfl); decide; rfl; rfl; simp only [ny, nh, Nat.reduceAdd, Nat.reduceSub]) | (apply aa.aA (lv); (iterate 6 rfl)) | (apply aa.aB; rfl) | (apply aa.ak; rfl) | (apply aa.alloc; (iterate 5 rfl); simp only [nm, nz, Nat.reduceAdd]) | (apply aa.store; (iterate 9 rfl); exact Nat.le_of_ble_eq_true rfl; simp only [nm, nz, Nat.reduceAdd]) | (apply aa.aj; rfl; rfl) | (apply aa.gT; rfl; rfl; rfl; first | omega | rfl) | (apply aa.gF; rfl; rfl; rfl; omega) | (apply aa.cBT; rfl; first | (simp only [bT]; omega)) | (apply aa.az; rfl; rfl; rfl) | intro _ | (apply aa.aC; rfl; rfl; rfl; rfl))
   all_goals first | exact ⟨rfl, rfl⟩ | omega
  ·obtain ⟨p, rfl⟩ := Int.eq_ofNat_of_zero_le (show 0 ≤ q by omega)
   have sk := dO (gl := gB) s 0 p (by omega) ⟨by omega, by omega⟩
   have tk := vz s p (by omega) (by omega)
   have so := E5 (s := s) (p := p) (by omega) (by omega)
   have se := Hn (s := s) (p := p)
   generalize shX s p = X at *
   obtain ⟨h, rs, z, e, u⟩ := X
   simp only at tk so se
   have a0 := nV (gl := gB) s (u : Int)
   by_cases he : e = 0
   ·subst he
    obtain ⟨o1, o2, o3, o4, o5, o6, o7, o8⟩ := so rfl
    have ok := Ho o5 o7
    have ck := (Ga h rs z ok (by have := H5 o5; omega)).more GL
    have hck : rP h rs z = 0 := by unfold rP; rw [if_pos o5, if_pos o6]
    rw [hck] at ck
    have hm : (u : Int) % 8 = 0 := by omega
    refine ACalls.enter Tryz.func4 rfl Tryz.ntmps4 (by kernel_rfl) rfl ?_; simp only [au, nm, Nat.reduceAdd]
    repeat' (first | (apply aa.st; rfl) | (apply aa.q true; rfl; rfl; rfl; rfl; first | exact True.intro | omega | (simp only [tn, Int.reduceToNat]; omega)) | (apply aa.ah [] ( nw); (iterate 6 rfl); decide; rfl; rfl; simp only [ny, nh, Nat.reduceAdd, Nat.reduceSub]) | (apply aa.ah [0] ( sk); (iterate 6 rfl); decide; rfl; rfl; simp only [ny, nh, Nat.reduceAdd, Nat.reduceSub]) | (apply aa.ah [0] ( tk); (iterate 6 rfl); decide; rfl; rfl; simp only [ny, nh, Nat.reduceAdd, Nat.reduceSub]) | (apply aa.ah [0] ( a0); (iterate 6 rfl); decide; rfl; rfl; simp only [ny, nh, Nat.reduceAdd, Nat.reduceSub]) | (apply aa.aA (ck); (iterate 6 rfl)) | (apply aa.aA (lv); (iterate 6 rfl)) | (apply aa.aB; rfl) | (apply aa.ak; rfl) | (apply aa.alloc; (iterate 5 rfl); simp only [nm, nz, Nat.reduceAdd]) | (apply aa.store; (iterate 9 rfl); exact Nat.le_of_ble_eq_true rfl; simp only [nm, nz, Nat.reduceAdd]) | (apply aa.aj; rfl; rfl) | (apply aa.gT; rfl; rfl; rfl; first | omega | rfl) | (apply aa.gF; rfl; rfl; rfl; omega) | (apply aa.cBT; rfl; first | (simp only [bT]; omega)) | (apply aa.az; rfl; rfl; rfl) | intro _ | (apply aa.aC; rfl; rfl; rfl; rfl))
    all_goals first | exact ⟨rfl, rfl⟩ | omega
   ·obtain ⟨rfl, rfl, rfl, rfl⟩ : h = hd0 ∧ rs = [] ∧ z = 0 ∧ u = p := by
     have := se he
     simp only [Prod.mk.injEq] at this
     exact ⟨this.1, this.2.1, this.2.2.1, this.2.2.2.2⟩
    have r0 : rsD [] = [] := by unfold rsD; rfl
    rw [r0] at tk
    refine ACalls.enter Tryz.func4 rfl Tryz.ntmps4 (by kernel_rfl) rfl ?_; simp only [au, nm, Nat.reduceAdd]
    repeat' (first | (apply aa.st; rfl) | (apply aa.q true; rfl; rfl; rfl; rfl; first | exact True.intro | omega | (simp only [tn, Int.reduceToNat]; omega)) | (apply aa.ah [] ( nw); (iterate 6 rfl); decide; rfl; rfl; simp only [ny, nh, Nat.reduceAdd, Nat.reduceSub]) | (apply aa.ah [0] ( sk); (iterate 6 rfl); decide; rfl; rfl; simp only [ny, nh, Nat.reduceAdd, Nat.reduceSub]) | (apply aa.ah [0] ( tk); (iterate 6 rfl); decide; rfl; rfl; simp only [ny, nh, Nat.reduceAdd, Nat.reduceSub]) | (apply aa.ah [0] ( a0); (iterate 6 rfl); decide; rfl; rfl; simp only [ny, nh, Nat.reduceAdd, Nat.reduceSub]) | (apply aa.aA (lv); (iterate 6 rfl)) | (apply aa.aB; rfl) | (apply aa.ak; rfl) | (apply aa.alloc; (iterate 5 rfl); simp only [nm, nz, Nat.reduceAdd]) | (apply aa.store; (iterate 9 rfl); exact Nat.le_of_ble_eq_true rfl; simp only [nm, nz, Nat.reduceAdd]) | (apply aa.aj; rfl; rfl) | (apply aa.gT; rfl; rfl; rfl; first | omega | rfl) | (apply aa.gF; rfl; rfl; rfl; omega) | (apply aa.cBT; rfl; first | (simp only [bT]; omega)) | (apply aa.az; rfl; rfl; rfl) | intro _ | (apply aa.aC; rfl; rfl; rfl; rfl))
    all_goals first | exact ⟨rfl, rfl⟩ | omega
end Si
end Go.Proofs.YtbfojhfiemcnpaaGreatDoor.Av
