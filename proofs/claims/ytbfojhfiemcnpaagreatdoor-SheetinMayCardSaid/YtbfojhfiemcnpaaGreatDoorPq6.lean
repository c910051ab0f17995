/- Cells are read: cellin.Take. Cells are read: cellin.Take, walked. -/
import Derived.Test.YtbfojhfiemcnpaaGreatDoorCi4
set_option linter.unusedVariables false
set_option linter.unusedSimpArgs false
set_option maxRecDepth 100000
set_option maxHeartbeats 64000000
namespace Go.Proofs.YtbfojhfiemcnpaaGreatDoor.Av
namespace Ci
open Go Bt Tc Co Bl
attribute [local irreducible] aa ACalls bq aL cz aG
variable {gl : List (Nat × List D)}
abbrev Jz (st : Int) (sk : Bool) : D := .agg [In st, .bool sk, In 0, In 0, In 0, In 0, In 0, In 0, In 0, In 0, In 0, In 0, .aU, .aU, .aU, .aU, .aU, .aU]
abbrev Jy (st : Int) (sk : Bool) : Cel := ⟨st, sk, 0, 0, 0, 0, 0, 0, 0, 0, 0, 0, [], [], [], [], [], []⟩
theorem rX {cs ds : List D} (hl : ds.length = cs.length) (hone : ∀ d ∈ ds, d.one = true) (h : ∀ (i : Nat) (c d : D), cs[i]? = some c → ds[i]? = some d → dZ c d) : dZ (.agg cs) (.agg ds) := fun imm v hv => by
 cases hv with
 | agg vs _ hl0 hone0 h0 =>
  refine .agg vs _ (hl0.trans hl.symm) hone fun i d hd => ?_
  have hi : i < cs.length := by rw [← hl]; exact av hd
  have hc : cs[i]? = some cs[i] := List.getElem?_eq_getElem hi
  exact h i _ d hc hd imm _ (h0 i _ hc)
theorem kK (st : Int) (sk : Bool) : dZ (Jz st sk) (jm (Jy st sk)) := rX rfl (by simp [D.one]) (fun i c d hc hd => by
 have hn : dZ .aU (evS []) := dZ.aU 3
 match i, hc, hd with
 | 0, hc, hd | 1, hc, hd | 2, hc, hd | 3, hc, hd | 4, hc, hd | 5, hc, hd | 6, hc, hd | 7, hc, hd | 8, hc, hd | 9, hc, hd | 10, hc, hd | 11, hc, hd => cases hc; cases hd; exact dZ.refl _
 | 12, hc, hd | 13, hc, hd | 14, hc, hd | 15, hc, hd | 16, hc, hd | 17, hc, hd => cases hc; cases hd; exact hn
 | i + 18, hc, hd => simp at hc)
theorem CY (b : Bool) (B : List Int) (h : (mbN b B).2.2.1 = 0) : ((mbN b B).1 = 0 ∨ (mbN b B).1 = 1 ∨ (mbN b B).1 = 3 ∨ (mbN b B).1 = 4 ∨ (mbN b B).1 = 5) ∧ 0 ≤ (mbN b B).2.1 ∧ (mbN b B).2.1 ≤ 3 := by
 have hb := Mv.jw (Mb.iF b) (B.map bi) []
 rw [Mb.rf] at hb
 unfold mbN Mb.mbX at h ⊢
 generalize bR (Mb.iF b) (B.map bi) [] = y at *
 obtain ⟨i, e, c⟩ := y
 simp only at hb h ⊢
 by_cases h1 : e = 0
 ·rw [if_pos h1] at h ⊢
  have hb := hb h1
  by_cases h2 : (i + (if b = true then 0 else 12)) / 4 = 2
  ·rw [if_pos h2] at h; cases h
  ·rw [if_neg h2]
   simp only
   cases b
   ·simp only [Bool.false_eq_true, if_false] at hb h2 ⊢; omega
   ·simp only [if_true] at hb h2 ⊢; omega
 ·rw [if_neg h1] at h; exact absurd h h1
structure HdB (B : List Int) (h : HdR) : Prop where
 le : h.used ≤ B.length
 sk : h.skip = true → h.kind = 0
 ki : h.err = 0 → h.skip = false → (h.kind = 0 ∨ h.kind = 1 ∨ h.kind = 3 ∨ h.kind = 4) ∧ 0 ≤ h.chr ∧ h.chr ≤ 3
theorem Dr (b : Bool) (B : List Int) (n : Int) (k : Nat) (y : HdR) (hk : k ≤ B.length) (hy : HdB (B.drop (k + (mbN b (B.drop k)).2.2.2)) y) : HdB B (hdK n k (mbN b (B.drop k)) y) := by
 have hl := xQ b (B.drop k)
 have hkd := CY b (B.drop k)
 rw [List.length_drop] at hl
 obtain ⟨y1, y2, y3⟩ := hy
 rw [List.length_drop] at y1
 generalize mbN b (B.drop k) = x at *
 unfold hdK
 by_cases h0 : x.2.2.1 ≠ 0
 ·rw [if_pos h0]; exact ⟨hk, fun _ => rfl, fun h => absurd h h0⟩
 ·rw [if_neg h0]
  obtain ⟨k1, k2⟩ := hkd (by simpa using h0)
  by_cases h5 : x.1 ≠ 5
  ·rw [if_pos h5]
   exact ⟨by simp only; omega, fun h => (by cases h), fun _ _ => ⟨by simp only; omega, k2⟩⟩
  ·rw [if_neg h5]
   by_cases h64 : n = 64
   ·rw [if_pos h64]; exact ⟨by simp only; omega, fun _ => rfl, fun h => (by cases h)⟩
   ·rw [if_neg h64]; exact ⟨by simp only; omega, y2, y3⟩
theorem rE (b : Bool) : ∀ (f : Nat) (n : Int) (B : List Int), HdB B (hdX b f n B)
 | 0, n, B => ⟨Nat.zero_le _, fun _ => rfl, fun h => (by cases h)⟩
 | f + 1, n, B => by
  rw [hdX]
  cases b with
  | false =>
   simp only [Bool.false_eq_true, if_false]
   have := Dr false B n 0 _ (Nat.zero_le _) (rE false f (n + 1) _)
   simp only [List.drop_zero, Nat.zero_add] at this
   exact this
  | true =>
   simp only [if_true]
   by_cases h0 : B = []
   ·rw [if_pos h0]; exact ⟨Nat.zero_le _, fun _ => rfl, fun h => (by cases h)⟩
   ·rw [if_neg h0]
    have hl : 1 ≤ B.length := by
     cases B with
     | nil => exact absurd rfl h0
     | cons _ _ => simp
    by_cases h1 : B.getD 0 0 = 1
    ·rw [if_pos h1]; exact ⟨hl, fun _ => rfl, fun _ h => (by cases h)⟩
    ·rw [if_neg h1]
     exact Dr true B n 1 _ hl (rE true f (n + 1) _)
theorem Gl (b : Bool) (B : List Int) : 0 ≤ (cbN b B).1 ∧ (cbN b B).1 ≤ 15 := by
 have hb := Mv.jw Cb.cbR (B.map bi) []
 have hl : Cb.cbR.length = 16 := rfl
 unfold cbN Cb.cbX
 simp only
 split
 ·rename_i h
  exact Cb.Bx b _ (by have := hb h; omega)
 ·omega
theorem Fy (k px py : Int) (B : List Int) : 0 ≤ (mdX k px py B).pat ∧ (mdX k px py B).pat ≤ 15 := by
 have := Gl (aH k) B
 have hm : ∀ st q, (mdM k px py B (cbN (aH k) B).1 st q).pat = (cbN (aH k) B).1 := fun st q => by
  unfold mdM
  split
  ·rfl
  ·split <;> rfl
 unfold mdX
 split
 ·exact this
 ·split
  ·split
   ·exact this
   ·rw [hm]; exact this
  ·rw [hm]; exact this
theorem CO (k px py : Int) (s : List UInt8) (p : Nat) (pat st : Int) (q : Nat) (hq : p + q ≤ 8 * s.length) : p + (mdM k px py (ai s p) pat st q).used ≤ 8 * s.length := by
 have h1 := uz (eD s (p + q))
 have h2 := uz (eD s (p + (q + (mvN (ai s (p + q))).2.2)))
 rw [cL] at h1 h2
 unfold mdM
 simp only [bW]
 split
 ·exact hq
 ·split
  ·exact hq
  ·simp only; omega
theorem CM (k px py : Int) (s : List UInt8) (p : Nat) (hp : p ≤ 8 * s.length) : p + (mdX k px py (ai s p)).used ≤ 8 * s.length := by
 have h1 := yp (aH k) (ai s p)
 have h2 := BM (ai s (p + (cbN (aH k) (ai s p)).2.2))
 rw [cL] at h1 h2
 unfold mdX
 simp only [bW]
 split
 ·exact hp
 ·split
  ·split
   ·simp only; omega
   ·exact CO k px py s p _ _ _ (by omega)
  ·exact CO k px py s p _ _ _ (by omega)
theorem tN (b : Bool) (s : List UInt8) (p q : Nat) : ∀ (cs : List Bool) (r : Nat), bdX b cs (ai s p) (q + r) = ((bdX b cs (ai s (p + q)) r).1, (bdX b cs (ai s (p + q)) r).2.1, q + (bdX b cs (ai s (p + q)) r).2.2)
 | [], r => rfl
 | c :: cs, r => by
  rw [bdX, bdX, bW, bW, ← Nat.add_assoc p q r]
  by_cases h : (blX b c (ai s (p + q + r))).2.2.1 ≠ 0
  ·rw [if_pos h, if_pos h]
  ·rw [if_neg h, if_neg h, Nat.add_assoc q r, tN b s p q cs]
theorem zK (b : Bool) (s : List UInt8) (p : Nat) : ∀ (cs : List Bool) (r : Nat), (bdX b cs (ai s p) r).2.1 = 0 → (bdX b cs (ai s p) r).1.length = cs.length
 | [], r, _ => rfl
 | c :: cs, r, h => by
  rw [bdX] at h ⊢
  by_cases h0 : (blX b c ((ai s p).drop r)).2.2.1 ≠ 0
  ·rw [if_pos h0] at h; exact absurd h h0
  ·rw [if_neg h0] at h ⊢
   simp only [List.length_cons]
   rw [zK b s p cs _ h]
end Ci
namespace Ci
open Go Bt Tc Co Bl
attribute [local irreducible] aa ACalls bq aL cz aG
variable {gl : List (Nat × List D)}
theorem Hy (a c : Int) (ha : 0 ≤ a ∧ a ≤ 15) (hc : 0 ≤ c ∧ c ≤ 3) : (((a * 2 ^ 2).toNat ||| c.toNat : Nat) : Int) = 4 * a + c := by
 obtain ⟨n, rfl⟩ := Int.eq_ofNat_of_zero_le ha.1
 obtain ⟨m, rfl⟩ := Int.eq_ofNat_of_zero_le hc.1
 have e : ((n : Int) * 2 ^ 2).toNat = 2 ^ 2 * n := by omega
 rw [e, Int.toNat_natCast]
 have := Nat.two_pow_add_eq_or_of_lt (i := 2) (b := m) (by omega) n
 rw [← this]; omega
theorem Ej (e v q : Int) (cs : List AV) (s : List UInt8) (he : e ≠ 0) (hb : dI 3 ([Rr 2 e, .cells cs, Rd s q].take 3) = true) : ACalls (cxg gl) 147 [.ptr 0 0, .ptr 1 0, I v] [Rr 2 e, .cells cs, Rd s q] (fun r H => r = .bG [] ∧ H = [Rr 2 e, .cells cs, Rd s q]) := by
 refine ACalls.enter Tryz.func147 rfl Tryz.ntmps147 (by kernel_rfl) rfl ?_; simp only [au, nm, Nat.reduceAdd]
 repeat' (first | (apply aa.st; rfl) | (apply aa.q true; rfl; rfl; rfl; rfl; first | exact True.intro | omega | (simp only [tn, Int.reduceToNat]; omega)) | (apply aa.af; rfl; first | omega | rfl) | (apply aa.cBT; rfl; first | (simp only [bT]; omega)) | (((apply aa.aC; rfl; rfl; rfl; exact hb))) | apply aa.dM | intro _ | (apply aa.aC; rfl; rfl; rfl; rfl))
 all_goals first | exact ⟨rfl, rfl⟩
attribute [local irreducible] ai Tc.bg hdX mdX bdX
theorem Ee (b : Bool) (px py : Int) (s : List UInt8) (p : Nat) (hpx : I64 px) (hpy : I64 py) (hs : s.length ≤ 1000000) (hp : p ≤ 8 * s.length) :
  ACalls (cxg gB) 129 [.ptr 0 0, B b, .d (.agg [In px, In py])] [Rd s p]
  (fun r H => r = .bG [.d (jm (fS b px py (ai s p)).1), I (fS b px py (ai s p)).2.1] ∧ H = [Rd s ((p + (fS b px py (ai s p)).2.2 : Nat) : Int)]) := by
 have e00 : bg [] = [] := by unfold Tc.bg; rfl
 have a0 := nV (gl := gB) s p
 have hd := Gb b s p hs hp
 have hB := rE b 65 0 (ai s p)
 have hBl := cL s p
 unfold fS Bb
 generalize hdX b 65 0 (ai s p) = h at *
 obtain ⟨h1, h2, h3⟩ := hB
 rw [hBl] at h1
 obtain ⟨st, sk, k, ch, e, u⟩ := h
 simp only at hd h1 h2 h3 ⊢
 have sk0 := fun c : Int => dO (gl := gB) s c p (by omega) ⟨by omega, by omega⟩
 by_cases he : e = 0
 ·subst he
  simp only [ne_eq, not_true_eq_false, if_false]
  cases sk with
  | true =>
   obtain rfl := h2 rfl
   simp only [if_true]
   refine ACalls.enter Tryz.func129 rfl Tryz.ntmps129 (by kernel_rfl) rfl ?_; simp only [au, nm, Nat.reduceAdd]
   repeat' (first | (apply aa.st; rfl) | (apply aa.q true; rfl; rfl; rfl; rfl; first | exact True.intro | omega | (simp only [tn, Int.reduceToNat]; omega)) | (apply aa.ah [0] ( a0); (iterate 6 rfl); decide; rfl; rfl; simp only [ny, nh, Nat.reduceAdd, Nat.reduceSub]) | (apply aa.ah [3,4,0] ( hd); (iterate 6 rfl); decide; rfl; rfl; simp only [ny, nh, Nat.reduceAdd, Nat.reduceSub]) | (apply aa.aB; rfl) | (apply aa.ak; rfl) | (apply aa.alloc; (iterate 5 rfl); simp only [nm, nz, Nat.reduceAdd]) | (apply aa.box; (iterate 6 rfl); simp only [nm, nz, Nat.reduceAdd]) | (apply aa.store; (iterate 9 rfl); exact Nat.le_of_ble_eq_true rfl; simp only [nm, nz, Nat.reduceAdd]) | (apply aa.build; (iterate 5 rfl); simp only [nm, nz, Nat.reduceAdd, bA, cH, AV.unD]) | (apply aa.cBT; rfl; first | (simp only [bT]; omega)) | (apply aa.kX (.bG [.d (jm (Jy st true)), I 0]); rfl; exact bK.bG ⟨bK.d (kK st true), bK.refl _, trivial⟩; rfl; rfl; rfl) | intro _ | (apply aa.aC; rfl; rfl; rfl; rfl))
   all_goals first | exact ⟨rfl, rfl⟩ | omega
  | false =>
   obtain ⟨hk, hch⟩ := h3 rfl rfl
   simp only [Bool.false_eq_true, if_false]
   have md := Ir st k px py s (p + u) hk hpx hpy hs (by omega)
   have mp := Fy k px py (ai s (p + u))
   have ml := CM k px py s (p + u) (by omega)
   rw [bW]
   generalize mdX k px py (ai s (p + u)) = M at *
   obtain ⟨pat, sp, mx, my, me, mu⟩ := M
   simp only at md mp ml ⊢
   have hor := Hy pat ch mp hch
   by_cases hm : me = 0
   ·subst hm
    simp only [not_true_eq_false, if_false]
    have bd := Gg st k sp mx my (4 * pat + ch) s (p + u + mu) hs (by omega) (by omega)
    have bs := tN (aH k) s (p + u) mu (cds (4 * pat + ch)) 0
    have bn := zK (aH k) s (p + u + mu) (cds (4 * pat + ch)) 0
    rw [Nat.add_zero] at bs
    rw [bs]
    generalize bdX (aH k) (cds (4 * pat + ch)) (ai s (p + u + mu)) 0 = Y at *
    obtain ⟨L, be, bu⟩ := Y
    simp only at bd bn ⊢
    rw [← hor] at bd
    by_cases hbe : be = 0
    ·subst hbe
     simp only [if_true, not_true_eq_false, if_false] at bd ⊢
     have hL : L.length = 6 := bn rfl
     match L, hL with
     | [b0, b1, b2, b3, b4, b5], _ =>
      simp only [← Nat.add_assoc]
      refine ACalls.enter Tryz.func129 rfl Tryz.ntmps129 (by kernel_rfl) rfl ?_; simp only [au, nm, Nat.reduceAdd]
      repeat' (first | (apply aa.st; rfl) | (apply aa.q true; rfl; rfl; rfl; rfl; first | exact True.intro | omega | (simp only [tn, Int.reduceToNat]; omega)) | (apply aa.ah [0] ( a0); (iterate 6 rfl); decide; rfl; rfl; simp only [ny, nh, Nat.reduceAdd, Nat.reduceSub]) | (apply aa.ah [3,4,0] ( hd); (iterate 6 rfl); decide; rfl; rfl; simp only [ny, nh, Nat.reduceAdd, Nat.reduceSub]) | (apply aa.ah [3,4,0] ( md); (iterate 6 rfl); decide; rfl; rfl; simp only [ny, nh, Nat.reduceAdd, Nat.reduceSub]) | (apply aa.ah [3,4,0] ( bd); (iterate 6 rfl); decide; rfl; rfl; simp only [ny, nh, Nat.reduceAdd, Nat.reduceSub]) | (apply aa.aB; rfl) | (apply aa.ak; rfl) | (apply aa.alloc; (iterate 5 rfl); simp only [nm, nz, Nat.reduceAdd]) | (apply aa.box; (iterate 6 rfl); simp only [nm, nz, Nat.reduceAdd]) | (apply aa.store; (iterate 9 rfl); exact Nat.le_of_ble_eq_true rfl; simp only [nm, nz, Nat.reduceAdd]) | (apply aa.build; (iterate 5 rfl); simp only [nm, nz, Nat.reduceAdd, bA, cH, AV.unD]) | (apply aa.cBT; rfl; first | (simp only [bT]; omega)) | intro _ | (apply aa.aC; rfl; rfl; rfl; rfl))
      all_goals first | exact ⟨rfl, rfl⟩ | omega
    ·simp only [if_neg hbe, if_pos hbe, Nat.add_zero] at bd ⊢
     generalize yl st k sp mx my (L ++ [(0, [])]) = CS at *
     refine ACalls.enter Tryz.func129 rfl Tryz.ntmps129 (by kernel_rfl) rfl ?_; simp only [au, nm, Nat.reduceAdd]
     repeat' (first | (apply aa.st; rfl) | (apply aa.dF [0, 1, 2, 3, 4, 5, 6] 7; rfl) | (apply aG.fin; kernel_rfl) | (apply aG.go) | (apply aG.pure true; rfl; exact fun _ _ _ h => h; (iterate 6 rfl); kernel_rfl; kernel_rfl; first | exact True.intro | omega) | (apply aG.one; rfl; rfl; kernel_rfl) | (apply aG.two; rfl; rfl; rfl; kernel_rfl) | (exact aa.dR) | (apply aa.ba; (repeat' (first | exact aN.nil | (apply aN.cons; rfl))); rfl) | (apply aa.q true; rfl; rfl; rfl; rfl; first | exact True.intro | omega | (simp only [tn, Int.reduceToNat]; omega)) | (apply aa.ah [0] ( a0); (iterate 6 rfl); decide; rfl; rfl; simp only [ny, nh, Nat.reduceAdd, Nat.reduceSub]) | (apply aa.ah [3,4,0] ( hd); (iterate 6 rfl); decide; rfl; rfl; simp only [ny, nh, Nat.reduceAdd, Nat.reduceSub]) | (apply aa.ah [3,4,0] ( md); (iterate 6 rfl); decide; rfl; rfl; simp only [ny, nh, Nat.reduceAdd, Nat.reduceSub]) | (apply aa.ah [3,4,0] ( bd); (iterate 6 rfl); decide; rfl; rfl; simp only [ny, nh, Nat.reduceAdd, Nat.reduceSub]) | (apply aa.ah [0] ( sk0 _); (iterate 6 rfl); decide; rfl; rfl; simp only [ny, nh, Nat.reduceAdd, Nat.reduceSub]) | (apply aa.aB; rfl) | (apply aa.ak; rfl) | (apply aa.alloc; (iterate 5 rfl); simp only [nm, nz, Nat.reduceAdd]) | (apply aa.box; (iterate 6 rfl); simp only [nm, nz, Nat.reduceAdd]) | (apply aa.store; (iterate 9 rfl); exact Nat.le_of_ble_eq_true rfl; simp only [nm, nz, Nat.reduceAdd]) | (apply aa.build; (iterate 5 rfl); simp only [nm, nz, Nat.reduceAdd, bA, cH, AV.unD]) | (apply aa.cBT; rfl; first | (simp only [bT]; omega)) | (apply aa.kX (.bG [.d (jm ym), I be]); rfl; exact bK.bG ⟨bK.d (kK 0 false), bK.refl _, trivial⟩; rfl; rfl; rfl) | intro _ | (apply aa.aC; rfl; rfl; rfl; rfl))
     all_goals first | exact ⟨rfl, rfl⟩ | omega
   ·rw [if_pos hm]
    simp only [Nat.add_zero]
    have be := fun v => Ej (gl := gB) me v ((p + u + mu : Nat) : Int) (Iy st k sp mx my) s hm rfl
    refine ACalls.enter Tryz.func129 rfl Tryz.ntmps129 (by kernel_rfl) rfl ?_; simp only [au, nm, Nat.reduceAdd]
    repeat' (first | (apply aa.st; rfl) | (apply aa.dF [0, 1, 2, 3, 4, 5, 6] 7; rfl) | (apply aG.fin; kernel_rfl) | (apply aG.go) | (apply aG.pure true; rfl; exact fun _ _ _ h => h; (iterate 6 rfl); kernel_rfl; kernel_rfl; first | exact True.intro | omega) | (apply aG.one; rfl; rfl; kernel_rfl) | (apply aG.two; rfl; rfl; rfl; kernel_rfl) | (exact aa.dR) | (apply aa.ba; (repeat' (first | exact aN.nil | (apply aN.cons; rfl))); rfl) | (apply aa.q true; rfl; rfl; rfl; rfl; first | exact True.intro | omega | (simp only [tn, Int.reduceToNat]; omega)) | (apply aa.ah [0] ( a0); (iterate 6 rfl); decide; rfl; rfl; simp only [ny, nh, Nat.reduceAdd, Nat.reduceSub]) | (apply aa.ah [3,4,0] ( hd); (iterate 6 rfl); decide; rfl; rfl; simp only [ny, nh, Nat.reduceAdd, Nat.reduceSub]) | (apply aa.ah [3,4,0] ( md); (iterate 6 rfl); decide; rfl; rfl; simp only [ny, nh, Nat.reduceAdd, Nat.reduceSub]) | (apply aa.ah [3,4,0] ( be _); (iterate 6 rfl); decide; rfl; rfl; simp only [ny, nh, Nat.reduceAdd, Nat.reduceSub]) | (apply aa.ah [0] ( sk0 _); (iterate 6 rfl); decide; rfl; rfl; simp only [ny, nh, Nat.reduceAdd, Nat.reduceSub]) | (apply aa.aB; rfl) | (apply aa.ak; rfl) | (apply aa.alloc; (iterate 5 rfl); simp only [nm, nz, Nat.reduceAdd]) | (apply aa.box; (iterate 6 rfl); simp only [nm, nz, Nat.reduceAdd]) | (apply aa.store; (iterate 9 rfl); exact Nat.le_of_ble_eq_true rfl; simp only [nm, nz, Nat.reduceAdd]) | (apply aa.build; (iterate 5 rfl); simp only [nm, nz, Nat.reduceAdd, bA, cH, AV.unD]) | (apply aa.cBT; rfl; first | (simp only [bT]; omega)) | (apply aa.kX (.bG [.d (jm ym), I me]); rfl; exact bK.bG ⟨bK.d (kK 0 false), bK.refl _, trivial⟩; rfl; rfl; rfl) | intro _ | (apply aa.aC; rfl; rfl; rfl; rfl))
    all_goals first | exact ⟨rfl, rfl⟩ | omega
 ·rw [if_pos he]
  simp only [decide_eq_false he, Bool.false_and, Nat.add_zero] at hd ⊢
  refine ACalls.enter Tryz.func129 rfl Tryz.ntmps129 (by kernel_rfl) rfl ?_; simp only [au, nm, Nat.reduceAdd]
  repeat' (first | (apply aa.st; rfl) | (apply aa.dF [0, 1, 2, 3, 4, 5, 6] 7; rfl) | (apply aG.fin; kernel_rfl) | (apply aG.go) | (apply aG.pure true; rfl; exact fun _ _ _ h => h; (iterate 6 rfl); kernel_rfl; kernel_rfl; first | exact True.intro | omega) | (apply aG.one; rfl; rfl; kernel_rfl) | (apply aG.two; rfl; rfl; rfl; kernel_rfl) | (exact aa.dR) | (apply aa.ba; (repeat' (first | exact aN.nil | (apply aN.cons; rfl))); rfl) | (apply aa.q true; rfl; rfl; rfl; rfl; first | exact True.intro | omega | (simp only [tn, Int.reduceToNat]; omega)) | (apply aa.ah [0] ( a0); (iterate 6 rfl); decide; rfl; rfl; simp only [ny, nh, Nat.reduceAdd, Nat.reduceSub]) | (apply aa.ah [3,4,0] ( hd); (iterate 6 rfl); decide; rfl; rfl; simp only [ny, nh, Nat.reduceAdd, Nat.reduceSub]) | (apply aa.ah [0] ( sk0 _); (iterate 6 rfl); decide; rfl; rfl; simp only [ny, nh, Nat.reduceAdd, Nat.reduceSub]) | (apply aa.aB; rfl) | (apply aa.ak; rfl) | (apply aa.alloc; (iterate 5 rfl); simp only [nm, nz, Nat.reduceAdd]) | (apply aa.box; (iterate 6 rfl); simp only [nm, nz, Nat.reduceAdd]) | (apply aa.store; (iterate 9 rfl); exact Nat.le_of_ble_eq_true rfl; simp only [nm, nz, Nat.reduceAdd]) | (apply aa.build; (iterate 5 rfl); simp only [nm, nz, Nat.reduceAdd, bA, cH, AV.unD]) | (apply aa.cBT; rfl; first | (simp only [bT]; omega)) | (apply aa.kX (.bG [.d (jm ym), I e]); rfl; exact bK.bG ⟨bK.d (kK 0 false), bK.refl _, trivial⟩; rfl; rfl; rfl) | intro _ | (apply aa.aC; rfl; rfl; rfl; rfl))
  all_goals first | exact ⟨rfl, rfl⟩ | omega
end Ci
end Go.Proofs.YtbfojhfiemcnpaaGreatDoor.Av
