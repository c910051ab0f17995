/- Cells are read: cellin.Take. Cells are read: cellin.Take, walked. -/
import Derived.Test.YtbfojhfiemcnpaaGreatDoorCi4
set_option linter.unusedVariables false
set_option linter.unusedSimpArgs false
set_option maxRecDepth 100000
set_option maxHeartbeats 64000000
namespace Go.Proofs.YtbfojhfiemcnpaaGreatDoor.Av
namespace Ci
open Go Bt Tc Co Bl
attribute [local irreducible] aa ACalls bE aT cQ aM
variable {gl : List (Nat × List D)}
abbrev MV (st : Int) (sk : Bool) : D := .agg [In st, .bool sk, In 0, In 0, In 0, In 0, In 0, In 0, In 0, In 0, In 0, In 0, .bf, .bf, .bf, .bf, .bf, .bf]
abbrev MU (st : Int) (sk : Bool) : Cel := ⟨st, sk, 0, 0, 0, 0, 0, 0, 0, 0, 0, 0, [], [], [], [], [], []⟩
theorem uN {cs ds : List D} (hl : ds.length = cs.length) (hone : ∀ d ∈ ds, d.one = true) (h : ∀ (i : Nat) (c d : D), cs[i]? = some c → ds[i]? = some d → cL c d) : cL (.agg cs) (.agg ds) := fun imm v hv => by
 cases hv with
 | agg vs _ hl0 hone0 h0 =>
  refine .agg vs _ (hl0.trans hl.symm) hone fun i d hd => ?_
  have hi : i < cs.length := by rw [← hl]; exact aF hd
  have hc : cs[i]? = some cs[i] := List.getElem?_eq_getElem hi
  exact h i _ d hc hd imm _ (h0 i _ hc)
theorem mJ (st : Int) (sk : Bool) : cL (MV st sk) (lH (MU st sk)) := uN rfl (by simp [D.one]) (fun i c d hc hd => by
 have hn : cL .bf (evS []) := cL.bf 3
 match i, hc, hd with
 | 0, hc, hd | 1, hc, hd | 2, hc, hd | 3, hc, hd | 4, hc, hd | 5, hc, hd | 6, hc, hd | 7, hc, hd | 8, hc, hd | 9, hc, hd | 10, hc, hd | 11, hc, hd => cases hc; cases hd; exact cL.refl _
 | 12, hc, hd | 13, hc, hd | 14, hc, hd | 15, hc, hd | 16, hc, hd | 17, hc, hd => cases hc; cases hd; exact hn
 | i + 18, hc, hd => simp at hc)
theorem FL (b : Bool) (B : List Int) (h : (mbN b B).2.2.1 = 0) : ((mbN b B).1 = 0 ∨ (mbN b B).1 = 1 ∨ (mbN b B).1 = 3 ∨ (mbN b B).1 = 4 ∨ (mbN b B).1 = 5) ∧ 0 ≤ (mbN b B).2.1 ∧ (mbN b B).2.1 ≤ 3 := by
 have hb := Mv.kX (Mb.jK b) (B.map bJ) []
 rw [Mb.uf] at hb
 unfold mbN Mb.mbX at h ⊢
 generalize cV (Mb.jK b) (B.map bJ) [] = y at *
 obtain ⟨i, e, c⟩ := y
 simp only at hb h ⊢
 by_cases h1 : e = 0
 ·rw [if_pos h1] at h ⊢
  have hb := hb h1
  by_cases h2 : (i + (if b = true then 0 else 12)) / 4 = 2
  ·rw [if_pos h2] at h; cases h
  ·rw [if_neg h2]
   simp only
   cases b
   ·simp only [Bool.false_eq_true, if_false] at hb h2 ⊢; omega
   ·simp only [if_true] at hb h2 ⊢; omega
 ·rw [if_neg h1] at h; exact absurd h h1
structure HdB (B : List Int) (h : HdR) : Prop where
 le : h.used ≤ B.length
 sk : h.skip = true → h.kind = 0
 ki : h.err = 0 → h.skip = false → (h.kind = 0 ∨ h.kind = 1 ∨ h.kind = 3 ∨ h.kind = 4) ∧ 0 ≤ h.chr ∧ h.chr ≤ 3
theorem F7 (b : Bool) (B : List Int) (n : Int) (k : Nat) (y : HdR) (hk : k ≤ B.length) (hy : HdB (B.drop (k + (mbN b (B.drop k)).2.2.2)) y) : HdB B (hdK n k (mbN b (B.drop k)) y) := by
 have hl := Al b (B.drop k)
 have hkd := FL b (B.drop k)
 rw [List.length_drop] at hl
 obtain ⟨y1, y2, y3⟩ := hy
 rw [List.length_drop] at y1
 generalize mbN b (B.drop k) = x at *
 unfold hdK
 by_cases h0 : x.2.2.1 ≠ 0
 ·rw [if_pos h0]; exact ⟨hk, fun _ => rfl, fun h => absurd h h0⟩
 ·rw [if_neg h0]
  obtain ⟨k1, k2⟩ := hkd (by simpa using h0)
  by_cases h5 : x.1 ≠ 5
  ·rw [if_pos h5]
   exact ⟨by simp only; omega, fun h => (by cases h), fun _ _ => ⟨by simp only; omega, k2⟩⟩
  ·rw [if_neg h5]
   by_cases h64 : n = 64
   ·rw [if_pos h64]; exact ⟨by simp only; omega, fun _ => rfl, fun h => (by cases h)⟩
   ·rw [if_neg h64]; exact ⟨by simp only; omega, y2, y3⟩
theorem um (b : Bool) : ∀ (f : Nat) (n : Int) (B : List Int), HdB B (hdX b f n B)
 | 0, n, B => ⟨Nat.zero_le _, fun _ => rfl, fun h => (by cases h)⟩
 | f + 1, n, B => by
  rw [hdX]
  cases b with
  | false =>
   simp only [Bool.false_eq_true, if_false]
   have := F7 false B n 0 _ (Nat.zero_le _) (um false f (n + 1) _)
   simp only [List.drop_zero, Nat.zero_add] at this
   exact this
  | true =>
   simp only [if_true]
   by_cases h0 : B = []
   ·rw [if_pos h0]; exact ⟨Nat.zero_le _, fun _ => rfl, fun h => (by cases h)⟩
   ·rw [if_neg h0]
    have hl : 1 ≤ B.length := by
     cases B with
     | nil => exact absurd rfl h0
     | cons _ _ => simp
    by_cases h1 : B.getD 0 0 = 1
    ·rw [if_pos h1]; exact ⟨hl, fun _ => rfl, fun _ h => (by cases h)⟩
    ·rw [if_neg h1]
     exact F7 true B n 1 _ hl (um true f (n + 1) _)
theorem Jg (b : Bool) (B : List Int) : 0 ≤ (cbN b B).1 ∧ (cbN b B).1 ≤ 15 := by
 have hb := Mv.kX Cb.cbR (B.map bJ) []
 have hl : Cb.cbR.length = 16 := rfl
 unfold cbN Cb.cbX
 simp only
 split
 ·rename_i h
  exact Cb.zC b _ (by have := hb h; omega)
 ·omega
theorem Iq (k px py : Int) (B : List Int) : 0 ≤ (mdX k px py B).pat ∧ (mdX k px py B).pat ≤ 15 := by
 have := Jg (aK k) B
 have hm : ∀ st q, (mdM k px py B (cbN (aK k) B).1 st q).pat = (cbN (aK k) B).1 := fun st q => by
  unfold mdM
  split
  ·rfl
  ·split <;> rfl
 unfold mdX
 split
 ·exact this
 ·split
  ·split
   ·exact this
   ·rw [hm]; exact this
  ·rw [hm]; exact this
theorem FC (k px py : Int) (s : List UInt8) (p : Nat) (pat st : Int) (q : Nat) (hq : p + q ≤ 8 * s.length) : p + (mdM k px py (aC s p) pat st q).used ≤ 8 * s.length := by
 have h1 := wT (gG s (p + q))
 have h2 := wT (gG s (p + (q + (mvN (aC s (p + q))).2.2)))
 rw [dK] at h1 h2
 unfold mdM
 simp only [dm]
 split
 ·exact hq
 ·split
  ·exact hq
  ·simp only; omega
theorem FA (k px py : Int) (s : List UInt8) (p : Nat) (hp : p ≤ 8 * s.length) : p + (mdX k px py (aC s p)).used ≤ 8 * s.length := by
 have h1 := AR (aK k) (aC s p)
 have h2 := Ew (aC s (p + (cbN (aK k) (aC s p)).2.2))
 rw [dK] at h1 h2
 unfold mdX
 simp only [dm]
 split
 ·exact hp
 ·split
  ·split
   ·simp only; omega
   ·exact FC k px py s p _ _ _ (by omega)
  ·exact FC k px py s p _ _ _ (by omega)
theorem vT (b : Bool) (s : List UInt8) (p q : Nat) : ∀ (cs : List Bool) (r : Nat), bdX b cs (aC s p) (q + r) = ((bdX b cs (aC s (p + q)) r).1, (bdX b cs (aC s (p + q)) r).2.1, q + (bdX b cs (aC s (p + q)) r).2.2)
 | [], r => rfl
 | c :: cs, r => by
  rw [bdX, bdX, dm, dm, ← Nat.add_assoc p q r]
  by_cases h : (blX b c (aC s (p + q + r))).2.2.1 ≠ 0
  ·rw [if_pos h, if_pos h]
  ·rw [if_neg h, if_neg h, Nat.add_assoc q r, vT b s p q cs]
theorem Cw (b : Bool) (s : List UInt8) (p : Nat) : ∀ (cs : List Bool) (r : Nat), (bdX b cs (aC s p) r).2.1 = 0 → (bdX b cs (aC s p) r).1.length = cs.length
 | [], r, _ => rfl
 | c :: cs, r, h => by
  rw [bdX] at h ⊢
  by_cases h0 : (blX b c ((aC s p).drop r)).2.2.1 ≠ 0
  ·rw [if_pos h0] at h; exact absurd h h0
  ·rw [if_neg h0] at h ⊢
   simp only [List.length_cons]
   rw [Cw b s p cs _ h]
end Ci
namespace Ci
open Go Bt Tc Co Bl
attribute [local irreducible] aa ACalls bE aT cQ aM
variable {gl : List (Nat × List D)}
theorem Ko (a c : Int) (ha : 0 ≤ a ∧ a ≤ 15) (hc : 0 ≤ c ∧ c ≤ 3) : (((a * 2 ^ 2).toNat ||| c.toNat : Nat) : Int) = 4 * a + c := by
 obtain ⟨n, rfl⟩ := Int.eq_ofNat_of_zero_le ha.1
 obtain ⟨m, rfl⟩ := Int.eq_ofNat_of_zero_le hc.1
 have e : ((n : Int) * 2 ^ 2).toNat = 2 ^ 2 * n := by omega
 rw [e, Int.toNat_natCast]
 have := Nat.two_pow_add_eq_or_of_lt (i := 2) (b := m) (by omega) n
 rw [← this]; omega
theorem GX (e v q : Int) (cs : List AV) (s : List UInt8) (he : e ≠ 0) (hb : dB 3 ([Rr 2 e, .cells cs, Rd s q].take 3) = true) : ACalls (cxg gl) 147 [.ptr 0 0, .ptr 1 0, I v] [Rr 2 e, .cells cs, Rd s q] (fun r H => r = .bW [] ∧ H = [Rr 2 e, .cells cs, Rd s q]) := by
 refine ACalls.enter Tryz.func147 rfl Tryz.ntmps147 (by kernel_rfl) rfl ?_; simp only [aB, nm, Nat.reduceAdd]
 repeat' (first | refine aa.aD ?_ | refine aa.aY true ?_ | refine aa.ah ?_ | refine aa.aU ?_ | (((apply aa.EU; rfl; rfl; rfl; exact hb))) | apply aa.dP | intro _ | refine aa.au ?_)
 all_goals first | exact ⟨rfl, rfl⟩
attribute [local irreducible] aC Tc.bG hdX mdX bdX
theorem GJ (b : Bool) (px py : Int) (s : List UInt8) (p : Nat) (hpx : I64 px) (hpy : I64 py) (hs : s.length ≤ 1000000) (hp : p ≤ 8 * s.length) :
  ACalls (cxg gB) 129 [.ptr 0 0, B b, .d (.agg [In px, In py])] [Rd s p]
  (fun r H => r = .bW [.d (lH (iN b px py (aC s p)).1), I (iN b px py (aC s p)).2.1] ∧ H = [Rd s ((p + (iN b px py (aC s p)).2.2 : Nat) : Int)]) := by
 have e00 : bG [] = [] := by unfold Tc.bG; rfl
 have a0 := qG (gl := gB) s p
 have hd := I7 b s p hs hp
 have hB := um b 65 0 (aC s p)
 have hBl := dK s p
 unfold iN DN
 generalize hdX b 65 0 (aC s p) = h at *
 obtain ⟨h1, h2, h3⟩ := hB
 rw [hBl] at h1
 obtain ⟨st, sk, k, ch, e, u⟩ := h
 simp only at hd h1 h2 h3 ⊢
 have sk0 := fun c : Int => fM (gl := gB) s c p (by omega) ⟨by omega, by omega⟩
 by_cases he : e = 0
 ·subst he
  simp only [ne_eq, not_true_eq_false, if_false]
  cases sk with
  | true =>
   obtain rfl := h2 rfl
   simp only [if_true]
   refine ACalls.enter Tryz.func129 rfl Tryz.ntmps129 (by kernel_rfl) rfl ?_; simp only [aB, nm, Nat.reduceAdd]
   repeat' (first | refine aa.aD ?_ | refine aa.aY true ?_ | (refine aa.ae [0] ( a0) ?_; simp only [ny, nh, Nat.reduceAdd, Nat.reduceSub]) | (refine aa.ae [3,4,0] ( hd) ?_; simp only [ny, nh, Nat.reduceAdd, Nat.reduceSub]) | refine aa.av ?_ | refine aa.ai ?_ | (refine aa.aG ?_; simp only [nm, nz, Nat.reduceAdd]) | (refine aa.aP ?_; simp only [nm, nz, Nat.reduceAdd]) | (refine aa.az ?_; simp only [nm, nz, Nat.reduceAdd]) | (refine aa.bz ?_; simp only [nm, nz, Nat.reduceAdd, bS, dF, AV.unD]) | refine aa.aU ?_ | (apply aa.mY (.bW [.d (lH (MU st true)), I 0]); rfl; exact cn.bW ⟨cn.d (mJ st true), cn.refl _, trivial⟩; rfl; rfl; rfl) | intro _ | refine aa.au ?_)
   all_goals first | exact ⟨rfl, rfl⟩ | omega
  | false =>
   obtain ⟨hk, hch⟩ := h3 rfl rfl
   simp only [Bool.false_eq_true, if_false]
   have md := La st k px py s (p + u) hk hpx hpy hs (by omega)
   have mp := Iq k px py (aC s (p + u))
   have ml := FA k px py s (p + u) (by omega)
   rw [dm]
   generalize mdX k px py (aC s (p + u)) = M at *
   obtain ⟨pat, sp, mx, my, me, mu⟩ := M
   simp only at md mp ml ⊢
   have hor := Ko pat ch mp hch
   by_cases hm : me = 0
   ·subst hm
    simp only [not_true_eq_false, if_false]
    have bd := Jc st k sp mx my (4 * pat + ch) s (p + u + mu) hs (by omega) (by omega)
    have bs := vT (aK k) s (p + u) mu (cds (4 * pat + ch)) 0
    have bn := Cw (aK k) s (p + u + mu) (cds (4 * pat + ch)) 0
    rw [Nat.add_zero] at bs
    rw [bs]
    generalize bdX (aK k) (cds (4 * pat + ch)) (aC s (p + u + mu)) 0 = Y at *
    obtain ⟨L, be, bu⟩ := Y
    simp only at bd bn ⊢
    rw [← hor] at bd
    by_cases hbe : be = 0
    ·subst hbe
     simp only [if_true, not_true_eq_false, if_false] at bd ⊢
     have hL : L.length = 6 := bn rfl
     match L, hL with
     | [b0, b1, b2, b3, b4, b5], _ =>
      simp only [← Nat.add_assoc]
      refine ACalls.enter Tryz.func129 rfl Tryz.ntmps129 (by kernel_rfl) rfl ?_; simp only [aB, nm, Nat.reduceAdd]
      repeat' (first | refine aa.aD ?_ | refine aa.aY true ?_ | (refine aa.ae [0] ( a0) ?_; simp only [ny, nh, Nat.reduceAdd, Nat.reduceSub]) | (refine aa.ae [3,4,0] ( hd) ?_; simp only [ny, nh, Nat.reduceAdd, Nat.reduceSub]) | (refine aa.ae [3,4,0] ( md) ?_; simp only [ny, nh, Nat.reduceAdd, Nat.reduceSub]) | (refine aa.ae [3,4,0] ( bd) ?_; simp only [ny, nh, Nat.reduceAdd, Nat.reduceSub]) | refine aa.av ?_ | refine aa.ai ?_ | (refine aa.aG ?_; simp only [nm, nz, Nat.reduceAdd]) | (refine aa.aP ?_; simp only [nm, nz, Nat.reduceAdd]) | (refine aa.az ?_; simp only [nm, nz, Nat.reduceAdd]) | (refine aa.bz ?_; simp only [nm, nz, Nat.reduceAdd, bS, dF, AV.unD]) | refine aa.aU ?_ | intro _ | refine aa.au ?_)
      all_goals first | exact ⟨rfl, rfl⟩ | omega
    ·simp only [if_neg hbe, if_pos hbe, Nat.add_zero] at bd ⊢
     generalize AO st k sp mx my (L ++ [(0, [])]) = CS at *
     refine ACalls.enter Tryz.func129 rfl Tryz.ntmps129 (by kernel_rfl) rfl ?_; simp only [aB, nm, Nat.reduceAdd]
     repeat' (first | refine aa.aD ?_ | (apply aa.fE [0, 1, 2, 3, 4, 5, 6] 7; rfl) | refine aM.cZ ?_ | (apply aM.go) | refine aM.jg true ?_ | refine aM.fu ?_ | (apply aM.two; rfl; rfl; rfl; kernel_rfl) | (exact aa.fS) | (apply aa.bK; (repeat' (first | exact aZ.nil | (apply aZ.cons; rfl))); rfl) | refine aa.aY true ?_ | (refine aa.ae [0] ( a0) ?_; simp only [ny, nh, Nat.reduceAdd, Nat.reduceSub]) | (refine aa.ae [3,4,0] ( hd) ?_; simp only [ny, nh, Nat.reduceAdd, Nat.reduceSub]) | (refine aa.ae [3,4,0] ( md) ?_; simp only [ny, nh, Nat.reduceAdd, Nat.reduceSub]) | (refine aa.ae [3,4,0] ( bd) ?_; simp only [ny, nh, Nat.reduceAdd, Nat.reduceSub]) | (refine aa.ae [0] ( sk0 _) ?_; simp only [ny, nh, Nat.reduceAdd, Nat.reduceSub]) | refine aa.av ?_ | refine aa.ai ?_ | (refine aa.aG ?_; simp only [nm, nz, Nat.reduceAdd]) | (refine aa.aP ?_; simp only [nm, nz, Nat.reduceAdd]) | (refine aa.az ?_; simp only [nm, nz, Nat.reduceAdd]) | (refine aa.bz ?_; simp only [nm, nz, Nat.reduceAdd, bS, dF, AV.unD]) | refine aa.aU ?_ | (apply aa.mY (.bW [.d (lH AP), I be]); rfl; exact cn.bW ⟨cn.d (mJ 0 false), cn.refl _, trivial⟩; rfl; rfl; rfl) | intro _ | refine aa.au ?_)
     all_goals first | exact ⟨rfl, rfl⟩ | omega
   ·rw [if_pos hm]
    simp only [Nat.add_zero]
    have be := fun v => GX (gl := gB) me v ((p + u + mu : Nat) : Int) (Le st k sp mx my) s hm rfl
    refine ACalls.enter Tryz.func129 rfl Tryz.ntmps129 (by kernel_rfl) rfl ?_; simp only [aB, nm, Nat.reduceAdd]
    repeat' (first | refine aa.aD ?_ | (apply aa.fE [0, 1, 2, 3, 4, 5, 6] 7; rfl) | refine aM.cZ ?_ | (apply aM.go) | refine aM.jg true ?_ | refine aM.fu ?_ | (apply aM.two; rfl; rfl; rfl; kernel_rfl) | (exact aa.fS) | (apply aa.bK; (repeat' (first | exact aZ.nil | (apply aZ.cons; rfl))); rfl) | refine aa.aY true ?_ | (refine aa.ae [0] ( a0) ?_; simp only [ny, nh, Nat.reduceAdd, Nat.reduceSub]) | (refine aa.ae [3,4,0] ( hd) ?_; simp only [ny, nh, Nat.reduceAdd, Nat.reduceSub]) | (refine aa.ae [3,4,0] ( md) ?_; simp only [ny, nh, Nat.reduceAdd, Nat.reduceSub]) | (refine aa.ae [3,4,0] ( be _) ?_; simp only [ny, nh, Nat.reduceAdd, Nat.reduceSub]) | (refine aa.ae [0] ( sk0 _) ?_; simp only [ny, nh, Nat.reduceAdd, Nat.reduceSub]) | refine aa.av ?_ | refine aa.ai ?_ | (refine aa.aG ?_; simp only [nm, nz, Nat.reduceAdd]) | (refine aa.aP ?_; simp only [nm, nz, Nat.reduceAdd]) | (refine aa.az ?_; simp only [nm, nz, Nat.reduceAdd]) | (refine aa.bz ?_; simp only [nm, nz, Nat.reduceAdd, bS, dF, AV.unD]) | refine aa.aU ?_ | (apply aa.mY (.bW [.d (lH AP), I me]); rfl; exact cn.bW ⟨cn.d (mJ 0 false), cn.refl _, trivial⟩; rfl; rfl; rfl) | intro _ | refine aa.au ?_)
    all_goals first | exact ⟨rfl, rfl⟩ | omega
 ·rw [if_pos he]
  simp only [decide_eq_false he, Bool.false_and, Nat.add_zero] at hd ⊢
  refine ACalls.enter Tryz.func129 rfl Tryz.ntmps129 (by kernel_rfl) rfl ?_; simp only [aB, nm, Nat.reduceAdd]
  repeat' (first | refine aa.aD ?_ | (apply aa.fE [0, 1, 2, 3, 4, 5, 6] 7; rfl) | refine aM.cZ ?_ | (apply aM.go) | refine aM.jg true ?_ | refine aM.fu ?_ | (apply aM.two; rfl; rfl; rfl; kernel_rfl) | (exact aa.fS) | (apply aa.bK; (repeat' (first | exact aZ.nil | (apply aZ.cons; rfl))); rfl) | refine aa.aY true ?_ | (refine aa.ae [0] ( a0) ?_; simp only [ny, nh, Nat.reduceAdd, Nat.reduceSub]) | (refine aa.ae [3,4,0] ( hd) ?_; simp only [ny, nh, Nat.reduceAdd, Nat.reduceSub]) | (refine aa.ae [0] ( sk0 _) ?_; simp only [ny, nh, Nat.reduceAdd, Nat.reduceSub]) | refine aa.av ?_ | refine aa.ai ?_ | (refine aa.aG ?_; simp only [nm, nz, Nat.reduceAdd]) | (refine aa.aP ?_; simp only [nm, nz, Nat.reduceAdd]) | (refine aa.az ?_; simp only [nm, nz, Nat.reduceAdd]) | (refine aa.bz ?_; simp only [nm, nz, Nat.reduceAdd, bS, dF, AV.unD]) | refine aa.aU ?_ | (apply aa.mY (.bW [.d (lH AP), I e]); rfl; exact cn.bW ⟨cn.d (mJ 0 false), cn.refl _, trivial⟩; rfl; rfl; rfl) | intro _ | refine aa.au ?_)
  all_goals first | exact ⟨rfl, rfl⟩ | omega
end Ci
end Go.Proofs.YtbfojhfiemcnpaaGreatDoor.Av
