/- Events are read: tcoef.read and tcoef.Take. Events are read: tcoef.Take; blocks are read: blocks.first. Blocks are read: blocks.events. Blocks are read: blocks.Take. Events are read: the document's answer. Events are read: the document's Take. -/
import Derived.Test.YtbfojhfiemcnpaaGreatDoorPq1
import Derived.Test.YtbfojhfiemcnpaaGreatDoorPn4
import Derived.Test.YtbfojhfiemcnpaaGreatDoorPl
set_option linter.unusedVariables false
set_option linter.unusedSimpArgs false
set_option maxRecDepth 100000
set_option maxHeartbeats 64000000
namespace Go.Proofs.YtbfojhfiemcnpaaGreatDoor.Av
namespace Tc
open Go Bt
attribute [local irreducible] aa ACalls
variable {gl : List (Nat × List D)}
theorem qK (s : List UInt8) (p : Nat) (hs : s.length < 1000000000000000) (h : p < 8 * s.length) : ACalls (cxg gl) 99 [.ptr 0 0, I 1] [Rd s p] (fun r H => r = .bG [I (dG s p), I 0] ∧ H = [Rd s ((p + 1 : Nat) : Int)]) := by
 have := lJ (gl := gl) s p (by omega) hs (by omega)
 rwa [show pk1 s p = (dG s p, 0) by unfold pk1; rw [if_neg (by omega)], show tk1 s p = ((p + 1 : Nat) : Int) by unfold tk1; rw [if_neg (by omega)]; omega] at this
theorem qJ (s : List UInt8) (p : Nat) (hs : s.length < 1000000000000000) (h : p = 8 * s.length) : ACalls (cxg gl) 99 [.ptr 0 0, I 1] [Rd s p] (fun r H => r = .bG [I 0, I 2] ∧ H = [Rd s p]) := by
 have := lJ (gl := gl) s p (by omega) hs (by omega)
 rwa [show pk1 s p = (0, 2) by unfold pk1; rw [if_pos (by omega)], show tk1 s p = p by unfold tk1; rw [if_pos (by omega)]] at this
def evX (B : List Int) : Ev × Int × Nat :=
 if (bR cQ (B.map bi) []).2.1 ≠ 0 then (ev0, (bR cQ (B.map bi) []).2.1, 0) else
 if (bR cQ (B.map bi) []).1 = 0 then kQ (nB ((B.drop 7).take 15)) (B.length - 7) else
 if B.length ≤ (bR cQ (B.map bi) []).2.2 then (ev0, 2, 0) else
 (⟨(je (bR cQ (B.map bi) []).1.toNat).1, (je (bR cQ (B.map bi) []).1.toNat).2.1, ((je (bR cQ (B.map bi) []).1.toNat).2.2 : Int) * (1 - 2 * B.getD (bR cQ (B.map bi) []).2.2 0)⟩, 0, (bR cQ (B.map bi) []).2.2 + 1)
def pO (B : List Int) : Nat :=
 if (jL B 0 1).2.1 ≠ 0 then (jL B 0 1).2.2 else
 if (jL B 0 1).1 = -1 then 7 + pR (nB ((B.drop 7).take 15)) (B.length - 7) else
 if B.length ≤ (jL B 0 1).2.2 then (jL B 0 1).2.2 else (jL B 0 1).2.2 + 1
theorem nL {B : List Int} (hB : ∀ b ∈ B, b = 0 ∨ b = 1) {a e : Int} {c : Nat} (h : jL B 0 1 = (a, e, c)) (he : e ≠ 0) : evX B = (ev0, e, 0) ∧ pO B = c := by
 obtain ⟨h1, h2⟩ := iq 13 0 1 [] gu B hB
 rw [h] at h1
 simp only at h1
 unfold evX pO
 rw [← h1, h, if_pos he, if_pos he]
 exact ⟨rfl, rfl⟩
theorem qj {B : List Int} (hB : ∀ b ∈ B, b = 0 ∨ b = 1) {c : Nat} (h : jL B 0 1 = (-1, 0, c)) : evX B = kQ (nB ((B.drop 7).take 15)) (B.length - 7) ∧ pO B = 7 + pR (nB ((B.drop 7).take 15)) (B.length - 7) := by
 obtain ⟨h1, h2⟩ := iq 13 0 1 [] gu B hB
 rw [h] at h1 h2
 simp only at h1 h2
 obtain ⟨h3, i, h4, h5⟩ := h2 h1.symm
 have hi : i = 0 := by
  unfold okE at h5
  split at h5
  ·assumption
  ·simp at h5
 subst hi
 constructor
 ·unfold evX
  rw [h4, ← h1, if_neg (by simp), if_pos (show ((0 : Nat) : Int) = 0 from rfl)]
 ·unfold pO
  rw [h, if_neg (by simp), if_pos rfl]
theorem nM {B : List Int} (hB : ∀ b ∈ B, b = 0 ∨ b = 1) {a : Int} {c : Nat} (h : jL B 0 1 = (a, 0, c)) (ha : 0 ≤ a) : ∃ (la : Bool) (ru am : Nat), 1 ≤ am ∧ (am : Int) ≤ cW la ru ∧ ru ≤ 63 ∧ bO la ru am = a ∧
  evX B = (if B.length ≤ c then (ev0, 2, 0) else (⟨la, ru, (am : Int) * (1 - 2 * B.getD c 0)⟩, 0, c + 1)) ∧ pO B = if B.length ≤ c then c else c + 1 := by
 obtain ⟨h1, h2⟩ := iq 13 0 1 [] gu B hB
 rw [h] at h1 h2
 simp only at h1 h2
 obtain ⟨h3, i, h4, h5⟩ := h2 h1.symm
 have hi : i ≠ 0 := by
  rintro rfl
  unfold okE at h5
  rw [if_pos rfl, decide_eq_true_eq] at h5
  omega
 unfold okE at h5
 rw [if_neg hi] at h5
 simp only [Bool.and_eq_true, decide_eq_true_eq] at h5
 obtain ⟨⟨⟨⟨q1, q2⟩, q3⟩, q4⟩, q5⟩ := h5
 refine ⟨_, _, _, q3, q4, q5, q2, ?_, ?_⟩
 ·unfold evX
  rw [h4, ← h1, if_neg (by simp), if_neg (by omega), ← h3, Int.toNat_natCast]
 ·unfold pO
  rw [h, if_neg (by simp), if_neg (by simp only; omega)]
theorem AO (s : List UInt8) (p k : Nat) (h : p + k < 8 * s.length) : (ai s p).getD k 0 = dG s ((p + k : Nat) : Int) := by
 unfold ai
 rw [List.getD_eq_getElem?_getD, List.getElem?_map, List.getElem?_range (by omega)]; rfl
theorem bW (s : List UInt8) (p k : Nat) : (ai s p).drop k = ai s (p + k) := by
 apply List.ext_getElem?
 intro i
 unfold ai
 rw [List.getElem?_drop, List.getElem?_map, List.getElem?_map]
 by_cases h : k + i < 8 * s.length - p
 ·rw [List.getElem?_range h, List.getElem?_range (by omega)]
  simp [Nat.add_assoc]
 ·rw [List.getElem?_eq_none (by simp; omega), List.getElem?_eq_none (by simp; omega)]
  rfl
attribute [local irreducible] bO cW pF nB evX pO jl kQ pR cQ je dG ai
theorem DT (s : List UInt8) (p : Nat) (hs : s.length ≤ 1000000) (hp : p ≤ 8 * s.length) : ACalls (cxg gtc) 175 [.ptr 0 0] [Rd s p]
  (fun r H => r = .bG [.d (evD (evX (ai s p)).1), I (evX (ai s p)).2.1] ∧ H = [Rd s ((p + pO (ai s p) : Nat) : Int)]) := by
 have hB := eD s p
 have hBl := cL s p
 refine ACalls.enter Tryz.func175 rfl Tryz.ntmps175 (by kernel_rfl) rfl ?_; simp only [au, nm, Nat.reduceAdd]
 repeat (first | (apply aa.st; rfl) | (apply aa.q true; rfl; rfl; rfl; rfl; first | exact True.intro | omega | (simp only [tn, Int.reduceToNat]; omega)) | (apply aa.af; rfl; first | omega | rfl) | (apply aa.ae; rfl; omega) | (apply aa.aB; rfl) | (apply aa.ak; rfl) | (apply aa.alloc; (iterate 5 rfl); simp only [nm, nz, Nat.reduceAdd]) | (apply aa.store; (iterate 9 rfl); exact Nat.le_of_ble_eq_true rfl; simp only [nm, nz, Nat.reduceAdd]) | (apply aa.build; (iterate 5 rfl); simp only [nm, nz, Nat.reduceAdd, bA, cH, AV.unD]) | (apply aa.aj; rfl; rfl) | (apply aa.gT; rfl; rfl; rfl; first | omega | rfl) | (apply aa.cBF; rfl; first | (simp only [bF]; omega) | exact ndF rfl) | (apply aa.az; rfl; rfl; rfl))
 refine aa.weak (env' := [(5, I ((0 + 1 : Nat) : Int)), (4, I 0), (2, .ptr 1 0), (0, .ptr 0 0)]) ⟨rfl, rfl, rfl, rfl, trivial⟩ ?_
 refine aa.loop (fun m env H => ∃ (k : Nat) (v : Int) (w : List UInt8), m = 8 * s.length - (p + k) ∧ p + k ≤ 8 * s.length ∧ jl (13 - k) v (k + 1) w = true ∧ jL (ai s (p + k)) v (k + 1) = jL (ai s p) 0 1 ∧
  env = [(5, I ((k + 1 : Nat) : Int)), (4, I v), (2, .ptr 1 0), (0, .ptr 0 0)] ∧ ∃ cs, cs.length = 3 ∧ H = [Rd s ((p + k : Nat) : Int), .cells cs]) (8 * s.length - p)
  ⟨0, 0, [], by simp, by omega, gu, rfl, rfl, _, rfl, rfl⟩ ?_
 rintro m env H ⟨k, v, w, rfl, hk, hag, hm, rfl, cs, hcs, rfl⟩
 obtain ⟨f, hf⟩ : ∃ f, 13 - k = f + 1 := by
  cases h : 13 - k with
  | zero => rw [h] at hag; unfold jl at hag; cases hag
  | succ f => exact ⟨f, rfl⟩
 rw [hf] at hag
 unfold jl at hag
 simp only [Bool.and_eq_true, decide_eq_true_eq] at hag
 obtain ⟨⟨⟨hn12, hv0⟩, hv1⟩, hag⟩ := hag
 match cs, hcs with
 | [c0, c1, c2], _ =>
 rcases Nat.lt_or_ge (p + k) (8 * s.length) with hlt | hge
 ·rw [gm s _ hlt] at hm
  have t1 := qK (gl := gtc) s (p + k) (by omega) hlt
  have hb := kL s ((p + k : Nat) : Int)
  have hb01 : dG s ((p + k : Nat) : Int) = 0 ∨ dG s ((p + k : Nat) : Int) = 1 := by omega
  rw [jL] at hm
  generalize dG s ((p + k : Nat) : Int) = b at *
  have hagb := List.all_eq_true.1 hag b (by rcases hb01 with h | h <;> simp [h])
  have eo := yY v b hv0 hb01
  unfold zA at hm hagb
  by_cases hesc : k + 1 = 7 ∧ 2 * v + b = 3
  ·rw [if_pos hesc] at hm
   simp only at hm
   obtain ⟨x1, x2⟩ := qj hB hm.symm
   have hk6 : k = 6 := by omega
   have es := AQ (gl := gtc) s (p + 7) hs (by omega)
   rw [← bW, show 8 * s.length - (p + 7) = (ai s p).length - 7 by omega] at es
   rw [x1, x2]
   have e6 : p + k + 1 = p + 7 := by omega
   have e7 : p + 7 + pR (nB (((ai s p).drop 7).take 15)) ((ai s p).length - 7) = p + (7 + pR (nB (((ai s p).drop 7).take 15)) ((ai s p).length - 7)) := by omega
   rw [e6] at t1
   rw [e7] at es
   have eo3 := eo
   rw [hesc.2] at eo3
   repeat' (first | (apply aa.st; rfl) | (apply aa.q true; rfl; rfl; rfl; rfl; first | exact True.intro | omega | (simp only [tn, Int.reduceToNat]; omega) | (simp only []; omega) | (omega)) | (apply aa.ah [0] ( t1); (iterate 6 rfl); decide; rfl; rfl; simp only [ny, nh, Nat.reduceAdd, Nat.reduceSub]) | (apply aa.ah [0] ( es); (iterate 6 rfl); decide; rfl; rfl; simp only [ny, nh, Nat.reduceAdd, Nat.reduceSub]) | (apply aa.af; rfl; first | omega | rfl) | (apply aa.ae; rfl; omega) | (apply aa.aB; rfl) | (apply aa.ak; rfl) | (apply aa.alloc; (iterate 5 rfl); simp only [nm, nz, Nat.reduceAdd]) | (apply aa.store; (iterate 9 rfl); exact Nat.le_of_ble_eq_true rfl; simp only [nm, nz, Nat.reduceAdd]) | (apply aa.build; (iterate 5 rfl); simp only [nm, nz, Nat.reduceAdd, bA, cH, AV.unD]) | (apply aa.aj; rfl; rfl) | (apply aa.gT; rfl; rfl; rfl; first | omega | rfl) | (apply aa.cBF; rfl; first | (simp only [bF]; omega) | exact ndF rfl) | (apply aa.az; rfl; rfl; rfl) | intro _ | (apply aa.gD; rfl; rfl; rfl) | (apply aa.aC; rfl; rfl; rfl; rfl) | (apply aa.bf; rfl; rfl; rfl; rfl) | (apply aa.aP; rfl; rfl))
   all_goals first | exact ⟨rfl, rfl⟩ | omega
  ·rw [if_neg hesc] at hm hagb
   have fc := Ic (2 * v + b) ((k + 1 : Nat) : Int) (by omega) (by omega)
   rw [← eo] at fc
   have hvb : 2 * v + b ≤ 10001 ∧ 0 ≤ 2 * v + b := by omega
   have esym := eo
   generalize hfe : pF (2 * v + b) ((k + 1 : Nat) : Int) = fr at *
   obtain ⟨a, may⟩ := fr
   rw [eo, hfe] at fc
   rw [← eo] at fc
   simp only at hm hagb fc
   by_cases ha : 0 ≤ a
   ·rw [if_pos ha] at hm hagb
    simp only at hm hagb
    obtain ⟨la, ru, am, q1, q2, q3, q4, x1, x2⟩ := nM hB hm.symm ha
    have ec := FY (gl := gtc) la ru am q3 ⟨by omega, q2⟩
    rw [q4] at ec
    have hmb := fK la ru
    rw [hBl] at x1 x2
    rcases Nat.lt_or_ge (p + k + 1) (8 * s.length) with hl2 | hg2
    ·have t2 := qK (gl := gtc) s (p + k + 1) (by omega) hl2
     rw [if_neg (by omega)] at x1 x2
     rw [AO s p (k + 1) (by omega), show p + (k + 1) = p + k + 1 by omega] at x1
     have hb2 := kL s ((p + k + 1 : Nat) : Int)
     rw [x1, x2]
     generalize dG s ((p + k + 1 : Nat) : Int) = b2 at *
     have hmul : -12 ≤ (am : Int) * (1 - 2 * b2) ∧ (am : Int) * (1 - 2 * b2) ≤ 12 := by
      rcases (show b2 = 0 ∨ b2 = 1 by omega) with h | h
      ·subst h; omega
      ·subst h; omega
     repeat' (first | (apply aa.st; rfl) | (apply aa.q true; rfl; rfl; rfl; rfl; first | exact True.intro | omega | (simp only [tn, Int.reduceToNat]; omega) | (omega)) | (apply aa.ah [0] ( t1); (iterate 6 rfl); decide; rfl; rfl; simp only [ny, nh, Nat.reduceAdd, Nat.reduceSub]) | (apply aa.ah [0] ( t2); (iterate 6 rfl); decide; rfl; rfl; simp only [ny, nh, Nat.reduceAdd, Nat.reduceSub]) | (apply aa.aA (fc); (iterate 6 rfl)) | (apply aa.aA (ec); (iterate 6 rfl)) | (apply aa.af; rfl; first | omega | rfl) | (apply aa.ae; rfl; omega) | (apply aa.aB; rfl) | (apply aa.ak; rfl) | (apply aa.alloc; (iterate 5 rfl); simp only [nm, nz, Nat.reduceAdd]) | (apply aa.store; (iterate 9 rfl); exact Nat.le_of_ble_eq_true rfl; simp only [nm, nz, Nat.reduceAdd]) | (apply aa.build; (iterate 5 rfl); simp only [nm, nz, Nat.reduceAdd, bA, cH, AV.unD]) | (apply aa.aj; rfl; rfl) | (apply aa.gT; rfl; rfl; rfl; first | omega | rfl) | (apply aa.cBF; rfl; first | (simp only [bF]; omega) | exact ndF rfl) | (apply aa.az; rfl; rfl; rfl) | intro _ | (apply aa.gD; rfl; rfl; rfl) | (apply aa.aC; rfl; rfl; rfl; rfl) | (apply aa.bf; rfl; rfl; rfl; rfl) | (apply aa.aP; rfl; rfl))
     all_goals first | exact ⟨rfl, rfl⟩ | omega
    ·have t2 := qJ (gl := gtc) s (p + k + 1) (by omega) (by omega)
     rw [if_pos (by omega)] at x1 x2
     rw [x1, x2]
     repeat' (first | (apply aa.st; rfl) | (apply aa.q true; rfl; rfl; rfl; rfl; first | exact True.intro | omega | (simp only [tn, Int.reduceToNat]; omega) | (omega)) | (apply aa.ah [0] ( t1); (iterate 6 rfl); decide; rfl; rfl; simp only [ny, nh, Nat.reduceAdd, Nat.reduceSub]) | (apply aa.ah [0] ( t2); (iterate 6 rfl); decide; rfl; rfl; simp only [ny, nh, Nat.reduceAdd, Nat.reduceSub]) | (apply aa.aA (fc); (iterate 6 rfl)) | (apply aa.af; rfl; first | omega | rfl) | (apply aa.ae; rfl; omega) | (apply aa.aB; rfl) | (apply aa.ak; rfl) | (apply aa.alloc; (iterate 5 rfl); simp only [nm, nz, Nat.reduceAdd]) | (apply aa.store; (iterate 9 rfl); exact Nat.le_of_ble_eq_true rfl; simp only [nm, nz, Nat.reduceAdd]) | (apply aa.build; (iterate 5 rfl); simp only [nm, nz, Nat.reduceAdd, bA, cH, AV.unD]) | (apply aa.aj; rfl; rfl) | (apply aa.gT; rfl; rfl; rfl; first | omega | rfl) | (apply aa.cBF; rfl; first | (simp only [bF]; omega) | exact ndF rfl) | (apply aa.az; rfl; rfl; rfl) | intro _ | (apply aa.gD; rfl; rfl; rfl) | (apply aa.aC; rfl; rfl; rfl; rfl) | (apply aa.bf; rfl; rfl; rfl; rfl) | (apply aa.aP; rfl; rfl))
     all_goals first | exact ⟨rfl, rfl⟩ | omega
   ·rw [if_neg ha] at hm hagb
    cases may with
    | false =>
     simp only [if_true] at hm
     obtain ⟨x1, x2⟩ := nL hB hm.symm (by decide)
     rw [x1, x2]
     repeat' (first | (apply aa.st; rfl) | (apply aa.q true; rfl; rfl; rfl; rfl; first | exact True.intro | omega | (simp only [tn, Int.reduceToNat]; omega) | (omega)) | (apply aa.ah [0] ( t1); (iterate 6 rfl); decide; rfl; rfl; simp only [ny, nh, Nat.reduceAdd, Nat.reduceSub]) | (apply aa.aA (fc); (iterate 6 rfl)) | (apply aa.af; rfl; first | omega | rfl) | (apply aa.ae; rfl; omega) | (apply aa.aB; rfl) | (apply aa.ak; rfl) | (apply aa.alloc; (iterate 5 rfl); simp only [nm, nz, Nat.reduceAdd]) | (apply aa.store; (iterate 9 rfl); exact Nat.le_of_ble_eq_true rfl; simp only [nm, nz, Nat.reduceAdd]) | (apply aa.build; (iterate 5 rfl); simp only [nm, nz, Nat.reduceAdd, bA, cH, AV.unD]) | (apply aa.aj; rfl; rfl) | (apply aa.gT; rfl; rfl; rfl; first | omega | rfl) | (apply aa.cBF; rfl; first | (simp only [bF]; omega) | exact ndF rfl) | (apply aa.az; rfl; rfl; rfl) | intro _ | (apply aa.gD; rfl; rfl; rfl) | (apply aa.aC; rfl; rfl; rfl; rfl) | (apply aa.bf; rfl; rfl; rfl; rfl) | (apply aa.aP; rfl; rfl))
     all_goals first | exact ⟨rfl, rfl⟩ | omega
    | true =>
     simp only [Bool.true_eq_false, if_false] at hm hagb
     cases hr : gY cQ w (bi b) with
     | done i c' => rw [hr] at hagb; cases hagb
     | fail => rw [hr] at hagb; cases hagb
     | next w' =>
      rw [hr] at hagb
      simp only at hagb
      have hk12 : k + 2 ≤ 12 := by
       cases f with
       | zero => unfold jl at hagb; cases hagb
       | succ f =>
        unfold jl at hagb
        simp only [Bool.and_eq_true, decide_eq_true_eq] at hagb
        exact hagb.1.1.1
      have hf2 : 13 - (k + 1) = f := by omega
      repeat' (first | (apply aa.st; rfl) | (apply aa.q true; rfl; rfl; rfl; rfl; first | exact True.intro | omega | (simp only [tn, Int.reduceToNat]; omega) | (omega)) | (apply aa.ah [0] ( t1); (iterate 6 rfl); decide; rfl; rfl; simp only [ny, nh, Nat.reduceAdd, Nat.reduceSub]) | (apply aa.aA (fc); (iterate 6 rfl)) | (apply aa.af; rfl; first | omega | rfl) | (apply aa.ae; rfl; omega) | (apply aa.aB; rfl) | (apply aa.ak; rfl) | (apply aa.alloc; (iterate 5 rfl); simp only [nm, nz, Nat.reduceAdd]) | (apply aa.store; (iterate 9 rfl); exact Nat.le_of_ble_eq_true rfl; simp only [nm, nz, Nat.reduceAdd]) | (apply aa.build; (iterate 5 rfl); simp only [nm, nz, Nat.reduceAdd, bA, cH, AV.unD]) | (apply aa.aj; rfl; rfl) | (apply aa.gT; rfl; rfl; rfl; first | omega | rfl) | (apply aa.cBF; rfl; first | (simp only [bF]; omega) | exact ndF rfl) | (apply aa.az; rfl; rfl; rfl) | intro _ | (apply aa.gD; rfl; rfl; rfl) | (apply aa.aC; rfl; rfl; rfl; rfl) | (apply aa.bf; rfl; rfl; rfl; rfl) | (apply aa.aP; rfl; rfl))
      all_goals first
       | exact aa.round [(5, I ((k + 1 + 1 : Nat) : Int)), (4, I (2 * v + b)), (2, .ptr 1 0), (0, .ptr 0 0)] (8 * s.length - (p + (k + 1))) (by omega) ⟨rfl, congrArg I eo, rfl, rfl, trivial⟩ ⟨k + 1, 2 * v + b, w', rfl, by omega, by rw [hf2]; exact hagb, hm, rfl, _, rfl, rfl⟩
       | omega
 ·have hpk : p + k = 8 * s.length := by omega
  rw [iT s _ hge] at hm
  have hm2 : jL (ai s p) 0 1 = (0, 2, k) := by rw [← hm]; rfl
  obtain ⟨x1, x2⟩ := nL hB hm2 (by decide)
  have t1 := qJ (gl := gtc) s (p + k) (by omega) hpk
  rw [x1, x2]
  repeat' (first | (apply aa.st; rfl) | (apply aa.q true; rfl; rfl; rfl; rfl; first | exact True.intro | omega | (simp only [tn, Int.reduceToNat]; omega)) | (apply aa.ah [0] ( t1); (iterate 6 rfl); decide; rfl; rfl; simp only [ny, nh, Nat.reduceAdd, Nat.reduceSub]) | (apply aa.af; rfl; first | omega | rfl) | (apply aa.ae; rfl; omega) | (apply aa.aB; rfl) | (apply aa.ak; rfl) | (apply aa.alloc; (iterate 5 rfl); simp only [nm, nz, Nat.reduceAdd]) | (apply aa.store; (iterate 9 rfl); exact Nat.le_of_ble_eq_true rfl; simp only [nm, nz, Nat.reduceAdd]) | (apply aa.build; (iterate 5 rfl); simp only [nm, nz, Nat.reduceAdd, bA, cH, AV.unD]) | (apply aa.aj; rfl; rfl) | (apply aa.gT; rfl; rfl; rfl; first | omega | rfl) | (apply aa.cBF; rfl; first | (simp only [bF]; omega) | exact ndF rfl) | (apply aa.az; rfl; rfl; rfl) | intro _ | (apply aa.gD; rfl; rfl; rfl) | (apply aa.aC; rfl; rfl; rfl; rfl) | (apply aa.bf; rfl; rfl; rfl; rfl) | (apply aa.aP; rfl; rfl))
  all_goals first | exact ⟨rfl, rfl⟩ | omega
end Tc
namespace Tc
open Go Bt
attribute [local irreducible] aa ACalls
variable {gl : List (Nat × List D)}
theorem AR (v : Int) (n : Nat) : ((kQ v n).2.1 = 0 → (kQ v n).2.2 = 7 + pR v n) ∧ ((kQ v n).2.1 ≠ 0 → (kQ v n).2.2 = 0 ∧ (kQ v n).1 = ev0) := by
 unfold kQ pR
 split
 ·exact ⟨fun h => (by cases h), fun _ => ⟨rfl, rfl⟩⟩
 ·split
  ·exact ⟨fun h => (by cases h), fun _ => ⟨rfl, rfl⟩⟩
  ·exact ⟨fun _ => rfl, fun h => absurd rfl h⟩
theorem wP {B : List Int} (hB : ∀ b ∈ B, b = 0 ∨ b = 1) : ((evX B).2.1 = 0 → (evX B).2.2 = pO B) ∧ ((evX B).2.1 ≠ 0 → (evX B).2.2 = 0 ∧ (evX B).1 = ev0) := by
 rcases hx : jL B 0 1 with ⟨a, e, c⟩
 by_cases he : e = 0
 ·subst he
  by_cases ha : 0 ≤ a
  ·obtain ⟨la, ru, am, _, _, _, _, x1, x2⟩ := nM hB hx ha
   rw [x1, x2]
   split
   ·exact ⟨fun h => (by cases h), fun _ => ⟨rfl, rfl⟩⟩
   ·exact ⟨fun _ => rfl, fun h => absurd rfl h⟩
  ·obtain ⟨h1, h2⟩ := iq 13 0 1 [] gu B hB
   rw [hx] at h1 h2
   simp only at h1 h2
   obtain ⟨_, i, _, h5⟩ := h2 h1.symm
   have ha1 : a = -1 := by
    unfold okE at h5
    split at h5
    ·exact of_decide_eq_true h5
    ·simp only [Bool.and_eq_true, decide_eq_true_eq] at h5
     omega
   subst ha1
   obtain ⟨x1, x2⟩ := qj hB hx
   rw [x1, x2]
   exact AR _ _
 ·obtain ⟨x1, x2⟩ := nL hB hx he
  rw [x1]
  exact ⟨fun h => absurd h he, fun _ => ⟨rfl, rfl⟩⟩
theorem yR (s : List UInt8) (p : Nat) (hp : p ≤ 8 * s.length) (h0 : (evX (ai s p)).2.1 = 0) : p + (evX (ai s p)).2.2 ≤ 8 * s.length := by
 have hB := eD s p
 have hBl := cL s p
 rcases hx : jL (ai s p) 0 1 with ⟨a, e, c⟩
 by_cases he : e = 0
 ·subst he
  by_cases ha : 0 ≤ a
  ·obtain ⟨la, ru, am, _, _, _, _, x1, x2⟩ := nM hB hx ha
   rw [x1] at h0 ⊢
   split at h0
   ·cases h0
   ·rename_i hc
    rw [if_neg hc]
    simp only
    omega
  ·obtain ⟨h1, h2⟩ := iq 13 0 1 [] gu _ hB
   rw [hx] at h1 h2
   simp only at h1 h2
   obtain ⟨_, i, _, h5⟩ := h2 h1.symm
   have ha1 : a = -1 := by
    unfold okE at h5
    split at h5
    ·exact of_decide_eq_true h5
    ·simp only [Bool.and_eq_true, decide_eq_true_eq] at h5
     omega
   subst ha1
   obtain ⟨x1, x2⟩ := qj hB hx
   rw [x1] at h0 ⊢
   unfold kQ at h0 ⊢
   split at h0
   ·cases h0
   ·rename_i hc
    rw [if_neg hc]
    split at h0
    ·cases h0
    ·rename_i hc2
     rw [if_neg hc2]
     simp only
     omega
 ·obtain ⟨x1, x2⟩ := nL hB hx he
  rw [x1] at h0
  exact absurd h0 he
attribute [local irreducible] evX pO ai
theorem BA (s : List UInt8) (p : Nat) (hs : s.length ≤ 1000000) (hp : p ≤ 8 * s.length) : ACalls (cxg gtc) 173 [.ptr 0 0] [Rd s p]
  (fun r H => r = .bG [.d (evD (evX (ai s p)).1), I (evX (ai s p)).2.1] ∧ H = [Rd s ((p + (evX (ai s p)).2.2 : Nat) : Int)]) := by
 have rd := DT s p hs hp
 have a0 := nV (gl := gtc) s p
 obtain ⟨u1, u2⟩ := wP (eD s p)
 by_cases h0 : (evX (ai s p)).2.1 = 0
 ·have e := u1 h0
  rw [← e] at rd
  generalize evX (ai s p) = x at *
  obtain ⟨ev, er, c⟩ := x
  simp only at h0 rd
  subst h0
  refine ACalls.enter Tryz.func173 rfl Tryz.ntmps173 (by kernel_rfl) rfl ?_; simp only [au, nm, Nat.reduceAdd]
  repeat' (first | (apply aa.st; rfl) | (apply aa.q true; rfl; rfl; rfl; rfl; first | exact True.intro | omega | (simp only [tn, Int.reduceToNat]; omega)) | (apply aa.ah [0] ( a0); (iterate 6 rfl); decide; rfl; rfl; simp only [ny, nh, Nat.reduceAdd, Nat.reduceSub]) | (apply aa.ah [0] ( rd); (iterate 6 rfl); decide; rfl; rfl; simp only [ny, nh, Nat.reduceAdd, Nat.reduceSub]) | (apply aa.ak; rfl) | (apply aa.alloc; (iterate 5 rfl); simp only [nm, nz, Nat.reduceAdd]) | (apply aa.store; (iterate 9 rfl); exact Nat.le_of_ble_eq_true rfl; simp only [nm, nz, Nat.reduceAdd]) | (apply aa.cBT; rfl; first | (simp only [bT]; omega)) | intro _ | (apply aa.aC; rfl; rfl; rfl; rfl))
  all_goals first | exact ⟨rfl, rfl⟩ | omega
 ·obtain ⟨e1, e2⟩ := u2 h0
  have sk := dO (gl := gtc) s ((p + pO (ai s p) : Nat) : Int) p (by omega) ⟨by omega, by omega⟩
  generalize evX (ai s p) = x at *
  generalize pO (ai s p) = q at *
  obtain ⟨ev, er, c⟩ := x
  simp only at h0 rd e1 e2
  subst e1
  refine ACalls.enter Tryz.func173 rfl Tryz.ntmps173 (by kernel_rfl) rfl ?_; simp only [au, nm, Nat.reduceAdd]
  repeat' (first | (apply aa.st; rfl) | (apply aa.q true; rfl; rfl; rfl; rfl; first | exact True.intro | omega | (simp only [tn, Int.reduceToNat]; omega)) | (apply aa.ah [0] ( a0); (iterate 6 rfl); decide; rfl; rfl; simp only [ny, nh, Nat.reduceAdd, Nat.reduceSub]) | (apply aa.ah [0] ( rd); (iterate 6 rfl); decide; rfl; rfl; simp only [ny, nh, Nat.reduceAdd, Nat.reduceSub]) | (apply aa.ah [0] ( sk); (iterate 6 rfl); decide; rfl; rfl; simp only [ny, nh, Nat.reduceAdd, Nat.reduceSub]) | (apply aa.ak; rfl) | (apply aa.alloc; (iterate 5 rfl); simp only [nm, nz, Nat.reduceAdd]) | (apply aa.store; (iterate 9 rfl); exact Nat.le_of_ble_eq_true rfl; simp only [nm, nz, Nat.reduceAdd]) | (apply aa.cBT; rfl; first | (simp only [bT]; omega)) | intro _ | (apply aa.aC; rfl; rfl; rfl; rfl))
  all_goals first | exact ⟨rfl, rfl⟩ | omega
def dcX (v : Int) (n : Nat) : Int × Int × Nat := if n < 8 then (0, 2, 0) else if v = 0 ∨ v = 128 then (0, 7, 8) else if v = 255 then (128, 0, 8) else (v, 0, 8)
attribute [local irreducible] nB
theorem FX (s : List UInt8) (p : Nat) (hs : s.length ≤ 1000000) (hp : p ≤ 8 * s.length) : ACalls (cxg gl) 167 [.ptr 0 0] [Rd s p]
  (fun r H => r = .bG [I (dcX (nB ((ai s p).take 8)) (8 * s.length - p)).1, I (dcX (nB ((ai s p).take 8)) (8 * s.length - p)).2.1] ∧ H = [Rd s ((p + (dcX (nB ((ai s p).take 8)) (8 * s.length - p)).2.2 : Nat) : Int)]) := by
 have tk := fU (gl := gl) s p 8 (by omega) hp (by omega)
 unfold pkN tkN at tk
 unfold dcX
 by_cases h : 8 * s.length < p + 8
 ·rw [if_pos h, if_pos h] at tk
  rw [if_pos (by omega)]
  refine ACalls.enter Tryz.func167 rfl Tryz.ntmps167 (by kernel_rfl) rfl ?_; simp only [au, nm, Nat.reduceAdd]
  repeat' (first | (apply aa.st; rfl) | (apply aa.q true; rfl; rfl; rfl; rfl; first | exact True.intro | omega | (simp only [tn, Int.reduceToNat]; omega)) | (apply aa.ah [0] ( tk); (iterate 6 rfl); decide; rfl; rfl; simp only [ny, nh, Nat.reduceAdd, Nat.reduceSub]) | (apply aa.af; rfl; first | omega | rfl) | (apply aa.ae; rfl; omega) | (apply aa.aB; rfl) | (apply aa.ak; rfl) | intro _ | (apply aa.aC; rfl; rfl; rfl; rfl))
  all_goals first | exact ⟨rfl, rfl⟩ | omega
 ·rw [if_neg h, if_neg h] at tk
  rw [if_neg (by omega)]
  generalize nB ((ai s p).take 8) = v at *
  by_cases h0 : v = 0 ∨ v = 128
  ·rw [if_pos h0]
   rcases h0 with rfl | rfl
   all_goals
    refine ACalls.enter Tryz.func167 rfl Tryz.ntmps167 (by kernel_rfl) rfl ?_; simp only [au, nm, Nat.reduceAdd]
    repeat' (first | (apply aa.st; rfl) | (apply aa.q true; rfl; rfl; rfl; rfl; first | exact True.intro | omega | (simp only [tn, Int.reduceToNat]; omega)) | (apply aa.ah [0] ( tk); (iterate 6 rfl); decide; rfl; rfl; simp only [ny, nh, Nat.reduceAdd, Nat.reduceSub]) | (apply aa.af; rfl; first | omega | rfl) | (apply aa.ae; rfl; omega) | (apply aa.aB; rfl) | (apply aa.ak; rfl) | intro _ | (apply aa.aC; rfl; rfl; rfl; rfl))
    all_goals first | exact ⟨rfl, rfl⟩ | omega
  ·rw [if_neg h0]
   by_cases h1 : v = 255
   ·rw [if_pos h1]
    subst h1
    refine ACalls.enter Tryz.func167 rfl Tryz.ntmps167 (by kernel_rfl) rfl ?_; simp only [au, nm, Nat.reduceAdd]
    repeat' (first | (apply aa.st; rfl) | (apply aa.q true; rfl; rfl; rfl; rfl; first | exact True.intro | omega | (simp only [tn, Int.reduceToNat]; omega)) | (apply aa.ah [0] ( tk); (iterate 6 rfl); decide; rfl; rfl; simp only [ny, nh, Nat.reduceAdd, Nat.reduceSub]) | (apply aa.af; rfl; first | omega | rfl) | (apply aa.ae; rfl; omega) | (apply aa.aB; rfl) | (apply aa.ak; rfl) | intro _ | (apply aa.aC; rfl; rfl; rfl; rfl))
    all_goals first | exact ⟨rfl, rfl⟩ | omega
   ·rw [if_neg h1]
    refine ACalls.enter Tryz.func167 rfl Tryz.ntmps167 (by kernel_rfl) rfl ?_; simp only [au, nm, Nat.reduceAdd]
    repeat' (first | (apply aa.st; rfl) | (apply aa.q true; rfl; rfl; rfl; rfl; first | exact True.intro | omega | (simp only [tn, Int.reduceToNat]; omega)) | (apply aa.ah [0] ( tk); (iterate 6 rfl); decide; rfl; rfl; simp only [ny, nh, Nat.reduceAdd, Nat.reduceSub]) | (apply aa.af; rfl; first | omega | rfl) | (apply aa.ae; rfl; omega) | (apply aa.aB; rfl) | (apply aa.ak; rfl) | intro _ | (apply aa.aC; rfl; rfl; rfl; rfl))
    all_goals first | exact ⟨rfl, rfl⟩ | omega
end Tc
namespace Tc
open Go Bt
attribute [local irreducible] aa ACalls
variable {gl : List (Nat × List D)}
theorem F3 {B : List Int} (hB : ∀ b ∈ B, b = 0 ∨ b = 1) (h0 : (evX B).2.1 = 0) : 0 ≤ (evX B).1.run ∧ (evX B).1.run ≤ 63 := by
 rcases hx : jL B 0 1 with ⟨a, e, c⟩
 by_cases he : e = 0
 ·subst he
  by_cases ha : 0 ≤ a
  ·obtain ⟨la, ru, am, _, _, q3, _, x1, x2⟩ := nM hB hx ha
   rw [x1] at h0 ⊢
   split at h0
   ·cases h0
   ·rename_i hc
    rw [if_neg hc]
    simp only
    omega
  ·obtain ⟨h1, h2⟩ := iq 13 0 1 [] gu _ hB
   rw [hx] at h1 h2
   simp only at h1 h2
   obtain ⟨_, i, _, h5⟩ := h2 h1.symm
   have ha1 : a = -1 := by
    unfold okE at h5
    split at h5
    ·exact of_decide_eq_true h5
    ·simp only [Bool.and_eq_true, decide_eq_true_eq] at h5
     omega
   subst ha1
   obtain ⟨x1, x2⟩ := qj hB hx
   rw [x1] at h0 ⊢
   unfold kQ at h0 ⊢
   split at h0
   ·cases h0
   ·rename_i hc
    rw [if_neg hc]
    split at h0
    ·cases h0
    ·rename_i hc2
     rw [if_neg hc2]
     unfold jf at hc2
     simp only [Bool.or_eq_true, not_or, Bool.not_eq_true', Bool.not_eq_false] at hc2
     exact (of_decide_eq_true (show decide _ = true from hc2.1)).1
 ·obtain ⟨x1, x2⟩ := nL hB hx he
  rw [x1] at h0
  exact absurd h0 he
def dK : Nat → List Int → Int → List Ev × Int × Nat
 | 0, _, _ => ([], 7, 0)
 | f + 1, B, a => if (evX B).2.1 ≠ 0 then ([], (evX B).2.1, 0) else
  if 64 < a + ((evX B).1.run + 1) then ([], 7, (evX B).2.2) else
  if (evX B).1.last = true then ([(evX B).1], 0, (evX B).2.2) else
  if (dK f (B.drop (evX B).2.2) (a + ((evX B).1.run + 1))).2.1 ≠ 0 then ([], (dK f (B.drop (evX B).2.2) (a + ((evX B).1.run + 1))).2.1, (evX B).2.2 + (dK f (B.drop (evX B).2.2) (a + ((evX B).1.run + 1))).2.2) else
  ((evX B).1 :: (dK f (B.drop (evX B).2.2) (a + ((evX B).1.run + 1))).1, 0, (evX B).2.2 + (dK f (B.drop (evX B).2.2) (a + ((evX B).1.run + 1))).2.2)
def yj (acc : List Ev) (q : Nat) (y : List Ev × Int × Nat) : List Ev × Int × Nat := if y.2.1 ≠ 0 then ([], y.2.1, q + y.2.2) else (acc ++ y.1, 0, q + y.2.2)
theorem Iu (y : List Ev × Int × Nat) (h : y.2.1 ≠ 0 → y.1 = []) : yj [] 0 y = y := by
 unfold yj
 split
 ·rename_i h1
  obtain ⟨l, e, c⟩ := y
  simp only at h h1 ⊢
  rw [h h1, Nat.zero_add]
 ·rename_i h1
  obtain ⟨l, e, c⟩ := y
  simp only [ne_eq, Decidable.not_not] at h1
  subst h1
  simp
theorem DN : ∀ (f : Nat) (B : List Int) (a : Int), (dK f B a).2.1 ≠ 0 → (dK f B a).1 = []
 | 0, _, _, _ => rfl
 | f + 1, B, a, h => by
  rw [dK] at h ⊢
  split
  ·rfl
  ·rename_i h1
   rw [if_neg h1] at h
   split
   ·rfl
   ·rename_i h2
    rw [if_neg h2] at h
    split
    ·rename_i h3
     rw [if_pos h3] at h
     exact absurd rfl h
    ·rename_i h3
     rw [if_neg h3] at h
     split
     ·rfl
     ·rename_i h4
      rw [if_neg h4] at h
      exact absurd rfl h
theorem A7 {acc : List Ev} {q f : Nat} {B : List Int} {a : Int} (h0 : (evX B).2.1 = 0) (h1 : ¬ 64 < a + ((evX B).1.run + 1)) (h2 : (evX B).1.last = false) :
  yj acc q (dK (f + 1) B a) = yj (acc ++ [(evX B).1]) (q + (evX B).2.2) (dK f (B.drop (evX B).2.2) (a + ((evX B).1.run + 1))) := by
 rw [dK, if_neg (by simpa using h0), if_neg h1, if_neg (by rw [h2]; decide)]
 unfold yj
 by_cases h : (dK f (B.drop (evX B).2.2) (a + ((evX B).1.run + 1))).2.1 ≠ 0
 ·rw [if_pos h, if_pos h]
  simp only
  rw [if_pos h, Nat.add_assoc]
 ·rw [if_neg h, if_neg h]
  simp [Nat.add_assoc]
theorem wO (l : List Ev) (e : Ev) : bg (l ++ [e]) = bg l ++ [evD e] := by simp [bg]
attribute [local irreducible] evX ai dK bg
theorem DU (s : List UInt8) (p : Nat) (a0 : Int) (hs : s.length ≤ 1000000) (hp : p ≤ 8 * s.length) (ha0 : 0 ≤ a0 ∧ a0 ≤ 1) : ACalls (cxg gtc) 168 [.ptr 0 0, I a0] [Rd s p]
  (fun r H => r = .bG [.d (.sl 3 (bg (dK 66 (ai s p) a0).1)), I (dK 66 (ai s p) a0).2.1] ∧ H = [Rd s ((p + (dK 66 (ai s p) a0).2.2 : Nat) : Int)]) := by
 have e00 : bg [] = [] := by unfold bg; rfl
 have hc0 := Iu (dK 66 (ai s p) a0) (DN _ _ _)
 generalize hR : dK 66 (ai s p) a0 = R at *
 refine ACalls.enter Tryz.func168 rfl Tryz.ntmps168 (by kernel_rfl) rfl ?_; simp only [au, nm, Nat.reduceAdd]
 repeat (first | (apply aa.st; rfl) | (apply aa.q true; rfl; rfl; rfl; rfl; first | exact True.intro | omega | (simp only [tn, Int.reduceToNat]; omega)) | (apply aa.af; rfl; first | omega | rfl) | (apply aa.ae; rfl; omega) | (apply aa.aB; rfl) | (apply aa.ak; rfl) | (apply aa.alloc; (iterate 5 rfl); simp only [nm, nz, Nat.reduceAdd]) | (apply aa.store; (iterate 9 rfl); exact Nat.le_of_ble_eq_true rfl; simp only [nm, nz, Nat.reduceAdd]) | (apply aa.cBT; rfl; first | (simp only [bT]; omega)) | (apply aa.buildSlice; (iterate 11 rfl)) | (apply aa.scope; exact fun _ _ _ h => h) | apply aa.label | (apply aa.DC 6 144 3; rfl; simp only [List.length_cons, List.length_nil, Nat.reduceAdd, List.cons_append, List.nil_append]) | (apply aa.nI 6; rfl; rfl; (first | rfl | (simp only [List.length_append, List.length_map, List.length_set, List.length_replicate, List.length_cons, List.length_nil]; omega)); simp only [List.set_cons_zero, List.set_cons_succ]))
 refine aa.weak (env' := [(6, .own 3 (bg []) 1), (1, I a0), (0, .ptr 0 0)]) ⟨by rw [e00]; rfl, rfl, rfl, trivial⟩ ?_
 refine aa.loop (fun m env H => ∃ (f : Nat) (acc : List Ev) (q : Nat) (a : Int), m = f ∧ p + q ≤ 8 * s.length ∧ (0 ≤ a ∧ a ≤ 64 ∧ 65 - a < f) ∧ (acc.length : Int) ≤ a ∧ yj acc q (dK f (ai s (p + q)) a) = R ∧
  env = [(6, .own 3 (bg acc) 1), (1, I a), (0, .ptr 0 0)] ∧ H = [Rd s ((p + q : Nat) : Int), .front 144 3 (bg acc).length]) 66
  ⟨66, [], 0, a0, rfl, by omega, by omega, by simp; omega, by rw [Nat.add_zero, hR]; exact hc0, rfl, by first | (rw [e00]; done) | (rw [e00]; rfl)⟩ ?_
 rintro m env H ⟨f, acc, q, a, rfl, hq, ha, hacc, hm, rfl, rfl⟩
 obtain ⟨f, rfl⟩ : ∃ g, m = g + 1 := ⟨m - 1, by omega⟩
 have tk := BA s (p + q) hs hq
 have hB := eD s (p + q)
 have hal := lw acc
 by_cases h0 : (evX (ai s (p + q))).2.1 = 0
 ·have hrun := F3 hB h0
  have hle := yR s (p + q) hq h0
  by_cases h1 : 64 < a + ((evX (ai s (p + q))).1.run + 1)
  ·have hx : dK (f + 1) (ai s (p + q)) a = ([], 7, (evX (ai s (p + q))).2.2) := by unfold dK; rw [if_neg (by simpa using h0), if_pos h1]
   rw [hx] at hm
   have hm2 : R = ([], 7, q + (evX (ai s (p + q))).2.2) := by rw [← hm]; rfl
   rw [hm2]
   generalize evX (ai s (p + q)) = x at *
   obtain ⟨⟨la, ru, le⟩, er, c⟩ := x
   simp only at h0 h1 hrun tk
   subst h0
   rw [e00, ← Nat.add_assoc]
   repeat' (first | (apply aa.st; rfl) | (apply aa.q true; rfl; rfl; rfl; rfl; first | exact True.intro | omega | (simp only [tn, Int.reduceToNat]; omega)) | (apply aa.ah [0] ( tk); (iterate 6 rfl); decide; rfl; rfl; simp only [ny, nh, Nat.reduceAdd, Nat.reduceSub]) | (apply aa.af; rfl; first | omega | rfl) | (apply aa.ae; rfl; omega) | (apply aa.aB; rfl) | (apply aa.ak; rfl) | (apply aa.alloc; (iterate 5 rfl); simp only [nm, nz, Nat.reduceAdd]) | (apply aa.store; (iterate 9 rfl); exact Nat.le_of_ble_eq_true rfl; simp only [nm, nz, Nat.reduceAdd]) | (apply aa.cBT; rfl; first | (simp only [bT]; omega)) | (apply aa.buildSlice; (iterate 11 rfl)) | (apply aa.GD (.bG [.d (.sl 3 []), I 7]); rfl; exact bK.bG ⟨bK.d (dZ.aU 3), bK.refl _, trivial⟩; rfl; rfl; rfl) | intro _ | (apply aa.aP; rfl; rfl))
   all_goals first | exact ⟨rfl, rfl⟩ | omega
  ·cases h2 : (evX (ai s (p + q))).1.last with
   | true =>
    have hx : dK (f + 1) (ai s (p + q)) a = ([(evX (ai s (p + q))).1], 0, (evX (ai s (p + q))).2.2) := by unfold dK; rw [if_neg (by simpa using h0), if_neg h1, if_pos h2]
    rw [hx] at hm
    have hm2 : R = (acc ++ [(evX (ai s (p + q))).1], 0, q + (evX (ai s (p + q))).2.2) := by rw [← hm]; rfl
    rw [hm2]
    have eA := wO acc (evX (ai s (p + q))).1
    generalize evX (ai s (p + q)) = x at *
    obtain ⟨⟨la, ru, le⟩, er, c⟩ := x
    simp only at h0 h1 h2 hrun tk eA
    subst h0
    subst h2
    rw [← Nat.add_assoc]
    simp only
    rw [eA]
    repeat' (first | (apply aa.st; rfl) | (apply aa.append; (iterate 11 rfl); (first | rfl | (simp only [List.length_append, List.length_map, List.length_cons, List.length_nil]; omega)); (first | (simp only [List.length_append, List.length_map, List.length_cons, List.length_nil]; omega) | (rw [hal]; omega)); simp only [List.set_cons_zero, List.set_cons_succ]) | (apply aa.q true; rfl; rfl; rfl; rfl; first | exact True.intro | omega | (simp only [tn, Int.reduceToNat]; omega) | (rw [hal]; omega)) | (apply aa.ah [0] ( tk); (iterate 6 rfl); decide; rfl; rfl; simp only [ny, nh, Nat.reduceAdd, Nat.reduceSub]) | (apply aa.af; rfl; first | omega | rfl) | (apply aa.ae; rfl; omega) | (apply aa.aB; rfl) | (apply aa.ak; rfl) | (apply aa.alloc; (iterate 5 rfl); simp only [nm, nz, Nat.reduceAdd]) | (apply aa.store; (iterate 9 rfl); exact Nat.le_of_ble_eq_true rfl; simp only [nm, nz, Nat.reduceAdd]) | (apply aa.cBT; rfl; first | (simp only [bT]; omega)) | (apply aa.buildSlice; (iterate 11 rfl)) | (apply aa.kX (.bG [.d (.sl 3 (bg acc ++ [evD ⟨true, ru, le⟩])), I 0]); rfl; exact bK.bG ⟨bK.own _ _ _, bK.refl _, trivial⟩; rfl; rfl; rfl) | intro _ | (apply aa.aP; rfl; rfl))
    all_goals first | exact ⟨rfl, rfl⟩ | omega
   | false =>
    rw [A7 h0 h1 h2, bW, Nat.add_assoc] at hm
    have eA := wO acc (evX (ai s (p + q))).1
    generalize evX (ai s (p + q)) = x at *
    obtain ⟨⟨la, ru, le⟩, er, c⟩ := x
    simp only at h0 h1 h2 hrun tk eA hm hle
    subst h0
    subst h2
    rw [Nat.add_assoc] at tk
    repeat' (first | (apply aa.st; rfl) | (apply aa.append; (iterate 11 rfl); (first | rfl | (simp only [List.length_append, List.length_map, List.length_cons, List.length_nil]; omega)); (first | (simp only [List.length_append, List.length_map, List.length_cons, List.length_nil]; omega) | (rw [hal]; omega)); simp only [List.set_cons_zero, List.set_cons_succ]) | (apply aa.q true; rfl; rfl; rfl; rfl; first | exact True.intro | omega | (simp only [tn, Int.reduceToNat]; omega) | (rw [hal]; omega)) | (apply aa.ah [0] ( tk); (iterate 6 rfl); decide; rfl; rfl; simp only [ny, nh, Nat.reduceAdd, Nat.reduceSub]) | (apply aa.af; rfl; first | omega | rfl) | (apply aa.ae; rfl; omega) | (apply aa.aB; rfl) | (apply aa.ak; rfl) | (apply aa.alloc; (iterate 5 rfl); simp only [nm, nz, Nat.reduceAdd]) | (apply aa.store; (iterate 9 rfl); exact Nat.le_of_ble_eq_true rfl; simp only [nm, nz, Nat.reduceAdd]) | (apply aa.cBT; rfl; first | (simp only [bT]; omega)) | (apply aa.buildSlice; (iterate 11 rfl)) | intro _ | (apply aa.aP; rfl; rfl))
    all_goals first
     | exact aa.kW 2 [(6, .own 3 (bg (acc ++ [⟨false, ru, le⟩])) 1), (1, I (a + (ru + 1))), (0, .ptr 0 0)] f (by omega) rfl rfl rfl rfl ⟨by rw [eA]; rfl, rfl, rfl, trivial⟩ ⟨f, acc ++ [⟨false, ru, le⟩], q + c, a + (ru + 1), rfl, by omega, by omega, by rw [List.length_append]; simp; omega, hm, rfl, by first | (rw [eA]; done) | (rw [eA]; rfl)⟩
     | omega
 ·have hx : dK (f + 1) (ai s (p + q)) a = ([], (evX (ai s (p + q))).2.1, 0) := by unfold dK; rw [if_pos h0]
  obtain ⟨u1, u2⟩ := (wP hB).2 h0
  rw [hx] at hm
  have hm2 : R = ([], (evX (ai s (p + q))).2.1, q + 0) := by rw [← hm]; unfold yj; rw [if_pos h0]
  rw [hm2]
  generalize evX (ai s (p + q)) = x at *
  obtain ⟨⟨la, ru, le⟩, er, c⟩ := x
  simp only at h0 tk u1
  subst u1
  simp only [Nat.add_zero] at tk ⊢
  rw [e00]
  repeat' (first | (apply aa.st; rfl) | (apply aa.q true; rfl; rfl; rfl; rfl; first | exact True.intro | omega | (simp only [tn, Int.reduceToNat]; omega)) | (apply aa.ah [0] ( tk); (iterate 6 rfl); decide; rfl; rfl; simp only [ny, nh, Nat.reduceAdd, Nat.reduceSub]) | (apply aa.af; rfl; first | omega | rfl) | (apply aa.ae; rfl; omega) | (apply aa.aB; rfl) | (apply aa.ak; rfl) | (apply aa.alloc; (iterate 5 rfl); simp only [nm, nz, Nat.reduceAdd]) | (apply aa.store; (iterate 9 rfl); exact Nat.le_of_ble_eq_true rfl; simp only [nm, nz, Nat.reduceAdd]) | (apply aa.cBT; rfl; first | (simp only [bT]; omega)) | (apply aa.buildSlice; (iterate 11 rfl)) | (apply aa.GD (.bG [.d (.sl 3 []), I er]); rfl; exact bK.bG ⟨bK.d (dZ.aU 3), bK.refl _, trivial⟩; rfl; rfl; rfl) | intro _ | (apply aa.aP; rfl; rfl))
  all_goals first | exact ⟨rfl, rfl⟩ | omega
end Tc
namespace Tc
open Go Bt Bl
attribute [local irreducible] aa ACalls
variable {gl : List (Nat × List D)}
def dc0 (intra : Bool) (B : List Int) : Int × Int × Nat := if intra = true then dcX (nB (B.take 8)) B.length else (0, 0, 0)
def blX (intra coded : Bool) (B : List Int) : Int × List Ev × Int × Nat :=
  if (dc0 intra B).2.1 ≠ 0 then (0, [], (dc0 intra B).2.1, 0) else
  if coded = true then
    (if (dK 66 (B.drop (dc0 intra B).2.2) (frm intra : Nat)).2.1 ≠ 0 then (0, [], (dK 66 (B.drop (dc0 intra B).2.2) (frm intra : Nat)).2.1, 0)
     else ((dc0 intra B).1, (dK 66 (B.drop (dc0 intra B).2.2) (frm intra : Nat)).1, 0, (dc0 intra B).2.2 + (dK 66 (B.drop (dc0 intra B).2.2) (frm intra : Nat)).2.2))
  else ((dc0 intra B).1, [], 0, (dc0 intra B).2.2)
theorem D7 (v : Int) (n : Nat) : (dcX v n).2.2 ≤ n := by
 unfold dcX
 split
 ·simp
 ·split
  ·simp only; omega
  ·split <;> (simp only; omega)
theorem uK : ∀ (f : Nat) (s : List UInt8) (p : Nat) (a : Int), p ≤ 8 * s.length → p + (dK f (ai s p) a).2.2 ≤ 8 * s.length
 | 0, s, p, a, h => by simp [dK]; exact h
 | f + 1, s, p, a, h => by
  rw [dK]
  by_cases h0 : (evX (ai s p)).2.1 = 0
  ·have hle := yR s p h h0
   rw [if_neg (by simpa using h0)]
   have ih := uK f s (p + (evX (ai s p)).2.2) (a + ((evX (ai s p)).1.run + 1)) hle
   rw [← bW] at ih
   split
   ·exact hle
   ·split
    ·exact hle
    ·split <;> (simp only; omega)
  ·rw [if_pos h0]
   simpa using h
theorem Ia (b : Bool) : (0 : Int) ≤ (frm b : Nat) ∧ ((frm b : Nat) : Int) ≤ 1 := by cases b <;> decide
attribute [local irreducible] dK dcX nB ai bg frm
theorem Eu (s : List UInt8) (p : Nat) (intra coded : Bool) (hs : s.length ≤ 1000000) (hp : p ≤ 8 * s.length) : ACalls (cxg gtc) 160 [.ptr 0 0, B intra, B coded] [Rd s p]
  (fun r H => r = .bG [I (blX intra coded (ai s p)).1, .d (.sl 3 (bg (blX intra coded (ai s p)).2.1)), I (blX intra coded (ai s p)).2.2.1] ∧ H = [Rd s ((p + (blX intra coded (ai s p)).2.2.2 : Nat) : Int)]) := by
 have e00 : bg [] = [] := by unfold bg; rfl
 have a0 := nV (gl := gtc) s p
 have fr := DD (gl := gtc) intra
 have hfb := Ia intra
 have hBl := cL s p
 have fc := FX (gl := gtc) s p hs hp
 rw [← hBl] at fc
 have hdl := D7 (nB ((ai s p).take 8)) (ai s p).length
 have ec := fun q hq => DU s (p + q) (frm intra : Nat) hs hq hfb
 have hel := fun q hq => uK 66 s (p + q) (frm intra : Nat) hq
 unfold blX dc0
 cases intra with
 | true =>
  simp only [if_true]
  generalize dcX (nB ((ai s p).take 8)) (ai s p).length = d at *
  obtain ⟨dc, de, dn⟩ := d
  simp only at fc hdl ⊢
  by_cases hd : de = 0
  ·subst hd
   rw [if_neg (by simp)]
   cases coded with
   | true =>
    simp only [if_true]
    have ec1 := ec dn (by omega)
    have hel1 := hel dn (by omega)
    rw [← bW] at ec1 hel1
    generalize dK 66 ((ai s p).drop dn) (frm true : Nat) = y at *
    obtain ⟨l, e, c⟩ := y
    simp only at ec1 hel1 ⊢
    by_cases he : e = 0
    ·subst he
     rw [if_neg (by simp)]
     simp only
     rw [← Nat.add_assoc]
     refine ACalls.enter Tryz.func160 rfl Tryz.ntmps160 (by kernel_rfl) rfl ?_; simp only [au, nm, Nat.reduceAdd]
     repeat' (first | (apply aa.st; rfl) | (apply aa.q true; rfl; rfl; rfl; rfl; first | exact True.intro | omega | (simp only [tn, Int.reduceToNat]; omega)) | (apply aa.ah [0] ( a0); (iterate 6 rfl); decide; rfl; rfl; simp only [ny, nh, Nat.reduceAdd, Nat.reduceSub]) | (apply aa.ah [0] ( fc); (iterate 6 rfl); decide; rfl; rfl; simp only [ny, nh, Nat.reduceAdd, Nat.reduceSub]) | (apply aa.ah [0] ( ec1); (iterate 6 rfl); decide; rfl; rfl; simp only [ny, nh, Nat.reduceAdd, Nat.reduceSub]) | (apply aa.aA (fr); (iterate 6 rfl)) | (apply aa.aB; rfl) | (apply aa.ak; rfl) | (apply aa.aj; rfl; rfl) | (apply aa.gF; rfl; rfl; rfl; omega) | (apply aa.cBT; rfl; first | (simp only [bT]; omega)) | (apply aa.az; rfl; rfl; rfl) | intro _ | (apply aa.aC; rfl; rfl; rfl; rfl))
     all_goals first | exact ⟨rfl, rfl⟩ | omega
    ·rw [if_pos he]
     simp only
     rw [e00]
     have sk := dO (gl := gtc) s ((p + dn + c : Nat) : Int) p (by omega) ⟨by omega, by omega⟩
     refine ACalls.enter Tryz.func160 rfl Tryz.ntmps160 (by kernel_rfl) rfl ?_; simp only [au, nm, Nat.reduceAdd]
     repeat' (first | (apply aa.st; rfl) | (apply aa.q true; rfl; rfl; rfl; rfl; first | exact True.intro | omega | (simp only [tn, Int.reduceToNat]; omega)) | (apply aa.ah [0] ( a0); (iterate 6 rfl); decide; rfl; rfl; simp only [ny, nh, Nat.reduceAdd, Nat.reduceSub]) | (apply aa.ah [0] ( fc); (iterate 6 rfl); decide; rfl; rfl; simp only [ny, nh, Nat.reduceAdd, Nat.reduceSub]) | (apply aa.ah [0] ( ec1); (iterate 6 rfl); decide; rfl; rfl; simp only [ny, nh, Nat.reduceAdd, Nat.reduceSub]) | (apply aa.ah [0] ( sk); (iterate 6 rfl); decide; rfl; rfl; simp only [ny, nh, Nat.reduceAdd, Nat.reduceSub]) | (apply aa.aA (fr); (iterate 6 rfl)) | (apply aa.aB; rfl) | (apply aa.ak; rfl) | (apply aa.aj; rfl; rfl) | (apply aa.gF; rfl; rfl; rfl; omega) | (apply aa.cBT; rfl; first | (simp only [bT]; omega)) | (apply aa.az; rfl; rfl; rfl) | (apply aa.kX (.bG [I 0, .d (.sl 3 []), I e]); rfl; exact bK.bG ⟨bK.refl _, bK.d (dZ.aU 3), bK.refl _, trivial⟩; rfl; rfl; rfl) | intro _ | (apply aa.aC; rfl; rfl; rfl; rfl))
     all_goals first | exact ⟨rfl, rfl⟩ | omega
   | false =>
    simp only [Bool.false_eq_true, if_false]
    rw [e00]
    refine ACalls.enter Tryz.func160 rfl Tryz.ntmps160 (by kernel_rfl) rfl ?_; simp only [au, nm, Nat.reduceAdd]
    repeat' (first | (apply aa.st; rfl) | (apply aa.q true; rfl; rfl; rfl; rfl; first | exact True.intro | omega | (simp only [tn, Int.reduceToNat]; omega)) | (apply aa.ah [0] ( a0); (iterate 6 rfl); decide; rfl; rfl; simp only [ny, nh, Nat.reduceAdd, Nat.reduceSub]) | (apply aa.ah [0] ( fc); (iterate 6 rfl); decide; rfl; rfl; simp only [ny, nh, Nat.reduceAdd, Nat.reduceSub]) | (apply aa.aB; rfl) | (apply aa.ak; rfl) | (apply aa.aj; rfl; rfl) | (apply aa.gF; rfl; rfl; rfl; omega) | (apply aa.cBT; rfl; first | (simp only [bT]; omega)) | (apply aa.az; rfl; rfl; rfl) | (apply aa.kX (.bG [I dc, .d (.sl 3 []), I 0]); rfl; exact bK.bG ⟨bK.refl _, bK.d (dZ.aU 3), bK.refl _, trivial⟩; rfl; rfl; rfl) | intro _ | (apply aa.aC; rfl; rfl; rfl; rfl))
    all_goals first | exact ⟨rfl, rfl⟩ | omega
  ·rw [if_pos hd]
   simp only
   rw [e00]
   have sk := dO (gl := gtc) s ((p + dn : Nat) : Int) p (by omega) ⟨by omega, by omega⟩
   refine ACalls.enter Tryz.func160 rfl Tryz.ntmps160 (by kernel_rfl) rfl ?_; simp only [au, nm, Nat.reduceAdd]
   repeat' (first | (apply aa.st; rfl) | (apply aa.q true; rfl; rfl; rfl; rfl; first | exact True.intro | omega | (simp only [tn, Int.reduceToNat]; omega)) | (apply aa.ah [0] ( a0); (iterate 6 rfl); decide; rfl; rfl; simp only [ny, nh, Nat.reduceAdd, Nat.reduceSub]) | (apply aa.ah [0] ( fc); (iterate 6 rfl); decide; rfl; rfl; simp only [ny, nh, Nat.reduceAdd, Nat.reduceSub]) | (apply aa.ah [0] ( sk); (iterate 6 rfl); decide; rfl; rfl; simp only [ny, nh, Nat.reduceAdd, Nat.reduceSub]) | (apply aa.aB; rfl) | (apply aa.ak; rfl) | (apply aa.aj; rfl; rfl) | (apply aa.gF; rfl; rfl; rfl; omega) | (apply aa.cBT; rfl; first | (simp only [bT]; omega)) | (apply aa.az; rfl; rfl; rfl) | (apply aa.kX (.bG [I 0, .d (.sl 3 []), I de]); rfl; exact bK.bG ⟨bK.refl _, bK.d (dZ.aU 3), bK.refl _, trivial⟩; rfl; rfl; rfl) | intro _ | (apply aa.aC; rfl; rfl; rfl; rfl))
   all_goals first | exact ⟨rfl, rfl⟩ | omega
 | false =>
  simp only [Bool.false_eq_true, if_false]
  rw [if_neg (by simp)]
  cases coded with
  | true =>
   simp only [if_true, List.drop_zero]
   have ec1 := ec 0 (by omega)
   have hel1 := hel 0 (by omega)
   rw [Nat.add_zero] at ec1 hel1
   generalize dK 66 (ai s p) (frm false : Nat) = y at *
   obtain ⟨l, e, c⟩ := y
   simp only at ec1 hel1 ⊢
   by_cases he : e = 0
   ·subst he
    rw [if_neg (by simp)]
    simp only [Nat.zero_add]
    refine ACalls.enter Tryz.func160 rfl Tryz.ntmps160 (by kernel_rfl) rfl ?_; simp only [au, nm, Nat.reduceAdd]
    repeat' (first | (apply aa.st; rfl) | (apply aa.q true; rfl; rfl; rfl; rfl; first | exact True.intro | omega | (simp only [tn, Int.reduceToNat]; omega)) | (apply aa.ah [0] ( a0); (iterate 6 rfl); decide; rfl; rfl; simp only [ny, nh, Nat.reduceAdd, Nat.reduceSub]) | (apply aa.ah [0] ( ec1); (iterate 6 rfl); decide; rfl; rfl; simp only [ny, nh, Nat.reduceAdd, Nat.reduceSub]) | (apply aa.aA (fr); (iterate 6 rfl)) | (apply aa.aB; rfl) | (apply aa.ak; rfl) | (apply aa.aj; rfl; rfl) | (apply aa.gF; rfl; rfl; rfl; omega) | (apply aa.cBT; rfl; first | (simp only [bT]; omega)) | (apply aa.az; rfl; rfl; rfl) | intro _ | (apply aa.aC; rfl; rfl; rfl; rfl))
    all_goals first | exact ⟨rfl, rfl⟩ | omega
   ·rw [if_pos he]
    simp only
    rw [e00]
    have sk := dO (gl := gtc) s ((p + c : Nat) : Int) p (by omega) ⟨by omega, by omega⟩
    refine ACalls.enter Tryz.func160 rfl Tryz.ntmps160 (by kernel_rfl) rfl ?_; simp only [au, nm, Nat.reduceAdd]
    repeat' (first | (apply aa.st; rfl) | (apply aa.q true; rfl; rfl; rfl; rfl; first | exact True.intro | omega | (simp only [tn, Int.reduceToNat]; omega)) | (apply aa.ah [0] ( a0); (iterate 6 rfl); decide; rfl; rfl; simp only [ny, nh, Nat.reduceAdd, Nat.reduceSub]) | (apply aa.ah [0] ( ec1); (iterate 6 rfl); decide; rfl; rfl; simp only [ny, nh, Nat.reduceAdd, Nat.reduceSub]) | (apply aa.ah [0] ( sk); (iterate 6 rfl); decide; rfl; rfl; simp only [ny, nh, Nat.reduceAdd, Nat.reduceSub]) | (apply aa.aA (fr); (iterate 6 rfl)) | (apply aa.aB; rfl) | (apply aa.ak; rfl) | (apply aa.aj; rfl; rfl) | (apply aa.gF; rfl; rfl; rfl; omega) | (apply aa.cBT; rfl; first | (simp only [bT]; omega)) | (apply aa.az; rfl; rfl; rfl) | (apply aa.kX (.bG [I 0, .d (.sl 3 []), I e]); rfl; exact bK.bG ⟨bK.refl _, bK.d (dZ.aU 3), bK.refl _, trivial⟩; rfl; rfl; rfl) | intro _ | (apply aa.aC; rfl; rfl; rfl; rfl))
    all_goals first | exact ⟨rfl, rfl⟩ | omega
  | false =>
   simp only [Bool.false_eq_true, if_false]
   rw [e00]
   refine ACalls.enter Tryz.func160 rfl Tryz.ntmps160 (by kernel_rfl) rfl ?_; simp only [au, nm, Nat.reduceAdd]
   repeat' (first | (apply aa.st; rfl) | (apply aa.q true; rfl; rfl; rfl; rfl; first | exact True.intro | omega | (simp only [tn, Int.reduceToNat]; omega)) | (apply aa.ah [0] ( a0); (iterate 6 rfl); decide; rfl; rfl; simp only [ny, nh, Nat.reduceAdd, Nat.reduceSub]) | (apply aa.aB; rfl) | (apply aa.ak; rfl) | (apply aa.aj; rfl; rfl) | (apply aa.gF; rfl; rfl; rfl; omega) | (apply aa.cBT; rfl; first | (simp only [bT]; omega)) | (apply aa.az; rfl; rfl; rfl) | (apply aa.kX (.bG [I 0, .d (.sl 3 []), I 0]); rfl; exact bK.bG ⟨bK.refl _, bK.d (dZ.aU 3), bK.refl _, trivial⟩; rfl; rfl; rfl) | intro _ | (apply aa.aC; rfl; rfl; rfl; rfl))
   all_goals first | exact ⟨rfl, rfl⟩ | omega
end Tc
namespace Tc
open Go Bt
attribute [local irreducible] aa ACalls
variable {gl : List (Nat × List D)}
attribute [local irreducible] gM qG BH DY mi jZ bv DV
end Tc
namespace Tc
open Go Bt
attribute [local irreducible] aa ACalls
variable {gl : List (Nat × List D)}
theorem jR (rows : List (List UInt8)) : ∀ (Dg w : List UInt8), (bR rows Dg w).2.1 = 0 → (bR rows Dg w).2.2 ≤ w.length + Dg.length
 | [], w, h => by simp [bR] at h
 | x :: r, w, h => by
  rw [bR] at h ⊢
  unfold gY at h ⊢
  cases hf : iJ (w ++ [x]) rows 0 with
  | some i => rw [hf] at h; simp
  | none =>
   rw [hf] at h
   simp only at h ⊢
   by_cases ha : rows.any (fun r => (w ++ [x]).isPrefixOf r) = true
   ·rw [if_pos ha] at h ⊢
    have := jR rows r (w ++ [x]) h
    simp at this ⊢; omega
   ·rw [if_neg ha] at h
    simp at h
theorem wS (b : Int) (h : b = 0 ∨ b = 1) : ((bi b).toNat : Int) = 48 + b ∧ aX (bi b) = true := by
 rcases h with rfl | rfl <;> decide
theorem vW : ∀ l : List Int, (∀ b ∈ l, b = 0 ∨ b = 1) → fF (l.map bi) = nB l := by
 intro l
 refine jQ (P := fun l => (∀ b ∈ l, b = 0 ∨ b = 1) → fF (l.map bi) = nB l) (fun _ => rfl) (fun l b ih h => ?_) l
 rw [List.map_append, List.map_cons, List.map_nil, jV, jB, ih fun x hx => h x (by simp [hx])]
 have := (wS b (h b (by simp))).1
 omega
theorem all_map (l : List Int) (h : ∀ b ∈ l, b = 0 ∨ b = 1) : (l.map bi).all aX = true := by
 rw [List.all_eq_true]
 intro x hx
 obtain ⟨b, hb, rfl⟩ := List.mem_map.1 hx
 exact (wS b (h b hb)).2
theorem uy (a b : List Int) : nB (a ++ b) = nB a * 2 ^ b.length + nB b := by
 refine jQ (P := fun b => nB (a ++ b) = nB a * 2 ^ b.length + nB b) (by simp [nB]) (fun l x ih => ?_) b
 rw [← List.append_assoc, jB, jB, ih, List.length_append, List.length_singleton, Int.pow_succ, Int.mul_add, ← Int.mul_assoc]
 have : 2 * nB a * 2 ^ l.length = nB a * (2 ^ l.length * 2) := by rw [Int.mul_comm 2, Int.mul_assoc, Int.mul_comm 2, ]
 omega
theorem Ii (b0 n6 n8 : Int) (h0 : b0 = 0 ∨ b0 = 1) (h6 : 0 ≤ n6 ∧ n6 < 64) (h8 : 0 ≤ n8 ∧ n8 < 256) : cN ((b0 * 64 + n6) * 256 + n8) = ⟨decide (48 + b0 = 49), n6, if 127 < n8 then n8 - 256 else n8⟩ := by
 unfold cN
 have e1 : ((b0 * 64 + n6) * 256 + n8) / 2 ^ 14 = b0 := by omega
 have e2 : ((b0 * 64 + n6) * 256 + n8) / 2 ^ 8 = b0 * 64 + n6 := by omega
 have e3 : ((b0 * 64 + n6) * 256 + n8) % 256 = n8 := by omega
 have e4 : ((((b0 * 64 + n6).toNat &&& (63 : Int).toNat : Nat) : Int)) = n6 := by rw [GZ]; omega
 have e5 : (if 128 ≤ n8 then n8 - 256 else n8) = (if 127 < n8 then n8 - 256 else n8) := by
  by_cases h : 127 < n8
  ·rw [if_pos h, if_pos (by omega)]
  ·rw [if_neg h, if_neg (by omega)]
 have e6 : decide (b0 = 1) = decide (48 + b0 = 49) := by rw [decide_eq_decide]; omega
 rw [e1, e2, e3, e4, ← e5, ← e6]
theorem AJ {e : Ev} (h : evR e = true) : decide (jZ e.last e.run (kR e.level) = []) = !decide (0 ≤ bO e.last e.run (max e.level (-e.level))) := by
 have hb : (0 ≤ e.run ∧ e.run ≤ 63) ∧ e.level ≠ 0 ∧ -127 ≤ e.level ∧ e.level ≤ 127 := of_decide_eq_true h
 have ab := zP hb.2
 rw [← uW]
 by_cases hm : cW e.last e.run < kR e.level
 ·obtain ⟨t1, t2⟩ := Gx e.last e.run (kR e.level) hb.1 hm
  rw [t1, t2]; rfl
 ·obtain ⟨t1, t2, t3⟩ := BB e.last e.run (kR e.level) hb.1 ab.1 hm
  rw [decide_eq_false t3, decide_eq_true t1.1]; rfl
end Tc
end Go.Proofs.YtbfojhfiemcnpaaGreatDoor.Av
