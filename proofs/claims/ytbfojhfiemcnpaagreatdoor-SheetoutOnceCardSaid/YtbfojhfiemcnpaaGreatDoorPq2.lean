/- Events are read: tcoef.read and tcoef.Take. Events are read: tcoef.Take; blocks are read: blocks.first. Blocks are read: blocks.events. Blocks are read: blocks.Take. Events are read: the document's answer. Events are read: the document's Take. -/
import Derived.Test.YtbfojhfiemcnpaaGreatDoorPq1
import Derived.Test.YtbfojhfiemcnpaaGreatDoorPn4
import Derived.Test.YtbfojhfiemcnpaaGreatDoorPl
set_option linter.unusedVariables false
set_option linter.unusedSimpArgs false
set_option maxRecDepth 100000
set_option maxHeartbeats 64000000
namespace Go.Proofs.YtbfojhfiemcnpaaGreatDoor.Av
namespace Tc
open Go Bt
attribute [local irreducible] aa ACalls
variable {gl : List (Nat × List D)}
theorem tH (s : List UInt8) (p : Nat) (hs : s.length < 1000000000000000) (h : p < 8 * s.length) : ACalls (cxg gl) 99 [.ptr 0 0, I 1] [Rd s p] (fun r H => r = .bW [I (dS s p), I 0] ∧ H = [Rd s ((p + 1 : Nat) : Int)]) := by
 have := nM (gl := gl) s p (by omega) hs (by omega)
 rwa [show pk1 s p = (dS s p, 0) by unfold pk1; rw [if_neg (by omega)], show tk1 s p = ((p + 1 : Nat) : Int) by unfold tk1; rw [if_neg (by omega)]; omega] at this
theorem tG (s : List UInt8) (p : Nat) (hs : s.length < 1000000000000000) (h : p = 8 * s.length) : ACalls (cxg gl) 99 [.ptr 0 0, I 1] [Rd s p] (fun r H => r = .bW [I 0, I 2] ∧ H = [Rd s p]) := by
 have := nM (gl := gl) s p (by omega) hs (by omega)
 rwa [show pk1 s p = (0, 2) by unfold pk1; rw [if_pos (by omega)], show tk1 s p = p by unfold tk1; rw [if_pos (by omega)]] at this
def evX (B : List Int) : Ev × Int × Nat :=
 if (cV dU (B.map bJ) []).2.1 ≠ 0 then (ev0, (cV dU (B.map bJ) []).2.1, 0) else
 if (cV dU (B.map bJ) []).1 = 0 then mR (nB ((B.drop 7).take 15)) (B.length - 7) else
 if B.length ≤ (cV dU (B.map bJ) []).2.2 then (ev0, 2, 0) else
 (⟨(kM (cV dU (B.map bJ) []).1.toNat).1, (kM (cV dU (B.map bJ) []).1.toNat).2.1, ((kM (cV dU (B.map bJ) []).1.toNat).2.2 : Int) * (1 - 2 * B.getD (cV dU (B.map bJ) []).2.2 0)⟩, 0, (cV dU (B.map bJ) []).2.2 + 1)
def r9 (B : List Int) : Nat :=
 if (lF B 0 1).2.1 ≠ 0 then (lF B 0 1).2.2 else
 if (lF B 0 1).1 = -1 then 7 + sj (nB ((B.drop 7).take 15)) (B.length - 7) else
 if B.length ≤ (lF B 0 1).2.2 then (lF B 0 1).2.2 else (lF B 0 1).2.2 + 1
theorem qw {B : List Int} (hB : ∀ b ∈ B, b = 0 ∨ b = 1) {a e : Int} {c : Nat} (h : lF B 0 1 = (a, e, c)) (he : e ≠ 0) : evX B = (ev0, e, 0) ∧ r9 B = c := by
 obtain ⟨h1, h2⟩ := jC 13 0 1 [] iW B hB
 rw [h] at h1
 simp only at h1
 unfold evX r9
 rw [← h1, h, if_pos he, if_pos he]
 exact ⟨rfl, rfl⟩
theorem sP {B : List Int} (hB : ∀ b ∈ B, b = 0 ∨ b = 1) {c : Nat} (h : lF B 0 1 = (-1, 0, c)) : evX B = mR (nB ((B.drop 7).take 15)) (B.length - 7) ∧ r9 B = 7 + sj (nB ((B.drop 7).take 15)) (B.length - 7) := by
 obtain ⟨h1, h2⟩ := jC 13 0 1 [] iW B hB
 rw [h] at h1 h2
 simp only at h1 h2
 obtain ⟨h3, i, h4, h5⟩ := h2 h1.symm
 have hi : i = 0 := by
  unfold okE at h5
  split at h5
  ·assumption
  ·simp at h5
 subst hi
 constructor
 ·unfold evX
  rw [h4, ← h1, if_neg (by simp), if_pos (show ((0 : Nat) : Int) = 0 from rfl)]
 ·unfold r9
  rw [h, if_neg (by simp), if_pos rfl]
theorem qx {B : List Int} (hB : ∀ b ∈ B, b = 0 ∨ b = 1) {a : Int} {c : Nat} (h : lF B 0 1 = (a, 0, c)) (ha : 0 ≤ a) : ∃ (la : Bool) (ru am : Nat), 1 ≤ am ∧ (am : Int) ≤ dY la ru ∧ ru ≤ 63 ∧ cJ la ru am = a ∧
  evX B = (if B.length ≤ c then (ev0, 2, 0) else (⟨la, ru, (am : Int) * (1 - 2 * B.getD c 0)⟩, 0, c + 1)) ∧ r9 B = if B.length ≤ c then c else c + 1 := by
 obtain ⟨h1, h2⟩ := jC 13 0 1 [] iW B hB
 rw [h] at h1 h2
 simp only at h1 h2
 obtain ⟨h3, i, h4, h5⟩ := h2 h1.symm
 have hi : i ≠ 0 := by
  rintro rfl
  unfold okE at h5
  rw [if_pos rfl, decide_eq_true_eq] at h5
  omega
 unfold okE at h5
 rw [if_neg hi] at h5
 simp only [Bool.and_eq_true, decide_eq_true_eq] at h5
 obtain ⟨⟨⟨⟨q1, q2⟩, q3⟩, q4⟩, q5⟩ := h5
 refine ⟨_, _, _, q3, q4, q5, q2, ?_, ?_⟩
 ·unfold evX
  rw [h4, ← h1, if_neg (by simp), if_neg (by omega), ← h3, Int.toNat_natCast]
 ·unfold r9
  rw [h, if_neg (by simp), if_neg (by simp only; omega)]
theorem Dy (s : List UInt8) (p k : Nat) (h : p + k < 8 * s.length) : (aC s p).getD k 0 = dS s ((p + k : Nat) : Int) := by
 unfold aC
 rw [List.getD_eq_getElem?_getD, List.getElem?_map, List.getElem?_range (by omega)]; rfl
theorem dm (s : List UInt8) (p k : Nat) : (aC s p).drop k = aC s (p + k) := by
 apply List.ext_getElem?
 intro i
 unfold aC
 rw [List.getElem?_drop, List.getElem?_map, List.getElem?_map]
 by_cases h : k + i < 8 * s.length - p
 ·rw [List.getElem?_range h, List.getElem?_range (by omega)]
  simp [Nat.add_assoc]
 ·rw [List.getElem?_eq_none (by simp; omega), List.getElem?_eq_none (by simp; omega)]
  rfl
attribute [local irreducible] cJ dY rT nB evX r9 kS mR sj dU kM dS aC
theorem Gs (s : List UInt8) (p : Nat) (hs : s.length ≤ 1000000) (hp : p ≤ 8 * s.length) : ACalls (cxg gtc) 175 [.ptr 0 0] [Rd s p]
  (fun r H => r = .bW [.d (evD (evX (aC s p)).1), I (evX (aC s p)).2.1] ∧ H = [Rd s ((p + r9 (aC s p) : Nat) : Int)]) := by
 have hB := gG s p
 have hBl := dK s p
 refine ACalls.enter Tryz.func175 rfl Tryz.ntmps175 (by kernel_rfl) rfl ?_; simp only [aB, nm, Nat.reduceAdd]
 repeat (first | refine aa.aD ?_ | refine aa.aY true ?_ | refine aa.ah ?_ | refine aa.af ?_ | refine aa.av ?_ | refine aa.ai ?_ | (refine aa.aG ?_; simp only [nm, nz, Nat.reduceAdd]) | (refine aa.az ?_; simp only [nm, nz, Nat.reduceAdd]) | (refine aa.bz ?_; simp only [nm, nz, Nat.reduceAdd, bS, dF, AV.unD]) | refine aa.aj ?_ | refine aa.cN ?_ | refine aa.cB ?_ | refine aa.aA ?_)
 refine aa.weak (env' := [(5, I ((0 + 1 : Nat) : Int)), (4, I 0), (2, .ptr 1 0), (0, .ptr 0 0)]) ⟨rfl, rfl, rfl, rfl, trivial⟩ ?_
 refine aa.loop (fun m env H => ∃ (k : Nat) (v : Int) (w : List UInt8), m = 8 * s.length - (p + k) ∧ p + k ≤ 8 * s.length ∧ kS (13 - k) v (k + 1) w = true ∧ lF (aC s (p + k)) v (k + 1) = lF (aC s p) 0 1 ∧
  env = [(5, I ((k + 1 : Nat) : Int)), (4, I v), (2, .ptr 1 0), (0, .ptr 0 0)] ∧ ∃ cs, cs.length = 3 ∧ H = [Rd s ((p + k : Nat) : Int), .cells cs]) (8 * s.length - p)
  ⟨0, 0, [], by simp, by omega, iW, rfl, rfl, _, rfl, rfl⟩ ?_
 rintro m env H ⟨k, v, w, rfl, hk, hag, hm, rfl, cs, hcs, rfl⟩
 obtain ⟨f, hf⟩ : ∃ f, 13 - k = f + 1 := by
  cases h : 13 - k with
  | zero => rw [h] at hag; unfold kS at hag; cases hag
  | succ f => exact ⟨f, rfl⟩
 rw [hf] at hag
 unfold kS at hag
 simp only [Bool.and_eq_true, decide_eq_true_eq] at hag
 obtain ⟨⟨⟨hn12, hv0⟩, hv1⟩, hag⟩ := hag
 match cs, hcs with
 | [c0, c1, c2], _ =>
 rcases Nat.lt_or_ge (p + k) (8 * s.length) with hlt | hge
 ·rw [ik s _ hlt] at hm
  have t1 := tH (gl := gtc) s (p + k) (by omega) hlt
  have hb := mL s ((p + k : Nat) : Int)
  have hb01 : dS s ((p + k : Nat) : Int) = 0 ∨ dS s ((p + k : Nat) : Int) = 1 := by omega
  rw [lF] at hm
  generalize dS s ((p + k : Nat) : Int) = b at *
  have hagb := List.all_eq_true.1 hag b (by rcases hb01 with h | h <;> simp [h])
  have eo := BA v b hv0 hb01
  unfold Cc at hm hagb
  by_cases hesc : k + 1 = 7 ∧ 2 * v + b = 3
  ·rw [if_pos hesc] at hm
   simp only at hm
   obtain ⟨x1, x2⟩ := sP hB hm.symm
   have hk6 : k = 6 := by omega
   have es := DC (gl := gtc) s (p + 7) hs (by omega)
   rw [← dm, show 8 * s.length - (p + 7) = (aC s p).length - 7 by omega] at es
   rw [x1, x2]
   have e6 : p + k + 1 = p + 7 := by omega
   have e7 : p + 7 + sj (nB (((aC s p).drop 7).take 15)) ((aC s p).length - 7) = p + (7 + sj (nB (((aC s p).drop 7).take 15)) ((aC s p).length - 7)) := by omega
   rw [e6] at t1
   rw [e7] at es
   have eo3 := eo
   rw [hesc.2] at eo3
   repeat' (first | refine aa.aD ?_ | (apply aa.q true; rfl; rfl; rfl; rfl; first | exact True.intro | omega | (simp only [tn, Int.reduceToNat]; omega) | (simp only []; omega) | (omega)) | (refine aa.ae [0] ( t1) ?_; simp only [ny, nh, Nat.reduceAdd, Nat.reduceSub]) | (refine aa.ae [0] ( es) ?_; simp only [ny, nh, Nat.reduceAdd, Nat.reduceSub]) | refine aa.ah ?_ | refine aa.af ?_ | refine aa.av ?_ | refine aa.ai ?_ | (refine aa.aG ?_; simp only [nm, nz, Nat.reduceAdd]) | (refine aa.az ?_; simp only [nm, nz, Nat.reduceAdd]) | (refine aa.bz ?_; simp only [nm, nz, Nat.reduceAdd, bS, dF, AV.unD]) | refine aa.aj ?_ | refine aa.cN ?_ | refine aa.cB ?_ | refine aa.aA ?_ | intro _ | (apply aa.gD; rfl; rfl; rfl) | refine aa.au ?_ | refine aa.aQ ?_ | refine aa.aI ?_)
   all_goals first | exact ⟨rfl, rfl⟩ | omega
  ·rw [if_neg hesc] at hm hagb
   have fc := KS (2 * v + b) ((k + 1 : Nat) : Int) (by omega) (by omega)
   rw [← eo] at fc
   have hvb : 2 * v + b ≤ 10001 ∧ 0 ≤ 2 * v + b := by omega
   have esym := eo
   generalize hfe : rT (2 * v + b) ((k + 1 : Nat) : Int) = fr at *
   obtain ⟨a, may⟩ := fr
   rw [eo, hfe] at fc
   rw [← eo] at fc
   simp only at hm hagb fc
   by_cases ha : 0 ≤ a
   ·rw [if_pos ha] at hm hagb
    simp only at hm hagb
    obtain ⟨la, ru, am, q1, q2, q3, q4, x1, x2⟩ := qx hB hm.symm ha
    have ec := I0 (gl := gtc) la ru am q3 ⟨by omega, q2⟩
    rw [q4] at ec
    have hmb := iG la ru
    rw [hBl] at x1 x2
    rcases Nat.lt_or_ge (p + k + 1) (8 * s.length) with hl2 | hg2
    ·have t2 := tH (gl := gtc) s (p + k + 1) (by omega) hl2
     rw [if_neg (by omega)] at x1 x2
     rw [Dy s p (k + 1) (by omega), show p + (k + 1) = p + k + 1 by omega] at x1
     have hb2 := mL s ((p + k + 1 : Nat) : Int)
     rw [x1, x2]
     generalize dS s ((p + k + 1 : Nat) : Int) = b2 at *
     have hmul : -12 ≤ (am : Int) * (1 - 2 * b2) ∧ (am : Int) * (1 - 2 * b2) ≤ 12 := by
      rcases (show b2 = 0 ∨ b2 = 1 by omega) with h | h
      ·subst h; omega
      ·subst h; omega
     repeat' (first | refine aa.aD ?_ | (apply aa.q true; rfl; rfl; rfl; rfl; first | exact True.intro | omega | (simp only [tn, Int.reduceToNat]; omega) | (omega)) | (refine aa.ae [0] ( t1) ?_; simp only [ny, nh, Nat.reduceAdd, Nat.reduceSub]) | (refine aa.ae [0] ( t2) ?_; simp only [ny, nh, Nat.reduceAdd, Nat.reduceSub]) | refine aa.ak (fc) ?_ | refine aa.ak (ec) ?_ | refine aa.ah ?_ | refine aa.af ?_ | refine aa.av ?_ | refine aa.ai ?_ | (refine aa.aG ?_; simp only [nm, nz, Nat.reduceAdd]) | (refine aa.az ?_; simp only [nm, nz, Nat.reduceAdd]) | (refine aa.bz ?_; simp only [nm, nz, Nat.reduceAdd, bS, dF, AV.unD]) | refine aa.aj ?_ | refine aa.cN ?_ | refine aa.cB ?_ | refine aa.aA ?_ | intro _ | (apply aa.gD; rfl; rfl; rfl) | refine aa.au ?_ | refine aa.aQ ?_ | refine aa.aI ?_)
     all_goals first | exact ⟨rfl, rfl⟩ | omega
    ·have t2 := tG (gl := gtc) s (p + k + 1) (by omega) (by omega)
     rw [if_pos (by omega)] at x1 x2
     rw [x1, x2]
     repeat' (first | refine aa.aD ?_ | (apply aa.q true; rfl; rfl; rfl; rfl; first | exact True.intro | omega | (simp only [tn, Int.reduceToNat]; omega) | (omega)) | (refine aa.ae [0] ( t1) ?_; simp only [ny, nh, Nat.reduceAdd, Nat.reduceSub]) | (refine aa.ae [0] ( t2) ?_; simp only [ny, nh, Nat.reduceAdd, Nat.reduceSub]) | refine aa.ak (fc) ?_ | refine aa.ah ?_ | refine aa.af ?_ | refine aa.av ?_ | refine aa.ai ?_ | (refine aa.aG ?_; simp only [nm, nz, Nat.reduceAdd]) | (refine aa.az ?_; simp only [nm, nz, Nat.reduceAdd]) | (refine aa.bz ?_; simp only [nm, nz, Nat.reduceAdd, bS, dF, AV.unD]) | refine aa.aj ?_ | refine aa.cN ?_ | refine aa.cB ?_ | refine aa.aA ?_ | intro _ | (apply aa.gD; rfl; rfl; rfl) | refine aa.au ?_ | refine aa.aQ ?_ | refine aa.aI ?_)
     all_goals first | exact ⟨rfl, rfl⟩ | omega
   ·rw [if_neg ha] at hm hagb
    cases may with
    | false =>
     simp only [if_true] at hm
     obtain ⟨x1, x2⟩ := qw hB hm.symm (by decide)
     rw [x1, x2]
     repeat' (first | refine aa.aD ?_ | (apply aa.q true; rfl; rfl; rfl; rfl; first | exact True.intro | omega | (simp only [tn, Int.reduceToNat]; omega) | (omega)) | (refine aa.ae [0] ( t1) ?_; simp only [ny, nh, Nat.reduceAdd, Nat.reduceSub]) | refine aa.ak (fc) ?_ | refine aa.ah ?_ | refine aa.af ?_ | refine aa.av ?_ | refine aa.ai ?_ | (refine aa.aG ?_; simp only [nm, nz, Nat.reduceAdd]) | (refine aa.az ?_; simp only [nm, nz, Nat.reduceAdd]) | (refine aa.bz ?_; simp only [nm, nz, Nat.reduceAdd, bS, dF, AV.unD]) | refine aa.aj ?_ | refine aa.cN ?_ | refine aa.cB ?_ | refine aa.aA ?_ | intro _ | (apply aa.gD; rfl; rfl; rfl) | refine aa.au ?_ | refine aa.aQ ?_ | refine aa.aI ?_)
     all_goals first | exact ⟨rfl, rfl⟩ | omega
    | true =>
     simp only [Bool.true_eq_false, if_false] at hm hagb
     cases hr : jo dU w (bJ b) with
     | done i c' => rw [hr] at hagb; cases hagb
     | fail => rw [hr] at hagb; cases hagb
     | next w' =>
      rw [hr] at hagb
      simp only at hagb
      have hk12 : k + 2 ≤ 12 := by
       cases f with
       | zero => unfold kS at hagb; cases hagb
       | succ f =>
        unfold kS at hagb
        simp only [Bool.and_eq_true, decide_eq_true_eq] at hagb
        exact hagb.1.1.1
      have hf2 : 13 - (k + 1) = f := by omega
      repeat' (first | refine aa.aD ?_ | (apply aa.q true; rfl; rfl; rfl; rfl; first | exact True.intro | omega | (simp only [tn, Int.reduceToNat]; omega) | (omega)) | (refine aa.ae [0] ( t1) ?_; simp only [ny, nh, Nat.reduceAdd, Nat.reduceSub]) | refine aa.ak (fc) ?_ | refine aa.ah ?_ | refine aa.af ?_ | refine aa.av ?_ | refine aa.ai ?_ | (refine aa.aG ?_; simp only [nm, nz, Nat.reduceAdd]) | (refine aa.az ?_; simp only [nm, nz, Nat.reduceAdd]) | (refine aa.bz ?_; simp only [nm, nz, Nat.reduceAdd, bS, dF, AV.unD]) | refine aa.aj ?_ | refine aa.cN ?_ | refine aa.cB ?_ | refine aa.aA ?_ | intro _ | (apply aa.gD; rfl; rfl; rfl) | refine aa.au ?_ | refine aa.aQ ?_ | refine aa.aI ?_)
      all_goals first
       | exact aa.round [(5, I ((k + 1 + 1 : Nat) : Int)), (4, I (2 * v + b)), (2, .ptr 1 0), (0, .ptr 0 0)] (8 * s.length - (p + (k + 1))) (by omega) ⟨rfl, congrArg I eo, rfl, rfl, trivial⟩ ⟨k + 1, 2 * v + b, w', rfl, by omega, by rw [hf2]; exact hagb, hm, rfl, _, rfl, rfl⟩
       | omega
 ·have hpk : p + k = 8 * s.length := by omega
  rw [kr s _ hge] at hm
  have hm2 : lF (aC s p) 0 1 = (0, 2, k) := by rw [← hm]; rfl
  obtain ⟨x1, x2⟩ := qw hB hm2 (by decide)
  have t1 := tG (gl := gtc) s (p + k) (by omega) hpk
  rw [x1, x2]
  repeat' (first | refine aa.aD ?_ | refine aa.aY true ?_ | (refine aa.ae [0] ( t1) ?_; simp only [ny, nh, Nat.reduceAdd, Nat.reduceSub]) | refine aa.ah ?_ | refine aa.af ?_ | refine aa.av ?_ | refine aa.ai ?_ | (refine aa.aG ?_; simp only [nm, nz, Nat.reduceAdd]) | (refine aa.az ?_; simp only [nm, nz, Nat.reduceAdd]) | (refine aa.bz ?_; simp only [nm, nz, Nat.reduceAdd, bS, dF, AV.unD]) | refine aa.aj ?_ | refine aa.cN ?_ | refine aa.cB ?_ | refine aa.aA ?_ | intro _ | (apply aa.gD; rfl; rfl; rfl) | refine aa.au ?_ | refine aa.aQ ?_ | refine aa.aI ?_)
  all_goals first | exact ⟨rfl, rfl⟩ | omega
end Tc
namespace Tc
open Go Bt
attribute [local irreducible] aa ACalls
variable {gl : List (Nat × List D)}
theorem DD (v : Int) (n : Nat) : ((mR v n).2.1 = 0 → (mR v n).2.2 = 7 + sj v n) ∧ ((mR v n).2.1 ≠ 0 → (mR v n).2.2 = 0 ∧ (mR v n).1 = ev0) := by
 unfold mR sj
 split
 ·exact ⟨fun h => (by cases h), fun _ => ⟨rfl, rfl⟩⟩
 ·split
  ·exact ⟨fun h => (by cases h), fun _ => ⟨rfl, rfl⟩⟩
  ·exact ⟨fun _ => rfl, fun h => absurd rfl h⟩
theorem yV {B : List Int} (hB : ∀ b ∈ B, b = 0 ∨ b = 1) : ((evX B).2.1 = 0 → (evX B).2.2 = r9 B) ∧ ((evX B).2.1 ≠ 0 → (evX B).2.2 = 0 ∧ (evX B).1 = ev0) := by
 rcases hx : lF B 0 1 with ⟨a, e, c⟩
 by_cases he : e = 0
 ·subst he
  by_cases ha : 0 ≤ a
  ·obtain ⟨la, ru, am, _, _, _, _, x1, x2⟩ := qx hB hx ha
   rw [x1, x2]
   split
   ·exact ⟨fun h => (by cases h), fun _ => ⟨rfl, rfl⟩⟩
   ·exact ⟨fun _ => rfl, fun h => absurd rfl h⟩
  ·obtain ⟨h1, h2⟩ := jC 13 0 1 [] iW B hB
   rw [hx] at h1 h2
   simp only at h1 h2
   obtain ⟨_, i, _, h5⟩ := h2 h1.symm
   have ha1 : a = -1 := by
    unfold okE at h5
    split at h5
    ·exact of_decide_eq_true h5
    ·simp only [Bool.and_eq_true, decide_eq_true_eq] at h5
     omega
   subst ha1
   obtain ⟨x1, x2⟩ := sP hB hx
   rw [x1, x2]
   exact DD _ _
 ·obtain ⟨x1, x2⟩ := qw hB hx he
  rw [x1]
  exact ⟨fun h => absurd h he, fun _ => ⟨rfl, rfl⟩⟩
theorem Bs (s : List UInt8) (p : Nat) (hp : p ≤ 8 * s.length) (h0 : (evX (aC s p)).2.1 = 0) : p + (evX (aC s p)).2.2 ≤ 8 * s.length := by
 have hB := gG s p
 have hBl := dK s p
 rcases hx : lF (aC s p) 0 1 with ⟨a, e, c⟩
 by_cases he : e = 0
 ·subst he
  by_cases ha : 0 ≤ a
  ·obtain ⟨la, ru, am, _, _, _, _, x1, x2⟩ := qx hB hx ha
   rw [x1] at h0 ⊢
   split at h0
   ·cases h0
   ·rename_i hc
    rw [if_neg hc]
    simp only
    omega
  ·obtain ⟨h1, h2⟩ := jC 13 0 1 [] iW _ hB
   rw [hx] at h1 h2
   simp only at h1 h2
   obtain ⟨_, i, _, h5⟩ := h2 h1.symm
   have ha1 : a = -1 := by
    unfold okE at h5
    split at h5
    ·exact of_decide_eq_true h5
    ·simp only [Bool.and_eq_true, decide_eq_true_eq] at h5
     omega
   subst ha1
   obtain ⟨x1, x2⟩ := sP hB hx
   rw [x1] at h0 ⊢
   unfold mR at h0 ⊢
   split at h0
   ·cases h0
   ·rename_i hc
    rw [if_neg hc]
    split at h0
    ·cases h0
    ·rename_i hc2
     rw [if_neg hc2]
     simp only
     omega
 ·obtain ⟨x1, x2⟩ := qw hB hx he
  rw [x1] at h0
  exact absurd h0 he
attribute [local irreducible] evX r9 aC
theorem Eg (s : List UInt8) (p : Nat) (hs : s.length ≤ 1000000) (hp : p ≤ 8 * s.length) : ACalls (cxg gtc) 173 [.ptr 0 0] [Rd s p]
  (fun r H => r = .bW [.d (evD (evX (aC s p)).1), I (evX (aC s p)).2.1] ∧ H = [Rd s ((p + (evX (aC s p)).2.2 : Nat) : Int)]) := by
 have rd := Gs s p hs hp
 have a0 := qG (gl := gtc) s p
 obtain ⟨u1, u2⟩ := yV (gG s p)
 by_cases h0 : (evX (aC s p)).2.1 = 0
 ·have e := u1 h0
  rw [← e] at rd
  generalize evX (aC s p) = x at *
  obtain ⟨ev, er, c⟩ := x
  simp only at h0 rd
  subst h0
  refine ACalls.enter Tryz.func173 rfl Tryz.ntmps173 (by kernel_rfl) rfl ?_; simp only [aB, nm, Nat.reduceAdd]
  repeat' (first | refine aa.aD ?_ | refine aa.aY true ?_ | (refine aa.ae [0] ( a0) ?_; simp only [ny, nh, Nat.reduceAdd, Nat.reduceSub]) | (refine aa.ae [0] ( rd) ?_; simp only [ny, nh, Nat.reduceAdd, Nat.reduceSub]) | refine aa.ai ?_ | (refine aa.aG ?_; simp only [nm, nz, Nat.reduceAdd]) | (refine aa.az ?_; simp only [nm, nz, Nat.reduceAdd]) | refine aa.aU ?_ | intro _ | refine aa.au ?_)
  all_goals first | exact ⟨rfl, rfl⟩ | omega
 ·obtain ⟨e1, e2⟩ := u2 h0
  have sk := fM (gl := gtc) s ((p + r9 (aC s p) : Nat) : Int) p (by omega) ⟨by omega, by omega⟩
  generalize evX (aC s p) = x at *
  generalize r9 (aC s p) = q at *
  obtain ⟨ev, er, c⟩ := x
  simp only at h0 rd e1 e2
  subst e1
  refine ACalls.enter Tryz.func173 rfl Tryz.ntmps173 (by kernel_rfl) rfl ?_; simp only [aB, nm, Nat.reduceAdd]
  repeat' (first | refine aa.aD ?_ | refine aa.aY true ?_ | (refine aa.ae [0] ( a0) ?_; simp only [ny, nh, Nat.reduceAdd, Nat.reduceSub]) | (refine aa.ae [0] ( rd) ?_; simp only [ny, nh, Nat.reduceAdd, Nat.reduceSub]) | (refine aa.ae [0] ( sk) ?_; simp only [ny, nh, Nat.reduceAdd, Nat.reduceSub]) | refine aa.ai ?_ | (refine aa.aG ?_; simp only [nm, nz, Nat.reduceAdd]) | (refine aa.az ?_; simp only [nm, nz, Nat.reduceAdd]) | refine aa.aU ?_ | intro _ | refine aa.au ?_)
  all_goals first | exact ⟨rfl, rfl⟩ | omega
def dcX (v : Int) (n : Nat) : Int × Int × Nat := if n < 8 then (0, 2, 0) else if v = 0 ∨ v = 128 then (0, 7, 8) else if v = 255 then (128, 0, 8) else (v, 0, 8)
attribute [local irreducible] nB
theorem IZ (s : List UInt8) (p : Nat) (hs : s.length ≤ 1000000) (hp : p ≤ 8 * s.length) : ACalls (cxg gl) 167 [.ptr 0 0] [Rd s p]
  (fun r H => r = .bW [I (dcX (nB ((aC s p).take 8)) (8 * s.length - p)).1, I (dcX (nB ((aC s p).take 8)) (8 * s.length - p)).2.1] ∧ H = [Rd s ((p + (dcX (nB ((aC s p).take 8)) (8 * s.length - p)).2.2 : Nat) : Int)]) := by
 have tk := iP (gl := gl) s p 8 (by omega) hp (by omega)
 unfold pkN tkN at tk
 unfold dcX
 by_cases h : 8 * s.length < p + 8
 ·rw [if_pos h, if_pos h] at tk
  rw [if_pos (by omega)]
  refine ACalls.enter Tryz.func167 rfl Tryz.ntmps167 (by kernel_rfl) rfl ?_; simp only [aB, nm, Nat.reduceAdd]
  repeat' (first | refine aa.aD ?_ | refine aa.aY true ?_ | (refine aa.ae [0] ( tk) ?_; simp only [ny, nh, Nat.reduceAdd, Nat.reduceSub]) | refine aa.ah ?_ | refine aa.af ?_ | refine aa.av ?_ | refine aa.ai ?_ | intro _ | refine aa.au ?_)
  all_goals first | exact ⟨rfl, rfl⟩ | omega
 ·rw [if_neg h, if_neg h] at tk
  rw [if_neg (by omega)]
  generalize nB ((aC s p).take 8) = v at *
  by_cases h0 : v = 0 ∨ v = 128
  ·rw [if_pos h0]
   rcases h0 with rfl | rfl
   all_goals
    refine ACalls.enter Tryz.func167 rfl Tryz.ntmps167 (by kernel_rfl) rfl ?_; simp only [aB, nm, Nat.reduceAdd]
    repeat' (first | refine aa.aD ?_ | refine aa.aY true ?_ | (refine aa.ae [0] ( tk) ?_; simp only [ny, nh, Nat.reduceAdd, Nat.reduceSub]) | refine aa.ah ?_ | refine aa.af ?_ | refine aa.av ?_ | refine aa.ai ?_ | intro _ | refine aa.au ?_)
    all_goals first | exact ⟨rfl, rfl⟩ | omega
  ·rw [if_neg h0]
   by_cases h1 : v = 255
   ·rw [if_pos h1]
    subst h1
    refine ACalls.enter Tryz.func167 rfl Tryz.ntmps167 (by kernel_rfl) rfl ?_; simp only [aB, nm, Nat.reduceAdd]
    repeat' (first | refine aa.aD ?_ | refine aa.aY true ?_ | (refine aa.ae [0] ( tk) ?_; simp only [ny, nh, Nat.reduceAdd, Nat.reduceSub]) | refine aa.ah ?_ | refine aa.af ?_ | refine aa.av ?_ | refine aa.ai ?_ | intro _ | refine aa.au ?_)
    all_goals first | exact ⟨rfl, rfl⟩ | omega
   ·rw [if_neg h1]
    refine ACalls.enter Tryz.func167 rfl Tryz.ntmps167 (by kernel_rfl) rfl ?_; simp only [aB, nm, Nat.reduceAdd]
    repeat' (first | refine aa.aD ?_ | refine aa.aY true ?_ | (refine aa.ae [0] ( tk) ?_; simp only [ny, nh, Nat.reduceAdd, Nat.reduceSub]) | refine aa.ah ?_ | refine aa.af ?_ | refine aa.av ?_ | refine aa.ai ?_ | intro _ | refine aa.au ?_)
    all_goals first | exact ⟨rfl, rfl⟩ | omega
end Tc
namespace Tc
open Go Bt
attribute [local irreducible] aa ACalls
variable {gl : List (Nat × List D)}
theorem I2 {B : List Int} (hB : ∀ b ∈ B, b = 0 ∨ b = 1) (h0 : (evX B).2.1 = 0) : 0 ≤ (evX B).1.run ∧ (evX B).1.run ≤ 63 := by
 rcases hx : lF B 0 1 with ⟨a, e, c⟩
 by_cases he : e = 0
 ·subst he
  by_cases ha : 0 ≤ a
  ·obtain ⟨la, ru, am, _, _, q3, _, x1, x2⟩ := qx hB hx ha
   rw [x1] at h0 ⊢
   split at h0
   ·cases h0
   ·rename_i hc
    rw [if_neg hc]
    simp only
    omega
  ·obtain ⟨h1, h2⟩ := jC 13 0 1 [] iW _ hB
   rw [hx] at h1 h2
   simp only at h1 h2
   obtain ⟨_, i, _, h5⟩ := h2 h1.symm
   have ha1 : a = -1 := by
    unfold okE at h5
    split at h5
    ·exact of_decide_eq_true h5
    ·simp only [Bool.and_eq_true, decide_eq_true_eq] at h5
     omega
   subst ha1
   obtain ⟨x1, x2⟩ := sP hB hx
   rw [x1] at h0 ⊢
   unfold mR at h0 ⊢
   split at h0
   ·cases h0
   ·rename_i hc
    rw [if_neg hc]
    split at h0
    ·cases h0
    ·rename_i hc2
     rw [if_neg hc2]
     unfold kN at hc2
     simp only [Bool.or_eq_true, not_or, Bool.not_eq_true', Bool.not_eq_false] at hc2
     exact (of_decide_eq_true (show decide _ = true from hc2.1)).1
 ·obtain ⟨x1, x2⟩ := qw hB hx he
  rw [x1] at h0
  exact absurd h0 he
def fJ : Nat → List Int → Int → List Ev × Int × Nat
 | 0, _, _ => ([], 7, 0)
 | f + 1, B, a => if (evX B).2.1 ≠ 0 then ([], (evX B).2.1, 0) else
  if 64 < a + ((evX B).1.run + 1) then ([], 7, (evX B).2.2) else
  if (evX B).1.last = true then ([(evX B).1], 0, (evX B).2.2) else
  if (fJ f (B.drop (evX B).2.2) (a + ((evX B).1.run + 1))).2.1 ≠ 0 then ([], (fJ f (B.drop (evX B).2.2) (a + ((evX B).1.run + 1))).2.1, (evX B).2.2 + (fJ f (B.drop (evX B).2.2) (a + ((evX B).1.run + 1))).2.2) else
  ((evX B).1 :: (fJ f (B.drop (evX B).2.2) (a + ((evX B).1.run + 1))).1, 0, (evX B).2.2 + (fJ f (B.drop (evX B).2.2) (a + ((evX B).1.run + 1))).2.2)
def AL (acc : List Ev) (q : Nat) (y : List Ev × Int × Nat) : List Ev × Int × Nat := if y.2.1 ≠ 0 then ([], y.2.1, q + y.2.2) else (acc ++ y.1, 0, q + y.2.2)
theorem Lb (y : List Ev × Int × Nat) (h : y.2.1 ≠ 0 → y.1 = []) : AL [] 0 y = y := by
 unfold AL
 split
 ·rename_i h1
  obtain ⟨l, e, c⟩ := y
  simp only at h h1 ⊢
  rw [h h1, Nat.zero_add]
 ·rename_i h1
  obtain ⟨l, e, c⟩ := y
  simp only [ne_eq, Decidable.not_not] at h1
  subst h1
  simp
theorem Gq : ∀ (f : Nat) (B : List Int) (a : Int), (fJ f B a).2.1 ≠ 0 → (fJ f B a).1 = []
 | 0, _, _, _ => rfl
 | f + 1, B, a, h => by
  rw [fJ] at h ⊢
  split
  ·rfl
  ·rename_i h1
   rw [if_neg h1] at h
   split
   ·rfl
   ·rename_i h2
    rw [if_neg h2] at h
    split
    ·rename_i h3
     rw [if_pos h3] at h
     exact absurd rfl h
    ·rename_i h3
     rw [if_neg h3] at h
     split
     ·rfl
     ·rename_i h4
      rw [if_neg h4] at h
      exact absurd rfl h
theorem DJ {acc : List Ev} {q f : Nat} {B : List Int} {a : Int} (h0 : (evX B).2.1 = 0) (h1 : ¬ 64 < a + ((evX B).1.run + 1)) (h2 : (evX B).1.last = false) :
  AL acc q (fJ (f + 1) B a) = AL (acc ++ [(evX B).1]) (q + (evX B).2.2) (fJ f (B.drop (evX B).2.2) (a + ((evX B).1.run + 1))) := by
 rw [fJ, if_neg (by simpa using h0), if_neg h1, if_neg (by rw [h2]; decide)]
 unfold AL
 by_cases h : (fJ f (B.drop (evX B).2.2) (a + ((evX B).1.run + 1))).2.1 ≠ 0
 ·rw [if_pos h, if_pos h]
  simp only
  rw [if_pos h, Nat.add_assoc]
 ·rw [if_neg h, if_neg h]
  simp [Nat.add_assoc]
theorem yU (l : List Ev) (e : Ev) : bG (l ++ [e]) = bG l ++ [evD e] := by simp [bG]
attribute [local irreducible] evX aC fJ bG
theorem Gt (s : List UInt8) (p : Nat) (a0 : Int) (hs : s.length ≤ 1000000) (hp : p ≤ 8 * s.length) (ha0 : 0 ≤ a0 ∧ a0 ≤ 1) : ACalls (cxg gtc) 168 [.ptr 0 0, I a0] [Rd s p]
  (fun r H => r = .bW [.d (.sl 3 (bG (fJ 66 (aC s p) a0).1)), I (fJ 66 (aC s p) a0).2.1] ∧ H = [Rd s ((p + (fJ 66 (aC s p) a0).2.2 : Nat) : Int)]) := by
 have e00 : bG [] = [] := by unfold bG; rfl
 have hc0 := Lb (fJ 66 (aC s p) a0) (Gq _ _ _)
 generalize hR : fJ 66 (aC s p) a0 = R at *
 refine ACalls.enter Tryz.func168 rfl Tryz.ntmps168 (by kernel_rfl) rfl ?_; simp only [aB, nm, Nat.reduceAdd]
 repeat (first | refine aa.aD ?_ | refine aa.aY true ?_ | refine aa.ah ?_ | refine aa.af ?_ | refine aa.av ?_ | refine aa.ai ?_ | (refine aa.aG ?_; simp only [nm, nz, Nat.reduceAdd]) | (refine aa.az ?_; simp only [nm, nz, Nat.reduceAdd]) | refine aa.aU ?_ | refine aa.aV ?_ | refine aa.H4 ?_ | apply aa.label | (refine aa.yM 6 144 3 ?_; simp only [List.length_cons, List.length_nil, Nat.reduceAdd, List.cons_append, List.nil_append]) | (refine aa.qZ 6 ?_; simp only [List.set_cons_zero, List.set_cons_succ]))
 refine aa.weak (env' := [(6, .own 3 (bG []) 1), (1, I a0), (0, .ptr 0 0)]) ⟨by rw [e00]; rfl, rfl, rfl, trivial⟩ ?_
 refine aa.loop (fun m env H => ∃ (f : Nat) (acc : List Ev) (q : Nat) (a : Int), m = f ∧ p + q ≤ 8 * s.length ∧ (0 ≤ a ∧ a ≤ 64 ∧ 65 - a < f) ∧ (acc.length : Int) ≤ a ∧ AL acc q (fJ f (aC s (p + q)) a) = R ∧
  env = [(6, .own 3 (bG acc) 1), (1, I a), (0, .ptr 0 0)] ∧ H = [Rd s ((p + q : Nat) : Int), .front 144 3 (bG acc).length]) 66
  ⟨66, [], 0, a0, rfl, by omega, by omega, by simp; omega, by rw [Nat.add_zero, hR]; exact hc0, rfl, by first | (rw [e00]; done) | (rw [e00]; rfl)⟩ ?_
 rintro m env H ⟨f, acc, q, a, rfl, hq, ha, hacc, hm, rfl, rfl⟩
 obtain ⟨f, rfl⟩ : ∃ g, m = g + 1 := ⟨m - 1, by omega⟩
 have tk := Eg s (p + q) hs hq
 have hB := gG s (p + q)
 have hal := nH acc
 by_cases h0 : (evX (aC s (p + q))).2.1 = 0
 ·have hrun := I2 hB h0
  have hle := Bs s (p + q) hq h0
  by_cases h1 : 64 < a + ((evX (aC s (p + q))).1.run + 1)
  ·have hx : fJ (f + 1) (aC s (p + q)) a = ([], 7, (evX (aC s (p + q))).2.2) := by unfold fJ; rw [if_neg (by simpa using h0), if_pos h1]
   rw [hx] at hm
   have hm2 : R = ([], 7, q + (evX (aC s (p + q))).2.2) := by rw [← hm]; rfl
   rw [hm2]
   generalize evX (aC s (p + q)) = x at *
   obtain ⟨⟨la, ru, le⟩, er, c⟩ := x
   simp only at h0 h1 hrun tk
   subst h0
   rw [e00, ← Nat.add_assoc]
   repeat' (first | refine aa.aD ?_ | refine aa.aY true ?_ | (refine aa.ae [0] ( tk) ?_; simp only [ny, nh, Nat.reduceAdd, Nat.reduceSub]) | refine aa.ah ?_ | refine aa.af ?_ | refine aa.av ?_ | refine aa.ai ?_ | (refine aa.aG ?_; simp only [nm, nz, Nat.reduceAdd]) | (refine aa.az ?_; simp only [nm, nz, Nat.reduceAdd]) | refine aa.aU ?_ | refine aa.aV ?_ | (apply aa.Jw (.bW [.d (.sl 3 []), I 7]); rfl; exact cn.bW ⟨cn.d (cL.bf 3), cn.refl _, trivial⟩; rfl; rfl; rfl) | intro _ | refine aa.aI ?_)
   all_goals first | exact ⟨rfl, rfl⟩ | omega
  ·cases h2 : (evX (aC s (p + q))).1.last with
   | true =>
    have hx : fJ (f + 1) (aC s (p + q)) a = ([(evX (aC s (p + q))).1], 0, (evX (aC s (p + q))).2.2) := by unfold fJ; rw [if_neg (by simpa using h0), if_neg h1, if_pos h2]
    rw [hx] at hm
    have hm2 : R = (acc ++ [(evX (aC s (p + q))).1], 0, q + (evX (aC s (p + q))).2.2) := by rw [← hm]; rfl
    rw [hm2]
    have eA := yU acc (evX (aC s (p + q))).1
    generalize evX (aC s (p + q)) = x at *
    obtain ⟨⟨la, ru, le⟩, er, c⟩ := x
    simp only at h0 h1 h2 hrun tk eA
    subst h0
    subst h2
    rw [← Nat.add_assoc]
    simp only
    rw [eA]
    repeat' (first | refine aa.aD ?_ | (apply aa.append; (iterate 11 rfl); (first | rfl | (simp only [List.length_append, List.length_map, List.length_cons, List.length_nil]; omega)); (first | (simp only [List.length_append, List.length_map, List.length_cons, List.length_nil]; omega) | (rw [hal]; omega)); simp only [List.set_cons_zero, List.set_cons_succ]) | (apply aa.q true; rfl; rfl; rfl; rfl; first | exact True.intro | omega | (simp only [tn, Int.reduceToNat]; omega) | (rw [hal]; omega)) | (refine aa.ae [0] ( tk) ?_; simp only [ny, nh, Nat.reduceAdd, Nat.reduceSub]) | refine aa.ah ?_ | refine aa.af ?_ | refine aa.av ?_ | refine aa.ai ?_ | (refine aa.aG ?_; simp only [nm, nz, Nat.reduceAdd]) | (refine aa.az ?_; simp only [nm, nz, Nat.reduceAdd]) | refine aa.aU ?_ | refine aa.aV ?_ | (apply aa.mY (.bW [.d (.sl 3 (bG acc ++ [evD ⟨true, ru, le⟩])), I 0]); rfl; exact cn.bW ⟨cn.own _ _ _, cn.refl _, trivial⟩; rfl; rfl; rfl) | intro _ | refine aa.aI ?_)
    all_goals first | exact ⟨rfl, rfl⟩ | omega
   | false =>
    rw [DJ h0 h1 h2, dm, Nat.add_assoc] at hm
    have eA := yU acc (evX (aC s (p + q))).1
    generalize evX (aC s (p + q)) = x at *
    obtain ⟨⟨la, ru, le⟩, er, c⟩ := x
    simp only at h0 h1 h2 hrun tk eA hm hle
    subst h0
    subst h2
    rw [Nat.add_assoc] at tk
    repeat' (first | refine aa.aD ?_ | (apply aa.append; (iterate 11 rfl); (first | rfl | (simp only [List.length_append, List.length_map, List.length_cons, List.length_nil]; omega)); (first | (simp only [List.length_append, List.length_map, List.length_cons, List.length_nil]; omega) | (rw [hal]; omega)); simp only [List.set_cons_zero, List.set_cons_succ]) | (apply aa.q true; rfl; rfl; rfl; rfl; first | exact True.intro | omega | (simp only [tn, Int.reduceToNat]; omega) | (rw [hal]; omega)) | (refine aa.ae [0] ( tk) ?_; simp only [ny, nh, Nat.reduceAdd, Nat.reduceSub]) | refine aa.ah ?_ | refine aa.af ?_ | refine aa.av ?_ | refine aa.ai ?_ | (refine aa.aG ?_; simp only [nm, nz, Nat.reduceAdd]) | (refine aa.az ?_; simp only [nm, nz, Nat.reduceAdd]) | refine aa.aU ?_ | refine aa.aV ?_ | intro _ | refine aa.aI ?_)
    all_goals first
     | exact aa.lC 2 [(6, .own 3 (bG (acc ++ [⟨false, ru, le⟩])) 1), (1, I (a + (ru + 1))), (0, .ptr 0 0)] f (by omega) rfl rfl rfl rfl ⟨by rw [eA]; rfl, rfl, rfl, trivial⟩ ⟨f, acc ++ [⟨false, ru, le⟩], q + c, a + (ru + 1), rfl, by omega, by omega, by rw [List.length_append]; simp; omega, hm, rfl, by first | (rw [eA]; done) | (rw [eA]; rfl)⟩
     | omega
 ·have hx : fJ (f + 1) (aC s (p + q)) a = ([], (evX (aC s (p + q))).2.1, 0) := by unfold fJ; rw [if_pos h0]
  obtain ⟨u1, u2⟩ := (yV hB).2 h0
  rw [hx] at hm
  have hm2 : R = ([], (evX (aC s (p + q))).2.1, q + 0) := by rw [← hm]; unfold AL; rw [if_pos h0]
  rw [hm2]
  generalize evX (aC s (p + q)) = x at *
  obtain ⟨⟨la, ru, le⟩, er, c⟩ := x
  simp only at h0 tk u1
  subst u1
  simp only [Nat.add_zero] at tk ⊢
  rw [e00]
  repeat' (first | refine aa.aD ?_ | refine aa.aY true ?_ | (refine aa.ae [0] ( tk) ?_; simp only [ny, nh, Nat.reduceAdd, Nat.reduceSub]) | refine aa.ah ?_ | refine aa.af ?_ | refine aa.av ?_ | refine aa.ai ?_ | (refine aa.aG ?_; simp only [nm, nz, Nat.reduceAdd]) | (refine aa.az ?_; simp only [nm, nz, Nat.reduceAdd]) | refine aa.aU ?_ | refine aa.aV ?_ | (apply aa.Jw (.bW [.d (.sl 3 []), I er]); rfl; exact cn.bW ⟨cn.d (cL.bf 3), cn.refl _, trivial⟩; rfl; rfl; rfl) | intro _ | refine aa.aI ?_)
  all_goals first | exact ⟨rfl, rfl⟩ | omega
end Tc
namespace Tc
open Go Bt Bl
attribute [local irreducible] aa ACalls
variable {gl : List (Nat × List D)}
def dc0 (intra : Bool) (B : List Int) : Int × Int × Nat := if intra = true then dcX (nB (B.take 8)) B.length else (0, 0, 0)
def blX (intra coded : Bool) (B : List Int) : Int × List Ev × Int × Nat :=
  if (dc0 intra B).2.1 ≠ 0 then (0, [], (dc0 intra B).2.1, 0) else
  if coded = true then
    (if (fJ 66 (B.drop (dc0 intra B).2.2) (frm intra : Nat)).2.1 ≠ 0 then (0, [], (fJ 66 (B.drop (dc0 intra B).2.2) (frm intra : Nat)).2.1, 0)
     else ((dc0 intra B).1, (fJ 66 (B.drop (dc0 intra B).2.2) (frm intra : Nat)).1, 0, (dc0 intra B).2.2 + (fJ 66 (B.drop (dc0 intra B).2.2) (frm intra : Nat)).2.2))
  else ((dc0 intra B).1, [], 0, (dc0 intra B).2.2)
theorem GD (v : Int) (n : Nat) : (dcX v n).2.2 ≤ n := by
 unfold dcX
 split
 ·simp
 ·split
  ·simp only; omega
  ·split <;> (simp only; omega)
theorem xj : ∀ (f : Nat) (s : List UInt8) (p : Nat) (a : Int), p ≤ 8 * s.length → p + (fJ f (aC s p) a).2.2 ≤ 8 * s.length
 | 0, s, p, a, h => by simp [fJ]; exact h
 | f + 1, s, p, a, h => by
  rw [fJ]
  by_cases h0 : (evX (aC s p)).2.1 = 0
  ·have hle := Bs s p h h0
   rw [if_neg (by simpa using h0)]
   have ih := xj f s (p + (evX (aC s p)).2.2) (a + ((evX (aC s p)).1.run + 1)) hle
   rw [← dm] at ih
   split
   ·exact hle
   ·split
    ·exact hle
    ·split <;> (simp only; omega)
  ·rw [if_pos h0]
   simpa using h
theorem KQ (b : Bool) : (0 : Int) ≤ (frm b : Nat) ∧ ((frm b : Nat) : Int) ≤ 1 := by cases b <;> decide
attribute [local irreducible] fJ dcX nB aC bG frm
theorem Ha (s : List UInt8) (p : Nat) (intra coded : Bool) (hs : s.length ≤ 1000000) (hp : p ≤ 8 * s.length) : ACalls (cxg gtc) 160 [.ptr 0 0, B intra, B coded] [Rd s p]
  (fun r H => r = .bW [I (blX intra coded (aC s p)).1, .d (.sl 3 (bG (blX intra coded (aC s p)).2.1)), I (blX intra coded (aC s p)).2.2.1] ∧ H = [Rd s ((p + (blX intra coded (aC s p)).2.2.2 : Nat) : Int)]) := by
 have e00 : bG [] = [] := by unfold bG; rfl
 have a0 := qG (gl := gtc) s p
 have fr := Gf (gl := gtc) intra
 have hfb := KQ intra
 have hBl := dK s p
 have fc := IZ (gl := gtc) s p hs hp
 rw [← hBl] at fc
 have hdl := GD (nB ((aC s p).take 8)) (aC s p).length
 have ec := fun q hq => Gt s (p + q) (frm intra : Nat) hs hq hfb
 have hel := fun q hq => xj 66 s (p + q) (frm intra : Nat) hq
 unfold blX dc0
 cases intra with
 | true =>
  simp only [if_true]
  generalize dcX (nB ((aC s p).take 8)) (aC s p).length = d at *
  obtain ⟨dc, de, dn⟩ := d
  simp only at fc hdl ⊢
  by_cases hd : de = 0
  ·subst hd
   rw [if_neg (by simp)]
   cases coded with
   | true =>
    simp only [if_true]
    have ec1 := ec dn (by omega)
    have hel1 := hel dn (by omega)
    rw [← dm] at ec1 hel1
    generalize fJ 66 ((aC s p).drop dn) (frm true : Nat) = y at *
    obtain ⟨l, e, c⟩ := y
    simp only at ec1 hel1 ⊢
    by_cases he : e = 0
    ·subst he
     rw [if_neg (by simp)]
     simp only
     rw [← Nat.add_assoc]
     refine ACalls.enter Tryz.func160 rfl Tryz.ntmps160 (by kernel_rfl) rfl ?_; simp only [aB, nm, Nat.reduceAdd]
     repeat' (first | refine aa.aD ?_ | refine aa.aY true ?_ | (refine aa.ae [0] ( a0) ?_; simp only [ny, nh, Nat.reduceAdd, Nat.reduceSub]) | (refine aa.ae [0] ( fc) ?_; simp only [ny, nh, Nat.reduceAdd, Nat.reduceSub]) | (refine aa.ae [0] ( ec1) ?_; simp only [ny, nh, Nat.reduceAdd, Nat.reduceSub]) | refine aa.ak (fr) ?_ | refine aa.av ?_ | refine aa.ai ?_ | refine aa.aj ?_ | refine aa.bh ?_ | refine aa.aU ?_ | refine aa.aA ?_ | intro _ | refine aa.au ?_)
     all_goals first | exact ⟨rfl, rfl⟩ | omega
    ·rw [if_pos he]
     simp only
     rw [e00]
     have sk := fM (gl := gtc) s ((p + dn + c : Nat) : Int) p (by omega) ⟨by omega, by omega⟩
     refine ACalls.enter Tryz.func160 rfl Tryz.ntmps160 (by kernel_rfl) rfl ?_; simp only [aB, nm, Nat.reduceAdd]
     repeat' (first | refine aa.aD ?_ | refine aa.aY true ?_ | (refine aa.ae [0] ( a0) ?_; simp only [ny, nh, Nat.reduceAdd, Nat.reduceSub]) | (refine aa.ae [0] ( fc) ?_; simp only [ny, nh, Nat.reduceAdd, Nat.reduceSub]) | (refine aa.ae [0] ( ec1) ?_; simp only [ny, nh, Nat.reduceAdd, Nat.reduceSub]) | (refine aa.ae [0] ( sk) ?_; simp only [ny, nh, Nat.reduceAdd, Nat.reduceSub]) | refine aa.ak (fr) ?_ | refine aa.av ?_ | refine aa.ai ?_ | refine aa.aj ?_ | refine aa.bh ?_ | refine aa.aU ?_ | refine aa.aA ?_ | (apply aa.mY (.bW [I 0, .d (.sl 3 []), I e]); rfl; exact cn.bW ⟨cn.refl _, cn.d (cL.bf 3), cn.refl _, trivial⟩; rfl; rfl; rfl) | intro _ | refine aa.au ?_)
     all_goals first | exact ⟨rfl, rfl⟩ | omega
   | false =>
    simp only [Bool.false_eq_true, if_false]
    rw [e00]
    refine ACalls.enter Tryz.func160 rfl Tryz.ntmps160 (by kernel_rfl) rfl ?_; simp only [aB, nm, Nat.reduceAdd]
    repeat' (first | refine aa.aD ?_ | refine aa.aY true ?_ | (refine aa.ae [0] ( a0) ?_; simp only [ny, nh, Nat.reduceAdd, Nat.reduceSub]) | (refine aa.ae [0] ( fc) ?_; simp only [ny, nh, Nat.reduceAdd, Nat.reduceSub]) | refine aa.av ?_ | refine aa.ai ?_ | refine aa.aj ?_ | refine aa.bh ?_ | refine aa.aU ?_ | refine aa.aA ?_ | (apply aa.mY (.bW [I dc, .d (.sl 3 []), I 0]); rfl; exact cn.bW ⟨cn.refl _, cn.d (cL.bf 3), cn.refl _, trivial⟩; rfl; rfl; rfl) | intro _ | refine aa.au ?_)
    all_goals first | exact ⟨rfl, rfl⟩ | omega
  ·rw [if_pos hd]
   simp only
   rw [e00]
   have sk := fM (gl := gtc) s ((p + dn : Nat) : Int) p (by omega) ⟨by omega, by omega⟩
   refine ACalls.enter Tryz.func160 rfl Tryz.ntmps160 (by kernel_rfl) rfl ?_; simp only [aB, nm, Nat.reduceAdd]
   repeat' (first | refine aa.aD ?_ | refine aa.aY true ?_ | (refine aa.ae [0] ( a0) ?_; simp only [ny, nh, Nat.reduceAdd, Nat.reduceSub]) | (refine aa.ae [0] ( fc) ?_; simp only [ny, nh, Nat.reduceAdd, Nat.reduceSub]) | (refine aa.ae [0] ( sk) ?_; simp only [ny, nh, Nat.reduceAdd, Nat.reduceSub]) | refine aa.av ?_ | refine aa.ai ?_ | refine aa.aj ?_ | refine aa.bh ?_ | refine aa.aU ?_ | refine aa.aA ?_ | (apply aa.mY (.bW [I 0, .d (.sl 3 []), I de]); rfl; exact cn.bW ⟨cn.refl _, cn.d (cL.bf 3), cn.refl _, trivial⟩; rfl; rfl; rfl) | intro _ | refine aa.au ?_)
   all_goals first | exact ⟨rfl, rfl⟩ | omega
 | false =>
  simp only [Bool.false_eq_true, if_false]
  rw [if_neg (by simp)]
  cases coded with
  | true =>
   simp only [if_true, List.drop_zero]
   have ec1 := ec 0 (by omega)
   have hel1 := hel 0 (by omega)
   rw [Nat.add_zero] at ec1 hel1
   generalize fJ 66 (aC s p) (frm false : Nat) = y at *
   obtain ⟨l, e, c⟩ := y
   simp only at ec1 hel1 ⊢
   by_cases he : e = 0
   ·subst he
    rw [if_neg (by simp)]
    simp only [Nat.zero_add]
    refine ACalls.enter Tryz.func160 rfl Tryz.ntmps160 (by kernel_rfl) rfl ?_; simp only [aB, nm, Nat.reduceAdd]
    repeat' (first | refine aa.aD ?_ | refine aa.aY true ?_ | (refine aa.ae [0] ( a0) ?_; simp only [ny, nh, Nat.reduceAdd, Nat.reduceSub]) | (refine aa.ae [0] ( ec1) ?_; simp only [ny, nh, Nat.reduceAdd, Nat.reduceSub]) | refine aa.ak (fr) ?_ | refine aa.av ?_ | refine aa.ai ?_ | refine aa.aj ?_ | refine aa.bh ?_ | refine aa.aU ?_ | refine aa.aA ?_ | intro _ | refine aa.au ?_)
    all_goals first | exact ⟨rfl, rfl⟩ | omega
   ·rw [if_pos he]
    simp only
    rw [e00]
    have sk := fM (gl := gtc) s ((p + c : Nat) : Int) p (by omega) ⟨by omega, by omega⟩
    refine ACalls.enter Tryz.func160 rfl Tryz.ntmps160 (by kernel_rfl) rfl ?_; simp only [aB, nm, Nat.reduceAdd]
    repeat' (first | refine aa.aD ?_ | refine aa.aY true ?_ | (refine aa.ae [0] ( a0) ?_; simp only [ny, nh, Nat.reduceAdd, Nat.reduceSub]) | (refine aa.ae [0] ( ec1) ?_; simp only [ny, nh, Nat.reduceAdd, Nat.reduceSub]) | (refine aa.ae [0] ( sk) ?_; simp only [ny, nh, Nat.reduceAdd, Nat.reduceSub]) | refine aa.ak (fr) ?_ | refine aa.av ?_ | refine aa.ai ?_ | refine aa.aj ?_ | refine aa.bh ?_ | refine aa.aU ?_ | refine aa.aA ?_ | (apply aa.mY (.bW [I 0, .d (.sl 3 []), I e]); rfl; exact cn.bW ⟨cn.refl _, cn.d (cL.bf 3), cn.refl _, trivial⟩; rfl; rfl; rfl) | intro _ | refine aa.au ?_)
    all_goals first | exact ⟨rfl, rfl⟩ | omega
  | false =>
   simp only [Bool.false_eq_true, if_false]
   rw [e00]
   refine ACalls.enter Tryz.func160 rfl Tryz.ntmps160 (by kernel_rfl) rfl ?_; simp only [aB, nm, Nat.reduceAdd]
   repeat' (first | refine aa.aD ?_ | refine aa.aY true ?_ | (refine aa.ae [0] ( a0) ?_; simp only [ny, nh, Nat.reduceAdd, Nat.reduceSub]) | refine aa.av ?_ | refine aa.ai ?_ | refine aa.aj ?_ | refine aa.bh ?_ | refine aa.aU ?_ | refine aa.aA ?_ | (apply aa.mY (.bW [I 0, .d (.sl 3 []), I 0]); rfl; exact cn.bW ⟨cn.refl _, cn.d (cL.bf 3), cn.refl _, trivial⟩; rfl; rfl; rfl) | intro _ | refine aa.au ?_)
   all_goals first | exact ⟨rfl, rfl⟩ | omega
end Tc
namespace Tc
open Go Bt
attribute [local irreducible] aa ACalls
variable {gl : List (Nat × List D)}
attribute [local irreducible] jf tC Em Gx oI lW bI Gu
end Tc
namespace Tc
open Go Bt
attribute [local irreducible] aa ACalls
variable {gl : List (Nat × List D)}
theorem lN (rows : List (List UInt8)) : ∀ (Dg w : List UInt8), (cV rows Dg w).2.1 = 0 → (cV rows Dg w).2.2 ≤ w.length + Dg.length
 | [], w, h => by simp [cV] at h
 | x :: r, w, h => by
  rw [cV] at h ⊢
  unfold jo at h ⊢
  cases hf : jQ (w ++ [x]) rows 0 with
  | some i => rw [hf] at h; simp
  | none =>
   rw [hf] at h
   simp only at h ⊢
   by_cases ha : rows.any (fun r => (w ++ [x]).isPrefixOf r) = true
   ·rw [if_pos ha] at h ⊢
    have := lN rows r (w ++ [x]) h
    simp at this ⊢; omega
   ·rw [if_neg ha] at h
    simp at h
theorem EE (s : List UInt8) (q : Nat) (h : q < 8 * s.length) : (iY s)[q]? = some (bJ (dS s (q : Int))) := by
 have h1 := zL s q
 rw [ik s q h] at h1
 have h2 := congrArg (fun l => l[0]?) h1
 simpa using h2
theorem uz (b : Int) (h : b = 0 ∨ b = 1) : ((bJ b).toNat : Int) = 48 + b ∧ bq (bJ b) = true := by
 rcases h with rfl | rfl <;> decide
theorem tZ : ∀ l : List Int, (∀ b ∈ l, b = 0 ∨ b = 1) → gX (l.map bJ) = nB l := by
 intro l
 refine lL (P := fun l => (∀ b ∈ l, b = 0 ∨ b = 1) → gX (l.map bJ) = nB l) (fun _ => rfl) (fun l b ih h => ?_) l
 rw [List.map_append, List.map_cons, List.map_nil, kg, lg, ih fun x hx => h x (by simp [hx])]
 have := (uz b (h b (by simp))).1
 omega
theorem all_map (l : List Int) (h : ∀ b ∈ l, b = 0 ∨ b = 1) : (l.map bJ).all bq = true := by
 rw [List.all_eq_true]
 intro x hx
 obtain ⟨b, hb, rfl⟩ := List.mem_map.1 hx
 exact (uz b (h b hb)).2
theorem wQ (a b : List Int) : nB (a ++ b) = nB a * 2 ^ b.length + nB b := by
 refine lL (P := fun b => nB (a ++ b) = nB a * 2 ^ b.length + nB b) (by simp [nB]) (fun l x ih => ?_) b
 rw [← List.append_assoc, lg, lg, ih, List.length_append, List.length_singleton, Int.pow_succ, Int.mul_add, ← Int.mul_assoc]
 have : 2 * nB a * 2 ^ l.length = nB a * (2 ^ l.length * 2) := by rw [Int.mul_comm 2, Int.mul_assoc, Int.mul_comm 2, ]
 omega
theorem KV (b0 n6 n8 : Int) (h0 : b0 = 0 ∨ b0 = 1) (h6 : 0 ≤ n6 ∧ n6 < 64) (h8 : 0 ≤ n8 ∧ n8 < 256) : dQ ((b0 * 64 + n6) * 256 + n8) = ⟨decide (48 + b0 = 49), n6, if 127 < n8 then n8 - 256 else n8⟩ := by
 unfold dQ
 have e1 : ((b0 * 64 + n6) * 256 + n8) / 2 ^ 14 = b0 := by omega
 have e2 : ((b0 * 64 + n6) * 256 + n8) / 2 ^ 8 = b0 * 64 + n6 := by omega
 have e3 : ((b0 * 64 + n6) * 256 + n8) % 256 = n8 := by omega
 have e4 : ((((b0 * 64 + n6).toNat &&& (63 : Int).toNat : Nat) : Int)) = n6 := by rw [JL]; omega
 have e5 : (if 128 ≤ n8 then n8 - 256 else n8) = (if 127 < n8 then n8 - 256 else n8) := by
  by_cases h : 127 < n8
  ·rw [if_pos h, if_pos (by omega)]
  ·rw [if_neg h, if_neg (by omega)]
 have e6 : decide (b0 = 1) = decide (48 + b0 = 49) := by rw [decide_eq_decide]; omega
 rw [e1, e2, e3, e4, ← e5, ← e6]
theorem Dv {e : Ev} (h : evR e = true) : decide (lW e.last e.run (mS e.level) = []) = !decide (0 ≤ cJ e.last e.run (max e.level (-e.level))) := by
 have hb : (0 ≤ e.run ∧ e.run ≤ 63) ∧ e.level ≠ 0 ∧ -127 ≤ e.level ∧ e.level ≤ 127 := of_decide_eq_true h
 have ab := CC hb.2
 rw [← xD]
 by_cases hm : dY e.last e.run < mS e.level
 ·obtain ⟨t1, t2⟩ := Jt e.last e.run (mS e.level) hb.1 hm
  rw [t1, t2]; rfl
 ·obtain ⟨t1, t2, t3⟩ := Eh e.last e.run (mS e.level) hb.1 ab.1 hm
  rw [decide_eq_false t3, decide_eq_true t1.1]; rfl
end Tc
end Go.Proofs.YtbfojhfiemcnpaaGreatDoor.Av
