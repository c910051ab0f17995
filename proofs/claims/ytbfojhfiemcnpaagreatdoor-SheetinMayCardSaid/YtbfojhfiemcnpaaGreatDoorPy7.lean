/- mcbpc: table, Take. mcbpc: the reference's Row; the rows. -/
import Derived.Test.YtbfojhfiemcnpaaGreatDoorMb2
import Derived.Test.YtbfojhfiemcnpaaGreatDoorPq4
set_option linter.unusedVariables false
set_option linter.unusedSimpArgs false
set_option maxRecDepth 100000
set_option maxHeartbeats 64000000
namespace Go.Proofs.YtbfojhfiemcnpaaGreatDoor.Av
namespace Mb
open Go Bt Px
attribute [local irreducible] aa ACalls
variable {gl : List (Nat × List D)}
def lm (b : Bool) (k : Nat) : List (List UInt8 × Int) := (eB b k).zipIdx.map fun x => (x.1, 10 * (k : Int) + (x.2 : Int))
def FB (b : Bool) : Nat → List D
 | 0 => []
 | k + 1 => FB b k ++ aO (lm b k)
def gX (b : Bool) : List (List UInt8 × Int) := lm b 0 ++ lm b 1 ++ lm b 2 ++ lm b 3 ++ lm b 4 ++ lm b 5
theorem CQ (b : Bool) : FB b 6 = aO (gX b) := by cases b <;> rfl
theorem FA : ∀ b : Bool, ∀ k : _root_.Fin 6, (FB b k.val).length ≤ 30 := by decide +kernel
theorem Ij (b : Bool) (k : Nat) (hk : k ≤ 5) (es : List D) (he : es.length ≤ 1000) : ACalls (cxg gsp) 171 [I k, .ptr 0 0, .ptr 1 0] [.cells [B b], .cells [.ms 2 es.length], .arr 199 2 es]
  (fun r H => r = .bG [] ∧ H = [.cells [B b], .cells [.ms 2 (es ++ aO (lm b k)).length], .arr 199 2 (es ++ aO (lm b k))]) := by
 have r1 := yL (gl := gsp) b k
 have f1 := wA b k
 unfold dB at f1
 rcases (show k = 0 ∨ k = 1 ∨ k = 2 ∨ k = 3 ∨ k = 4 ∨ k = 5 by omega) with rfl | rfl | rfl | rfl | rfl | rfl
 all_goals cases b
 all_goals
  refine ACalls.enter Tryz.func171 rfl Tryz.ntmps171 (by kernel_rfl) rfl ?_; simp only [au, nm, Nat.reduceAdd]
  repeat' (first | (apply aa.st; rfl) | (apply aa.q true; rfl; rfl; rfl; rfl; first | exact True.intro | omega | (simp only [tn, Int.reduceToNat]; omega) | (decide)) | (apply aa.ah [] ( f1); (iterate 6 rfl); decide; rfl; rfl; simp only [ny, nh, Nat.reduceAdd, Nat.reduceSub]) | (apply aa.aA (r1); (iterate 6 rfl)) | (apply aa.exit; rfl) | (apply aa.aB; rfl) | (apply aa.ak; rfl) | (apply aa.store; (iterate 9 rfl); exact Nat.le_of_ble_eq_true rfl; simp only [nm, nz, Nat.reduceAdd]) | (apply aa.build; (iterate 5 rfl); simp only [nm, nz, Nat.reduceAdd, bA, cH, AV.unD]) | (apply aa.buildSlice; (iterate 11 rfl)) | (apply aa.oK; rfl; rfl; rfl; rfl) | (apply aa.jI; (iterate 11 rfl); (first | rfl | (simp only [List.length_append, List.length_map, List.length_set, List.length_replicate, List.length_cons, List.length_nil]; omega) | (decide)); (first | (simp only [List.length_append, List.length_map, List.length_cons, List.length_nil]; omega) | (decide)); simp only [List.set_cons_zero, List.set_cons_succ]) | apply aa.dM | apply aa.lpU | intro _)
  all_goals first | exact ⟨rfl, rfl⟩ | exact ⟨rfl, by simp only [List.append_assoc]; rfl⟩ | exact ⟨rfl, by rw [show aO (lm _ _) = ([] : List D) from rfl, List.append_nil]; rfl⟩
def mbT (b : Bool) : Tb := (mk (gX b) tb0).getD tb0
theorem CV (b : Bool) : mk (gX b) tb0 = some (mbT b) := by
 have : (mk (gX b) tb0).isSome = true := by cases b <;> decide +kernel
 unfold mbT
 cases h : mk (gX b) tb0 with
 | none => rw [h] at this; cases this
 | some T => rfl
theorem xP (b : Bool) : pV (mbT b) (gX b) := CH (CV b)
def mb0 (b : Bool) : List UInt8 × Int := (gX b).getD 0 ([], 0)
theorem HX (b : Bool) : (gX b)[0]? = some (mb0 b) := by cases b <;> rfl
theorem C0 (b : Bool) : (gX b).length ≤ 256 := by cases b <;> decide
theorem xR (b : Bool) : ∀ p ∈ gX b, p.1.length ≤ 1000000 := by cases b <;> decide
def EQ (b : Bool) : List aF := [.cells [B b], .cells [.ms 2 (aO (gX b)).length], .front 199 2 (aO (gX b)).length, .map (bw (mbT b).sym), .map (df (mbT b).rws), .map (bw (mbT b).beg),
 .cells [.own 2 (aO (mbT b).codes) 9, .mp 3, .mp 4, .mp 5, I (mbT b).lng], .cells (tz (mb0 b)), .cells (tz (mb0 b)), .front 199 2 (aO (mbT b).codes).length]
attribute [local irreducible] bw df aO mbT lm gX mb0
theorem Ar (b : Bool) : ACalls (cxg gsp) 162 [B b] [] (fun r H => r = .ptr 6 0 ∧ H = EQ b) := by
 have mk := zh (gl := gsp) (gX b) (mb0 b) (mbT b) (HX b) (C0 b) (xR b) (CV b)
 rw [← CQ] at mk
 unfold EQ
 rw [← CQ]
 have e := fun (k : _root_.Fin 6) => Ij b k.val (by omega) (FB b k.val) (by have := FA b k; omega)
 have e0 := e 0
 have e1 := e 1
 have e2 := e 2
 have e3 := e 3
 have e4 := e 4
 have e5 := e 5
 unfold zV at mk
 refine ACalls.enter Tryz.func162 rfl Tryz.ntmps162 (by kernel_rfl) rfl ?_; simp only [au, nm, Nat.reduceAdd]
 repeat' (first | (apply aa.st; rfl) | (apply aa.q true; rfl; rfl; rfl; rfl; first | exact True.intro | omega | (simp only [tn, Int.reduceToNat]; omega)) | (apply aa.ah [0,1,2] ( e0); (iterate 6 rfl); decide; rfl; rfl; simp only [ny, nh, Nat.reduceAdd, Nat.reduceSub]) | (apply aa.ah [0,1,2] ( e1); (iterate 6 rfl); decide; rfl; rfl; simp only [ny, nh, Nat.reduceAdd, Nat.reduceSub]) | (apply aa.ah [0,1,2] ( e2); (iterate 6 rfl); decide; rfl; rfl; simp only [ny, nh, Nat.reduceAdd, Nat.reduceSub]) | (apply aa.ah [0,1,2] ( e3); (iterate 6 rfl); decide; rfl; rfl; simp only [ny, nh, Nat.reduceAdd, Nat.reduceSub]) | (apply aa.ah [0,1,2] ( e4); (iterate 6 rfl); decide; rfl; rfl; simp only [ny, nh, Nat.reduceAdd, Nat.reduceSub]) | (apply aa.ah [0,1,2] ( e5); (iterate 6 rfl); decide; rfl; rfl; simp only [ny, nh, Nat.reduceAdd, Nat.reduceSub]) | (apply aa.En [] ( mk); (iterate 7 rfl); decide; rfl; rfl; simp only [ny, nh, Nat.reduceAdd, Nat.reduceSub]) | (apply aa.exit; rfl) | (apply aa.af; rfl; first | omega | rfl) | (apply aa.ae; rfl; omega) | (apply aa.alloc; (iterate 5 rfl); simp only [nm, nz, Nat.reduceAdd]) | (apply aa.box; (iterate 6 rfl); simp only [nm, nz, Nat.reduceAdd]) | (apply aa.oG 1 0 199 2; rfl; rfl; simp only [List.set_cons_zero, List.set_cons_succ, List.length_cons, List.length_nil, Nat.reduceAdd, List.cons_append, List.nil_append]) | (apply aa.nI 17; rfl; rfl; (first | rfl | (simp only [List.length_append, List.length_map, List.length_set, List.length_replicate, List.length_cons, List.length_nil]; omega)); simp only [List.set_cons_zero, List.set_cons_succ]) | apply aa.dM | apply aa.lpU | intro _)
 (apply aa.vI 10; rfl; rfl; rfl; rfl; rfl)
 exact ⟨rfl, rfl⟩
def iF (b : Bool) : List (List UInt8) := (gX b).map (·.1)
def mbX (b : Bool) (Dg : List UInt8) : Int × Int × Int × Nat :=
  if (bR (iF b) Dg []).2.1 = 0 then
    (if ((bR (iF b) Dg []).1 + (if b = true then 0 else 12)) / 4 = 2 then (0, 0, 6, 0)
     else (((bR (iF b) Dg []).1 + (if b = true then 0 else 12)) / 4, ((bR (iF b) Dg []).1 + (if b = true then 0 else 12)) % 4, 0, (bR (iF b) Dg []).2.2))
  else (0, 0, (bR (iF b) Dg []).2.1, 0)
def xC (p : Nat) (x : Int × Int × Int × Nat) : Nat := if x.2.2.1 = 0 then p + x.2.2.2 else p
theorem rf (b : Bool) : (iF b).length = if b = true then 21 else 9 := by unfold iF gX; cases b <;> decide +kernel
theorem HT (b : Bool) (i : Int) (h : 0 ≤ i ∧ i < (iF b).length) : (0 ≤ jq (mbT b) i ∧ jq (mbT b) i ≤ 60) ∧ jq (mbT b) i / 10 = (i + (if b = true then 0 else 12)) / 4 ∧ jq (mbT b) i % 10 = (i + (if b = true then 0 else 12)) % 4 := by
 rw [rf] at h
 have hs : jq (mbT b) i = ((gX b).getD i.toNat ([], 0)).2 := by unfold jq; rw [(xP b).codes]
 rw [hs]
 obtain ⟨n, rfl⟩ := Int.eq_ofNat_of_zero_le h.1
 rw [Int.toNat_natCast]
 cases b with
 | true =>
  have key : ∀ i : _root_.Fin 21, (0 ≤ ((gX true).getD i.val ([], 0)).2 ∧ ((gX true).getD i.val ([], 0)).2 ≤ 60) ∧ ((gX true).getD i.val ([], 0)).2 / 10 = ((i.val : Int) + 0) / 4 ∧ ((gX true).getD i.val ([], 0)).2 % 10 = ((i.val : Int) + 0) % 4 := by unfold gX; decide +kernel
  exact key ⟨n, by simp only [if_true] at h; omega⟩
 | false =>
  have key : ∀ i : _root_.Fin 9, (0 ≤ ((gX false).getD i.val ([], 0)).2 ∧ ((gX false).getD i.val ([], 0)).2 ≤ 60) ∧ ((gX false).getD i.val ([], 0)).2 / 10 = ((i.val : Int) + 12) / 4 ∧ ((gX false).getD i.val ([], 0)).2 % 10 = ((i.val : Int) + 12) % 4 := by unfold gX; decide +kernel
  exact key ⟨n, by simp only [Bool.false_eq_true, if_false] at h; omega⟩
theorem vE (rows : List (List UInt8)) : ∀ (D w : List UInt8), (bR rows D w).2.1 = 0 ∨ (bR rows D w).2.1 = 2 ∨ (bR rows D w).2.1 = 3
 | [], w => by simp [bR]
 | x :: r, w => by
  rw [bR]
  cases gY rows w x with
  | done i c => simp
  | fail => simp
  | next w' => exact vE rows r w'
attribute [local irreducible] ai um iF EQ
theorem CP (b : Bool) (s : List UInt8) (p : Nat) (hs : s.length ≤ 1000000) (hp : p ≤ 8 * s.length) : ACalls (cxg gsp) 155 [.ptr 0 0, B b] [Rd s p]
  (fun r H => r = .bG [I (mbX b ((ai s p).map bi)).1, I (mbX b ((ai s p).map bi)).2.1, I (mbX b ((ai s p).map bi)).2.2.1] ∧ H = [Rd s (xC p (mbX b ((ai s p).map bi)))]) := by
 have tb := Ar b
 have a0 := nV (gl := gsp) s p
 have tt := yD (gl := gsp) (mbT b) s p hs hp (xP b).Gy
 rw [mE (xP b), show (gX b).map (·.1) = iF b by unfold iF; rfl] at tt
 have he := vE (iF b) ((ai s p).map bi) []
 have hb := jw (iF b) ((ai s p).map bi) []
 unfold mbX
 generalize bR (iF b) ((ai s p).map bi) [] = y at *
 obtain ⟨i, e, c⟩ := y
 simp only at he hb tt ⊢
 unfold EQ at tb
 by_cases h0 : e = 0
 ·obtain ⟨hs0, hs1, hs2⟩ := HT b i (hb h0)
  rw [if_pos h0] at tt
  rw [if_pos h0, ← hs1, ← hs2]
  generalize jq (mbT b) i = sy at *
  subst h0
  unfold um at tt
  simp only [if_true] at tt
  by_cases h2 : sy / 10 = 2
  ·rw [if_pos h2]
   have sk := dO (gl := gsp) s ((p + c : Nat) : Int) p (by omega) ⟨by omega, by omega⟩
   refine ACalls.enter Tryz.func155 rfl Tryz.ntmps155 (by kernel_rfl) rfl ?_; simp only [au, nm, Nat.reduceAdd]
   repeat' (first | (apply aa.st; rfl) | (apply aa.q true; rfl; rfl; rfl; rfl; first | exact True.intro | omega | (simp only [tn, Int.reduceToNat]; omega)) | (apply aa.ah [0] ( a0); (iterate 6 rfl); decide; rfl; rfl; simp only [ny, nh, Nat.reduceAdd, Nat.reduceSub]) | (apply aa.ah [] ( tb); (iterate 6 rfl); decide; rfl; rfl; simp only [ny, nh, Nat.reduceAdd, Nat.reduceSub]) | (apply aa.ah [4,5,6,7,0,10] ( tt); (iterate 6 rfl); decide; rfl; rfl; simp only [ny, nh, Nat.reduceAdd, Nat.reduceSub]) | (apply aa.ah [0] ( sk); (iterate 6 rfl); decide; rfl; rfl; simp only [ny, nh, Nat.reduceAdd, Nat.reduceSub]) | (apply aa.af; rfl; first | omega | rfl) | (apply aa.ae; rfl; omega) | (apply aa.ak; rfl) | (apply aa.cBT; rfl; first | (simp only [bT]; omega)) | intro _ | (apply aa.aC; rfl; rfl; rfl; rfl))
   all_goals first | exact ⟨rfl, rfl⟩
  ·rw [if_neg h2]
   unfold xC
   simp only [if_true]
   refine ACalls.enter Tryz.func155 rfl Tryz.ntmps155 (by kernel_rfl) rfl ?_; simp only [au, nm, Nat.reduceAdd]
   repeat' (first | (apply aa.st; rfl) | (apply aa.q true; rfl; rfl; rfl; rfl; first | exact True.intro | omega | (simp only [tn, Int.reduceToNat]; omega)) | (apply aa.ah [0] ( a0); (iterate 6 rfl); decide; rfl; rfl; simp only [ny, nh, Nat.reduceAdd, Nat.reduceSub]) | (apply aa.ah [] ( tb); (iterate 6 rfl); decide; rfl; rfl; simp only [ny, nh, Nat.reduceAdd, Nat.reduceSub]) | (apply aa.ah [4,5,6,7,0,10] ( tt); (iterate 6 rfl); decide; rfl; rfl; simp only [ny, nh, Nat.reduceAdd, Nat.reduceSub]) | (apply aa.af; rfl; first | omega | rfl) | (apply aa.ae; rfl; omega) | (apply aa.ak; rfl) | (apply aa.cBT; rfl; first | (simp only [bT]; omega)) | intro _ | (apply aa.aC; rfl; rfl; rfl; rfl))
   all_goals first | exact ⟨rfl, rfl⟩
 ·rw [if_neg h0]
  rw [if_neg h0] at tt
  unfold xC
  unfold um at tt
  simp only [if_neg h0] at tt ⊢
  refine ACalls.enter Tryz.func155 rfl Tryz.ntmps155 (by kernel_rfl) rfl ?_; simp only [au, nm, Nat.reduceAdd]
  repeat' (first | (apply aa.st; rfl) | (apply aa.q true; rfl; rfl; rfl; rfl; first | exact True.intro | omega | (simp only [tn, Int.reduceToNat]; omega)) | (apply aa.ah [0] ( a0); (iterate 6 rfl); decide; rfl; rfl; simp only [ny, nh, Nat.reduceAdd, Nat.reduceSub]) | (apply aa.ah [] ( tb); (iterate 6 rfl); decide; rfl; rfl; simp only [ny, nh, Nat.reduceAdd, Nat.reduceSub]) | (apply aa.ah [4,5,6,7,0,10] ( tt); (iterate 6 rfl); decide; rfl; rfl; simp only [ny, nh, Nat.reduceAdd, Nat.reduceSub]) | (apply aa.af; rfl; first | omega | rfl) | (apply aa.ae; rfl; omega) | (apply aa.ak; rfl) | (apply aa.cBT; rfl; first | (simp only [bT]; omega)) | intro _ | (apply aa.aC; rfl; rfl; rfl; rfl))
  all_goals first | exact ⟨rfl, rfl⟩
end Mb
section
open Go
end
namespace Mb
open Go Bt
attribute [local irreducible] aa ACalls
variable {gl : List (Nat × List D)}
theorem wz : ∀ b : Bool, ∀ k : _root_.Fin 6, (eB b k.val).length ≤ 4 ∧ (k.val = 5 → (eB b k.val).length ≤ 1) := by unfold eB; decide +kernel
theorem qd (b : Bool) (k c : Int) (h : jW b k c = true) : (0 ≤ k ∧ k ≤ 5) ∧ 0 ≤ c ∧ c ≤ 3 := by
 unfold jW at h
 rw [decide_eq_true_eq] at h
 by_cases hk : k < 0 ∨ 5 < k
 ·have : eB b k = [] := by unfold eB; rw [if_pos hk]
  rw [this] at h; simp at h; omega
 ·obtain ⟨h1, h2⟩ := wz b ⟨k.toNat, by omega⟩
  simp only at h1
  rw [show ((k.toNat : Nat) : Int) = k by omega] at h1
  omega
theorem CX : ∀ b : Bool, ∀ k : _root_.Fin 6, ∀ c : _root_.Fin 4, jW b k.val c.val = true → dY b k.val c.val ≠ [] ∧ (dY b k.val c.val).length ≤ 9 ∧ (dY b k.val c.val).all aX = true := by decide +kernel
theorem nk (b : Bool) (k c : Int) (h : jW b k c = true) : dY b k c ≠ [] ∧ (dY b k c).length ≤ 9 ∧ (dY b k c).all aX = true := by
 obtain ⟨hk, hc⟩ := qd b k c h
 have := CX b ⟨k.toNat, by omega⟩ ⟨c.toNat, by omega⟩
 simp only at this
 rw [show ((k.toNat : Nat) : Int) = k by omega, show ((c.toNat : Nat) : Int) = c by omega] at this
 exact this h
attribute [local irreducible] gM dY
end Mb
end Go.Proofs.YtbfojhfiemcnpaaGreatDoor.Av
