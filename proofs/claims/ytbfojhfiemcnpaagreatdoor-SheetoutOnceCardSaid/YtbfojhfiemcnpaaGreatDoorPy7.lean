/- mcbpc: table, Take. mcbpc: the reference's Row; the rows. -/
import Derived.Test.YtbfojhfiemcnpaaGreatDoorMb2
import Derived.Test.YtbfojhfiemcnpaaGreatDoorPq4
set_option linter.unusedVariables false
set_option linter.unusedSimpArgs false
set_option maxRecDepth 100000
set_option maxHeartbeats 64000000
namespace Go.Proofs.YtbfojhfiemcnpaaGreatDoor.Av
namespace Mb
open Go Bt Px
attribute [local irreducible] aa ACalls
variable {gl : List (Nat × List D)}
def nD (b : Bool) (k : Nat) : List (List UInt8 × Int) := (gu b k).zipIdx.map fun x => (x.1, 10 * (k : Int) + (x.2 : Int))
def Iw (b : Bool) : Nat → List D
 | 0 => []
 | k + 1 => Iw b k ++ ba (nD b k)
def jm (b : Bool) : List (List UInt8 × Int) := nD b 0 ++ nD b 1 ++ nD b 2 ++ nD b 3 ++ nD b 4 ++ nD b 5
theorem FE (b : Bool) : Iw b 6 = ba (jm b) := by cases b <;> rfl
theorem Iu : ∀ b : Bool, ∀ k : _root_.Fin 6, (Iw b k.val).length ≤ 30 := by decide +kernel
theorem KX (b : Bool) (k : Nat) (hk : k ≤ 5) (es : List D) (he : es.length ≤ 1000) : ACalls (cxg gsp) 171 [I k, .ptr 0 0, .ptr 1 0] [.cells [B b], .cells [.ms 2 es.length], .arr 199 2 es]
  (fun r H => r = .bW [] ∧ H = [.cells [B b], .cells [.ms 2 (es ++ ba (nD b k)).length], .arr 199 2 (es ++ ba (nD b k))]) := by
 have r1 := Bn (gl := gsp) b k
 have f1 := yG b k
 unfold eZ at f1
 rcases (show k = 0 ∨ k = 1 ∨ k = 2 ∨ k = 3 ∨ k = 4 ∨ k = 5 by omega) with rfl | rfl | rfl | rfl | rfl | rfl
 all_goals cases b
 all_goals
  refine ACalls.enter Tryz.func171 rfl Tryz.ntmps171 (by kernel_rfl) rfl ?_; simp only [aB, nm, Nat.reduceAdd]
  repeat' (first | refine aa.aD ?_ | (apply aa.q true; rfl; rfl; rfl; rfl; first | exact True.intro | omega | (simp only [tn, Int.reduceToNat]; omega) | (decide)) | (refine aa.ae [] ( f1) ?_; simp only [ny, nh, Nat.reduceAdd, Nat.reduceSub]) | refine aa.ak (r1) ?_ | refine aa.bO ?_ | refine aa.av ?_ | refine aa.ai ?_ | (refine aa.az ?_; simp only [nm, nz, Nat.reduceAdd]) | (refine aa.bz ?_; simp only [nm, nz, Nat.reduceAdd, bS, dF, AV.unD]) | refine aa.aV ?_ | refine aa.jR ?_ | (apply aa.lm; (iterate 11 rfl); (first | rfl | (simp only [List.length_append, List.length_map, List.length_set, List.length_replicate, List.length_cons, List.length_nil]; omega) | (decide)); (first | (simp only [List.length_append, List.length_map, List.length_cons, List.length_nil]; omega) | (decide)); simp only [List.set_cons_zero, List.set_cons_succ]) | apply aa.dP | apply aa.lpU | intro _)
  all_goals first | exact ⟨rfl, rfl⟩ | exact ⟨rfl, by simp only [List.append_assoc]; rfl⟩ | exact ⟨rfl, by rw [show ba (nD _ _) = ([] : List D) from rfl, List.append_nil]; rfl⟩
def mbT (b : Bool) : Tb := (mk (jm b) tb0).getD tb0
theorem FI (b : Bool) : mk (jm b) tb0 = some (mbT b) := by
 have : (mk (jm b) tb0).isSome = true := by cases b <;> decide +kernel
 unfold mbT
 cases h : mk (jm b) tb0 with
 | none => rw [h] at this; cases this
 | some T => rfl
theorem Ak (b : Bool) : sx (mbT b) (jm b) := Fv (FI b)
def mb0 (b : Bool) : List UInt8 × Int := (jm b).getD 0 ([], 0)
theorem KA (b : Bool) : (jm b)[0]? = some (mb0 b) := by cases b <;> rfl
theorem FN (b : Bool) : (jm b).length ≤ 256 := by cases b <;> decide
theorem Am (b : Bool) : ∀ p ∈ jm b, p.1.length ≤ 1000000 := by cases b <;> decide
def HE (b : Bool) : List aH := [.cells [B b], .cells [.ms 2 (ba (jm b)).length], .front 199 2 (ba (jm b)).length, .map (bQ (mbT b).sym), .map (d9 (mbT b).rws), .map (bQ (mbT b).beg),
 .cells [.own 2 (ba (mbT b).codes) 9, .mp 3, .mp 4, .mp 5, I (mbT b).lng], .cells (vL (mb0 b)), .cells (vL (mb0 b)), .front 199 2 (ba (mbT b).codes).length]
attribute [local irreducible] bQ d9 ba mbT nD jm mb0
theorem Di (b : Bool) : ACalls (cxg gsp) 162 [B b] [] (fun r H => r = .ptr 6 0 ∧ H = HE b) := by
 have mk := BL (gl := gsp) (jm b) (mb0 b) (mbT b) (KA b) (FN b) (Am b) (FI b)
 rw [← FE] at mk
 unfold HE
 rw [← FE]
 have e := fun (k : _root_.Fin 6) => KX b k.val (by omega) (Iw b k.val) (by have := Iu b k; omega)
 have e0 := e 0
 have e1 := e 1
 have e2 := e 2
 have e3 := e 3
 have e4 := e 4
 have e5 := e 5
 unfold CK at mk
 refine ACalls.enter Tryz.func162 rfl Tryz.ntmps162 (by kernel_rfl) rfl ?_; simp only [aB, nm, Nat.reduceAdd]
 repeat' (first | refine aa.aD ?_ | refine aa.aY true ?_ | (refine aa.ae [0,1,2] ( e0) ?_; simp only [ny, nh, Nat.reduceAdd, Nat.reduceSub]) | (refine aa.ae [0,1,2] ( e1) ?_; simp only [ny, nh, Nat.reduceAdd, Nat.reduceSub]) | (refine aa.ae [0,1,2] ( e2) ?_; simp only [ny, nh, Nat.reduceAdd, Nat.reduceSub]) | (refine aa.ae [0,1,2] ( e3) ?_; simp only [ny, nh, Nat.reduceAdd, Nat.reduceSub]) | (refine aa.ae [0,1,2] ( e4) ?_; simp only [ny, nh, Nat.reduceAdd, Nat.reduceSub]) | (refine aa.ae [0,1,2] ( e5) ?_; simp only [ny, nh, Nat.reduceAdd, Nat.reduceSub]) | (refine aa.zh [] ( mk) ?_; simp only [ny, nh, Nat.reduceAdd, Nat.reduceSub]) | refine aa.bO ?_ | refine aa.ah ?_ | refine aa.af ?_ | (refine aa.aG ?_; simp only [nm, nz, Nat.reduceAdd]) | (refine aa.aP ?_; simp only [nm, nz, Nat.reduceAdd]) | (refine aa.yN 1 0 199 2 ?_; simp only [List.set_cons_zero, List.set_cons_succ, List.length_cons, List.length_nil, Nat.reduceAdd, List.cons_append, List.nil_append]) | (refine aa.qZ 17 ?_; simp only [List.set_cons_zero, List.set_cons_succ]) | apply aa.dP | apply aa.lpU | intro _)
 (apply aa.xX 10; rfl; rfl; rfl; rfl; rfl)
 exact ⟨rfl, rfl⟩
def jK (b : Bool) : List (List UInt8) := (jm b).map (·.1)
def mbX (b : Bool) (Dg : List UInt8) : Int × Int × Int × Nat :=
  if (cV (jK b) Dg []).2.1 = 0 then
    (if ((cV (jK b) Dg []).1 + (if b = true then 0 else 12)) / 4 = 2 then (0, 0, 6, 0)
     else (((cV (jK b) Dg []).1 + (if b = true then 0 else 12)) / 4, ((cV (jK b) Dg []).1 + (if b = true then 0 else 12)) % 4, 0, (cV (jK b) Dg []).2.2))
  else (0, 0, (cV (jK b) Dg []).2.1, 0)
def zV (p : Nat) (x : Int × Int × Int × Nat) : Nat := if x.2.2.1 = 0 then p + x.2.2.2 else p
theorem uf (b : Bool) : (jK b).length = if b = true then 21 else 9 := by unfold jK jm; cases b <;> decide +kernel
theorem Ky (b : Bool) (i : Int) (h : 0 ≤ i ∧ i < (jK b).length) : (0 ≤ kU (mbT b) i ∧ kU (mbT b) i ≤ 60) ∧ kU (mbT b) i / 10 = (i + (if b = true then 0 else 12)) / 4 ∧ kU (mbT b) i % 10 = (i + (if b = true then 0 else 12)) % 4 := by
 rw [uf] at h
 have hs : kU (mbT b) i = ((jm b).getD i.toNat ([], 0)).2 := by unfold kU; rw [(Ak b).codes]
 rw [hs]
 obtain ⟨n, rfl⟩ := Int.eq_ofNat_of_zero_le h.1
 rw [Int.toNat_natCast]
 cases b with
 | true =>
  have key : ∀ i : _root_.Fin 21, (0 ≤ ((jm true).getD i.val ([], 0)).2 ∧ ((jm true).getD i.val ([], 0)).2 ≤ 60) ∧ ((jm true).getD i.val ([], 0)).2 / 10 = ((i.val : Int) + 0) / 4 ∧ ((jm true).getD i.val ([], 0)).2 % 10 = ((i.val : Int) + 0) % 4 := by unfold jm; decide +kernel
  exact key ⟨n, by simp only [if_true] at h; omega⟩
 | false =>
  have key : ∀ i : _root_.Fin 9, (0 ≤ ((jm false).getD i.val ([], 0)).2 ∧ ((jm false).getD i.val ([], 0)).2 ≤ 60) ∧ ((jm false).getD i.val ([], 0)).2 / 10 = ((i.val : Int) + 12) / 4 ∧ ((jm false).getD i.val ([], 0)).2 % 10 = ((i.val : Int) + 12) % 4 := by unfold jm; decide +kernel
  exact key ⟨n, by simp only [Bool.false_eq_true, if_false] at h; omega⟩
theorem xU (rows : List (List UInt8)) : ∀ (D w : List UInt8), (cV rows D w).2.1 = 0 ∨ (cV rows D w).2.1 = 2 ∨ (cV rows D w).2.1 = 3
 | [], w => by simp [cV]
 | x :: r, w => by
  rw [cV]
  cases jo rows w x with
  | done i c => simp
  | fail => simp
  | next w' => exact xU rows r w'
attribute [local irreducible] aC wH jK HE
theorem FD (b : Bool) (s : List UInt8) (p : Nat) (hs : s.length ≤ 1000000) (hp : p ≤ 8 * s.length) : ACalls (cxg gsp) 155 [.ptr 0 0, B b] [Rd s p]
  (fun r H => r = .bW [I (mbX b ((aC s p).map bJ)).1, I (mbX b ((aC s p).map bJ)).2.1, I (mbX b ((aC s p).map bJ)).2.2.1] ∧ H = [Rd s (zV p (mbX b ((aC s p).map bJ)))]) := by
 have tb := Di b
 have a0 := qG (gl := gsp) s p
 have tt := Bd (gl := gsp) (mbT b) s p hs hp (Ak b).Ju
 rw [oM (Ak b), show (jm b).map (·.1) = jK b by unfold jK; rfl] at tt
 have he := xU (jK b) ((aC s p).map bJ) []
 have hb := kX (jK b) ((aC s p).map bJ) []
 unfold mbX
 generalize cV (jK b) ((aC s p).map bJ) [] = y at *
 obtain ⟨i, e, c⟩ := y
 simp only at he hb tt ⊢
 unfold HE at tb
 by_cases h0 : e = 0
 ·obtain ⟨hs0, hs1, hs2⟩ := Ky b i (hb h0)
  rw [if_pos h0] at tt
  rw [if_pos h0, ← hs1, ← hs2]
  generalize kU (mbT b) i = sy at *
  subst h0
  unfold wH at tt
  simp only [if_true] at tt
  by_cases h2 : sy / 10 = 2
  ·rw [if_pos h2]
   have sk := fM (gl := gsp) s ((p + c : Nat) : Int) p (by omega) ⟨by omega, by omega⟩
   refine ACalls.enter Tryz.func155 rfl Tryz.ntmps155 (by kernel_rfl) rfl ?_; simp only [aB, nm, Nat.reduceAdd]
   repeat' (first | refine aa.aD ?_ | refine aa.aY true ?_ | (refine aa.ae [0] ( a0) ?_; simp only [ny, nh, Nat.reduceAdd, Nat.reduceSub]) | (refine aa.ae [] ( tb) ?_; simp only [ny, nh, Nat.reduceAdd, Nat.reduceSub]) | (refine aa.ae [4,5,6,7,0,10] ( tt) ?_; simp only [ny, nh, Nat.reduceAdd, Nat.reduceSub]) | (refine aa.ae [0] ( sk) ?_; simp only [ny, nh, Nat.reduceAdd, Nat.reduceSub]) | refine aa.ah ?_ | refine aa.af ?_ | refine aa.ai ?_ | refine aa.aU ?_ | intro _ | refine aa.au ?_)
   all_goals first | exact ⟨rfl, rfl⟩
  ·rw [if_neg h2]
   unfold zV
   simp only [if_true]
   refine ACalls.enter Tryz.func155 rfl Tryz.ntmps155 (by kernel_rfl) rfl ?_; simp only [aB, nm, Nat.reduceAdd]
   repeat' (first | refine aa.aD ?_ | refine aa.aY true ?_ | (refine aa.ae [0] ( a0) ?_; simp only [ny, nh, Nat.reduceAdd, Nat.reduceSub]) | (refine aa.ae [] ( tb) ?_; simp only [ny, nh, Nat.reduceAdd, Nat.reduceSub]) | (refine aa.ae [4,5,6,7,0,10] ( tt) ?_; simp only [ny, nh, Nat.reduceAdd, Nat.reduceSub]) | refine aa.ah ?_ | refine aa.af ?_ | refine aa.ai ?_ | refine aa.aU ?_ | intro _ | refine aa.au ?_)
   all_goals first | exact ⟨rfl, rfl⟩
 ·rw [if_neg h0]
  rw [if_neg h0] at tt
  unfold zV
  unfold wH at tt
  simp only [if_neg h0] at tt ⊢
  refine ACalls.enter Tryz.func155 rfl Tryz.ntmps155 (by kernel_rfl) rfl ?_; simp only [aB, nm, Nat.reduceAdd]
  repeat' (first | refine aa.aD ?_ | refine aa.aY true ?_ | (refine aa.ae [0] ( a0) ?_; simp only [ny, nh, Nat.reduceAdd, Nat.reduceSub]) | (refine aa.ae [] ( tb) ?_; simp only [ny, nh, Nat.reduceAdd, Nat.reduceSub]) | (refine aa.ae [4,5,6,7,0,10] ( tt) ?_; simp only [ny, nh, Nat.reduceAdd, Nat.reduceSub]) | refine aa.ah ?_ | refine aa.af ?_ | refine aa.ai ?_ | refine aa.aU ?_ | intro _ | refine aa.au ?_)
  all_goals first | exact ⟨rfl, rfl⟩
end Mb
section
open Go
end
namespace Mb
open Go Bt
attribute [local irreducible] aa ACalls
variable {gl : List (Nat × List D)}
theorem yF : ∀ b : Bool, ∀ k : _root_.Fin 6, (gu b k.val).length ≤ 4 ∧ (k.val = 5 → (gu b k.val).length ≤ 1) := by unfold gu; decide +kernel
theorem sK (b : Bool) (k c : Int) (h : lT b k c = true) : (0 ≤ k ∧ k ≤ 5) ∧ 0 ≤ c ∧ c ≤ 3 := by
 unfold lT at h
 rw [decide_eq_true_eq] at h
 by_cases hk : k < 0 ∨ 5 < k
 ·have : gu b k = [] := by unfold gu; rw [if_pos hk]
  rw [this] at h; simp at h; omega
 ·obtain ⟨h1, h2⟩ := yF b ⟨k.toNat, by omega⟩
  simp only at h1
  rw [show ((k.toNat : Nat) : Int) = k by omega] at h1
  omega
theorem FK : ∀ b : Bool, ∀ k : _root_.Fin 6, ∀ c : _root_.Fin 4, lT b k.val c.val = true → fV b k.val c.val ≠ [] ∧ (fV b k.val c.val).length ≤ 9 ∧ (fV b k.val c.val).all bq = true := by decide +kernel
theorem qc (b : Bool) (k c : Int) (h : lT b k c = true) : fV b k c ≠ [] ∧ (fV b k c).length ≤ 9 ∧ (fV b k c).all bq = true := by
 obtain ⟨hk, hc⟩ := sK b k c h
 have := FK b ⟨k.toNat, by omega⟩ ⟨c.toNat, by omega⟩
 simp only at this
 rw [show ((k.toNat : Nat) : Int) = k by omega, show ((c.toNat : Nat) : Int) = c by omega] at this
 exact this h
attribute [local irreducible] jf fV
end Mb
end Go.Proofs.YtbfojhfiemcnpaaGreatDoor.Av
