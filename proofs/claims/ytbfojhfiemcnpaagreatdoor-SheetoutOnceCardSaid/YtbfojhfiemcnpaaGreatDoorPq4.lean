/- cbpy: the rows, Row. cbpy, plain: the reference's rows, told backwards, say the same. cbpy: the walks of the reference's Row and Take, and of Take. cbpy: the walk of Take. The laws of cbpy. -/
import Derived.Test.YtbfojhfiemcnpaaGreatDoorPg
set_option linter.unusedVariables false
set_option linter.unusedSimpArgs false
set_option maxRecDepth 100000
set_option maxHeartbeats 64000000
namespace Go.Proofs.YtbfojhfiemcnpaaGreatDoor.Av
namespace Cb
open Go Bt
attribute [local irreducible] aa ACalls
variable {gl : List (Nat × List D)}
def cbR : List (List UInt8) := [[48, 48, 49, 49], [48, 48, 49, 48, 49], [48, 48, 49, 48, 48], [49, 48, 48, 49], [48, 48, 48, 49, 49], [48, 49, 49, 49], [48, 48, 48, 48, 49, 48], [49, 48, 49, 49], [48, 48, 48, 49, 48], [48, 48, 48, 48, 49, 49], [48, 49, 48, 49], [49, 48, 49, 48], [48, 49, 48, 48], [49, 48, 48, 48], [48, 49, 49, 48], [49, 49]]
def trn (b : Bool) (p : Int) : Int := if b = true then p else 15 - p
def jU (b : Bool) (p : Int) : List UInt8 := if p < 0 ∨ 15 < p then [] else cbR.getD (trn b p).toNat []
theorem Cm : ACalls (cxg gl) 120 [] [] (fun r H => r = .d (.agg (cbR.map .str)) ∧ H = []) := by
 refine ACalls.enter Tryz.func120 rfl Tryz.ntmps120 (by kernel_rfl) rfl ?_; simp only [aB, nm, Nat.reduceAdd]
 repeat' (first | refine aa.aD ?_ | (refine aa.aG ?_; simp only [nm, nz, Nat.reduceAdd]) | (refine aa.az ?_; simp only [nm, nz, Nat.reduceAdd]) | (refine aa.bz ?_; simp only [nm, nz, Nat.reduceAdd, bS, dF, AV.unD]) | intro _ | refine aa.au ?_)
 all_goals first | exact ⟨rfl, rfl⟩
theorem xN (b : Bool) (p : Int) (h : 0 ≤ p ∧ p ≤ 15) : ACalls (cxg gl) 121 [B b, I p] [] (fun r H => r = I (trn b p) ∧ H = []) := by
 cases b
 ·refine ACalls.enter Tryz.func121 rfl Tryz.ntmps121 (by kernel_rfl) rfl ?_; simp only [aB, nm, Nat.reduceAdd]
  repeat' (first | refine aa.aD ?_ | refine aa.aY true ?_ | refine aa.av ?_ | refine aa.ai ?_ | intro _ | refine aa.au ?_)
  all_goals first | exact ⟨rfl, rfl⟩
 ·refine ACalls.enter Tryz.func121 rfl Tryz.ntmps121 (by kernel_rfl) rfl ?_; simp only [aB, nm, Nat.reduceAdd]
  repeat' (first | refine aa.aD ?_ | refine aa.aY true ?_ | refine aa.av ?_ | refine aa.ai ?_ | intro _ | refine aa.au ?_)
  all_goals first | exact ⟨rfl, rfl⟩
theorem Jb (b : Bool) (p : Int) : ACalls (cxg gl) 84 [B b, I p] [] (fun r H => r = .bW [S (jU b p), B (decide (0 ≤ p ∧ p ≤ 15))] ∧ H = []) := by
 by_cases h : p < 0 ∨ 15 < p
 ·rw [decide_eq_false (by omega)]
  unfold jU
  rw [if_pos h]
  refine ACalls.enter Tryz.func84 rfl Tryz.ntmps84 (by kernel_rfl) rfl ?_; simp only [aB, nm, Nat.reduceAdd]
  repeat' (first | refine aa.aD ?_ | refine aa.aY true ?_ | refine aa.ah ?_ | refine aa.af ?_ | refine aa.av ?_ | refine aa.aj ?_ | refine aa.bh ?_ | refine aa.aA ?_ | intro _ | (apply aa.gD; rfl; rfl; rfl) | refine aa.au ?_)
  all_goals first | exact ⟨rfl, rfl⟩
 ·rw [decide_eq_true (by omega)]
  unfold jU
  rw [if_neg h]
  have ht : 0 ≤ trn b p ∧ trn b p ≤ 15 := by unfold trn; split <;> omega
  have g : (cbR.map D.str).getD (trn b p).toNat .top = .str (cbR.getD (trn b p).toNat []) := by
   have hl : cbR.length = 16 := rfl
   have h2 : (trn b p).toNat < 16 := by omega
   simp [List.getD, hl, h2]
  have hl : (cbR.map D.str).length = 16 := rfl
  have t := xN (gl := gl) b p (by omega)
  refine ACalls.enter Tryz.func84 rfl Tryz.ntmps84 (by kernel_rfl) rfl ?_; simp only [aB, nm, Nat.reduceAdd]
  repeat' (first | refine aa.aD ?_ | (apply aa.q true; rfl; rfl; rfl; rfl; first | exact True.intro | omega | (simp only [tn, Int.reduceToNat]; omega) | (rw [hl]; omega)) | refine aa.ak (Cm) ?_ | refine aa.ak (t) ?_ | refine aa.ah ?_ | refine aa.af ?_ | refine aa.av ?_ | refine aa.aj ?_ | refine aa.bh ?_ | refine aa.aA ?_ | intro _ | (apply aa.gD; rfl; rfl; rfl) | refine aa.au ?_)
  all_goals first | exact ⟨by simp only [g], rfl⟩
theorem Lh : ∀ i : _root_.Fin 16, cbR.getD i.val [] ≠ [] ∧ (cbR.getD i.val []).length ≤ 6 ∧ (cbR.getD i.val []).all bq = true := by decide +kernel
theorem zC (b : Bool) (p : Int) (h : 0 ≤ p ∧ p ≤ 15) : 0 ≤ trn b p ∧ trn b p ≤ 15 := by unfold trn; split <;> omega
theorem zf (b : Bool) (p : Int) (h : 0 ≤ p ∧ p ≤ 15) : jU b p = cbR.getD (trn b p).toNat [] := by unfold jU; rw [if_neg (by omega)]
theorem ze (b : Bool) (p : Int) (h : 0 ≤ p ∧ p ≤ 15) : jU b p ≠ [] ∧ (jU b p).length ≤ 6 ∧ (jU b p).all bq = true := by
 rw [zf b p h]
 have := zC b p h
 exact Lh ⟨(trn b p).toNat, by omega⟩
attribute [local irreducible] jf cbR
end Cb
namespace Cb
open Go Bt Px
def uU (b : Bool) : List (List UInt8 × Int) := cbR.zipIdx.map fun x => (x.1, trn b (x.2 : Int))
def cbT (b : Bool) : Tb := (mk (uU b) tb0).getD tb0
theorem GY (b : Bool) : mk (uU b) tb0 = some (cbT b) := by
 have : (mk (uU b) tb0).isSome = true := by cases b <;> decide +kernel
 unfold cbT
 cases h : mk (uU b) tb0 with
 | none => rw [h] at this; cases this
 | some T => rfl
theorem AQ (b : Bool) : sx (cbT b) (uU b) := Fv (GY b)
theorem DR (b : Bool) : (uU b).map (·.1) = cbR := by cases b <;> rfl
theorem Jf (b : Bool) (i : Nat) (h : i < 16) : kU (cbT b) i = trn b i := by
 unfold kU
 rw [(AQ b).codes]
 have hl : ∀ b, ∀ i : _root_.Fin 16, ((uU b).getD i.val ([], 0)).2 = trn b i.val := by decide +kernel
 exact hl b ⟨i, h⟩
def cbX (b : Bool) (Dg : List UInt8) : Int × Int × Nat := (if (cV cbR Dg []).2.1 = 0 then trn b (cV cbR Dg []).1 else 0, (cV cbR Dg []).2)
theorem Jd (b : Bool) (Dg : List UInt8) : mM (cbT b) Dg [] = cbX b Dg := by
 rw [oM (AQ b), DR]
 unfold cbX
 have hb := kX cbR Dg []
 have hl : cbR.length = 16 := rfl
 rw [hl] at hb
 by_cases he : (cV cbR Dg []).2.1 = 0
 ·rw [if_pos he, if_pos he]
  obtain ⟨h0, h1⟩ := hb he
  obtain ⟨n, hn⟩ := Int.eq_ofNat_of_zero_le h0
  rw [hn, Jf b n (by omega)]
 ·rw [if_neg he, if_neg he]
end Cb
namespace Cb
open Go Bt Px
attribute [local irreducible] aa ACalls
variable {gl : List (Nat × List D)}
attribute [local irreducible] jf cbR
end Cb
namespace Cb
open Go Bt Px
attribute [local irreducible] aa ACalls
variable {gl : List (Nat × List D)}
theorem cbL (b : Bool) : ba (uU b) = (cbR.zipIdx.map fun x => D.agg [.str x.1, .int .i64 (trn b (x.2 : Int))]) := by
 unfold ba uU
 rw [List.map_map]; rfl
theorem tr0 (b : Bool) (k : Nat) (h : k ≤ 15) : ACalls (cxg gl) 121 [B b, I (k : Int)] [] (fun r H => r = I (trn b (k : Int)) ∧ H = []) := xN b k (by omega)
attribute [local irreducible] trn cbT cbX aC wH
theorem I5 (b : Bool) (s : List UInt8) (p : Nat) (hs : s.length ≤ 1000000) (hp : p ≤ 8 * s.length) : ACalls (cxg gl) 156 [.ptr 0 0, B b] [Rd s p]
  (fun r H => r = .bW [I (cbX b ((aC s p).map bJ)).1, I (cbX b ((aC s p).map bJ)).2.1] ∧ H = [Rd s (wH p (cbX b ((aC s p).map bJ)))]) := by
 have t := fun (k : Nat) (h : k ≤ 15) => tr0 (gl := gl) b k h
 have rc := Cm (gl := gl)
 unfold cbR at rc
 have mk := BL (gl := gl) (uU b) (cbR.getD 0 [], trn b 0) (cbT b) rfl (by cases b <;> decide) (by cases b <;> decide) (GY b)
 have tt := Bd (gl := gl) (cbT b) s p hs hp (AQ b).Ju
 rw [Jd] at tt
 generalize cbX b ((aC s p).map bJ) = X at *
 rw [cbL] at mk
 unfold CK at mk
 refine ACalls.enter Tryz.func156 rfl Tryz.ntmps156 (by kernel_rfl) rfl ?_; simp only [aB, nm, Nat.reduceAdd]
 repeat' (first | refine aa.aD ?_ | (apply aa.BM; (iterate 9 rfl); (first | decide | (dsimp only; omega) | (decide)); simp only [Int.reduceToNat, List.replicate_zero, List.length_nil, List.length_cons, Nat.reduceAdd, List.nil_append, List.cons_append]) | (apply aa.append; (iterate 11 rfl); (first | rfl | (simp only [List.length_append, List.length_map, List.length_cons, List.length_nil]; omega)); (first | (simp only [List.length_append, List.length_map, List.length_cons, List.length_nil]; omega) | (decide)); simp only [List.set_cons_zero, List.set_cons_succ]) | (apply aa.q true; rfl; rfl; rfl; rfl; first | exact True.intro | omega | (simp only [tn, Int.reduceToNat]; omega) | (decide)) | (refine aa.ae [2,3,4,5,0,8] ( tt) ?_; simp only [ny, nh, Nat.reduceAdd, Nat.reduceSub]) | (refine aa.zh [] ( mk) ?_; simp only [ny, nh, Nat.reduceAdd, Nat.reduceSub]) | refine aa.ak (rc) ?_ | refine aa.ak (t 0 (by decide)) ?_ | refine aa.ak (t 1 (by decide)) ?_ | refine aa.ak (t 2 (by decide)) ?_ | refine aa.ak (t 3 (by decide)) ?_ | refine aa.ak (t 4 (by decide)) ?_ | refine aa.ak (t 5 (by decide)) ?_ | refine aa.ak (t 6 (by decide)) ?_ | refine aa.ak (t 7 (by decide)) ?_ | refine aa.ak (t 8 (by decide)) ?_ | refine aa.ak (t 9 (by decide)) ?_ | refine aa.ak (t 10 (by decide)) ?_ | refine aa.ak (t 11 (by decide)) ?_ | refine aa.ak (t 12 (by decide)) ?_ | refine aa.ak (t 13 (by decide)) ?_ | refine aa.ak (t 14 (by decide)) ?_ | refine aa.ak (t 15 (by decide)) ?_ | refine aa.bO ?_ | refine aa.ah ?_ | refine aa.af ?_ | (refine aa.bz ?_; simp only [nm, nz, Nat.reduceAdd, bS, dF, AV.unD]) | refine aa.aV ?_ | apply aa.dP | apply aa.lpU | intro _ | refine aa.au ?_)
 all_goals first | exact ⟨rfl, rfl⟩
end Cb
namespace Cb
open Go Bt Px
attribute [local irreducible] aa ACalls
variable {gl : List (Nat × List D)}
theorem Hz (b : Bool) (p : Int) : trn b (trn b p) = p := by cases b <;> simp [trn]; omega
attribute [local irreducible] trn cbT cbX aC wH jU iY bR
end Cb
end Go.Proofs.YtbfojhfiemcnpaaGreatDoor.Av
