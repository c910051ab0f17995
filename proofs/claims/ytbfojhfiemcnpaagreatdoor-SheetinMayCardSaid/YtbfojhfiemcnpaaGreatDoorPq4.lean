/- cbpy: the rows, Row. cbpy, plain: the reference's rows, told backwards, say the same. cbpy: the walks of the reference's Row and Take, and of Take. cbpy: the walk of Take. The laws of cbpy. -/
import Derived.Test.YtbfojhfiemcnpaaGreatDoorPg
set_option linter.unusedVariables false
set_option linter.unusedSimpArgs false
set_option maxRecDepth 100000
set_option maxHeartbeats 64000000
namespace Go.Proofs.YtbfojhfiemcnpaaGreatDoor.Av
namespace Cb
open Go Bt
attribute [local irreducible] aa ACalls
variable {gl : List (Nat × List D)}
def cbR : List (List UInt8) := [[48, 48, 49, 49], [48, 48, 49, 48, 49], [48, 48, 49, 48, 48], [49, 48, 48, 49], [48, 48, 48, 49, 49], [48, 49, 49, 49], [48, 48, 48, 48, 49, 48], [49, 48, 49, 49], [48, 48, 48, 49, 48], [48, 48, 48, 48, 49, 49], [48, 49, 48, 49], [49, 48, 49, 48], [48, 49, 48, 48], [49, 48, 48, 48], [48, 49, 49, 48], [49, 49]]
def trn (b : Bool) (p : Int) : Int := if b = true then p else 15 - p
def pJ (b : Bool) (p : Int) : List UInt8 := if p < 0 ∨ 15 < p then [] else cbR.getD (trn b p).toNat []
theorem F7 : ACalls (cxg gl) 120 [] [] (fun r H => r = .d (.agg (cbR.map .str)) ∧ H = []) := by
 refine ACalls.enter Tryz.func120 rfl Tryz.ntmps120 (by kernel_rfl) rfl ?_; simp only [au, nm, Nat.reduceAdd]
 repeat' (first | (apply aa.st; rfl) | (apply aa.alloc; (iterate 5 rfl); simp only [nm, nz, Nat.reduceAdd]) | (apply aa.store; (iterate 9 rfl); exact Nat.le_of_ble_eq_true rfl; simp only [nm, nz, Nat.reduceAdd]) | (apply aa.build; (iterate 5 rfl); simp only [nm, nz, Nat.reduceAdd, bA, cH, AV.unD]) | intro _ | (apply aa.aC; rfl; rfl; rfl; rfl))
 all_goals first | exact ⟨rfl, rfl⟩
theorem Bw (b : Bool) (p : Int) (h : 0 ≤ p ∧ p ≤ 15) : ACalls (cxg gl) 121 [B b, I p] [] (fun r H => r = I (trn b p) ∧ H = []) := by
 cases b
 ·refine ACalls.enter Tryz.func121 rfl Tryz.ntmps121 (by kernel_rfl) rfl ?_; simp only [au, nm, Nat.reduceAdd]
  repeat' (first | (apply aa.st; rfl) | (apply aa.q true; rfl; rfl; rfl; rfl; first | exact True.intro | omega | (simp only [tn, Int.reduceToNat]; omega)) | (apply aa.aB; rfl) | (apply aa.ak; rfl) | intro _ | (apply aa.aC; rfl; rfl; rfl; rfl))
  all_goals first | exact ⟨rfl, rfl⟩
 ·refine ACalls.enter Tryz.func121 rfl Tryz.ntmps121 (by kernel_rfl) rfl ?_; simp only [au, nm, Nat.reduceAdd]
  repeat' (first | (apply aa.st; rfl) | (apply aa.q true; rfl; rfl; rfl; rfl; first | exact True.intro | omega | (simp only [tn, Int.reduceToNat]; omega)) | (apply aa.aB; rfl) | (apply aa.ak; rfl) | intro _ | (apply aa.aC; rfl; rfl; rfl; rfl))
  all_goals first | exact ⟨rfl, rfl⟩
theorem Bx (b : Bool) (p : Int) (h : 0 ≤ p ∧ p ≤ 15) : 0 ≤ trn b p ∧ trn b p ≤ 15 := by unfold trn; split <;> omega
theorem El (b : Bool) (p : Int) (h : 0 ≤ p ∧ p ≤ 15) : pJ b p = cbR.getD (trn b p).toNat [] := by unfold pJ; rw [if_neg (by omega)]
attribute [local irreducible] gM cbR
end Cb
namespace Cb
open Go Bt Px
def sx (b : Bool) : List (List UInt8 × Int) := cbR.zipIdx.map fun x => (x.1, trn b (x.2 : Int))
def cbT (b : Bool) : Tb := (mk (sx b) tb0).getD tb0
theorem Ek (b : Bool) : mk (sx b) tb0 = some (cbT b) := by
 have : (mk (sx b) tb0).isSome = true := by cases b <;> decide +kernel
 unfold cbT
 cases h : mk (sx b) tb0 with
 | none => rw [h] at this; cases this
 | some T => rfl
theorem yn (b : Bool) : pV (cbT b) (sx b) := CH (Ek b)
theorem Bc (b : Bool) : (sx b).map (·.1) = cbR := by cases b <;> rfl
theorem Gj (b : Bool) (i : Nat) (h : i < 16) : jq (cbT b) i = trn b i := by
 unfold jq
 rw [(yn b).codes]
 have hl : ∀ b, ∀ i : _root_.Fin 16, ((sx b).getD i.val ([], 0)).2 = trn b i.val := by decide +kernel
 exact hl b ⟨i, h⟩
def cbX (b : Bool) (Dg : List UInt8) : Int × Int × Nat := (if (bR cbR Dg []).2.1 = 0 then trn b (bR cbR Dg []).1 else 0, (bR cbR Dg []).2)
theorem Gh (b : Bool) (Dg : List UInt8) : kM (cbT b) Dg [] = cbX b Dg := by
 rw [mE (yn b), Bc]
 unfold cbX
 have hb := jw cbR Dg []
 have hl : cbR.length = 16 := rfl
 rw [hl] at hb
 by_cases he : (bR cbR Dg []).2.1 = 0
 ·rw [if_pos he, if_pos he]
  obtain ⟨h0, h1⟩ := hb he
  obtain ⟨n, hn⟩ := Int.eq_ofNat_of_zero_le h0
  rw [hn, Gj b n (by omega)]
 ·rw [if_neg he, if_neg he]
end Cb
namespace Cb
open Go Bt Px
attribute [local irreducible] aa ACalls
variable {gl : List (Nat × List D)}
attribute [local irreducible] gM cbR
end Cb
namespace Cb
open Go Bt Px
attribute [local irreducible] aa ACalls
variable {gl : List (Nat × List D)}
theorem cbL (b : Bool) : aO (sx b) = (cbR.zipIdx.map fun x => D.agg [.str x.1, .int .i64 (trn b (x.2 : Int))]) := by
 unfold aO sx
 rw [List.map_map]; rfl
theorem tr0 (b : Bool) (k : Nat) (h : k ≤ 15) : ACalls (cxg gl) 121 [B b, I (k : Int)] [] (fun r H => r = I (trn b (k : Int)) ∧ H = []) := Bw b k (by omega)
attribute [local irreducible] trn cbT cbX ai um
theorem F6 (b : Bool) (s : List UInt8) (p : Nat) (hs : s.length ≤ 1000000) (hp : p ≤ 8 * s.length) : ACalls (cxg gl) 156 [.ptr 0 0, B b] [Rd s p]
  (fun r H => r = .bG [I (cbX b ((ai s p).map bi)).1, I (cbX b ((ai s p).map bi)).2.1] ∧ H = [Rd s (um p (cbX b ((ai s p).map bi)))]) := by
 have t := fun (k : Nat) (h : k ≤ 15) => tr0 (gl := gl) b k h
 have rc := F7 (gl := gl)
 unfold cbR at rc
 have mk := zh (gl := gl) (sx b) (cbR.getD 0 [], trn b 0) (cbT b) rfl (by cases b <;> decide) (by cases b <;> decide) (Ek b)
 have tt := yD (gl := gl) (cbT b) s p hs hp (yn b).Gy
 rw [Gh] at tt
 generalize cbX b ((ai s p).map bi) = X at *
 rw [cbL] at mk
 unfold zV at mk
 refine ACalls.enter Tryz.func156 rfl Tryz.ntmps156 (by kernel_rfl) rfl ?_; simp only [au, nm, Nat.reduceAdd]
 repeat' (first | (apply aa.st; rfl) | (apply aa.zi; (iterate 9 rfl); (first | decide | (dsimp only; omega) | (decide)); simp only [Int.reduceToNat, List.replicate_zero, List.length_nil, List.length_cons, Nat.reduceAdd, List.nil_append, List.cons_append]) | (apply aa.append; (iterate 11 rfl); (first | rfl | (simp only [List.length_append, List.length_map, List.length_cons, List.length_nil]; omega)); (first | (simp only [List.length_append, List.length_map, List.length_cons, List.length_nil]; omega) | (decide)); simp only [List.set_cons_zero, List.set_cons_succ]) | (apply aa.q true; rfl; rfl; rfl; rfl; first | exact True.intro | omega | (simp only [tn, Int.reduceToNat]; omega) | (decide)) | (apply aa.ah [2,3,4,5,0,8] ( tt); (iterate 6 rfl); decide; rfl; rfl; simp only [ny, nh, Nat.reduceAdd, Nat.reduceSub]) | (apply aa.En [] ( mk); (iterate 7 rfl); decide; rfl; rfl; simp only [ny, nh, Nat.reduceAdd, Nat.reduceSub]) | (apply aa.aA (rc); (iterate 6 rfl)) | (apply aa.aA (t 0 (by decide)); (iterate 6 rfl)) | (apply aa.aA (t 1 (by decide)); (iterate 6 rfl)) | (apply aa.aA (t 2 (by decide)); (iterate 6 rfl)) | (apply aa.aA (t 3 (by decide)); (iterate 6 rfl)) | (apply aa.aA (t 4 (by decide)); (iterate 6 rfl)) | (apply aa.aA (t 5 (by decide)); (iterate 6 rfl)) | (apply aa.aA (t 6 (by decide)); (iterate 6 rfl)) | (apply aa.aA (t 7 (by decide)); (iterate 6 rfl)) | (apply aa.aA (t 8 (by decide)); (iterate 6 rfl)) | (apply aa.aA (t 9 (by decide)); (iterate 6 rfl)) | (apply aa.aA (t 10 (by decide)); (iterate 6 rfl)) | (apply aa.aA (t 11 (by decide)); (iterate 6 rfl)) | (apply aa.aA (t 12 (by decide)); (iterate 6 rfl)) | (apply aa.aA (t 13 (by decide)); (iterate 6 rfl)) | (apply aa.aA (t 14 (by decide)); (iterate 6 rfl)) | (apply aa.aA (t 15 (by decide)); (iterate 6 rfl)) | (apply aa.exit; rfl) | (apply aa.af; rfl; first | omega | rfl) | (apply aa.ae; rfl; omega) | (apply aa.build; (iterate 5 rfl); simp only [nm, nz, Nat.reduceAdd, bA, cH, AV.unD]) | (apply aa.buildSlice; (iterate 11 rfl)) | apply aa.dM | apply aa.lpU | intro _ | (apply aa.aC; rfl; rfl; rfl; rfl))
 all_goals first | exact ⟨rfl, rfl⟩
end Cb
namespace Cb
open Go Bt Px
attribute [local irreducible] aa ACalls
variable {gl : List (Nat × List D)}
theorem EN (b : Bool) (p : Int) : trn b (trn b p) = p := by cases b <;> simp [trn]; omega
attribute [local irreducible] trn cbT cbX ai um pJ bJ
end Cb
end Go.Proofs.YtbfojhfiemcnpaaGreatDoor.Av
