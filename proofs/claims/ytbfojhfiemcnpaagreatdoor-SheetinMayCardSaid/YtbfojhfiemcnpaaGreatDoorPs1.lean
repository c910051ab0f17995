/- Formats: how wide, how high, how many cells, rows and lines. Marks, heads of rows; how many cells. Heads of sheets: which may be. Heads of sheets: written. Heads of sheets that may not be: nothing is written. -/
import Derived.Test.YtbfojhfiemcnpaaGreatDoorPw
set_option linter.unusedVariables false
set_option linter.unusedSimpArgs false
set_option maxRecDepth 100000
set_option maxHeartbeats 64000000
namespace Go.Proofs.YtbfojhfiemcnpaaGreatDoor.Av
namespace Sh
open Go Bt
attribute [local irreducible] aa ACalls
variable {gl : List (Nat × List D)}
def fW (f : Int) : Int := if f = 1 then 128 else if f = 2 then 176 else if f = 3 then 352 else if f = 4 then 704 else if f = 5 then 1408 else if f = 6 then 32 else 0
def fH (f : Int) : Int := if f = 1 then 96 else if f = 2 then 144 else if f = 3 then 288 else if f = 4 then 576 else if f = 5 then 1152 else if f = 6 then 32 else 0
def fR (f : Int) : Int := if f = 1 then 6 else if f = 2 then 9 else if f = 3 then 18 else if f = 4 then 18 else if f = 5 then 18 else if f = 6 then 2 else 0
def fL (f : Int) : Int := if f = 1 then 1 else if f = 2 then 1 else if f = 3 then 1 else if f = 4 then 2 else if f = 5 then 4 else if f = 6 then 1 else 0
def fOk (f : Int) : Bool := decide (1 ≤ f ∧ f ≤ 6)
abbrev fA (f : Int) : Int := fW f / 16
abbrev fD (f : Int) : Int := fH f / 16
theorem Ib (f : Int) : f = 1 ∨ f = 2 ∨ f = 3 ∨ f = 4 ∨ f = 5 ∨ f = 6 ∨ ¬ (1 ≤ f ∧ f ≤ 6) := by omega
theorem Ih {f : Int} (h : ¬ (1 ≤ f ∧ f ≤ 6)) : fW f = 0 ∧ fH f = 0 ∧ fR f = 0 ∧ fL f = 0 ∧ fOk f = false := by
 refine ⟨?_, ?_, ?_, ?_, decide_eq_false h⟩
 all_goals
  first | unfold fW | unfold fH | unfold fR | unfold fL
  rw [if_neg (by omega), if_neg (by omega), if_neg (by omega), if_neg (by omega), if_neg (by omega), if_neg (by omega)]
theorem tX (f : Int) : ACalls (cxg gl) 81 [I f] [] (fun r H => r = .bG [I (fW f), I (fH f), B (fOk f)] ∧ H = []) := by
 rcases Ib f with rfl | rfl | rfl | rfl | rfl | rfl | h
 rotate_right
 ·obtain ⟨e1, e2, e3, e4, e5⟩ := Ih h
  rw [e1, e2, e5]
  refine ACalls.enter Tryz.func81 rfl Tryz.ntmps81 (by kernel_rfl) rfl ?_; simp only [au, nm, Nat.reduceAdd]
  repeat' (first | (apply aa.st; rfl) | (apply aa.q true; rfl; rfl; rfl; rfl; first | exact True.intro | omega | (simp only [tn, Int.reduceToNat]; omega)) | (apply aa.af; rfl; first | omega | rfl) | (apply aa.ae; rfl; omega) | intro _ | (apply aa.aC; rfl; rfl; rfl; rfl))
  all_goals first | exact ⟨rfl, rfl⟩ | omega
 all_goals
  refine ACalls.enter Tryz.func81 rfl Tryz.ntmps81 (by kernel_rfl) rfl ?_; simp only [au, nm, Nat.reduceAdd]
  repeat' (first | (apply aa.st; rfl) | (apply aa.q true; rfl; rfl; rfl; rfl; first | exact True.intro | omega | (simp only [tn, Int.reduceToNat]; omega)) | (apply aa.af; rfl; first | omega | rfl) | (apply aa.ae; rfl; omega) | intro _ | (apply aa.aC; rfl; rfl; rfl; rfl))
  all_goals first | exact ⟨rfl, rfl⟩
theorem gV (f : Int) : ACalls (cxg gl) 47 [I f] [] (fun r H => r = .bG [I (fA f), I (fD f)] ∧ H = []) := by
 have hs := tX (gl := gl) f
 have hw : 0 ≤ fW f ∧ fW f ≤ 1408 := by unfold fW; split <;> (try split) <;> (try split) <;> (try split) <;> (try split) <;> (try split) <;> decide
 have hh : 0 ≤ fH f ∧ fH f ≤ 1408 := by unfold fH; split <;> (try split) <;> (try split) <;> (try split) <;> (try split) <;> (try split) <;> decide
 refine ACalls.enter Tryz.func47 rfl Tryz.ntmps47 (by kernel_rfl) rfl ?_; simp only [au, nm, Nat.reduceAdd]
 repeat' (first | (apply aa.st; rfl) | (apply aa.q true; rfl; rfl; rfl; rfl; first | exact True.intro | omega | (simp only [tn, Int.reduceToNat]; omega)) | (apply aa.aA (hs); (iterate 6 rfl)) | intro _ | (apply aa.aC; rfl; rfl; rfl; rfl))
 all_goals first | exact ⟨rfl, rfl⟩
theorem oq (f : Int) : ACalls (cxg gl) 40 [I f] [] (fun r H => r = .bG [I (fR f), I (fL f)] ∧ H = []) := by
 rcases Ib f with rfl | rfl | rfl | rfl | rfl | rfl | h
 ·have hs : ACalls (cxg gl) 47 [I 1] [] (fun r H => r = .bG [I 8, I 6] ∧ H = []) := gV 1
  refine ACalls.enter Tryz.func40 rfl Tryz.ntmps40 (by kernel_rfl) rfl ?_; simp only [au, nm, Nat.reduceAdd]
  repeat' (first | (apply aa.st; rfl) | (apply aa.q true; rfl; rfl; rfl; rfl; first | exact True.intro | omega | (simp only [tn, Int.reduceToNat]; omega)) | (apply aa.aA (hs); (iterate 6 rfl)) | (apply aa.af; rfl; first | omega | rfl) | (apply aa.ae; rfl; omega) | intro _ | (apply aa.aC; rfl; rfl; rfl; rfl))
  all_goals first | exact ⟨rfl, rfl⟩
 ·have hs : ACalls (cxg gl) 47 [I 2] [] (fun r H => r = .bG [I 11, I 9] ∧ H = []) := gV 2
  refine ACalls.enter Tryz.func40 rfl Tryz.ntmps40 (by kernel_rfl) rfl ?_; simp only [au, nm, Nat.reduceAdd]
  repeat' (first | (apply aa.st; rfl) | (apply aa.q true; rfl; rfl; rfl; rfl; first | exact True.intro | omega | (simp only [tn, Int.reduceToNat]; omega)) | (apply aa.aA (hs); (iterate 6 rfl)) | (apply aa.af; rfl; first | omega | rfl) | (apply aa.ae; rfl; omega) | intro _ | (apply aa.aC; rfl; rfl; rfl; rfl))
  all_goals first | exact ⟨rfl, rfl⟩
 ·have hs : ACalls (cxg gl) 47 [I 3] [] (fun r H => r = .bG [I 22, I 18] ∧ H = []) := gV 3
  refine ACalls.enter Tryz.func40 rfl Tryz.ntmps40 (by kernel_rfl) rfl ?_; simp only [au, nm, Nat.reduceAdd]
  repeat' (first | (apply aa.st; rfl) | (apply aa.q true; rfl; rfl; rfl; rfl; first | exact True.intro | omega | (simp only [tn, Int.reduceToNat]; omega)) | (apply aa.aA (hs); (iterate 6 rfl)) | (apply aa.af; rfl; first | omega | rfl) | (apply aa.ae; rfl; omega) | intro _ | (apply aa.aC; rfl; rfl; rfl; rfl))
  all_goals first | exact ⟨rfl, rfl⟩
 ·have hs : ACalls (cxg gl) 47 [I 4] [] (fun r H => r = .bG [I 44, I 36] ∧ H = []) := gV 4
  refine ACalls.enter Tryz.func40 rfl Tryz.ntmps40 (by kernel_rfl) rfl ?_; simp only [au, nm, Nat.reduceAdd]
  repeat' (first | (apply aa.st; rfl) | (apply aa.q true; rfl; rfl; rfl; rfl; first | exact True.intro | omega | (simp only [tn, Int.reduceToNat]; omega)) | (apply aa.aA (hs); (iterate 6 rfl)) | (apply aa.af; rfl; first | omega | rfl) | (apply aa.ae; rfl; omega) | intro _ | (apply aa.aC; rfl; rfl; rfl; rfl))
  all_goals first | exact ⟨rfl, rfl⟩
 ·have hs : ACalls (cxg gl) 47 [I 5] [] (fun r H => r = .bG [I 88, I 72] ∧ H = []) := gV 5
  refine ACalls.enter Tryz.func40 rfl Tryz.ntmps40 (by kernel_rfl) rfl ?_; simp only [au, nm, Nat.reduceAdd]
  repeat' (first | (apply aa.st; rfl) | (apply aa.q true; rfl; rfl; rfl; rfl; first | exact True.intro | omega | (simp only [tn, Int.reduceToNat]; omega)) | (apply aa.aA (hs); (iterate 6 rfl)) | (apply aa.af; rfl; first | omega | rfl) | (apply aa.ae; rfl; omega) | intro _ | (apply aa.aC; rfl; rfl; rfl; rfl))
  all_goals first | exact ⟨rfl, rfl⟩
 ·have hs : ACalls (cxg gl) 47 [I 6] [] (fun r H => r = .bG [I 2, I 2] ∧ H = []) := gV 6
  refine ACalls.enter Tryz.func40 rfl Tryz.ntmps40 (by kernel_rfl) rfl ?_; simp only [au, nm, Nat.reduceAdd]
  repeat' (first | (apply aa.st; rfl) | (apply aa.q true; rfl; rfl; rfl; rfl; first | exact True.intro | omega | (simp only [tn, Int.reduceToNat]; omega)) | (apply aa.aA (hs); (iterate 6 rfl)) | (apply aa.af; rfl; first | omega | rfl) | (apply aa.ae; rfl; omega) | intro _ | (apply aa.aC; rfl; rfl; rfl; rfl))
  all_goals first | exact ⟨rfl, rfl⟩
 ·have hs := gV (gl := gl) f
  obtain ⟨e1, e2, e3, e4, e5⟩ := Ih h
  unfold fA fD at hs
  rw [e1, e2] at hs
  rw [e3, e4]
  refine ACalls.enter Tryz.func40 rfl Tryz.ntmps40 (by kernel_rfl) rfl ?_; simp only [au, nm, Nat.reduceAdd]
  repeat' (first | (apply aa.st; rfl) | (apply aa.q true; rfl; rfl; rfl; rfl; first | exact True.intro | omega | (simp only [tn, Int.reduceToNat]; omega)) | (apply aa.aA (hs); (iterate 6 rfl)) | (apply aa.af; rfl; first | omega | rfl) | (apply aa.ae; rfl; omega) | intro _ | (apply aa.aC; rfl; rfl; rfl; rfl))
  all_goals first | exact ⟨rfl, rfl⟩ | omega
end Sh
namespace Sh
open Go Bt Wr
attribute [local irreducible] aa ACalls
variable {gl : List (Nat × List D)}
def zs (n : Nat) : List UInt8 := List.replicate n 48
theorem Cu (w : List UInt8) : bP (eH w).length = 0 := by
 have h1 := li w
 obtain ⟨p1, p2⟩ := lS w.length
 unfold bP at *
 omega
theorem Ct (w : List UInt8) : eH (eH w) = eH w := by
 have h := Cu w
 rw [show eH (eH w) = eH w ++ List.replicate (bP (eH w).length) 48 from rfl, h]
 simp
theorem Aj (w : List UInt8) : bJ (eH w) = bJ w := by
 unfold bJ
 rw [Ct]
attribute [local irreducible] aS bJ eH
theorem EI (w : List UInt8) (hl : w.length ≤ 100000000) : ACalls (cxg gl) 52 [.ptr 0 0] (WO w) (fun r H => r = I (bP w.length) ∧ H = WO (eH w)) := by
 have h1 := li w
 obtain ⟨p1, p2⟩ := lS w.length
 have e1 : (8 - (w.length : Int) % 8) % 8 = (bP w.length : Int) := by unfold bP; omega
 unfold WO
 rw [Aj]
 refine ACalls.enter Tryz.func52 rfl Tryz.ntmps52 (by kernel_rfl) rfl ?_; simp only [au, nm, Nat.reduceAdd]
 repeat' (first | (apply aa.st; rfl) | (apply aa.q true; rfl; rfl; rfl; rfl; first | exact True.intro | omega | (simp only [tn, Int.reduceToNat]; omega)) | (apply aa.ak; rfl) | (apply aa.store; (iterate 9 rfl); exact Nat.le_of_ble_eq_true rfl; simp only [nm, nz, Nat.reduceAdd]) | intro _ | (apply aa.aC; rfl; rfl; rfl; rfl))
 all_goals first | exact ⟨congrArg I e1, by rw [e1, h1]; rfl⟩ | exact ⟨congrArg I e1, by rw [e1, h1, Int.natCast_add]⟩
def iE (n : Int) : List UInt8 := [48, 48, 48, 48, 48, 48, 48, 48, 48, 48, 48, 48, 48, 48, 48, 48, 49] ++ bv n 5 5
theorem Jd : ∀ k : _root_.Fin 32, bv ((((32 : Int).toNat ||| ((k.val : Nat) : Int).toNat : Nat)) : Int) 22 22 = iE ((k.val : Nat) : Int) ∧ (32 : Int).toNat ||| ((k.val : Nat) : Int).toNat < 2 ^ 22 := by decide +kernel
theorem Jc (n : Int) (h : 0 ≤ n ∧ n ≤ 31) : bv ((((32 : Int).toNat ||| n.toNat : Nat)) : Int) 22 22 = iE n ∧ (32 : Int).toNat ||| n.toNat < 2 ^ 22 := by
 have h1 := Jd ⟨n.toNat, by omega⟩
 have h2 : ((n.toNat : Nat) : Int) = n := by omega
 simp only [h2] at h1
 exact h1
theorem HL (n : Int) : (iE n).all aX = true := by unfold iE; rw [List.all_append, j6]; rfl
theorem HF (n : Int) : (iE n).length = 22 := by unfold iE; rw [List.length_append, fq]; rfl
attribute [local irreducible] iE bv
theorem HE (w : List UInt8) (n : Int) (hd : w.all aX = true) (hl : w.length ≤ 30000000) (hn : 0 ≤ n ∧ n ≤ 31) :
  ACalls (cxg gl) 78 [.ptr 0 0, I n] (WO w) (fun r H => r = I 0 ∧ H = WO (eH w ++ iE n)) := by
 have hf := EI (gl := gl) w (by omega)
 obtain ⟨e1, e2⟩ := Jc n hn
 have h1 := li w
 obtain ⟨p1, p2⟩ := lS w.length
 have hp := xh (gl := gl) (eH w) ((((32 : Int).toNat ||| n.toNat : Nat)) : Int) 22 (vQ w hd) (by omega) (by omega) ⟨by omega, by omega⟩
 rw [e1] at hp
 refine ACalls.enter Tryz.func78 rfl Tryz.ntmps78 (by kernel_rfl) rfl ?_; simp only [au, nm, Nat.reduceAdd]
 repeat' (first | (apply aa.st; rfl) | (apply aa.q true; rfl; rfl; rfl; rfl; first | exact True.intro | omega | (simp only [tn, Int.reduceToNat]; omega)) | (apply aa.ah [0,1] ( hf); (iterate 6 rfl); decide; rfl; rfl; simp only [ny, nh, Nat.reduceAdd, Nat.reduceSub]) | (apply aa.ah [0,1] ( hp); (iterate 6 rfl); decide; rfl; rfl; simp only [ny, nh, Nat.reduceAdd, Nat.reduceSub]) | (apply aa.ae; rfl; omega) | (apply aa.aj; rfl; rfl) | (apply aa.gF; rfl; rfl; rfl; omega) | intro _ | (apply aa.aC; rfl; rfl; rfl; rfl))
 all_goals first | exact ⟨rfl, rfl⟩ | omega
def yM (n id q : Int) : List UInt8 := iE n ++ (bv id 2 2 ++ bv q 5 5)
attribute [local irreducible] zs
theorem Js (f : Int) : 0 ≤ fW f ∧ fW f ≤ 1408 := by unfold fW; split <;> (try split) <;> (try split) <;> (try split) <;> (try split) <;> (try split) <;> decide
theorem Ju (f : Int) : 0 ≤ fH f ∧ fH f ≤ 1408 := by unfold fH; split <;> (try split) <;> (try split) <;> (try split) <;> (try split) <;> (try split) <;> decide
end Sh
namespace Sh
open Go Bt Wr
attribute [local irreducible] aa ACalls
variable {gl : List (Nat × List D)}
structure Hd where
 ref : Int
 flags : Int
 fmt : Int
 inter : Bool
 quant : Int
 supp : List Int
abbrev Nn (n : Int) : D := .int .i64 n
def suD (l : List Int) : List D := l.map Nn
theorem tV (l : List Int) : (suD l).length = l.length := by simp [suD]
theorem yF (l : List Int) (k : Nat) (v : Int) (h : l[k]? = some v) : ((suD l).getD (k : Int).toNat .top).cells[0]? = some (Nn v) := by
 simp [suD, List.getD_eq_getElem?_getD, h, D.cells]
abbrev shD (h : Hd) (rs : List D) (z : Int) : D := .agg [Nn h.ref, Nn h.flags, Nn h.fmt, .bool h.inter, Nn h.quant, .sl 1 (suD h.supp), .sl 4 rs, Nn z]
def okB (v : Int) : Bool := decide (0 ≤ v ∧ v ≤ 255)
def pK (h : Hd) : Prop := fOk h.fmt = true ∧ (0 ≤ h.ref ∧ h.ref ≤ 255) ∧ (0 ≤ h.flags ∧ h.flags ≤ 7) ∧ (1 ≤ h.quant ∧ h.quant ≤ 31) ∧ h.supp.length ≤ 8
instance (h : Hd) : Decidable (pK h) := by unfold pK; infer_instance
def nG (h : Hd) : Bool := decide (pK h) && h.supp.all okB
attribute [local irreducible] suD
theorem vcs (q : Bool) (v : Int) : q = false ∨ (q = true ∧ (v < 0 ∨ (0 ≤ v ∧ (255 < v ∨ v ≤ 255)))) := by
 cases q
 ·exact .inl rfl
 ·exact .inr ⟨rfl, by omega⟩
theorem JH {p : Prop} [Decidable p] {b : Bool} (h : b = true) (hp : p) : (true && decide p) = b := by rw [h, decide_eq_true hp]; rfl
theorem JI {p : Prop} [Decidable p] {b : Bool} (h : b = false) (hp : ¬ p) : (true && decide p) = b := by rw [h, decide_eq_false hp]; rfl
theorem BF (l : List Int) (k : Nat) (v : Int) (h : l[k]? = some v) : (l.take (k + 1)).all okB = ((l.take k).all okB && okB v) := by
 rw [List.take_add_one, h, List.all_append]; simp
theorem GJ (h : Hd) (rs : List D) (z : Int) (hl : h.supp.length ≤ 100) : ACalls (cxg gl) 77 [.d (shD h rs z)] [] (fun r H => r = B (nG h) ∧ H = []) := by
 have hs := tX (gl := gl) h.fmt
 have hn := tV h.supp
 have key : ∃ b, b = decide (pK h) := ⟨_, rfl⟩
 obtain ⟨b, hb⟩ := key
 unfold nG
 rw [← hb]
 have cs : (b = true ∧ pK h) ∨ (b = false ∧ (fOk h.fmt = false ∨ (fOk h.fmt = true ∧ (h.ref < 0 ∨ (0 ≤ h.ref ∧ (255 < h.ref ∨ (h.ref ≤ 255 ∧ (h.flags < 0 ∨ (0 ≤ h.flags ∧ (7 < h.flags ∨ (h.flags ≤ 7 ∧ (h.quant < 1 ∨ (1 ≤ h.quant ∧ (31 < h.quant ∨ (h.quant ≤ 31 ∧ 8 < h.supp.length))))))))))))))) := by
  by_cases hp : pK h
  ·exact .inl ⟨by rw [hb, decide_eq_true hp], hp⟩
  ·refine .inr ⟨by rw [hb, decide_eq_false hp], ?_⟩
   unfold pK at hp
   cases hf : fOk h.fmt with
   | false => exact .inl rfl
   | true =>
    rw [hf] at hp
    refine .inr ⟨rfl, ?_⟩
    simp only [true_and] at hp
    omega
 clear hb
 rcases cs with ⟨hbt, hf, h1, h2, h3, h4⟩ | ⟨hbt, hf | ⟨hf, h1 | ⟨h1, h2 | ⟨h2, h3 | ⟨h3, h4 | ⟨h4, h5 | ⟨h5, h6 | ⟨h6, h7⟩⟩⟩⟩⟩⟩⟩⟩
 all_goals rw [hf] at hs
 all_goals
  refine ACalls.enter Tryz.func77 rfl Tryz.ntmps77 (by kernel_rfl) rfl ?_; simp only [au, nm, Nat.reduceAdd]
  repeat (first | (apply aa.st; rfl) | (apply aa.q true; rfl; rfl; rfl; rfl; first | exact True.intro | omega | (simp only [tn, Int.reduceToNat]; omega) | (rw [hn]; omega)) | (apply aa.aA (hs); (iterate 6 rfl)) | (apply aa.af; rfl; first | omega | rfl) | (apply aa.ae; rfl; omega) | (apply aa.box; (iterate 6 rfl); simp only [nm, nz, Nat.reduceAdd]) | (apply aa.aj; rfl; rfl) | (apply aa.gT; rfl; rfl; rfl; first | omega | rfl) | (apply aa.gF; rfl; rfl; rfl; omega) | (apply aa.az; rfl; rfl; rfl))
  refine aa.weak (env' := [(55, I ((0 : Nat) : Int)), (54, I ((suD h.supp).length : Int)), (53, .d (.sl 1 (suD h.supp))), (5, B b)]) (by
   first
    | exact ⟨rfl, rfl, rfl, congrArg B hbt.symm, trivial⟩
    | exact ⟨rfl, rfl, rfl, congrArg B (JH hbt (by rw [hn]; omega)), trivial⟩
    | exact ⟨rfl, rfl, rfl, congrArg B (JI hbt (by rw [hn]; omega)), trivial⟩) ?_
  clear hbt
  refine aa.loop (fun m env H => ∃ (k : Nat) (q : Bool), m = h.supp.length - k ∧ k ≤ h.supp.length ∧ (b && (h.supp.take k).all okB) = q ∧ env = [(55, I (k : Int)), (54, I ((suD h.supp).length : Int)), (53, .d (.sl 1 (suD h.supp))), (5, B q)] ∧ H = [.cells [.d (Nn h.ref), .d (Nn h.flags), .d (Nn h.fmt), .d (.bool h.inter), .d (Nn h.quant), .d (.sl 1 (suD h.supp)), .d (.sl 4 rs), .d (Nn z)]]) h.supp.length
   ⟨0, b, rfl, by omega, by simp, rfl, rfl⟩ ?_
  rintro m env H ⟨k, q, rfl, hk, hq, rfl, rfl⟩
  rcases Nat.lt_or_ge k h.supp.length with hlt | hge
  ·obtain ⟨v, hv⟩ : ∃ v, h.supp[k]? = some v := ⟨_, List.getElem?_eq_getElem hlt⟩
   have g1 := yF h.supp k v hv
   have ht := BF h.supp k v hv
   have hq' : (b && (h.supp.take (k + 1)).all okB) = (q && okB v) := by rw [ht, ← hq, Bool.and_assoc]
   have vs : q = false ∨ (q = true ∧ (v < 0 ∨ (0 ≤ v ∧ (255 < v ∨ v ≤ 255)))) := vcs q v
   rcases vs with rfl | ⟨rfl, v1 | ⟨v1, v2 | v2⟩⟩
   ·repeat' (first | (apply aa.st; rfl) | (apply aa.q true; rfl; rfl; rfl; rfl; first | exact True.intro | omega | (simp only [tn, Int.reduceToNat]; omega) | (rw [hn]; omega)) | (apply aa.af; rfl; first | omega | rfl) | (apply aa.ae; rfl; omega) | (apply aa.box; (iterate 6 rfl); simp only [nm, nz, Nat.reduceAdd]) | (apply aa.aj; rfl; rfl) | (apply aa.gT; rfl; rfl; rfl; first | omega | rfl) | (apply aa.gF; rfl; rfl; rfl; omega) | (apply aa.az; rfl; rfl; rfl) | (apply aa.fM; (iterate 7 rfl); exact g1) | intro _ | (apply aa.aC; rfl; rfl; rfl; rfl) | (apply aa.aP; rfl; rfl))
    all_goals exact aa.round [(55, I ((k + 1 : Nat) : Int)), (54, I ((suD h.supp).length : Int)), (53, .d (.sl 1 (suD h.supp))), (5, B false)] (h.supp.length - (k + 1)) (by omega) ⟨rfl, rfl, rfl, rfl, trivial⟩ ⟨k + 1, false, rfl, hlt, hq', rfl, rfl⟩
   all_goals have hv2 : okB v = decide (0 ≤ v ∧ v ≤ 255) := rfl
   ·rw [decide_eq_false (by omega)] at hv2
    rw [hv2] at hq'
    repeat' (first | (apply aa.st; rfl) | (apply aa.q true; rfl; rfl; rfl; rfl; first | exact True.intro | omega | (simp only [tn, Int.reduceToNat]; omega) | (rw [hn]; omega)) | (apply aa.af; rfl; first | omega | rfl) | (apply aa.ae; rfl; omega) | (apply aa.box; (iterate 6 rfl); simp only [nm, nz, Nat.reduceAdd]) | (apply aa.aj; rfl; rfl) | (apply aa.gT; rfl; rfl; rfl; first | omega | rfl) | (apply aa.gF; rfl; rfl; rfl; omega) | (apply aa.az; rfl; rfl; rfl) | (apply aa.fM; (iterate 7 rfl); exact g1) | intro _ | (apply aa.aC; rfl; rfl; rfl; rfl) | (apply aa.aP; rfl; rfl))
    all_goals exact aa.round [(55, I ((k + 1 : Nat) : Int)), (54, I ((suD h.supp).length : Int)), (53, .d (.sl 1 (suD h.supp))), (5, B false)] (h.supp.length - (k + 1)) (by omega) ⟨rfl, rfl, rfl, rfl, trivial⟩ ⟨k + 1, false, rfl, hlt, hq', rfl, rfl⟩
   ·rw [decide_eq_false (by omega)] at hv2
    rw [hv2] at hq'
    repeat' (first | (apply aa.st; rfl) | (apply aa.q true; rfl; rfl; rfl; rfl; first | exact True.intro | omega | (simp only [tn, Int.reduceToNat]; omega) | (rw [hn]; omega)) | (apply aa.af; rfl; first | omega | rfl) | (apply aa.ae; rfl; omega) | (apply aa.box; (iterate 6 rfl); simp only [nm, nz, Nat.reduceAdd]) | (apply aa.aj; rfl; rfl) | (apply aa.gT; rfl; rfl; rfl; first | omega | rfl) | (apply aa.gF; rfl; rfl; rfl; omega) | (apply aa.az; rfl; rfl; rfl) | (apply aa.fM; (iterate 7 rfl); exact g1) | intro _ | (apply aa.aC; rfl; rfl; rfl; rfl) | (apply aa.aP; rfl; rfl))
    all_goals exact aa.round [(55, I ((k + 1 : Nat) : Int)), (54, I ((suD h.supp).length : Int)), (53, .d (.sl 1 (suD h.supp))), (5, B false)] (h.supp.length - (k + 1)) (by omega) ⟨rfl, rfl, rfl, congrArg B (JI rfl (by omega)), trivial⟩ ⟨k + 1, false, rfl, hlt, hq', rfl, rfl⟩
   ·rw [decide_eq_true (by omega)] at hv2
    rw [hv2] at hq'
    repeat' (first | (apply aa.st; rfl) | (apply aa.q true; rfl; rfl; rfl; rfl; first | exact True.intro | omega | (simp only [tn, Int.reduceToNat]; omega) | (rw [hn]; omega)) | (apply aa.af; rfl; first | omega | rfl) | (apply aa.ae; rfl; omega) | (apply aa.box; (iterate 6 rfl); simp only [nm, nz, Nat.reduceAdd]) | (apply aa.aj; rfl; rfl) | (apply aa.gT; rfl; rfl; rfl; first | omega | rfl) | (apply aa.gF; rfl; rfl; rfl; omega) | (apply aa.az; rfl; rfl; rfl) | (apply aa.fM; (iterate 7 rfl); exact g1) | intro _ | (apply aa.aC; rfl; rfl; rfl; rfl) | (apply aa.aP; rfl; rfl))
    all_goals exact aa.round [(55, I ((k + 1 : Nat) : Int)), (54, I ((suD h.supp).length : Int)), (53, .d (.sl 1 (suD h.supp))), (5, B true)] (h.supp.length - (k + 1)) (by omega) ⟨rfl, rfl, rfl, congrArg B (JH rfl (by omega)), trivial⟩ ⟨k + 1, true, rfl, hlt, hq', rfl, rfl⟩
  ·obtain rfl : k = h.supp.length := by omega
   rw [List.take_length] at hq
   rw [hq]
   repeat' (first | (apply aa.st; rfl) | (apply aa.q true; rfl; rfl; rfl; rfl; first | exact True.intro | omega | (simp only [tn, Int.reduceToNat]; omega)) | (apply aa.af; rfl; first | omega | rfl) | (apply aa.ae; rfl; omega) | (apply aa.box; (iterate 6 rfl); simp only [nm, nz, Nat.reduceAdd]) | (apply aa.aj; rfl; rfl) | (apply aa.gT; rfl; rfl; rfl; first | omega | rfl) | (apply aa.gF; rfl; rfl; rfl; omega) | (apply aa.az; rfl; rfl; rfl) | intro _ | (apply aa.aC; rfl; rfl; rfl; rfl) | (apply aa.aP; rfl; rfl))
   all_goals first | exact ⟨rfl, rfl⟩ | omega
end Sh
namespace Sh
open Go Bt Wr
attribute [local irreducible] aa ACalls
variable {gl : List (Nat × List D)}
def Fi (w : List UInt8) (n : Nat) : Prop := w.all aX = true ∧ w.length ≤ n
theorem Fi.app {w v : List UInt8} {n m : Nat} (h : Fi w n) (h2 : Fi v m) : Fi (w ++ v) (n + m) := ⟨by rw [List.all_append, h.1, h2.1]; rfl, by have := h.2; have := h2.2; rw [List.length_append]; omega⟩
theorem jH (v : Int) (n : Nat) : Fi (bv v n n) n := ⟨j6 _ _ _, by rw [fq]; omega⟩
theorem Jr (n : Int) : Fi (iE n) 22 := ⟨HL n, by rw [HF]; omega⟩
theorem Ig {w : List UInt8} {n : Nat} (h : Fi w n) : Fi (eH w) (n + 7) := ⟨vQ w h.1, by have h1 := li w; have h2 := lS w.length; have := h.2; omega⟩
theorem jK {w : List UInt8} {n : Nat} (h : Fi w n) (hn : n ≤ 30000000) (v : Int) (m : Nat) (hm : m ≤ 32) (hv : 0 ≤ v ∧ v < 2 ^ m) :
  ACalls (cxg gl) 53 [.ptr 0 0, I v, I m] (WO w) (fun r H => r = I 0 ∧ H = WO (w ++ bv v m m)) := xh w v m h.1 (by have := h.2; omega) hm hv
def iz (v : Int) : List UInt8 := 49 :: bv v 8 8
def iD (b : Bool) : Int := if b = true then 1 else 0
def jb (h : Hd) : List UInt8 := iE 0 ++ bv h.ref 8 8 ++ bv 2 2 2 ++ bv h.flags 3 3 ++ bv h.fmt 3 3 ++ bv (iD h.inter) 1 1 ++ bv 0 4 4 ++ bv h.quant 5 5 ++ bv 0 1 1
def cZ (h : Hd) : List UInt8 := jb h ++ h.supp.flatMap iz ++ bv 0 1 1
theorem IR : ∀ k : _root_.Fin 256, bv ((((256 : Int).toNat ||| ((k.val : Nat) : Int).toNat : Nat)) : Int) 9 9 = iz ((k.val : Nat) : Int) ∧ (256 : Int).toNat ||| ((k.val : Nat) : Int).toNat < 2 ^ 9 := by decide +kernel
theorem IQ (n : Int) (h : 0 ≤ n ∧ n ≤ 255) : bv ((((256 : Int).toNat ||| n.toNat : Nat)) : Int) 9 9 = iz n ∧ (256 : Int).toNat ||| n.toNat < 2 ^ 9 := by
 have h1 := IR ⟨n.toNat, by omega⟩
 have h2 : ((n.toNat : Nat) : Int) = n := by omega
 simp only [h2] at h1
 exact h1
theorem Jq (v : Int) : Fi (iz v) 9 := by
 unfold iz
 exact ⟨by rw [List.all_cons, j6]; rfl, by rw [List.length_cons, fq]; omega⟩
theorem Ie (l : List Int) : Fi (l.flatMap iz) (9 * l.length) := by
 induction l with
 | nil => exact ⟨rfl, by simp⟩
 | cons v l ih =>
  rw [List.flatMap_cons]
  have h := (Jq v).app ih
  exact ⟨h.1, by have := h.2; rw [List.length_cons]; omega⟩
theorem BD (l : List Int) (k : Nat) (v : Int) (h : l[k]? = some v) : (l.take (k + 1)).flatMap iz = (l.take k).flatMap iz ++ iz v := by
 rw [List.take_add_one, h, List.flatMap_append]; simp
attribute [local irreducible] aS bJ eH iE bv suD iz
theorem nE {h : Hd} (hh : nG h = true) : pK h ∧ ∀ v ∈ h.supp, 0 ≤ v ∧ v ≤ 255 := by
 unfold nG at hh
 rw [Bool.and_eq_true, decide_eq_true_eq, List.all_eq_true] at hh
 exact ⟨hh.1, fun v hv => of_decide_eq_true (hh.2 v hv)⟩
theorem rK {f : Int} (h : fOk f = true) : 1 ≤ f ∧ f ≤ 6 := of_decide_eq_true h
theorem BO (h : Hd) (rs : List D) (z : Int) (w : List UInt8) (n : Nat) (hh : nG h = true) (hw : Fi w n) (hn : n ≤ 20000000) :
  ACalls (cxg gl) 41 [.ptr 0 0, .d (shD h rs z)] (WO w) (fun r H => r = I 0 ∧ H = WO (eH w ++ cZ h)) := by
 obtain ⟨⟨f0, f1, f2, f3, f4⟩, fs⟩ := nE hh
 have f5 := rK f0
 have hl := tV h.supp
 have mc := GJ (gl := gl) h rs z (by omega)
 rw [hh] at mc
 have m0 := HE (gl := gl) w 0 hw.1 (by have := hw.2; omega) (by omega)
 have w0 := (Ig hw).app (Jr 0)
 have p1 := jK (gl := gl) w0 (by omega) h.ref 8 (by omega) (by omega)
 have w1 := w0.app (jH h.ref 8)
 have p2 := jK (gl := gl) w1 (by omega) 2 2 (by omega) (by omega)
 have w2 := w1.app (jH 2 2)
 have p3 := jK (gl := gl) w2 (by omega) h.flags 3 (by omega) (by omega)
 have w3 := w2.app (jH h.flags 3)
 have p4 := jK (gl := gl) w3 (by omega) h.fmt 3 (by omega) (by omega)
 have w4 := w3.app (jH h.fmt 3)
 have p5 := jK (gl := gl) w4 (by omega) (iD h.inter) 1 (by omega) (by unfold iD; split <;> decide)
 have w5 := w4.app (jH (iD h.inter) 1)
 have p6 := jK (gl := gl) w5 (by omega) 0 4 (by omega) (by omega)
 have w6 := w5.app (jH 0 4)
 have p7 := jK (gl := gl) w6 (by omega) h.quant 5 (by omega) (by omega)
 have w7 := w6.app (jH h.quant 5)
 have p8 := jK (gl := gl) w7 (by omega) 0 1 (by omega) (by omega)
 have w8 := w7.app (jH 0 1)
 have e8 : eH w ++ iE 0 ++ bv h.ref 8 8 ++ bv 2 2 2 ++ bv h.flags 3 3 ++ bv h.fmt 3 3 ++ bv (iD h.inter) 1 1 ++ bv 0 4 4 ++ bv h.quant 5 5 ++ bv 0 1 1 = eH w ++ jb h := by unfold jb; simp only [List.append_assoc]
 rw [e8] at p8 w8
 have e0 : eH w ++ jb h ++ (h.supp.take 0).flatMap iz = eH w ++ jb h := by simp
 have hi : (h.inter = false ∧ iD h.inter = 0) ∨ (h.inter = true ∧ iD h.inter = 1) := by cases h.inter <;> decide
 rcases hi with ⟨hb, hi⟩ | ⟨hb, hi⟩
 all_goals
  rw [hi] at p5 p6 p7 p8
  refine ACalls.enter Tryz.func41 rfl Tryz.ntmps41 (by kernel_rfl) rfl ?_; simp only [au, nm, Nat.reduceAdd]
  repeat (first | (apply aa.st; rfl) | (apply aa.q true; rfl; rfl; rfl; rfl; first | exact True.intro | omega | (simp only [tn, Int.reduceToNat]; omega) | (rw [hl]; omega)) | (apply aa.ah [0,1] ( m0); (iterate 6 rfl); decide; rfl; rfl; simp only [ny, nh, Nat.reduceAdd, Nat.reduceSub]) | (apply aa.ah [0,1] ( p1); (iterate 6 rfl); decide; rfl; rfl; simp only [ny, nh, Nat.reduceAdd, Nat.reduceSub]) | (apply aa.ah [0,1] ( p2); (iterate 6 rfl); decide; rfl; rfl; simp only [ny, nh, Nat.reduceAdd, Nat.reduceSub]) | (apply aa.ah [0,1] ( p3); (iterate 6 rfl); decide; rfl; rfl; simp only [ny, nh, Nat.reduceAdd, Nat.reduceSub]) | (apply aa.ah [0,1] ( p4); (iterate 6 rfl); decide; rfl; rfl; simp only [ny, nh, Nat.reduceAdd, Nat.reduceSub]) | (apply aa.ah [0,1] ( p5); (iterate 6 rfl); decide; rfl; rfl; simp only [ny, nh, Nat.reduceAdd, Nat.reduceSub]) | (apply aa.ah [0,1] ( p6); (iterate 6 rfl); decide; rfl; rfl; simp only [ny, nh, Nat.reduceAdd, Nat.reduceSub]) | (apply aa.ah [0,1] ( p7); (iterate 6 rfl); decide; rfl; rfl; simp only [ny, nh, Nat.reduceAdd, Nat.reduceSub]) | (apply aa.ah [0,1] ( p8); (iterate 6 rfl); decide; rfl; rfl; simp only [ny, nh, Nat.reduceAdd, Nat.reduceSub]) | (apply aa.Em ( mc); (iterate 7 rfl)) | (apply aa.af; rfl; first | omega | rfl) | (apply aa.ae; rfl; omega) | (apply aa.ak; rfl) | (apply aa.box; (iterate 6 rfl); simp only [nm, nz, Nat.reduceAdd]) | (apply aa.cBT; rfl; first | (simp only [bT]; omega) | (exact hb)) | (apply aa.cBF; rfl; first | (simp only [bF]; omega) | exact ndF rfl | (exact hb)))
  refine aa.weak (env' := [(47, I ((0 : Nat) : Int)), (46, I ((suD h.supp).length : Int)), (45, .d (.sl 1 (suD h.supp))), (0, .ptr 0 0)]) ⟨rfl, rfl, rfl, rfl, trivial⟩ ?_
  refine aa.loop (fun m env H => ∃ k : Nat, m = h.supp.length - k ∧ k ≤ h.supp.length ∧ env = [(47, I (k : Int)), (46, I ((suD h.supp).length : Int)), (45, .d (.sl 1 (suD h.supp))), (0, .ptr 0 0)] ∧ H = WO (eH w ++ jb h ++ (h.supp.take k).flatMap iz) ++ [.cells [.d (Nn h.ref), .d (Nn h.flags), .d (Nn h.fmt), .d (.bool h.inter), .d (Nn h.quant), .d (.sl 1 (suD h.supp)), .d (.sl 4 rs), .d (Nn z)]]) h.supp.length
   ⟨0, rfl, by omega, rfl, by rw [e0]; rfl⟩ ?_
  rintro m env H ⟨k, rfl, hk, rfl, rfl⟩
  have wk := w8.app (Ie (h.supp.take k))
  have hkl : (h.supp.take k).length ≤ 8 := by rw [List.length_take]; omega
  rcases Nat.lt_or_ge k h.supp.length with hlt | hge
  ·obtain ⟨v, hv⟩ : ∃ v, h.supp[k]? = some v := ⟨_, List.getElem?_eq_getElem hlt⟩
   have g1 := yF h.supp k v hv
   have hvb := fs v (List.mem_of_getElem? hv)
   obtain ⟨o1, o2⟩ := IQ v hvb
   have pk := jK (gl := gl) wk (by omega) ((((256 : Int).toNat ||| v.toNat : Nat)) : Int) 9 (by omega) ⟨by omega, by omega⟩
   rw [o1, List.append_assoc (eH w ++ jb h), ← BD h.supp k v hv] at pk
   repeat' (first | (apply aa.st; rfl) | (apply aa.q true; rfl; rfl; rfl; rfl; first | exact True.intro | omega | (simp only [tn, Int.reduceToNat]; omega) | (rw [hl]; omega)) | (apply aa.ah [0,1] ( pk); (iterate 6 rfl); decide; rfl; rfl; simp only [ny, nh, Nat.reduceAdd, Nat.reduceSub]) | (apply aa.af; rfl; first | omega | rfl) | (apply aa.ae; rfl; omega) | (apply aa.ak; rfl) | (apply aa.box; (iterate 6 rfl); simp only [nm, nz, Nat.reduceAdd]) | (apply aa.cBT; rfl; first | (simp only [bT]; omega)) | (apply aa.cBF; rfl; first | (simp only [bF]; omega) | exact ndF rfl) | (apply aa.fM; (iterate 7 rfl); exact g1) | intro _ | (apply aa.aC; rfl; rfl; rfl; rfl) | (apply aa.aP; rfl; rfl))
   all_goals first
    | exact aa.round [(47, I (((k + 1 : Nat)) : Int)), (46, I ((suD h.supp).length : Int)), (45, .d (.sl 1 (suD h.supp))), (0, .ptr 0 0)] (h.supp.length - (k + 1)) (by omega) ⟨rfl, rfl, rfl, rfl, trivial⟩ ⟨k + 1, rfl, hlt, rfl, rfl⟩
    | omega
  ·obtain rfl : k = h.supp.length := by omega
   have pk := jK (gl := gl) wk (by omega) 0 1 (by omega) (by omega)
   have ef : eH w ++ jb h ++ (h.supp.take h.supp.length).flatMap iz ++ bv 0 1 1 = eH w ++ cZ h := by unfold cZ; rw [List.take_length]; simp only [List.append_assoc]
   rw [ef] at pk
   repeat' (first | (apply aa.st; rfl) | (apply aa.q true; rfl; rfl; rfl; rfl; first | exact True.intro | omega | (simp only [tn, Int.reduceToNat]; omega)) | (apply aa.ah [0,1] ( pk); (iterate 6 rfl); decide; rfl; rfl; simp only [ny, nh, Nat.reduceAdd, Nat.reduceSub]) | (apply aa.af; rfl; first | omega | rfl) | (apply aa.ae; rfl; omega) | (apply aa.ak; rfl) | (apply aa.box; (iterate 6 rfl); simp only [nm, nz, Nat.reduceAdd]) | (apply aa.cBT; rfl; first | (simp only [bT]; omega)) | (apply aa.cBF; rfl; first | (simp only [bF]; omega) | exact ndF rfl) | intro _ | (apply aa.aC; rfl; rfl; rfl; rfl) | (apply aa.aP; rfl; rfl))
   all_goals first | exact ⟨rfl, rfl⟩ | omega
end Sh
namespace Sh
open Go Bt Wr
attribute [local irreducible] aa ACalls
variable {gl : List (Nat × List D)}
attribute [local irreducible] aS bJ eH suD
theorem BN (h : Hd) (rs : List D) (z : Int) (w : List UInt8) (hh : nG h = false) (hl : h.supp.length ≤ 100) :
  ACalls (cxg gl) 41 [.ptr 0 0, .d (shD h rs z)] (WO w) (fun r H => r = I 12 ∧ H = WO w) := by
 have mc := GJ (gl := gl) h rs z hl
 rw [hh] at mc
 refine ACalls.enter Tryz.func41 rfl Tryz.ntmps41 (by kernel_rfl) rfl ?_; simp only [au, nm, Nat.reduceAdd]
 repeat' (first | (apply aa.st; rfl) | (apply aa.q true; rfl; rfl; rfl; rfl; first | exact True.intro | omega | (simp only [tn, Int.reduceToNat]; omega)) | (apply aa.Em ( mc); (iterate 7 rfl)) | (apply aa.aB; rfl) | (apply aa.ak; rfl) | (apply aa.box; (iterate 6 rfl); simp only [nm, nz, Nat.reduceAdd]) | intro _ | (apply aa.aC; rfl; rfl; rfl; rfl))
 all_goals first | exact ⟨rfl, rfl⟩ | omega
end Sh
end Go.Proofs.YtbfojhfiemcnpaaGreatDoor.Av
