/- Formats: how wide, how high, how many cells, rows and lines. Marks, heads of rows; how many cells. Heads of sheets: which may be. Heads of sheets: written. Heads of sheets that may not be: nothing is written. -/
import Derived.Test.YtbfojhfiemcnpaaGreatDoorPw
set_option linter.unusedVariables false
set_option linter.unusedSimpArgs false
set_option maxRecDepth 100000
set_option maxHeartbeats 64000000
namespace Go.Proofs.YtbfojhfiemcnpaaGreatDoor.Av
namespace Sh
open Go Bt
attribute [local irreducible] aa ACalls
variable {gl : List (Nat × List D)}
def fW (f : Int) : Int := if f = 1 then 128 else if f = 2 then 176 else if f = 3 then 352 else if f = 4 then 704 else if f = 5 then 1408 else if f = 6 then 32 else 0
def fH (f : Int) : Int := if f = 1 then 96 else if f = 2 then 144 else if f = 3 then 288 else if f = 4 then 576 else if f = 5 then 1152 else if f = 6 then 32 else 0
def fR (f : Int) : Int := if f = 1 then 6 else if f = 2 then 9 else if f = 3 then 18 else if f = 4 then 18 else if f = 5 then 18 else if f = 6 then 2 else 0
def fL (f : Int) : Int := if f = 1 then 1 else if f = 2 then 1 else if f = 3 then 1 else if f = 4 then 2 else if f = 5 then 4 else if f = 6 then 1 else 0
def fOk (f : Int) : Bool := decide (1 ≤ f ∧ f ≤ 6)
abbrev fA (f : Int) : Int := fW f / 16
abbrev fD (f : Int) : Int := fH f / 16
theorem KR (f : Int) : f = 1 ∨ f = 2 ∨ f = 3 ∨ f = 4 ∨ f = 5 ∨ f = 6 ∨ ¬ (1 ≤ f ∧ f ≤ 6) := by omega
theorem KU {f : Int} (h : ¬ (1 ≤ f ∧ f ≤ 6)) : fW f = 0 ∧ fH f = 0 ∧ fR f = 0 ∧ fL f = 0 ∧ fOk f = false := by
 refine ⟨?_, ?_, ?_, ?_, decide_eq_false h⟩
 all_goals
  first | unfold fW | unfold fH | unfold fR | unfold fL
  rw [if_neg (by omega), if_neg (by omega), if_neg (by omega), if_neg (by omega), if_neg (by omega), if_neg (by omega)]
theorem wm (f : Int) : ACalls (cxg gl) 81 [I f] [] (fun r H => r = .bW [I (fW f), I (fH f), B (fOk f)] ∧ H = []) := by
 rcases KR f with rfl | rfl | rfl | rfl | rfl | rfl | h
 rotate_right
 ·obtain ⟨e1, e2, e3, e4, e5⟩ := KU h
  rw [e1, e2, e5]
  refine ACalls.enter Tryz.func81 rfl Tryz.ntmps81 (by kernel_rfl) rfl ?_; simp only [aB, nm, Nat.reduceAdd]
  repeat' (first | refine aa.aD ?_ | refine aa.aY true ?_ | refine aa.ah ?_ | refine aa.af ?_ | intro _ | refine aa.au ?_)
  all_goals first | exact ⟨rfl, rfl⟩ | omega
 all_goals
  refine ACalls.enter Tryz.func81 rfl Tryz.ntmps81 (by kernel_rfl) rfl ?_; simp only [aB, nm, Nat.reduceAdd]
  repeat' (first | refine aa.aD ?_ | refine aa.aY true ?_ | refine aa.ah ?_ | refine aa.af ?_ | intro _ | refine aa.au ?_)
  all_goals first | exact ⟨rfl, rfl⟩
theorem iQ (f : Int) : ACalls (cxg gl) 47 [I f] [] (fun r H => r = .bW [I (fA f), I (fD f)] ∧ H = []) := by
 have hs := wm (gl := gl) f
 have hw : 0 ≤ fW f ∧ fW f ≤ 1408 := by unfold fW; split <;> (try split) <;> (try split) <;> (try split) <;> (try split) <;> (try split) <;> decide
 have hh : 0 ≤ fH f ∧ fH f ≤ 1408 := by unfold fH; split <;> (try split) <;> (try split) <;> (try split) <;> (try split) <;> (try split) <;> decide
 refine ACalls.enter Tryz.func47 rfl Tryz.ntmps47 (by kernel_rfl) rfl ?_; simp only [aB, nm, Nat.reduceAdd]
 repeat' (first | refine aa.aD ?_ | refine aa.aY true ?_ | refine aa.ak (hs) ?_ | intro _ | refine aa.au ?_)
 all_goals first | exact ⟨rfl, rfl⟩
theorem oO (f : Int) : ACalls (cxg gl) 40 [I f] [] (fun r H => r = .bW [I (fR f), I (fL f)] ∧ H = []) := by
 rcases KR f with rfl | rfl | rfl | rfl | rfl | rfl | h
 ·have hs : ACalls (cxg gl) 47 [I 1] [] (fun r H => r = .bW [I 8, I 6] ∧ H = []) := iQ 1
  refine ACalls.enter Tryz.func40 rfl Tryz.ntmps40 (by kernel_rfl) rfl ?_; simp only [aB, nm, Nat.reduceAdd]
  repeat' (first | refine aa.aD ?_ | refine aa.aY true ?_ | refine aa.ak (hs) ?_ | refine aa.ah ?_ | refine aa.af ?_ | intro _ | refine aa.au ?_)
  all_goals first | exact ⟨rfl, rfl⟩
 ·have hs : ACalls (cxg gl) 47 [I 2] [] (fun r H => r = .bW [I 11, I 9] ∧ H = []) := iQ 2
  refine ACalls.enter Tryz.func40 rfl Tryz.ntmps40 (by kernel_rfl) rfl ?_; simp only [aB, nm, Nat.reduceAdd]
  repeat' (first | refine aa.aD ?_ | refine aa.aY true ?_ | refine aa.ak (hs) ?_ | refine aa.ah ?_ | refine aa.af ?_ | intro _ | refine aa.au ?_)
  all_goals first | exact ⟨rfl, rfl⟩
 ·have hs : ACalls (cxg gl) 47 [I 3] [] (fun r H => r = .bW [I 22, I 18] ∧ H = []) := iQ 3
  refine ACalls.enter Tryz.func40 rfl Tryz.ntmps40 (by kernel_rfl) rfl ?_; simp only [aB, nm, Nat.reduceAdd]
  repeat' (first | refine aa.aD ?_ | refine aa.aY true ?_ | refine aa.ak (hs) ?_ | refine aa.ah ?_ | refine aa.af ?_ | intro _ | refine aa.au ?_)
  all_goals first | exact ⟨rfl, rfl⟩
 ·have hs : ACalls (cxg gl) 47 [I 4] [] (fun r H => r = .bW [I 44, I 36] ∧ H = []) := iQ 4
  refine ACalls.enter Tryz.func40 rfl Tryz.ntmps40 (by kernel_rfl) rfl ?_; simp only [aB, nm, Nat.reduceAdd]
  repeat' (first | refine aa.aD ?_ | refine aa.aY true ?_ | refine aa.ak (hs) ?_ | refine aa.ah ?_ | refine aa.af ?_ | intro _ | refine aa.au ?_)
  all_goals first | exact ⟨rfl, rfl⟩
 ·have hs : ACalls (cxg gl) 47 [I 5] [] (fun r H => r = .bW [I 88, I 72] ∧ H = []) := iQ 5
  refine ACalls.enter Tryz.func40 rfl Tryz.ntmps40 (by kernel_rfl) rfl ?_; simp only [aB, nm, Nat.reduceAdd]
  repeat' (first | refine aa.aD ?_ | refine aa.aY true ?_ | refine aa.ak (hs) ?_ | refine aa.ah ?_ | refine aa.af ?_ | intro _ | refine aa.au ?_)
  all_goals first | exact ⟨rfl, rfl⟩
 ·have hs : ACalls (cxg gl) 47 [I 6] [] (fun r H => r = .bW [I 2, I 2] ∧ H = []) := iQ 6
  refine ACalls.enter Tryz.func40 rfl Tryz.ntmps40 (by kernel_rfl) rfl ?_; simp only [aB, nm, Nat.reduceAdd]
  repeat' (first | refine aa.aD ?_ | refine aa.aY true ?_ | refine aa.ak (hs) ?_ | refine aa.ah ?_ | refine aa.af ?_ | intro _ | refine aa.au ?_)
  all_goals first | exact ⟨rfl, rfl⟩
 ·have hs := iQ (gl := gl) f
  obtain ⟨e1, e2, e3, e4, e5⟩ := KU h
  unfold fA fD at hs
  rw [e1, e2] at hs
  rw [e3, e4]
  refine ACalls.enter Tryz.func40 rfl Tryz.ntmps40 (by kernel_rfl) rfl ?_; simp only [aB, nm, Nat.reduceAdd]
  repeat' (first | refine aa.aD ?_ | refine aa.aY true ?_ | refine aa.ak (hs) ?_ | refine aa.ah ?_ | refine aa.af ?_ | intro _ | refine aa.au ?_)
  all_goals first | exact ⟨rfl, rfl⟩ | omega
end Sh
namespace Sh
open Go Bt Wr
attribute [local irreducible] aa ACalls
variable {gl : List (Nat × List D)}
def zs (n : Nat) : List UInt8 := List.replicate n 48
theorem Fc (w : List UInt8) : bZ (eQ w).length = 0 := by
 have h1 := kH w
 obtain ⟨p1, p2⟩ := kZ w.length
 unfold bZ at *
 omega
theorem Fb (w : List UInt8) : eQ (eQ w) = eQ w := by
 have h := Fc w
 rw [show eQ (eQ w) = eQ w ++ List.replicate (bZ (eQ w).length) 48 from rfl, h]
 simp
theorem C9 (w : List UInt8) : bR (eQ w) = bR w := by
 unfold bR
 rw [Fb]
attribute [local irreducible] bg bR eQ
theorem A9 (w : List UInt8) (hl : w.length ≤ 100000000) : ACalls (cxg gl) 52 [.ptr 0 0] (WO w) (fun r H => r = I (bZ w.length) ∧ H = WO (eQ w)) := by
 have h1 := kH w
 obtain ⟨p1, p2⟩ := kZ w.length
 have e1 : (8 - (w.length : Int) % 8) % 8 = (bZ w.length : Int) := by unfold bZ; omega
 unfold WO
 rw [C9]
 refine ACalls.enter Tryz.func52 rfl Tryz.ntmps52 (by kernel_rfl) rfl ?_; simp only [aB, nm, Nat.reduceAdd]
 repeat' (first | refine aa.aD ?_ | refine aa.aY true ?_ | refine aa.ai ?_ | (refine aa.az ?_; simp only [nm, nz, Nat.reduceAdd]) | intro _ | refine aa.au ?_)
 all_goals first | exact ⟨congrArg I e1, by rw [e1, h1]; rfl⟩ | exact ⟨congrArg I e1, by rw [e1, h1, Int.natCast_add]⟩
def iF (n : Int) : List UInt8 := [48, 48, 48, 48, 48, 48, 48, 48, 48, 48, 48, 48, 48, 48, 48, 48, 49] ++ bI n 5 5
theorem Mh : ∀ k : _root_.Fin 32, bI ((((32 : Int).toNat ||| ((k.val : Nat) : Int).toNat : Nat)) : Int) 22 22 = iF ((k.val : Nat) : Int) ∧ (32 : Int).toNat ||| ((k.val : Nat) : Int).toNat < 2 ^ 22 := by decide +kernel
theorem Mg (n : Int) (h : 0 ≤ n ∧ n ≤ 31) : bI ((((32 : Int).toNat ||| n.toNat : Nat)) : Int) 22 22 = iF n ∧ (32 : Int).toNat ||| n.toNat < 2 ^ 22 := by
 have h1 := Mh ⟨n.toNat, by omega⟩
 have h2 : ((n.toNat : Nat) : Int) = n := by omega
 simp only [h2] at h1
 exact h1
theorem Aj (n : Int) : (iF n).all bq = true := by unfold iF; rw [List.all_append, iM]; rfl
theorem Ai (n : Int) : (iF n).length = 22 := by unfold iF; rw [List.length_append, dA]; rfl
attribute [local irreducible] iF bI
theorem Ft (w : List UInt8) (n : Int) (hd : w.all bq = true) (hl : w.length ≤ 30000000) (hn : 0 ≤ n ∧ n ≤ 31) :
  ACalls (cxg gl) 78 [.ptr 0 0, I n] (WO w) (fun r H => r = I 0 ∧ H = WO (eQ w ++ iF n)) := by
 have hf := A9 (gl := gl) w (by omega)
 obtain ⟨e1, e2⟩ := Mg n hn
 have h1 := kH w
 obtain ⟨p1, p2⟩ := kZ w.length
 have hp := qJ (gl := gl) (eQ w) ((((32 : Int).toNat ||| n.toNat : Nat)) : Int) 22 (pW w hd) (by omega) (by omega) ⟨by omega, by omega⟩
 rw [e1] at hp
 refine ACalls.enter Tryz.func78 rfl Tryz.ntmps78 (by kernel_rfl) rfl ?_; simp only [aB, nm, Nat.reduceAdd]
 repeat' (first | refine aa.aD ?_ | refine aa.aY true ?_ | (refine aa.ae [0,1] ( hf) ?_; simp only [ny, nh, Nat.reduceAdd, Nat.reduceSub]) | (refine aa.ae [0,1] ( hp) ?_; simp only [ny, nh, Nat.reduceAdd, Nat.reduceSub]) | refine aa.af ?_ | refine aa.aj ?_ | refine aa.bh ?_ | intro _ | refine aa.au ?_)
 all_goals first | exact ⟨rfl, rfl⟩ | omega
def ow (n id q : Int) : List UInt8 := iF n ++ (bI id 2 2 ++ bI q 5 5)
theorem H8 (w : List UInt8) (n id q : Int) (hd : w.all bq = true) (hl : w.length ≤ 20000000) (hn : 1 ≤ n ∧ n ≤ 17) (hi : 0 ≤ id ∧ id ≤ 3) (hq : 1 ≤ q ∧ q ≤ 31) :
  ACalls (cxg gl) 51 [.ptr 0 0, I n, I id, I q] (WO w) (fun r H => r = I 0 ∧ H = WO (eQ w ++ ow n id q)) := by
 have hm := Ft (gl := gl) w n hd (by omega) (by omega)
 have h1 := kH w
 obtain ⟨p1, p2⟩ := kZ w.length
 have k1 := Ai n
 have k2 := dA id 2 2
 have hd1 : (eQ w ++ iF n).all bq = true := by rw [List.all_append, pW w hd, Aj]; rfl
 have hd2 : (eQ w ++ iF n ++ bI id 2 2).all bq = true := by rw [List.all_append, hd1, iM]; rfl
 have hp1 := qJ (gl := gl) (eQ w ++ iF n) id 2 hd1 (by rw [List.length_append]; omega) (by omega) (by omega)
 have hp2 := qJ (gl := gl) (eQ w ++ iF n ++ bI id 2 2) q 5 hd2 (by rw [List.length_append, List.length_append]; omega) (by omega) (by omega)
 refine ACalls.enter Tryz.func51 rfl Tryz.ntmps51 (by kernel_rfl) rfl ?_; simp only [aB, nm, Nat.reduceAdd]
 repeat' (first | refine aa.aD ?_ | refine aa.aY true ?_ | (refine aa.ae [0,1] ( hm) ?_; simp only [ny, nh, Nat.reduceAdd, Nat.reduceSub]) | (refine aa.ae [0,1] ( hp1) ?_; simp only [ny, nh, Nat.reduceAdd, Nat.reduceSub]) | (refine aa.ae [0,1] ( hp2) ?_; simp only [ny, nh, Nat.reduceAdd, Nat.reduceSub]) | refine aa.af ?_ | refine aa.ai ?_ | intro _ | refine aa.au ?_)
 all_goals first | exact ⟨rfl, by unfold ow; rw [List.append_assoc, List.append_assoc]; rfl⟩ | omega
attribute [local irreducible] zs
theorem MG (f : Int) : 0 ≤ fW f ∧ fW f ≤ 1408 := by unfold fW; split <;> (try split) <;> (try split) <;> (try split) <;> (try split) <;> (try split) <;> decide
theorem MJ (f : Int) : 0 ≤ fH f ∧ fH f ≤ 1408 := by unfold fH; split <;> (try split) <;> (try split) <;> (try split) <;> (try split) <;> (try split) <;> decide
end Sh
namespace Sh
open Go Bt Wr
attribute [local irreducible] aa ACalls
variable {gl : List (Nat × List D)}
structure Hd where
 ref : Int
 flags : Int
 fmt : Int
 inter : Bool
 quant : Int
 supp : List Int
abbrev Nn (n : Int) : D := .int .i64 n
def suD (l : List Int) : List D := l.map Nn
theorem wh (l : List Int) : (suD l).length = l.length := by simp [suD]
theorem Bf (l : List Int) (k : Nat) (v : Int) (h : l[k]? = some v) : ((suD l).getD (k : Int).toNat .top).cells[0]? = some (Nn v) := by
 simp [suD, List.getD_eq_getElem?_getD, h, D.cells]
abbrev shD (h : Hd) (rs : List D) (z : Int) : D := .agg [Nn h.ref, Nn h.flags, Nn h.fmt, .bool h.inter, Nn h.quant, .sl 1 (suD h.supp), .sl 4 rs, Nn z]
def okB (v : Int) : Bool := decide (0 ≤ v ∧ v ≤ 255)
def rW (h : Hd) : Prop := fOk h.fmt = true ∧ (0 ≤ h.ref ∧ h.ref ≤ 255) ∧ (0 ≤ h.flags ∧ h.flags ≤ 7) ∧ (1 ≤ h.quant ∧ h.quant ≤ 31) ∧ h.supp.length ≤ 8
instance (h : Hd) : Decidable (rW h) := by unfold rW; infer_instance
def mH (h : Hd) : Bool := decide (rW h) && h.supp.all okB
attribute [local irreducible] suD
theorem vcs (q : Bool) (v : Int) : q = false ∨ (q = true ∧ (v < 0 ∨ (0 ≤ v ∧ (255 < v ∨ v ≤ 255)))) := by
 cases q
 ·exact .inl rfl
 ·exact .inr ⟨rfl, by omega⟩
theorem M8 {p : Prop} [Decidable p] {b : Bool} (h : b = true) (hp : p) : (true && decide p) = b := by rw [h, decide_eq_true hp]; rfl
theorem M9 {p : Prop} [Decidable p] {b : Bool} (h : b = false) (hp : ¬ p) : (true && decide p) = b := by rw [h, decide_eq_false hp]; rfl
theorem Ek (l : List Int) (k : Nat) (v : Int) (h : l[k]? = some v) : (l.take (k + 1)).all okB = ((l.take k).all okB && okB v) := by
 rw [List.take_add_one, h, List.all_append]; simp
theorem JC (h : Hd) (rs : List D) (z : Int) (hl : h.supp.length ≤ 100) : ACalls (cxg gl) 77 [.d (shD h rs z)] [] (fun r H => r = B (mH h) ∧ H = []) := by
 have hs := wm (gl := gl) h.fmt
 have hn := wh h.supp
 have key : ∃ b, b = decide (rW h) := ⟨_, rfl⟩
 obtain ⟨b, hb⟩ := key
 unfold mH
 rw [← hb]
 have cs : (b = true ∧ rW h) ∨ (b = false ∧ (fOk h.fmt = false ∨ (fOk h.fmt = true ∧ (h.ref < 0 ∨ (0 ≤ h.ref ∧ (255 < h.ref ∨ (h.ref ≤ 255 ∧ (h.flags < 0 ∨ (0 ≤ h.flags ∧ (7 < h.flags ∨ (h.flags ≤ 7 ∧ (h.quant < 1 ∨ (1 ≤ h.quant ∧ (31 < h.quant ∨ (h.quant ≤ 31 ∧ 8 < h.supp.length))))))))))))))) := by
  by_cases hp : rW h
  ·exact .inl ⟨by rw [hb, decide_eq_true hp], hp⟩
  ·refine .inr ⟨by rw [hb, decide_eq_false hp], ?_⟩
   unfold rW at hp
   cases hf : fOk h.fmt with
   | false => exact .inl rfl
   | true =>
    rw [hf] at hp
    refine .inr ⟨rfl, ?_⟩
    simp only [true_and] at hp
    omega
 clear hb
 rcases cs with ⟨hbt, hf, h1, h2, h3, h4⟩ | ⟨hbt, hf | ⟨hf, h1 | ⟨h1, h2 | ⟨h2, h3 | ⟨h3, h4 | ⟨h4, h5 | ⟨h5, h6 | ⟨h6, h7⟩⟩⟩⟩⟩⟩⟩⟩
 all_goals rw [hf] at hs
 all_goals
  refine ACalls.enter Tryz.func77 rfl Tryz.ntmps77 (by kernel_rfl) rfl ?_; simp only [aB, nm, Nat.reduceAdd]
  repeat (first | refine aa.aD ?_ | (apply aa.q true; rfl; rfl; rfl; rfl; first | exact True.intro | omega | (simp only [tn, Int.reduceToNat]; omega) | (rw [hn]; omega)) | refine aa.ak (hs) ?_ | refine aa.ah ?_ | refine aa.af ?_ | (refine aa.aP ?_; simp only [nm, nz, Nat.reduceAdd]) | refine aa.aj ?_ | refine aa.cN ?_ | refine aa.bh ?_ | refine aa.aA ?_)
  refine aa.weak (env' := [(55, I ((0 : Nat) : Int)), (54, I ((suD h.supp).length : Int)), (53, .d (.sl 1 (suD h.supp))), (5, B b)]) (by
   first
    | exact ⟨rfl, rfl, rfl, congrArg B hbt.symm, trivial⟩
    | exact ⟨rfl, rfl, rfl, congrArg B (M8 hbt (by rw [hn]; omega)), trivial⟩
    | exact ⟨rfl, rfl, rfl, congrArg B (M9 hbt (by rw [hn]; omega)), trivial⟩) ?_
  clear hbt
  refine aa.loop (fun m env H => ∃ (k : Nat) (q : Bool), m = h.supp.length - k ∧ k ≤ h.supp.length ∧ (b && (h.supp.take k).all okB) = q ∧ env = [(55, I (k : Int)), (54, I ((suD h.supp).length : Int)), (53, .d (.sl 1 (suD h.supp))), (5, B q)] ∧ H = [.cells [.d (Nn h.ref), .d (Nn h.flags), .d (Nn h.fmt), .d (.bool h.inter), .d (Nn h.quant), .d (.sl 1 (suD h.supp)), .d (.sl 4 rs), .d (Nn z)]]) h.supp.length
   ⟨0, b, rfl, by omega, by simp, rfl, rfl⟩ ?_
  rintro m env H ⟨k, q, rfl, hk, hq, rfl, rfl⟩
  rcases Nat.lt_or_ge k h.supp.length with hlt | hge
  ·obtain ⟨v, hv⟩ : ∃ v, h.supp[k]? = some v := ⟨_, List.getElem?_eq_getElem hlt⟩
   have g1 := Bf h.supp k v hv
   have ht := Ek h.supp k v hv
   have hq' : (b && (h.supp.take (k + 1)).all okB) = (q && okB v) := by rw [ht, ← hq, Bool.and_assoc]
   have vs : q = false ∨ (q = true ∧ (v < 0 ∨ (0 ≤ v ∧ (255 < v ∨ v ≤ 255)))) := vcs q v
   rcases vs with rfl | ⟨rfl, v1 | ⟨v1, v2 | v2⟩⟩
   ·repeat' (first | refine aa.aD ?_ | (apply aa.q true; rfl; rfl; rfl; rfl; first | exact True.intro | omega | (simp only [tn, Int.reduceToNat]; omega) | (rw [hn]; omega)) | refine aa.ah ?_ | refine aa.af ?_ | (refine aa.aP ?_; simp only [nm, nz, Nat.reduceAdd]) | refine aa.aj ?_ | refine aa.cN ?_ | refine aa.bh ?_ | refine aa.aA ?_ | (apply aa.iH; (iterate 7 rfl); exact g1) | intro _ | refine aa.au ?_ | refine aa.aI ?_)
    all_goals exact aa.round [(55, I ((k + 1 : Nat) : Int)), (54, I ((suD h.supp).length : Int)), (53, .d (.sl 1 (suD h.supp))), (5, B false)] (h.supp.length - (k + 1)) (by omega) ⟨rfl, rfl, rfl, rfl, trivial⟩ ⟨k + 1, false, rfl, hlt, hq', rfl, rfl⟩
   all_goals have hv2 : okB v = decide (0 ≤ v ∧ v ≤ 255) := rfl
   ·rw [decide_eq_false (by omega)] at hv2
    rw [hv2] at hq'
    repeat' (first | refine aa.aD ?_ | (apply aa.q true; rfl; rfl; rfl; rfl; first | exact True.intro | omega | (simp only [tn, Int.reduceToNat]; omega) | (rw [hn]; omega)) | refine aa.ah ?_ | refine aa.af ?_ | (refine aa.aP ?_; simp only [nm, nz, Nat.reduceAdd]) | refine aa.aj ?_ | refine aa.cN ?_ | refine aa.bh ?_ | refine aa.aA ?_ | (apply aa.iH; (iterate 7 rfl); exact g1) | intro _ | refine aa.au ?_ | refine aa.aI ?_)
    all_goals exact aa.round [(55, I ((k + 1 : Nat) : Int)), (54, I ((suD h.supp).length : Int)), (53, .d (.sl 1 (suD h.supp))), (5, B false)] (h.supp.length - (k + 1)) (by omega) ⟨rfl, rfl, rfl, rfl, trivial⟩ ⟨k + 1, false, rfl, hlt, hq', rfl, rfl⟩
   ·rw [decide_eq_false (by omega)] at hv2
    rw [hv2] at hq'
    repeat' (first | refine aa.aD ?_ | (apply aa.q true; rfl; rfl; rfl; rfl; first | exact True.intro | omega | (simp only [tn, Int.reduceToNat]; omega) | (rw [hn]; omega)) | refine aa.ah ?_ | refine aa.af ?_ | (refine aa.aP ?_; simp only [nm, nz, Nat.reduceAdd]) | refine aa.aj ?_ | refine aa.cN ?_ | refine aa.bh ?_ | refine aa.aA ?_ | (apply aa.iH; (iterate 7 rfl); exact g1) | intro _ | refine aa.au ?_ | refine aa.aI ?_)
    all_goals exact aa.round [(55, I ((k + 1 : Nat) : Int)), (54, I ((suD h.supp).length : Int)), (53, .d (.sl 1 (suD h.supp))), (5, B false)] (h.supp.length - (k + 1)) (by omega) ⟨rfl, rfl, rfl, congrArg B (M9 rfl (by omega)), trivial⟩ ⟨k + 1, false, rfl, hlt, hq', rfl, rfl⟩
   ·rw [decide_eq_true (by omega)] at hv2
    rw [hv2] at hq'
    repeat' (first | refine aa.aD ?_ | (apply aa.q true; rfl; rfl; rfl; rfl; first | exact True.intro | omega | (simp only [tn, Int.reduceToNat]; omega) | (rw [hn]; omega)) | refine aa.ah ?_ | refine aa.af ?_ | (refine aa.aP ?_; simp only [nm, nz, Nat.reduceAdd]) | refine aa.aj ?_ | refine aa.cN ?_ | refine aa.bh ?_ | refine aa.aA ?_ | (apply aa.iH; (iterate 7 rfl); exact g1) | intro _ | refine aa.au ?_ | refine aa.aI ?_)
    all_goals exact aa.round [(55, I ((k + 1 : Nat) : Int)), (54, I ((suD h.supp).length : Int)), (53, .d (.sl 1 (suD h.supp))), (5, B true)] (h.supp.length - (k + 1)) (by omega) ⟨rfl, rfl, rfl, congrArg B (M8 rfl (by omega)), trivial⟩ ⟨k + 1, true, rfl, hlt, hq', rfl, rfl⟩
  ·obtain rfl : k = h.supp.length := by omega
   rw [List.take_length] at hq
   rw [hq]
   repeat' (first | refine aa.aD ?_ | refine aa.aY true ?_ | refine aa.ah ?_ | refine aa.af ?_ | (refine aa.aP ?_; simp only [nm, nz, Nat.reduceAdd]) | refine aa.aj ?_ | refine aa.cN ?_ | refine aa.bh ?_ | refine aa.aA ?_ | intro _ | refine aa.au ?_ | refine aa.aI ?_)
   all_goals first | exact ⟨rfl, rfl⟩ | omega
end Sh
namespace Sh
open Go Bt Wr
attribute [local irreducible] aa ACalls
variable {gl : List (Nat × List D)}
def Fi (w : List UInt8) (n : Nat) : Prop := w.all bq = true ∧ w.length ≤ n
theorem Fi.app {w v : List UInt8} {n m : Nat} (h : Fi w n) (h2 : Fi v m) : Fi (w ++ v) (n + m) := ⟨by rw [List.all_append, h.1, h2.1]; rfl, by have := h.2; have := h2.2; rw [List.length_append]; omega⟩
theorem fN (v : Int) (n : Nat) : Fi (bI v n n) n := ⟨iM _ _ _, by rw [dA]; omega⟩
theorem JF (n : Int) : Fi (iF n) 22 := ⟨Aj n, by rw [Ai]; omega⟩
theorem KT {w : List UInt8} {n : Nat} (h : Fi w n) : Fi (eQ w) (n + 7) := ⟨pW w h.1, by have h1 := kH w; have h2 := kZ w.length; have := h.2; omega⟩
theorem lD {w : List UInt8} {n : Nat} (h : Fi w n) (hn : n ≤ 30000000) (v : Int) (m : Nat) (hm : m ≤ 32) (hv : 0 ≤ v ∧ v < 2 ^ m) :
  ACalls (cxg gl) 53 [.ptr 0 0, I v, I m] (WO w) (fun r H => r = I 0 ∧ H = WO (w ++ bI v m m)) := qJ w v m h.1 (by have := h.2; omega) hm hv
def jG (v : Int) : List UInt8 := 49 :: bI v 8 8
def iD (b : Bool) : Int := if b = true then 1 else 0
def jT (h : Hd) : List UInt8 := iF 0 ++ bI h.ref 8 8 ++ bI 2 2 2 ++ bI h.flags 3 3 ++ bI h.fmt 3 3 ++ bI (iD h.inter) 1 1 ++ bI 0 4 4 ++ bI h.quant 5 5 ++ bI 0 1 1
def cH (h : Hd) : List UInt8 := jT h ++ h.supp.flatMap jG ++ bI 0 1 1
theorem LB : ∀ k : _root_.Fin 256, bI ((((256 : Int).toNat ||| ((k.val : Nat) : Int).toNat : Nat)) : Int) 9 9 = jG ((k.val : Nat) : Int) ∧ (256 : Int).toNat ||| ((k.val : Nat) : Int).toNat < 2 ^ 9 := by decide +kernel
theorem LA (n : Int) (h : 0 ≤ n ∧ n ≤ 255) : bI ((((256 : Int).toNat ||| n.toNat : Nat)) : Int) 9 9 = jG n ∧ (256 : Int).toNat ||| n.toNat < 2 ^ 9 := by
 have h1 := LB ⟨n.toNat, by omega⟩
 have h2 : ((n.toNat : Nat) : Int) = n := by omega
 simp only [h2] at h1
 exact h1
theorem ME (v : Int) : Fi (jG v) 9 := by
 unfold jG
 exact ⟨by rw [List.all_cons, iM]; rfl, by rw [List.length_cons, dA]; omega⟩
theorem Gm (l : List Int) : Fi (l.flatMap jG) (9 * l.length) := by
 induction l with
 | nil => exact ⟨rfl, by simp⟩
 | cons v l ih =>
  rw [List.flatMap_cons]
  have h := (ME v).app ih
  exact ⟨h.1, by have := h.2; rw [List.length_cons]; omega⟩
theorem MF (h : Hd) : Fi (jT h) 49 := ((((((((JF 0).app (fN h.ref 8)).app (fN 2 2)).app (fN h.flags 3)).app (fN h.fmt 3)).app (fN (iD h.inter) 1)).app (fN 0 4)).app (fN h.quant 5)).app (fN 0 1)
theorem Ej (l : List Int) (k : Nat) (v : Int) (h : l[k]? = some v) : (l.take (k + 1)).flatMap jG = (l.take k).flatMap jG ++ jG v := by
 rw [List.take_add_one, h, List.flatMap_append]; simp
attribute [local irreducible] bg bR eQ iF bI suD jG
theorem nG {h : Hd} (hh : mH h = true) : rW h ∧ ∀ v ∈ h.supp, 0 ≤ v ∧ v ≤ 255 := by
 unfold mH at hh
 rw [Bool.and_eq_true, decide_eq_true_eq, List.all_eq_true] at hh
 exact ⟨hh.1, fun v hv => of_decide_eq_true (hh.2 v hv)⟩
theorem uy {f : Int} (h : fOk f = true) : 1 ≤ f ∧ f ≤ 6 := of_decide_eq_true h
theorem zJ (h : Hd) (rs : List D) (z : Int) (w : List UInt8) (n : Nat) (hh : mH h = true) (hw : Fi w n) (hn : n ≤ 20000000) :
  ACalls (cxg gl) 41 [.ptr 0 0, .d (shD h rs z)] (WO w) (fun r H => r = I 0 ∧ H = WO (eQ w ++ cH h)) := by
 obtain ⟨⟨f0, f1, f2, f3, f4⟩, fs⟩ := nG hh
 have f5 := uy f0
 have hl := wh h.supp
 have mc := JC (gl := gl) h rs z (by omega)
 rw [hh] at mc
 have m0 := Ft (gl := gl) w 0 hw.1 (by have := hw.2; omega) (by omega)
 have w0 := (KT hw).app (JF 0)
 have p1 := lD (gl := gl) w0 (by omega) h.ref 8 (by omega) (by omega)
 have w1 := w0.app (fN h.ref 8)
 have p2 := lD (gl := gl) w1 (by omega) 2 2 (by omega) (by omega)
 have w2 := w1.app (fN 2 2)
 have p3 := lD (gl := gl) w2 (by omega) h.flags 3 (by omega) (by omega)
 have w3 := w2.app (fN h.flags 3)
 have p4 := lD (gl := gl) w3 (by omega) h.fmt 3 (by omega) (by omega)
 have w4 := w3.app (fN h.fmt 3)
 have p5 := lD (gl := gl) w4 (by omega) (iD h.inter) 1 (by omega) (by unfold iD; split <;> decide)
 have w5 := w4.app (fN (iD h.inter) 1)
 have p6 := lD (gl := gl) w5 (by omega) 0 4 (by omega) (by omega)
 have w6 := w5.app (fN 0 4)
 have p7 := lD (gl := gl) w6 (by omega) h.quant 5 (by omega) (by omega)
 have w7 := w6.app (fN h.quant 5)
 have p8 := lD (gl := gl) w7 (by omega) 0 1 (by omega) (by omega)
 have w8 := w7.app (fN 0 1)
 have e8 : eQ w ++ iF 0 ++ bI h.ref 8 8 ++ bI 2 2 2 ++ bI h.flags 3 3 ++ bI h.fmt 3 3 ++ bI (iD h.inter) 1 1 ++ bI 0 4 4 ++ bI h.quant 5 5 ++ bI 0 1 1 = eQ w ++ jT h := by unfold jT; simp only [List.append_assoc]
 rw [e8] at p8 w8
 have e0 : eQ w ++ jT h ++ (h.supp.take 0).flatMap jG = eQ w ++ jT h := by simp
 have hi : (h.inter = false ∧ iD h.inter = 0) ∨ (h.inter = true ∧ iD h.inter = 1) := by cases h.inter <;> decide
 rcases hi with ⟨hb, hi⟩ | ⟨hb, hi⟩
 all_goals
  rw [hi] at p5 p6 p7 p8
  refine ACalls.enter Tryz.func41 rfl Tryz.ntmps41 (by kernel_rfl) rfl ?_; simp only [aB, nm, Nat.reduceAdd]
  repeat (first | refine aa.aD ?_ | (apply aa.q true; rfl; rfl; rfl; rfl; first | exact True.intro | omega | (simp only [tn, Int.reduceToNat]; omega) | (rw [hl]; omega)) | (refine aa.ae [0,1] ( m0) ?_; simp only [ny, nh, Nat.reduceAdd, Nat.reduceSub]) | (refine aa.ae [0,1] ( p1) ?_; simp only [ny, nh, Nat.reduceAdd, Nat.reduceSub]) | (refine aa.ae [0,1] ( p2) ?_; simp only [ny, nh, Nat.reduceAdd, Nat.reduceSub]) | (refine aa.ae [0,1] ( p3) ?_; simp only [ny, nh, Nat.reduceAdd, Nat.reduceSub]) | (refine aa.ae [0,1] ( p4) ?_; simp only [ny, nh, Nat.reduceAdd, Nat.reduceSub]) | (refine aa.ae [0,1] ( p5) ?_; simp only [ny, nh, Nat.reduceAdd, Nat.reduceSub]) | (refine aa.ae [0,1] ( p6) ?_; simp only [ny, nh, Nat.reduceAdd, Nat.reduceSub]) | (refine aa.ae [0,1] ( p7) ?_; simp only [ny, nh, Nat.reduceAdd, Nat.reduceSub]) | (refine aa.ae [0,1] ( p8) ?_; simp only [ny, nh, Nat.reduceAdd, Nat.reduceSub]) | refine aa.zg ( mc) ?_ | refine aa.ah ?_ | refine aa.af ?_ | refine aa.ai ?_ | (refine aa.aP ?_; simp only [nm, nz, Nat.reduceAdd]) | (apply aa.cBT; rfl; first | (simp only [bT]; omega) | (exact hb)) | (apply aa.cBF; rfl; first | (simp only [bF]; omega) | exact ndF rfl | (exact hb)))
  refine aa.weak (env' := [(47, I ((0 : Nat) : Int)), (46, I ((suD h.supp).length : Int)), (45, .d (.sl 1 (suD h.supp))), (0, .ptr 0 0)]) ⟨rfl, rfl, rfl, rfl, trivial⟩ ?_
  refine aa.loop (fun m env H => ∃ k : Nat, m = h.supp.length - k ∧ k ≤ h.supp.length ∧ env = [(47, I (k : Int)), (46, I ((suD h.supp).length : Int)), (45, .d (.sl 1 (suD h.supp))), (0, .ptr 0 0)] ∧ H = WO (eQ w ++ jT h ++ (h.supp.take k).flatMap jG) ++ [.cells [.d (Nn h.ref), .d (Nn h.flags), .d (Nn h.fmt), .d (.bool h.inter), .d (Nn h.quant), .d (.sl 1 (suD h.supp)), .d (.sl 4 rs), .d (Nn z)]]) h.supp.length
   ⟨0, rfl, by omega, rfl, by rw [e0]; rfl⟩ ?_
  rintro m env H ⟨k, rfl, hk, rfl, rfl⟩
  have wk := w8.app (Gm (h.supp.take k))
  have hkl : (h.supp.take k).length ≤ 8 := by rw [List.length_take]; omega
  rcases Nat.lt_or_ge k h.supp.length with hlt | hge
  ·obtain ⟨v, hv⟩ : ∃ v, h.supp[k]? = some v := ⟨_, List.getElem?_eq_getElem hlt⟩
   have g1 := Bf h.supp k v hv
   have hvb := fs v (List.mem_of_getElem? hv)
   obtain ⟨o1, o2⟩ := LA v hvb
   have pk := lD (gl := gl) wk (by omega) ((((256 : Int).toNat ||| v.toNat : Nat)) : Int) 9 (by omega) ⟨by omega, by omega⟩
   rw [o1, List.append_assoc (eQ w ++ jT h), ← Ej h.supp k v hv] at pk
   repeat' (first | refine aa.aD ?_ | (apply aa.q true; rfl; rfl; rfl; rfl; first | exact True.intro | omega | (simp only [tn, Int.reduceToNat]; omega) | (rw [hl]; omega)) | (refine aa.ae [0,1] ( pk) ?_; simp only [ny, nh, Nat.reduceAdd, Nat.reduceSub]) | refine aa.ah ?_ | refine aa.af ?_ | refine aa.ai ?_ | (refine aa.aP ?_; simp only [nm, nz, Nat.reduceAdd]) | refine aa.aU ?_ | refine aa.cB ?_ | (apply aa.iH; (iterate 7 rfl); exact g1) | intro _ | refine aa.au ?_ | refine aa.aI ?_)
   all_goals first
    | exact aa.round [(47, I (((k + 1 : Nat)) : Int)), (46, I ((suD h.supp).length : Int)), (45, .d (.sl 1 (suD h.supp))), (0, .ptr 0 0)] (h.supp.length - (k + 1)) (by omega) ⟨rfl, rfl, rfl, rfl, trivial⟩ ⟨k + 1, rfl, hlt, rfl, rfl⟩
    | omega
  ·obtain rfl : k = h.supp.length := by omega
   have pk := lD (gl := gl) wk (by omega) 0 1 (by omega) (by omega)
   have ef : eQ w ++ jT h ++ (h.supp.take h.supp.length).flatMap jG ++ bI 0 1 1 = eQ w ++ cH h := by unfold cH; rw [List.take_length]; simp only [List.append_assoc]
   rw [ef] at pk
   repeat' (first | refine aa.aD ?_ | refine aa.aY true ?_ | (refine aa.ae [0,1] ( pk) ?_; simp only [ny, nh, Nat.reduceAdd, Nat.reduceSub]) | refine aa.ah ?_ | refine aa.af ?_ | refine aa.ai ?_ | (refine aa.aP ?_; simp only [nm, nz, Nat.reduceAdd]) | refine aa.aU ?_ | refine aa.cB ?_ | intro _ | refine aa.au ?_ | refine aa.aI ?_)
   all_goals first | exact ⟨rfl, rfl⟩ | omega
end Sh
namespace Sh
open Go Bt Wr
attribute [local irreducible] aa ACalls
variable {gl : List (Nat × List D)}
attribute [local irreducible] bg bR eQ suD
theorem Ex (h : Hd) (rs : List D) (z : Int) (w : List UInt8) (hh : mH h = false) (hl : h.supp.length ≤ 100) :
  ACalls (cxg gl) 41 [.ptr 0 0, .d (shD h rs z)] (WO w) (fun r H => r = I 12 ∧ H = WO w) := by
 have mc := JC (gl := gl) h rs z hl
 rw [hh] at mc
 refine ACalls.enter Tryz.func41 rfl Tryz.ntmps41 (by kernel_rfl) rfl ?_; simp only [aB, nm, Nat.reduceAdd]
 repeat' (first | refine aa.aD ?_ | refine aa.aY true ?_ | refine aa.zg ( mc) ?_ | refine aa.av ?_ | refine aa.ai ?_ | (refine aa.aP ?_; simp only [nm, nz, Nat.reduceAdd]) | intro _ | refine aa.au ?_)
 all_goals first | exact ⟨rfl, rfl⟩ | omega
end Sh
end Go.Proofs.YtbfojhfiemcnpaaGreatDoor.Av
