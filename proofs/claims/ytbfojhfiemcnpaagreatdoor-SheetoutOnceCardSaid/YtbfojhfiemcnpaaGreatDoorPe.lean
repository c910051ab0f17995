/- strings.Trim of binary digits; what may be a row. strings.Trim of the two digits; prefix.right. Maps of rows and of symbols, as the tables hold them. prefix's add: a code is taken in, or not. -/
import Derived.Test.YtbfojhfiemcnpaaGreatDoorPd
import Derived.Test.YtbfojhfiemcnpaaGreatDoorPm
set_option linter.unusedVariables false
set_option linter.unusedSimpArgs false
set_option maxRecDepth 100000
set_option maxHeartbeats 64000000
namespace Go.Proofs.YtbfojhfiemcnpaaGreatDoor.Av
namespace Px
open Go Bt
attribute [local irreducible] aa ACalls
variable {gl : List (Nat × List D)}
def rZ : List D := ((List.replicate 256 (D.bool false)).set 48 (.bool true)).set 49 (.bool true)
def tL : List AV := rZ.map .d
theorem H3 : tL = ((List.replicate 256 (B false)).set 48 (B true)).set 49 (B true) := by
 unfold tL rZ
 rw [List.map_set, List.map_set, List.map_replicate]
theorem EF (c : Int) (h : 0 ≤ c ∧ c ≤ 255) : tL[0 + c.toNat * 1]? = some (B (decide (c = 48) || decide (c = 49))) := by
 obtain ⟨n, rfl⟩ := Int.eq_ofNat_of_zero_le h.1
 rw [H3, show 0 + ((n : Int)).toNat * 1 = n by omega, List.getElem?_set, List.getElem?_set]
 simp only [List.length_set, List.length_replicate, List.getElem?_replicate]
 by_cases h9 : n = 49
 ·subst h9; simp
 ·by_cases h8 : n = 48
  ·subst h8; simp
  ·rw [if_neg (by omega), if_neg (by omega), if_pos (by omega)]
   have e1 : ¬ ((n : Int) = 48) := by omega
   have e2 : ¬ ((n : Int) = 49) := by omega
   simp [e1, e2]
theorem uA (c : Int) (h : 0 ≤ c ∧ c ≤ 255) : ACalls (cxg gl) 187 [.ptr 0 0, .d (.int .u8 c)] [.cells tL] (fun r H => r = B (decide (c = 48) || decide (c = 49)) ∧ H = [.cells tL]) := by
 have g1 := EF c h
 refine ACalls.enter Tryz.func187 rfl Tryz.ntmps187 (by kernel_rfl) rfl ?_; simp only [aB, nm, Nat.reduceAdd]
 repeat' (first | refine aa.aD ?_ | refine aa.aY true ?_ | (apply aa.Mr; (iterate 8 rfl); exact g1) | intro _ | refine aa.au ?_)
 all_goals exact ⟨rfl, rfl⟩
def trR (s : List UInt8) : List UInt8 := (s.reverse.dropWhile bq).reverse
def trL (s : List UInt8) : List UInt8 := s.dropWhile bq
theorem xO (s : List UInt8) (c : UInt8) : trR (s ++ [c]) = if bq c = true then trR s else s ++ [c] := by
 unfold trR
 rw [List.reverse_append, List.reverse_singleton, List.singleton_append, List.dropWhile_cons]
 split
 ·rfl
 ·simp
theorem JS (s : List UInt8) : trL (trR s) = [] ↔ s.all bq = true := by
 have h1 : ∀ l : List UInt8, l.dropWhile bq = [] ↔ l.all bq = true := fun l => by
  induction l with
  | nil => simp
  | cons c l ih =>
   rw [List.dropWhile_cons, List.all_cons]
   cases hc : bq c with
   | true => simpa using ih
   | false => simp
 have h2 : trR s = [] ↔ s.all bq = true := by
  unfold trR
  rw [List.reverse_eq_nil_iff, h1, List.all_reverse]
 unfold trL
 rw [h1]
 constructor
 ·intro h
  refine lL (P := fun s => (trR s).all bq = true → s.all bq = true) (fun _ => rfl) (fun l c ih h => ?_) s h
  rw [xO] at h
  split at h
  ·rename_i hc
   rw [List.all_append, ih h]
   simp [hc]
  ·exact h
 ·intro h
  rw [h2.2 h]; rfl
theorem GA (c : UInt8) : (decide ((c.toNat : Int) = 48) || decide ((c.toNat : Int) = 49)) = bq c := by
 unfold bq
 have h8 := pF (c := c) (n := 48) (by omega)
 have h9 := pF (c := c) (n := 49) (by omega)
 have e8 : decide ((c.toNat : Int) = 48) = decide (c = 48) := decide_eq_decide.2 h8
 have e9 : decide ((c.toNat : Int) = 49) = decide (c = 49) := decide_eq_decide.2 h9
 rw [e8, e9]
attribute [local irreducible] trR trL bq
theorem HA (s : List UInt8) (hs : s.length ≤ 9223372036854775807) : ACalls (cxg gl) 184 [S s, .ptr 0 0] [.cells tL] (fun r H => r = S (trR s) ∧ H = [.cells tL]) := by
 refine ACalls.enter Tryz.func184 rfl Tryz.ntmps184 (by kernel_rfl) rfl ?_; simp only [aB, nm, Nat.reduceAdd]
 repeat (first | refine aa.aD ?_ | refine aa.aY true ?_ | refine aa.ah ?_ | refine aa.av ?_ | refine aa.ai ?_)
 refine aa.weak (env' := [(0, S s), (1, .ptr 0 0)]) ⟨rfl, rfl, trivial⟩ ?_
 refine aa.loop (fun m env H => ∃ t : List UInt8, m = t.length ∧ t.length ≤ s.length ∧ trR t = trR s ∧ env = [(0, S t), (1, .ptr 0 0)] ∧ H = [.cells tL]) s.length
  ⟨s, rfl, Nat.le_refl _, rfl, rfl, rfl⟩ ?_
 rintro m env H ⟨t, rfl, hl, ht, rfl, rfl⟩
 rcases List.eq_nil_or_concat t with rfl | ⟨u, c, rfl⟩
 ·rw [← ht]
  repeat' (first | refine aa.aD ?_ | refine aa.aY true ?_ | refine aa.ah ?_ | refine aa.av ?_ | refine aa.ai ?_ | intro _ | refine aa.au ?_ | refine aa.aI ?_)
  all_goals exact ⟨by unfold trR; rfl, rfl⟩
 ·have hln : (u.concat c).length = u.length + 1 := by simp
  have hb : bt (u.concat c) (((u.concat c).length : Int) - 1).toNat = (c.toNat : Int) := uG _ _ _ (by rw [hln, show (((u.length + 1 : Nat) : Int) - 1).toNat = u.length by omega]; simp)
  have hc := uA (gl := gl) (bt (u.concat c) (((u.concat c).length : Int) - 1).toNat) (G6 _ _)
  rw [hb, GA, ← hb] at hc
  have hd : (u.concat c).take (((u.concat c).length : Int) - 1).toNat = u := by rw [hln, show (((u.length + 1 : Nat) : Int) - 1).toNat = u.length by omega]; simp
  have ht' := ht
  rw [List.concat_eq_append, xO] at ht'
  cases hdc : bq c with
  | true =>
   rw [hdc] at hc
   rw [if_pos hdc] at ht'
   repeat' (first | refine aa.aD ?_ | refine aa.aY true ?_ | (refine aa.ae [0] ( hc) ?_; simp only [ny, nh, Nat.reduceAdd, Nat.reduceSub]) | refine aa.ah ?_ | refine aa.av ?_ | refine aa.ai ?_ | intro _ | refine aa.au ?_ | refine aa.aI ?_)
   exact aa.round [(0, S u), (1, .ptr 0 0)] u.length (by omega) ⟨congrArg S hd, rfl, trivial⟩ ⟨u, rfl, by omega, ht', rfl, rfl⟩
  | false =>
   rw [hdc] at hc
   rw [if_neg (by rw [hdc]; decide)] at ht'
   rw [← ht']
   repeat' (first | refine aa.aD ?_ | refine aa.aY true ?_ | (refine aa.ae [0] ( hc) ?_; simp only [ny, nh, Nat.reduceAdd, Nat.reduceSub]) | refine aa.ah ?_ | refine aa.av ?_ | refine aa.ai ?_ | intro _ | refine aa.au ?_ | refine aa.aI ?_)
   all_goals exact ⟨by rw [List.concat_eq_append], rfl⟩
theorem HB (s : List UInt8) (hs : s.length ≤ 9223372036854775807) : ACalls (cxg gl) 183 [S s, .ptr 0 0] [.cells tL] (fun r H => r = S (trL s) ∧ H = [.cells tL]) := by
 refine ACalls.enter Tryz.func183 rfl Tryz.ntmps183 (by kernel_rfl) rfl ?_; simp only [aB, nm, Nat.reduceAdd]
 repeat (first | refine aa.aD ?_ | refine aa.aY true ?_ | refine aa.ah ?_ | refine aa.av ?_ | refine aa.ai ?_)
 refine aa.weak (env' := [(0, S s), (1, .ptr 0 0)]) ⟨rfl, rfl, trivial⟩ ?_
 refine aa.loop (fun m env H => ∃ t : List UInt8, m = t.length ∧ t.length ≤ s.length ∧ trL t = trL s ∧ env = [(0, S t), (1, .ptr 0 0)] ∧ H = [.cells tL]) s.length
  ⟨s, rfl, Nat.le_refl _, rfl, rfl, rfl⟩ ?_
 rintro m env H ⟨t, rfl, hl, ht, rfl, rfl⟩
 cases t with
 | nil =>
  rw [← ht]
  repeat' (first | refine aa.aD ?_ | refine aa.aY true ?_ | refine aa.ah ?_ | refine aa.av ?_ | refine aa.ai ?_ | intro _ | refine aa.au ?_ | refine aa.aI ?_)
  all_goals exact ⟨by unfold trL; rfl, rfl⟩
 | cons c u =>
  have hln : (c :: u).length = u.length + 1 := rfl
  have hb : bt (c :: u) (Int.toNat 0) = (c.toNat : Int) := rfl
  have hc := uA (gl := gl) (bt (c :: u) (Int.toNat 0)) (G6 _ _)
  rw [hb, GA, ← hb] at hc
  have ht' := ht
  unfold trL at ht'
  rw [List.dropWhile_cons] at ht'
  cases hdc : bq c with
  | true =>
   rw [hdc] at hc
   rw [if_pos hdc] at ht'
   repeat' (first | refine aa.aD ?_ | refine aa.aY true ?_ | (refine aa.ae [0] ( hc) ?_; simp only [ny, nh, Nat.reduceAdd, Nat.reduceSub]) | refine aa.ah ?_ | refine aa.av ?_ | refine aa.ai ?_ | intro _ | refine aa.au ?_ | refine aa.aI ?_)
   exact aa.round [(0, S u), (1, .ptr 0 0)] u.length (by omega) ⟨rfl, rfl, trivial⟩ ⟨u, rfl, by omega, by unfold trL; exact ht', rfl, rfl⟩
  | false =>
   rw [hdc] at hc
   rw [if_neg (by rw [hdc]; decide)] at ht'
   have e : trL s = c :: u := by unfold trL; exact ht'.symm
   rw [e]
   repeat' (first | refine aa.aD ?_ | refine aa.aY true ?_ | (refine aa.ae [0] ( hc) ?_; simp only [ny, nh, Nat.reduceAdd, Nat.reduceSub]) | refine aa.ah ?_ | refine aa.av ?_ | refine aa.ai ?_ | intro _ | refine aa.au ?_ | refine aa.aI ?_)
   all_goals exact ⟨rfl, rfl⟩
end Px
namespace Px
open Go Bt
attribute [local irreducible] aa ACalls
variable {gl : List (Nat × List D)}
theorem Dk : ACalls (cxg gl) 182 [S [48, 49]] [] (fun r H => r = .bW [.d (.agg rZ), B true] ∧ H = []) := by
 refine ACalls.enter Tryz.func182 rfl Tryz.ntmps182 (by kernel_rfl) rfl ?_; simp only [aB, nm, Nat.reduceAdd]
 repeat (first | refine aa.aD ?_ | refine aa.aY true ?_ | refine aa.bO ?_ | refine aa.av ?_ | refine aa.ai ?_ | (refine aa.aG ?_; simp only [nm, nz, Nat.reduceAdd]) | (refine aa.az ?_; simp only [nm, nz, Nat.reduceAdd]))
 refine aa.dP ?_
 repeat (first | refine aa.aD ?_ | (apply aa.q true; rfl; rfl; rfl; rfl; first | exact True.intro | omega | (simp only [tn, Int.reduceToNat]; omega) | decide) | refine aa.bO ?_ | refine aa.av ?_ | refine aa.ai ?_ | (refine aa.aG ?_; simp only [nm, nz, Nat.reduceAdd]) | (refine aa.az ?_; simp only [nm, nz, Nat.reduceAdd]))
 refine aa.lpU ?_
 repeat (first | refine aa.aD ?_ | (apply aa.q true; rfl; rfl; rfl; rfl; first | exact True.intro | omega | (simp only [tn, Int.reduceToNat]; omega) | decide) | refine aa.bO ?_ | refine aa.av ?_ | refine aa.ai ?_ | (refine aa.aG ?_; simp only [nm, nz, Nat.reduceAdd]) | (refine aa.az ?_; simp only [nm, nz, Nat.reduceAdd]))
 refine aa.lpU ?_
 repeat (first | refine aa.aD ?_ | (apply aa.q true; rfl; rfl; rfl; rfl; first | exact True.intro | omega | (simp only [tn, Int.reduceToNat]; omega) | decide) | refine aa.bO ?_ | refine aa.av ?_ | refine aa.ai ?_ | (refine aa.aG ?_; simp only [nm, nz, Nat.reduceAdd]) | (refine aa.az ?_; simp only [nm, nz, Nat.reduceAdd]))
 (apply aa.EU; rfl; rfl; rfl; rfl)
 exact ⟨rfl, rfl⟩
attribute [local irreducible] trR trL bq
theorem trim_c (s : List UInt8) (hs : s.length ≤ 9223372036854775807) : ACalls (cxg gl) 176 [S s, S [48, 49]] [] (fun r H => r = S (trL (trR s)) ∧ H = []) := by
 have hl : (trR s).length ≤ 9223372036854775807 := by
  have : (trR s).length ≤ s.length := by
   unfold trR
   rw [List.length_reverse]
   refine Nat.le_trans (List.Sublist.length_le (List.dropWhile_sublist _)) ?_
   rw [List.length_reverse]; exact Nat.le_refl _
  omega
 have h1 := HA (gl := gl) s hs
 have h2 := HB (gl := gl) (trR s) hl
 by_cases h0 : s = []
 ·subst h0
  have e : trL (trR []) = [] := by unfold trL trR; rfl
  rw [e]
  refine ACalls.enter Tryz.func176 rfl Tryz.ntmps176 (by kernel_rfl) rfl ?_; simp only [aB, nm, Nat.reduceAdd]
  repeat' (first | refine aa.aD ?_ | refine aa.aY true ?_ | refine aa.av ?_ | refine aa.ai ?_ | (refine aa.aG ?_; simp only [nm, nz, Nat.reduceAdd]) | (refine aa.az ?_; simp only [nm, nz, Nat.reduceAdd]) | refine aa.aj ?_ | refine aa.cN ?_ | refine aa.bh ?_ | refine aa.aA ?_ | intro _ | refine aa.au ?_)
  all_goals exact ⟨rfl, rfl⟩
 ·have k1 : (decide (s = ({ data := #[] } : ByteArray).data.toList)) = false := decide_eq_false (by intro h; exact h0 h)
  refine ACalls.enter Tryz.func176 rfl Tryz.ntmps176 (by kernel_rfl) rfl ?_; simp only [aB, nm, Nat.reduceAdd]
  repeat' (first | refine aa.aD ?_ | refine aa.aY true ?_ | (refine aa.ae [0] ( h1) ?_; simp only [ny, nh, Nat.reduceAdd, Nat.reduceSub]) | (refine aa.ae [0] ( h2) ?_; simp only [ny, nh, Nat.reduceAdd, Nat.reduceSub]) | refine aa.ak (Dk) ?_ | refine aa.av ?_ | refine aa.ai ?_ | (refine aa.aG ?_; simp only [nm, nz, Nat.reduceAdd]) | (refine aa.az ?_; simp only [nm, nz, Nat.reduceAdd]) | refine aa.aj ?_ | refine aa.cN ?_ | refine aa.bh ?_ | refine aa.aA ?_ | intro _ | refine aa.au ?_)
  all_goals first | exact ⟨rfl, rfl⟩ | (exfalso; simp_all)
def jy (row : List UInt8) : Bool := !decide (row = []) && decide (row.length ≤ 24) && row.all bq
theorem nR (s : List UInt8) (hs : s.length ≤ 9223372036854775807) : ACalls (cxg gl) 174 [S s] [] (fun r H => r = B (jy s) ∧ H = []) := by
 have ht := trim_c (gl := gl) s hs
 have hn := JS s
 by_cases h0 : s = []
 ·subst h0
  refine ACalls.enter Tryz.func174 rfl Tryz.ntmps174 (by kernel_rfl) rfl ?_; simp only [aB, nm, Nat.reduceAdd]
  repeat' (first | refine aa.aD ?_ | refine aa.aY true ?_ | refine aa.aj ?_ | refine aa.cN ?_ | refine aa.bh ?_ | refine aa.fw ?_ | refine aa.eG ?_ | refine aa.aA ?_ | intro _ | refine aa.au ?_)
  all_goals exact ⟨rfl, rfl⟩
 ·have k1 : (!decide (s = ({ data := #[] } : ByteArray).data.toList)) = true := by
   have : decide (s = ({ data := #[] } : ByteArray).data.toList) = false := decide_eq_false (by intro h; exact h0 h)
   rw [this]; rfl
  by_cases h24 : s.length ≤ 24
  ·have e : jy s = s.all bq := by simp [jy, h0, h24]
   rw [e]
   have e2 : decide (trL (trR s) = ({ data := #[] } : ByteArray).data.toList) = s.all bq := by
    rw [Bool.eq_iff_iff, decide_eq_true_iff]; exact hn
   refine ACalls.enter Tryz.func174 rfl Tryz.ntmps174 (by kernel_rfl) rfl ?_; simp only [aB, nm, Nat.reduceAdd]
   repeat' (first | refine aa.aD ?_ | refine aa.aY true ?_ | refine aa.ak (ht) ?_ | refine aa.aj ?_ | refine aa.cN ?_ | refine aa.bh ?_ | (apply aa.gBT; rfl; rfl; rfl; first | (simp only [bT]; omega) | (exact k1)) | (apply aa.gBF; rfl; rfl; rfl; first | (simp only [bF]; omega) | exact ndF rfl | (exact k1)) | refine aa.aA ?_ | intro _ | refine aa.au ?_)
   all_goals first | exact ⟨congrArg B (by rw [e2]; simp [h0, h24]), rfl⟩ | (exfalso; simp_all)
  ·have e : jy s = false := by simp [jy, h24]
   rw [e]
   refine ACalls.enter Tryz.func174 rfl Tryz.ntmps174 (by kernel_rfl) rfl ?_; simp only [aB, nm, Nat.reduceAdd]
   repeat' (first | refine aa.aD ?_ | refine aa.aY true ?_ | refine aa.ak (ht) ?_ | refine aa.aj ?_ | refine aa.cN ?_ | refine aa.bh ?_ | (apply aa.gBT; rfl; rfl; rfl; first | (simp only [bT]; omega) | (exact k1)) | (apply aa.gBF; rfl; rfl; rfl; first | (simp only [bF]; omega) | exact ndF rfl | (exact k1)) | refine aa.aA ?_ | intro _ | refine aa.au ?_)
   all_goals first | exact ⟨rfl, rfl⟩ | exact ⟨congrArg B (by simp), rfl⟩ | (exfalso; simp_all)
end Px
namespace Px
open Go Bt
def bQ (l : List (List UInt8 × Int)) : List (D × D) := l.map fun p => (.str p.1, .int .i64 p.2)
def d9 (l : List (Int × Int)) : List (D × D) := l.map fun p => (.int .i64 p.1, .int .i64 p.2)
def cO {α : Type} [DecidableEq α] (w : α) : List (α × Int) → Nat → Option (Nat × Int)
 | [], _ => none
 | (k, v) :: r, i => if w = k then some (i, v) else cO w r (i + 1)
theorem dD (w : List UInt8) : ∀ (l : List (List UInt8 × Int)) (i : Nat), jk (.str w) (bQ l) i = some ((cO w l i).map fun p => (p.1, .int .i64 p.2))
 | [], i => rfl
 | (k, v) :: r, i => by
  simp only [bQ, List.map_cons, jk, Dn, cO]
  by_cases h : w = k
  ·rw [if_pos h, decide_eq_true h]; rfl
  ·rw [if_neg h, decide_eq_false h]
   exact dD w r (i + 1)
theorem oW (w : Int) : ∀ (l : List (Int × Int)) (i : Nat), jk (.int .i64 w) (d9 l) i = some ((cO w l i).map fun p => (p.1, .int .i64 p.2))
 | [], i => rfl
 | (k, v) :: r, i => by
  simp only [d9, List.map_cons, jk, Dn, cO, decide_true, cond_true]
  by_cases h : w = k
  ·rw [if_pos h, decide_eq_true h]; rfl
  ·rw [if_neg h, decide_eq_false h]
   exact oW w r (i + 1)
def iJ {α : Type} [DecidableEq α] (w : α) (l : List (α × Int)) : Int := match cO w l 0 with | some (_, v) => v | none => 0
def xc {α : Type} [DecidableEq α] (l : List (α × Int)) (w : α) (v : Int) : List (α × Int) := match cO w l 0 with
 | some (i, _) => l.modify i fun p => (p.1, v)
 | none => l ++ [(w, v)]
theorem jH (l : List (List UInt8 × Int)) (w : List UInt8) (v : Int) : p9 (bQ l) (.str w) (.int .i64 v) ((cO w l 0).map fun p => (p.1, .int .i64 p.2)) = bQ (xc l w v) := by
 unfold xc
 cases hf : cO w l 0 with
 | none => simp [p9, bQ]
 | some jv =>
  obtain ⟨j, u⟩ := jv
  simp only [Option.map_some, p9, iE, bQ]
  apply List.ext_getElem?
  intro i
  simp only [List.getElem?_modify, List.getElem?_map]
  cases hi : l[i]? with
  | none => simp
  | some p =>
   by_cases e : j = i <;> simp [e]
theorem lj {α : Type} [DecidableEq α] (w : α) : ∀ (l : List (α × Int)) (i : Nat), cO w l i = (cO w l 0).map fun p => (p.1 + i, p.2)
 | [], i => rfl
 | (k, v) :: r, i => by
  simp only [cO]
  by_cases h : w = k
  ·simp [h]
  ·rw [if_neg h, if_neg h, lj w r (i + 1), lj w r (0 + 1)]
   cases cO w r 0 with
   | none => rfl
   | some p => simp; omega
theorem Gb {α : Type} [DecidableEq α] (w : α) : iJ w ([] : List (α × Int)) = 0 := rfl
theorem lY {α : Type} [DecidableEq α] (w k : α) (v : Int) (r : List (α × Int)) : iJ w ((k, v) :: r) = if w = k then v else iJ w r := by
 unfold iJ
 simp only [cO]
 by_cases h : w = k
 ·simp [h]
 ·rw [if_neg h, if_neg h, lj w r (0 + 1)]
  cases cO w r 0 <;> simp
theorem Gd {α : Type} [DecidableEq α] (w : α) (v : Int) : xc ([] : List (α × Int)) w v = [(w, v)] := rfl
theorem Dx {α : Type} [DecidableEq α] (w k : α) (v u : Int) (r : List (α × Int)) : xc ((k, u) :: r) w v = if w = k then (k, v) :: r else (k, u) :: xc r w v := by
 unfold xc
 simp only [cO]
 by_cases h : w = k
 ·simp [h]
 ·rw [if_neg h, if_neg h, lj w r (0 + 1)]
  cases cO w r 0 with
  | none => simp
  | some p => simp [List.modify_succ_cons]
theorem uo {α : Type} [DecidableEq α] (x w : α) (v : Int) : ∀ l : List (α × Int), iJ x (xc l w v) = if x = w then v else iJ x l
 | [] => by rw [Gd, lY]
 | (k, u) :: r => by
  rw [Dx]
  by_cases h : w = k
  ·subst h
   rw [if_pos rfl, lY, lY]
   by_cases h2 : x = w <;> simp [h2]
  ·rw [if_neg h, lY, lY, uo x w v r]
   by_cases h2 : x = k
   ·subst h2
    rw [if_pos rfl, if_pos rfl, if_neg (fun e => h e.symm)]
   ·rw [if_neg h2, if_neg h2]
def cg (row : List UInt8) : Nat → List (List UInt8 × Int) → List (List UInt8 × Int)
 | 0, l => l
 | k + 1, l => xc (cg row k l) (row.take (k + 1)) (iJ (row.take (k + 1)) (cg row k l) + 1)
theorem kR (row : List UInt8) (l : List (List UInt8 × Int)) (N : Int) (h : ∀ w, 0 ≤ iJ w l ∧ iJ w l ≤ N) : ∀ (k : Nat) (w : List UInt8), 0 ≤ iJ w (cg row k l) ∧ iJ w (cg row k l) ≤ N + k
 | 0, w => by have := h w; simp [cg]; omega
 | k + 1, w => by
  have h1 := kR row l N h k w
  have h2 := kR row l N h k (row.take (k + 1))
  rw [cg, uo]
  split <;> omega
def kO (p : List UInt8 × Int) : D := .agg [.str p.1, .int .i64 p.2]
def ba (l : List (List UInt8 × Int)) : List D := l.map kO
theorem dG (l : List (List UInt8 × Int)) : (ba l).length = l.length := by simp [ba]
theorem rV (l : List (List UInt8 × Int)) (p : List UInt8 × Int) : ba (l ++ [p]) = ba l ++ [kO p] := by simp [ba]
structure Tb where
 codes : List (List UInt8 × Int)
 sym : List (List UInt8 × Int)
 rws : List (Int × Int)
 beg : List (List UInt8 × Int)
 lng : Int
def uW (t : Tb) (row : List UInt8) (sy : Int) : Bool :=
 (cO sy t.rws 0).isNone && jy row && decide (iJ row t.beg ≤ 0) && (List.range row.length).all fun n => (cO (row.take (n + 1)) t.sym 0).isNone
def gh (t : Tb) (row : List UInt8) (sy : Int) : Tb :=
 ⟨t.codes ++ [(row, sy)], t.sym ++ [(row, (t.codes.length : Int))], t.rws ++ [(sy, (t.codes.length : Int))], cg row row.length t.beg, max t.lng row.length⟩
def JW (t : Tb) : List aH := [.cells [.d .bf, .mp 1, .mp 2, .mp 3, I t.lng], .map (bQ t.sym), .map (d9 t.rws), .map (bQ t.beg)]
def HL (t : Tb) : List aH := [.cells [.own 2 (ba t.codes) 4, .mp 1, .mp 2, .mp 3, I t.lng], .map (bQ t.sym), .map (d9 t.rws), .map (bQ t.beg), .front 199 2 (ba t.codes).length]
end Px
namespace Px
open Go Bt
attribute [local irreducible] aa ACalls
variable {gl : List (Nat × List D)}
theorem gZ (l : List (D × D)) (k z v : D) (n : Int) (hn : n = (l.length : Int)) : iE (l ++ [(k, z)]) n.toNat v = l ++ [(k, v)] := by
 subst hn
 unfold iE
 rw [Int.toNat_natCast]
 induction l with
 | nil => rfl
 | cons x l ih => simpa [List.modify_succ_cons] using ih
theorem nO (l : List (List UInt8 × Int)) (w : List UInt8) (v : Int) : bQ (l ++ [(w, v)]) = bQ l ++ [(.str w, .int .i64 v)] := by simp [bQ]
theorem nX (l : List (Int × Int)) (w : Int) (v : Int) : d9 (l ++ [(w, v)]) = d9 l ++ [(.int .i64 w, .int .i64 v)] := by simp [d9]
theorem uO (t : Tb) (row : List UInt8) (sy : Int) : uW t row sy = true ↔ cO sy t.rws 0 = none ∧ jy row = true ∧ iJ row t.beg ≤ 0 ∧ ∀ n, n < row.length → cO (row.take (n + 1)) t.sym 0 = none := by
 unfold uW
 simp only [Bool.and_eq_true, Option.isNone_iff_eq_none, decide_eq_true_eq, List.all_eq_true, List.mem_range, and_assoc]
theorem fZ {α : Type} [DecidableEq α] {w : α} {l : List (α × Int)} {j : Nat} {v : Int} (h : cO w l 0 = some (j, v)) : iJ w l = v := by unfold iJ; rw [h]
theorem lX {α : Type} [DecidableEq α] {w : α} {l : List (α × Int)} (h : cO w l 0 = none) : iJ w l = 0 := by unfold iJ; rw [h]
theorem tk1 (row : List UInt8) (k : Nat) : row.take ((k : Int) + 1).toNat = row.take (k + 1) := by rw [show ((k : Int) + 1).toNat = k + 1 by omega]
attribute [local irreducible] bQ d9 ba jy cg
end Px
end Go.Proofs.YtbfojhfiemcnpaaGreatDoor.Av
