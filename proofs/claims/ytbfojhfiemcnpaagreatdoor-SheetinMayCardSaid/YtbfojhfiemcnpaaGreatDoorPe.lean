/- strings.Trim of binary digits; what may be a row. strings.Trim of the two digits; prefix.right. Maps of rows and of symbols, as the tables hold them. prefix's add: a code is taken in, or not. -/
import Derived.Test.YtbfojhfiemcnpaaGreatDoorPd
import Derived.Test.YtbfojhfiemcnpaaGreatDoorPm
set_option linter.unusedVariables false
set_option linter.unusedSimpArgs false
set_option maxRecDepth 100000
set_option maxHeartbeats 64000000
namespace Go.Proofs.YtbfojhfiemcnpaaGreatDoor.Av
namespace Px
open Go Bt
attribute [local irreducible] aa ACalls
variable {gl : List (Nat × List D)}
def qP : List D := ((List.replicate 256 (D.bool false)).set 48 (.bool true)).set 49 (.bool true)
def qQ : List AV := qP.map .d
theorem E9 : qQ = ((List.replicate 256 (B false)).set 48 (B true)).set 49 (B true) := by
 unfold qQ qP
 rw [List.map_set, List.map_set, List.map_replicate]
theorem BV (c : Int) (h : 0 ≤ c ∧ c ≤ 255) : qQ[0 + c.toNat * 1]? = some (B (decide (c = 48) || decide (c = 49))) := by
 obtain ⟨n, rfl⟩ := Int.eq_ofNat_of_zero_le h.1
 rw [E9, show 0 + ((n : Int)).toNat * 1 = n by omega, List.getElem?_set, List.getElem?_set]
 simp only [List.length_set, List.length_replicate, List.getElem?_replicate]
 by_cases h9 : n = 49
 ·subst h9; simp
 ·by_cases h8 : n = 48
  ·subst h8; simp
  ·rw [if_neg (by omega), if_neg (by omega), if_pos (by omega)]
   have e1 : ¬ ((n : Int) = 48) := by omega
   have e2 : ¬ ((n : Int) = 49) := by omega
   simp [e1, e2]
theorem rL (c : Int) (h : 0 ≤ c ∧ c ≤ 255) : ACalls (cxg gl) 187 [.ptr 0 0, .d (.int .u8 c)] [.cells qQ] (fun r H => r = B (decide (c = 48) || decide (c = 49)) ∧ H = [.cells qQ]) := by
 have g1 := BV c h
 refine ACalls.enter Tryz.func187 rfl Tryz.ntmps187 (by kernel_rfl) rfl ?_; simp only [au, nm, Nat.reduceAdd]
 repeat' (first | (apply aa.st; rfl) | (apply aa.q true; rfl; rfl; rfl; rfl; first | exact True.intro | omega | (simp only [tn, Int.reduceToNat]; omega)) | (apply aa.Jj; (iterate 8 rfl); exact g1) | intro _ | (apply aa.aC; rfl; rfl; rfl; rfl))
 all_goals exact ⟨rfl, rfl⟩
def trR (s : List UInt8) : List UInt8 := (s.reverse.dropWhile aX).reverse
def trL (s : List UInt8) : List UInt8 := s.dropWhile aX
theorem vu (s : List UInt8) (c : UInt8) : trR (s ++ [c]) = if aX c = true then trR s else s ++ [c] := by
 unfold trR
 rw [List.reverse_append, List.reverse_singleton, List.singleton_append, List.dropWhile_cons]
 split
 ·rfl
 ·simp
theorem Ha (s : List UInt8) : trL (trR s) = [] ↔ s.all aX = true := by
 have h1 : ∀ l : List UInt8, l.dropWhile aX = [] ↔ l.all aX = true := fun l => by
  induction l with
  | nil => simp
  | cons c l ih =>
   rw [List.dropWhile_cons, List.all_cons]
   cases hc : aX c with
   | true => simpa using ih
   | false => simp
 have h2 : trR s = [] ↔ s.all aX = true := by
  unfold trR
  rw [List.reverse_eq_nil_iff, h1, List.all_reverse]
 unfold trL
 rw [h1]
 constructor
 ·intro h
  refine jQ (P := fun s => (trR s).all aX = true → s.all aX = true) (fun _ => rfl) (fun l c ih h => ?_) s h
  rw [vu] at h
  split at h
  ·rename_i hc
   rw [List.all_append, ih h]
   simp [hc]
  ·exact h
 ·intro h
  rw [h2.2 h]; rfl
theorem D6 (c : UInt8) : (decide ((c.toNat : Int) = 48) || decide ((c.toNat : Int) = 49)) = aX c := by
 unfold aX
 have h8 := mO (c := c) (n := 48) (by omega)
 have h9 := mO (c := c) (n := 49) (by omega)
 have e8 : decide ((c.toNat : Int) = 48) = decide (c = 48) := decide_eq_decide.2 h8
 have e9 : decide ((c.toNat : Int) = 49) = decide (c = 49) := decide_eq_decide.2 h9
 rw [e8, e9]
attribute [local irreducible] trR trL aX
theorem EO (s : List UInt8) (hs : s.length ≤ 9223372036854775807) : ACalls (cxg gl) 184 [S s, .ptr 0 0] [.cells qQ] (fun r H => r = S (trR s) ∧ H = [.cells qQ]) := by
 refine ACalls.enter Tryz.func184 rfl Tryz.ntmps184 (by kernel_rfl) rfl ?_; simp only [au, nm, Nat.reduceAdd]
 repeat (first | (apply aa.st; rfl) | (apply aa.q true; rfl; rfl; rfl; rfl; first | exact True.intro | omega | (simp only [tn, Int.reduceToNat]; omega)) | (apply aa.af; rfl; first | omega | rfl) | (apply aa.aB; rfl) | (apply aa.ak; rfl))
 refine aa.weak (env' := [(0, S s), (1, .ptr 0 0)]) ⟨rfl, rfl, trivial⟩ ?_
 refine aa.loop (fun m env H => ∃ t : List UInt8, m = t.length ∧ t.length ≤ s.length ∧ trR t = trR s ∧ env = [(0, S t), (1, .ptr 0 0)] ∧ H = [.cells qQ]) s.length
  ⟨s, rfl, Nat.le_refl _, rfl, rfl, rfl⟩ ?_
 rintro m env H ⟨t, rfl, hl, ht, rfl, rfl⟩
 rcases List.eq_nil_or_concat t with rfl | ⟨u, c, rfl⟩
 ·rw [← ht]
  repeat' (first | (apply aa.st; rfl) | (apply aa.q true; rfl; rfl; rfl; rfl; first | exact True.intro | omega | (simp only [tn, Int.reduceToNat]; omega)) | (apply aa.af; rfl; first | omega | rfl) | (apply aa.aB; rfl) | (apply aa.ak; rfl) | intro _ | (apply aa.aC; rfl; rfl; rfl; rfl) | (apply aa.aP; rfl; rfl))
  all_goals exact ⟨by unfold trR; rfl, rfl⟩
 ·have hln : (u.concat c).length = u.length + 1 := by simp
  have hb : bt (u.concat c) (((u.concat c).length : Int) - 1).toNat = (c.toNat : Int) := IA _ _ _ (by rw [hln, show (((u.length + 1 : Nat) : Int) - 1).toNat = u.length by omega]; simp)
  have hc := rL (gl := gl) (bt (u.concat c) (((u.concat c).length : Int) - 1).toNat) (Ep _ _)
  rw [hb, D6, ← hb] at hc
  have hd : (u.concat c).take (((u.concat c).length : Int) - 1).toNat = u := by rw [hln, show (((u.length + 1 : Nat) : Int) - 1).toNat = u.length by omega]; simp
  have ht' := ht
  rw [List.concat_eq_append, vu] at ht'
  cases hdc : aX c with
  | true =>
   rw [hdc] at hc
   rw [if_pos hdc] at ht'
   repeat' (first | (apply aa.st; rfl) | (apply aa.q true; rfl; rfl; rfl; rfl; first | exact True.intro | omega | (simp only [tn, Int.reduceToNat]; omega)) | (apply aa.ah [0] ( hc); (iterate 6 rfl); decide; rfl; rfl; simp only [ny, nh, Nat.reduceAdd, Nat.reduceSub]) | (apply aa.af; rfl; first | omega | rfl) | (apply aa.aB; rfl) | (apply aa.ak; rfl) | intro _ | (apply aa.aC; rfl; rfl; rfl; rfl) | (apply aa.aP; rfl; rfl))
   exact aa.round [(0, S u), (1, .ptr 0 0)] u.length (by omega) ⟨congrArg S hd, rfl, trivial⟩ ⟨u, rfl, by omega, ht', rfl, rfl⟩
  | false =>
   rw [hdc] at hc
   rw [if_neg (by rw [hdc]; decide)] at ht'
   rw [← ht']
   repeat' (first | (apply aa.st; rfl) | (apply aa.q true; rfl; rfl; rfl; rfl; first | exact True.intro | omega | (simp only [tn, Int.reduceToNat]; omega)) | (apply aa.ah [0] ( hc); (iterate 6 rfl); decide; rfl; rfl; simp only [ny, nh, Nat.reduceAdd, Nat.reduceSub]) | (apply aa.af; rfl; first | omega | rfl) | (apply aa.aB; rfl) | (apply aa.ak; rfl) | intro _ | (apply aa.aC; rfl; rfl; rfl; rfl) | (apply aa.aP; rfl; rfl))
   all_goals exact ⟨by rw [List.concat_eq_append], rfl⟩
theorem EP (s : List UInt8) (hs : s.length ≤ 9223372036854775807) : ACalls (cxg gl) 183 [S s, .ptr 0 0] [.cells qQ] (fun r H => r = S (trL s) ∧ H = [.cells qQ]) := by
 refine ACalls.enter Tryz.func183 rfl Tryz.ntmps183 (by kernel_rfl) rfl ?_; simp only [au, nm, Nat.reduceAdd]
 repeat (first | (apply aa.st; rfl) | (apply aa.q true; rfl; rfl; rfl; rfl; first | exact True.intro | omega | (simp only [tn, Int.reduceToNat]; omega)) | (apply aa.af; rfl; first | omega | rfl) | (apply aa.aB; rfl) | (apply aa.ak; rfl))
 refine aa.weak (env' := [(0, S s), (1, .ptr 0 0)]) ⟨rfl, rfl, trivial⟩ ?_
 refine aa.loop (fun m env H => ∃ t : List UInt8, m = t.length ∧ t.length ≤ s.length ∧ trL t = trL s ∧ env = [(0, S t), (1, .ptr 0 0)] ∧ H = [.cells qQ]) s.length
  ⟨s, rfl, Nat.le_refl _, rfl, rfl, rfl⟩ ?_
 rintro m env H ⟨t, rfl, hl, ht, rfl, rfl⟩
 cases t with
 | nil =>
  rw [← ht]
  repeat' (first | (apply aa.st; rfl) | (apply aa.q true; rfl; rfl; rfl; rfl; first | exact True.intro | omega | (simp only [tn, Int.reduceToNat]; omega)) | (apply aa.af; rfl; first | omega | rfl) | (apply aa.aB; rfl) | (apply aa.ak; rfl) | intro _ | (apply aa.aC; rfl; rfl; rfl; rfl) | (apply aa.aP; rfl; rfl))
  all_goals exact ⟨by unfold trL; rfl, rfl⟩
 | cons c u =>
  have hln : (c :: u).length = u.length + 1 := rfl
  have hb : bt (c :: u) (Int.toNat 0) = (c.toNat : Int) := rfl
  have hc := rL (gl := gl) (bt (c :: u) (Int.toNat 0)) (Ep _ _)
  rw [hb, D6, ← hb] at hc
  have ht' := ht
  unfold trL at ht'
  rw [List.dropWhile_cons] at ht'
  cases hdc : aX c with
  | true =>
   rw [hdc] at hc
   rw [if_pos hdc] at ht'
   repeat' (first | (apply aa.st; rfl) | (apply aa.q true; rfl; rfl; rfl; rfl; first | exact True.intro | omega | (simp only [tn, Int.reduceToNat]; omega)) | (apply aa.ah [0] ( hc); (iterate 6 rfl); decide; rfl; rfl; simp only [ny, nh, Nat.reduceAdd, Nat.reduceSub]) | (apply aa.af; rfl; first | omega | rfl) | (apply aa.aB; rfl) | (apply aa.ak; rfl) | intro _ | (apply aa.aC; rfl; rfl; rfl; rfl) | (apply aa.aP; rfl; rfl))
   exact aa.round [(0, S u), (1, .ptr 0 0)] u.length (by omega) ⟨rfl, rfl, trivial⟩ ⟨u, rfl, by omega, by unfold trL; exact ht', rfl, rfl⟩
  | false =>
   rw [hdc] at hc
   rw [if_neg (by rw [hdc]; decide)] at ht'
   have e : trL s = c :: u := by unfold trL; exact ht'.symm
   rw [e]
   repeat' (first | (apply aa.st; rfl) | (apply aa.q true; rfl; rfl; rfl; rfl; first | exact True.intro | omega | (simp only [tn, Int.reduceToNat]; omega)) | (apply aa.ah [0] ( hc); (iterate 6 rfl); decide; rfl; rfl; simp only [ny, nh, Nat.reduceAdd, Nat.reduceSub]) | (apply aa.af; rfl; first | omega | rfl) | (apply aa.aB; rfl) | (apply aa.ak; rfl) | intro _ | (apply aa.aC; rfl; rfl; rfl; rfl) | (apply aa.aP; rfl; rfl))
   all_goals exact ⟨rfl, rfl⟩
end Px
namespace Px
open Go Bt
attribute [local irreducible] aa ACalls
variable {gl : List (Nat × List D)}
theorem Aw : ACalls (cxg gl) 182 [S [48, 49]] [] (fun r H => r = .bG [.d (.agg qP), B true] ∧ H = []) := by
 refine ACalls.enter Tryz.func182 rfl Tryz.ntmps182 (by kernel_rfl) rfl ?_; simp only [au, nm, Nat.reduceAdd]
 repeat (first | (apply aa.st; rfl) | (apply aa.q true; rfl; rfl; rfl; rfl; first | exact True.intro | omega | (simp only [tn, Int.reduceToNat]; omega)) | (apply aa.exit; rfl) | (apply aa.aB; rfl) | (apply aa.ak; rfl) | (apply aa.alloc; (iterate 5 rfl); simp only [nm, nz, Nat.reduceAdd]) | (apply aa.store; (iterate 9 rfl); exact Nat.le_of_ble_eq_true rfl; simp only [nm, nz, Nat.reduceAdd]))
 refine aa.dM ?_
 repeat (first | (apply aa.st; rfl) | (apply aa.q true; rfl; rfl; rfl; rfl; first | exact True.intro | omega | (simp only [tn, Int.reduceToNat]; omega) | decide) | (apply aa.exit; rfl) | (apply aa.aB; rfl) | (apply aa.ak; rfl) | (apply aa.alloc; (iterate 5 rfl); simp only [nm, nz, Nat.reduceAdd]) | (apply aa.store; (iterate 9 rfl); exact Nat.le_of_ble_eq_true rfl; simp only [nm, nz, Nat.reduceAdd]))
 refine aa.lpU ?_
 repeat (first | (apply aa.st; rfl) | (apply aa.q true; rfl; rfl; rfl; rfl; first | exact True.intro | omega | (simp only [tn, Int.reduceToNat]; omega) | decide) | (apply aa.exit; rfl) | (apply aa.aB; rfl) | (apply aa.ak; rfl) | (apply aa.alloc; (iterate 5 rfl); simp only [nm, nz, Nat.reduceAdd]) | (apply aa.store; (iterate 9 rfl); exact Nat.le_of_ble_eq_true rfl; simp only [nm, nz, Nat.reduceAdd]))
 refine aa.lpU ?_
 repeat (first | (apply aa.st; rfl) | (apply aa.q true; rfl; rfl; rfl; rfl; first | exact True.intro | omega | (simp only [tn, Int.reduceToNat]; omega) | decide) | (apply aa.exit; rfl) | (apply aa.aB; rfl) | (apply aa.ak; rfl) | (apply aa.alloc; (iterate 5 rfl); simp only [nm, nz, Nat.reduceAdd]) | (apply aa.store; (iterate 9 rfl); exact Nat.le_of_ble_eq_true rfl; simp only [nm, nz, Nat.reduceAdd]))
 (apply aa.aC; rfl; rfl; rfl; rfl)
 exact ⟨rfl, rfl⟩
attribute [local irreducible] trR trL aX
theorem trim_c (s : List UInt8) (hs : s.length ≤ 9223372036854775807) : ACalls (cxg gl) 176 [S s, S [48, 49]] [] (fun r H => r = S (trL (trR s)) ∧ H = []) := by
 have hl : (trR s).length ≤ 9223372036854775807 := by
  have : (trR s).length ≤ s.length := by
   unfold trR
   rw [List.length_reverse]
   refine Nat.le_trans (List.Sublist.length_le (List.dropWhile_sublist _)) ?_
   rw [List.length_reverse]; exact Nat.le_refl _
  omega
 have h1 := EO (gl := gl) s hs
 have h2 := EP (gl := gl) (trR s) hl
 by_cases h0 : s = []
 ·subst h0
  have e : trL (trR []) = [] := by unfold trL trR; rfl
  rw [e]
  refine ACalls.enter Tryz.func176 rfl Tryz.ntmps176 (by kernel_rfl) rfl ?_; simp only [au, nm, Nat.reduceAdd]
  repeat' (first | (apply aa.st; rfl) | (apply aa.q true; rfl; rfl; rfl; rfl; first | exact True.intro | omega | (simp only [tn, Int.reduceToNat]; omega)) | (apply aa.aB; rfl) | (apply aa.ak; rfl) | (apply aa.alloc; (iterate 5 rfl); simp only [nm, nz, Nat.reduceAdd]) | (apply aa.store; (iterate 9 rfl); exact Nat.le_of_ble_eq_true rfl; simp only [nm, nz, Nat.reduceAdd]) | (apply aa.aj; rfl; rfl) | (apply aa.gT; rfl; rfl; rfl; first | omega | rfl) | (apply aa.gF; rfl; rfl; rfl; omega) | (apply aa.az; rfl; rfl; rfl) | intro _ | (apply aa.aC; rfl; rfl; rfl; rfl))
  all_goals exact ⟨rfl, rfl⟩
 ·have k1 : (decide (s = ({ data := #[] } : ByteArray).data.toList)) = false := decide_eq_false (by intro h; exact h0 h)
  refine ACalls.enter Tryz.func176 rfl Tryz.ntmps176 (by kernel_rfl) rfl ?_; simp only [au, nm, Nat.reduceAdd]
  repeat' (first | (apply aa.st; rfl) | (apply aa.q true; rfl; rfl; rfl; rfl; first | exact True.intro | omega | (simp only [tn, Int.reduceToNat]; omega)) | (apply aa.ah [0] ( h1); (iterate 6 rfl); decide; rfl; rfl; simp only [ny, nh, Nat.reduceAdd, Nat.reduceSub]) | (apply aa.ah [0] ( h2); (iterate 6 rfl); decide; rfl; rfl; simp only [ny, nh, Nat.reduceAdd, Nat.reduceSub]) | (apply aa.aA (Aw); (iterate 6 rfl)) | (apply aa.aB; rfl) | (apply aa.ak; rfl) | (apply aa.alloc; (iterate 5 rfl); simp only [nm, nz, Nat.reduceAdd]) | (apply aa.store; (iterate 9 rfl); exact Nat.le_of_ble_eq_true rfl; simp only [nm, nz, Nat.reduceAdd]) | (apply aa.aj; rfl; rfl) | (apply aa.gT; rfl; rfl; rfl; first | omega | rfl) | (apply aa.gF; rfl; rfl; rfl; omega) | (apply aa.az; rfl; rfl; rfl) | intro _ | (apply aa.aC; rfl; rfl; rfl; rfl))
  all_goals first | exact ⟨rfl, rfl⟩ | (exfalso; simp_all)
def ij (row : List UInt8) : Bool := !decide (row = []) && decide (row.length ≤ 24) && row.all aX
theorem lM (s : List UInt8) (hs : s.length ≤ 9223372036854775807) : ACalls (cxg gl) 174 [S s] [] (fun r H => r = B (ij s) ∧ H = []) := by
 have ht := trim_c (gl := gl) s hs
 have hn := Ha s
 by_cases h0 : s = []
 ·subst h0
  refine ACalls.enter Tryz.func174 rfl Tryz.ntmps174 (by kernel_rfl) rfl ?_; simp only [au, nm, Nat.reduceAdd]
  repeat' (first | (apply aa.st; rfl) | (apply aa.q true; rfl; rfl; rfl; rfl; first | exact True.intro | omega | (simp only [tn, Int.reduceToNat]; omega)) | (apply aa.aj; rfl; rfl) | (apply aa.gT; rfl; rfl; rfl; first | omega | rfl) | (apply aa.gF; rfl; rfl; rfl; omega) | (apply aa.gBT; rfl; rfl; rfl; first | (simp only [bT]; omega)) | (apply aa.gBF; rfl; rfl; rfl; first | (simp only [bF]; omega) | exact ndF rfl) | (apply aa.az; rfl; rfl; rfl) | intro _ | (apply aa.aC; rfl; rfl; rfl; rfl))
  all_goals exact ⟨rfl, rfl⟩
 ·have k1 : (!decide (s = ({ data := #[] } : ByteArray).data.toList)) = true := by
   have : decide (s = ({ data := #[] } : ByteArray).data.toList) = false := decide_eq_false (by intro h; exact h0 h)
   rw [this]; rfl
  by_cases h24 : s.length ≤ 24
  ·have e : ij s = s.all aX := by simp [ij, h0, h24]
   rw [e]
   have e2 : decide (trL (trR s) = ({ data := #[] } : ByteArray).data.toList) = s.all aX := by
    rw [Bool.eq_iff_iff, decide_eq_true_iff]; exact hn
   refine ACalls.enter Tryz.func174 rfl Tryz.ntmps174 (by kernel_rfl) rfl ?_; simp only [au, nm, Nat.reduceAdd]
   repeat' (first | (apply aa.st; rfl) | (apply aa.q true; rfl; rfl; rfl; rfl; first | exact True.intro | omega | (simp only [tn, Int.reduceToNat]; omega)) | (apply aa.aA (ht); (iterate 6 rfl)) | (apply aa.aj; rfl; rfl) | (apply aa.gT; rfl; rfl; rfl; first | omega | rfl) | (apply aa.gF; rfl; rfl; rfl; omega) | (apply aa.gBT; rfl; rfl; rfl; first | (simp only [bT]; omega) | (exact k1)) | (apply aa.gBF; rfl; rfl; rfl; first | (simp only [bF]; omega) | exact ndF rfl | (exact k1)) | (apply aa.az; rfl; rfl; rfl) | intro _ | (apply aa.aC; rfl; rfl; rfl; rfl))
   all_goals first | exact ⟨congrArg B (by rw [e2]; simp [h0, h24]), rfl⟩ | (exfalso; simp_all)
  ·have e : ij s = false := by simp [ij, h24]
   rw [e]
   refine ACalls.enter Tryz.func174 rfl Tryz.ntmps174 (by kernel_rfl) rfl ?_; simp only [au, nm, Nat.reduceAdd]
   repeat' (first | (apply aa.st; rfl) | (apply aa.q true; rfl; rfl; rfl; rfl; first | exact True.intro | omega | (simp only [tn, Int.reduceToNat]; omega)) | (apply aa.aA (ht); (iterate 6 rfl)) | (apply aa.aj; rfl; rfl) | (apply aa.gT; rfl; rfl; rfl; first | omega | rfl) | (apply aa.gF; rfl; rfl; rfl; omega) | (apply aa.gBT; rfl; rfl; rfl; first | (simp only [bT]; omega) | (exact k1)) | (apply aa.gBF; rfl; rfl; rfl; first | (simp only [bF]; omega) | exact ndF rfl | (exact k1)) | (apply aa.az; rfl; rfl; rfl) | intro _ | (apply aa.aC; rfl; rfl; rfl; rfl))
   all_goals first | exact ⟨rfl, rfl⟩ | exact ⟨congrArg B (by simp), rfl⟩ | (exfalso; simp_all)
end Px
namespace Px
open Go Bt
def bw (l : List (List UInt8 × Int)) : List (D × D) := l.map fun p => (.str p.1, .int .i64 p.2)
def df (l : List (Int × Int)) : List (D × D) := l.map fun p => (.int .i64 p.1, .int .i64 p.2)
def bQ {α : Type} [DecidableEq α] (w : α) : List (α × Int) → Nat → Option (Nat × Int)
 | [], _ => none
 | (k, v) :: r, i => if w = k then some (i, v) else bQ w r (i + 1)
theorem cf (w : List UInt8) : ∀ (l : List (List UInt8 × Int)) (i : Nat), gU (.str w) (bw l) i = some ((bQ w l i).map fun p => (p.1, .int .i64 p.2))
 | [], i => rfl
 | (k, v) :: r, i => by
  simp only [bw, List.map_cons, gU, AA, bQ]
  by_cases h : w = k
  ·rw [if_pos h, decide_eq_true h]; rfl
  ·rw [if_neg h, decide_eq_false h]
   exact cf w r (i + 1)
theorem mI (w : Int) : ∀ (l : List (Int × Int)) (i : Nat), gU (.int .i64 w) (df l) i = some ((bQ w l i).map fun p => (p.1, .int .i64 p.2))
 | [], i => rfl
 | (k, v) :: r, i => by
  simp only [df, List.map_cons, gU, AA, bQ, decide_true, cond_true]
  by_cases h : w = k
  ·rw [if_pos h, decide_eq_true h]; rfl
  ·rw [if_neg h, decide_eq_false h]
   exact mI w r (i + 1)
def fP {α : Type} [DecidableEq α] (w : α) (l : List (α × Int)) : Int := match bQ w l 0 with | some (_, v) => v | none => 0
def uG {α : Type} [DecidableEq α] (l : List (α × Int)) (w : α) (v : Int) : List (α × Int) := match bQ w l 0 with
 | some (i, _) => l.modify i fun p => (p.1, v)
 | none => l ++ [(w, v)]
theorem iA (l : List (List UInt8 × Int)) (w : List UInt8) (v : Int) : mZ (bw l) (.str w) (.int .i64 v) ((bQ w l 0).map fun p => (p.1, .int .i64 p.2)) = bw (uG l w v) := by
 unfold uG
 cases hf : bQ w l 0 with
 | none => simp [mZ, bw]
 | some jv =>
  obtain ⟨j, u⟩ := jv
  simp only [Option.map_some, mZ, fJ, bw]
  apply List.ext_getElem?
  intro i
  simp only [List.getElem?_modify, List.getElem?_map]
  cases hi : l[i]? with
  | none => simp
  | some p =>
   by_cases e : j = i <;> simp [e]
theorem jF {α : Type} [DecidableEq α] (w : α) : ∀ (l : List (α × Int)) (i : Nat), bQ w l i = (bQ w l 0).map fun p => (p.1 + i, p.2)
 | [], i => rfl
 | (k, v) :: r, i => by
  simp only [bQ]
  by_cases h : w = k
  ·simp [h]
  ·rw [if_neg h, if_neg h, jF w r (i + 1), jF w r (0 + 1)]
   cases bQ w r 0 with
   | none => rfl
   | some p => simp; omega
theorem Dx {α : Type} [DecidableEq α] (w : α) : fP w ([] : List (α × Int)) = 0 := rfl
theorem j4 {α : Type} [DecidableEq α] (w k : α) (v : Int) (r : List (α × Int)) : fP w ((k, v) :: r) = if w = k then v else fP w r := by
 unfold fP
 simp only [bQ]
 by_cases h : w = k
 ·simp [h]
 ·rw [if_neg h, if_neg h, jF w r (0 + 1)]
  cases bQ w r 0 <;> simp
theorem Dy {α : Type} [DecidableEq α] (w : α) (v : Int) : uG ([] : List (α × Int)) w v = [(w, v)] := rfl
theorem AL {α : Type} [DecidableEq α] (w k : α) (v u : Int) (r : List (α × Int)) : uG ((k, u) :: r) w v = if w = k then (k, v) :: r else (k, u) :: uG r w v := by
 unfold uG
 simp only [bQ]
 by_cases h : w = k
 ·simp [h]
 ·rw [if_neg h, if_neg h, jF w r (0 + 1)]
  cases bQ w r 0 with
  | none => simp
  | some p => simp [List.modify_succ_cons]
theorem rF {α : Type} [DecidableEq α] (x w : α) (v : Int) : ∀ l : List (α × Int), fP x (uG l w v) = if x = w then v else fP x l
 | [] => by rw [Dy, j4]
 | (k, u) :: r => by
  rw [AL]
  by_cases h : w = k
  ·subst h
   rw [if_pos rfl, j4, j4]
   by_cases h2 : x = w <;> simp [h2]
  ·rw [if_neg h, j4, j4, rF x w v r]
   by_cases h2 : x = k
   ·subst h2
    rw [if_pos rfl, if_pos rfl, if_neg (fun e => h e.symm)]
   ·rw [if_neg h2, if_neg h2]
def bH (row : List UInt8) : Nat → List (List UInt8 × Int) → List (List UInt8 × Int)
 | 0, l => l
 | k + 1, l => uG (bH row k l) (row.take (k + 1)) (fP (row.take (k + 1)) (bH row k l) + 1)
theorem jk (row : List UInt8) (l : List (List UInt8 × Int)) (N : Int) (h : ∀ w, 0 ≤ fP w l ∧ fP w l ≤ N) : ∀ (k : Nat) (w : List UInt8), 0 ≤ fP w (bH row k l) ∧ fP w (bH row k l) ≤ N + k
 | 0, w => by have := h w; simp [bH]; omega
 | k + 1, w => by
  have h1 := jk row l N h k w
  have h2 := jk row l N h k (row.take (k + 1))
  rw [bH, rF]
  split <;> omega
def jg (p : List UInt8 × Int) : D := .agg [.str p.1, .int .i64 p.2]
def aO (l : List (List UInt8 × Int)) : List D := l.map jg
theorem cF (l : List (List UInt8 × Int)) : (aO l).length = l.length := by simp [aO]
theorem pI (l : List (List UInt8 × Int)) (p : List UInt8 × Int) : aO (l ++ [p]) = aO l ++ [jg p] := by simp [aO]
structure Tb where
 codes : List (List UInt8 × Int)
 sym : List (List UInt8 × Int)
 rws : List (Int × Int)
 beg : List (List UInt8 × Int)
 lng : Int
def sG (t : Tb) (row : List UInt8) (sy : Int) : Bool :=
 (bQ sy t.rws 0).isNone && ij row && decide (fP row t.beg ≤ 0) && (List.range row.length).all fun n => (bQ (row.take (n + 1)) t.sym 0).isNone
def dV (t : Tb) (row : List UInt8) (sy : Int) : Tb :=
 ⟨t.codes ++ [(row, sy)], t.sym ++ [(row, (t.codes.length : Int))], t.rws ++ [(sy, (t.codes.length : Int))], bH row row.length t.beg, max t.lng row.length⟩
def Hf (t : Tb) : List aF := [.cells [.d .aU, .mp 1, .mp 2, .mp 3, I t.lng], .map (bw t.sym), .map (df t.rws), .map (bw t.beg)]
def ES (t : Tb) : List aF := [.cells [.own 2 (aO t.codes) 4, .mp 1, .mp 2, .mp 3, I t.lng], .map (bw t.sym), .map (df t.rws), .map (bw t.beg), .front 199 2 (aO t.codes).length]
end Px
namespace Px
open Go Bt
attribute [local irreducible] aa ACalls
variable {gl : List (Nat × List D)}
theorem eY (l : List (D × D)) (k z v : D) (n : Int) (hn : n = (l.length : Int)) : fJ (l ++ [(k, z)]) n.toNat v = l ++ [(k, v)] := by
 subst hn
 unfold fJ
 rw [Int.toNat_natCast]
 induction l with
 | nil => rfl
 | cons x l ih => simpa [List.modify_succ_cons] using ih
theorem lL (l : List (List UInt8 × Int)) (w : List UInt8) (v : Int) : bw (l ++ [(w, v)]) = bw l ++ [(.str w, .int .i64 v)] := by simp [bw]
theorem lW (l : List (Int × Int)) (w : Int) (v : Int) : df (l ++ [(w, v)]) = df l ++ [(.int .i64 w, .int .i64 v)] := by simp [df]
theorem rY (t : Tb) (row : List UInt8) (sy : Int) : sG t row sy = true ↔ bQ sy t.rws 0 = none ∧ ij row = true ∧ fP row t.beg ≤ 0 ∧ ∀ n, n < row.length → bQ (row.take (n + 1)) t.sym 0 = none := by
 unfold sG
 simp only [Bool.and_eq_true, Option.isNone_iff_eq_none, decide_eq_true_eq, List.all_eq_true, List.mem_range, and_assoc]
theorem dS {α : Type} [DecidableEq α] {w : α} {l : List (α × Int)} {j : Nat} {v : Int} (h : bQ w l 0 = some (j, v)) : fP w l = v := by unfold fP; rw [h]
theorem j3 {α : Type} [DecidableEq α] {w : α} {l : List (α × Int)} (h : bQ w l 0 = none) : fP w l = 0 := by unfold fP; rw [h]
theorem tk1 (row : List UInt8) (k : Nat) : row.take ((k : Int) + 1).toNat = row.take (k + 1) := by rw [show ((k : Int) + 1).toNat = k + 1 by omega]
attribute [local irreducible] bw df aO ij bH
end Px
end Go.Proofs.YtbfojhfiemcnpaaGreatDoor.Av
