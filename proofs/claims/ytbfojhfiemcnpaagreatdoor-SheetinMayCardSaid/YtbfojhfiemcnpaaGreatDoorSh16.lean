/- Rows that may be: (sound.sheet).row, sound.every. -/
import Derived.Test.YtbfojhfiemcnpaaGreatDoorPs3
import Derived.Test.YtbfojhfiemcnpaaGreatDoorCo4
set_option linter.unusedVariables false
set_option linter.unusedSimpArgs false
set_option maxRecDepth 100000
set_option maxHeartbeats 64000000
namespace Go.Proofs.YtbfojhfiemcnpaaGreatDoor.Av
namespace Sh
open Go Bt Tc Co
attribute [local irreducible] aa ACalls
variable {gl : List (Nat × List D)}
def Dm (i : Nat) (r : Rw) : Bool := if r.head = true then decide (i ≠ 0 ∧ (0 ≤ r.id ∧ r.id ≤ 3) ∧ (1 ≤ r.quant ∧ r.quant ≤ 31)) else decide (r.id = 0 ∧ r.quant = 0)
def qR (h : Hd) (i : Nat) (r : Rw) : Bool := decide ((r.cells.length : Int) = fA h.fmt * fL h.fmt) && Dm i r && r.cells.all (eu h.inter)
theorem DL (f : Int) : 0 ≤ fA f * fL f ∧ fA f * fL f ≤ 1000 := by
 rcases Ib f with rfl | rfl | rfl | rfl | rfl | rfl | h
 rotate_right
 ·obtain ⟨e1, e2, e3, e4, e5⟩ := Ih h
  unfold fA; rw [e1, e4]; decide
 all_goals decide
theorem zX {l : List Cel} {k : Nat} {c : Cel} (b : Bool) (h : l[k]? = some c) : (l.take (k + 1)).all (eu b) = ((l.take k).all (eu b) && eu b c) := by
 rw [vv h, List.all_append]; simp
theorem IJ {l : List Cel} {k : Nat} {c : Cel} {b : Bool} (h : l[k]? = some c) (hn : eu b c = false) : l.all (eu b) = false :=
 List.all_eq_false.2 ⟨c, List.mem_of_getElem? h, by rw [hn]; decide⟩
attribute [local irreducible] bg suD bh rsD eu
theorem Hl (h : Hd) (rs : List Rw) (z : Int) (i : Nat) (r : Rw) (hr : rs[i]? = some r) (ok : nX rs) :
  ACalls (cxg gtc) 43 [.d (shD h (rsD rs) z), I (i : Int)] [] (fun x H => x = B (qR h i r) ∧ H = []) := by
 have hn := mR rs
 have hf := ok.few
 have hlt : i < rs.length := av hr
 have g1 := yK hr
 obtain ⟨hrl, hrc⟩ := ok.cells r (List.mem_of_getElem? hr)
 have hm := ko r.cells
 have hP := DL h.fmt
 have k1 := gV (gl := gtc) h.fmt
 have k2 := oq (gl := gtc) h.fmt
 unfold qR
 generalize fL h.fmt = L at *
 generalize fA h.fmt = A at *
 generalize fR h.fmt = R at *
 generalize fD h.fmt = E at *
 generalize hPP : A * L = P at *
 have hm64 : -9223372036854775808 ≤ A * L ∧ A * L ≤ 9223372036854775807 := by rw [hPP]; omega
 obtain ⟨hd, id, q, cs⟩ := r
 replace hm : (bh cs).length = cs.length := hm
 replace hrc : ∀ c ∈ cs, nZ c := hrc
 by_cases hlen : (cs.length : Int) = P
 ·rw [show decide (((Rw.mk hd id q cs).cells.length : Int) = P) = true from decide_eq_true hlen, Bool.true_and]
  cases hh : Dm i ⟨hd, id, q, cs⟩ with
  | false =>
   rw [Bool.false_and]
   cases hd
   ·have hh' : ¬ (id = 0 ∧ q = 0) := of_decide_eq_false hh
    refine ACalls.enter Tryz.func43 rfl Tryz.ntmps43 (by kernel_rfl) rfl ?_; simp only [au, nm, Nat.reduceAdd]
    repeat' (first | (apply aa.st; rfl) | (apply aa.opx; (apply bz; (iterate 7 rfl); (first | omega | (exact hm64) | (rw [hn]; omega)); exact g1); rfl; rfl; rfl) | (apply aa.q true; rfl; rfl; rfl; rfl; first | exact True.intro | omega | (simp only [tn, Int.reduceToNat]; omega) | (exact hm64) | (rw [hn]; omega)) | (apply aa.aA (k1); (iterate 6 rfl)) | (apply aa.aA (k2); (iterate 6 rfl)) | (apply aa.af; rfl; first | omega | rfl) | (apply aa.ae; rfl; omega) | (apply aa.aB; rfl) | (apply aa.ak; rfl) | (apply aa.alloc; (iterate 5 rfl); simp only [nm, nz, Nat.reduceAdd]) | (apply aa.box; (iterate 6 rfl); simp only [nm, nz, Nat.reduceAdd]) | (apply aa.store; (iterate 9 rfl); exact Nat.le_of_ble_eq_true rfl; simp only [nm, nz, Nat.reduceAdd]) | (apply aa.aj; rfl; rfl) | (apply aa.gF; rfl; rfl; rfl; omega) | (apply aa.cBT; rfl; first | (simp only [bT]; omega)) | (apply aa.cBF; rfl; first | (simp only [bF]; omega) | exact ndF rfl) | (apply aa.gBF; rfl; rfl; rfl; first | (simp only [bF]; omega) | exact ndF rfl) | (apply aa.az; rfl; rfl; rfl) | intro _ | (apply aa.gD; rfl; rfl; rfl) | (apply aa.gS; rfl; rfl; rfl) | (apply aa.iH; rfl) | (apply aa.aC; rfl; rfl; rfl; rfl) | (apply aa.bf; rfl; rfl; rfl; rfl) | (apply aa.aP; rfl; rfl))
    all_goals first | exact ⟨rfl, rfl⟩ | omega | (exfalso; simp only [bT, bF, Bool.not_false, Bool.not_true] at *; omega)
   ·have hh' : ¬ (i ≠ 0 ∧ (0 ≤ id ∧ id ≤ 3) ∧ (1 ≤ q ∧ q ≤ 31)) := of_decide_eq_false hh
    refine ACalls.enter Tryz.func43 rfl Tryz.ntmps43 (by kernel_rfl) rfl ?_; simp only [au, nm, Nat.reduceAdd]
    repeat' (first | (apply aa.st; rfl) | (apply aa.opx; (apply bz; (iterate 7 rfl); (first | omega | (exact hm64) | (rw [hn]; omega)); exact g1); rfl; rfl; rfl) | (apply aa.q true; rfl; rfl; rfl; rfl; first | exact True.intro | omega | (simp only [tn, Int.reduceToNat]; omega) | (exact hm64) | (rw [hn]; omega)) | (apply aa.aA (k1); (iterate 6 rfl)) | (apply aa.aA (k2); (iterate 6 rfl)) | (apply aa.af; rfl; first | omega | rfl) | (apply aa.ae; rfl; omega) | (apply aa.aB; rfl) | (apply aa.ak; rfl) | (apply aa.alloc; (iterate 5 rfl); simp only [nm, nz, Nat.reduceAdd]) | (apply aa.box; (iterate 6 rfl); simp only [nm, nz, Nat.reduceAdd]) | (apply aa.store; (iterate 9 rfl); exact Nat.le_of_ble_eq_true rfl; simp only [nm, nz, Nat.reduceAdd]) | (apply aa.aj; rfl; rfl) | (apply aa.gF; rfl; rfl; rfl; omega) | (apply aa.cBT; rfl; first | (simp only [bT]; omega)) | (apply aa.cBF; rfl; first | (simp only [bF]; omega) | exact ndF rfl) | (apply aa.gBF; rfl; rfl; rfl; first | (simp only [bF]; omega) | exact ndF rfl) | (apply aa.az; rfl; rfl; rfl) | intro _ | (apply aa.gD; rfl; rfl; rfl) | (apply aa.gS; rfl; rfl; rfl) | (apply aa.iH; rfl) | (apply aa.aC; rfl; rfl; rfl; rfl) | (apply aa.bf; rfl; rfl; rfl; rfl) | (apply aa.aP; rfl; rfl))
    all_goals first | exact ⟨rfl, rfl⟩ | omega | (exfalso; simp only [bT, bF, Bool.not_false, Bool.not_true] at *; omega)
  | true =>
   rw [Bool.true_and]
   have hh' : (hd = false ∧ id = 0 ∧ q = 0) ∨ (hd = true ∧ i ≠ 0 ∧ (0 ≤ id ∧ id ≤ 3) ∧ (1 ≤ q ∧ q ≤ 31)) := by
    cases hd
    ·exact .inl ⟨rfl, of_decide_eq_true hh⟩
    ·exact .inr ⟨rfl, of_decide_eq_true hh⟩
   rcases hh' with ⟨rfl, hh1⟩ | ⟨rfl, hh1⟩
   all_goals
    refine ACalls.enter Tryz.func43 rfl Tryz.ntmps43 (by kernel_rfl) rfl ?_; simp only [au, nm, Nat.reduceAdd]
    repeat' (first | (apply aa.st; rfl) | (apply aa.opx; (apply bz; (iterate 7 rfl); (first | omega | (exact hm64) | (rw [hn]; omega)); exact g1); rfl; rfl; rfl) | (apply aa.q true; rfl; rfl; rfl; rfl; first | exact True.intro | omega | (simp only [tn, Int.reduceToNat]; omega) | (exact hm64) | (rw [hn]; omega)) | (apply aa.aA (k1); (iterate 6 rfl)) | (apply aa.aA (k2); (iterate 6 rfl)) | (apply aa.af; rfl; first | omega | rfl) | (apply aa.ae; rfl; omega) | (apply aa.aB; rfl) | (apply aa.ak; rfl) | (apply aa.alloc; (iterate 5 rfl); simp only [nm, nz, Nat.reduceAdd]) | (apply aa.box; (iterate 6 rfl); simp only [nm, nz, Nat.reduceAdd]) | (apply aa.store; (iterate 9 rfl); exact Nat.le_of_ble_eq_true rfl; simp only [nm, nz, Nat.reduceAdd]) | (apply aa.aj; rfl; rfl) | (apply aa.gF; rfl; rfl; rfl; omega) | (apply aa.cBT; rfl; first | (simp only [bT]; omega)) | (apply aa.cBF; rfl; first | (simp only [bF]; omega) | exact ndF rfl) | (apply aa.gBF; rfl; rfl; rfl; first | (simp only [bF]; omega) | exact ndF rfl) | (apply aa.az; rfl; rfl; rfl) | intro _ | (apply aa.gD; rfl; rfl; rfl) | (apply aa.gS; rfl; rfl; rfl) | (apply aa.iH; rfl) | (apply aa.aC; rfl; rfl; rfl; rfl) | (apply aa.bf; rfl; rfl; rfl; rfl) | (apply aa.aP; rfl; rfl))
    all_goals first | omega | (exfalso; simp only [bT, bF, Bool.not_false, Bool.not_true] at *; omega) | skip
    refine aa.weak (env' := [(81, I ((0 : Nat) : Int)), (80, I ((bh cs).length : Int)), (79, .d (.sl 18 (bh cs))), (2, .ptr 0 0)]) ⟨rfl, rfl, rfl, rfl, trivial⟩ ?_
    refine aa.loop (fun m env H => ∃ k : Nat, m = cs.length - k ∧ k ≤ cs.length ∧ (cs.take k).all (eu h.inter) = true ∧ env = [(81, I (k : Int)), (80, I ((bh cs).length : Int)), (79, .d (.sl 18 (bh cs))), (2, .ptr 0 0)] ∧ ∃ R, H = [.cells (shA h (rsD rs) z), .cells (rwA R)]) cs.length
     ⟨0, rfl, by omega, by simp, rfl, ⟨_, id, q, cs⟩, rfl⟩ ?_
    rintro m env H ⟨k, rfl, hk, hal, rfl, R, rfl⟩
    rcases Nat.lt_or_ge k cs.length with hlt2 | hge2
    ·obtain ⟨c, hc⟩ : ∃ c, cs[k]? = some c := ⟨_, List.getElem?_eq_getElem hlt2⟩
     have g2 := oN hc
     have cr := D9 h.inter c (hrc c (List.mem_of_getElem? hc))
     have et := zX h.inter hc
     rw [hal, Bool.true_and] at et
     cases hR : eu h.inter c with
     | true =>
      rw [hR] at cr et
      repeat' (first | (apply aa.st; rfl) | (apply aa.opx; (apply bz; (iterate 7 rfl); (first | omega | (rw [hm]; omega)); exact g2); rfl; rfl; rfl) | (apply aa.q true; rfl; rfl; rfl; rfl; first | exact True.intro | omega | (simp only [tn, Int.reduceToNat]; omega) | (rw [hm]; omega)) | (apply aa.aA (cr); (iterate 6 rfl)) | (apply aa.af; rfl; first | omega | rfl) | (apply aa.ae; rfl; omega) | (apply aa.aB; rfl) | (apply aa.ak; rfl) | (apply aa.alloc; (iterate 5 rfl); simp only [nm, nz, Nat.reduceAdd]) | (apply aa.box; (iterate 6 rfl); simp only [nm, nz, Nat.reduceAdd]) | (apply aa.store; (iterate 9 rfl); exact Nat.le_of_ble_eq_true rfl; simp only [nm, nz, Nat.reduceAdd]) | (apply aa.aj; rfl; rfl) | (apply aa.gF; rfl; rfl; rfl; omega) | (apply aa.cBT; rfl; first | (simp only [bT]; omega)) | (apply aa.cBF; rfl; first | (simp only [bF]; omega) | exact ndF rfl) | (apply aa.gBF; rfl; rfl; rfl; first | (simp only [bF]; omega) | exact ndF rfl) | (apply aa.az; rfl; rfl; rfl) | intro _ | (apply aa.gD; rfl; rfl; rfl) | (apply aa.gS; rfl; rfl; rfl) | (apply aa.iH; rfl) | (apply aa.aC; rfl; rfl; rfl; rfl) | (apply aa.bf; rfl; rfl; rfl; rfl) | (apply aa.aP; rfl; rfl))
      all_goals first
       | exact aa.kW 2 [(81, I ((k + 1 : Nat) : Int)), (80, I ((bh cs).length : Int)), (79, .d (.sl 18 (bh cs))), (2, .ptr 0 0)] (cs.length - (k + 1)) (by omega) rfl rfl rfl rfl ⟨rfl, rfl, rfl, rfl, trivial⟩ ⟨k + 1, rfl, hlt2, et, rfl, _, rfl⟩
       | omega
     | false =>
      rw [hR] at cr
      have hno := IJ hc hR
      repeat' (first | (apply aa.st; rfl) | (apply aa.opx; (apply bz; (iterate 7 rfl); (first | omega | (rw [hm]; omega)); exact g2); rfl; rfl; rfl) | (apply aa.q true; rfl; rfl; rfl; rfl; first | exact True.intro | omega | (simp only [tn, Int.reduceToNat]; omega) | (rw [hm]; omega)) | (apply aa.aA (cr); (iterate 6 rfl)) | (apply aa.af; rfl; first | omega | rfl) | (apply aa.ae; rfl; omega) | (apply aa.aB; rfl) | (apply aa.ak; rfl) | (apply aa.alloc; (iterate 5 rfl); simp only [nm, nz, Nat.reduceAdd]) | (apply aa.box; (iterate 6 rfl); simp only [nm, nz, Nat.reduceAdd]) | (apply aa.store; (iterate 9 rfl); exact Nat.le_of_ble_eq_true rfl; simp only [nm, nz, Nat.reduceAdd]) | (apply aa.aj; rfl; rfl) | (apply aa.gF; rfl; rfl; rfl; omega) | (apply aa.cBT; rfl; first | (simp only [bT]; omega)) | (apply aa.cBF; rfl; first | (simp only [bF]; omega) | exact ndF rfl) | (apply aa.gBF; rfl; rfl; rfl; first | (simp only [bF]; omega) | exact ndF rfl) | (apply aa.az; rfl; rfl; rfl) | intro _ | (apply aa.gD; rfl; rfl; rfl) | (apply aa.gS; rfl; rfl; rfl) | (apply aa.iH; rfl) | (apply aa.aC; rfl; rfl; rfl; rfl) | (apply aa.bf; rfl; rfl; rfl; rfl) | (apply aa.aP; rfl; rfl))
      all_goals first | exact ⟨congrArg B hno.symm, rfl⟩ | omega
    ·obtain rfl : k = cs.length := by omega
     rw [List.take_length] at hal
     repeat' (first | (apply aa.st; rfl) | (apply aa.q true; rfl; rfl; rfl; rfl; first | exact True.intro | omega | (simp only [tn, Int.reduceToNat]; omega)) | (apply aa.af; rfl; first | omega | rfl) | (apply aa.ae; rfl; omega) | (apply aa.aB; rfl) | (apply aa.ak; rfl) | (apply aa.alloc; (iterate 5 rfl); simp only [nm, nz, Nat.reduceAdd]) | (apply aa.box; (iterate 6 rfl); simp only [nm, nz, Nat.reduceAdd]) | (apply aa.store; (iterate 9 rfl); exact Nat.le_of_ble_eq_true rfl; simp only [nm, nz, Nat.reduceAdd]) | (apply aa.aj; rfl; rfl) | (apply aa.gF; rfl; rfl; rfl; omega) | (apply aa.cBT; rfl; first | (simp only [bT]; omega)) | (apply aa.cBF; rfl; first | (simp only [bF]; omega) | exact ndF rfl) | (apply aa.gBF; rfl; rfl; rfl; first | (simp only [bF]; omega) | exact ndF rfl) | (apply aa.az; rfl; rfl; rfl) | intro _ | (apply aa.gD; rfl; rfl; rfl) | (apply aa.gS; rfl; rfl; rfl) | (apply aa.iH; rfl) | (apply aa.aC; rfl; rfl; rfl; rfl) | (apply aa.bf; rfl; rfl; rfl; rfl) | (apply aa.aP; rfl; rfl))
     all_goals first | exact ⟨congrArg B hal.symm, rfl⟩ | omega
 ·rw [show decide (((Rw.mk hd id q cs).cells.length : Int) = P) = false from decide_eq_false hlen, Bool.false_and, Bool.false_and]
  refine ACalls.enter Tryz.func43 rfl Tryz.ntmps43 (by kernel_rfl) rfl ?_; simp only [au, nm, Nat.reduceAdd]
  repeat' (first | (apply aa.st; rfl) | (apply aa.opx; (apply bz; (iterate 7 rfl); (first | omega | (exact hm64) | (rw [hn]; omega)); exact g1); rfl; rfl; rfl) | (apply aa.q true; rfl; rfl; rfl; rfl; first | exact True.intro | omega | (simp only [tn, Int.reduceToNat]; omega) | (exact hm64) | (rw [hn]; omega)) | (apply aa.aA (k1); (iterate 6 rfl)) | (apply aa.aA (k2); (iterate 6 rfl)) | (apply aa.af; rfl; first | omega | rfl) | (apply aa.ae; rfl; omega) | (apply aa.aB; rfl) | (apply aa.ak; rfl) | (apply aa.alloc; (iterate 5 rfl); simp only [nm, nz, Nat.reduceAdd]) | (apply aa.box; (iterate 6 rfl); simp only [nm, nz, Nat.reduceAdd]) | (apply aa.store; (iterate 9 rfl); exact Nat.le_of_ble_eq_true rfl; simp only [nm, nz, Nat.reduceAdd]) | (apply aa.aj; rfl; rfl) | (apply aa.gF; rfl; rfl; rfl; omega) | (apply aa.cBT; rfl; first | (simp only [bT]; omega)) | (apply aa.cBF; rfl; first | (simp only [bF]; omega) | exact ndF rfl) | (apply aa.gBF; rfl; rfl; rfl; first | (simp only [bF]; omega) | exact ndF rfl) | (apply aa.az; rfl; rfl; rfl) | intro _ | (apply aa.gD; rfl; rfl; rfl) | (apply aa.gS; rfl; rfl; rfl) | (apply aa.iH; rfl) | (apply aa.aC; rfl; rfl; rfl; rfl) | (apply aa.bf; rfl; rfl; rfl; rfl) | (apply aa.aP; rfl; rfl))
  all_goals first | exact ⟨rfl, rfl⟩ | omega | (exfalso; simp only [bT, bF, Bool.not_false, Bool.not_true] at *; omega)
def dW (h : Hd) (rs : List Rw) : Nat → Bool
 | 0 => true
 | n + 1 => dW h rs n && (match rs[n]? with | some r => qR h n r | none => true)
theorem kC {h : Hd} {rs : List Rw} {n : Nat} {r : Rw} (hr : rs[n]? = some r) : dW h rs (n + 1) = (dW h rs n && qR h n r) := by simp only [dW, hr]
theorem vF {h : Hd} {rs : List Rw} {n : Nat} (hn : dW h rs n = false) : ∀ k, dW h rs (n + k) = false
 | 0 => hn
 | k + 1 => by
  have := vF hn k
  rw [← Nat.add_assoc, dW, this, Bool.false_and]
theorem tZ {h : Hd} {rs : List Rw} {n : Nat} {r : Rw} (hr : rs[n]? = some r) (hn : qR h n r = false) : dW h rs rs.length = false := by
 have h1 : dW h rs (n + 1) = false := by rw [kC hr, hn, Bool.and_false]
 have h2 := av hr
 have := vF h1 (rs.length - (n + 1))
 rwa [show n + 1 + (rs.length - (n + 1)) = rs.length by omega] at this
attribute [local irreducible] qR dW
theorem zy (h : Hd) (rs : List Rw) (z : Int) (ok : nX rs) :
  ACalls (cxg gtc) 42 [I (rs.length : Int), .fn (.func 43) [.d (shD h (rsD rs) z)] []] [] (fun x H => x = B (dW h rs rs.length) ∧ H = []) := by
 have hf := ok.few
 have r0 : dW h rs 0 = true := by unfold dW; rfl
 refine ACalls.enter Tryz.func42 rfl Tryz.ntmps42 (by kernel_rfl) rfl ?_; simp only [au, nm, Nat.reduceAdd]
 repeat (first | (apply aa.st; rfl) | (apply aa.q true; rfl; rfl; rfl; rfl; first | exact True.intro | omega | (simp only [tn, Int.reduceToNat]; omega)) | (apply aa.af; rfl; first | omega | rfl) | (apply aa.ae; rfl; omega) | (apply aa.aB; rfl) | (apply aa.ak; rfl))
 refine aa.weak (env' := [(7, I ((0 : Nat) : Int)), (6, I (rs.length : Int)), (1, .fn (.func 43) [.d (shD h (rsD rs) z)] [])]) ⟨rfl, rfl, rfl, trivial⟩ ?_
 refine aa.loop (fun m env H => ∃ k : Nat, m = rs.length - k ∧ k ≤ rs.length ∧ dW h rs k = true ∧ env = [(7, I (k : Int)), (6, I (rs.length : Int)), (1, .fn (.func 43) [.d (shD h (rsD rs) z)] [])] ∧ H = []) rs.length
  ⟨0, rfl, by omega, r0, rfl, rfl⟩ ?_
 rintro m env H ⟨k, rfl, hk, hal, rfl, rfl⟩
 rcases Nat.lt_or_ge k rs.length with hlt | hge
 ·obtain ⟨r, hr⟩ : ∃ r, rs[k]? = some r := ⟨_, List.getElem?_eq_getElem hlt⟩
  have cr := Hl h rs z k r hr ok
  have et := kC (h := h) hr
  rw [hal, Bool.true_and] at et
  cases hR : qR h k r with
  | true =>
   rw [hR] at cr et
   repeat' (first | (apply aa.st; rfl) | (apply aa.q true; rfl; rfl; rfl; rfl; first | exact True.intro | omega | (simp only [tn, Int.reduceToNat]; omega)) | (apply aa.aA (cr); (iterate 6 rfl)) | (apply aa.af; rfl; first | omega | rfl) | (apply aa.ae; rfl; omega) | (apply aa.aB; rfl) | (apply aa.ak; rfl) | intro _ | (apply aa.aC; rfl; rfl; rfl; rfl) | (apply aa.bf; rfl; rfl; rfl; rfl) | (apply aa.aP; rfl; rfl))
   all_goals first
    | exact aa.round [(7, I ((k + 1 : Nat) : Int)), (6, I (rs.length : Int)), (1, .fn (.func 43) [.d (shD h (rsD rs) z)] [])] (rs.length - (k + 1)) (by omega) ⟨rfl, rfl, rfl, trivial⟩ ⟨k + 1, rfl, hlt, et, rfl, rfl⟩
    | omega
  | false =>
   rw [hR] at cr
   have hno := tZ hr hR
   repeat' (first | (apply aa.st; rfl) | (apply aa.q true; rfl; rfl; rfl; rfl; first | exact True.intro | omega | (simp only [tn, Int.reduceToNat]; omega)) | (apply aa.aA (cr); (iterate 6 rfl)) | (apply aa.af; rfl; first | omega | rfl) | (apply aa.ae; rfl; omega) | (apply aa.aB; rfl) | (apply aa.ak; rfl) | intro _ | (apply aa.aC; rfl; rfl; rfl; rfl) | (apply aa.bf; rfl; rfl; rfl; rfl) | (apply aa.aP; rfl; rfl))
   all_goals first | exact ⟨congrArg B hno.symm, rfl⟩ | omega
 ·obtain rfl : k = rs.length := by omega
  repeat' (first | (apply aa.st; rfl) | (apply aa.q true; rfl; rfl; rfl; rfl; first | exact True.intro | omega | (simp only [tn, Int.reduceToNat]; omega)) | (apply aa.af; rfl; first | omega | rfl) | (apply aa.ae; rfl; omega) | (apply aa.aB; rfl) | (apply aa.ak; rfl) | intro _ | (apply aa.aC; rfl; rfl; rfl; rfl) | (apply aa.bf; rfl; rfl; rfl; rfl) | (apply aa.aP; rfl; rfl))
  all_goals first | exact ⟨congrArg B hal.symm, rfl⟩ | omega
end Sh
end Go.Proofs.YtbfojhfiemcnpaaGreatDoor.Av
