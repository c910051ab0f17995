/- Rows that may be: (sound.sheet).row, sound.every. -/
import Derived.Test.YtbfojhfiemcnpaaGreatDoorPs3
import Derived.Test.YtbfojhfiemcnpaaGreatDoorCo4
set_option linter.unusedVariables false
set_option linter.unusedSimpArgs false
set_option maxRecDepth 100000
set_option maxHeartbeats 64000000
namespace Go.Proofs.YtbfojhfiemcnpaaGreatDoor.Av
namespace Sh
open Go Bt Tc Co
attribute [local irreducible] aa ACalls
variable {gl : List (Nat × List D)}
def Dr (i : Nat) (r : Rw) : Bool := if r.head = true then decide (i ≠ 0 ∧ (0 ≤ r.id ∧ r.id ≤ 3) ∧ (1 ≤ r.quant ∧ r.quant ≤ 31)) else decide (r.id = 0 ∧ r.quant = 0)
def oP (h : Hd) (i : Nat) (r : Rw) : Bool := decide ((r.cells.length : Int) = fA h.fmt * fL h.fmt) && Dr i r && r.cells.all (dE h.inter)
theorem Gp (f : Int) : 0 ≤ fA f * fL f ∧ fA f * fL f ≤ 1000 := by
 rcases KR f with rfl | rfl | rfl | rfl | rfl | rfl | h
 rotate_right
 ·obtain ⟨e1, e2, e3, e4, e5⟩ := KU h
  unfold fA; rw [e1, e4]; decide
 all_goals decide
theorem CM {l : List Cel} {k : Nat} {c : Cel} (b : Bool) (h : l[k]? = some c) : (l.take (k + 1)).all (dE b) = ((l.take k).all (dE b) && dE b c) := by
 rw [pG h, List.all_append]; simp
theorem Lt {l : List Cel} {k : Nat} {c : Cel} {b : Bool} (h : l[k]? = some c) (hn : dE b c = false) : l.all (dE b) = false :=
 List.all_eq_false.2 ⟨c, List.mem_of_getElem? h, by rw [hn]; decide⟩
attribute [local irreducible] bG suD bD rsD dE
theorem J0 (h : Hd) (rs : List Rw) (z : Int) (i : Nat) (r : Rw) (hr : rs[i]? = some r) (ok : jP rs) :
  ACalls (cxg gtc) 43 [.d (shD h (rsD rs) z), I (i : Int)] [] (fun x H => x = B (oP h i r) ∧ H = []) := by
 have hn := nQ rs
 have hf := ok.few
 have hlt : i < rs.length := aF hr
 have g1 := wu hr
 obtain ⟨hrl, hrc⟩ := ok.cells r (List.mem_of_getElem? hr)
 have hm := ko r.cells
 have hP := Gp h.fmt
 have k1 := iQ (gl := gtc) h.fmt
 have k2 := oO (gl := gtc) h.fmt
 unfold oP
 generalize fL h.fmt = L at *
 generalize fA h.fmt = A at *
 generalize fR h.fmt = R at *
 generalize fD h.fmt = E at *
 generalize hPP : A * L = P at *
 have hm64 : -9223372036854775808 ≤ A * L ∧ A * L ≤ 9223372036854775807 := by rw [hPP]; omega
 obtain ⟨hd, id, q, cs⟩ := r
 replace hm : (bD cs).length = cs.length := hm
 replace hrc : ∀ c ∈ cs, lu c := hrc
 by_cases hlen : (cs.length : Int) = P
 ·rw [show decide (((Rw.mk hd id q cs).cells.length : Int) = P) = true from decide_eq_true hlen, Bool.true_and]
  cases hh : Dr i ⟨hd, id, q, cs⟩ with
  | false =>
   rw [Bool.false_and]
   cases hd
   ·have hh' : ¬ (id = 0 ∧ q = 0) := of_decide_eq_false hh
    refine ACalls.enter Tryz.func43 rfl Tryz.ntmps43 (by kernel_rfl) rfl ?_; simp only [aB, nm, Nat.reduceAdd]
    repeat' (first | refine aa.aD ?_ | (apply aa.opx; (apply bM; (iterate 7 rfl); (first | omega | (exact hm64) | (rw [hn]; omega)); exact g1); rfl; rfl; rfl) | (apply aa.q true; rfl; rfl; rfl; rfl; first | exact True.intro | omega | (simp only [tn, Int.reduceToNat]; omega) | (exact hm64) | (rw [hn]; omega)) | refine aa.ak (k1) ?_ | refine aa.ak (k2) ?_ | refine aa.ah ?_ | refine aa.af ?_ | refine aa.av ?_ | refine aa.ai ?_ | (refine aa.aG ?_; simp only [nm, nz, Nat.reduceAdd]) | (refine aa.aP ?_; simp only [nm, nz, Nat.reduceAdd]) | (refine aa.az ?_; simp only [nm, nz, Nat.reduceAdd]) | refine aa.aj ?_ | refine aa.bh ?_ | refine aa.aU ?_ | refine aa.cB ?_ | refine aa.eG ?_ | refine aa.aA ?_ | intro _ | (apply aa.gD; rfl; rfl; rfl) | (apply aa.gS; rfl; rfl; rfl) | (apply aa.jr; rfl) | refine aa.au ?_ | refine aa.aQ ?_ | refine aa.aI ?_)
    all_goals first | exact ⟨rfl, rfl⟩ | omega | (exfalso; simp only [bT, bF, Bool.not_false, Bool.not_true] at *; omega)
   ·have hh' : ¬ (i ≠ 0 ∧ (0 ≤ id ∧ id ≤ 3) ∧ (1 ≤ q ∧ q ≤ 31)) := of_decide_eq_false hh
    refine ACalls.enter Tryz.func43 rfl Tryz.ntmps43 (by kernel_rfl) rfl ?_; simp only [aB, nm, Nat.reduceAdd]
    repeat' (first | refine aa.aD ?_ | (apply aa.opx; (apply bM; (iterate 7 rfl); (first | omega | (exact hm64) | (rw [hn]; omega)); exact g1); rfl; rfl; rfl) | (apply aa.q true; rfl; rfl; rfl; rfl; first | exact True.intro | omega | (simp only [tn, Int.reduceToNat]; omega) | (exact hm64) | (rw [hn]; omega)) | refine aa.ak (k1) ?_ | refine aa.ak (k2) ?_ | refine aa.ah ?_ | refine aa.af ?_ | refine aa.av ?_ | refine aa.ai ?_ | (refine aa.aG ?_; simp only [nm, nz, Nat.reduceAdd]) | (refine aa.aP ?_; simp only [nm, nz, Nat.reduceAdd]) | (refine aa.az ?_; simp only [nm, nz, Nat.reduceAdd]) | refine aa.aj ?_ | refine aa.bh ?_ | refine aa.aU ?_ | refine aa.cB ?_ | refine aa.eG ?_ | refine aa.aA ?_ | intro _ | (apply aa.gD; rfl; rfl; rfl) | (apply aa.gS; rfl; rfl; rfl) | (apply aa.jr; rfl) | refine aa.au ?_ | refine aa.aQ ?_ | refine aa.aI ?_)
    all_goals first | exact ⟨rfl, rfl⟩ | omega | (exfalso; simp only [bT, bF, Bool.not_false, Bool.not_true] at *; omega)
  | true =>
   rw [Bool.true_and]
   have hh' : (hd = false ∧ id = 0 ∧ q = 0) ∨ (hd = true ∧ i ≠ 0 ∧ (0 ≤ id ∧ id ≤ 3) ∧ (1 ≤ q ∧ q ≤ 31)) := by
    cases hd
    ·exact .inl ⟨rfl, of_decide_eq_true hh⟩
    ·exact .inr ⟨rfl, of_decide_eq_true hh⟩
   rcases hh' with ⟨rfl, hh1⟩ | ⟨rfl, hh1⟩
   all_goals
    refine ACalls.enter Tryz.func43 rfl Tryz.ntmps43 (by kernel_rfl) rfl ?_; simp only [aB, nm, Nat.reduceAdd]
    repeat' (first | refine aa.aD ?_ | (apply aa.opx; (apply bM; (iterate 7 rfl); (first | omega | (exact hm64) | (rw [hn]; omega)); exact g1); rfl; rfl; rfl) | (apply aa.q true; rfl; rfl; rfl; rfl; first | exact True.intro | omega | (simp only [tn, Int.reduceToNat]; omega) | (exact hm64) | (rw [hn]; omega)) | refine aa.ak (k1) ?_ | refine aa.ak (k2) ?_ | refine aa.ah ?_ | refine aa.af ?_ | refine aa.av ?_ | refine aa.ai ?_ | (refine aa.aG ?_; simp only [nm, nz, Nat.reduceAdd]) | (refine aa.aP ?_; simp only [nm, nz, Nat.reduceAdd]) | (refine aa.az ?_; simp only [nm, nz, Nat.reduceAdd]) | refine aa.aj ?_ | refine aa.bh ?_ | refine aa.aU ?_ | refine aa.cB ?_ | refine aa.eG ?_ | refine aa.aA ?_ | intro _ | (apply aa.gD; rfl; rfl; rfl) | (apply aa.gS; rfl; rfl; rfl) | (apply aa.jr; rfl) | refine aa.au ?_ | refine aa.aQ ?_ | refine aa.aI ?_)
    all_goals first | omega | (exfalso; simp only [bT, bF, Bool.not_false, Bool.not_true] at *; omega) | skip
    refine aa.weak (env' := [(81, I ((0 : Nat) : Int)), (80, I ((bD cs).length : Int)), (79, .d (.sl 18 (bD cs))), (2, .ptr 0 0)]) ⟨rfl, rfl, rfl, rfl, trivial⟩ ?_
    refine aa.loop (fun m env H => ∃ k : Nat, m = cs.length - k ∧ k ≤ cs.length ∧ (cs.take k).all (dE h.inter) = true ∧ env = [(81, I (k : Int)), (80, I ((bD cs).length : Int)), (79, .d (.sl 18 (bD cs))), (2, .ptr 0 0)] ∧ ∃ R, H = [.cells (shA h (rsD rs) z), .cells (rwA R)]) cs.length
     ⟨0, rfl, by omega, by simp, rfl, ⟨_, id, q, cs⟩, rfl⟩ ?_
    rintro m env H ⟨k, rfl, hk, hal, rfl, R, rfl⟩
    rcases Nat.lt_or_ge k cs.length with hlt2 | hge2
    ·obtain ⟨c, hc⟩ : ∃ c, cs[k]? = some c := ⟨_, List.getElem?_eq_getElem hlt2⟩
     have g2 := nZ hc
     have cr := y9 h.inter c (hrc c (List.mem_of_getElem? hc))
     have et := CM h.inter hc
     rw [hal, Bool.true_and] at et
     cases hR : dE h.inter c with
     | true =>
      rw [hR] at cr et
      repeat' (first | refine aa.aD ?_ | (apply aa.opx; (apply bM; (iterate 7 rfl); (first | omega | (rw [hm]; omega)); exact g2); rfl; rfl; rfl) | (apply aa.q true; rfl; rfl; rfl; rfl; first | exact True.intro | omega | (simp only [tn, Int.reduceToNat]; omega) | (rw [hm]; omega)) | refine aa.ak (cr) ?_ | refine aa.ah ?_ | refine aa.af ?_ | refine aa.av ?_ | refine aa.ai ?_ | (refine aa.aG ?_; simp only [nm, nz, Nat.reduceAdd]) | (refine aa.aP ?_; simp only [nm, nz, Nat.reduceAdd]) | (refine aa.az ?_; simp only [nm, nz, Nat.reduceAdd]) | refine aa.aj ?_ | refine aa.bh ?_ | refine aa.aU ?_ | refine aa.cB ?_ | refine aa.eG ?_ | refine aa.aA ?_ | intro _ | (apply aa.gD; rfl; rfl; rfl) | (apply aa.gS; rfl; rfl; rfl) | (apply aa.jr; rfl) | refine aa.au ?_ | refine aa.aQ ?_ | refine aa.aI ?_)
      all_goals first
       | exact aa.lC 2 [(81, I ((k + 1 : Nat) : Int)), (80, I ((bD cs).length : Int)), (79, .d (.sl 18 (bD cs))), (2, .ptr 0 0)] (cs.length - (k + 1)) (by omega) rfl rfl rfl rfl ⟨rfl, rfl, rfl, rfl, trivial⟩ ⟨k + 1, rfl, hlt2, et, rfl, _, rfl⟩
       | omega
     | false =>
      rw [hR] at cr
      have hno := Lt hc hR
      repeat' (first | refine aa.aD ?_ | (apply aa.opx; (apply bM; (iterate 7 rfl); (first | omega | (rw [hm]; omega)); exact g2); rfl; rfl; rfl) | (apply aa.q true; rfl; rfl; rfl; rfl; first | exact True.intro | omega | (simp only [tn, Int.reduceToNat]; omega) | (rw [hm]; omega)) | refine aa.ak (cr) ?_ | refine aa.ah ?_ | refine aa.af ?_ | refine aa.av ?_ | refine aa.ai ?_ | (refine aa.aG ?_; simp only [nm, nz, Nat.reduceAdd]) | (refine aa.aP ?_; simp only [nm, nz, Nat.reduceAdd]) | (refine aa.az ?_; simp only [nm, nz, Nat.reduceAdd]) | refine aa.aj ?_ | refine aa.bh ?_ | refine aa.aU ?_ | refine aa.cB ?_ | refine aa.eG ?_ | refine aa.aA ?_ | intro _ | (apply aa.gD; rfl; rfl; rfl) | (apply aa.gS; rfl; rfl; rfl) | (apply aa.jr; rfl) | refine aa.au ?_ | refine aa.aQ ?_ | refine aa.aI ?_)
      all_goals first | exact ⟨congrArg B hno.symm, rfl⟩ | omega
    ·obtain rfl : k = cs.length := by omega
     rw [List.take_length] at hal
     repeat' (first | refine aa.aD ?_ | refine aa.aY true ?_ | refine aa.ah ?_ | refine aa.af ?_ | refine aa.av ?_ | refine aa.ai ?_ | (refine aa.aG ?_; simp only [nm, nz, Nat.reduceAdd]) | (refine aa.aP ?_; simp only [nm, nz, Nat.reduceAdd]) | (refine aa.az ?_; simp only [nm, nz, Nat.reduceAdd]) | refine aa.aj ?_ | refine aa.bh ?_ | refine aa.aU ?_ | refine aa.cB ?_ | refine aa.eG ?_ | refine aa.aA ?_ | intro _ | (apply aa.gD; rfl; rfl; rfl) | (apply aa.gS; rfl; rfl; rfl) | (apply aa.jr; rfl) | refine aa.au ?_ | refine aa.aQ ?_ | refine aa.aI ?_)
     all_goals first | exact ⟨congrArg B hal.symm, rfl⟩ | omega
 ·rw [show decide (((Rw.mk hd id q cs).cells.length : Int) = P) = false from decide_eq_false hlen, Bool.false_and, Bool.false_and]
  refine ACalls.enter Tryz.func43 rfl Tryz.ntmps43 (by kernel_rfl) rfl ?_; simp only [aB, nm, Nat.reduceAdd]
  repeat' (first | refine aa.aD ?_ | (apply aa.opx; (apply bM; (iterate 7 rfl); (first | omega | (exact hm64) | (rw [hn]; omega)); exact g1); rfl; rfl; rfl) | (apply aa.q true; rfl; rfl; rfl; rfl; first | exact True.intro | omega | (simp only [tn, Int.reduceToNat]; omega) | (exact hm64) | (rw [hn]; omega)) | refine aa.ak (k1) ?_ | refine aa.ak (k2) ?_ | refine aa.ah ?_ | refine aa.af ?_ | refine aa.av ?_ | refine aa.ai ?_ | (refine aa.aG ?_; simp only [nm, nz, Nat.reduceAdd]) | (refine aa.aP ?_; simp only [nm, nz, Nat.reduceAdd]) | (refine aa.az ?_; simp only [nm, nz, Nat.reduceAdd]) | refine aa.aj ?_ | refine aa.bh ?_ | refine aa.aU ?_ | refine aa.cB ?_ | refine aa.eG ?_ | refine aa.aA ?_ | intro _ | (apply aa.gD; rfl; rfl; rfl) | (apply aa.gS; rfl; rfl; rfl) | (apply aa.jr; rfl) | refine aa.au ?_ | refine aa.aQ ?_ | refine aa.aI ?_)
  all_goals first | exact ⟨rfl, rfl⟩ | omega | (exfalso; simp only [bT, bF, Bool.not_false, Bool.not_true] at *; omega)
def fQ (h : Hd) (rs : List Rw) : Nat → Bool
 | 0 => true
 | n + 1 => fQ h rs n && (match rs[n]? with | some r => oP h n r | none => true)
theorem mi {h : Hd} {rs : List Rw} {n : Nat} {r : Rw} (hr : rs[n]? = some r) : fQ h rs (n + 1) = (fQ h rs n && oP h n r) := by simp only [fQ, hr]
theorem xV {h : Hd} {rs : List Rw} {n : Nat} (hn : fQ h rs n = false) : ∀ k, fQ h rs (n + k) = false
 | 0 => hn
 | k + 1 => by
  have := xV hn k
  rw [← Nat.add_assoc, fQ, this, Bool.false_and]
theorem wy {h : Hd} {rs : List Rw} {n : Nat} {r : Rw} (hr : rs[n]? = some r) (hn : oP h n r = false) : fQ h rs rs.length = false := by
 have h1 : fQ h rs (n + 1) = false := by rw [mi hr, hn, Bool.and_false]
 have h2 := aF hr
 have := xV h1 (rs.length - (n + 1))
 rwa [show n + 1 + (rs.length - (n + 1)) = rs.length by omega] at this
attribute [local irreducible] oP fQ
theorem Ca (h : Hd) (rs : List Rw) (z : Int) (ok : jP rs) :
  ACalls (cxg gtc) 42 [I (rs.length : Int), .fn (.func 43) [.d (shD h (rsD rs) z)] []] [] (fun x H => x = B (fQ h rs rs.length) ∧ H = []) := by
 have hf := ok.few
 have r0 : fQ h rs 0 = true := by unfold fQ; rfl
 refine ACalls.enter Tryz.func42 rfl Tryz.ntmps42 (by kernel_rfl) rfl ?_; simp only [aB, nm, Nat.reduceAdd]
 repeat (first | refine aa.aD ?_ | refine aa.aY true ?_ | refine aa.ah ?_ | refine aa.af ?_ | refine aa.av ?_ | refine aa.ai ?_)
 refine aa.weak (env' := [(7, I ((0 : Nat) : Int)), (6, I (rs.length : Int)), (1, .fn (.func 43) [.d (shD h (rsD rs) z)] [])]) ⟨rfl, rfl, rfl, trivial⟩ ?_
 refine aa.loop (fun m env H => ∃ k : Nat, m = rs.length - k ∧ k ≤ rs.length ∧ fQ h rs k = true ∧ env = [(7, I (k : Int)), (6, I (rs.length : Int)), (1, .fn (.func 43) [.d (shD h (rsD rs) z)] [])] ∧ H = []) rs.length
  ⟨0, rfl, by omega, r0, rfl, rfl⟩ ?_
 rintro m env H ⟨k, rfl, hk, hal, rfl, rfl⟩
 rcases Nat.lt_or_ge k rs.length with hlt | hge
 ·obtain ⟨r, hr⟩ : ∃ r, rs[k]? = some r := ⟨_, List.getElem?_eq_getElem hlt⟩
  have cr := J0 h rs z k r hr ok
  have et := mi (h := h) hr
  rw [hal, Bool.true_and] at et
  cases hR : oP h k r with
  | true =>
   rw [hR] at cr et
   repeat' (first | refine aa.aD ?_ | refine aa.aY true ?_ | refine aa.ak (cr) ?_ | refine aa.ah ?_ | refine aa.af ?_ | refine aa.av ?_ | refine aa.ai ?_ | intro _ | refine aa.au ?_ | refine aa.aQ ?_ | refine aa.aI ?_)
   all_goals first
    | exact aa.round [(7, I ((k + 1 : Nat) : Int)), (6, I (rs.length : Int)), (1, .fn (.func 43) [.d (shD h (rsD rs) z)] [])] (rs.length - (k + 1)) (by omega) ⟨rfl, rfl, rfl, trivial⟩ ⟨k + 1, rfl, hlt, et, rfl, rfl⟩
    | omega
  | false =>
   rw [hR] at cr
   have hno := wy hr hR
   repeat' (first | refine aa.aD ?_ | refine aa.aY true ?_ | refine aa.ak (cr) ?_ | refine aa.ah ?_ | refine aa.af ?_ | refine aa.av ?_ | refine aa.ai ?_ | intro _ | refine aa.au ?_ | refine aa.aQ ?_ | refine aa.aI ?_)
   all_goals first | exact ⟨congrArg B hno.symm, rfl⟩ | omega
 ·obtain rfl : k = rs.length := by omega
  repeat' (first | refine aa.aD ?_ | refine aa.aY true ?_ | refine aa.ah ?_ | refine aa.af ?_ | refine aa.av ?_ | refine aa.ai ?_ | intro _ | refine aa.au ?_ | refine aa.aQ ?_ | refine aa.aI ?_)
  all_goals first | exact ⟨congrArg B hal.symm, rfl⟩ | omega
end Sh
end Go.Proofs.YtbfojhfiemcnpaaGreatDoor.Av
