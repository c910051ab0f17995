/- Sheets that may be: sound.Check, where all but vectors is fine. -/
import Derived.Test.YtbfojhfiemcnpaaGreatDoorSh17
set_option linter.unusedVariables false
set_option linter.unusedSimpArgs false
set_option maxRecDepth 100000
set_option maxHeartbeats 64000000
namespace Go.Proofs.YtbfojhfiemcnpaaGreatDoor.Av
namespace Sh
open Go Bt Tc Co Wr
attribute [local irreducible] aa ACalls
variable {gl : List (Nat × List D)}
theorem xM (f : Int) (n : Nat) (c : Cel) : (c.kind = 3 ∧ oq f n c = true) ∨ (c.kind = 4 ∧ oq f n c = true) ∨ (c.kind ≠ 3 ∧ c.kind ≠ 4 ∧ oq f n c = qd f n (mvP c)) := by
 unfold oq aK
 by_cases h3 : c.kind = 3
 ·exact .inl ⟨h3, by rw [decide_eq_true (.inl h3)]; rfl⟩
 ·by_cases h4 : c.kind = 4
  ·exact .inr (.inl ⟨h4, by rw [decide_eq_true (.inr h4)]; rfl⟩)
  ·exact .inr (.inr ⟨h3, h4, by rw [decide_eq_false (by omega)]; rfl⟩)
attribute [local irreducible] bG suD bD rsD dE fQ mH cH bg bR eQ qd gy oq cellsOf
theorem DK (h : Hd) (rs : List Rw) (z : Int) (ok : jP rs) (hl : h.supp.length ≤ 100) (hyes : jb h rs z = true) :
  ACalls (cxg gtc) 15 [.d (shD h (rsD rs) z)] [] (fun x H => x = I (if gy h.fmt (cellsOf rs) (cellsOf rs).length = true then 0 else 8) ∧ H = []) := by
 have hn := nQ rs
 have k2 := oO (gl := gtc) h.fmt
 have nw := qK (gl := gtc)
 obtain ⟨hh, hz, hR, ha⟩ := jB hyes
 obtain ⟨hf, hlen⟩ := q9 hyes
 have sp := zJ (gl := gtc) h (rsD rs) z [] 0 hh ⟨rfl, by simp⟩ (by omega)
 have ev := Ca h rs z ok
 rw [ha] at ev
 rw [← hR] at k2
 have sc := EI (gl := gtc) h rs z ok
 have hX := ok.le rs.length
 rw [List.take_length] at hX
 generalize hL : cellsOf rs = l at *
 have hm := ko l
 have v0 : gy h.fmt l 0 = true := by unfold gy; rfl
 refine ACalls.enter Tryz.func15 rfl Tryz.ntmps15 (by kernel_rfl) rfl ?_; simp only [aB, nm, Nat.reduceAdd]
 repeat' (first | refine aa.aD ?_ | (apply aa.fE [0, 1, 2, 3, 4, 5, 6, 7, 8, 9, 10, 11, 12, 13, 14, 15, 16, 17, 18, 19, 20, 21, 22, 23, 24, 25, 26, 27] 28; rfl) | refine aM.cZ ?_ | (apply aM.go) | refine aM.jg true ?_ | refine aM.fu ?_ | (apply aM.two; rfl; rfl; rfl; kernel_rfl) | (exact aa.fS) | (apply aa.bK; (repeat' (first | exact aZ.nil | (apply aZ.cons; rfl))); rfl) | refine aa.aY true ?_ | (refine aa.ae [] ( nw) ?_; simp only [ny, nh, Nat.reduceAdd, Nat.reduceSub]) | (refine aa.ae [1,2] ( sp) ?_; simp only [ny, nh, Nat.reduceAdd, Nat.reduceSub]) | refine aa.ak (k2) ?_ | refine aa.ak (ev) ?_ | refine aa.ak (sc) ?_ | refine aa.ah ?_ | refine aa.af ?_ | refine aa.av ?_ | refine aa.ai ?_ | (refine aa.aG ?_; simp only [nm, nz, Nat.reduceAdd]) | (refine aa.aP ?_; simp only [nm, nz, Nat.reduceAdd]) | (refine aa.az ?_; simp only [nm, nz, Nat.reduceAdd]) | refine aa.aj ?_ | refine aa.bh ?_ | refine aa.fw ?_ | refine aa.eG ?_ | refine aa.aA ?_ | intro _ | refine aa.au ?_ | refine aa.aQ ?_ | refine aa.aI ?_)
 all_goals
  refine aa.drop 1 (env' := [(44, I ((0 : Nat) : Int)), (43, I ((bD l).length : Int)), (42, .d (.sl 18 (bD l))), (1, .ptr 0 0)]) (Nat.zero_le _) (by simp) (fun o ho => eY (m := 1) rfl o ho) ⟨rfl, rfl, rfl, rfl, trivial⟩ (xn 1 _ rfl) ?_
  refine aa.loop (fun m env H => ∃ k : Nat, m = l.length - k ∧ k ≤ l.length ∧ gy h.fmt l k = true ∧ env = [(44, I (k : Int)), (43, I ((bD l).length : Int)), (42, .d (.sl 18 (bD l))), (1, .ptr 0 0)] ∧ H = [.cells (shA h (rsD rs) z)]) l.length
   ⟨0, rfl, by omega, v0, rfl, rfl⟩ ?_
  rintro m env H ⟨k, rfl, hk, hal, rfl, rfl⟩
  rcases Nat.lt_or_ge k l.length with hlt | hge
  ·obtain ⟨c, hc⟩ : ∃ c, l[k]? = some c := ⟨_, List.getElem?_eq_getElem hlt⟩
   have g2 := nZ hc
   have et := oJ (f := h.fmt) hc
   rw [hal, Bool.true_and] at et
   have mm := Fu (gl := gtc) h.fmt k (mvP c) hf (by omega)
   rcases xM h.fmt k c with ⟨k3, hv⟩ | ⟨k4, hv⟩ | ⟨k3, k4, hv⟩
   ·rw [hv] at et
    repeat' (first | refine aa.aD ?_ | (apply aa.opx; (apply bM; (iterate 7 rfl); (first | omega | (rw [hm]; omega)); exact g2); rfl; rfl; rfl) | (apply aa.q true; rfl; rfl; rfl; rfl; first | exact True.intro | omega | (simp only [tn, Int.reduceToNat]; omega) | (rw [hm]; omega)) | refine aa.ah ?_ | refine aa.af ?_ | refine aa.av ?_ | refine aa.ai ?_ | (refine aa.aG ?_; simp only [nm, nz, Nat.reduceAdd]) | (refine aa.aP ?_; simp only [nm, nz, Nat.reduceAdd]) | (refine aa.az ?_; simp only [nm, nz, Nat.reduceAdd]) | refine aa.aj ?_ | refine aa.bh ?_ | refine aa.fw ?_ | refine aa.eG ?_ | refine aa.aA ?_ | intro _ | refine aa.au ?_ | refine aa.aQ ?_ | refine aa.aI ?_)
    all_goals first
     | exact aa.lC 1 [(44, I ((k + 1 : Nat) : Int)), (43, I ((bD l).length : Int)), (42, .d (.sl 18 (bD l))), (1, .ptr 0 0)] (l.length - (k + 1)) (by omega) rfl rfl rfl rfl ⟨rfl, rfl, rfl, rfl, trivial⟩ ⟨k + 1, rfl, hlt, et, rfl, rfl⟩
     | omega
   ·rw [hv] at et
    repeat' (first | refine aa.aD ?_ | (apply aa.opx; (apply bM; (iterate 7 rfl); (first | omega | (rw [hm]; omega)); exact g2); rfl; rfl; rfl) | (apply aa.q true; rfl; rfl; rfl; rfl; first | exact True.intro | omega | (simp only [tn, Int.reduceToNat]; omega) | (rw [hm]; omega)) | refine aa.ah ?_ | refine aa.af ?_ | refine aa.av ?_ | refine aa.ai ?_ | (refine aa.aG ?_; simp only [nm, nz, Nat.reduceAdd]) | (refine aa.aP ?_; simp only [nm, nz, Nat.reduceAdd]) | (refine aa.az ?_; simp only [nm, nz, Nat.reduceAdd]) | refine aa.aj ?_ | refine aa.bh ?_ | refine aa.fw ?_ | refine aa.eG ?_ | refine aa.aA ?_ | intro _ | refine aa.au ?_ | refine aa.aQ ?_ | refine aa.aI ?_)
    all_goals first
     | exact aa.lC 1 [(44, I ((k + 1 : Nat) : Int)), (43, I ((bD l).length : Int)), (42, .d (.sl 18 (bD l))), (1, .ptr 0 0)] (l.length - (k + 1)) (by omega) rfl rfl rfl rfl ⟨rfl, rfl, rfl, rfl, trivial⟩ ⟨k + 1, rfl, hlt, et, rfl, rfl⟩
     | omega
   ·cases hM : qd h.fmt k (mvP c) with
    | true =>
     rw [hM] at mm hv
     rw [hv] at et
     repeat' (first | refine aa.aD ?_ | (apply aa.opx; (apply bM; (iterate 7 rfl); (first | omega | (rw [hm]; omega)); exact g2); rfl; rfl; rfl) | (apply aa.q true; rfl; rfl; rfl; rfl; first | exact True.intro | omega | (simp only [tn, Int.reduceToNat]; omega) | (rw [hm]; omega)) | refine aa.ak (mm) ?_ | refine aa.ah ?_ | refine aa.af ?_ | refine aa.av ?_ | refine aa.ai ?_ | (refine aa.aG ?_; simp only [nm, nz, Nat.reduceAdd]) | (refine aa.aP ?_; simp only [nm, nz, Nat.reduceAdd]) | (refine aa.az ?_; simp only [nm, nz, Nat.reduceAdd]) | refine aa.aj ?_ | refine aa.bh ?_ | refine aa.fw ?_ | refine aa.eG ?_ | refine aa.aA ?_ | intro _ | refine aa.au ?_ | refine aa.aQ ?_ | refine aa.aI ?_)
     all_goals first
      | exact aa.lC 1 [(44, I ((k + 1 : Nat) : Int)), (43, I ((bD l).length : Int)), (42, .d (.sl 18 (bD l))), (1, .ptr 0 0)] (l.length - (k + 1)) (by omega) rfl rfl rfl rfl ⟨rfl, rfl, rfl, rfl, trivial⟩ ⟨k + 1, rfl, hlt, et, rfl, rfl⟩
      | omega
    | false =>
     rw [hM] at mm hv
     have hno := vX hc hv
     rw [hno, if_neg (by decide)]
     repeat' (first | refine aa.aD ?_ | (apply aa.opx; (apply bM; (iterate 7 rfl); (first | omega | (rw [hm]; omega)); exact g2); rfl; rfl; rfl) | (apply aa.q true; rfl; rfl; rfl; rfl; first | exact True.intro | omega | (simp only [tn, Int.reduceToNat]; omega) | (rw [hm]; omega)) | refine aa.ak (mm) ?_ | refine aa.ah ?_ | refine aa.af ?_ | refine aa.av ?_ | refine aa.ai ?_ | (refine aa.aG ?_; simp only [nm, nz, Nat.reduceAdd]) | (refine aa.aP ?_; simp only [nm, nz, Nat.reduceAdd]) | (refine aa.az ?_; simp only [nm, nz, Nat.reduceAdd]) | refine aa.aj ?_ | refine aa.bh ?_ | refine aa.fw ?_ | refine aa.eG ?_ | refine aa.aA ?_ | intro _ | refine aa.au ?_ | refine aa.aQ ?_ | refine aa.aI ?_)
     all_goals first | exact ⟨rfl, rfl⟩ | omega
  ·obtain rfl : k = l.length := by omega
   rw [hal, if_pos rfl]
   repeat' (first | refine aa.aD ?_ | refine aa.aY true ?_ | refine aa.ah ?_ | refine aa.af ?_ | refine aa.av ?_ | refine aa.ai ?_ | (refine aa.aG ?_; simp only [nm, nz, Nat.reduceAdd]) | (refine aa.aP ?_; simp only [nm, nz, Nat.reduceAdd]) | (refine aa.az ?_; simp only [nm, nz, Nat.reduceAdd]) | refine aa.aj ?_ | refine aa.bh ?_ | refine aa.fw ?_ | refine aa.eG ?_ | refine aa.aA ?_ | intro _ | refine aa.au ?_ | refine aa.aQ ?_ | refine aa.aI ?_)
   all_goals first | exact ⟨rfl, rfl⟩ | omega
theorem Cs (h : Hd) (rs : List Rw) (z : Int) (ok : jP rs) (hl : h.supp.length ≤ 100) :
  ACalls (cxg gtc) 15 [.d (shD h (rsD rs) z)] [] (fun x H => x = I (gK h rs z) ∧ H = []) := by
 unfold gK
 cases hf : jb h rs z with
 | true => rw [if_pos rfl]; exact DK h rs z ok hl hf
 | false => rw [if_neg (by decide)]; exact GL h rs z ok hl hf
end Sh
end Go.Proofs.YtbfojhfiemcnpaaGreatDoor.Av
