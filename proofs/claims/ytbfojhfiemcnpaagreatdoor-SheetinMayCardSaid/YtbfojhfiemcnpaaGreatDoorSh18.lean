/- Sheets that may be: sound.Check, where all but vectors is fine. -/
import Derived.Test.YtbfojhfiemcnpaaGreatDoorSh17
set_option linter.unusedVariables false
set_option linter.unusedSimpArgs false
set_option maxRecDepth 100000
set_option maxHeartbeats 64000000
namespace Go.Proofs.YtbfojhfiemcnpaaGreatDoor.Av
namespace Sh
open Go Bt Tc Co Wr
attribute [local irreducible] aa ACalls
variable {gl : List (Nat × List D)}
theorem vq (f : Int) (n : Nat) (c : Cel) : (c.kind = 3 ∧ l9 f n c = true) ∨ (c.kind = 4 ∧ l9 f n c = true) ∨ (c.kind ≠ 3 ∧ c.kind ≠ 4 ∧ l9 f n c = nu f n (mvP c)) := by
 unfold l9 aH
 by_cases h3 : c.kind = 3
 ·exact .inl ⟨h3, by rw [decide_eq_true (.inl h3)]; rfl⟩
 ·by_cases h4 : c.kind = 4
  ·exact .inr (.inl ⟨h4, by rw [decide_eq_true (.inr h4)]; rfl⟩)
  ·exact .inr (.inr ⟨h3, h4, by rw [decide_eq_false (by omega)]; rfl⟩)
attribute [local irreducible] bg suD bh rsD eu dW nG cZ aS bJ eH nu eM l9 cellsOf
theorem A9 (h : Hd) (rs : List Rw) (z : Int) (ok : nX rs) (hl : h.supp.length ≤ 100) (hyes : j5 h rs z = true) :
  ACalls (cxg gtc) 15 [.d (shD h (rsD rs) z)] [] (fun x H => x = I (if eM h.fmt (cellsOf rs) (cellsOf rs).length = true then 0 else 8) ∧ H = []) := by
 have hn := mR rs
 have k2 := oq (gl := gtc) h.fmt
 have nw := xk (gl := gtc)
 obtain ⟨hh, hz, hR, ha⟩ := lX hyes
 obtain ⟨hf, hlen⟩ := sZ hyes
 have sp := BO (gl := gtc) h (rsD rs) z [] 0 hh ⟨rfl, by simp⟩ (by omega)
 have ev := zy h rs z ok
 rw [ha] at ev
 rw [← hR] at k2
 have sc := BZ (gl := gtc) h rs z ok
 have hX := ok.le rs.length
 rw [List.take_length] at hX
 generalize hL : cellsOf rs = l at *
 have hm := ko l
 have v0 : eM h.fmt l 0 = true := by unfold eM; rfl
 refine ACalls.enter Tryz.func15 rfl Tryz.ntmps15 (by kernel_rfl) rfl ?_; simp only [au, nm, Nat.reduceAdd]
 repeat' (first | (apply aa.st; rfl) | (apply aa.dF [0, 1, 2, 3, 4, 5, 6, 7, 8, 9, 10, 11, 12, 13, 14, 15, 16, 17, 18, 19, 20, 21, 22, 23, 24, 25, 26, 27] 28; rfl) | (apply aG.fin; kernel_rfl) | (apply aG.go) | (apply aG.pure true; rfl; exact fun _ _ _ h => h; (iterate 6 rfl); kernel_rfl; kernel_rfl; first | exact True.intro | omega) | (apply aG.one; rfl; rfl; kernel_rfl) | (apply aG.two; rfl; rfl; rfl; kernel_rfl) | (exact aa.dR) | (apply aa.ba; (repeat' (first | exact aN.nil | (apply aN.cons; rfl))); rfl) | (apply aa.q true; rfl; rfl; rfl; rfl; first | exact True.intro | omega | (simp only [tn, Int.reduceToNat]; omega)) | (apply aa.ah [] ( nw); (iterate 6 rfl); decide; rfl; rfl; simp only [ny, nh, Nat.reduceAdd, Nat.reduceSub]) | (apply aa.ah [1,2] ( sp); (iterate 6 rfl); decide; rfl; rfl; simp only [ny, nh, Nat.reduceAdd, Nat.reduceSub]) | (apply aa.aA (k2); (iterate 6 rfl)) | (apply aa.aA (ev); (iterate 6 rfl)) | (apply aa.aA (sc); (iterate 6 rfl)) | (apply aa.af; rfl; first | omega | rfl) | (apply aa.ae; rfl; omega) | (apply aa.aB; rfl) | (apply aa.ak; rfl) | (apply aa.alloc; (iterate 5 rfl); simp only [nm, nz, Nat.reduceAdd]) | (apply aa.box; (iterate 6 rfl); simp only [nm, nz, Nat.reduceAdd]) | (apply aa.store; (iterate 9 rfl); exact Nat.le_of_ble_eq_true rfl; simp only [nm, nz, Nat.reduceAdd]) | (apply aa.aj; rfl; rfl) | (apply aa.gF; rfl; rfl; rfl; omega) | (apply aa.gBT; rfl; rfl; rfl; first | (simp only [bT]; omega)) | (apply aa.gBF; rfl; rfl; rfl; first | (simp only [bF]; omega) | exact ndF rfl) | (apply aa.az; rfl; rfl; rfl) | intro _ | (apply aa.aC; rfl; rfl; rfl; rfl) | (apply aa.bf; rfl; rfl; rfl; rfl) | (apply aa.aP; rfl; rfl))
 all_goals
  refine aa.drop 1 (env' := [(44, I ((0 : Nat) : Int)), (43, I ((bh l).length : Int)), (42, .d (.sl 18 (bh l))), (1, .ptr 0 0)]) (Nat.zero_le _) (by simp) (fun o ho => dA (m := 1) rfl o ho) ⟨rfl, rfl, rfl, rfl, trivial⟩ (uN 1 _ rfl) ?_
  refine aa.loop (fun m env H => ∃ k : Nat, m = l.length - k ∧ k ≤ l.length ∧ eM h.fmt l k = true ∧ env = [(44, I (k : Int)), (43, I ((bh l).length : Int)), (42, .d (.sl 18 (bh l))), (1, .ptr 0 0)] ∧ H = [.cells (shA h (rsD rs) z)]) l.length
   ⟨0, rfl, by omega, v0, rfl, rfl⟩ ?_
  rintro m env H ⟨k, rfl, hk, hal, rfl, rfl⟩
  rcases Nat.lt_or_ge k l.length with hlt | hge
  ·obtain ⟨c, hc⟩ : ∃ c, l[k]? = some c := ⟨_, List.getElem?_eq_getElem hlt⟩
   have g2 := oN hc
   have et := mq (f := h.fmt) hc
   rw [hal, Bool.true_and] at et
   have mm := CG (gl := gtc) h.fmt k (mvP c) hf (by omega)
   rcases vq h.fmt k c with ⟨k3, hv⟩ | ⟨k4, hv⟩ | ⟨k3, k4, hv⟩
   ·rw [hv] at et
    repeat' (first | (apply aa.st; rfl) | (apply aa.opx; (apply bz; (iterate 7 rfl); (first | omega | (rw [hm]; omega)); exact g2); rfl; rfl; rfl) | (apply aa.q true; rfl; rfl; rfl; rfl; first | exact True.intro | omega | (simp only [tn, Int.reduceToNat]; omega) | (rw [hm]; omega)) | (apply aa.af; rfl; first | omega | rfl) | (apply aa.ae; rfl; omega) | (apply aa.aB; rfl) | (apply aa.ak; rfl) | (apply aa.alloc; (iterate 5 rfl); simp only [nm, nz, Nat.reduceAdd]) | (apply aa.box; (iterate 6 rfl); simp only [nm, nz, Nat.reduceAdd]) | (apply aa.store; (iterate 9 rfl); exact Nat.le_of_ble_eq_true rfl; simp only [nm, nz, Nat.reduceAdd]) | (apply aa.aj; rfl; rfl) | (apply aa.gF; rfl; rfl; rfl; omega) | (apply aa.gBT; rfl; rfl; rfl; first | (simp only [bT]; omega)) | (apply aa.gBF; rfl; rfl; rfl; first | (simp only [bF]; omega) | exact ndF rfl) | (apply aa.az; rfl; rfl; rfl) | intro _ | (apply aa.aC; rfl; rfl; rfl; rfl) | (apply aa.bf; rfl; rfl; rfl; rfl) | (apply aa.aP; rfl; rfl))
    all_goals first
     | exact aa.kW 1 [(44, I ((k + 1 : Nat) : Int)), (43, I ((bh l).length : Int)), (42, .d (.sl 18 (bh l))), (1, .ptr 0 0)] (l.length - (k + 1)) (by omega) rfl rfl rfl rfl ⟨rfl, rfl, rfl, rfl, trivial⟩ ⟨k + 1, rfl, hlt, et, rfl, rfl⟩
     | omega
   ·rw [hv] at et
    repeat' (first | (apply aa.st; rfl) | (apply aa.opx; (apply bz; (iterate 7 rfl); (first | omega | (rw [hm]; omega)); exact g2); rfl; rfl; rfl) | (apply aa.q true; rfl; rfl; rfl; rfl; first | exact True.intro | omega | (simp only [tn, Int.reduceToNat]; omega) | (rw [hm]; omega)) | (apply aa.af; rfl; first | omega | rfl) | (apply aa.ae; rfl; omega) | (apply aa.aB; rfl) | (apply aa.ak; rfl) | (apply aa.alloc; (iterate 5 rfl); simp only [nm, nz, Nat.reduceAdd]) | (apply aa.box; (iterate 6 rfl); simp only [nm, nz, Nat.reduceAdd]) | (apply aa.store; (iterate 9 rfl); exact Nat.le_of_ble_eq_true rfl; simp only [nm, nz, Nat.reduceAdd]) | (apply aa.aj; rfl; rfl) | (apply aa.gF; rfl; rfl; rfl; omega) | (apply aa.gBT; rfl; rfl; rfl; first | (simp only [bT]; omega)) | (apply aa.gBF; rfl; rfl; rfl; first | (simp only [bF]; omega) | exact ndF rfl) | (apply aa.az; rfl; rfl; rfl) | intro _ | (apply aa.aC; rfl; rfl; rfl; rfl) | (apply aa.bf; rfl; rfl; rfl; rfl) | (apply aa.aP; rfl; rfl))
    all_goals first
     | exact aa.kW 1 [(44, I ((k + 1 : Nat) : Int)), (43, I ((bh l).length : Int)), (42, .d (.sl 18 (bh l))), (1, .ptr 0 0)] (l.length - (k + 1)) (by omega) rfl rfl rfl rfl ⟨rfl, rfl, rfl, rfl, trivial⟩ ⟨k + 1, rfl, hlt, et, rfl, rfl⟩
     | omega
   ·cases hM : nu h.fmt k (mvP c) with
    | true =>
     rw [hM] at mm hv
     rw [hv] at et
     repeat' (first | (apply aa.st; rfl) | (apply aa.opx; (apply bz; (iterate 7 rfl); (first | omega | (rw [hm]; omega)); exact g2); rfl; rfl; rfl) | (apply aa.q true; rfl; rfl; rfl; rfl; first | exact True.intro | omega | (simp only [tn, Int.reduceToNat]; omega) | (rw [hm]; omega)) | (apply aa.aA (mm); (iterate 6 rfl)) | (apply aa.af; rfl; first | omega | rfl) | (apply aa.ae; rfl; omega) | (apply aa.aB; rfl) | (apply aa.ak; rfl) | (apply aa.alloc; (iterate 5 rfl); simp only [nm, nz, Nat.reduceAdd]) | (apply aa.box; (iterate 6 rfl); simp only [nm, nz, Nat.reduceAdd]) | (apply aa.store; (iterate 9 rfl); exact Nat.le_of_ble_eq_true rfl; simp only [nm, nz, Nat.reduceAdd]) | (apply aa.aj; rfl; rfl) | (apply aa.gF; rfl; rfl; rfl; omega) | (apply aa.gBT; rfl; rfl; rfl; first | (simp only [bT]; omega)) | (apply aa.gBF; rfl; rfl; rfl; first | (simp only [bF]; omega) | exact ndF rfl) | (apply aa.az; rfl; rfl; rfl) | intro _ | (apply aa.aC; rfl; rfl; rfl; rfl) | (apply aa.bf; rfl; rfl; rfl; rfl) | (apply aa.aP; rfl; rfl))
     all_goals first
      | exact aa.kW 1 [(44, I ((k + 1 : Nat) : Int)), (43, I ((bh l).length : Int)), (42, .d (.sl 18 (bh l))), (1, .ptr 0 0)] (l.length - (k + 1)) (by omega) rfl rfl rfl rfl ⟨rfl, rfl, rfl, rfl, trivial⟩ ⟨k + 1, rfl, hlt, et, rfl, rfl⟩
      | omega
    | false =>
     rw [hM] at mm hv
     have hno := tQ hc hv
     rw [hno, if_neg (by decide)]
     repeat' (first | (apply aa.st; rfl) | (apply aa.opx; (apply bz; (iterate 7 rfl); (first | omega | (rw [hm]; omega)); exact g2); rfl; rfl; rfl) | (apply aa.q true; rfl; rfl; rfl; rfl; first | exact True.intro | omega | (simp only [tn, Int.reduceToNat]; omega) | (rw [hm]; omega)) | (apply aa.aA (mm); (iterate 6 rfl)) | (apply aa.af; rfl; first | omega | rfl) | (apply aa.ae; rfl; omega) | (apply aa.aB; rfl) | (apply aa.ak; rfl) | (apply aa.alloc; (iterate 5 rfl); simp only [nm, nz, Nat.reduceAdd]) | (apply aa.box; (iterate 6 rfl); simp only [nm, nz, Nat.reduceAdd]) | (apply aa.store; (iterate 9 rfl); exact Nat.le_of_ble_eq_true rfl; simp only [nm, nz, Nat.reduceAdd]) | (apply aa.aj; rfl; rfl) | (apply aa.gF; rfl; rfl; rfl; omega) | (apply aa.gBT; rfl; rfl; rfl; first | (simp only [bT]; omega)) | (apply aa.gBF; rfl; rfl; rfl; first | (simp only [bF]; omega) | exact ndF rfl) | (apply aa.az; rfl; rfl; rfl) | intro _ | (apply aa.aC; rfl; rfl; rfl; rfl) | (apply aa.bf; rfl; rfl; rfl; rfl) | (apply aa.aP; rfl; rfl))
     all_goals first | exact ⟨rfl, rfl⟩ | omega
  ·obtain rfl : k = l.length := by omega
   rw [hal, if_pos rfl]
   repeat' (first | (apply aa.st; rfl) | (apply aa.q true; rfl; rfl; rfl; rfl; first | exact True.intro | omega | (simp only [tn, Int.reduceToNat]; omega)) | (apply aa.af; rfl; first | omega | rfl) | (apply aa.ae; rfl; omega) | (apply aa.aB; rfl) | (apply aa.ak; rfl) | (apply aa.alloc; (iterate 5 rfl); simp only [nm, nz, Nat.reduceAdd]) | (apply aa.box; (iterate 6 rfl); simp only [nm, nz, Nat.reduceAdd]) | (apply aa.store; (iterate 9 rfl); exact Nat.le_of_ble_eq_true rfl; simp only [nm, nz, Nat.reduceAdd]) | (apply aa.aj; rfl; rfl) | (apply aa.gF; rfl; rfl; rfl; omega) | (apply aa.gBT; rfl; rfl; rfl; first | (simp only [bT]; omega)) | (apply aa.gBF; rfl; rfl; rfl; first | (simp only [bF]; omega) | exact ndF rfl) | (apply aa.az; rfl; rfl; rfl) | intro _ | (apply aa.aC; rfl; rfl; rfl; rfl) | (apply aa.bf; rfl; rfl; rfl; rfl) | (apply aa.aP; rfl; rfl))
   all_goals first | exact ⟨rfl, rfl⟩ | omega
theorem Ga (h : Hd) (rs : List Rw) (z : Int) (ok : nX rs) (hl : h.supp.length ≤ 100) :
  ACalls (cxg gtc) 15 [.d (shD h (rsD rs) z)] [] (fun x H => x = I (rP h rs z) ∧ H = []) := by
 unfold rP
 cases hf : j5 h rs z with
 | true => rw [if_pos rfl]; exact A9 h rs z ok hl hf
 | false => rw [if_neg (by decide)]; exact Ef h rs z ok hl hf
end Sh
end Go.Proofs.YtbfojhfiemcnpaaGreatDoor.Av
