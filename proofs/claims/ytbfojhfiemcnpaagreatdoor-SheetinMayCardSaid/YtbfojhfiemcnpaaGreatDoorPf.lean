/- prefix's add: a code is taken in. -/
import Derived.Test.YtbfojhfiemcnpaaGreatDoorPe
import Derived.Test.YtbfojhfiemcnpaaGreatDoorPn
set_option linter.unusedVariables false
set_option linter.unusedSimpArgs false
set_option maxRecDepth 100000
set_option maxHeartbeats 64000000
namespace Go.Proofs.YtbfojhfiemcnpaaGreatDoor.Av
namespace Px
open Go Bt
attribute [local irreducible] aa ACalls
variable {gl : List (Nat × List D)}
theorem rN (p : List UInt8 × Int) : aO ([] ++ [p]) = [jg p] := rfl
def ER (t : Tb) (row : List UInt8) (sy : Int) : List aF := [.cells [.own 2 (aO t.codes) 5, .mp 1, .mp 2, .mp 3, I t.lng], .map (bw t.sym), .map (df t.rws), .map (bw t.beg), .cells [S row, I sy], .front 199 2 (aO t.codes).length]
theorem fw (row : List UInt8) (k : Nat) (l : List (List UInt8 × Int)) : bH row (k + 1) l = uG (bH row k l) (row.take (k + 1)) (fP (row.take (k + 1)) (bH row k l) + 1) := rfl
theorem qp (row : List UInt8) (l : List (List UInt8 × Int)) : bH row 0 l = l := rfl
theorem sN (row : List UInt8) (h : ij row = true) : 0 < row.length := by
 unfold ij at h
 rcases row with _ | ⟨c, r⟩
 ·simp at h
 ·simp
attribute [local irreducible] bw df aO ij bH
theorem Bi (t : Tb) (row : List UInt8) (sy : Int) (hrow : row.length ≤ 1000000) (hb : sG t row sy = true) (hN : ∀ w, 0 ≤ fP w t.beg ∧ fP w t.beg ≤ 1000000) (hl : -1000000 ≤ t.lng ∧ t.lng ≤ 1000000) (hc : t.codes = []) :
  ACalls (cxg gl) 172 [.ptr 0 0, .d (jg (row, sy))] (Hf t) (fun r H => r = B true ∧ H = ER (dV t row sy) row sy) := by
 obtain ⟨h1, hr2, h3, hw4⟩ := (rY t row sy).1 hb
 have f1 : gU (.int .i64 sy) (df t.rws) 0 = some none := by rw [mI, h1]; rfl
 have f2 := cf row t.beg 0
 have hr := lM (gl := gl) row (by omega)
 rw [hr2] at hr
 have hne : 0 < row.length := sN row hr2
 have h55 := hw4 (row.length - 1) (by omega)
 rw [show row.length - 1 + 1 = row.length by omega, List.take_length] at h55
 have f5 : gU (.str row) (bw t.sym) 0 = some none := by rw [cf, h55]; rfl
 unfold Hf jg
 cases h4 : bQ row t.beg 0 with
 | none =>
  rw [h4] at f2
  refine ACalls.enter Tryz.func172 rfl Tryz.ntmps172 (by kernel_rfl) rfl ?_; simp only [au, nm, Nat.reduceAdd]
  repeat (first | (apply aa.st; rfl) | ((first | apply aa.q true | apply aa.qq true | apply aa.sq true); rfl; rfl; rfl; rfl; first | exact True.intro | omega | (simp only [tn, Int.reduceToNat]; omega)) | (apply aa.bD (hr); (iterate 7 rfl)) | (apply aa.cA; rfl; rfl; rfl; decide +kernel) | (apply aa.aY; rfl; rfl; decide +kernel) | (apply aa.af; rfl; first | omega | rfl) | (apply aa.ae; rfl; omega) | (apply aa.ak; rfl) | (apply aa.box; (iterate 6 rfl); simp only [nm, nz, Nat.reduceAdd]) | (apply aa.store; (iterate 9 rfl); exact Nat.le_of_ble_eq_true rfl; simp only [nm, nz, Nat.reduceAdd]) | (apply aa.aT; rfl; rfl) | ((first | apply aa.cV | apply aa.cT); (iterate 13 rfl); kernel_rfl; exact f1; rfl) | ((first | apply aa.cV | apply aa.cT); (iterate 13 rfl); kernel_rfl; exact f2; rfl))
  refine aa.weak (env' := [(41, I 0), (40, I row.length), (3, .ptr 4 0), (0, .ptr 0 0)]) ⟨rfl, rfl, rfl, rfl, trivial⟩ ?_
  refine aa.loop (fun m env H => ∃ k : Nat, m = row.length - k ∧ k ≤ row.length ∧ (∀ n, n < k → bQ (row.take (n + 1)) t.sym 0 = none) ∧ env = [(41, I (k : Int)), (40, I row.length), (3, .ptr 4 0), (0, .ptr 0 0)] ∧ H = [.cells [.d .aU, .mp 1, .mp 2, .mp 3, I t.lng], .map (bw t.sym), .map (df t.rws), .map (bw t.beg), .cells [S row, I sy]]) row.length
   ⟨0, rfl, by omega, fun n hn => absurd hn (by omega), rfl, rfl⟩ ?_
  rintro m env H ⟨k, rfl, hk, hw, rfl, rfl⟩
  have e1 := tk1 row k
  have f3 := cf (row.take ((k : Int) + 1).toNat) t.sym 0
  rw [e1] at f3
  rcases Nat.lt_or_ge k row.length with hlt | hge
  ·have h6 := hw4 k hlt
   rw [h6] at f3
   rw [← e1] at f3
   repeat' (first | (apply aa.st; rfl) | ((first | apply aa.q true | apply aa.qq true | apply aa.sq true); rfl; rfl; rfl; rfl; first | exact True.intro | omega | (simp only [tn, Int.reduceToNat]; omega)) | (apply aa.cA; rfl; rfl; rfl; decide +kernel) | (apply aa.aY; rfl; rfl; decide +kernel) | (apply aa.af; rfl; first | omega | rfl) | (apply aa.ae; rfl; omega) | (apply aa.ak; rfl) | (apply aa.box; (iterate 6 rfl); simp only [nm, nz, Nat.reduceAdd]) | (apply aa.store; (iterate 9 rfl); exact Nat.le_of_ble_eq_true rfl; simp only [nm, nz, Nat.reduceAdd]) | (apply aa.aT; rfl; rfl) | ((first | apply aa.cV | apply aa.cT); (iterate 13 rfl); kernel_rfl; exact f3; rfl) | intro _ | (apply aa.aP; rfl; rfl))
   exact aa.round [(41, I ((k + 1 : Nat) : Int)), (40, I row.length), (3, .ptr 4 0), (0, .ptr 0 0)] (row.length - (k + 1)) (by omega) ⟨rfl, rfl, rfl, rfl, trivial⟩ ⟨k + 1, rfl, hlt, fun n _ => hw4 n (by omega), rfl, rfl⟩
  ·obtain rfl : k = row.length := by omega
   repeat' (first | (apply aa.st; rfl) | ((first | apply aa.q true | apply aa.qq true | apply aa.sq true); rfl; rfl; rfl; rfl; first | exact True.intro | omega | (simp only [tn, Int.reduceToNat]; omega)) | (apply aa.cA; rfl; rfl; rfl; decide +kernel) | (apply aa.aY; rfl; rfl; decide +kernel) | (apply aa.af; rfl; first | omega | rfl) | (apply aa.ae; rfl; omega) | (apply aa.ak; rfl) | (apply aa.box; (iterate 6 rfl); simp only [nm, nz, Nat.reduceAdd]) | (apply aa.store; (iterate 9 rfl); exact Nat.le_of_ble_eq_true rfl; simp only [nm, nz, Nat.reduceAdd]) | (apply aa.aT; rfl; rfl) | intro _ | (apply aa.aP; rfl; rfl))
   refine aa.weak (env' := [(62, I 0), (61, I row.length), (3, .ptr 4 0), (0, .ptr 0 0)]) ⟨rfl, rfl, rfl, rfl, trivial⟩ ?_
   refine aa.loop (fun m env H => ∃ k : Nat, m = row.length - k ∧ k ≤ row.length ∧ env = [(62, I (k : Int)), (61, I row.length), (3, .ptr 4 0), (0, .ptr 0 0)] ∧ H = [.cells [.d .aU, .mp 1, .mp 2, .mp 3, I t.lng], .map (bw t.sym), .map (df t.rws), .map (bw (bH row k t.beg)), .cells [S row, I sy]]) row.length
    ⟨0, rfl, by omega, rfl, by rw [qp]⟩ ?_
   rintro m env H ⟨k, rfl, hk, rfl, rfl⟩
   have e1 := tk1 row k
   have f4 := cf (row.take ((k : Int) + 1).toNat) (bH row k t.beg) 0
   rw [e1] at f4
   have hbd := jk row t.beg 1000000 hN k (row.take (k + 1))
   rcases Nat.lt_or_ge k row.length with hlt | hge
   ·cases h7 : bQ (row.take (k + 1)) (bH row k t.beg) 0 with
    | none =>
     rw [h7] at f4
     rw [← e1] at f4
     have hput : mZ (bw (bH row k t.beg)) (.str (row.take ((k : Int) + 1).toNat)) (.int .i64 (0 + 1)) none = bw (bH row (k + 1) t.beg) := by
      have := iA (bH row k t.beg) (row.take (k + 1)) (0 + 1)
      rw [h7] at this
      rw [e1, fw, j3 h7]
      exact this
     repeat' (first | (apply aa.st; rfl) | ((first | apply aa.q true | apply aa.qq true | apply aa.sq true); rfl; rfl; rfl; rfl; first | exact True.intro | omega | (simp only [tn, Int.reduceToNat]; omega)) | (apply aa.cA; rfl; rfl; rfl; decide +kernel) | (apply aa.aY; rfl; rfl; decide +kernel) | (apply aa.af; rfl; first | omega | rfl) | (apply aa.ae; rfl; omega) | (apply aa.ak; rfl) | (apply aa.box; (iterate 6 rfl); simp only [nm, nz, Nat.reduceAdd]) | (apply aa.store; (iterate 9 rfl); exact Nat.le_of_ble_eq_true rfl; simp only [nm, nz, Nat.reduceAdd]) | (apply aa.aT; rfl; rfl) | ((first | apply aa.cV | apply aa.cT); (iterate 13 rfl); kernel_rfl; exact f4; rfl) | (apply aa.mapUpdate; (iterate 11 rfl); exact f4; simp only [List.set_cons_succ, List.set_cons_zero]) | intro _ | (apply aa.aP; rfl; rfl))
     exact aa.round [(62, I ((k + 1 : Nat) : Int)), (61, I row.length), (3, .ptr 4 0), (0, .ptr 0 0)] (row.length - (k + 1)) (by omega) ⟨rfl, rfl, rfl, rfl, trivial⟩ ⟨k + 1, rfl, hlt, rfl, congrArg (fun x => [aF.cells [.d .aU, .mp 1, .mp 2, .mp 3, I t.lng], aF.map (bw t.sym), aF.map (df t.rws), aF.map (x), aF.cells [S row, I sy]]) hput⟩
    | some jv =>
     obtain ⟨j, v⟩ := jv
     rw [dS h7] at hbd
     rw [h7] at f4
     rw [← e1] at f4
     have hput : mZ (bw (bH row k t.beg)) (.str (row.take ((k : Int) + 1).toNat)) (.int .i64 (v + 1)) (some (j, .int .i64 v)) = bw (bH row (k + 1) t.beg) := by
      have := iA (bH row k t.beg) (row.take (k + 1)) (v + 1)
      rw [h7] at this
      rw [e1, fw, dS h7]
      exact this
     repeat' (first | (apply aa.st; rfl) | ((first | apply aa.q true | apply aa.qq true | apply aa.sq true); rfl; rfl; rfl; rfl; first | exact True.intro | omega | (simp only [tn, Int.reduceToNat]; omega)) | (apply aa.cA; rfl; rfl; rfl; decide +kernel) | (apply aa.aY; rfl; rfl; decide +kernel) | (apply aa.af; rfl; first | omega | rfl) | (apply aa.ae; rfl; omega) | (apply aa.ak; rfl) | (apply aa.box; (iterate 6 rfl); simp only [nm, nz, Nat.reduceAdd]) | (apply aa.store; (iterate 9 rfl); exact Nat.le_of_ble_eq_true rfl; simp only [nm, nz, Nat.reduceAdd]) | (apply aa.aT; rfl; rfl) | ((first | apply aa.cV | apply aa.cT); (iterate 13 rfl); kernel_rfl; exact f4; rfl) | (apply aa.mapUpdate; (iterate 11 rfl); exact f4; simp only [List.set_cons_succ, List.set_cons_zero]) | intro _ | (apply aa.aP; rfl; rfl))
     exact aa.round [(62, I ((k + 1 : Nat) : Int)), (61, I row.length), (3, .ptr 4 0), (0, .ptr 0 0)] (row.length - (k + 1)) (by omega) ⟨rfl, rfl, rfl, rfl, trivial⟩ ⟨k + 1, rfl, hlt, rfl, congrArg (fun x => [aF.cells [.d .aU, .mp 1, .mp 2, .mp 3, I t.lng], aF.map (bw t.sym), aF.map (df t.rws), aF.map (x), aF.cells [S row, I sy]]) hput⟩
   ·obtain rfl : k = row.length := by omega
    repeat (first | (apply aa.st; rfl) | ((first | apply aa.q true | apply aa.qq true | apply aa.sq true); rfl; rfl; rfl; rfl; first | exact True.intro | omega | (simp only [tn, Int.reduceToNat]; omega)) | (apply aa.cA; rfl; rfl; rfl; decide +kernel) | (apply aa.aY; rfl; rfl; decide +kernel) | (apply aa.af; rfl; first | omega | rfl) | (apply aa.ae; rfl; omega) | (apply aa.ak; rfl) | (apply aa.box; (iterate 6 rfl); simp only [nm, nz, Nat.reduceAdd]) | (apply aa.store; (iterate 9 rfl); exact Nat.le_of_ble_eq_true rfl; simp only [nm, nz, Nat.reduceAdd]) | (apply aa.aT; rfl; rfl))
    refine aa.out rfl ⟨_, rfl, ?_⟩
    repeat (first | (apply aa.st; rfl) | ((first | apply aa.q true | apply aa.qq true | apply aa.sq true); rfl; rfl; rfl; rfl; first | exact True.intro | omega | (simp only [tn, Int.reduceToNat]; omega)) | (apply aa.cA; rfl; rfl; rfl; decide +kernel) | (apply aa.aY; rfl; rfl; decide +kernel) | (apply aa.af; rfl; first | omega | rfl) | (apply aa.ae; rfl; omega) | (apply aa.ak; rfl) | (apply aa.box; (iterate 6 rfl); simp only [nm, nz, Nat.reduceAdd]) | (apply aa.store; (iterate 9 rfl); exact Nat.le_of_ble_eq_true rfl; simp only [nm, nz, Nat.reduceAdd]) | (apply aa.aT; rfl; rfl))
    apply aa.zB [1, 2]
    exact fun _ _ _ h => h
    rfl
    rfl
    decide +kernel
    rfl
    (repeat (first | exact bM.nil _ | (apply bM.cons true; rfl; rfl; rfl; rfl; rfl; first | exact True.intro | omega)))
    (apply dm.cons; (apply dH.mapEntry; rfl; rfl; rfl; rfl; rfl; rfl; rfl; rfl; rfl; rfl; rfl; kernel_rfl; rfl; rfl; exact f5; rfl))
    (apply dm.cons; (apply dH.q true; rfl; rfl; rfl; rfl; exact True.intro))
    (apply dm.cons; (apply dH.entryStore; rfl; rfl; rfl; rfl; rfl; rfl; rfl; (simp only [List.length_append, List.length_cons, List.length_nil, kF]; omega); rfl))
    (apply dm.cons; (apply dH.mapEntry; rfl; rfl; rfl; rfl; rfl; rfl; rfl; rfl; rfl; rfl; rfl; kernel_rfl; rfl; rfl; exact f1; rfl))
    (apply dm.cons; (apply dH.q true; rfl; rfl; rfl; rfl; exact True.intro))
    (apply dm.cons; (apply dH.entryStore; rfl; rfl; rfl; rfl; rfl; rfl; rfl; (simp only [List.length_append, List.length_cons, List.length_nil, kF]; omega); rfl))
    exact dm.nil _ _
    exact Nat.le_refl _
    simp only [List.set_cons_succ, List.set_cons_zero, kF, ni]
    repeat (first | (apply aa.st; rfl) | ((first | apply aa.q true | apply aa.qq true | apply aa.sq true); rfl; rfl; rfl; rfl; first | exact True.intro | omega | (simp only [tn, Int.reduceToNat]; omega)) | (apply aa.cA; rfl; rfl; rfl; decide +kernel) | (apply aa.aY; rfl; rfl; decide +kernel) | (apply aa.af; rfl; first | omega | rfl) | (apply aa.ae; rfl; omega) | (apply aa.ak; rfl) | (apply aa.box; (iterate 6 rfl); simp only [nm, nz, Nat.reduceAdd]) | (apply aa.store; (iterate 9 rfl); exact Nat.le_of_ble_eq_true rfl; simp only [nm, nz, Nat.reduceAdd]) | (apply aa.aT; rfl; rfl))
    apply aa.zC
    exact fun _ _ _ h => h
    rfl
    rfl
    decide +kernel
    (repeat (first | exact bM.nil _ | (apply bM.cons true; rfl; rfl; rfl; rfl; rfl; first | exact True.intro | omega)))
    (apply StepB.buildSlice; rfl; rfl; rfl; rfl; rfl; rfl; rfl; rfl; rfl; rfl; rfl)
    exact Nat.le_refl _
    repeat' (first | (apply aa.st; rfl) | (apply aa.zM; (iterate 10 rfl); (first | (simp only [List.length_append, List.length_map, List.length_cons, List.length_nil]; omega) | (simp only [cF, List.length_cons, List.length_nil]; omega)); simp only [List.nil_append, List.cons_append, List.length_nil, List.length_cons, Nat.reduceAdd]) | ((first | apply aa.q true | apply aa.qq true | apply aa.sq true); rfl; rfl; rfl; rfl; first | exact True.intro | omega | (simp only [tn, Int.reduceToNat]; omega) | (simp only [cF, List.length_cons, List.length_nil]; omega)) | (apply aa.cA; rfl; rfl; rfl; decide +kernel) | (apply aa.aY; rfl; rfl; decide +kernel) | (apply aa.af; rfl; first | omega | rfl) | (apply aa.ae; rfl; omega) | (apply aa.ak; rfl) | (apply aa.box; (iterate 6 rfl); simp only [nm, nz, Nat.reduceAdd]) | (apply aa.store; (iterate 9 rfl); exact Nat.le_of_ble_eq_true rfl; simp only [nm, nz, Nat.reduceAdd]) | (apply aa.aT; rfl; rfl) | intro _ | (apply aa.aP; rfl; rfl))
    (apply aa.vI 6; rfl; rfl; rfl; rfl; rfl)
    refine ⟨rfl, ?_⟩
    have s1 : fJ (bw t.sym ++ [(.str row, .int .i64 0)]) ((bw t.sym).length : Int).toNat (.int .i64 0) = bw (dV t row sy).sym := by
     rw [eY _ _ _ _ _ rfl]; unfold dV; rw [lL, hc]; rfl
    have s2 : fJ (df t.rws ++ [(.int .i64 sy, .int .i64 0)]) ((df t.rws).length : Int).toNat (.int .i64 0) = df (dV t row sy).rws := by
     rw [eY _ _ _ _ _ rfl]; unfold dV; rw [lW, hc]; rfl
    have s3 : aO (dV t row sy).codes = [jg (row, sy)] := by unfold dV; rw [hc]; exact rN _
    unfold ER
    rw [← s1, ← s2, s3]
    rfl
 | some jv =>
  obtain ⟨j, v⟩ := jv
  rw [h4] at f2
  have h5 := dS h4
  rw [h5] at h3
  refine ACalls.enter Tryz.func172 rfl Tryz.ntmps172 (by kernel_rfl) rfl ?_; simp only [au, nm, Nat.reduceAdd]
  repeat (first | (apply aa.st; rfl) | ((first | apply aa.q true | apply aa.qq true | apply aa.sq true); rfl; rfl; rfl; rfl; first | exact True.intro | omega | (simp only [tn, Int.reduceToNat]; omega)) | (apply aa.bD (hr); (iterate 7 rfl)) | (apply aa.cA; rfl; rfl; rfl; decide +kernel) | (apply aa.aY; rfl; rfl; decide +kernel) | (apply aa.af; rfl; first | omega | rfl) | (apply aa.ae; rfl; omega) | (apply aa.ak; rfl) | (apply aa.box; (iterate 6 rfl); simp only [nm, nz, Nat.reduceAdd]) | (apply aa.store; (iterate 9 rfl); exact Nat.le_of_ble_eq_true rfl; simp only [nm, nz, Nat.reduceAdd]) | (apply aa.aT; rfl; rfl) | ((first | apply aa.cV | apply aa.cT); (iterate 13 rfl); kernel_rfl; exact f1; rfl) | ((first | apply aa.cV | apply aa.cT); (iterate 13 rfl); kernel_rfl; exact f2; rfl))
  refine aa.weak (env' := [(41, I 0), (40, I row.length), (3, .ptr 4 0), (0, .ptr 0 0)]) ⟨rfl, rfl, rfl, rfl, trivial⟩ ?_
  refine aa.loop (fun m env H => ∃ k : Nat, m = row.length - k ∧ k ≤ row.length ∧ (∀ n, n < k → bQ (row.take (n + 1)) t.sym 0 = none) ∧ env = [(41, I (k : Int)), (40, I row.length), (3, .ptr 4 0), (0, .ptr 0 0)] ∧ H = [.cells [.d .aU, .mp 1, .mp 2, .mp 3, I t.lng], .map (bw t.sym), .map (df t.rws), .map (bw t.beg), .cells [S row, I sy]]) row.length
   ⟨0, rfl, by omega, fun n hn => absurd hn (by omega), rfl, rfl⟩ ?_
  rintro m env H ⟨k, rfl, hk, hw, rfl, rfl⟩
  have e1 := tk1 row k
  have f3 := cf (row.take ((k : Int) + 1).toNat) t.sym 0
  rw [e1] at f3
  rcases Nat.lt_or_ge k row.length with hlt | hge
  ·have h6 := hw4 k hlt
   rw [h6] at f3
   rw [← e1] at f3
   repeat' (first | (apply aa.st; rfl) | ((first | apply aa.q true | apply aa.qq true | apply aa.sq true); rfl; rfl; rfl; rfl; first | exact True.intro | omega | (simp only [tn, Int.reduceToNat]; omega)) | (apply aa.cA; rfl; rfl; rfl; decide +kernel) | (apply aa.aY; rfl; rfl; decide +kernel) | (apply aa.af; rfl; first | omega | rfl) | (apply aa.ae; rfl; omega) | (apply aa.ak; rfl) | (apply aa.box; (iterate 6 rfl); simp only [nm, nz, Nat.reduceAdd]) | (apply aa.store; (iterate 9 rfl); exact Nat.le_of_ble_eq_true rfl; simp only [nm, nz, Nat.reduceAdd]) | (apply aa.aT; rfl; rfl) | ((first | apply aa.cV | apply aa.cT); (iterate 13 rfl); kernel_rfl; exact f3; rfl) | intro _ | (apply aa.aP; rfl; rfl))
   exact aa.round [(41, I ((k + 1 : Nat) : Int)), (40, I row.length), (3, .ptr 4 0), (0, .ptr 0 0)] (row.length - (k + 1)) (by omega) ⟨rfl, rfl, rfl, rfl, trivial⟩ ⟨k + 1, rfl, hlt, fun n _ => hw4 n (by omega), rfl, rfl⟩
  ·obtain rfl : k = row.length := by omega
   repeat' (first | (apply aa.st; rfl) | ((first | apply aa.q true | apply aa.qq true | apply aa.sq true); rfl; rfl; rfl; rfl; first | exact True.intro | omega | (simp only [tn, Int.reduceToNat]; omega)) | (apply aa.cA; rfl; rfl; rfl; decide +kernel) | (apply aa.aY; rfl; rfl; decide +kernel) | (apply aa.af; rfl; first | omega | rfl) | (apply aa.ae; rfl; omega) | (apply aa.ak; rfl) | (apply aa.box; (iterate 6 rfl); simp only [nm, nz, Nat.reduceAdd]) | (apply aa.store; (iterate 9 rfl); exact Nat.le_of_ble_eq_true rfl; simp only [nm, nz, Nat.reduceAdd]) | (apply aa.aT; rfl; rfl) | intro _ | (apply aa.aP; rfl; rfl))
   refine aa.weak (env' := [(62, I 0), (61, I row.length), (3, .ptr 4 0), (0, .ptr 0 0)]) ⟨rfl, rfl, rfl, rfl, trivial⟩ ?_
   refine aa.loop (fun m env H => ∃ k : Nat, m = row.length - k ∧ k ≤ row.length ∧ env = [(62, I (k : Int)), (61, I row.length), (3, .ptr 4 0), (0, .ptr 0 0)] ∧ H = [.cells [.d .aU, .mp 1, .mp 2, .mp 3, I t.lng], .map (bw t.sym), .map (df t.rws), .map (bw (bH row k t.beg)), .cells [S row, I sy]]) row.length
    ⟨0, rfl, by omega, rfl, by rw [qp]⟩ ?_
   rintro m env H ⟨k, rfl, hk, rfl, rfl⟩
   have e1 := tk1 row k
   have f4 := cf (row.take ((k : Int) + 1).toNat) (bH row k t.beg) 0
   rw [e1] at f4
   have hbd := jk row t.beg 1000000 hN k (row.take (k + 1))
   rcases Nat.lt_or_ge k row.length with hlt | hge
   ·cases h7 : bQ (row.take (k + 1)) (bH row k t.beg) 0 with
    | none =>
     rw [h7] at f4
     rw [← e1] at f4
     have hput : mZ (bw (bH row k t.beg)) (.str (row.take ((k : Int) + 1).toNat)) (.int .i64 (0 + 1)) none = bw (bH row (k + 1) t.beg) := by
      have := iA (bH row k t.beg) (row.take (k + 1)) (0 + 1)
      rw [h7] at this
      rw [e1, fw, j3 h7]
      exact this
     repeat' (first | (apply aa.st; rfl) | ((first | apply aa.q true | apply aa.qq true | apply aa.sq true); rfl; rfl; rfl; rfl; first | exact True.intro | omega | (simp only [tn, Int.reduceToNat]; omega)) | (apply aa.cA; rfl; rfl; rfl; decide +kernel) | (apply aa.aY; rfl; rfl; decide +kernel) | (apply aa.af; rfl; first | omega | rfl) | (apply aa.ae; rfl; omega) | (apply aa.ak; rfl) | (apply aa.box; (iterate 6 rfl); simp only [nm, nz, Nat.reduceAdd]) | (apply aa.store; (iterate 9 rfl); exact Nat.le_of_ble_eq_true rfl; simp only [nm, nz, Nat.reduceAdd]) | (apply aa.aT; rfl; rfl) | ((first | apply aa.cV | apply aa.cT); (iterate 13 rfl); kernel_rfl; exact f4; rfl) | (apply aa.mapUpdate; (iterate 11 rfl); exact f4; simp only [List.set_cons_succ, List.set_cons_zero]) | intro _ | (apply aa.aP; rfl; rfl))
     exact aa.round [(62, I ((k + 1 : Nat) : Int)), (61, I row.length), (3, .ptr 4 0), (0, .ptr 0 0)] (row.length - (k + 1)) (by omega) ⟨rfl, rfl, rfl, rfl, trivial⟩ ⟨k + 1, rfl, hlt, rfl, congrArg (fun x => [aF.cells [.d .aU, .mp 1, .mp 2, .mp 3, I t.lng], aF.map (bw t.sym), aF.map (df t.rws), aF.map (x), aF.cells [S row, I sy]]) hput⟩
    | some jv =>
     obtain ⟨j, v⟩ := jv
     rw [dS h7] at hbd
     rw [h7] at f4
     rw [← e1] at f4
     have hput : mZ (bw (bH row k t.beg)) (.str (row.take ((k : Int) + 1).toNat)) (.int .i64 (v + 1)) (some (j, .int .i64 v)) = bw (bH row (k + 1) t.beg) := by
      have := iA (bH row k t.beg) (row.take (k + 1)) (v + 1)
      rw [h7] at this
      rw [e1, fw, dS h7]
      exact this
     repeat' (first | (apply aa.st; rfl) | ((first | apply aa.q true | apply aa.qq true | apply aa.sq true); rfl; rfl; rfl; rfl; first | exact True.intro | omega | (simp only [tn, Int.reduceToNat]; omega)) | (apply aa.cA; rfl; rfl; rfl; decide +kernel) | (apply aa.aY; rfl; rfl; decide +kernel) | (apply aa.af; rfl; first | omega | rfl) | (apply aa.ae; rfl; omega) | (apply aa.ak; rfl) | (apply aa.box; (iterate 6 rfl); simp only [nm, nz, Nat.reduceAdd]) | (apply aa.store; (iterate 9 rfl); exact Nat.le_of_ble_eq_true rfl; simp only [nm, nz, Nat.reduceAdd]) | (apply aa.aT; rfl; rfl) | ((first | apply aa.cV | apply aa.cT); (iterate 13 rfl); kernel_rfl; exact f4; rfl) | (apply aa.mapUpdate; (iterate 11 rfl); exact f4; simp only [List.set_cons_succ, List.set_cons_zero]) | intro _ | (apply aa.aP; rfl; rfl))
     exact aa.round [(62, I ((k + 1 : Nat) : Int)), (61, I row.length), (3, .ptr 4 0), (0, .ptr 0 0)] (row.length - (k + 1)) (by omega) ⟨rfl, rfl, rfl, rfl, trivial⟩ ⟨k + 1, rfl, hlt, rfl, congrArg (fun x => [aF.cells [.d .aU, .mp 1, .mp 2, .mp 3, I t.lng], aF.map (bw t.sym), aF.map (df t.rws), aF.map (x), aF.cells [S row, I sy]]) hput⟩
   ·obtain rfl : k = row.length := by omega
    repeat (first | (apply aa.st; rfl) | ((first | apply aa.q true | apply aa.qq true | apply aa.sq true); rfl; rfl; rfl; rfl; first | exact True.intro | omega | (simp only [tn, Int.reduceToNat]; omega)) | (apply aa.cA; rfl; rfl; rfl; decide +kernel) | (apply aa.aY; rfl; rfl; decide +kernel) | (apply aa.af; rfl; first | omega | rfl) | (apply aa.ae; rfl; omega) | (apply aa.ak; rfl) | (apply aa.box; (iterate 6 rfl); simp only [nm, nz, Nat.reduceAdd]) | (apply aa.store; (iterate 9 rfl); exact Nat.le_of_ble_eq_true rfl; simp only [nm, nz, Nat.reduceAdd]) | (apply aa.aT; rfl; rfl))
    refine aa.out rfl ⟨_, rfl, ?_⟩
    repeat (first | (apply aa.st; rfl) | ((first | apply aa.q true | apply aa.qq true | apply aa.sq true); rfl; rfl; rfl; rfl; first | exact True.intro | omega | (simp only [tn, Int.reduceToNat]; omega)) | (apply aa.cA; rfl; rfl; rfl; decide +kernel) | (apply aa.aY; rfl; rfl; decide +kernel) | (apply aa.af; rfl; first | omega | rfl) | (apply aa.ae; rfl; omega) | (apply aa.ak; rfl) | (apply aa.box; (iterate 6 rfl); simp only [nm, nz, Nat.reduceAdd]) | (apply aa.store; (iterate 9 rfl); exact Nat.le_of_ble_eq_true rfl; simp only [nm, nz, Nat.reduceAdd]) | (apply aa.aT; rfl; rfl))
    apply aa.zB [1, 2]
    exact fun _ _ _ h => h
    rfl
    rfl
    decide +kernel
    rfl
    (repeat (first | exact bM.nil _ | (apply bM.cons true; rfl; rfl; rfl; rfl; rfl; first | exact True.intro | omega)))
    (apply dm.cons; (apply dH.mapEntry; rfl; rfl; rfl; rfl; rfl; rfl; rfl; rfl; rfl; rfl; rfl; kernel_rfl; rfl; rfl; exact f5; rfl))
    (apply dm.cons; (apply dH.q true; rfl; rfl; rfl; rfl; exact True.intro))
    (apply dm.cons; (apply dH.entryStore; rfl; rfl; rfl; rfl; rfl; rfl; rfl; (simp only [List.length_append, List.length_cons, List.length_nil, kF]; omega); rfl))
    (apply dm.cons; (apply dH.mapEntry; rfl; rfl; rfl; rfl; rfl; rfl; rfl; rfl; rfl; rfl; rfl; kernel_rfl; rfl; rfl; exact f1; rfl))
    (apply dm.cons; (apply dH.q true; rfl; rfl; rfl; rfl; exact True.intro))
    (apply dm.cons; (apply dH.entryStore; rfl; rfl; rfl; rfl; rfl; rfl; rfl; (simp only [List.length_append, List.length_cons, List.length_nil, kF]; omega); rfl))
    exact dm.nil _ _
    exact Nat.le_refl _
    simp only [List.set_cons_succ, List.set_cons_zero, kF, ni]
    repeat (first | (apply aa.st; rfl) | ((first | apply aa.q true | apply aa.qq true | apply aa.sq true); rfl; rfl; rfl; rfl; first | exact True.intro | omega | (simp only [tn, Int.reduceToNat]; omega)) | (apply aa.cA; rfl; rfl; rfl; decide +kernel) | (apply aa.aY; rfl; rfl; decide +kernel) | (apply aa.af; rfl; first | omega | rfl) | (apply aa.ae; rfl; omega) | (apply aa.ak; rfl) | (apply aa.box; (iterate 6 rfl); simp only [nm, nz, Nat.reduceAdd]) | (apply aa.store; (iterate 9 rfl); exact Nat.le_of_ble_eq_true rfl; simp only [nm, nz, Nat.reduceAdd]) | (apply aa.aT; rfl; rfl))
    apply aa.zC
    exact fun _ _ _ h => h
    rfl
    rfl
    decide +kernel
    (repeat (first | exact bM.nil _ | (apply bM.cons true; rfl; rfl; rfl; rfl; rfl; first | exact True.intro | omega)))
    (apply StepB.buildSlice; rfl; rfl; rfl; rfl; rfl; rfl; rfl; rfl; rfl; rfl; rfl)
    exact Nat.le_refl _
    repeat' (first | (apply aa.st; rfl) | (apply aa.zM; (iterate 10 rfl); (first | (simp only [List.length_append, List.length_map, List.length_cons, List.length_nil]; omega) | (simp only [cF, List.length_cons, List.length_nil]; omega)); simp only [List.nil_append, List.cons_append, List.length_nil, List.length_cons, Nat.reduceAdd]) | ((first | apply aa.q true | apply aa.qq true | apply aa.sq true); rfl; rfl; rfl; rfl; first | exact True.intro | omega | (simp only [tn, Int.reduceToNat]; omega) | (simp only [cF, List.length_cons, List.length_nil]; omega)) | (apply aa.cA; rfl; rfl; rfl; decide +kernel) | (apply aa.aY; rfl; rfl; decide +kernel) | (apply aa.af; rfl; first | omega | rfl) | (apply aa.ae; rfl; omega) | (apply aa.ak; rfl) | (apply aa.box; (iterate 6 rfl); simp only [nm, nz, Nat.reduceAdd]) | (apply aa.store; (iterate 9 rfl); exact Nat.le_of_ble_eq_true rfl; simp only [nm, nz, Nat.reduceAdd]) | (apply aa.aT; rfl; rfl) | intro _ | (apply aa.aP; rfl; rfl))
    (apply aa.vI 6; rfl; rfl; rfl; rfl; rfl)
    refine ⟨rfl, ?_⟩
    have s1 : fJ (bw t.sym ++ [(.str row, .int .i64 0)]) ((bw t.sym).length : Int).toNat (.int .i64 0) = bw (dV t row sy).sym := by
     rw [eY _ _ _ _ _ rfl]; unfold dV; rw [lL, hc]; rfl
    have s2 : fJ (df t.rws ++ [(.int .i64 sy, .int .i64 0)]) ((df t.rws).length : Int).toNat (.int .i64 0) = df (dV t row sy).rws := by
     rw [eY _ _ _ _ _ rfl]; unfold dV; rw [lW, hc]; rfl
    have s3 : aO (dV t row sy).codes = [jg (row, sy)] := by unfold dV; rw [hc]; exact rN _
    unfold ER
    rw [← s1, ← s2, s3]
    rfl
theorem Bh (t : Tb) (row : List UInt8) (sy : Int) (hrow : row.length ≤ 1000000) (hb : sG t row sy = true) (hN : ∀ w, 0 ≤ fP w t.beg ∧ fP w t.beg ≤ 1000000) (hl : -1000000 ≤ t.lng ∧ t.lng ≤ 1000000) (hc : t.codes.length ≤ 1000000) :
  ACalls (cxg gl) 172 [.ptr 0 0, .d (jg (row, sy))] (ES t) (fun r H => r = B true ∧ H = ES (dV t row sy)) := by
 obtain ⟨h1, hr2, h3, hw4⟩ := (rY t row sy).1 hb
 have f1 : gU (.int .i64 sy) (df t.rws) 0 = some none := by rw [mI, h1]; rfl
 have f2 := cf row t.beg 0
 have hr := lM (gl := gl) row (by omega)
 rw [hr2] at hr
 have hne : 0 < row.length := sN row hr2
 have h55 := hw4 (row.length - 1) (by omega)
 rw [show row.length - 1 + 1 = row.length by omega, List.take_length] at h55
 have f5 : gU (.str row) (bw t.sym) 0 = some none := by rw [cf, h55]; rfl
 unfold ES jg
 cases h4 : bQ row t.beg 0 with
 | none =>
  rw [h4] at f2
  refine ACalls.enter Tryz.func172 rfl Tryz.ntmps172 (by kernel_rfl) rfl ?_; simp only [au, nm, Nat.reduceAdd]
  repeat (first | (apply aa.st; rfl) | ((first | apply aa.q true | apply aa.qq true | apply aa.sq true); rfl; rfl; rfl; rfl; first | exact True.intro | omega | (simp only [tn, Int.reduceToNat]; omega)) | (apply aa.bD (hr); (iterate 7 rfl)) | (apply aa.cA; rfl; rfl; rfl; decide +kernel) | (apply aa.aY; rfl; rfl; decide +kernel) | (apply aa.af; rfl; first | omega | rfl) | (apply aa.ae; rfl; omega) | (apply aa.ak; rfl) | (apply aa.box; (iterate 6 rfl); simp only [nm, nz, Nat.reduceAdd]) | (apply aa.store; (iterate 9 rfl); exact Nat.le_of_ble_eq_true rfl; simp only [nm, nz, Nat.reduceAdd]) | (apply aa.aT; rfl; rfl) | ((first | apply aa.cV | apply aa.cT); (iterate 13 rfl); kernel_rfl; exact f1; rfl) | ((first | apply aa.cV | apply aa.cT); (iterate 13 rfl); kernel_rfl; exact f2; rfl))
  refine aa.weak (env' := [(41, I 0), (40, I row.length), (3, .ptr 5 0), (0, .ptr 0 0)]) ⟨rfl, rfl, rfl, rfl, trivial⟩ ?_
  refine aa.loop (fun m env H => ∃ k : Nat, m = row.length - k ∧ k ≤ row.length ∧ (∀ n, n < k → bQ (row.take (n + 1)) t.sym 0 = none) ∧ env = [(41, I (k : Int)), (40, I row.length), (3, .ptr 5 0), (0, .ptr 0 0)] ∧ H = [.cells [.own 2 (aO t.codes) 4, .mp 1, .mp 2, .mp 3, I t.lng], .map (bw t.sym), .map (df t.rws), .map (bw t.beg), .front 199 2 (aO t.codes).length, .cells [S row, I sy]]) row.length
   ⟨0, rfl, by omega, fun n hn => absurd hn (by omega), rfl, rfl⟩ ?_
  rintro m env H ⟨k, rfl, hk, hw, rfl, rfl⟩
  have e1 := tk1 row k
  have f3 := cf (row.take ((k : Int) + 1).toNat) t.sym 0
  rw [e1] at f3
  rcases Nat.lt_or_ge k row.length with hlt | hge
  ·have h6 := hw4 k hlt
   rw [h6] at f3
   rw [← e1] at f3
   repeat' (first | (apply aa.st; rfl) | ((first | apply aa.q true | apply aa.qq true | apply aa.sq true); rfl; rfl; rfl; rfl; first | exact True.intro | omega | (simp only [tn, Int.reduceToNat]; omega)) | (apply aa.cA; rfl; rfl; rfl; decide +kernel) | (apply aa.aY; rfl; rfl; decide +kernel) | (apply aa.af; rfl; first | omega | rfl) | (apply aa.ae; rfl; omega) | (apply aa.ak; rfl) | (apply aa.box; (iterate 6 rfl); simp only [nm, nz, Nat.reduceAdd]) | (apply aa.store; (iterate 9 rfl); exact Nat.le_of_ble_eq_true rfl; simp only [nm, nz, Nat.reduceAdd]) | (apply aa.aT; rfl; rfl) | ((first | apply aa.cV | apply aa.cT); (iterate 13 rfl); kernel_rfl; exact f3; rfl) | intro _ | (apply aa.aC; rfl; rfl; rfl; rfl) | (apply aa.aP; rfl; rfl))
   exact aa.round [(41, I ((k + 1 : Nat) : Int)), (40, I row.length), (3, .ptr 5 0), (0, .ptr 0 0)] (row.length - (k + 1)) (by omega) ⟨rfl, rfl, rfl, rfl, trivial⟩ ⟨k + 1, rfl, hlt, fun n _ => hw4 n (by omega), rfl, rfl⟩
  ·obtain rfl : k = row.length := by omega
   repeat' (first | (apply aa.st; rfl) | ((first | apply aa.q true | apply aa.qq true | apply aa.sq true); rfl; rfl; rfl; rfl; first | exact True.intro | omega | (simp only [tn, Int.reduceToNat]; omega)) | (apply aa.cA; rfl; rfl; rfl; decide +kernel) | (apply aa.aY; rfl; rfl; decide +kernel) | (apply aa.af; rfl; first | omega | rfl) | (apply aa.ae; rfl; omega) | (apply aa.ak; rfl) | (apply aa.box; (iterate 6 rfl); simp only [nm, nz, Nat.reduceAdd]) | (apply aa.store; (iterate 9 rfl); exact Nat.le_of_ble_eq_true rfl; simp only [nm, nz, Nat.reduceAdd]) | (apply aa.aT; rfl; rfl) | intro _ | (apply aa.aC; rfl; rfl; rfl; rfl) | (apply aa.aP; rfl; rfl))
   refine aa.weak (env' := [(62, I 0), (61, I row.length), (3, .ptr 5 0), (0, .ptr 0 0)]) ⟨rfl, rfl, rfl, rfl, trivial⟩ ?_
   refine aa.loop (fun m env H => ∃ k : Nat, m = row.length - k ∧ k ≤ row.length ∧ env = [(62, I (k : Int)), (61, I row.length), (3, .ptr 5 0), (0, .ptr 0 0)] ∧ H = [.cells [.own 2 (aO t.codes) 4, .mp 1, .mp 2, .mp 3, I t.lng], .map (bw t.sym), .map (df t.rws), .map (bw (bH row k t.beg)), .front 199 2 (aO t.codes).length, .cells [S row, I sy]]) row.length
    ⟨0, rfl, by omega, rfl, by rw [qp]⟩ ?_
   rintro m env H ⟨k, rfl, hk, rfl, rfl⟩
   have e1 := tk1 row k
   have f4 := cf (row.take ((k : Int) + 1).toNat) (bH row k t.beg) 0
   rw [e1] at f4
   have hbd := jk row t.beg 1000000 hN k (row.take (k + 1))
   rcases Nat.lt_or_ge k row.length with hlt | hge
   ·cases h7 : bQ (row.take (k + 1)) (bH row k t.beg) 0 with
    | none =>
     rw [h7] at f4
     rw [← e1] at f4
     have hput : mZ (bw (bH row k t.beg)) (.str (row.take ((k : Int) + 1).toNat)) (.int .i64 (0 + 1)) none = bw (bH row (k + 1) t.beg) := by
      have := iA (bH row k t.beg) (row.take (k + 1)) (0 + 1)
      rw [h7] at this
      rw [e1, fw, j3 h7]
      exact this
     repeat' (first | (apply aa.st; rfl) | ((first | apply aa.q true | apply aa.qq true | apply aa.sq true); rfl; rfl; rfl; rfl; first | exact True.intro | omega | (simp only [tn, Int.reduceToNat]; omega)) | (apply aa.cA; rfl; rfl; rfl; decide +kernel) | (apply aa.aY; rfl; rfl; decide +kernel) | (apply aa.af; rfl; first | omega | rfl) | (apply aa.ae; rfl; omega) | (apply aa.ak; rfl) | (apply aa.box; (iterate 6 rfl); simp only [nm, nz, Nat.reduceAdd]) | (apply aa.store; (iterate 9 rfl); exact Nat.le_of_ble_eq_true rfl; simp only [nm, nz, Nat.reduceAdd]) | (apply aa.aT; rfl; rfl) | ((first | apply aa.cV | apply aa.cT); (iterate 13 rfl); kernel_rfl; exact f4; rfl) | (apply aa.mapUpdate; (iterate 11 rfl); exact f4; simp only [List.set_cons_succ, List.set_cons_zero]) | intro _ | (apply aa.aC; rfl; rfl; rfl; rfl) | (apply aa.aP; rfl; rfl))
     exact aa.round [(62, I ((k + 1 : Nat) : Int)), (61, I row.length), (3, .ptr 5 0), (0, .ptr 0 0)] (row.length - (k + 1)) (by omega) ⟨rfl, rfl, rfl, rfl, trivial⟩ ⟨k + 1, rfl, hlt, rfl, congrArg (fun x => [aF.cells [.own 2 (aO t.codes) 4, .mp 1, .mp 2, .mp 3, I t.lng], aF.map (bw t.sym), aF.map (df t.rws), aF.map (x), aF.front 199 2 (aO t.codes).length, aF.cells [S row, I sy]]) hput⟩
    | some jv =>
     obtain ⟨j, v⟩ := jv
     rw [dS h7] at hbd
     rw [h7] at f4
     rw [← e1] at f4
     have hput : mZ (bw (bH row k t.beg)) (.str (row.take ((k : Int) + 1).toNat)) (.int .i64 (v + 1)) (some (j, .int .i64 v)) = bw (bH row (k + 1) t.beg) := by
      have := iA (bH row k t.beg) (row.take (k + 1)) (v + 1)
      rw [h7] at this
      rw [e1, fw, dS h7]
      exact this
     repeat' (first | (apply aa.st; rfl) | ((first | apply aa.q true | apply aa.qq true | apply aa.sq true); rfl; rfl; rfl; rfl; first | exact True.intro | omega | (simp only [tn, Int.reduceToNat]; omega)) | (apply aa.cA; rfl; rfl; rfl; decide +kernel) | (apply aa.aY; rfl; rfl; decide +kernel) | (apply aa.af; rfl; first | omega | rfl) | (apply aa.ae; rfl; omega) | (apply aa.ak; rfl) | (apply aa.box; (iterate 6 rfl); simp only [nm, nz, Nat.reduceAdd]) | (apply aa.store; (iterate 9 rfl); exact Nat.le_of_ble_eq_true rfl; simp only [nm, nz, Nat.reduceAdd]) | (apply aa.aT; rfl; rfl) | ((first | apply aa.cV | apply aa.cT); (iterate 13 rfl); kernel_rfl; exact f4; rfl) | (apply aa.mapUpdate; (iterate 11 rfl); exact f4; simp only [List.set_cons_succ, List.set_cons_zero]) | intro _ | (apply aa.aC; rfl; rfl; rfl; rfl) | (apply aa.aP; rfl; rfl))
     exact aa.round [(62, I ((k + 1 : Nat) : Int)), (61, I row.length), (3, .ptr 5 0), (0, .ptr 0 0)] (row.length - (k + 1)) (by omega) ⟨rfl, rfl, rfl, rfl, trivial⟩ ⟨k + 1, rfl, hlt, rfl, congrArg (fun x => [aF.cells [.own 2 (aO t.codes) 4, .mp 1, .mp 2, .mp 3, I t.lng], aF.map (bw t.sym), aF.map (df t.rws), aF.map (x), aF.front 199 2 (aO t.codes).length, aF.cells [S row, I sy]]) hput⟩
   ·obtain rfl : k = row.length := by omega
    repeat (first | (apply aa.st; rfl) | ((first | apply aa.q true | apply aa.qq true | apply aa.sq true); rfl; rfl; rfl; rfl; first | exact True.intro | omega | (simp only [tn, Int.reduceToNat]; omega)) | (apply aa.cA; rfl; rfl; rfl; decide +kernel) | (apply aa.aY; rfl; rfl; decide +kernel) | (apply aa.af; rfl; first | omega | rfl) | (apply aa.ae; rfl; omega) | (apply aa.ak; rfl) | (apply aa.box; (iterate 6 rfl); simp only [nm, nz, Nat.reduceAdd]) | (apply aa.store; (iterate 9 rfl); exact Nat.le_of_ble_eq_true rfl; simp only [nm, nz, Nat.reduceAdd]) | (apply aa.aT; rfl; rfl))
    refine aa.out rfl ⟨_, rfl, ?_⟩
    repeat (first | (apply aa.st; rfl) | ((first | apply aa.q true | apply aa.qq true | apply aa.sq true); rfl; rfl; rfl; rfl; first | exact True.intro | omega | (simp only [tn, Int.reduceToNat]; omega)) | (apply aa.cA; rfl; rfl; rfl; decide +kernel) | (apply aa.aY; rfl; rfl; decide +kernel) | (apply aa.af; rfl; first | omega | rfl) | (apply aa.ae; rfl; omega) | (apply aa.ak; rfl) | (apply aa.box; (iterate 6 rfl); simp only [nm, nz, Nat.reduceAdd]) | (apply aa.store; (iterate 9 rfl); exact Nat.le_of_ble_eq_true rfl; simp only [nm, nz, Nat.reduceAdd]) | (apply aa.aT; rfl; rfl))
    apply aa.zB [1, 2]
    exact fun _ _ _ h => h
    rfl
    rfl
    decide +kernel
    rfl
    (repeat (first | exact bM.nil _ | (apply bM.cons true; rfl; rfl; rfl; rfl; rfl; first | exact True.intro | omega)))
    (apply dm.cons; (apply dH.mapEntry; rfl; rfl; rfl; rfl; rfl; rfl; rfl; rfl; rfl; rfl; rfl; kernel_rfl; rfl; rfl; exact f5; rfl))
    (apply dm.cons; (apply dH.q true; rfl; rfl; rfl; rfl; exact True.intro))
    (apply dm.cons; (apply dH.entryStore; rfl; rfl; rfl; rfl; rfl; rfl; rfl; (simp only [List.length_append, List.length_cons, List.length_nil, kF]; omega); rfl))
    (apply dm.cons; (apply dH.mapEntry; rfl; rfl; rfl; rfl; rfl; rfl; rfl; rfl; rfl; rfl; rfl; kernel_rfl; rfl; rfl; exact f1; rfl))
    (apply dm.cons; (apply dH.q true; rfl; rfl; rfl; rfl; exact True.intro))
    (apply dm.cons; (apply dH.entryStore; rfl; rfl; rfl; rfl; rfl; rfl; rfl; (simp only [List.length_append, List.length_cons, List.length_nil, kF]; omega); rfl))
    exact dm.nil _ _
    exact Nat.le_refl _
    simp only [List.set_cons_succ, List.set_cons_zero, kF, ni]
    repeat (first | (apply aa.st; rfl) | ((first | apply aa.q true | apply aa.qq true | apply aa.sq true); rfl; rfl; rfl; rfl; first | exact True.intro | omega | (simp only [tn, Int.reduceToNat]; omega)) | (apply aa.cA; rfl; rfl; rfl; decide +kernel) | (apply aa.aY; rfl; rfl; decide +kernel) | (apply aa.af; rfl; first | omega | rfl) | (apply aa.ae; rfl; omega) | (apply aa.ak; rfl) | (apply aa.box; (iterate 6 rfl); simp only [nm, nz, Nat.reduceAdd]) | (apply aa.store; (iterate 9 rfl); exact Nat.le_of_ble_eq_true rfl; simp only [nm, nz, Nat.reduceAdd]) | (apply aa.aT; rfl; rfl))
    apply aa.zC
    exact fun _ _ _ h => h
    rfl
    rfl
    decide +kernel
    (repeat (first | exact bM.nil _ | (apply bM.cons true; rfl; rfl; rfl; rfl; rfl; first | exact True.intro | omega)))
    (apply StepB.buildSlice; rfl; rfl; rfl; rfl; rfl; rfl; rfl; rfl; rfl; rfl; rfl)
    exact Nat.le_refl _
    repeat' (first | (apply aa.st; rfl) | (apply aa.append; (iterate 11 rfl); (first | rfl | (simp only [List.length_append, List.length_map, List.length_cons, List.length_nil]; omega)); (first | (simp only [List.length_append, List.length_map, List.length_cons, List.length_nil]; omega) | (simp only [cF, List.length_cons, List.length_nil]; omega)); simp only [List.set_cons_zero, List.set_cons_succ]) | ((first | apply aa.q true | apply aa.qq true | apply aa.sq true); rfl; rfl; rfl; rfl; first | exact True.intro | omega | (simp only [tn, Int.reduceToNat]; omega) | (simp only [cF, List.length_cons, List.length_nil]; omega)) | (apply aa.cA; rfl; rfl; rfl; decide +kernel) | (apply aa.aY; rfl; rfl; decide +kernel) | (apply aa.af; rfl; first | omega | rfl) | (apply aa.ae; rfl; omega) | (apply aa.ak; rfl) | (apply aa.box; (iterate 6 rfl); simp only [nm, nz, Nat.reduceAdd]) | (apply aa.store; (iterate 9 rfl); exact Nat.le_of_ble_eq_true rfl; simp only [nm, nz, Nat.reduceAdd]) | (apply aa.aT; rfl; rfl) | intro _ | (apply aa.aC; rfl; rfl; rfl; rfl) | (apply aa.aP; rfl; rfl))
    all_goals refine ⟨rfl, ?_⟩
    have s1 : fJ (bw t.sym ++ [(.str row, .int .i64 0)]) ((bw t.sym).length : Int).toNat (.int .i64 (aO t.codes).length) = bw (dV t row sy).sym := by
     rw [eY _ _ _ _ _ rfl]; unfold dV; rw [lL, cF]
    have s2 : fJ (df t.rws ++ [(.int .i64 sy, .int .i64 0)]) ((df t.rws).length : Int).toNat (.int .i64 (aO t.codes).length) = df (dV t row sy).rws := by
     rw [eY _ _ _ _ _ rfl]; unfold dV; rw [lW, cF]
    have s3 : aO (dV t row sy).codes = aO t.codes ++ [jg (row, sy)] := by unfold dV; exact pI _ _
    rw [← s1, ← s2, s3]
    rfl
 | some jv =>
  obtain ⟨j, v⟩ := jv
  rw [h4] at f2
  have h5 := dS h4
  rw [h5] at h3
  refine ACalls.enter Tryz.func172 rfl Tryz.ntmps172 (by kernel_rfl) rfl ?_; simp only [au, nm, Nat.reduceAdd]
  repeat (first | (apply aa.st; rfl) | ((first | apply aa.q true | apply aa.qq true | apply aa.sq true); rfl; rfl; rfl; rfl; first | exact True.intro | omega | (simp only [tn, Int.reduceToNat]; omega)) | (apply aa.bD (hr); (iterate 7 rfl)) | (apply aa.cA; rfl; rfl; rfl; decide +kernel) | (apply aa.aY; rfl; rfl; decide +kernel) | (apply aa.af; rfl; first | omega | rfl) | (apply aa.ae; rfl; omega) | (apply aa.ak; rfl) | (apply aa.box; (iterate 6 rfl); simp only [nm, nz, Nat.reduceAdd]) | (apply aa.store; (iterate 9 rfl); exact Nat.le_of_ble_eq_true rfl; simp only [nm, nz, Nat.reduceAdd]) | (apply aa.aT; rfl; rfl) | ((first | apply aa.cV | apply aa.cT); (iterate 13 rfl); kernel_rfl; exact f1; rfl) | ((first | apply aa.cV | apply aa.cT); (iterate 13 rfl); kernel_rfl; exact f2; rfl))
  refine aa.weak (env' := [(41, I 0), (40, I row.length), (3, .ptr 5 0), (0, .ptr 0 0)]) ⟨rfl, rfl, rfl, rfl, trivial⟩ ?_
  refine aa.loop (fun m env H => ∃ k : Nat, m = row.length - k ∧ k ≤ row.length ∧ (∀ n, n < k → bQ (row.take (n + 1)) t.sym 0 = none) ∧ env = [(41, I (k : Int)), (40, I row.length), (3, .ptr 5 0), (0, .ptr 0 0)] ∧ H = [.cells [.own 2 (aO t.codes) 4, .mp 1, .mp 2, .mp 3, I t.lng], .map (bw t.sym), .map (df t.rws), .map (bw t.beg), .front 199 2 (aO t.codes).length, .cells [S row, I sy]]) row.length
   ⟨0, rfl, by omega, fun n hn => absurd hn (by omega), rfl, rfl⟩ ?_
  rintro m env H ⟨k, rfl, hk, hw, rfl, rfl⟩
  have e1 := tk1 row k
  have f3 := cf (row.take ((k : Int) + 1).toNat) t.sym 0
  rw [e1] at f3
  rcases Nat.lt_or_ge k row.length with hlt | hge
  ·have h6 := hw4 k hlt
   rw [h6] at f3
   rw [← e1] at f3
   repeat' (first | (apply aa.st; rfl) | ((first | apply aa.q true | apply aa.qq true | apply aa.sq true); rfl; rfl; rfl; rfl; first | exact True.intro | omega | (simp only [tn, Int.reduceToNat]; omega)) | (apply aa.cA; rfl; rfl; rfl; decide +kernel) | (apply aa.aY; rfl; rfl; decide +kernel) | (apply aa.af; rfl; first | omega | rfl) | (apply aa.ae; rfl; omega) | (apply aa.ak; rfl) | (apply aa.box; (iterate 6 rfl); simp only [nm, nz, Nat.reduceAdd]) | (apply aa.store; (iterate 9 rfl); exact Nat.le_of_ble_eq_true rfl; simp only [nm, nz, Nat.reduceAdd]) | (apply aa.aT; rfl; rfl) | ((first | apply aa.cV | apply aa.cT); (iterate 13 rfl); kernel_rfl; exact f3; rfl) | intro _ | (apply aa.aC; rfl; rfl; rfl; rfl) | (apply aa.aP; rfl; rfl))
   exact aa.round [(41, I ((k + 1 : Nat) : Int)), (40, I row.length), (3, .ptr 5 0), (0, .ptr 0 0)] (row.length - (k + 1)) (by omega) ⟨rfl, rfl, rfl, rfl, trivial⟩ ⟨k + 1, rfl, hlt, fun n _ => hw4 n (by omega), rfl, rfl⟩
  ·obtain rfl : k = row.length := by omega
   repeat' (first | (apply aa.st; rfl) | ((first | apply aa.q true | apply aa.qq true | apply aa.sq true); rfl; rfl; rfl; rfl; first | exact True.intro | omega | (simp only [tn, Int.reduceToNat]; omega)) | (apply aa.cA; rfl; rfl; rfl; decide +kernel) | (apply aa.aY; rfl; rfl; decide +kernel) | (apply aa.af; rfl; first | omega | rfl) | (apply aa.ae; rfl; omega) | (apply aa.ak; rfl) | (apply aa.box; (iterate 6 rfl); simp only [nm, nz, Nat.reduceAdd]) | (apply aa.store; (iterate 9 rfl); exact Nat.le_of_ble_eq_true rfl; simp only [nm, nz, Nat.reduceAdd]) | (apply aa.aT; rfl; rfl) | intro _ | (apply aa.aC; rfl; rfl; rfl; rfl) | (apply aa.aP; rfl; rfl))
   refine aa.weak (env' := [(62, I 0), (61, I row.length), (3, .ptr 5 0), (0, .ptr 0 0)]) ⟨rfl, rfl, rfl, rfl, trivial⟩ ?_
   refine aa.loop (fun m env H => ∃ k : Nat, m = row.length - k ∧ k ≤ row.length ∧ env = [(62, I (k : Int)), (61, I row.length), (3, .ptr 5 0), (0, .ptr 0 0)] ∧ H = [.cells [.own 2 (aO t.codes) 4, .mp 1, .mp 2, .mp 3, I t.lng], .map (bw t.sym), .map (df t.rws), .map (bw (bH row k t.beg)), .front 199 2 (aO t.codes).length, .cells [S row, I sy]]) row.length
    ⟨0, rfl, by omega, rfl, by rw [qp]⟩ ?_
   rintro m env H ⟨k, rfl, hk, rfl, rfl⟩
   have e1 := tk1 row k
   have f4 := cf (row.take ((k : Int) + 1).toNat) (bH row k t.beg) 0
   rw [e1] at f4
   have hbd := jk row t.beg 1000000 hN k (row.take (k + 1))
   rcases Nat.lt_or_ge k row.length with hlt | hge
   ·cases h7 : bQ (row.take (k + 1)) (bH row k t.beg) 0 with
    | none =>
     rw [h7] at f4
     rw [← e1] at f4
     have hput : mZ (bw (bH row k t.beg)) (.str (row.take ((k : Int) + 1).toNat)) (.int .i64 (0 + 1)) none = bw (bH row (k + 1) t.beg) := by
      have := iA (bH row k t.beg) (row.take (k + 1)) (0 + 1)
      rw [h7] at this
      rw [e1, fw, j3 h7]
      exact this
     repeat' (first | (apply aa.st; rfl) | ((first | apply aa.q true | apply aa.qq true | apply aa.sq true); rfl; rfl; rfl; rfl; first | exact True.intro | omega | (simp only [tn, Int.reduceToNat]; omega)) | (apply aa.cA; rfl; rfl; rfl; decide +kernel) | (apply aa.aY; rfl; rfl; decide +kernel) | (apply aa.af; rfl; first | omega | rfl) | (apply aa.ae; rfl; omega) | (apply aa.ak; rfl) | (apply aa.box; (iterate 6 rfl); simp only [nm, nz, Nat.reduceAdd]) | (apply aa.store; (iterate 9 rfl); exact Nat.le_of_ble_eq_true rfl; simp only [nm, nz, Nat.reduceAdd]) | (apply aa.aT; rfl; rfl) | ((first | apply aa.cV | apply aa.cT); (iterate 13 rfl); kernel_rfl; exact f4; rfl) | (apply aa.mapUpdate; (iterate 11 rfl); exact f4; simp only [List.set_cons_succ, List.set_cons_zero]) | intro _ | (apply aa.aC; rfl; rfl; rfl; rfl) | (apply aa.aP; rfl; rfl))
     exact aa.round [(62, I ((k + 1 : Nat) : Int)), (61, I row.length), (3, .ptr 5 0), (0, .ptr 0 0)] (row.length - (k + 1)) (by omega) ⟨rfl, rfl, rfl, rfl, trivial⟩ ⟨k + 1, rfl, hlt, rfl, congrArg (fun x => [aF.cells [.own 2 (aO t.codes) 4, .mp 1, .mp 2, .mp 3, I t.lng], aF.map (bw t.sym), aF.map (df t.rws), aF.map (x), aF.front 199 2 (aO t.codes).length, aF.cells [S row, I sy]]) hput⟩
    | some jv =>
     obtain ⟨j, v⟩ := jv
     rw [dS h7] at hbd
     rw [h7] at f4
     rw [← e1] at f4
     have hput : mZ (bw (bH row k t.beg)) (.str (row.take ((k : Int) + 1).toNat)) (.int .i64 (v + 1)) (some (j, .int .i64 v)) = bw (bH row (k + 1) t.beg) := by
      have := iA (bH row k t.beg) (row.take (k + 1)) (v + 1)
      rw [h7] at this
      rw [e1, fw, dS h7]
      exact this
     repeat' (first | (apply aa.st; rfl) | ((first | apply aa.q true | apply aa.qq true | apply aa.sq true); rfl; rfl; rfl; rfl; first | exact True.intro | omega | (simp only [tn, Int.reduceToNat]; omega)) | (apply aa.cA; rfl; rfl; rfl; decide +kernel) | (apply aa.aY; rfl; rfl; decide +kernel) | (apply aa.af; rfl; first | omega | rfl) | (apply aa.ae; rfl; omega) | (apply aa.ak; rfl) | (apply aa.box; (iterate 6 rfl); simp only [nm, nz, Nat.reduceAdd]) | (apply aa.store; (iterate 9 rfl); exact Nat.le_of_ble_eq_true rfl; simp only [nm, nz, Nat.reduceAdd]) | (apply aa.aT; rfl; rfl) | ((first | apply aa.cV | apply aa.cT); (iterate 13 rfl); kernel_rfl; exact f4; rfl) | (apply aa.mapUpdate; (iterate 11 rfl); exact f4; simp only [List.set_cons_succ, List.set_cons_zero]) | intro _ | (apply aa.aC; rfl; rfl; rfl; rfl) | (apply aa.aP; rfl; rfl))
     exact aa.round [(62, I ((k + 1 : Nat) : Int)), (61, I row.length), (3, .ptr 5 0), (0, .ptr 0 0)] (row.length - (k + 1)) (by omega) ⟨rfl, rfl, rfl, rfl, trivial⟩ ⟨k + 1, rfl, hlt, rfl, congrArg (fun x => [aF.cells [.own 2 (aO t.codes) 4, .mp 1, .mp 2, .mp 3, I t.lng], aF.map (bw t.sym), aF.map (df t.rws), aF.map (x), aF.front 199 2 (aO t.codes).length, aF.cells [S row, I sy]]) hput⟩
   ·obtain rfl : k = row.length := by omega
    repeat (first | (apply aa.st; rfl) | ((first | apply aa.q true | apply aa.qq true | apply aa.sq true); rfl; rfl; rfl; rfl; first | exact True.intro | omega | (simp only [tn, Int.reduceToNat]; omega)) | (apply aa.cA; rfl; rfl; rfl; decide +kernel) | (apply aa.aY; rfl; rfl; decide +kernel) | (apply aa.af; rfl; first | omega | rfl) | (apply aa.ae; rfl; omega) | (apply aa.ak; rfl) | (apply aa.box; (iterate 6 rfl); simp only [nm, nz, Nat.reduceAdd]) | (apply aa.store; (iterate 9 rfl); exact Nat.le_of_ble_eq_true rfl; simp only [nm, nz, Nat.reduceAdd]) | (apply aa.aT; rfl; rfl))
    refine aa.out rfl ⟨_, rfl, ?_⟩
    repeat (first | (apply aa.st; rfl) | ((first | apply aa.q true | apply aa.qq true | apply aa.sq true); rfl; rfl; rfl; rfl; first | exact True.intro | omega | (simp only [tn, Int.reduceToNat]; omega)) | (apply aa.cA; rfl; rfl; rfl; decide +kernel) | (apply aa.aY; rfl; rfl; decide +kernel) | (apply aa.af; rfl; first | omega | rfl) | (apply aa.ae; rfl; omega) | (apply aa.ak; rfl) | (apply aa.box; (iterate 6 rfl); simp only [nm, nz, Nat.reduceAdd]) | (apply aa.store; (iterate 9 rfl); exact Nat.le_of_ble_eq_true rfl; simp only [nm, nz, Nat.reduceAdd]) | (apply aa.aT; rfl; rfl))
    apply aa.zB [1, 2]
    exact fun _ _ _ h => h
    rfl
    rfl
    decide +kernel
    rfl
    (repeat (first | exact bM.nil _ | (apply bM.cons true; rfl; rfl; rfl; rfl; rfl; first | exact True.intro | omega)))
    (apply dm.cons; (apply dH.mapEntry; rfl; rfl; rfl; rfl; rfl; rfl; rfl; rfl; rfl; rfl; rfl; kernel_rfl; rfl; rfl; exact f5; rfl))
    (apply dm.cons; (apply dH.q true; rfl; rfl; rfl; rfl; exact True.intro))
    (apply dm.cons; (apply dH.entryStore; rfl; rfl; rfl; rfl; rfl; rfl; rfl; (simp only [List.length_append, List.length_cons, List.length_nil, kF]; omega); rfl))
    (apply dm.cons; (apply dH.mapEntry; rfl; rfl; rfl; rfl; rfl; rfl; rfl; rfl; rfl; rfl; rfl; kernel_rfl; rfl; rfl; exact f1; rfl))
    (apply dm.cons; (apply dH.q true; rfl; rfl; rfl; rfl; exact True.intro))
    (apply dm.cons; (apply dH.entryStore; rfl; rfl; rfl; rfl; rfl; rfl; rfl; (simp only [List.length_append, List.length_cons, List.length_nil, kF]; omega); rfl))
    exact dm.nil _ _
    exact Nat.le_refl _
    simp only [List.set_cons_succ, List.set_cons_zero, kF, ni]
    repeat (first | (apply aa.st; rfl) | ((first | apply aa.q true | apply aa.qq true | apply aa.sq true); rfl; rfl; rfl; rfl; first | exact True.intro | omega | (simp only [tn, Int.reduceToNat]; omega)) | (apply aa.cA; rfl; rfl; rfl; decide +kernel) | (apply aa.aY; rfl; rfl; decide +kernel) | (apply aa.af; rfl; first | omega | rfl) | (apply aa.ae; rfl; omega) | (apply aa.ak; rfl) | (apply aa.box; (iterate 6 rfl); simp only [nm, nz, Nat.reduceAdd]) | (apply aa.store; (iterate 9 rfl); exact Nat.le_of_ble_eq_true rfl; simp only [nm, nz, Nat.reduceAdd]) | (apply aa.aT; rfl; rfl))
    apply aa.zC
    exact fun _ _ _ h => h
    rfl
    rfl
    decide +kernel
    (repeat (first | exact bM.nil _ | (apply bM.cons true; rfl; rfl; rfl; rfl; rfl; first | exact True.intro | omega)))
    (apply StepB.buildSlice; rfl; rfl; rfl; rfl; rfl; rfl; rfl; rfl; rfl; rfl; rfl)
    exact Nat.le_refl _
    repeat' (first | (apply aa.st; rfl) | (apply aa.append; (iterate 11 rfl); (first | rfl | (simp only [List.length_append, List.length_map, List.length_cons, List.length_nil]; omega)); (first | (simp only [List.length_append, List.length_map, List.length_cons, List.length_nil]; omega) | (simp only [cF, List.length_cons, List.length_nil]; omega)); simp only [List.set_cons_zero, List.set_cons_succ]) | ((first | apply aa.q true | apply aa.qq true | apply aa.sq true); rfl; rfl; rfl; rfl; first | exact True.intro | omega | (simp only [tn, Int.reduceToNat]; omega) | (simp only [cF, List.length_cons, List.length_nil]; omega)) | (apply aa.cA; rfl; rfl; rfl; decide +kernel) | (apply aa.aY; rfl; rfl; decide +kernel) | (apply aa.af; rfl; first | omega | rfl) | (apply aa.ae; rfl; omega) | (apply aa.ak; rfl) | (apply aa.box; (iterate 6 rfl); simp only [nm, nz, Nat.reduceAdd]) | (apply aa.store; (iterate 9 rfl); exact Nat.le_of_ble_eq_true rfl; simp only [nm, nz, Nat.reduceAdd]) | (apply aa.aT; rfl; rfl) | intro _ | (apply aa.aC; rfl; rfl; rfl; rfl) | (apply aa.aP; rfl; rfl))
    all_goals refine ⟨rfl, ?_⟩
    have s1 : fJ (bw t.sym ++ [(.str row, .int .i64 0)]) ((bw t.sym).length : Int).toNat (.int .i64 (aO t.codes).length) = bw (dV t row sy).sym := by
     rw [eY _ _ _ _ _ rfl]; unfold dV; rw [lL, cF]
    have s2 : fJ (df t.rws ++ [(.int .i64 sy, .int .i64 0)]) ((df t.rws).length : Int).toNat (.int .i64 (aO t.codes).length) = df (dV t row sy).rws := by
     rw [eY _ _ _ _ _ rfl]; unfold dV; rw [lW, cF]
    have s3 : aO (dV t row sy).codes = aO t.codes ++ [jg (row, sy)] := by unfold dV; exact pI _ _
    rw [← s1, ← s2, s3]
    rfl
end Px
end Go.Proofs.YtbfojhfiemcnpaaGreatDoor.Av
