/- prefix's add: a code is taken in. -/
import Derived.Test.YtbfojhfiemcnpaaGreatDoorPe
import Derived.Test.YtbfojhfiemcnpaaGreatDoorPn
set_option linter.unusedVariables false
set_option linter.unusedSimpArgs false
set_option maxRecDepth 100000
set_option maxHeartbeats 64000000
namespace Go.Proofs.YtbfojhfiemcnpaaGreatDoor.Av
namespace Px
open Go Bt
attribute [local irreducible] aa ACalls
variable {gl : List (Nat × List D)}
theorem uC (p : List UInt8 × Int) : ba ([] ++ [p]) = [kO p] := rfl
def HF (t : Tb) (row : List UInt8) (sy : Int) : List aH := [.cells [.own 2 (ba t.codes) 5, .mp 1, .mp 2, .mp 3, I t.lng], .map (bQ t.sym), .map (d9 t.rws), .map (bQ t.beg), .cells [S row, I sy], .front 199 2 (ba t.codes).length]
theorem ij (row : List UInt8) (k : Nat) (l : List (List UInt8 × Int)) : cg row (k + 1) l = xc (cg row k l) (row.take (k + 1)) (iJ (row.take (k + 1)) (cg row k l) + 1) := rfl
theorem sU (row : List UInt8) (l : List (List UInt8 × Int)) : cg row 0 l = l := rfl
theorem vk (row : List UInt8) (h : jy row = true) : 0 < row.length := by
 unfold jy at h
 rcases row with _ | ⟨c, r⟩
 ·simp at h
 ·simp
attribute [local irreducible] bQ d9 ba jy cg
theorem DX (t : Tb) (row : List UInt8) (sy : Int) (hrow : row.length ≤ 1000000) (hb : uW t row sy = true) (hN : ∀ w, 0 ≤ iJ w t.beg ∧ iJ w t.beg ≤ 1000000) (hl : -1000000 ≤ t.lng ∧ t.lng ≤ 1000000) (hc : t.codes = []) :
  ACalls (cxg gl) 172 [.ptr 0 0, .d (kO (row, sy))] (JW t) (fun r H => r = B true ∧ H = HF (gh t row sy) row sy) := by
 obtain ⟨h1, hr2, h3, hw4⟩ := (uO t row sy).1 hb
 have f1 : jk (.int .i64 sy) (d9 t.rws) 0 = some none := by rw [oW, h1]; rfl
 have f2 := dD row t.beg 0
 have hr := nR (gl := gl) row (by omega)
 rw [hr2] at hr
 have hne : 0 < row.length := vk row hr2
 have h55 := hw4 (row.length - 1) (by omega)
 rw [show row.length - 1 + 1 = row.length by omega, List.take_length] at h55
 have f5 : jk (.str row) (bQ t.sym) 0 = some none := by rw [dD, h55]; rfl
 unfold JW kO
 cases h4 : cO row t.beg 0 with
 | none =>
  rw [h4] at f2
  refine ACalls.enter Tryz.func172 rfl Tryz.ntmps172 (by kernel_rfl) rfl ?_; simp only [aB, nm, Nat.reduceAdd]
  repeat (first | refine aa.aD ?_ | refine aa.aY true ?_ | refine aa.dL true ?_ | refine aa.iy true ?_ | refine aa.aL (hr) ?_ | refine aa.bL ?_ | refine aa.aR ?_ | refine aa.ah ?_ | refine aa.af ?_ | refine aa.ai ?_ | (refine aa.aP ?_; simp only [nm, nz, Nat.reduceAdd]) | (refine aa.az ?_; simp only [nm, nz, Nat.reduceAdd]) | refine aa.aX ?_ | ((first | apply aa.dX | apply aa.dW); (iterate 13 rfl); kernel_rfl; exact f1; rfl) | ((first | apply aa.dX | apply aa.dW); (iterate 13 rfl); kernel_rfl; exact f2; rfl))
  refine aa.weak (env' := [(41, I 0), (40, I row.length), (3, .ptr 4 0), (0, .ptr 0 0)]) ⟨rfl, rfl, rfl, rfl, trivial⟩ ?_
  refine aa.loop (fun m env H => ∃ k : Nat, m = row.length - k ∧ k ≤ row.length ∧ (∀ n, n < k → cO (row.take (n + 1)) t.sym 0 = none) ∧ env = [(41, I (k : Int)), (40, I row.length), (3, .ptr 4 0), (0, .ptr 0 0)] ∧ H = [.cells [.d .bf, .mp 1, .mp 2, .mp 3, I t.lng], .map (bQ t.sym), .map (d9 t.rws), .map (bQ t.beg), .cells [S row, I sy]]) row.length
   ⟨0, rfl, by omega, fun n hn => absurd hn (by omega), rfl, rfl⟩ ?_
  rintro m env H ⟨k, rfl, hk, hw, rfl, rfl⟩
  have e1 := tk1 row k
  have f3 := dD (row.take ((k : Int) + 1).toNat) t.sym 0
  rw [e1] at f3
  rcases Nat.lt_or_ge k row.length with hlt | hge
  ·have h6 := hw4 k hlt
   rw [h6] at f3
   rw [← e1] at f3
   repeat' (first | refine aa.aD ?_ | refine aa.aY true ?_ | refine aa.dL true ?_ | refine aa.iy true ?_ | refine aa.bL ?_ | refine aa.aR ?_ | refine aa.ah ?_ | refine aa.af ?_ | refine aa.ai ?_ | (refine aa.aP ?_; simp only [nm, nz, Nat.reduceAdd]) | (refine aa.az ?_; simp only [nm, nz, Nat.reduceAdd]) | refine aa.aX ?_ | ((first | apply aa.dX | apply aa.dW); (iterate 13 rfl); kernel_rfl; exact f3; rfl) | intro _ | refine aa.aI ?_)
   exact aa.round [(41, I ((k + 1 : Nat) : Int)), (40, I row.length), (3, .ptr 4 0), (0, .ptr 0 0)] (row.length - (k + 1)) (by omega) ⟨rfl, rfl, rfl, rfl, trivial⟩ ⟨k + 1, rfl, hlt, fun n _ => hw4 n (by omega), rfl, rfl⟩
  ·obtain rfl : k = row.length := by omega
   repeat' (first | refine aa.aD ?_ | refine aa.aY true ?_ | refine aa.dL true ?_ | refine aa.iy true ?_ | refine aa.bL ?_ | refine aa.aR ?_ | refine aa.ah ?_ | refine aa.af ?_ | refine aa.ai ?_ | (refine aa.aP ?_; simp only [nm, nz, Nat.reduceAdd]) | (refine aa.az ?_; simp only [nm, nz, Nat.reduceAdd]) | refine aa.aX ?_ | intro _ | refine aa.aI ?_)
   refine aa.weak (env' := [(62, I 0), (61, I row.length), (3, .ptr 4 0), (0, .ptr 0 0)]) ⟨rfl, rfl, rfl, rfl, trivial⟩ ?_
   refine aa.loop (fun m env H => ∃ k : Nat, m = row.length - k ∧ k ≤ row.length ∧ env = [(62, I (k : Int)), (61, I row.length), (3, .ptr 4 0), (0, .ptr 0 0)] ∧ H = [.cells [.d .bf, .mp 1, .mp 2, .mp 3, I t.lng], .map (bQ t.sym), .map (d9 t.rws), .map (bQ (cg row k t.beg)), .cells [S row, I sy]]) row.length
    ⟨0, rfl, by omega, rfl, by rw [sU]⟩ ?_
   rintro m env H ⟨k, rfl, hk, rfl, rfl⟩
   have e1 := tk1 row k
   have f4 := dD (row.take ((k : Int) + 1).toNat) (cg row k t.beg) 0
   rw [e1] at f4
   have hbd := kR row t.beg 1000000 hN k (row.take (k + 1))
   rcases Nat.lt_or_ge k row.length with hlt | hge
   ·cases h7 : cO (row.take (k + 1)) (cg row k t.beg) 0 with
    | none =>
     rw [h7] at f4
     rw [← e1] at f4
     have hput : p9 (bQ (cg row k t.beg)) (.str (row.take ((k : Int) + 1).toNat)) (.int .i64 (0 + 1)) none = bQ (cg row (k + 1) t.beg) := by
      have := jH (cg row k t.beg) (row.take (k + 1)) (0 + 1)
      rw [h7] at this
      rw [e1, ij, lX h7]
      exact this
     repeat' (first | refine aa.aD ?_ | refine aa.aY true ?_ | refine aa.dL true ?_ | refine aa.iy true ?_ | refine aa.bL ?_ | refine aa.aR ?_ | refine aa.ah ?_ | refine aa.af ?_ | refine aa.ai ?_ | (refine aa.aP ?_; simp only [nm, nz, Nat.reduceAdd]) | (refine aa.az ?_; simp only [nm, nz, Nat.reduceAdd]) | refine aa.aX ?_ | ((first | apply aa.dX | apply aa.dW); (iterate 13 rfl); kernel_rfl; exact f4; rfl) | (apply aa.mapUpdate; (iterate 11 rfl); exact f4; simp only [List.set_cons_succ, List.set_cons_zero]) | intro _ | refine aa.aI ?_)
     exact aa.round [(62, I ((k + 1 : Nat) : Int)), (61, I row.length), (3, .ptr 4 0), (0, .ptr 0 0)] (row.length - (k + 1)) (by omega) ⟨rfl, rfl, rfl, rfl, trivial⟩ ⟨k + 1, rfl, hlt, rfl, congrArg (fun x => [aH.cells [.d .bf, .mp 1, .mp 2, .mp 3, I t.lng], aH.map (bQ t.sym), aH.map (d9 t.rws), aH.map (x), aH.cells [S row, I sy]]) hput⟩
    | some jv =>
     obtain ⟨j, v⟩ := jv
     rw [fZ h7] at hbd
     rw [h7] at f4
     rw [← e1] at f4
     have hput : p9 (bQ (cg row k t.beg)) (.str (row.take ((k : Int) + 1).toNat)) (.int .i64 (v + 1)) (some (j, .int .i64 v)) = bQ (cg row (k + 1) t.beg) := by
      have := jH (cg row k t.beg) (row.take (k + 1)) (v + 1)
      rw [h7] at this
      rw [e1, ij, fZ h7]
      exact this
     repeat' (first | refine aa.aD ?_ | refine aa.aY true ?_ | refine aa.dL true ?_ | refine aa.iy true ?_ | refine aa.bL ?_ | refine aa.aR ?_ | refine aa.ah ?_ | refine aa.af ?_ | refine aa.ai ?_ | (refine aa.aP ?_; simp only [nm, nz, Nat.reduceAdd]) | (refine aa.az ?_; simp only [nm, nz, Nat.reduceAdd]) | refine aa.aX ?_ | ((first | apply aa.dX | apply aa.dW); (iterate 13 rfl); kernel_rfl; exact f4; rfl) | (apply aa.mapUpdate; (iterate 11 rfl); exact f4; simp only [List.set_cons_succ, List.set_cons_zero]) | intro _ | refine aa.aI ?_)
     exact aa.round [(62, I ((k + 1 : Nat) : Int)), (61, I row.length), (3, .ptr 4 0), (0, .ptr 0 0)] (row.length - (k + 1)) (by omega) ⟨rfl, rfl, rfl, rfl, trivial⟩ ⟨k + 1, rfl, hlt, rfl, congrArg (fun x => [aH.cells [.d .bf, .mp 1, .mp 2, .mp 3, I t.lng], aH.map (bQ t.sym), aH.map (d9 t.rws), aH.map (x), aH.cells [S row, I sy]]) hput⟩
   ·obtain rfl : k = row.length := by omega
    repeat (first | refine aa.aD ?_ | refine aa.aY true ?_ | refine aa.dL true ?_ | refine aa.iy true ?_ | refine aa.bL ?_ | refine aa.aR ?_ | refine aa.ah ?_ | refine aa.af ?_ | refine aa.ai ?_ | (refine aa.aP ?_; simp only [nm, nz, Nat.reduceAdd]) | (refine aa.az ?_; simp only [nm, nz, Nat.reduceAdd]) | refine aa.aX ?_)
    refine aa.out rfl ⟨_, rfl, ?_⟩
    repeat (first | refine aa.aD ?_ | refine aa.aY true ?_ | refine aa.dL true ?_ | refine aa.iy true ?_ | refine aa.bL ?_ | refine aa.aR ?_ | refine aa.ah ?_ | refine aa.af ?_ | refine aa.ai ?_ | (refine aa.aP ?_; simp only [nm, nz, Nat.reduceAdd]) | (refine aa.az ?_; simp only [nm, nz, Nat.reduceAdd]) | refine aa.aX ?_)
    apply aa.Cf [1, 2]
    exact fun _ _ _ h => h
    rfl
    rfl
    decide +kernel
    rfl
    (repeat (first | exact bX.nil _ | (apply bX.cons true; rfl; rfl; rfl; rfl; rfl; first | exact True.intro | omega)))
    (apply eP.cons; (apply fG.mapEntry; rfl; rfl; rfl; rfl; rfl; rfl; rfl; rfl; rfl; rfl; rfl; kernel_rfl; rfl; rfl; exact f5; rfl))
    (apply eP.cons; (apply fG.q true; rfl; rfl; rfl; rfl; exact True.intro))
    (apply eP.cons; (apply fG.entryStore; rfl; rfl; rfl; rfl; rfl; rfl; rfl; (simp only [List.length_append, List.length_cons, List.length_nil, mr]; omega); rfl))
    (apply eP.cons; (apply fG.mapEntry; rfl; rfl; rfl; rfl; rfl; rfl; rfl; rfl; rfl; rfl; rfl; kernel_rfl; rfl; rfl; exact f1; rfl))
    (apply eP.cons; (apply fG.q true; rfl; rfl; rfl; rfl; exact True.intro))
    (apply eP.cons; (apply fG.entryStore; rfl; rfl; rfl; rfl; rfl; rfl; rfl; (simp only [List.length_append, List.length_cons, List.length_nil, mr]; omega); rfl))
    exact eP.nil _ _
    exact Nat.le_refl _
    simp only [List.set_cons_succ, List.set_cons_zero, mr, qa]
    repeat (first | refine aa.aD ?_ | refine aa.aY true ?_ | refine aa.dL true ?_ | refine aa.iy true ?_ | refine aa.bL ?_ | refine aa.aR ?_ | refine aa.ah ?_ | refine aa.af ?_ | refine aa.ai ?_ | (refine aa.aP ?_; simp only [nm, nz, Nat.reduceAdd]) | (refine aa.az ?_; simp only [nm, nz, Nat.reduceAdd]) | refine aa.aX ?_)
    apply aa.Cg
    exact fun _ _ _ h => h
    rfl
    rfl
    decide +kernel
    (repeat (first | exact bX.nil _ | (apply bX.cons true; rfl; rfl; rfl; rfl; rfl; first | exact True.intro | omega)))
    (apply StepB.buildSlice; rfl; rfl; rfl; rfl; rfl; rfl; rfl; rfl; rfl; rfl; rfl)
    exact Nat.le_refl _
    repeat' (first | refine aa.aD ?_ | (apply aa.Cy; (iterate 10 rfl); (first | (simp only [List.length_append, List.length_map, List.length_cons, List.length_nil]; omega) | (simp only [dG, List.length_cons, List.length_nil]; omega)); simp only [List.nil_append, List.cons_append, List.length_nil, List.length_cons, Nat.reduceAdd]) | ((first | apply aa.q true | apply aa.qq true | apply aa.sq true); rfl; rfl; rfl; rfl; first | exact True.intro | omega | (simp only [tn, Int.reduceToNat]; omega) | (simp only [dG, List.length_cons, List.length_nil]; omega)) | refine aa.bL ?_ | refine aa.aR ?_ | refine aa.ah ?_ | refine aa.af ?_ | refine aa.ai ?_ | (refine aa.aP ?_; simp only [nm, nz, Nat.reduceAdd]) | (refine aa.az ?_; simp only [nm, nz, Nat.reduceAdd]) | refine aa.aX ?_ | intro _ | refine aa.aI ?_)
    (apply aa.xX 6; rfl; rfl; rfl; rfl; rfl)
    refine ⟨rfl, ?_⟩
    have s1 : iE (bQ t.sym ++ [(.str row, .int .i64 0)]) ((bQ t.sym).length : Int).toNat (.int .i64 0) = bQ (gh t row sy).sym := by
     rw [gZ _ _ _ _ _ rfl]; unfold gh; rw [nO, hc]; rfl
    have s2 : iE (d9 t.rws ++ [(.int .i64 sy, .int .i64 0)]) ((d9 t.rws).length : Int).toNat (.int .i64 0) = d9 (gh t row sy).rws := by
     rw [gZ _ _ _ _ _ rfl]; unfold gh; rw [nX, hc]; rfl
    have s3 : ba (gh t row sy).codes = [kO (row, sy)] := by unfold gh; rw [hc]; exact uC _
    unfold HF
    rw [← s1, ← s2, s3]
    rfl
 | some jv =>
  obtain ⟨j, v⟩ := jv
  rw [h4] at f2
  have h5 := fZ h4
  rw [h5] at h3
  refine ACalls.enter Tryz.func172 rfl Tryz.ntmps172 (by kernel_rfl) rfl ?_; simp only [aB, nm, Nat.reduceAdd]
  repeat (first | refine aa.aD ?_ | refine aa.aY true ?_ | refine aa.dL true ?_ | refine aa.iy true ?_ | refine aa.aL (hr) ?_ | refine aa.bL ?_ | refine aa.aR ?_ | refine aa.ah ?_ | refine aa.af ?_ | refine aa.ai ?_ | (refine aa.aP ?_; simp only [nm, nz, Nat.reduceAdd]) | (refine aa.az ?_; simp only [nm, nz, Nat.reduceAdd]) | refine aa.aX ?_ | ((first | apply aa.dX | apply aa.dW); (iterate 13 rfl); kernel_rfl; exact f1; rfl) | ((first | apply aa.dX | apply aa.dW); (iterate 13 rfl); kernel_rfl; exact f2; rfl))
  refine aa.weak (env' := [(41, I 0), (40, I row.length), (3, .ptr 4 0), (0, .ptr 0 0)]) ⟨rfl, rfl, rfl, rfl, trivial⟩ ?_
  refine aa.loop (fun m env H => ∃ k : Nat, m = row.length - k ∧ k ≤ row.length ∧ (∀ n, n < k → cO (row.take (n + 1)) t.sym 0 = none) ∧ env = [(41, I (k : Int)), (40, I row.length), (3, .ptr 4 0), (0, .ptr 0 0)] ∧ H = [.cells [.d .bf, .mp 1, .mp 2, .mp 3, I t.lng], .map (bQ t.sym), .map (d9 t.rws), .map (bQ t.beg), .cells [S row, I sy]]) row.length
   ⟨0, rfl, by omega, fun n hn => absurd hn (by omega), rfl, rfl⟩ ?_
  rintro m env H ⟨k, rfl, hk, hw, rfl, rfl⟩
  have e1 := tk1 row k
  have f3 := dD (row.take ((k : Int) + 1).toNat) t.sym 0
  rw [e1] at f3
  rcases Nat.lt_or_ge k row.length with hlt | hge
  ·have h6 := hw4 k hlt
   rw [h6] at f3
   rw [← e1] at f3
   repeat' (first | refine aa.aD ?_ | refine aa.aY true ?_ | refine aa.dL true ?_ | refine aa.iy true ?_ | refine aa.bL ?_ | refine aa.aR ?_ | refine aa.ah ?_ | refine aa.af ?_ | refine aa.ai ?_ | (refine aa.aP ?_; simp only [nm, nz, Nat.reduceAdd]) | (refine aa.az ?_; simp only [nm, nz, Nat.reduceAdd]) | refine aa.aX ?_ | ((first | apply aa.dX | apply aa.dW); (iterate 13 rfl); kernel_rfl; exact f3; rfl) | intro _ | refine aa.aI ?_)
   exact aa.round [(41, I ((k + 1 : Nat) : Int)), (40, I row.length), (3, .ptr 4 0), (0, .ptr 0 0)] (row.length - (k + 1)) (by omega) ⟨rfl, rfl, rfl, rfl, trivial⟩ ⟨k + 1, rfl, hlt, fun n _ => hw4 n (by omega), rfl, rfl⟩
  ·obtain rfl : k = row.length := by omega
   repeat' (first | refine aa.aD ?_ | refine aa.aY true ?_ | refine aa.dL true ?_ | refine aa.iy true ?_ | refine aa.bL ?_ | refine aa.aR ?_ | refine aa.ah ?_ | refine aa.af ?_ | refine aa.ai ?_ | (refine aa.aP ?_; simp only [nm, nz, Nat.reduceAdd]) | (refine aa.az ?_; simp only [nm, nz, Nat.reduceAdd]) | refine aa.aX ?_ | intro _ | refine aa.aI ?_)
   refine aa.weak (env' := [(62, I 0), (61, I row.length), (3, .ptr 4 0), (0, .ptr 0 0)]) ⟨rfl, rfl, rfl, rfl, trivial⟩ ?_
   refine aa.loop (fun m env H => ∃ k : Nat, m = row.length - k ∧ k ≤ row.length ∧ env = [(62, I (k : Int)), (61, I row.length), (3, .ptr 4 0), (0, .ptr 0 0)] ∧ H = [.cells [.d .bf, .mp 1, .mp 2, .mp 3, I t.lng], .map (bQ t.sym), .map (d9 t.rws), .map (bQ (cg row k t.beg)), .cells [S row, I sy]]) row.length
    ⟨0, rfl, by omega, rfl, by rw [sU]⟩ ?_
   rintro m env H ⟨k, rfl, hk, rfl, rfl⟩
   have e1 := tk1 row k
   have f4 := dD (row.take ((k : Int) + 1).toNat) (cg row k t.beg) 0
   rw [e1] at f4
   have hbd := kR row t.beg 1000000 hN k (row.take (k + 1))
   rcases Nat.lt_or_ge k row.length with hlt | hge
   ·cases h7 : cO (row.take (k + 1)) (cg row k t.beg) 0 with
    | none =>
     rw [h7] at f4
     rw [← e1] at f4
     have hput : p9 (bQ (cg row k t.beg)) (.str (row.take ((k : Int) + 1).toNat)) (.int .i64 (0 + 1)) none = bQ (cg row (k + 1) t.beg) := by
      have := jH (cg row k t.beg) (row.take (k + 1)) (0 + 1)
      rw [h7] at this
      rw [e1, ij, lX h7]
      exact this
     repeat' (first | refine aa.aD ?_ | refine aa.aY true ?_ | refine aa.dL true ?_ | refine aa.iy true ?_ | refine aa.bL ?_ | refine aa.aR ?_ | refine aa.ah ?_ | refine aa.af ?_ | refine aa.ai ?_ | (refine aa.aP ?_; simp only [nm, nz, Nat.reduceAdd]) | (refine aa.az ?_; simp only [nm, nz, Nat.reduceAdd]) | refine aa.aX ?_ | ((first | apply aa.dX | apply aa.dW); (iterate 13 rfl); kernel_rfl; exact f4; rfl) | (apply aa.mapUpdate; (iterate 11 rfl); exact f4; simp only [List.set_cons_succ, List.set_cons_zero]) | intro _ | refine aa.aI ?_)
     exact aa.round [(62, I ((k + 1 : Nat) : Int)), (61, I row.length), (3, .ptr 4 0), (0, .ptr 0 0)] (row.length - (k + 1)) (by omega) ⟨rfl, rfl, rfl, rfl, trivial⟩ ⟨k + 1, rfl, hlt, rfl, congrArg (fun x => [aH.cells [.d .bf, .mp 1, .mp 2, .mp 3, I t.lng], aH.map (bQ t.sym), aH.map (d9 t.rws), aH.map (x), aH.cells [S row, I sy]]) hput⟩
    | some jv =>
     obtain ⟨j, v⟩ := jv
     rw [fZ h7] at hbd
     rw [h7] at f4
     rw [← e1] at f4
     have hput : p9 (bQ (cg row k t.beg)) (.str (row.take ((k : Int) + 1).toNat)) (.int .i64 (v + 1)) (some (j, .int .i64 v)) = bQ (cg row (k + 1) t.beg) := by
      have := jH (cg row k t.beg) (row.take (k + 1)) (v + 1)
      rw [h7] at this
      rw [e1, ij, fZ h7]
      exact this
     repeat' (first | refine aa.aD ?_ | refine aa.aY true ?_ | refine aa.dL true ?_ | refine aa.iy true ?_ | refine aa.bL ?_ | refine aa.aR ?_ | refine aa.ah ?_ | refine aa.af ?_ | refine aa.ai ?_ | (refine aa.aP ?_; simp only [nm, nz, Nat.reduceAdd]) | (refine aa.az ?_; simp only [nm, nz, Nat.reduceAdd]) | refine aa.aX ?_ | ((first | apply aa.dX | apply aa.dW); (iterate 13 rfl); kernel_rfl; exact f4; rfl) | (apply aa.mapUpdate; (iterate 11 rfl); exact f4; simp only [List.set_cons_succ, List.set_cons_zero]) | intro _ | refine aa.aI ?_)
     exact aa.round [(62, I ((k + 1 : Nat) : Int)), (61, I row.length), (3, .ptr 4 0), (0, .ptr 0 0)] (row.length - (k + 1)) (by omega) ⟨rfl, rfl, rfl, rfl, trivial⟩ ⟨k + 1, rfl, hlt, rfl, congrArg (fun x => [aH.cells [.d .bf, .mp 1, .mp 2, .mp 3, I t.lng], aH.map (bQ t.sym), aH.map (d9 t.rws), aH.map (x), aH.cells [S row, I sy]]) hput⟩
   ·obtain rfl : k = row.length := by omega
    repeat (first | refine aa.aD ?_ | refine aa.aY true ?_ | refine aa.dL true ?_ | refine aa.iy true ?_ | refine aa.bL ?_ | refine aa.aR ?_ | refine aa.ah ?_ | refine aa.af ?_ | refine aa.ai ?_ | (refine aa.aP ?_; simp only [nm, nz, Nat.reduceAdd]) | (refine aa.az ?_; simp only [nm, nz, Nat.reduceAdd]) | refine aa.aX ?_)
    refine aa.out rfl ⟨_, rfl, ?_⟩
    repeat (first | refine aa.aD ?_ | refine aa.aY true ?_ | refine aa.dL true ?_ | refine aa.iy true ?_ | refine aa.bL ?_ | refine aa.aR ?_ | refine aa.ah ?_ | refine aa.af ?_ | refine aa.ai ?_ | (refine aa.aP ?_; simp only [nm, nz, Nat.reduceAdd]) | (refine aa.az ?_; simp only [nm, nz, Nat.reduceAdd]) | refine aa.aX ?_)
    apply aa.Cf [1, 2]
    exact fun _ _ _ h => h
    rfl
    rfl
    decide +kernel
    rfl
    (repeat (first | exact bX.nil _ | (apply bX.cons true; rfl; rfl; rfl; rfl; rfl; first | exact True.intro | omega)))
    (apply eP.cons; (apply fG.mapEntry; rfl; rfl; rfl; rfl; rfl; rfl; rfl; rfl; rfl; rfl; rfl; kernel_rfl; rfl; rfl; exact f5; rfl))
    (apply eP.cons; (apply fG.q true; rfl; rfl; rfl; rfl; exact True.intro))
    (apply eP.cons; (apply fG.entryStore; rfl; rfl; rfl; rfl; rfl; rfl; rfl; (simp only [List.length_append, List.length_cons, List.length_nil, mr]; omega); rfl))
    (apply eP.cons; (apply fG.mapEntry; rfl; rfl; rfl; rfl; rfl; rfl; rfl; rfl; rfl; rfl; rfl; kernel_rfl; rfl; rfl; exact f1; rfl))
    (apply eP.cons; (apply fG.q true; rfl; rfl; rfl; rfl; exact True.intro))
    (apply eP.cons; (apply fG.entryStore; rfl; rfl; rfl; rfl; rfl; rfl; rfl; (simp only [List.length_append, List.length_cons, List.length_nil, mr]; omega); rfl))
    exact eP.nil _ _
    exact Nat.le_refl _
    simp only [List.set_cons_succ, List.set_cons_zero, mr, qa]
    repeat (first | refine aa.aD ?_ | refine aa.aY true ?_ | refine aa.dL true ?_ | refine aa.iy true ?_ | refine aa.bL ?_ | refine aa.aR ?_ | refine aa.ah ?_ | refine aa.af ?_ | refine aa.ai ?_ | (refine aa.aP ?_; simp only [nm, nz, Nat.reduceAdd]) | (refine aa.az ?_; simp only [nm, nz, Nat.reduceAdd]) | refine aa.aX ?_)
    apply aa.Cg
    exact fun _ _ _ h => h
    rfl
    rfl
    decide +kernel
    (repeat (first | exact bX.nil _ | (apply bX.cons true; rfl; rfl; rfl; rfl; rfl; first | exact True.intro | omega)))
    (apply StepB.buildSlice; rfl; rfl; rfl; rfl; rfl; rfl; rfl; rfl; rfl; rfl; rfl)
    exact Nat.le_refl _
    repeat' (first | refine aa.aD ?_ | (apply aa.Cy; (iterate 10 rfl); (first | (simp only [List.length_append, List.length_map, List.length_cons, List.length_nil]; omega) | (simp only [dG, List.length_cons, List.length_nil]; omega)); simp only [List.nil_append, List.cons_append, List.length_nil, List.length_cons, Nat.reduceAdd]) | ((first | apply aa.q true | apply aa.qq true | apply aa.sq true); rfl; rfl; rfl; rfl; first | exact True.intro | omega | (simp only [tn, Int.reduceToNat]; omega) | (simp only [dG, List.length_cons, List.length_nil]; omega)) | refine aa.bL ?_ | refine aa.aR ?_ | refine aa.ah ?_ | refine aa.af ?_ | refine aa.ai ?_ | (refine aa.aP ?_; simp only [nm, nz, Nat.reduceAdd]) | (refine aa.az ?_; simp only [nm, nz, Nat.reduceAdd]) | refine aa.aX ?_ | intro _ | refine aa.aI ?_)
    (apply aa.xX 6; rfl; rfl; rfl; rfl; rfl)
    refine ⟨rfl, ?_⟩
    have s1 : iE (bQ t.sym ++ [(.str row, .int .i64 0)]) ((bQ t.sym).length : Int).toNat (.int .i64 0) = bQ (gh t row sy).sym := by
     rw [gZ _ _ _ _ _ rfl]; unfold gh; rw [nO, hc]; rfl
    have s2 : iE (d9 t.rws ++ [(.int .i64 sy, .int .i64 0)]) ((d9 t.rws).length : Int).toNat (.int .i64 0) = d9 (gh t row sy).rws := by
     rw [gZ _ _ _ _ _ rfl]; unfold gh; rw [nX, hc]; rfl
    have s3 : ba (gh t row sy).codes = [kO (row, sy)] := by unfold gh; rw [hc]; exact uC _
    unfold HF
    rw [← s1, ← s2, s3]
    rfl
theorem DW (t : Tb) (row : List UInt8) (sy : Int) (hrow : row.length ≤ 1000000) (hb : uW t row sy = true) (hN : ∀ w, 0 ≤ iJ w t.beg ∧ iJ w t.beg ≤ 1000000) (hl : -1000000 ≤ t.lng ∧ t.lng ≤ 1000000) (hc : t.codes.length ≤ 1000000) :
  ACalls (cxg gl) 172 [.ptr 0 0, .d (kO (row, sy))] (HL t) (fun r H => r = B true ∧ H = HL (gh t row sy)) := by
 obtain ⟨h1, hr2, h3, hw4⟩ := (uO t row sy).1 hb
 have f1 : jk (.int .i64 sy) (d9 t.rws) 0 = some none := by rw [oW, h1]; rfl
 have f2 := dD row t.beg 0
 have hr := nR (gl := gl) row (by omega)
 rw [hr2] at hr
 have hne : 0 < row.length := vk row hr2
 have h55 := hw4 (row.length - 1) (by omega)
 rw [show row.length - 1 + 1 = row.length by omega, List.take_length] at h55
 have f5 : jk (.str row) (bQ t.sym) 0 = some none := by rw [dD, h55]; rfl
 unfold HL kO
 cases h4 : cO row t.beg 0 with
 | none =>
  rw [h4] at f2
  refine ACalls.enter Tryz.func172 rfl Tryz.ntmps172 (by kernel_rfl) rfl ?_; simp only [aB, nm, Nat.reduceAdd]
  repeat (first | refine aa.aD ?_ | refine aa.aY true ?_ | refine aa.dL true ?_ | refine aa.iy true ?_ | refine aa.aL (hr) ?_ | refine aa.bL ?_ | refine aa.aR ?_ | refine aa.ah ?_ | refine aa.af ?_ | refine aa.ai ?_ | (refine aa.aP ?_; simp only [nm, nz, Nat.reduceAdd]) | (refine aa.az ?_; simp only [nm, nz, Nat.reduceAdd]) | refine aa.aX ?_ | ((first | apply aa.dX | apply aa.dW); (iterate 13 rfl); kernel_rfl; exact f1; rfl) | ((first | apply aa.dX | apply aa.dW); (iterate 13 rfl); kernel_rfl; exact f2; rfl))
  refine aa.weak (env' := [(41, I 0), (40, I row.length), (3, .ptr 5 0), (0, .ptr 0 0)]) ⟨rfl, rfl, rfl, rfl, trivial⟩ ?_
  refine aa.loop (fun m env H => ∃ k : Nat, m = row.length - k ∧ k ≤ row.length ∧ (∀ n, n < k → cO (row.take (n + 1)) t.sym 0 = none) ∧ env = [(41, I (k : Int)), (40, I row.length), (3, .ptr 5 0), (0, .ptr 0 0)] ∧ H = [.cells [.own 2 (ba t.codes) 4, .mp 1, .mp 2, .mp 3, I t.lng], .map (bQ t.sym), .map (d9 t.rws), .map (bQ t.beg), .front 199 2 (ba t.codes).length, .cells [S row, I sy]]) row.length
   ⟨0, rfl, by omega, fun n hn => absurd hn (by omega), rfl, rfl⟩ ?_
  rintro m env H ⟨k, rfl, hk, hw, rfl, rfl⟩
  have e1 := tk1 row k
  have f3 := dD (row.take ((k : Int) + 1).toNat) t.sym 0
  rw [e1] at f3
  rcases Nat.lt_or_ge k row.length with hlt | hge
  ·have h6 := hw4 k hlt
   rw [h6] at f3
   rw [← e1] at f3
   repeat' (first | refine aa.aD ?_ | refine aa.aY true ?_ | refine aa.dL true ?_ | refine aa.iy true ?_ | refine aa.bL ?_ | refine aa.aR ?_ | refine aa.ah ?_ | refine aa.af ?_ | refine aa.ai ?_ | (refine aa.aP ?_; simp only [nm, nz, Nat.reduceAdd]) | (refine aa.az ?_; simp only [nm, nz, Nat.reduceAdd]) | refine aa.aX ?_ | ((first | apply aa.dX | apply aa.dW); (iterate 13 rfl); kernel_rfl; exact f3; rfl) | intro _ | refine aa.au ?_ | refine aa.aI ?_)
   exact aa.round [(41, I ((k + 1 : Nat) : Int)), (40, I row.length), (3, .ptr 5 0), (0, .ptr 0 0)] (row.length - (k + 1)) (by omega) ⟨rfl, rfl, rfl, rfl, trivial⟩ ⟨k + 1, rfl, hlt, fun n _ => hw4 n (by omega), rfl, rfl⟩
  ·obtain rfl : k = row.length := by omega
   repeat' (first | refine aa.aD ?_ | refine aa.aY true ?_ | refine aa.dL true ?_ | refine aa.iy true ?_ | refine aa.bL ?_ | refine aa.aR ?_ | refine aa.ah ?_ | refine aa.af ?_ | refine aa.ai ?_ | (refine aa.aP ?_; simp only [nm, nz, Nat.reduceAdd]) | (refine aa.az ?_; simp only [nm, nz, Nat.reduceAdd]) | refine aa.aX ?_ | intro _ | refine aa.au ?_ | refine aa.aI ?_)
   refine aa.weak (env' := [(62, I 0), (61, I row.length), (3, .ptr 5 0), (0, .ptr 0 0)]) ⟨rfl, rfl, rfl, rfl, trivial⟩ ?_
   refine aa.loop (fun m env H => ∃ k : Nat, m = row.length - k ∧ k ≤ row.length ∧ env = [(62, I (k : Int)), (61, I row.length), (3, .ptr 5 0), (0, .ptr 0 0)] ∧ H = [.cells [.own 2 (ba t.codes) 4, .mp 1, .mp 2, .mp 3, I t.lng], .map (bQ t.sym), .map (d9 t.rws), .map (bQ (cg row k t.beg)), .front 199 2 (ba t.codes).length, .cells [S row, I sy]]) row.length
    ⟨0, rfl, by omega, rfl, by rw [sU]⟩ ?_
   rintro m env H ⟨k, rfl, hk, rfl, rfl⟩
   have e1 := tk1 row k
   have f4 := dD (row.take ((k : Int) + 1).toNat) (cg row k t.beg) 0
   rw [e1] at f4
   have hbd := kR row t.beg 1000000 hN k (row.take (k + 1))
   rcases Nat.lt_or_ge k row.length with hlt | hge
   ·cases h7 : cO (row.take (k + 1)) (cg row k t.beg) 0 with
    | none =>
     rw [h7] at f4
     rw [← e1] at f4
     have hput : p9 (bQ (cg row k t.beg)) (.str (row.take ((k : Int) + 1).toNat)) (.int .i64 (0 + 1)) none = bQ (cg row (k + 1) t.beg) := by
      have := jH (cg row k t.beg) (row.take (k + 1)) (0 + 1)
      rw [h7] at this
      rw [e1, ij, lX h7]
      exact this
     repeat' (first | refine aa.aD ?_ | refine aa.aY true ?_ | refine aa.dL true ?_ | refine aa.iy true ?_ | refine aa.bL ?_ | refine aa.aR ?_ | refine aa.ah ?_ | refine aa.af ?_ | refine aa.ai ?_ | (refine aa.aP ?_; simp only [nm, nz, Nat.reduceAdd]) | (refine aa.az ?_; simp only [nm, nz, Nat.reduceAdd]) | refine aa.aX ?_ | ((first | apply aa.dX | apply aa.dW); (iterate 13 rfl); kernel_rfl; exact f4; rfl) | (apply aa.mapUpdate; (iterate 11 rfl); exact f4; simp only [List.set_cons_succ, List.set_cons_zero]) | intro _ | refine aa.au ?_ | refine aa.aI ?_)
     exact aa.round [(62, I ((k + 1 : Nat) : Int)), (61, I row.length), (3, .ptr 5 0), (0, .ptr 0 0)] (row.length - (k + 1)) (by omega) ⟨rfl, rfl, rfl, rfl, trivial⟩ ⟨k + 1, rfl, hlt, rfl, congrArg (fun x => [aH.cells [.own 2 (ba t.codes) 4, .mp 1, .mp 2, .mp 3, I t.lng], aH.map (bQ t.sym), aH.map (d9 t.rws), aH.map (x), aH.front 199 2 (ba t.codes).length, aH.cells [S row, I sy]]) hput⟩
    | some jv =>
     obtain ⟨j, v⟩ := jv
     rw [fZ h7] at hbd
     rw [h7] at f4
     rw [← e1] at f4
     have hput : p9 (bQ (cg row k t.beg)) (.str (row.take ((k : Int) + 1).toNat)) (.int .i64 (v + 1)) (some (j, .int .i64 v)) = bQ (cg row (k + 1) t.beg) := by
      have := jH (cg row k t.beg) (row.take (k + 1)) (v + 1)
      rw [h7] at this
      rw [e1, ij, fZ h7]
      exact this
     repeat' (first | refine aa.aD ?_ | refine aa.aY true ?_ | refine aa.dL true ?_ | refine aa.iy true ?_ | refine aa.bL ?_ | refine aa.aR ?_ | refine aa.ah ?_ | refine aa.af ?_ | refine aa.ai ?_ | (refine aa.aP ?_; simp only [nm, nz, Nat.reduceAdd]) | (refine aa.az ?_; simp only [nm, nz, Nat.reduceAdd]) | refine aa.aX ?_ | ((first | apply aa.dX | apply aa.dW); (iterate 13 rfl); kernel_rfl; exact f4; rfl) | (apply aa.mapUpdate; (iterate 11 rfl); exact f4; simp only [List.set_cons_succ, List.set_cons_zero]) | intro _ | refine aa.au ?_ | refine aa.aI ?_)
     exact aa.round [(62, I ((k + 1 : Nat) : Int)), (61, I row.length), (3, .ptr 5 0), (0, .ptr 0 0)] (row.length - (k + 1)) (by omega) ⟨rfl, rfl, rfl, rfl, trivial⟩ ⟨k + 1, rfl, hlt, rfl, congrArg (fun x => [aH.cells [.own 2 (ba t.codes) 4, .mp 1, .mp 2, .mp 3, I t.lng], aH.map (bQ t.sym), aH.map (d9 t.rws), aH.map (x), aH.front 199 2 (ba t.codes).length, aH.cells [S row, I sy]]) hput⟩
   ·obtain rfl : k = row.length := by omega
    repeat (first | refine aa.aD ?_ | refine aa.aY true ?_ | refine aa.dL true ?_ | refine aa.iy true ?_ | refine aa.bL ?_ | refine aa.aR ?_ | refine aa.ah ?_ | refine aa.af ?_ | refine aa.ai ?_ | (refine aa.aP ?_; simp only [nm, nz, Nat.reduceAdd]) | (refine aa.az ?_; simp only [nm, nz, Nat.reduceAdd]) | refine aa.aX ?_)
    refine aa.out rfl ⟨_, rfl, ?_⟩
    repeat (first | refine aa.aD ?_ | refine aa.aY true ?_ | refine aa.dL true ?_ | refine aa.iy true ?_ | refine aa.bL ?_ | refine aa.aR ?_ | refine aa.ah ?_ | refine aa.af ?_ | refine aa.ai ?_ | (refine aa.aP ?_; simp only [nm, nz, Nat.reduceAdd]) | (refine aa.az ?_; simp only [nm, nz, Nat.reduceAdd]) | refine aa.aX ?_)
    apply aa.Cf [1, 2]
    exact fun _ _ _ h => h
    rfl
    rfl
    decide +kernel
    rfl
    (repeat (first | exact bX.nil _ | (apply bX.cons true; rfl; rfl; rfl; rfl; rfl; first | exact True.intro | omega)))
    (apply eP.cons; (apply fG.mapEntry; rfl; rfl; rfl; rfl; rfl; rfl; rfl; rfl; rfl; rfl; rfl; kernel_rfl; rfl; rfl; exact f5; rfl))
    (apply eP.cons; (apply fG.q true; rfl; rfl; rfl; rfl; exact True.intro))
    (apply eP.cons; (apply fG.entryStore; rfl; rfl; rfl; rfl; rfl; rfl; rfl; (simp only [List.length_append, List.length_cons, List.length_nil, mr]; omega); rfl))
    (apply eP.cons; (apply fG.mapEntry; rfl; rfl; rfl; rfl; rfl; rfl; rfl; rfl; rfl; rfl; rfl; kernel_rfl; rfl; rfl; exact f1; rfl))
    (apply eP.cons; (apply fG.q true; rfl; rfl; rfl; rfl; exact True.intro))
    (apply eP.cons; (apply fG.entryStore; rfl; rfl; rfl; rfl; rfl; rfl; rfl; (simp only [List.length_append, List.length_cons, List.length_nil, mr]; omega); rfl))
    exact eP.nil _ _
    exact Nat.le_refl _
    simp only [List.set_cons_succ, List.set_cons_zero, mr, qa]
    repeat (first | refine aa.aD ?_ | refine aa.aY true ?_ | refine aa.dL true ?_ | refine aa.iy true ?_ | refine aa.bL ?_ | refine aa.aR ?_ | refine aa.ah ?_ | refine aa.af ?_ | refine aa.ai ?_ | (refine aa.aP ?_; simp only [nm, nz, Nat.reduceAdd]) | (refine aa.az ?_; simp only [nm, nz, Nat.reduceAdd]) | refine aa.aX ?_)
    apply aa.Cg
    exact fun _ _ _ h => h
    rfl
    rfl
    decide +kernel
    (repeat (first | exact bX.nil _ | (apply bX.cons true; rfl; rfl; rfl; rfl; rfl; first | exact True.intro | omega)))
    (apply StepB.buildSlice; rfl; rfl; rfl; rfl; rfl; rfl; rfl; rfl; rfl; rfl; rfl)
    exact Nat.le_refl _
    repeat' (first | refine aa.aD ?_ | (apply aa.append; (iterate 11 rfl); (first | rfl | (simp only [List.length_append, List.length_map, List.length_cons, List.length_nil]; omega)); (first | (simp only [List.length_append, List.length_map, List.length_cons, List.length_nil]; omega) | (simp only [dG, List.length_cons, List.length_nil]; omega)); simp only [List.set_cons_zero, List.set_cons_succ]) | ((first | apply aa.q true | apply aa.qq true | apply aa.sq true); rfl; rfl; rfl; rfl; first | exact True.intro | omega | (simp only [tn, Int.reduceToNat]; omega) | (simp only [dG, List.length_cons, List.length_nil]; omega)) | refine aa.bL ?_ | refine aa.aR ?_ | refine aa.ah ?_ | refine aa.af ?_ | refine aa.ai ?_ | (refine aa.aP ?_; simp only [nm, nz, Nat.reduceAdd]) | (refine aa.az ?_; simp only [nm, nz, Nat.reduceAdd]) | refine aa.aX ?_ | intro _ | refine aa.au ?_ | refine aa.aI ?_)
    all_goals refine ⟨rfl, ?_⟩
    have s1 : iE (bQ t.sym ++ [(.str row, .int .i64 0)]) ((bQ t.sym).length : Int).toNat (.int .i64 (ba t.codes).length) = bQ (gh t row sy).sym := by
     rw [gZ _ _ _ _ _ rfl]; unfold gh; rw [nO, dG]
    have s2 : iE (d9 t.rws ++ [(.int .i64 sy, .int .i64 0)]) ((d9 t.rws).length : Int).toNat (.int .i64 (ba t.codes).length) = d9 (gh t row sy).rws := by
     rw [gZ _ _ _ _ _ rfl]; unfold gh; rw [nX, dG]
    have s3 : ba (gh t row sy).codes = ba t.codes ++ [kO (row, sy)] := by unfold gh; exact rV _ _
    rw [← s1, ← s2, s3]
    rfl
 | some jv =>
  obtain ⟨j, v⟩ := jv
  rw [h4] at f2
  have h5 := fZ h4
  rw [h5] at h3
  refine ACalls.enter Tryz.func172 rfl Tryz.ntmps172 (by kernel_rfl) rfl ?_; simp only [aB, nm, Nat.reduceAdd]
  repeat (first | refine aa.aD ?_ | refine aa.aY true ?_ | refine aa.dL true ?_ | refine aa.iy true ?_ | refine aa.aL (hr) ?_ | refine aa.bL ?_ | refine aa.aR ?_ | refine aa.ah ?_ | refine aa.af ?_ | refine aa.ai ?_ | (refine aa.aP ?_; simp only [nm, nz, Nat.reduceAdd]) | (refine aa.az ?_; simp only [nm, nz, Nat.reduceAdd]) | refine aa.aX ?_ | ((first | apply aa.dX | apply aa.dW); (iterate 13 rfl); kernel_rfl; exact f1; rfl) | ((first | apply aa.dX | apply aa.dW); (iterate 13 rfl); kernel_rfl; exact f2; rfl))
  refine aa.weak (env' := [(41, I 0), (40, I row.length), (3, .ptr 5 0), (0, .ptr 0 0)]) ⟨rfl, rfl, rfl, rfl, trivial⟩ ?_
  refine aa.loop (fun m env H => ∃ k : Nat, m = row.length - k ∧ k ≤ row.length ∧ (∀ n, n < k → cO (row.take (n + 1)) t.sym 0 = none) ∧ env = [(41, I (k : Int)), (40, I row.length), (3, .ptr 5 0), (0, .ptr 0 0)] ∧ H = [.cells [.own 2 (ba t.codes) 4, .mp 1, .mp 2, .mp 3, I t.lng], .map (bQ t.sym), .map (d9 t.rws), .map (bQ t.beg), .front 199 2 (ba t.codes).length, .cells [S row, I sy]]) row.length
   ⟨0, rfl, by omega, fun n hn => absurd hn (by omega), rfl, rfl⟩ ?_
  rintro m env H ⟨k, rfl, hk, hw, rfl, rfl⟩
  have e1 := tk1 row k
  have f3 := dD (row.take ((k : Int) + 1).toNat) t.sym 0
  rw [e1] at f3
  rcases Nat.lt_or_ge k row.length with hlt | hge
  ·have h6 := hw4 k hlt
   rw [h6] at f3
   rw [← e1] at f3
   repeat' (first | refine aa.aD ?_ | refine aa.aY true ?_ | refine aa.dL true ?_ | refine aa.iy true ?_ | refine aa.bL ?_ | refine aa.aR ?_ | refine aa.ah ?_ | refine aa.af ?_ | refine aa.ai ?_ | (refine aa.aP ?_; simp only [nm, nz, Nat.reduceAdd]) | (refine aa.az ?_; simp only [nm, nz, Nat.reduceAdd]) | refine aa.aX ?_ | ((first | apply aa.dX | apply aa.dW); (iterate 13 rfl); kernel_rfl; exact f3; rfl) | intro _ | refine aa.au ?_ | refine aa.aI ?_)
   exact aa.round [(41, I ((k + 1 : Nat) : Int)), (40, I row.length), (3, .ptr 5 0), (0, .ptr 0 0)] (row.length - (k + 1)) (by omega) ⟨rfl, rfl, rfl, rfl, trivial⟩ ⟨k + 1, rfl, hlt, fun n _ => hw4 n (by omega), rfl, rfl⟩
  ·obtain rfl : k = row.length := by omega
   repeat' (first | refine aa.aD ?_ | refine aa.aY true ?_ | refine aa.dL true ?_ | refine aa.iy true ?_ | refine aa.bL ?_ | refine aa.aR ?_ | refine aa.ah ?_ | refine aa.af ?_ | refine aa.ai ?_ | (refine aa.aP ?_; simp only [nm, nz, Nat.reduceAdd]) | (refine aa.az ?_; simp only [nm, nz, Nat.reduceAdd]) | refine aa.aX ?_ | intro _ | refine aa.au ?_ | refine aa.aI ?_)
   refine aa.weak (env' := [(62, I 0), (61, I row.length), (3, .ptr 5 0), (0, .ptr 0 0)]) ⟨rfl, rfl, rfl, rfl, trivial⟩ ?_
   refine aa.loop (fun m env H => ∃ k : Nat, m = row.length - k ∧ k ≤ row.length ∧ env = [(62, I (k : Int)), (61, I row.length), (3, .ptr 5 0), (0, .ptr 0 0)] ∧ H = [.cells [.own 2 (ba t.codes) 4, .mp 1, .mp 2, .mp 3, I t.lng], .map (bQ t.sym), .map (d9 t.rws), .map (bQ (cg row k t.beg)), .front 199 2 (ba t.codes).length, .cells [S row, I sy]]) row.length
    ⟨0, rfl, by omega, rfl, by rw [sU]⟩ ?_
   rintro m env H ⟨k, rfl, hk, rfl, rfl⟩
   have e1 := tk1 row k
   have f4 := dD (row.take ((k : Int) + 1).toNat) (cg row k t.beg) 0
   rw [e1] at f4
   have hbd := kR row t.beg 1000000 hN k (row.take (k + 1))
   rcases Nat.lt_or_ge k row.length with hlt | hge
   ·cases h7 : cO (row.take (k + 1)) (cg row k t.beg) 0 with
    | none =>
     rw [h7] at f4
     rw [← e1] at f4
     have hput : p9 (bQ (cg row k t.beg)) (.str (row.take ((k : Int) + 1).toNat)) (.int .i64 (0 + 1)) none = bQ (cg row (k + 1) t.beg) := by
      have := jH (cg row k t.beg) (row.take (k + 1)) (0 + 1)
      rw [h7] at this
      rw [e1, ij, lX h7]
      exact this
     repeat' (first | refine aa.aD ?_ | refine aa.aY true ?_ | refine aa.dL true ?_ | refine aa.iy true ?_ | refine aa.bL ?_ | refine aa.aR ?_ | refine aa.ah ?_ | refine aa.af ?_ | refine aa.ai ?_ | (refine aa.aP ?_; simp only [nm, nz, Nat.reduceAdd]) | (refine aa.az ?_; simp only [nm, nz, Nat.reduceAdd]) | refine aa.aX ?_ | ((first | apply aa.dX | apply aa.dW); (iterate 13 rfl); kernel_rfl; exact f4; rfl) | (apply aa.mapUpdate; (iterate 11 rfl); exact f4; simp only [List.set_cons_succ, List.set_cons_zero]) | intro _ | refine aa.au ?_ | refine aa.aI ?_)
     exact aa.round [(62, I ((k + 1 : Nat) : Int)), (61, I row.length), (3, .ptr 5 0), (0, .ptr 0 0)] (row.length - (k + 1)) (by omega) ⟨rfl, rfl, rfl, rfl, trivial⟩ ⟨k + 1, rfl, hlt, rfl, congrArg (fun x => [aH.cells [.own 2 (ba t.codes) 4, .mp 1, .mp 2, .mp 3, I t.lng], aH.map (bQ t.sym), aH.map (d9 t.rws), aH.map (x), aH.front 199 2 (ba t.codes).length, aH.cells [S row, I sy]]) hput⟩
    | some jv =>
     obtain ⟨j, v⟩ := jv
     rw [fZ h7] at hbd
     rw [h7] at f4
     rw [← e1] at f4
     have hput : p9 (bQ (cg row k t.beg)) (.str (row.take ((k : Int) + 1).toNat)) (.int .i64 (v + 1)) (some (j, .int .i64 v)) = bQ (cg row (k + 1) t.beg) := by
      have := jH (cg row k t.beg) (row.take (k + 1)) (v + 1)
      rw [h7] at this
      rw [e1, ij, fZ h7]
      exact this
     repeat' (first | refine aa.aD ?_ | refine aa.aY true ?_ | refine aa.dL true ?_ | refine aa.iy true ?_ | refine aa.bL ?_ | refine aa.aR ?_ | refine aa.ah ?_ | refine aa.af ?_ | refine aa.ai ?_ | (refine aa.aP ?_; simp only [nm, nz, Nat.reduceAdd]) | (refine aa.az ?_; simp only [nm, nz, Nat.reduceAdd]) | refine aa.aX ?_ | ((first | apply aa.dX | apply aa.dW); (iterate 13 rfl); kernel_rfl; exact f4; rfl) | (apply aa.mapUpdate; (iterate 11 rfl); exact f4; simp only [List.set_cons_succ, List.set_cons_zero]) | intro _ | refine aa.au ?_ | refine aa.aI ?_)
     exact aa.round [(62, I ((k + 1 : Nat) : Int)), (61, I row.length), (3, .ptr 5 0), (0, .ptr 0 0)] (row.length - (k + 1)) (by omega) ⟨rfl, rfl, rfl, rfl, trivial⟩ ⟨k + 1, rfl, hlt, rfl, congrArg (fun x => [aH.cells [.own 2 (ba t.codes) 4, .mp 1, .mp 2, .mp 3, I t.lng], aH.map (bQ t.sym), aH.map (d9 t.rws), aH.map (x), aH.front 199 2 (ba t.codes).length, aH.cells [S row, I sy]]) hput⟩
   ·obtain rfl : k = row.length := by omega
    repeat (first | refine aa.aD ?_ | refine aa.aY true ?_ | refine aa.dL true ?_ | refine aa.iy true ?_ | refine aa.bL ?_ | refine aa.aR ?_ | refine aa.ah ?_ | refine aa.af ?_ | refine aa.ai ?_ | (refine aa.aP ?_; simp only [nm, nz, Nat.reduceAdd]) | (refine aa.az ?_; simp only [nm, nz, Nat.reduceAdd]) | refine aa.aX ?_)
    refine aa.out rfl ⟨_, rfl, ?_⟩
    repeat (first | refine aa.aD ?_ | refine aa.aY true ?_ | refine aa.dL true ?_ | refine aa.iy true ?_ | refine aa.bL ?_ | refine aa.aR ?_ | refine aa.ah ?_ | refine aa.af ?_ | refine aa.ai ?_ | (refine aa.aP ?_; simp only [nm, nz, Nat.reduceAdd]) | (refine aa.az ?_; simp only [nm, nz, Nat.reduceAdd]) | refine aa.aX ?_)
    apply aa.Cf [1, 2]
    exact fun _ _ _ h => h
    rfl
    rfl
    decide +kernel
    rfl
    (repeat (first | exact bX.nil _ | (apply bX.cons true; rfl; rfl; rfl; rfl; rfl; first | exact True.intro | omega)))
    (apply eP.cons; (apply fG.mapEntry; rfl; rfl; rfl; rfl; rfl; rfl; rfl; rfl; rfl; rfl; rfl; kernel_rfl; rfl; rfl; exact f5; rfl))
    (apply eP.cons; (apply fG.q true; rfl; rfl; rfl; rfl; exact True.intro))
    (apply eP.cons; (apply fG.entryStore; rfl; rfl; rfl; rfl; rfl; rfl; rfl; (simp only [List.length_append, List.length_cons, List.length_nil, mr]; omega); rfl))
    (apply eP.cons; (apply fG.mapEntry; rfl; rfl; rfl; rfl; rfl; rfl; rfl; rfl; rfl; rfl; rfl; kernel_rfl; rfl; rfl; exact f1; rfl))
    (apply eP.cons; (apply fG.q true; rfl; rfl; rfl; rfl; exact True.intro))
    (apply eP.cons; (apply fG.entryStore; rfl; rfl; rfl; rfl; rfl; rfl; rfl; (simp only [List.length_append, List.length_cons, List.length_nil, mr]; omega); rfl))
    exact eP.nil _ _
    exact Nat.le_refl _
    simp only [List.set_cons_succ, List.set_cons_zero, mr, qa]
    repeat (first | refine aa.aD ?_ | refine aa.aY true ?_ | refine aa.dL true ?_ | refine aa.iy true ?_ | refine aa.bL ?_ | refine aa.aR ?_ | refine aa.ah ?_ | refine aa.af ?_ | refine aa.ai ?_ | (refine aa.aP ?_; simp only [nm, nz, Nat.reduceAdd]) | (refine aa.az ?_; simp only [nm, nz, Nat.reduceAdd]) | refine aa.aX ?_)
    apply aa.Cg
    exact fun _ _ _ h => h
    rfl
    rfl
    decide +kernel
    (repeat (first | exact bX.nil _ | (apply bX.cons true; rfl; rfl; rfl; rfl; rfl; first | exact True.intro | omega)))
    (apply StepB.buildSlice; rfl; rfl; rfl; rfl; rfl; rfl; rfl; rfl; rfl; rfl; rfl)
    exact Nat.le_refl _
    repeat' (first | refine aa.aD ?_ | (apply aa.append; (iterate 11 rfl); (first | rfl | (simp only [List.length_append, List.length_map, List.length_cons, List.length_nil]; omega)); (first | (simp only [List.length_append, List.length_map, List.length_cons, List.length_nil]; omega) | (simp only [dG, List.length_cons, List.length_nil]; omega)); simp only [List.set_cons_zero, List.set_cons_succ]) | ((first | apply aa.q true | apply aa.qq true | apply aa.sq true); rfl; rfl; rfl; rfl; first | exact True.intro | omega | (simp only [tn, Int.reduceToNat]; omega) | (simp only [dG, List.length_cons, List.length_nil]; omega)) | refine aa.bL ?_ | refine aa.aR ?_ | refine aa.ah ?_ | refine aa.af ?_ | refine aa.ai ?_ | (refine aa.aP ?_; simp only [nm, nz, Nat.reduceAdd]) | (refine aa.az ?_; simp only [nm, nz, Nat.reduceAdd]) | refine aa.aX ?_ | intro _ | refine aa.au ?_ | refine aa.aI ?_)
    all_goals refine ⟨rfl, ?_⟩
    have s1 : iE (bQ t.sym ++ [(.str row, .int .i64 0)]) ((bQ t.sym).length : Int).toNat (.int .i64 (ba t.codes).length) = bQ (gh t row sy).sym := by
     rw [gZ _ _ _ _ _ rfl]; unfold gh; rw [nO, dG]
    have s2 : iE (d9 t.rws ++ [(.int .i64 sy, .int .i64 0)]) ((d9 t.rws).length : Int).toNat (.int .i64 (ba t.codes).length) = d9 (gh t row sy).rws := by
     rw [gZ _ _ _ _ _ rfl]; unfold gh; rw [nX, dG]
    have s3 : ba (gh t row sy).codes = ba t.codes ++ [kO (row, sy)] := by unfold gh; exact rV _ _
    rw [← s1, ← s2, s3]
    rfl
end Px
end Go.Proofs.YtbfojhfiemcnpaaGreatDoor.Av
