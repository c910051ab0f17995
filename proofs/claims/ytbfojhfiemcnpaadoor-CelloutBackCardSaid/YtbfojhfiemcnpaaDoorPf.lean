/- prefix's add: a code is taken in. -/
import Derived.Test.YtbfojhfiemcnpaaDoorPe
import Derived.Test.YtbfojhfiemcnpaaDoorPn
/- prefix's add: a code is taken in. -/
set_option linter.unusedSimpArgs false
set_option linter.unusedVariables false
set_option maxRecDepth 100000
namespace Go.Proofs.YtbfojhfiemcnpaaDoor.Av.Px
open Go Bt
attribute [local irreducible] AGo ACalls
variable {gl : List (Nat × List D)}
theorem codesD_one (p : List UInt8 × Int) : codesD ([] ++ [p]) = [codeD p] := rfl
/-- a table's objects behind the first code -/
def tob2 (t : Tb) (row : List UInt8) (sy : Int) : List AObj := [.cells [.own 2 (codesD t.codes) 5, .mp 1, .mp 2, .mp 3, I t.lng], .map (smap t.sym), .map (imap t.rws), .map (smap t.beg), .cells [S row, I sy], .front 99 2 (codesD t.codes).length]
theorem bumps_succ (row : List UInt8) (k : Nat) (l : List (List UInt8 × Int)) : bumps row (k + 1) l = gput (bumps row k l) (row.take (k + 1)) (gval (row.take (k + 1)) (bumps row k l) + 1) := rfl
theorem bumps_0 (row : List UInt8) (l : List (List UInt8 × Int)) : bumps row 0 l = l := rfl
theorem right_pos (row : List UInt8) (h : rightB row = true) : 0 < row.length := by
  unfold rightB at h
  rcases row with _ | ⟨c, r⟩
  · simp at h
  · simp
attribute [local irreducible] smap imap codesD rightB bumps
set_option maxHeartbeats 8000000 in
theorem add_good0 (t : Tb) (row : List UInt8) (sy : Int) (hrow : row.length ≤ 1000000) (hb : addB t row sy = true) (hN : ∀ w, 0 ≤ gval w t.beg ∧ gval w t.beg ≤ 1000000) (hl : -1000000 ≤ t.lng ∧ t.lng ≤ 1000000) (hc : t.codes = []) :
    ACalls (cxg gl) 74 [.ptr 0 0, .d (codeD (row, sy))] (tob0 t) (fun r H => r = B true ∧ H = tob2 (addT t row sy) row sy) := by
  obtain ⟨h1, hr2, h3, hw4⟩ := (addB_iff t row sy).1 hb
  have f1 : mfind (.int .i64 sy) (imap t.rws) 0 = some none := by rw [mfind_imap, h1]; rfl
  have f2 := mfind_smap row t.beg 0
  have hr := right_c (gl := gl) row (by omega)
  rw [hr2] at hr
  have hne : 0 < row.length := right_pos row hr2
  have h55 := hw4 (row.length - 1) (by omega)
  rw [show row.length - 1 + 1 = row.length by omega, List.take_length] at h55
  have f5 : mfind (.str row) (smap t.sym) 0 = some none := by rw [mfind_smap, h55]; rfl
  unfold tob0 codeD
  cases h4 : gfind row t.beg 0 with
  | none =>
    rw [h4] at f2
    refine ACalls.enter Tryd.func74 rfl Tryd.ntmps74 (by kernel_rfl) rfl ?_; simp only [argEnv, Nat.reduceAdd, List.length_nil, List.length_cons]
    repeat (first | apply AGo.seq | apply AGo.block | apply AGo.blk | apply AGo.skip | apply AGo.nil | apply AGo.qnil | apply AGo.snil | (apply AGo.region; rfl) | ((first | apply AGo.q true | apply AGo.qq true | apply AGo.sq true); rfl; rfl; rfl; rfl; first | exact True.intro | omega | (simp only [Int.toNat_natCast, Int.reduceToNat, IntKind.bits]; omega)) | (apply AGo.qcallP (hr); (iterate 7 rfl)) | (apply AGo.drawT; rfl; rfl; rfl; decide +kernel) | (apply AGo.drawQ; rfl; rfl; decide +kernel) | (apply AGo.condDT; rfl; first | omega | rfl) | (apply AGo.condDF; rfl; omega) | (apply AGo.condF; rfl) | (apply AGo.box; (iterate 6 rfl); simp only [nm, Nat.reduceAdd, spliceA, AV.cells, D.cells]) | (apply AGo.store; (iterate 9 rfl); exact Nat.le_of_ble_eq_true rfl; simp only [nm, Nat.reduceAdd, spliceA, AV.cells, D.cells]) | (apply AGo.qunguard; rfl; rfl) | ((first | apply AGo.qlookup | apply AGo.slookup); (iterate 13 rfl); kernel_rfl; exact f1; rfl) | ((first | apply AGo.qlookup | apply AGo.slookup); (iterate 13 rfl); kernel_rfl; exact f2; rfl))
    refine AGo.weak (env' := [(41, I 0), (40, I row.length), (3, .ptr 4 0), (0, .ptr 0 0)]) ⟨rfl, rfl, rfl, rfl, trivial⟩ ?_
    refine AGo.loop (fun m env H => ∃ k : Nat, m = row.length - k ∧ k ≤ row.length ∧ (∀ n, n < k → gfind (row.take (n + 1)) t.sym 0 = none) ∧ env = [(41, I (k : Int)), (40, I row.length), (3, .ptr 4 0), (0, .ptr 0 0)] ∧ H = [.cells [.d .nils, .mp 1, .mp 2, .mp 3, I t.lng], .map (smap t.sym), .map (imap t.rws), .map (smap t.beg), .cells [S row, I sy]]) row.length
      ⟨0, rfl, by omega, fun n hn => absurd hn (by omega), rfl, rfl⟩ ?_
    rintro m env H ⟨k, rfl, hk, hw, rfl, rfl⟩
    have e1 := tk1 row k
    have f3 := mfind_smap (row.take ((k : Int) + 1).toNat) t.sym 0
    rw [e1] at f3
    rcases Nat.lt_or_ge k row.length with hlt | hge
    · have h6 := hw4 k hlt
      rw [h6] at f3
      rw [← e1] at f3
      repeat' (first | apply AGo.seq | apply AGo.block | apply AGo.blk | apply AGo.skip | apply AGo.nil | apply AGo.qnil | apply AGo.snil | (apply AGo.region; rfl) | ((first | apply AGo.q true | apply AGo.qq true | apply AGo.sq true); rfl; rfl; rfl; rfl; first | exact True.intro | omega | (simp only [Int.toNat_natCast, Int.reduceToNat, IntKind.bits]; omega)) | (apply AGo.drawT; rfl; rfl; rfl; decide +kernel) | (apply AGo.drawQ; rfl; rfl; decide +kernel) | (apply AGo.condDT; rfl; first | omega | rfl) | (apply AGo.condDF; rfl; omega) | (apply AGo.condF; rfl) | (apply AGo.box; (iterate 6 rfl); simp only [nm, Nat.reduceAdd, spliceA, AV.cells, D.cells]) | (apply AGo.store; (iterate 9 rfl); exact Nat.le_of_ble_eq_true rfl; simp only [nm, Nat.reduceAdd, spliceA, AV.cells, D.cells]) | (apply AGo.qunguard; rfl; rfl) | ((first | apply AGo.qlookup | apply AGo.slookup); (iterate 13 rfl); kernel_rfl; exact f3; rfl) | intro _ | (apply AGo.outL; rfl; rfl))
      exact AGo.round [(41, I ((k + 1 : Nat) : Int)), (40, I row.length), (3, .ptr 4 0), (0, .ptr 0 0)] (row.length - (k + 1)) (by omega) ⟨rfl, rfl, rfl, rfl, trivial⟩ ⟨k + 1, rfl, hlt, fun n _ => hw4 n (by omega), rfl, rfl⟩
    · obtain rfl : k = row.length := by omega
      repeat' (first | apply AGo.seq | apply AGo.block | apply AGo.blk | apply AGo.skip | apply AGo.nil | apply AGo.qnil | apply AGo.snil | (apply AGo.region; rfl) | ((first | apply AGo.q true | apply AGo.qq true | apply AGo.sq true); rfl; rfl; rfl; rfl; first | exact True.intro | omega | (simp only [Int.toNat_natCast, Int.reduceToNat, IntKind.bits]; omega)) | (apply AGo.drawT; rfl; rfl; rfl; decide +kernel) | (apply AGo.drawQ; rfl; rfl; decide +kernel) | (apply AGo.condDT; rfl; first | omega | rfl) | (apply AGo.condDF; rfl; omega) | (apply AGo.condF; rfl) | (apply AGo.box; (iterate 6 rfl); simp only [nm, Nat.reduceAdd, spliceA, AV.cells, D.cells]) | (apply AGo.store; (iterate 9 rfl); exact Nat.le_of_ble_eq_true rfl; simp only [nm, Nat.reduceAdd, spliceA, AV.cells, D.cells]) | (apply AGo.qunguard; rfl; rfl) | intro _ | (apply AGo.outL; rfl; rfl))
      refine AGo.weak (env' := [(62, I 0), (61, I row.length), (3, .ptr 4 0), (0, .ptr 0 0)]) ⟨rfl, rfl, rfl, rfl, trivial⟩ ?_
      refine AGo.loop (fun m env H => ∃ k : Nat, m = row.length - k ∧ k ≤ row.length ∧ env = [(62, I (k : Int)), (61, I row.length), (3, .ptr 4 0), (0, .ptr 0 0)] ∧ H = [.cells [.d .nils, .mp 1, .mp 2, .mp 3, I t.lng], .map (smap t.sym), .map (imap t.rws), .map (smap (bumps row k t.beg)), .cells [S row, I sy]]) row.length
        ⟨0, rfl, by omega, rfl, by rw [bumps_0]⟩ ?_
      rintro m env H ⟨k, rfl, hk, rfl, rfl⟩
      have e1 := tk1 row k
      have f4 := mfind_smap (row.take ((k : Int) + 1).toNat) (bumps row k t.beg) 0
      rw [e1] at f4
      have hbd := bumps_bd row t.beg 1000000 hN k (row.take (k + 1))
      rcases Nat.lt_or_ge k row.length with hlt | hge
      · cases h7 : gfind (row.take (k + 1)) (bumps row k t.beg) 0 with
        | none =>
          rw [h7] at f4
          rw [← e1] at f4
          have hput : mput (smap (bumps row k t.beg)) (.str (row.take ((k : Int) + 1).toNat)) (.int .i64 (0 + 1)) none = smap (bumps row (k + 1) t.beg) := by
            have := smap_put (bumps row k t.beg) (row.take (k + 1)) (0 + 1)
            rw [h7] at this
            rw [e1, bumps_succ, gval_none h7]
            exact this
          repeat' (first | apply AGo.seq | apply AGo.block | apply AGo.blk | apply AGo.skip | apply AGo.nil | apply AGo.qnil | apply AGo.snil | (apply AGo.region; rfl) | ((first | apply AGo.q true | apply AGo.qq true | apply AGo.sq true); rfl; rfl; rfl; rfl; first | exact True.intro | omega | (simp only [Int.toNat_natCast, Int.reduceToNat, IntKind.bits]; omega)) | (apply AGo.drawT; rfl; rfl; rfl; decide +kernel) | (apply AGo.drawQ; rfl; rfl; decide +kernel) | (apply AGo.condDT; rfl; first | omega | rfl) | (apply AGo.condDF; rfl; omega) | (apply AGo.condF; rfl) | (apply AGo.box; (iterate 6 rfl); simp only [nm, Nat.reduceAdd, spliceA, AV.cells, D.cells]) | (apply AGo.store; (iterate 9 rfl); exact Nat.le_of_ble_eq_true rfl; simp only [nm, Nat.reduceAdd, spliceA, AV.cells, D.cells]) | (apply AGo.qunguard; rfl; rfl) | ((first | apply AGo.qlookup | apply AGo.slookup); (iterate 13 rfl); kernel_rfl; exact f4; rfl) | (apply AGo.mapUpdate; (iterate 11 rfl); exact f4; simp only [List.set_cons_succ, List.set_cons_zero]) | intro _ | (apply AGo.outL; rfl; rfl))
          exact AGo.round [(62, I ((k + 1 : Nat) : Int)), (61, I row.length), (3, .ptr 4 0), (0, .ptr 0 0)] (row.length - (k + 1)) (by omega) ⟨rfl, rfl, rfl, rfl, trivial⟩ ⟨k + 1, rfl, hlt, rfl, congrArg (fun x => [AObj.cells [.d .nils, .mp 1, .mp 2, .mp 3, I t.lng], AObj.map (smap t.sym), AObj.map (imap t.rws), AObj.map (x), AObj.cells [S row, I sy]]) hput⟩
        | some jv =>
          obtain ⟨j, v⟩ := jv
          rw [gval_some h7] at hbd
          rw [h7] at f4
          rw [← e1] at f4
          have hput : mput (smap (bumps row k t.beg)) (.str (row.take ((k : Int) + 1).toNat)) (.int .i64 (v + 1)) (some (j, .int .i64 v)) = smap (bumps row (k + 1) t.beg) := by
            have := smap_put (bumps row k t.beg) (row.take (k + 1)) (v + 1)
            rw [h7] at this
            rw [e1, bumps_succ, gval_some h7]
            exact this
          repeat' (first | apply AGo.seq | apply AGo.block | apply AGo.blk | apply AGo.skip | apply AGo.nil | apply AGo.qnil | apply AGo.snil | (apply AGo.region; rfl) | ((first | apply AGo.q true | apply AGo.qq true | apply AGo.sq true); rfl; rfl; rfl; rfl; first | exact True.intro | omega | (simp only [Int.toNat_natCast, Int.reduceToNat, IntKind.bits]; omega)) | (apply AGo.drawT; rfl; rfl; rfl; decide +kernel) | (apply AGo.drawQ; rfl; rfl; decide +kernel) | (apply AGo.condDT; rfl; first | omega | rfl) | (apply AGo.condDF; rfl; omega) | (apply AGo.condF; rfl) | (apply AGo.box; (iterate 6 rfl); simp only [nm, Nat.reduceAdd, spliceA, AV.cells, D.cells]) | (apply AGo.store; (iterate 9 rfl); exact Nat.le_of_ble_eq_true rfl; simp only [nm, Nat.reduceAdd, spliceA, AV.cells, D.cells]) | (apply AGo.qunguard; rfl; rfl) | ((first | apply AGo.qlookup | apply AGo.slookup); (iterate 13 rfl); kernel_rfl; exact f4; rfl) | (apply AGo.mapUpdate; (iterate 11 rfl); exact f4; simp only [List.set_cons_succ, List.set_cons_zero]) | intro _ | (apply AGo.outL; rfl; rfl))
          exact AGo.round [(62, I ((k + 1 : Nat) : Int)), (61, I row.length), (3, .ptr 4 0), (0, .ptr 0 0)] (row.length - (k + 1)) (by omega) ⟨rfl, rfl, rfl, rfl, trivial⟩ ⟨k + 1, rfl, hlt, rfl, congrArg (fun x => [AObj.cells [.d .nils, .mp 1, .mp 2, .mp 3, I t.lng], AObj.map (smap t.sym), AObj.map (imap t.rws), AObj.map (x), AObj.cells [S row, I sy]]) hput⟩
      · obtain rfl : k = row.length := by omega
        repeat (first | apply AGo.seq | apply AGo.block | apply AGo.blk | apply AGo.skip | apply AGo.nil | apply AGo.qnil | apply AGo.snil | (apply AGo.region; rfl) | ((first | apply AGo.q true | apply AGo.qq true | apply AGo.sq true); rfl; rfl; rfl; rfl; first | exact True.intro | omega | (simp only [Int.toNat_natCast, Int.reduceToNat, IntKind.bits]; omega)) | (apply AGo.drawT; rfl; rfl; rfl; decide +kernel) | (apply AGo.drawQ; rfl; rfl; decide +kernel) | (apply AGo.condDT; rfl; first | omega | rfl) | (apply AGo.condDF; rfl; omega) | (apply AGo.condF; rfl) | (apply AGo.box; (iterate 6 rfl); simp only [nm, Nat.reduceAdd, spliceA, AV.cells, D.cells]) | (apply AGo.store; (iterate 9 rfl); exact Nat.le_of_ble_eq_true rfl; simp only [nm, Nat.reduceAdd, spliceA, AV.cells, D.cells]) | (apply AGo.qunguard; rfl; rfl))
        refine AGo.out rfl ⟨_, rfl, ?_⟩
        repeat (first | apply AGo.seq | apply AGo.block | apply AGo.blk | apply AGo.skip | apply AGo.nil | apply AGo.qnil | apply AGo.snil | (apply AGo.region; rfl) | ((first | apply AGo.q true | apply AGo.qq true | apply AGo.sq true); rfl; rfl; rfl; rfl; first | exact True.intro | omega | (simp only [Int.toNat_natCast, Int.reduceToNat, IntKind.bits]; omega)) | (apply AGo.drawT; rfl; rfl; rfl; decide +kernel) | (apply AGo.drawQ; rfl; rfl; decide +kernel) | (apply AGo.condDT; rfl; first | omega | rfl) | (apply AGo.condDF; rfl; omega) | (apply AGo.condF; rfl) | (apply AGo.box; (iterate 6 rfl); simp only [nm, Nat.reduceAdd, spliceA, AV.cells, D.cells]) | (apply AGo.store; (iterate 9 rfl); exact Nat.le_of_ble_eq_true rfl; simp only [nm, Nat.reduceAdd, spliceA, AV.cells, D.cells]) | (apply AGo.qunguard; rfl; rfl))
        apply AGo.drawH [1, 2]
        exact fun _ _ _ h => h
        rfl
        rfl
        decide +kernel
        rfl
        (repeat (first | exact Heads.nil _ | (apply Heads.cons true; rfl; rfl; rfl; rfl; rfl; first | exact True.intro | omega)))
        (apply Tails.cons; (apply StepR.mapEntry; rfl; rfl; rfl; rfl; rfl; rfl; rfl; rfl; rfl; rfl; rfl; kernel_rfl; rfl; rfl; exact f5; rfl))
        (apply Tails.cons; (apply StepR.q true; rfl; rfl; rfl; rfl; exact True.intro))
        (apply Tails.cons; (apply StepR.entryStore; rfl; rfl; rfl; rfl; rfl; rfl; rfl; (simp only [List.length_append, List.length_cons, List.length_nil, ment]; omega); rfl))
        (apply Tails.cons; (apply StepR.mapEntry; rfl; rfl; rfl; rfl; rfl; rfl; rfl; rfl; rfl; rfl; rfl; kernel_rfl; rfl; rfl; exact f1; rfl))
        (apply Tails.cons; (apply StepR.q true; rfl; rfl; rfl; rfl; exact True.intro))
        (apply Tails.cons; (apply StepR.entryStore; rfl; rfl; rfl; rfl; rfl; rfl; rfl; (simp only [List.length_append, List.length_cons, List.length_nil, ment]; omega); rfl))
        exact Tails.nil _ _
        exact Nat.le_refl _
        simp only [List.set_cons_succ, List.set_cons_zero, ment, mentR]
        repeat (first | apply AGo.seq | apply AGo.block | apply AGo.blk | apply AGo.skip | apply AGo.nil | apply AGo.qnil | apply AGo.snil | (apply AGo.region; rfl) | ((first | apply AGo.q true | apply AGo.qq true | apply AGo.sq true); rfl; rfl; rfl; rfl; first | exact True.intro | omega | (simp only [Int.toNat_natCast, Int.reduceToNat, IntKind.bits]; omega)) | (apply AGo.drawT; rfl; rfl; rfl; decide +kernel) | (apply AGo.drawQ; rfl; rfl; decide +kernel) | (apply AGo.condDT; rfl; first | omega | rfl) | (apply AGo.condDF; rfl; omega) | (apply AGo.condF; rfl) | (apply AGo.box; (iterate 6 rfl); simp only [nm, Nat.reduceAdd, spliceA, AV.cells, D.cells]) | (apply AGo.store; (iterate 9 rfl); exact Nat.le_of_ble_eq_true rfl; simp only [nm, Nat.reduceAdd, spliceA, AV.cells, D.cells]) | (apply AGo.qunguard; rfl; rfl))
        apply AGo.drawA
        exact fun _ _ _ h => h
        rfl
        rfl
        decide +kernel
        (repeat (first | exact Heads.nil _ | (apply Heads.cons true; rfl; rfl; rfl; rfl; rfl; first | exact True.intro | omega)))
        (apply StepB.buildSlice; rfl; rfl; rfl; rfl; rfl; rfl; rfl; rfl; rfl; rfl; rfl)
        exact Nat.le_refl _
        repeat' (first | (apply AGo.appendN; (iterate 10 rfl); (first | (simp only [List.length_append, List.length_map, List.length_cons, List.length_nil]; omega) | (simp only [codesD_len, List.length_cons, List.length_nil]; omega)); simp only [List.nil_append, List.cons_append, List.length_nil, List.length_cons, Nat.reduceAdd]) | apply AGo.seq | apply AGo.block | apply AGo.blk | apply AGo.skip | apply AGo.nil | apply AGo.qnil | apply AGo.snil | (apply AGo.region; rfl) | ((first | apply AGo.q true | apply AGo.qq true | apply AGo.sq true); rfl; rfl; rfl; rfl; first | exact True.intro | omega | (simp only [Int.toNat_natCast, Int.reduceToNat, IntKind.bits]; omega) | (simp only [codesD_len, List.length_cons, List.length_nil]; omega)) | (apply AGo.drawT; rfl; rfl; rfl; decide +kernel) | (apply AGo.drawQ; rfl; rfl; decide +kernel) | (apply AGo.condDT; rfl; first | omega | rfl) | (apply AGo.condDF; rfl; omega) | (apply AGo.condF; rfl) | (apply AGo.box; (iterate 6 rfl); simp only [nm, Nat.reduceAdd, spliceA, AV.cells, D.cells]) | (apply AGo.store; (iterate 9 rfl); exact Nat.le_of_ble_eq_true rfl; simp only [nm, Nat.reduceAdd, spliceA, AV.cells, D.cells]) | (apply AGo.qunguard; rfl; rfl) | intro _ | (apply AGo.outL; rfl; rfl))
        (apply AGo.retK 6; rfl; rfl; rfl; rfl; rfl)
        refine ⟨rfl, ?_⟩
        have s1 : msetV (smap t.sym ++ [(.str row, .int .i64 0)]) ((smap t.sym).length : Int).toNat (.int .i64 0) = smap (addT t row sy).sym := by
          rw [msetV_last _ _ _ _ _ rfl]; unfold addT; rw [smap_snoc, hc]; rfl
        have s2 : msetV (imap t.rws ++ [(.int .i64 sy, .int .i64 0)]) ((imap t.rws).length : Int).toNat (.int .i64 0) = imap (addT t row sy).rws := by
          rw [msetV_last _ _ _ _ _ rfl]; unfold addT; rw [imap_snoc, hc]; rfl
        have s3 : codesD (addT t row sy).codes = [codeD (row, sy)] := by unfold addT; rw [hc]; exact codesD_one _
        unfold tob2
        rw [← s1, ← s2, s3]
        rfl
  | some jv =>
    obtain ⟨j, v⟩ := jv
    rw [h4] at f2
    have h5 := gval_some h4
    rw [h5] at h3
    refine ACalls.enter Tryd.func74 rfl Tryd.ntmps74 (by kernel_rfl) rfl ?_; simp only [argEnv, Nat.reduceAdd, List.length_nil, List.length_cons]
    repeat (first | apply AGo.seq | apply AGo.block | apply AGo.blk | apply AGo.skip | apply AGo.nil | apply AGo.qnil | apply AGo.snil | (apply AGo.region; rfl) | ((first | apply AGo.q true | apply AGo.qq true | apply AGo.sq true); rfl; rfl; rfl; rfl; first | exact True.intro | omega | (simp only [Int.toNat_natCast, Int.reduceToNat, IntKind.bits]; omega)) | (apply AGo.qcallP (hr); (iterate 7 rfl)) | (apply AGo.drawT; rfl; rfl; rfl; decide +kernel) | (apply AGo.drawQ; rfl; rfl; decide +kernel) | (apply AGo.condDT; rfl; first | omega | rfl) | (apply AGo.condDF; rfl; omega) | (apply AGo.condF; rfl) | (apply AGo.box; (iterate 6 rfl); simp only [nm, Nat.reduceAdd, spliceA, AV.cells, D.cells]) | (apply AGo.store; (iterate 9 rfl); exact Nat.le_of_ble_eq_true rfl; simp only [nm, Nat.reduceAdd, spliceA, AV.cells, D.cells]) | (apply AGo.qunguard; rfl; rfl) | ((first | apply AGo.qlookup | apply AGo.slookup); (iterate 13 rfl); kernel_rfl; exact f1; rfl) | ((first | apply AGo.qlookup | apply AGo.slookup); (iterate 13 rfl); kernel_rfl; exact f2; rfl))
    refine AGo.weak (env' := [(41, I 0), (40, I row.length), (3, .ptr 4 0), (0, .ptr 0 0)]) ⟨rfl, rfl, rfl, rfl, trivial⟩ ?_
    refine AGo.loop (fun m env H => ∃ k : Nat, m = row.length - k ∧ k ≤ row.length ∧ (∀ n, n < k → gfind (row.take (n + 1)) t.sym 0 = none) ∧ env = [(41, I (k : Int)), (40, I row.length), (3, .ptr 4 0), (0, .ptr 0 0)] ∧ H = [.cells [.d .nils, .mp 1, .mp 2, .mp 3, I t.lng], .map (smap t.sym), .map (imap t.rws), .map (smap t.beg), .cells [S row, I sy]]) row.length
      ⟨0, rfl, by omega, fun n hn => absurd hn (by omega), rfl, rfl⟩ ?_
    rintro m env H ⟨k, rfl, hk, hw, rfl, rfl⟩
    have e1 := tk1 row k
    have f3 := mfind_smap (row.take ((k : Int) + 1).toNat) t.sym 0
    rw [e1] at f3
    rcases Nat.lt_or_ge k row.length with hlt | hge
    · have h6 := hw4 k hlt
      rw [h6] at f3
      rw [← e1] at f3
      repeat' (first | apply AGo.seq | apply AGo.block | apply AGo.blk | apply AGo.skip | apply AGo.nil | apply AGo.qnil | apply AGo.snil | (apply AGo.region; rfl) | ((first | apply AGo.q true | apply AGo.qq true | apply AGo.sq true); rfl; rfl; rfl; rfl; first | exact True.intro | omega | (simp only [Int.toNat_natCast, Int.reduceToNat, IntKind.bits]; omega)) | (apply AGo.drawT; rfl; rfl; rfl; decide +kernel) | (apply AGo.drawQ; rfl; rfl; decide +kernel) | (apply AGo.condDT; rfl; first | omega | rfl) | (apply AGo.condDF; rfl; omega) | (apply AGo.condF; rfl) | (apply AGo.box; (iterate 6 rfl); simp only [nm, Nat.reduceAdd, spliceA, AV.cells, D.cells]) | (apply AGo.store; (iterate 9 rfl); exact Nat.le_of_ble_eq_true rfl; simp only [nm, Nat.reduceAdd, spliceA, AV.cells, D.cells]) | (apply AGo.qunguard; rfl; rfl) | ((first | apply AGo.qlookup | apply AGo.slookup); (iterate 13 rfl); kernel_rfl; exact f3; rfl) | intro _ | (apply AGo.outL; rfl; rfl))
      exact AGo.round [(41, I ((k + 1 : Nat) : Int)), (40, I row.length), (3, .ptr 4 0), (0, .ptr 0 0)] (row.length - (k + 1)) (by omega) ⟨rfl, rfl, rfl, rfl, trivial⟩ ⟨k + 1, rfl, hlt, fun n _ => hw4 n (by omega), rfl, rfl⟩
    · obtain rfl : k = row.length := by omega
      repeat' (first | apply AGo.seq | apply AGo.block | apply AGo.blk | apply AGo.skip | apply AGo.nil | apply AGo.qnil | apply AGo.snil | (apply AGo.region; rfl) | ((first | apply AGo.q true | apply AGo.qq true | apply AGo.sq true); rfl; rfl; rfl; rfl; first | exact True.intro | omega | (simp only [Int.toNat_natCast, Int.reduceToNat, IntKind.bits]; omega)) | (apply AGo.drawT; rfl; rfl; rfl; decide +kernel) | (apply AGo.drawQ; rfl; rfl; decide +kernel) | (apply AGo.condDT; rfl; first | omega | rfl) | (apply AGo.condDF; rfl; omega) | (apply AGo.condF; rfl) | (apply AGo.box; (iterate 6 rfl); simp only [nm, Nat.reduceAdd, spliceA, AV.cells, D.cells]) | (apply AGo.store; (iterate 9 rfl); exact Nat.le_of_ble_eq_true rfl; simp only [nm, Nat.reduceAdd, spliceA, AV.cells, D.cells]) | (apply AGo.qunguard; rfl; rfl) | intro _ | (apply AGo.outL; rfl; rfl))
      refine AGo.weak (env' := [(62, I 0), (61, I row.length), (3, .ptr 4 0), (0, .ptr 0 0)]) ⟨rfl, rfl, rfl, rfl, trivial⟩ ?_
      refine AGo.loop (fun m env H => ∃ k : Nat, m = row.length - k ∧ k ≤ row.length ∧ env = [(62, I (k : Int)), (61, I row.length), (3, .ptr 4 0), (0, .ptr 0 0)] ∧ H = [.cells [.d .nils, .mp 1, .mp 2, .mp 3, I t.lng], .map (smap t.sym), .map (imap t.rws), .map (smap (bumps row k t.beg)), .cells [S row, I sy]]) row.length
        ⟨0, rfl, by omega, rfl, by rw [bumps_0]⟩ ?_
      rintro m env H ⟨k, rfl, hk, rfl, rfl⟩
      have e1 := tk1 row k
      have f4 := mfind_smap (row.take ((k : Int) + 1).toNat) (bumps row k t.beg) 0
      rw [e1] at f4
      have hbd := bumps_bd row t.beg 1000000 hN k (row.take (k + 1))
      rcases Nat.lt_or_ge k row.length with hlt | hge
      · cases h7 : gfind (row.take (k + 1)) (bumps row k t.beg) 0 with
        | none =>
          rw [h7] at f4
          rw [← e1] at f4
          have hput : mput (smap (bumps row k t.beg)) (.str (row.take ((k : Int) + 1).toNat)) (.int .i64 (0 + 1)) none = smap (bumps row (k + 1) t.beg) := by
            have := smap_put (bumps row k t.beg) (row.take (k + 1)) (0 + 1)
            rw [h7] at this
            rw [e1, bumps_succ, gval_none h7]
            exact this
          repeat' (first | apply AGo.seq | apply AGo.block | apply AGo.blk | apply AGo.skip | apply AGo.nil | apply AGo.qnil | apply AGo.snil | (apply AGo.region; rfl) | ((first | apply AGo.q true | apply AGo.qq true | apply AGo.sq true); rfl; rfl; rfl; rfl; first | exact True.intro | omega | (simp only [Int.toNat_natCast, Int.reduceToNat, IntKind.bits]; omega)) | (apply AGo.drawT; rfl; rfl; rfl; decide +kernel) | (apply AGo.drawQ; rfl; rfl; decide +kernel) | (apply AGo.condDT; rfl; first | omega | rfl) | (apply AGo.condDF; rfl; omega) | (apply AGo.condF; rfl) | (apply AGo.box; (iterate 6 rfl); simp only [nm, Nat.reduceAdd, spliceA, AV.cells, D.cells]) | (apply AGo.store; (iterate 9 rfl); exact Nat.le_of_ble_eq_true rfl; simp only [nm, Nat.reduceAdd, spliceA, AV.cells, D.cells]) | (apply AGo.qunguard; rfl; rfl) | ((first | apply AGo.qlookup | apply AGo.slookup); (iterate 13 rfl); kernel_rfl; exact f4; rfl) | (apply AGo.mapUpdate; (iterate 11 rfl); exact f4; simp only [List.set_cons_succ, List.set_cons_zero]) | intro _ | (apply AGo.outL; rfl; rfl))
          exact AGo.round [(62, I ((k + 1 : Nat) : Int)), (61, I row.length), (3, .ptr 4 0), (0, .ptr 0 0)] (row.length - (k + 1)) (by omega) ⟨rfl, rfl, rfl, rfl, trivial⟩ ⟨k + 1, rfl, hlt, rfl, congrArg (fun x => [AObj.cells [.d .nils, .mp 1, .mp 2, .mp 3, I t.lng], AObj.map (smap t.sym), AObj.map (imap t.rws), AObj.map (x), AObj.cells [S row, I sy]]) hput⟩
        | some jv =>
          obtain ⟨j, v⟩ := jv
          rw [gval_some h7] at hbd
          rw [h7] at f4
          rw [← e1] at f4
          have hput : mput (smap (bumps row k t.beg)) (.str (row.take ((k : Int) + 1).toNat)) (.int .i64 (v + 1)) (some (j, .int .i64 v)) = smap (bumps row (k + 1) t.beg) := by
            have := smap_put (bumps row k t.beg) (row.take (k + 1)) (v + 1)
            rw [h7] at this
            rw [e1, bumps_succ, gval_some h7]
            exact this
          repeat' (first | apply AGo.seq | apply AGo.block | apply AGo.blk | apply AGo.skip | apply AGo.nil | apply AGo.qnil | apply AGo.snil | (apply AGo.region; rfl) | ((first | apply AGo.q true | apply AGo.qq true | apply AGo.sq true); rfl; rfl; rfl; rfl; first | exact True.intro | omega | (simp only [Int.toNat_natCast, Int.reduceToNat, IntKind.bits]; omega)) | (apply AGo.drawT; rfl; rfl; rfl; decide +kernel) | (apply AGo.drawQ; rfl; rfl; decide +kernel) | (apply AGo.condDT; rfl; first | omega | rfl) | (apply AGo.condDF; rfl; omega) | (apply AGo.condF; rfl) | (apply AGo.box; (iterate 6 rfl); simp only [nm, Nat.reduceAdd, spliceA, AV.cells, D.cells]) | (apply AGo.store; (iterate 9 rfl); exact Nat.le_of_ble_eq_true rfl; simp only [nm, Nat.reduceAdd, spliceA, AV.cells, D.cells]) | (apply AGo.qunguard; rfl; rfl) | ((first | apply AGo.qlookup | apply AGo.slookup); (iterate 13 rfl); kernel_rfl; exact f4; rfl) | (apply AGo.mapUpdate; (iterate 11 rfl); exact f4; simp only [List.set_cons_succ, List.set_cons_zero]) | intro _ | (apply AGo.outL; rfl; rfl))
          exact AGo.round [(62, I ((k + 1 : Nat) : Int)), (61, I row.length), (3, .ptr 4 0), (0, .ptr 0 0)] (row.length - (k + 1)) (by omega) ⟨rfl, rfl, rfl, rfl, trivial⟩ ⟨k + 1, rfl, hlt, rfl, congrArg (fun x => [AObj.cells [.d .nils, .mp 1, .mp 2, .mp 3, I t.lng], AObj.map (smap t.sym), AObj.map (imap t.rws), AObj.map (x), AObj.cells [S row, I sy]]) hput⟩
      · obtain rfl : k = row.length := by omega
        repeat (first | apply AGo.seq | apply AGo.block | apply AGo.blk | apply AGo.skip | apply AGo.nil | apply AGo.qnil | apply AGo.snil | (apply AGo.region; rfl) | ((first | apply AGo.q true | apply AGo.qq true | apply AGo.sq true); rfl; rfl; rfl; rfl; first | exact True.intro | omega | (simp only [Int.toNat_natCast, Int.reduceToNat, IntKind.bits]; omega)) | (apply AGo.drawT; rfl; rfl; rfl; decide +kernel) | (apply AGo.drawQ; rfl; rfl; decide +kernel) | (apply AGo.condDT; rfl; first | omega | rfl) | (apply AGo.condDF; rfl; omega) | (apply AGo.condF; rfl) | (apply AGo.box; (iterate 6 rfl); simp only [nm, Nat.reduceAdd, spliceA, AV.cells, D.cells]) | (apply AGo.store; (iterate 9 rfl); exact Nat.le_of_ble_eq_true rfl; simp only [nm, Nat.reduceAdd, spliceA, AV.cells, D.cells]) | (apply AGo.qunguard; rfl; rfl))
        refine AGo.out rfl ⟨_, rfl, ?_⟩
        repeat (first | apply AGo.seq | apply AGo.block | apply AGo.blk | apply AGo.skip | apply AGo.nil | apply AGo.qnil | apply AGo.snil | (apply AGo.region; rfl) | ((first | apply AGo.q true | apply AGo.qq true | apply AGo.sq true); rfl; rfl; rfl; rfl; first | exact True.intro | omega | (simp only [Int.toNat_natCast, Int.reduceToNat, IntKind.bits]; omega)) | (apply AGo.drawT; rfl; rfl; rfl; decide +kernel) | (apply AGo.drawQ; rfl; rfl; decide +kernel) | (apply AGo.condDT; rfl; first | omega | rfl) | (apply AGo.condDF; rfl; omega) | (apply AGo.condF; rfl) | (apply AGo.box; (iterate 6 rfl); simp only [nm, Nat.reduceAdd, spliceA, AV.cells, D.cells]) | (apply AGo.store; (iterate 9 rfl); exact Nat.le_of_ble_eq_true rfl; simp only [nm, Nat.reduceAdd, spliceA, AV.cells, D.cells]) | (apply AGo.qunguard; rfl; rfl))
        apply AGo.drawH [1, 2]
        exact fun _ _ _ h => h
        rfl
        rfl
        decide +kernel
        rfl
        (repeat (first | exact Heads.nil _ | (apply Heads.cons true; rfl; rfl; rfl; rfl; rfl; first | exact True.intro | omega)))
        (apply Tails.cons; (apply StepR.mapEntry; rfl; rfl; rfl; rfl; rfl; rfl; rfl; rfl; rfl; rfl; rfl; kernel_rfl; rfl; rfl; exact f5; rfl))
        (apply Tails.cons; (apply StepR.q true; rfl; rfl; rfl; rfl; exact True.intro))
        (apply Tails.cons; (apply StepR.entryStore; rfl; rfl; rfl; rfl; rfl; rfl; rfl; (simp only [List.length_append, List.length_cons, List.length_nil, ment]; omega); rfl))
        (apply Tails.cons; (apply StepR.mapEntry; rfl; rfl; rfl; rfl; rfl; rfl; rfl; rfl; rfl; rfl; rfl; kernel_rfl; rfl; rfl; exact f1; rfl))
        (apply Tails.cons; (apply StepR.q true; rfl; rfl; rfl; rfl; exact True.intro))
        (apply Tails.cons; (apply StepR.entryStore; rfl; rfl; rfl; rfl; rfl; rfl; rfl; (simp only [List.length_append, List.length_cons, List.length_nil, ment]; omega); rfl))
        exact Tails.nil _ _
        exact Nat.le_refl _
        simp only [List.set_cons_succ, List.set_cons_zero, ment, mentR]
        repeat (first | apply AGo.seq | apply AGo.block | apply AGo.blk | apply AGo.skip | apply AGo.nil | apply AGo.qnil | apply AGo.snil | (apply AGo.region; rfl) | ((first | apply AGo.q true | apply AGo.qq true | apply AGo.sq true); rfl; rfl; rfl; rfl; first | exact True.intro | omega | (simp only [Int.toNat_natCast, Int.reduceToNat, IntKind.bits]; omega)) | (apply AGo.drawT; rfl; rfl; rfl; decide +kernel) | (apply AGo.drawQ; rfl; rfl; decide +kernel) | (apply AGo.condDT; rfl; first | omega | rfl) | (apply AGo.condDF; rfl; omega) | (apply AGo.condF; rfl) | (apply AGo.box; (iterate 6 rfl); simp only [nm, Nat.reduceAdd, spliceA, AV.cells, D.cells]) | (apply AGo.store; (iterate 9 rfl); exact Nat.le_of_ble_eq_true rfl; simp only [nm, Nat.reduceAdd, spliceA, AV.cells, D.cells]) | (apply AGo.qunguard; rfl; rfl))
        apply AGo.drawA
        exact fun _ _ _ h => h
        rfl
        rfl
        decide +kernel
        (repeat (first | exact Heads.nil _ | (apply Heads.cons true; rfl; rfl; rfl; rfl; rfl; first | exact True.intro | omega)))
        (apply StepB.buildSlice; rfl; rfl; rfl; rfl; rfl; rfl; rfl; rfl; rfl; rfl; rfl)
        exact Nat.le_refl _
        repeat' (first | (apply AGo.appendN; (iterate 10 rfl); (first | (simp only [List.length_append, List.length_map, List.length_cons, List.length_nil]; omega) | (simp only [codesD_len, List.length_cons, List.length_nil]; omega)); simp only [List.nil_append, List.cons_append, List.length_nil, List.length_cons, Nat.reduceAdd]) | apply AGo.seq | apply AGo.block | apply AGo.blk | apply AGo.skip | apply AGo.nil | apply AGo.qnil | apply AGo.snil | (apply AGo.region; rfl) | ((first | apply AGo.q true | apply AGo.qq true | apply AGo.sq true); rfl; rfl; rfl; rfl; first | exact True.intro | omega | (simp only [Int.toNat_natCast, Int.reduceToNat, IntKind.bits]; omega) | (simp only [codesD_len, List.length_cons, List.length_nil]; omega)) | (apply AGo.drawT; rfl; rfl; rfl; decide +kernel) | (apply AGo.drawQ; rfl; rfl; decide +kernel) | (apply AGo.condDT; rfl; first | omega | rfl) | (apply AGo.condDF; rfl; omega) | (apply AGo.condF; rfl) | (apply AGo.box; (iterate 6 rfl); simp only [nm, Nat.reduceAdd, spliceA, AV.cells, D.cells]) | (apply AGo.store; (iterate 9 rfl); exact Nat.le_of_ble_eq_true rfl; simp only [nm, Nat.reduceAdd, spliceA, AV.cells, D.cells]) | (apply AGo.qunguard; rfl; rfl) | intro _ | (apply AGo.outL; rfl; rfl))
        (apply AGo.retK 6; rfl; rfl; rfl; rfl; rfl)
        refine ⟨rfl, ?_⟩
        have s1 : msetV (smap t.sym ++ [(.str row, .int .i64 0)]) ((smap t.sym).length : Int).toNat (.int .i64 0) = smap (addT t row sy).sym := by
          rw [msetV_last _ _ _ _ _ rfl]; unfold addT; rw [smap_snoc, hc]; rfl
        have s2 : msetV (imap t.rws ++ [(.int .i64 sy, .int .i64 0)]) ((imap t.rws).length : Int).toNat (.int .i64 0) = imap (addT t row sy).rws := by
          rw [msetV_last _ _ _ _ _ rfl]; unfold addT; rw [imap_snoc, hc]; rfl
        have s3 : codesD (addT t row sy).codes = [codeD (row, sy)] := by unfold addT; rw [hc]; exact codesD_one _
        unfold tob2
        rw [← s1, ← s2, s3]
        rfl
set_option maxHeartbeats 8000000 in
theorem add_good1 (t : Tb) (row : List UInt8) (sy : Int) (hrow : row.length ≤ 1000000) (hb : addB t row sy = true) (hN : ∀ w, 0 ≤ gval w t.beg ∧ gval w t.beg ≤ 1000000) (hl : -1000000 ≤ t.lng ∧ t.lng ≤ 1000000) (hc : t.codes.length ≤ 1000000) :
    ACalls (cxg gl) 74 [.ptr 0 0, .d (codeD (row, sy))] (tob1 t) (fun r H => r = B true ∧ H = tob1 (addT t row sy)) := by
  obtain ⟨h1, hr2, h3, hw4⟩ := (addB_iff t row sy).1 hb
  have f1 : mfind (.int .i64 sy) (imap t.rws) 0 = some none := by rw [mfind_imap, h1]; rfl
  have f2 := mfind_smap row t.beg 0
  have hr := right_c (gl := gl) row (by omega)
  rw [hr2] at hr
  have hne : 0 < row.length := right_pos row hr2
  have h55 := hw4 (row.length - 1) (by omega)
  rw [show row.length - 1 + 1 = row.length by omega, List.take_length] at h55
  have f5 : mfind (.str row) (smap t.sym) 0 = some none := by rw [mfind_smap, h55]; rfl
  unfold tob1 codeD
  cases h4 : gfind row t.beg 0 with
  | none =>
    rw [h4] at f2
    refine ACalls.enter Tryd.func74 rfl Tryd.ntmps74 (by kernel_rfl) rfl ?_; simp only [argEnv, Nat.reduceAdd, List.length_nil, List.length_cons]
    repeat (first | apply AGo.seq | apply AGo.block | apply AGo.blk | apply AGo.skip | apply AGo.nil | apply AGo.qnil | apply AGo.snil | (apply AGo.region; rfl) | ((first | apply AGo.q true | apply AGo.qq true | apply AGo.sq true); rfl; rfl; rfl; rfl; first | exact True.intro | omega | (simp only [Int.toNat_natCast, Int.reduceToNat, IntKind.bits]; omega)) | (apply AGo.qcallP (hr); (iterate 7 rfl)) | (apply AGo.drawT; rfl; rfl; rfl; decide +kernel) | (apply AGo.drawQ; rfl; rfl; decide +kernel) | (apply AGo.condDT; rfl; first | omega | rfl) | (apply AGo.condDF; rfl; omega) | (apply AGo.condF; rfl) | (apply AGo.box; (iterate 6 rfl); simp only [nm, Nat.reduceAdd, spliceA, AV.cells, D.cells]) | (apply AGo.store; (iterate 9 rfl); exact Nat.le_of_ble_eq_true rfl; simp only [nm, Nat.reduceAdd, spliceA, AV.cells, D.cells]) | (apply AGo.qunguard; rfl; rfl) | ((first | apply AGo.qlookup | apply AGo.slookup); (iterate 13 rfl); kernel_rfl; exact f1; rfl) | ((first | apply AGo.qlookup | apply AGo.slookup); (iterate 13 rfl); kernel_rfl; exact f2; rfl))
    refine AGo.weak (env' := [(41, I 0), (40, I row.length), (3, .ptr 5 0), (0, .ptr 0 0)]) ⟨rfl, rfl, rfl, rfl, trivial⟩ ?_
    refine AGo.loop (fun m env H => ∃ k : Nat, m = row.length - k ∧ k ≤ row.length ∧ (∀ n, n < k → gfind (row.take (n + 1)) t.sym 0 = none) ∧ env = [(41, I (k : Int)), (40, I row.length), (3, .ptr 5 0), (0, .ptr 0 0)] ∧ H = [.cells [.own 2 (codesD t.codes) 4, .mp 1, .mp 2, .mp 3, I t.lng], .map (smap t.sym), .map (imap t.rws), .map (smap t.beg), .front 99 2 (codesD t.codes).length, .cells [S row, I sy]]) row.length
      ⟨0, rfl, by omega, fun n hn => absurd hn (by omega), rfl, rfl⟩ ?_
    rintro m env H ⟨k, rfl, hk, hw, rfl, rfl⟩
    have e1 := tk1 row k
    have f3 := mfind_smap (row.take ((k : Int) + 1).toNat) t.sym 0
    rw [e1] at f3
    rcases Nat.lt_or_ge k row.length with hlt | hge
    · have h6 := hw4 k hlt
      rw [h6] at f3
      rw [← e1] at f3
      repeat' (first | apply AGo.seq | apply AGo.block | apply AGo.blk | apply AGo.skip | apply AGo.nil | apply AGo.qnil | apply AGo.snil | (apply AGo.region; rfl) | ((first | apply AGo.q true | apply AGo.qq true | apply AGo.sq true); rfl; rfl; rfl; rfl; first | exact True.intro | omega | (simp only [Int.toNat_natCast, Int.reduceToNat, IntKind.bits]; omega)) | (apply AGo.drawT; rfl; rfl; rfl; decide +kernel) | (apply AGo.drawQ; rfl; rfl; decide +kernel) | (apply AGo.condDT; rfl; first | omega | rfl) | (apply AGo.condDF; rfl; omega) | (apply AGo.condF; rfl) | (apply AGo.box; (iterate 6 rfl); simp only [nm, Nat.reduceAdd, spliceA, AV.cells, D.cells]) | (apply AGo.store; (iterate 9 rfl); exact Nat.le_of_ble_eq_true rfl; simp only [nm, Nat.reduceAdd, spliceA, AV.cells, D.cells]) | (apply AGo.qunguard; rfl; rfl) | ((first | apply AGo.qlookup | apply AGo.slookup); (iterate 13 rfl); kernel_rfl; exact f3; rfl) | intro _ | (apply AGo.retN; rfl; rfl; rfl; rfl) | (apply AGo.outL; rfl; rfl))
      exact AGo.round [(41, I ((k + 1 : Nat) : Int)), (40, I row.length), (3, .ptr 5 0), (0, .ptr 0 0)] (row.length - (k + 1)) (by omega) ⟨rfl, rfl, rfl, rfl, trivial⟩ ⟨k + 1, rfl, hlt, fun n _ => hw4 n (by omega), rfl, rfl⟩
    · obtain rfl : k = row.length := by omega
      repeat' (first | apply AGo.seq | apply AGo.block | apply AGo.blk | apply AGo.skip | apply AGo.nil | apply AGo.qnil | apply AGo.snil | (apply AGo.region; rfl) | ((first | apply AGo.q true | apply AGo.qq true | apply AGo.sq true); rfl; rfl; rfl; rfl; first | exact True.intro | omega | (simp only [Int.toNat_natCast, Int.reduceToNat, IntKind.bits]; omega)) | (apply AGo.drawT; rfl; rfl; rfl; decide +kernel) | (apply AGo.drawQ; rfl; rfl; decide +kernel) | (apply AGo.condDT; rfl; first | omega | rfl) | (apply AGo.condDF; rfl; omega) | (apply AGo.condF; rfl) | (apply AGo.box; (iterate 6 rfl); simp only [nm, Nat.reduceAdd, spliceA, AV.cells, D.cells]) | (apply AGo.store; (iterate 9 rfl); exact Nat.le_of_ble_eq_true rfl; simp only [nm, Nat.reduceAdd, spliceA, AV.cells, D.cells]) | (apply AGo.qunguard; rfl; rfl) | intro _ | (apply AGo.retN; rfl; rfl; rfl; rfl) | (apply AGo.outL; rfl; rfl))
      refine AGo.weak (env' := [(62, I 0), (61, I row.length), (3, .ptr 5 0), (0, .ptr 0 0)]) ⟨rfl, rfl, rfl, rfl, trivial⟩ ?_
      refine AGo.loop (fun m env H => ∃ k : Nat, m = row.length - k ∧ k ≤ row.length ∧ env = [(62, I (k : Int)), (61, I row.length), (3, .ptr 5 0), (0, .ptr 0 0)] ∧ H = [.cells [.own 2 (codesD t.codes) 4, .mp 1, .mp 2, .mp 3, I t.lng], .map (smap t.sym), .map (imap t.rws), .map (smap (bumps row k t.beg)), .front 99 2 (codesD t.codes).length, .cells [S row, I sy]]) row.length
        ⟨0, rfl, by omega, rfl, by rw [bumps_0]⟩ ?_
      rintro m env H ⟨k, rfl, hk, rfl, rfl⟩
      have e1 := tk1 row k
      have f4 := mfind_smap (row.take ((k : Int) + 1).toNat) (bumps row k t.beg) 0
      rw [e1] at f4
      have hbd := bumps_bd row t.beg 1000000 hN k (row.take (k + 1))
      rcases Nat.lt_or_ge k row.length with hlt | hge
      · cases h7 : gfind (row.take (k + 1)) (bumps row k t.beg) 0 with
        | none =>
          rw [h7] at f4
          rw [← e1] at f4
          have hput : mput (smap (bumps row k t.beg)) (.str (row.take ((k : Int) + 1).toNat)) (.int .i64 (0 + 1)) none = smap (bumps row (k + 1) t.beg) := by
            have := smap_put (bumps row k t.beg) (row.take (k + 1)) (0 + 1)
            rw [h7] at this
            rw [e1, bumps_succ, gval_none h7]
            exact this
          repeat' (first | apply AGo.seq | apply AGo.block | apply AGo.blk | apply AGo.skip | apply AGo.nil | apply AGo.qnil | apply AGo.snil | (apply AGo.region; rfl) | ((first | apply AGo.q true | apply AGo.qq true | apply AGo.sq true); rfl; rfl; rfl; rfl; first | exact True.intro | omega | (simp only [Int.toNat_natCast, Int.reduceToNat, IntKind.bits]; omega)) | (apply AGo.drawT; rfl; rfl; rfl; decide +kernel) | (apply AGo.drawQ; rfl; rfl; decide +kernel) | (apply AGo.condDT; rfl; first | omega | rfl) | (apply AGo.condDF; rfl; omega) | (apply AGo.condF; rfl) | (apply AGo.box; (iterate 6 rfl); simp only [nm, Nat.reduceAdd, spliceA, AV.cells, D.cells]) | (apply AGo.store; (iterate 9 rfl); exact Nat.le_of_ble_eq_true rfl; simp only [nm, Nat.reduceAdd, spliceA, AV.cells, D.cells]) | (apply AGo.qunguard; rfl; rfl) | ((first | apply AGo.qlookup | apply AGo.slookup); (iterate 13 rfl); kernel_rfl; exact f4; rfl) | (apply AGo.mapUpdate; (iterate 11 rfl); exact f4; simp only [List.set_cons_succ, List.set_cons_zero]) | intro _ | (apply AGo.retN; rfl; rfl; rfl; rfl) | (apply AGo.outL; rfl; rfl))
          exact AGo.round [(62, I ((k + 1 : Nat) : Int)), (61, I row.length), (3, .ptr 5 0), (0, .ptr 0 0)] (row.length - (k + 1)) (by omega) ⟨rfl, rfl, rfl, rfl, trivial⟩ ⟨k + 1, rfl, hlt, rfl, congrArg (fun x => [AObj.cells [.own 2 (codesD t.codes) 4, .mp 1, .mp 2, .mp 3, I t.lng], AObj.map (smap t.sym), AObj.map (imap t.rws), AObj.map (x), AObj.front 99 2 (codesD t.codes).length, AObj.cells [S row, I sy]]) hput⟩
        | some jv =>
          obtain ⟨j, v⟩ := jv
          rw [gval_some h7] at hbd
          rw [h7] at f4
          rw [← e1] at f4
          have hput : mput (smap (bumps row k t.beg)) (.str (row.take ((k : Int) + 1).toNat)) (.int .i64 (v + 1)) (some (j, .int .i64 v)) = smap (bumps row (k + 1) t.beg) := by
            have := smap_put (bumps row k t.beg) (row.take (k + 1)) (v + 1)
            rw [h7] at this
            rw [e1, bumps_succ, gval_some h7]
            exact this
          repeat' (first | apply AGo.seq | apply AGo.block | apply AGo.blk | apply AGo.skip | apply AGo.nil | apply AGo.qnil | apply AGo.snil | (apply AGo.region; rfl) | ((first | apply AGo.q true | apply AGo.qq true | apply AGo.sq true); rfl; rfl; rfl; rfl; first | exact True.intro | omega | (simp only [Int.toNat_natCast, Int.reduceToNat, IntKind.bits]; omega)) | (apply AGo.drawT; rfl; rfl; rfl; decide +kernel) | (apply AGo.drawQ; rfl; rfl; decide +kernel) | (apply AGo.condDT; rfl; first | omega | rfl) | (apply AGo.condDF; rfl; omega) | (apply AGo.condF; rfl) | (apply AGo.box; (iterate 6 rfl); simp only [nm, Nat.reduceAdd, spliceA, AV.cells, D.cells]) | (apply AGo.store; (iterate 9 rfl); exact Nat.le_of_ble_eq_true rfl; simp only [nm, Nat.reduceAdd, spliceA, AV.cells, D.cells]) | (apply AGo.qunguard; rfl; rfl) | ((first | apply AGo.qlookup | apply AGo.slookup); (iterate 13 rfl); kernel_rfl; exact f4; rfl) | (apply AGo.mapUpdate; (iterate 11 rfl); exact f4; simp only [List.set_cons_succ, List.set_cons_zero]) | intro _ | (apply AGo.retN; rfl; rfl; rfl; rfl) | (apply AGo.outL; rfl; rfl))
          exact AGo.round [(62, I ((k + 1 : Nat) : Int)), (61, I row.length), (3, .ptr 5 0), (0, .ptr 0 0)] (row.length - (k + 1)) (by omega) ⟨rfl, rfl, rfl, rfl, trivial⟩ ⟨k + 1, rfl, hlt, rfl, congrArg (fun x => [AObj.cells [.own 2 (codesD t.codes) 4, .mp 1, .mp 2, .mp 3, I t.lng], AObj.map (smap t.sym), AObj.map (imap t.rws), AObj.map (x), AObj.front 99 2 (codesD t.codes).length, AObj.cells [S row, I sy]]) hput⟩
      · obtain rfl : k = row.length := by omega
        repeat (first | apply AGo.seq | apply AGo.block | apply AGo.blk | apply AGo.skip | apply AGo.nil | apply AGo.qnil | apply AGo.snil | (apply AGo.region; rfl) | ((first | apply AGo.q true | apply AGo.qq true | apply AGo.sq true); rfl; rfl; rfl; rfl; first | exact True.intro | omega | (simp only [Int.toNat_natCast, Int.reduceToNat, IntKind.bits]; omega)) | (apply AGo.drawT; rfl; rfl; rfl; decide +kernel) | (apply AGo.drawQ; rfl; rfl; decide +kernel) | (apply AGo.condDT; rfl; first | omega | rfl) | (apply AGo.condDF; rfl; omega) | (apply AGo.condF; rfl) | (apply AGo.box; (iterate 6 rfl); simp only [nm, Nat.reduceAdd, spliceA, AV.cells, D.cells]) | (apply AGo.store; (iterate 9 rfl); exact Nat.le_of_ble_eq_true rfl; simp only [nm, Nat.reduceAdd, spliceA, AV.cells, D.cells]) | (apply AGo.qunguard; rfl; rfl))
        refine AGo.out rfl ⟨_, rfl, ?_⟩
        repeat (first | apply AGo.seq | apply AGo.block | apply AGo.blk | apply AGo.skip | apply AGo.nil | apply AGo.qnil | apply AGo.snil | (apply AGo.region; rfl) | ((first | apply AGo.q true | apply AGo.qq true | apply AGo.sq true); rfl; rfl; rfl; rfl; first | exact True.intro | omega | (simp only [Int.toNat_natCast, Int.reduceToNat, IntKind.bits]; omega)) | (apply AGo.drawT; rfl; rfl; rfl; decide +kernel) | (apply AGo.drawQ; rfl; rfl; decide +kernel) | (apply AGo.condDT; rfl; first | omega | rfl) | (apply AGo.condDF; rfl; omega) | (apply AGo.condF; rfl) | (apply AGo.box; (iterate 6 rfl); simp only [nm, Nat.reduceAdd, spliceA, AV.cells, D.cells]) | (apply AGo.store; (iterate 9 rfl); exact Nat.le_of_ble_eq_true rfl; simp only [nm, Nat.reduceAdd, spliceA, AV.cells, D.cells]) | (apply AGo.qunguard; rfl; rfl))
        apply AGo.drawH [1, 2]
        exact fun _ _ _ h => h
        rfl
        rfl
        decide +kernel
        rfl
        (repeat (first | exact Heads.nil _ | (apply Heads.cons true; rfl; rfl; rfl; rfl; rfl; first | exact True.intro | omega)))
        (apply Tails.cons; (apply StepR.mapEntry; rfl; rfl; rfl; rfl; rfl; rfl; rfl; rfl; rfl; rfl; rfl; kernel_rfl; rfl; rfl; exact f5; rfl))
        (apply Tails.cons; (apply StepR.q true; rfl; rfl; rfl; rfl; exact True.intro))
        (apply Tails.cons; (apply StepR.entryStore; rfl; rfl; rfl; rfl; rfl; rfl; rfl; (simp only [List.length_append, List.length_cons, List.length_nil, ment]; omega); rfl))
        (apply Tails.cons; (apply StepR.mapEntry; rfl; rfl; rfl; rfl; rfl; rfl; rfl; rfl; rfl; rfl; rfl; kernel_rfl; rfl; rfl; exact f1; rfl))
        (apply Tails.cons; (apply StepR.q true; rfl; rfl; rfl; rfl; exact True.intro))
        (apply Tails.cons; (apply StepR.entryStore; rfl; rfl; rfl; rfl; rfl; rfl; rfl; (simp only [List.length_append, List.length_cons, List.length_nil, ment]; omega); rfl))
        exact Tails.nil _ _
        exact Nat.le_refl _
        simp only [List.set_cons_succ, List.set_cons_zero, ment, mentR]
        repeat (first | apply AGo.seq | apply AGo.block | apply AGo.blk | apply AGo.skip | apply AGo.nil | apply AGo.qnil | apply AGo.snil | (apply AGo.region; rfl) | ((first | apply AGo.q true | apply AGo.qq true | apply AGo.sq true); rfl; rfl; rfl; rfl; first | exact True.intro | omega | (simp only [Int.toNat_natCast, Int.reduceToNat, IntKind.bits]; omega)) | (apply AGo.drawT; rfl; rfl; rfl; decide +kernel) | (apply AGo.drawQ; rfl; rfl; decide +kernel) | (apply AGo.condDT; rfl; first | omega | rfl) | (apply AGo.condDF; rfl; omega) | (apply AGo.condF; rfl) | (apply AGo.box; (iterate 6 rfl); simp only [nm, Nat.reduceAdd, spliceA, AV.cells, D.cells]) | (apply AGo.store; (iterate 9 rfl); exact Nat.le_of_ble_eq_true rfl; simp only [nm, Nat.reduceAdd, spliceA, AV.cells, D.cells]) | (apply AGo.qunguard; rfl; rfl))
        apply AGo.drawA
        exact fun _ _ _ h => h
        rfl
        rfl
        decide +kernel
        (repeat (first | exact Heads.nil _ | (apply Heads.cons true; rfl; rfl; rfl; rfl; rfl; first | exact True.intro | omega)))
        (apply StepB.buildSlice; rfl; rfl; rfl; rfl; rfl; rfl; rfl; rfl; rfl; rfl; rfl)
        exact Nat.le_refl _
        repeat' (first | (apply AGo.append; (iterate 11 rfl); (first | rfl | (simp only [List.length_append, List.length_map, List.length_cons, List.length_nil]; omega)); (first | (simp only [List.length_append, List.length_map, List.length_cons, List.length_nil]; omega) | (simp only [codesD_len, List.length_cons, List.length_nil]; omega)); simp only [List.set_cons_zero, List.set_cons_succ]) | apply AGo.seq | apply AGo.block | apply AGo.blk | apply AGo.skip | apply AGo.nil | apply AGo.qnil | apply AGo.snil | (apply AGo.region; rfl) | ((first | apply AGo.q true | apply AGo.qq true | apply AGo.sq true); rfl; rfl; rfl; rfl; first | exact True.intro | omega | (simp only [Int.toNat_natCast, Int.reduceToNat, IntKind.bits]; omega) | (simp only [codesD_len, List.length_cons, List.length_nil]; omega)) | (apply AGo.drawT; rfl; rfl; rfl; decide +kernel) | (apply AGo.drawQ; rfl; rfl; decide +kernel) | (apply AGo.condDT; rfl; first | omega | rfl) | (apply AGo.condDF; rfl; omega) | (apply AGo.condF; rfl) | (apply AGo.box; (iterate 6 rfl); simp only [nm, Nat.reduceAdd, spliceA, AV.cells, D.cells]) | (apply AGo.store; (iterate 9 rfl); exact Nat.le_of_ble_eq_true rfl; simp only [nm, Nat.reduceAdd, spliceA, AV.cells, D.cells]) | (apply AGo.qunguard; rfl; rfl) | intro _ | (apply AGo.retN; rfl; rfl; rfl; rfl) | (apply AGo.outL; rfl; rfl))
        all_goals refine ⟨rfl, ?_⟩
        have s1 : msetV (smap t.sym ++ [(.str row, .int .i64 0)]) ((smap t.sym).length : Int).toNat (.int .i64 (codesD t.codes).length) = smap (addT t row sy).sym := by
          rw [msetV_last _ _ _ _ _ rfl]; unfold addT; rw [smap_snoc, codesD_len]
        have s2 : msetV (imap t.rws ++ [(.int .i64 sy, .int .i64 0)]) ((imap t.rws).length : Int).toNat (.int .i64 (codesD t.codes).length) = imap (addT t row sy).rws := by
          rw [msetV_last _ _ _ _ _ rfl]; unfold addT; rw [imap_snoc, codesD_len]
        have s3 : codesD (addT t row sy).codes = codesD t.codes ++ [codeD (row, sy)] := by unfold addT; exact codesD_snoc _ _

        rw [← s1, ← s2, s3]
        rfl
  | some jv =>
    obtain ⟨j, v⟩ := jv
    rw [h4] at f2
    have h5 := gval_some h4
    rw [h5] at h3
    refine ACalls.enter Tryd.func74 rfl Tryd.ntmps74 (by kernel_rfl) rfl ?_; simp only [argEnv, Nat.reduceAdd, List.length_nil, List.length_cons]
    repeat (first | apply AGo.seq | apply AGo.block | apply AGo.blk | apply AGo.skip | apply AGo.nil | apply AGo.qnil | apply AGo.snil | (apply AGo.region; rfl) | ((first | apply AGo.q true | apply AGo.qq true | apply AGo.sq true); rfl; rfl; rfl; rfl; first | exact True.intro | omega | (simp only [Int.toNat_natCast, Int.reduceToNat, IntKind.bits]; omega)) | (apply AGo.qcallP (hr); (iterate 7 rfl)) | (apply AGo.drawT; rfl; rfl; rfl; decide +kernel) | (apply AGo.drawQ; rfl; rfl; decide +kernel) | (apply AGo.condDT; rfl; first | omega | rfl) | (apply AGo.condDF; rfl; omega) | (apply AGo.condF; rfl) | (apply AGo.box; (iterate 6 rfl); simp only [nm, Nat.reduceAdd, spliceA, AV.cells, D.cells]) | (apply AGo.store; (iterate 9 rfl); exact Nat.le_of_ble_eq_true rfl; simp only [nm, Nat.reduceAdd, spliceA, AV.cells, D.cells]) | (apply AGo.qunguard; rfl; rfl) | ((first | apply AGo.qlookup | apply AGo.slookup); (iterate 13 rfl); kernel_rfl; exact f1; rfl) | ((first | apply AGo.qlookup | apply AGo.slookup); (iterate 13 rfl); kernel_rfl; exact f2; rfl))
    refine AGo.weak (env' := [(41, I 0), (40, I row.length), (3, .ptr 5 0), (0, .ptr 0 0)]) ⟨rfl, rfl, rfl, rfl, trivial⟩ ?_
    refine AGo.loop (fun m env H => ∃ k : Nat, m = row.length - k ∧ k ≤ row.length ∧ (∀ n, n < k → gfind (row.take (n + 1)) t.sym 0 = none) ∧ env = [(41, I (k : Int)), (40, I row.length), (3, .ptr 5 0), (0, .ptr 0 0)] ∧ H = [.cells [.own 2 (codesD t.codes) 4, .mp 1, .mp 2, .mp 3, I t.lng], .map (smap t.sym), .map (imap t.rws), .map (smap t.beg), .front 99 2 (codesD t.codes).length, .cells [S row, I sy]]) row.length
      ⟨0, rfl, by omega, fun n hn => absurd hn (by omega), rfl, rfl⟩ ?_
    rintro m env H ⟨k, rfl, hk, hw, rfl, rfl⟩
    have e1 := tk1 row k
    have f3 := mfind_smap (row.take ((k : Int) + 1).toNat) t.sym 0
    rw [e1] at f3
    rcases Nat.lt_or_ge k row.length with hlt | hge
    · have h6 := hw4 k hlt
      rw [h6] at f3
      rw [← e1] at f3
      repeat' (first | apply AGo.seq | apply AGo.block | apply AGo.blk | apply AGo.skip | apply AGo.nil | apply AGo.qnil | apply AGo.snil | (apply AGo.region; rfl) | ((first | apply AGo.q true | apply AGo.qq true | apply AGo.sq true); rfl; rfl; rfl; rfl; first | exact True.intro | omega | (simp only [Int.toNat_natCast, Int.reduceToNat, IntKind.bits]; omega)) | (apply AGo.drawT; rfl; rfl; rfl; decide +kernel) | (apply AGo.drawQ; rfl; rfl; decide +kernel) | (apply AGo.condDT; rfl; first | omega | rfl) | (apply AGo.condDF; rfl; omega) | (apply AGo.condF; rfl) | (apply AGo.box; (iterate 6 rfl); simp only [nm, Nat.reduceAdd, spliceA, AV.cells, D.cells]) | (apply AGo.store; (iterate 9 rfl); exact Nat.le_of_ble_eq_true rfl; simp only [nm, Nat.reduceAdd, spliceA, AV.cells, D.cells]) | (apply AGo.qunguard; rfl; rfl) | ((first | apply AGo.qlookup | apply AGo.slookup); (iterate 13 rfl); kernel_rfl; exact f3; rfl) | intro _ | (apply AGo.retN; rfl; rfl; rfl; rfl) | (apply AGo.outL; rfl; rfl))
      exact AGo.round [(41, I ((k + 1 : Nat) : Int)), (40, I row.length), (3, .ptr 5 0), (0, .ptr 0 0)] (row.length - (k + 1)) (by omega) ⟨rfl, rfl, rfl, rfl, trivial⟩ ⟨k + 1, rfl, hlt, fun n _ => hw4 n (by omega), rfl, rfl⟩
    · obtain rfl : k = row.length := by omega
      repeat' (first | apply AGo.seq | apply AGo.block | apply AGo.blk | apply AGo.skip | apply AGo.nil | apply AGo.qnil | apply AGo.snil | (apply AGo.region; rfl) | ((first | apply AGo.q true | apply AGo.qq true | apply AGo.sq true); rfl; rfl; rfl; rfl; first | exact True.intro | omega | (simp only [Int.toNat_natCast, Int.reduceToNat, IntKind.bits]; omega)) | (apply AGo.drawT; rfl; rfl; rfl; decide +kernel) | (apply AGo.drawQ; rfl; rfl; decide +kernel) | (apply AGo.condDT; rfl; first | omega | rfl) | (apply AGo.condDF; rfl; omega) | (apply AGo.condF; rfl) | (apply AGo.box; (iterate 6 rfl); simp only [nm, Nat.reduceAdd, spliceA, AV.cells, D.cells]) | (apply AGo.store; (iterate 9 rfl); exact Nat.le_of_ble_eq_true rfl; simp only [nm, Nat.reduceAdd, spliceA, AV.cells, D.cells]) | (apply AGo.qunguard; rfl; rfl) | intro _ | (apply AGo.retN; rfl; rfl; rfl; rfl) | (apply AGo.outL; rfl; rfl))
      refine AGo.weak (env' := [(62, I 0), (61, I row.length), (3, .ptr 5 0), (0, .ptr 0 0)]) ⟨rfl, rfl, rfl, rfl, trivial⟩ ?_
      refine AGo.loop (fun m env H => ∃ k : Nat, m = row.length - k ∧ k ≤ row.length ∧ env = [(62, I (k : Int)), (61, I row.length), (3, .ptr 5 0), (0, .ptr 0 0)] ∧ H = [.cells [.own 2 (codesD t.codes) 4, .mp 1, .mp 2, .mp 3, I t.lng], .map (smap t.sym), .map (imap t.rws), .map (smap (bumps row k t.beg)), .front 99 2 (codesD t.codes).length, .cells [S row, I sy]]) row.length
        ⟨0, rfl, by omega, rfl, by rw [bumps_0]⟩ ?_
      rintro m env H ⟨k, rfl, hk, rfl, rfl⟩
      have e1 := tk1 row k
      have f4 := mfind_smap (row.take ((k : Int) + 1).toNat) (bumps row k t.beg) 0
      rw [e1] at f4
      have hbd := bumps_bd row t.beg 1000000 hN k (row.take (k + 1))
      rcases Nat.lt_or_ge k row.length with hlt | hge
      · cases h7 : gfind (row.take (k + 1)) (bumps row k t.beg) 0 with
        | none =>
          rw [h7] at f4
          rw [← e1] at f4
          have hput : mput (smap (bumps row k t.beg)) (.str (row.take ((k : Int) + 1).toNat)) (.int .i64 (0 + 1)) none = smap (bumps row (k + 1) t.beg) := by
            have := smap_put (bumps row k t.beg) (row.take (k + 1)) (0 + 1)
            rw [h7] at this
            rw [e1, bumps_succ, gval_none h7]
            exact this
          repeat' (first | apply AGo.seq | apply AGo.block | apply AGo.blk | apply AGo.skip | apply AGo.nil | apply AGo.qnil | apply AGo.snil | (apply AGo.region; rfl) | ((first | apply AGo.q true | apply AGo.qq true | apply AGo.sq true); rfl; rfl; rfl; rfl; first | exact True.intro | omega | (simp only [Int.toNat_natCast, Int.reduceToNat, IntKind.bits]; omega)) | (apply AGo.drawT; rfl; rfl; rfl; decide +kernel) | (apply AGo.drawQ; rfl; rfl; decide +kernel) | (apply AGo.condDT; rfl; first | omega | rfl) | (apply AGo.condDF; rfl; omega) | (apply AGo.condF; rfl) | (apply AGo.box; (iterate 6 rfl); simp only [nm, Nat.reduceAdd, spliceA, AV.cells, D.cells]) | (apply AGo.store; (iterate 9 rfl); exact Nat.le_of_ble_eq_true rfl; simp only [nm, Nat.reduceAdd, spliceA, AV.cells, D.cells]) | (apply AGo.qunguard; rfl; rfl) | ((first | apply AGo.qlookup | apply AGo.slookup); (iterate 13 rfl); kernel_rfl; exact f4; rfl) | (apply AGo.mapUpdate; (iterate 11 rfl); exact f4; simp only [List.set_cons_succ, List.set_cons_zero]) | intro _ | (apply AGo.retN; rfl; rfl; rfl; rfl) | (apply AGo.outL; rfl; rfl))
          exact AGo.round [(62, I ((k + 1 : Nat) : Int)), (61, I row.length), (3, .ptr 5 0), (0, .ptr 0 0)] (row.length - (k + 1)) (by omega) ⟨rfl, rfl, rfl, rfl, trivial⟩ ⟨k + 1, rfl, hlt, rfl, congrArg (fun x => [AObj.cells [.own 2 (codesD t.codes) 4, .mp 1, .mp 2, .mp 3, I t.lng], AObj.map (smap t.sym), AObj.map (imap t.rws), AObj.map (x), AObj.front 99 2 (codesD t.codes).length, AObj.cells [S row, I sy]]) hput⟩
        | some jv =>
          obtain ⟨j, v⟩ := jv
          rw [gval_some h7] at hbd
          rw [h7] at f4
          rw [← e1] at f4
          have hput : mput (smap (bumps row k t.beg)) (.str (row.take ((k : Int) + 1).toNat)) (.int .i64 (v + 1)) (some (j, .int .i64 v)) = smap (bumps row (k + 1) t.beg) := by
            have := smap_put (bumps row k t.beg) (row.take (k + 1)) (v + 1)
            rw [h7] at this
            rw [e1, bumps_succ, gval_some h7]
            exact this
          repeat' (first | apply AGo.seq | apply AGo.block | apply AGo.blk | apply AGo.skip | apply AGo.nil | apply AGo.qnil | apply AGo.snil | (apply AGo.region; rfl) | ((first | apply AGo.q true | apply AGo.qq true | apply AGo.sq true); rfl; rfl; rfl; rfl; first | exact True.intro | omega | (simp only [Int.toNat_natCast, Int.reduceToNat, IntKind.bits]; omega)) | (apply AGo.drawT; rfl; rfl; rfl; decide +kernel) | (apply AGo.drawQ; rfl; rfl; decide +kernel) | (apply AGo.condDT; rfl; first | omega | rfl) | (apply AGo.condDF; rfl; omega) | (apply AGo.condF; rfl) | (apply AGo.box; (iterate 6 rfl); simp only [nm, Nat.reduceAdd, spliceA, AV.cells, D.cells]) | (apply AGo.store; (iterate 9 rfl); exact Nat.le_of_ble_eq_true rfl; simp only [nm, Nat.reduceAdd, spliceA, AV.cells, D.cells]) | (apply AGo.qunguard; rfl; rfl) | ((first | apply AGo.qlookup | apply AGo.slookup); (iterate 13 rfl); kernel_rfl; exact f4; rfl) | (apply AGo.mapUpdate; (iterate 11 rfl); exact f4; simp only [List.set_cons_succ, List.set_cons_zero]) | intro _ | (apply AGo.retN; rfl; rfl; rfl; rfl) | (apply AGo.outL; rfl; rfl))
          exact AGo.round [(62, I ((k + 1 : Nat) : Int)), (61, I row.length), (3, .ptr 5 0), (0, .ptr 0 0)] (row.length - (k + 1)) (by omega) ⟨rfl, rfl, rfl, rfl, trivial⟩ ⟨k + 1, rfl, hlt, rfl, congrArg (fun x => [AObj.cells [.own 2 (codesD t.codes) 4, .mp 1, .mp 2, .mp 3, I t.lng], AObj.map (smap t.sym), AObj.map (imap t.rws), AObj.map (x), AObj.front 99 2 (codesD t.codes).length, AObj.cells [S row, I sy]]) hput⟩
      · obtain rfl : k = row.length := by omega
        repeat (first | apply AGo.seq | apply AGo.block | apply AGo.blk | apply AGo.skip | apply AGo.nil | apply AGo.qnil | apply AGo.snil | (apply AGo.region; rfl) | ((first | apply AGo.q true | apply AGo.qq true | apply AGo.sq true); rfl; rfl; rfl; rfl; first | exact True.intro | omega | (simp only [Int.toNat_natCast, Int.reduceToNat, IntKind.bits]; omega)) | (apply AGo.drawT; rfl; rfl; rfl; decide +kernel) | (apply AGo.drawQ; rfl; rfl; decide +kernel) | (apply AGo.condDT; rfl; first | omega | rfl) | (apply AGo.condDF; rfl; omega) | (apply AGo.condF; rfl) | (apply AGo.box; (iterate 6 rfl); simp only [nm, Nat.reduceAdd, spliceA, AV.cells, D.cells]) | (apply AGo.store; (iterate 9 rfl); exact Nat.le_of_ble_eq_true rfl; simp only [nm, Nat.reduceAdd, spliceA, AV.cells, D.cells]) | (apply AGo.qunguard; rfl; rfl))
        refine AGo.out rfl ⟨_, rfl, ?_⟩
        repeat (first | apply AGo.seq | apply AGo.block | apply AGo.blk | apply AGo.skip | apply AGo.nil | apply AGo.qnil | apply AGo.snil | (apply AGo.region; rfl) | ((first | apply AGo.q true | apply AGo.qq true | apply AGo.sq true); rfl; rfl; rfl; rfl; first | exact True.intro | omega | (simp only [Int.toNat_natCast, Int.reduceToNat, IntKind.bits]; omega)) | (apply AGo.drawT; rfl; rfl; rfl; decide +kernel) | (apply AGo.drawQ; rfl; rfl; decide +kernel) | (apply AGo.condDT; rfl; first | omega | rfl) | (apply AGo.condDF; rfl; omega) | (apply AGo.condF; rfl) | (apply AGo.box; (iterate 6 rfl); simp only [nm, Nat.reduceAdd, spliceA, AV.cells, D.cells]) | (apply AGo.store; (iterate 9 rfl); exact Nat.le_of_ble_eq_true rfl; simp only [nm, Nat.reduceAdd, spliceA, AV.cells, D.cells]) | (apply AGo.qunguard; rfl; rfl))
        apply AGo.drawH [1, 2]
        exact fun _ _ _ h => h
        rfl
        rfl
        decide +kernel
        rfl
        (repeat (first | exact Heads.nil _ | (apply Heads.cons true; rfl; rfl; rfl; rfl; rfl; first | exact True.intro | omega)))
        (apply Tails.cons; (apply StepR.mapEntry; rfl; rfl; rfl; rfl; rfl; rfl; rfl; rfl; rfl; rfl; rfl; kernel_rfl; rfl; rfl; exact f5; rfl))
        (apply Tails.cons; (apply StepR.q true; rfl; rfl; rfl; rfl; exact True.intro))
        (apply Tails.cons; (apply StepR.entryStore; rfl; rfl; rfl; rfl; rfl; rfl; rfl; (simp only [List.length_append, List.length_cons, List.length_nil, ment]; omega); rfl))
        (apply Tails.cons; (apply StepR.mapEntry; rfl; rfl; rfl; rfl; rfl; rfl; rfl; rfl; rfl; rfl; rfl; kernel_rfl; rfl; rfl; exact f1; rfl))
        (apply Tails.cons; (apply StepR.q true; rfl; rfl; rfl; rfl; exact True.intro))
        (apply Tails.cons; (apply StepR.entryStore; rfl; rfl; rfl; rfl; rfl; rfl; rfl; (simp only [List.length_append, List.length_cons, List.length_nil, ment]; omega); rfl))
        exact Tails.nil _ _
        exact Nat.le_refl _
        simp only [List.set_cons_succ, List.set_cons_zero, ment, mentR]
        repeat (first | apply AGo.seq | apply AGo.block | apply AGo.blk | apply AGo.skip | apply AGo.nil | apply AGo.qnil | apply AGo.snil | (apply AGo.region; rfl) | ((first | apply AGo.q true | apply AGo.qq true | apply AGo.sq true); rfl; rfl; rfl; rfl; first | exact True.intro | omega | (simp only [Int.toNat_natCast, Int.reduceToNat, IntKind.bits]; omega)) | (apply AGo.drawT; rfl; rfl; rfl; decide +kernel) | (apply AGo.drawQ; rfl; rfl; decide +kernel) | (apply AGo.condDT; rfl; first | omega | rfl) | (apply AGo.condDF; rfl; omega) | (apply AGo.condF; rfl) | (apply AGo.box; (iterate 6 rfl); simp only [nm, Nat.reduceAdd, spliceA, AV.cells, D.cells]) | (apply AGo.store; (iterate 9 rfl); exact Nat.le_of_ble_eq_true rfl; simp only [nm, Nat.reduceAdd, spliceA, AV.cells, D.cells]) | (apply AGo.qunguard; rfl; rfl))
        apply AGo.drawA
        exact fun _ _ _ h => h
        rfl
        rfl
        decide +kernel
        (repeat (first | exact Heads.nil _ | (apply Heads.cons true; rfl; rfl; rfl; rfl; rfl; first | exact True.intro | omega)))
        (apply StepB.buildSlice; rfl; rfl; rfl; rfl; rfl; rfl; rfl; rfl; rfl; rfl; rfl)
        exact Nat.le_refl _
        repeat' (first | (apply AGo.append; (iterate 11 rfl); (first | rfl | (simp only [List.length_append, List.length_map, List.length_cons, List.length_nil]; omega)); (first | (simp only [List.length_append, List.length_map, List.length_cons, List.length_nil]; omega) | (simp only [codesD_len, List.length_cons, List.length_nil]; omega)); simp only [List.set_cons_zero, List.set_cons_succ]) | apply AGo.seq | apply AGo.block | apply AGo.blk | apply AGo.skip | apply AGo.nil | apply AGo.qnil | apply AGo.snil | (apply AGo.region; rfl) | ((first | apply AGo.q true | apply AGo.qq true | apply AGo.sq true); rfl; rfl; rfl; rfl; first | exact True.intro | omega | (simp only [Int.toNat_natCast, Int.reduceToNat, IntKind.bits]; omega) | (simp only [codesD_len, List.length_cons, List.length_nil]; omega)) | (apply AGo.drawT; rfl; rfl; rfl; decide +kernel) | (apply AGo.drawQ; rfl; rfl; decide +kernel) | (apply AGo.condDT; rfl; first | omega | rfl) | (apply AGo.condDF; rfl; omega) | (apply AGo.condF; rfl) | (apply AGo.box; (iterate 6 rfl); simp only [nm, Nat.reduceAdd, spliceA, AV.cells, D.cells]) | (apply AGo.store; (iterate 9 rfl); exact Nat.le_of_ble_eq_true rfl; simp only [nm, Nat.reduceAdd, spliceA, AV.cells, D.cells]) | (apply AGo.qunguard; rfl; rfl) | intro _ | (apply AGo.retN; rfl; rfl; rfl; rfl) | (apply AGo.outL; rfl; rfl))
        all_goals refine ⟨rfl, ?_⟩
        have s1 : msetV (smap t.sym ++ [(.str row, .int .i64 0)]) ((smap t.sym).length : Int).toNat (.int .i64 (codesD t.codes).length) = smap (addT t row sy).sym := by
          rw [msetV_last _ _ _ _ _ rfl]; unfold addT; rw [smap_snoc, codesD_len]
        have s2 : msetV (imap t.rws ++ [(.int .i64 sy, .int .i64 0)]) ((imap t.rws).length : Int).toNat (.int .i64 (codesD t.codes).length) = imap (addT t row sy).rws := by
          rw [msetV_last _ _ _ _ _ rfl]; unfold addT; rw [imap_snoc, codesD_len]
        have s3 : codesD (addT t row sy).codes = codesD t.codes ++ [codeD (row, sy)] := by unfold addT; exact codesD_snoc _ _

        rw [← s1, ← s2, s3]
        rfl
end Go.Proofs.YtbfojhfiemcnpaaDoor.Av.Px
