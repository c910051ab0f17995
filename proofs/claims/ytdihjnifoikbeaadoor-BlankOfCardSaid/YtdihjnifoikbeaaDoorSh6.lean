/- The vector that is foretold. -/
import Derived.Test.YtdihjnifoikbeaaDoorPs1
import Derived.Test.YtdihjnifoikbeaaDoorPn
set_option linter.unusedSimpArgs false
set_option linter.unusedVariables false
set_option maxRecDepth 100000
namespace Go.Proofs.YtdihjnifoikbeaaDoor.Av.Sh
open Go Bt
attribute [local irreducible] AGo ACalls
variable {gl : List (Nat × List D)}
/-- the orders of three reads and three stores -/
def l15 : List (List Nat) := [[0, 1, 2, 3, 4, 5], [0, 1, 3, 2, 4, 5], [0, 1, 3, 4, 2, 5], [0, 2, 1, 3, 4, 5], [0, 2, 3, 1, 4, 5], [0, 3, 1, 2, 4, 5], [0, 3, 1, 4, 2, 5], [0, 3, 2, 1, 4, 5], [1, 0, 2, 3, 4, 5], [1, 0, 3, 2, 4, 5], [1, 0, 3, 4, 2, 5], [1, 2, 0, 3, 4, 5], [2, 0, 1, 3, 4, 5], [2, 0, 3, 1, 4, 5], [2, 1, 0, 3, 4, 5]]
def mid (a b c : Int) : Int := max (min a b) (min (max a b) c)
set_option maxHeartbeats 4000000 in
theorem middle_c (a b c : Int) : ACalls (cxg gl) 116 [I a, I b, I c] [] (fun r H => r = I (mid a b c) ∧ H = []) := by
  refine ACalls.enter Tryd.func116 rfl Tryd.ntmps116 (by kernel_rfl) rfl ?_; simp only [argEnv, Nat.reduceAdd, List.length_nil, List.length_cons]
  repeat' (first | apply AGo.seq | apply AGo.nil | (apply AGo.region; rfl) | (apply AGo.q true; rfl; rfl; rfl; rfl; first | exact True.intro | omega | (simp only [Int.toNat_natCast, Int.reduceToNat, IntKind.bits]; omega)) | intro _ | (apply AGo.retN; rfl; rfl; rfl; rfl))
  all_goals first | exact ⟨rfl, rfl⟩ | exact ⟨congrArg I (by unfold mid; omega), rfl⟩ | trace_state
abbrev pD (p : Int × Int) : D := .agg [Nn p.1, Nn p.2]
def vD (l : List (Int × Int)) : List D := l.map pD
theorem vD_len (l : List (Int × Int)) : (vD l).length = l.length := by simp [vD]
theorem vD_get (l : List (Int × Int)) (i : Int) (h0 : 0 ≤ i) (h1 : i < (vD l).length) : (vD l)[i.toNat]? = some (pD (l.getD i.toNat (0, 0))) := by
  rw [vD_len] at h1
  have : i.toNat < l.length := by omega
  simp [vD, List.getD_eq_getElem?_getD, this]
theorem vD_getD (l : List (Int × Int)) (i : Int) (h0 : 0 ≤ i) (h1 : i < (vD l).length) : (vD l).getD i.toNat .top = pD (l.getD i.toNat (0, 0)) := by
  rw [List.getD_eq_getElem?_getD, vD_get l i h0 h1]; rfl
/-- the left one, the one above, the one above on the right -/
def lfV (l : List (Int × Int)) (A : Int) : Int × Int := if 0 < (l.length : Int) % A then l.getD ((l.length : Int) - 1).toNat (0, 0) else (0, 0)
def topV (l : List (Int × Int)) (A F : Int) : Bool := decide ((l.length : Int) / A ≤ max F 0)
def abV (l : List (Int × Int)) (A F : Int) : Int × Int := if topV l A F = true then lfV l A else l.getD ((l.length : Int) - A).toNat (0, 0)
def arV (l : List (Int × Int)) (A F : Int) : Int × Int := if topV l A F = true then lfV l A else if (l.length : Int) % A < A - 1 then l.getD ((l.length : Int) - A + 1).toNat (0, 0) else (0, 0)
def ofV (l : List (Int × Int)) (A F : Int) : Int × Int := (mid (lfV l A).1 (abV l A F).1 (arV l A F).1, mid (lfV l A).2 (abV l A F).2 (arV l A F).2)
theorem div_facts (n A : Int) (hn : 0 ≤ n) (hA : 1 ≤ A) : 0 ≤ n % A ∧ n % A < A ∧ n % A ≤ n ∧ 0 ≤ n / A ∧ n / A * A = n - n % A ∧ (n / A - 1) * A = n - n % A - A ∧ (1 ≤ n / A → A ≤ n - n % A) ∧ n / A ≤ n := by
  have h1 := Int.emod_nonneg n (show A ≠ 0 by omega)
  have h2 := Int.emod_lt_of_pos n (show 0 < A by omega)
  have h3 := Int.mul_ediv_add_emod n A
  have h4 : 0 ≤ n / A := Int.ediv_nonneg hn (by omega)
  have h5 : n / A * A = n - n % A := by rw [Int.mul_comm]; omega
  have h6 : n / A ≤ n := Int.ediv_le_self _ hn
  refine ⟨h1, h2, ?_, h4, h5, ?_, ?_, h6⟩
  · have : 0 ≤ n / A * A := Int.mul_nonneg h4 (by omega)
    omega
  · rw [Int.sub_mul]; omega
  · intro h
    have : 1 * A ≤ n / A * A := Int.mul_le_mul_of_nonneg_right h (by omega)
    omega
attribute [local irreducible] vD
set_option maxHeartbeats 8000000 in
theorem around_c (l : List (Int × Int)) (A F : Int) (hA : 1 ≤ A ∧ A ≤ 1000000) (hl : l.length ≤ 1000000) :
    ACalls (cxg gl) 115 [.d (.sl 2 (vD l)), I A, I F] [] (fun r H => r = .tup [.d (pD (lfV l A)), .d (pD (abV l A F)), .d (pD (arV l A F))] ∧ H = []) := by
  have hn := vD_len l
  unfold abV arV topV lfV
  rw [← hn] at hl ⊢
  obtain ⟨d1, d2, d3, d4, d5, d6, d7, d8⟩ := div_facts ((vD l).length : Int) A (by omega) hA.1
  have g1 := fun h0 h1 => vD_getD l (((vD l).length : Int) - 1) h0 h1
  have g2 := fun h0 h1 => vD_getD l (((vD l).length : Int) - A) h0 h1
  have g3 := fun h0 h1 => vD_getD l (((vD l).length : Int) - A + 1) h0 h1
  by_cases h1 : 0 < ((vD l).length : Int) % A
  · have m1 := g1 (by omega) (by omega)
    rw [if_pos h1]
    by_cases h2 : ((vD l).length : Int) / A ≤ max F 0
    · rw [decide_eq_true h2, if_pos rfl, if_pos rfl]
      refine ACalls.enter Tryd.func115 rfl Tryd.ntmps115 (by kernel_rfl) rfl ?_; simp only [argEnv, Nat.reduceAdd, List.length_nil, List.length_cons]
      repeat' (first | (apply AGo.opx; (apply quiet_idxG; (iterate 7 rfl); (first | omega | (refine ⟨?_, ?_⟩ <;> omega)); exact m1); rfl; rfl; rfl) | apply AGo.seq | apply AGo.skip | apply AGo.nil | apply AGo.qnil | (apply AGo.region; rfl) | ((first | apply AGo.q true | apply AGo.qq true); rfl; rfl; rfl; rfl; first | exact True.intro | omega | (simp only [Int.toNat_natCast, Int.reduceToNat, IntKind.bits]; omega) | (refine ⟨?_, ?_⟩ <;> omega)) | (apply AGo.drawQ; rfl; rfl; decide +kernel) | (apply AGo.condDT; rfl; first | omega | rfl) | (apply AGo.condDF; rfl; omega) | (apply AGo.alloc; (iterate 5 rfl); simp only [nm, Nat.reduceAdd, spliceA, AV.cells, D.cells]) | (apply AGo.store; (iterate 9 rfl); exact Nat.le_of_ble_eq_true rfl; simp only [nm, Nat.reduceAdd, spliceA, AV.cells, D.cells]) | intro _ | (apply AGo.retN; rfl; rfl; rfl; rfl))
      all_goals first | exact ⟨rfl, rfl⟩ | (exfalso; omega) | trace_state
    · rw [decide_eq_false h2, if_neg (by decide), if_neg (by decide)]
      have m2 := g2 (by omega) (by omega)
      by_cases h3 : ((vD l).length : Int) % A < A - 1
      · have m3 := g3 (by omega) (by omega)
        rw [if_pos h3]
        refine ACalls.enter Tryd.func115 rfl Tryd.ntmps115 (by kernel_rfl) rfl ?_; simp only [argEnv, Nat.reduceAdd, List.length_nil, List.length_cons]
        repeat' (first | (apply AGo.opx; (apply quiet_idxG; (iterate 7 rfl); (first | omega | (refine ⟨?_, ?_⟩ <;> omega)); exact m1); rfl; rfl; rfl) | (apply AGo.opx; (apply quiet_idxG; (iterate 7 rfl); (first | omega | (refine ⟨?_, ?_⟩ <;> omega)); exact m2); rfl; rfl; rfl) | (apply AGo.opx; (apply quiet_idxG; (iterate 7 rfl); (first | omega | (refine ⟨?_, ?_⟩ <;> omega)); exact m3); rfl; rfl; rfl) | apply AGo.seq | apply AGo.skip | apply AGo.nil | apply AGo.qnil | (apply AGo.region; rfl) | ((first | apply AGo.q true | apply AGo.qq true); rfl; rfl; rfl; rfl; first | exact True.intro | omega | (simp only [Int.toNat_natCast, Int.reduceToNat, IntKind.bits]; omega) | (refine ⟨?_, ?_⟩ <;> omega)) | (apply AGo.drawQ; rfl; rfl; decide +kernel) | (apply AGo.condDT; rfl; first | omega | rfl) | (apply AGo.condDF; rfl; omega) | (apply AGo.alloc; (iterate 5 rfl); simp only [nm, Nat.reduceAdd, spliceA, AV.cells, D.cells]) | (apply AGo.store; (iterate 9 rfl); exact Nat.le_of_ble_eq_true rfl; simp only [nm, Nat.reduceAdd, spliceA, AV.cells, D.cells]) | intro _ | (apply AGo.retN; rfl; rfl; rfl; rfl))
        all_goals
          apply AGo.drawAll _ l15
          rfl
          decide +kernel
          unfold l15
          simp only [AAll, List.filterMap_cons, List.filterMap_nil, List.getElem?_cons_zero, List.getElem?_cons_succ]
          refine ⟨?_, ?_, ?_, ?_, ?_, ?_, ?_, ?_, ?_, ?_, ?_, ?_, ?_, ?_, ?_, True.intro⟩
        all_goals
          repeat' (first | apply AGo.seq | apply AGo.skip | apply AGo.nil | apply AGo.qnil | (apply AGo.region; rfl) | ((first | apply AGo.q true | apply AGo.qq true); rfl; rfl; rfl; rfl; first | exact True.intro | omega | (simp only [Int.toNat_natCast, Int.reduceToNat, IntKind.bits]; omega)) | (apply AGo.drawQ; rfl; rfl; decide +kernel) | (apply AGo.condDT; rfl; first | omega | rfl) | (apply AGo.condDF; rfl; omega) | (apply AGo.alloc; (iterate 5 rfl); simp only [nm, Nat.reduceAdd, spliceA, AV.cells, D.cells]) | (apply AGo.store; (iterate 9 rfl); exact Nat.le_of_ble_eq_true rfl; simp only [nm, Nat.reduceAdd, spliceA, AV.cells, D.cells]) | intro _ | (apply AGo.retN; rfl; rfl; rfl; rfl))
          all_goals first | exact ⟨rfl, rfl⟩ | (exfalso; omega) | trace_state
      · rw [if_neg h3]
        refine ACalls.enter Tryd.func115 rfl Tryd.ntmps115 (by kernel_rfl) rfl ?_; simp only [argEnv, Nat.reduceAdd, List.length_nil, List.length_cons]
        repeat' (first | (apply AGo.opx; (apply quiet_idxG; (iterate 7 rfl); (first | omega | (refine ⟨?_, ?_⟩ <;> omega)); exact m1); rfl; rfl; rfl) | (apply AGo.opx; (apply quiet_idxG; (iterate 7 rfl); (first | omega | (refine ⟨?_, ?_⟩ <;> omega)); exact m2); rfl; rfl; rfl) | apply AGo.seq | apply AGo.skip | apply AGo.nil | apply AGo.qnil | (apply AGo.region; rfl) | ((first | apply AGo.q true | apply AGo.qq true); rfl; rfl; rfl; rfl; first | exact True.intro | omega | (simp only [Int.toNat_natCast, Int.reduceToNat, IntKind.bits]; omega) | (refine ⟨?_, ?_⟩ <;> omega)) | (apply AGo.drawQ; rfl; rfl; decide +kernel) | (apply AGo.condDT; rfl; first | omega | rfl) | (apply AGo.condDF; rfl; omega) | (apply AGo.alloc; (iterate 5 rfl); simp only [nm, Nat.reduceAdd, spliceA, AV.cells, D.cells]) | (apply AGo.store; (iterate 9 rfl); exact Nat.le_of_ble_eq_true rfl; simp only [nm, Nat.reduceAdd, spliceA, AV.cells, D.cells]) | intro _ | (apply AGo.retN; rfl; rfl; rfl; rfl))
        all_goals
          apply AGo.drawAll _ l15
          rfl
          decide +kernel
          unfold l15
          simp only [AAll, List.filterMap_cons, List.filterMap_nil, List.getElem?_cons_zero, List.getElem?_cons_succ]
          refine ⟨?_, ?_, ?_, ?_, ?_, ?_, ?_, ?_, ?_, ?_, ?_, ?_, ?_, ?_, ?_, True.intro⟩
        all_goals
          repeat' (first | apply AGo.seq | apply AGo.skip | apply AGo.nil | apply AGo.qnil | (apply AGo.region; rfl) | ((first | apply AGo.q true | apply AGo.qq true); rfl; rfl; rfl; rfl; first | exact True.intro | omega | (simp only [Int.toNat_natCast, Int.reduceToNat, IntKind.bits]; omega)) | (apply AGo.drawQ; rfl; rfl; decide +kernel) | (apply AGo.condDT; rfl; first | omega | rfl) | (apply AGo.condDF; rfl; omega) | (apply AGo.alloc; (iterate 5 rfl); simp only [nm, Nat.reduceAdd, spliceA, AV.cells, D.cells]) | (apply AGo.store; (iterate 9 rfl); exact Nat.le_of_ble_eq_true rfl; simp only [nm, Nat.reduceAdd, spliceA, AV.cells, D.cells]) | intro _ | (apply AGo.retN; rfl; rfl; rfl; rfl))
          all_goals first | exact ⟨rfl, rfl⟩ | (exfalso; omega) | trace_state
  · rw [if_neg h1]
    by_cases h2 : ((vD l).length : Int) / A ≤ max F 0
    · rw [decide_eq_true h2, if_pos rfl, if_pos rfl]
      refine ACalls.enter Tryd.func115 rfl Tryd.ntmps115 (by kernel_rfl) rfl ?_; simp only [argEnv, Nat.reduceAdd, List.length_nil, List.length_cons]
      repeat' (first | apply AGo.seq | apply AGo.skip | apply AGo.nil | apply AGo.qnil | (apply AGo.region; rfl) | ((first | apply AGo.q true | apply AGo.qq true); rfl; rfl; rfl; rfl; first | exact True.intro | omega | (simp only [Int.toNat_natCast, Int.reduceToNat, IntKind.bits]; omega) | (refine ⟨?_, ?_⟩ <;> omega)) | (apply AGo.drawQ; rfl; rfl; decide +kernel) | (apply AGo.condDT; rfl; first | omega | rfl) | (apply AGo.condDF; rfl; omega) | (apply AGo.alloc; (iterate 5 rfl); simp only [nm, Nat.reduceAdd, spliceA, AV.cells, D.cells]) | (apply AGo.store; (iterate 9 rfl); exact Nat.le_of_ble_eq_true rfl; simp only [nm, Nat.reduceAdd, spliceA, AV.cells, D.cells]) | intro _ | (apply AGo.retN; rfl; rfl; rfl; rfl))
      all_goals first | exact ⟨rfl, rfl⟩ | (exfalso; omega) | trace_state
    · rw [decide_eq_false h2, if_neg (by decide), if_neg (by decide)]
      have m2 := g2 (by omega) (by omega)
      by_cases h3 : ((vD l).length : Int) % A < A - 1
      · have m3 := g3 (by omega) (by omega)
        rw [if_pos h3]
        refine ACalls.enter Tryd.func115 rfl Tryd.ntmps115 (by kernel_rfl) rfl ?_; simp only [argEnv, Nat.reduceAdd, List.length_nil, List.length_cons]
        repeat' (first | (apply AGo.opx; (apply quiet_idxG; (iterate 7 rfl); (first | omega | (refine ⟨?_, ?_⟩ <;> omega)); exact m2); rfl; rfl; rfl) | (apply AGo.opx; (apply quiet_idxG; (iterate 7 rfl); (first | omega | (refine ⟨?_, ?_⟩ <;> omega)); exact m3); rfl; rfl; rfl) | apply AGo.seq | apply AGo.skip | apply AGo.nil | apply AGo.qnil | (apply AGo.region; rfl) | ((first | apply AGo.q true | apply AGo.qq true); rfl; rfl; rfl; rfl; first | exact True.intro | omega | (simp only [Int.toNat_natCast, Int.reduceToNat, IntKind.bits]; omega) | (refine ⟨?_, ?_⟩ <;> omega)) | (apply AGo.drawQ; rfl; rfl; decide +kernel) | (apply AGo.condDT; rfl; first | omega | rfl) | (apply AGo.condDF; rfl; omega) | (apply AGo.alloc; (iterate 5 rfl); simp only [nm, Nat.reduceAdd, spliceA, AV.cells, D.cells]) | (apply AGo.store; (iterate 9 rfl); exact Nat.le_of_ble_eq_true rfl; simp only [nm, Nat.reduceAdd, spliceA, AV.cells, D.cells]) | intro _ | (apply AGo.retN; rfl; rfl; rfl; rfl))
        all_goals
          apply AGo.drawAll _ l15
          rfl
          decide +kernel
          unfold l15
          simp only [AAll, List.filterMap_cons, List.filterMap_nil, List.getElem?_cons_zero, List.getElem?_cons_succ]
          refine ⟨?_, ?_, ?_, ?_, ?_, ?_, ?_, ?_, ?_, ?_, ?_, ?_, ?_, ?_, ?_, True.intro⟩
        all_goals
          repeat' (first | apply AGo.seq | apply AGo.skip | apply AGo.nil | apply AGo.qnil | (apply AGo.region; rfl) | ((first | apply AGo.q true | apply AGo.qq true); rfl; rfl; rfl; rfl; first | exact True.intro | omega | (simp only [Int.toNat_natCast, Int.reduceToNat, IntKind.bits]; omega)) | (apply AGo.drawQ; rfl; rfl; decide +kernel) | (apply AGo.condDT; rfl; first | omega | rfl) | (apply AGo.condDF; rfl; omega) | (apply AGo.alloc; (iterate 5 rfl); simp only [nm, Nat.reduceAdd, spliceA, AV.cells, D.cells]) | (apply AGo.store; (iterate 9 rfl); exact Nat.le_of_ble_eq_true rfl; simp only [nm, Nat.reduceAdd, spliceA, AV.cells, D.cells]) | intro _ | (apply AGo.retN; rfl; rfl; rfl; rfl))
          all_goals first | exact ⟨rfl, rfl⟩ | (exfalso; omega) | trace_state
      · rw [if_neg h3]
        refine ACalls.enter Tryd.func115 rfl Tryd.ntmps115 (by kernel_rfl) rfl ?_; simp only [argEnv, Nat.reduceAdd, List.length_nil, List.length_cons]
        repeat' (first | (apply AGo.opx; (apply quiet_idxG; (iterate 7 rfl); (first | omega | (refine ⟨?_, ?_⟩ <;> omega)); exact m2); rfl; rfl; rfl) | apply AGo.seq | apply AGo.skip | apply AGo.nil | apply AGo.qnil | (apply AGo.region; rfl) | ((first | apply AGo.q true | apply AGo.qq true); rfl; rfl; rfl; rfl; first | exact True.intro | omega | (simp only [Int.toNat_natCast, Int.reduceToNat, IntKind.bits]; omega) | (refine ⟨?_, ?_⟩ <;> omega)) | (apply AGo.drawQ; rfl; rfl; decide +kernel) | (apply AGo.condDT; rfl; first | omega | rfl) | (apply AGo.condDF; rfl; omega) | (apply AGo.alloc; (iterate 5 rfl); simp only [nm, Nat.reduceAdd, spliceA, AV.cells, D.cells]) | (apply AGo.store; (iterate 9 rfl); exact Nat.le_of_ble_eq_true rfl; simp only [nm, Nat.reduceAdd, spliceA, AV.cells, D.cells]) | intro _ | (apply AGo.retN; rfl; rfl; rfl; rfl))
        all_goals
          apply AGo.drawAll _ l15
          rfl
          decide +kernel
          unfold l15
          simp only [AAll, List.filterMap_cons, List.filterMap_nil, List.getElem?_cons_zero, List.getElem?_cons_succ]
          refine ⟨?_, ?_, ?_, ?_, ?_, ?_, ?_, ?_, ?_, ?_, ?_, ?_, ?_, ?_, ?_, True.intro⟩
        all_goals
          repeat' (first | apply AGo.seq | apply AGo.skip | apply AGo.nil | apply AGo.qnil | (apply AGo.region; rfl) | ((first | apply AGo.q true | apply AGo.qq true); rfl; rfl; rfl; rfl; first | exact True.intro | omega | (simp only [Int.toNat_natCast, Int.reduceToNat, IntKind.bits]; omega)) | (apply AGo.drawQ; rfl; rfl; decide +kernel) | (apply AGo.condDT; rfl; first | omega | rfl) | (apply AGo.condDF; rfl; omega) | (apply AGo.alloc; (iterate 5 rfl); simp only [nm, Nat.reduceAdd, spliceA, AV.cells, D.cells]) | (apply AGo.store; (iterate 9 rfl); exact Nat.le_of_ble_eq_true rfl; simp only [nm, Nat.reduceAdd, spliceA, AV.cells, D.cells]) | intro _ | (apply AGo.retN; rfl; rfl; rfl; rfl))
          all_goals first | exact ⟨rfl, rfl⟩ | (exfalso; omega) | trace_state
attribute [local irreducible] lfV abV arV mid
set_option maxHeartbeats 8000000 in
theorem of_c (l : List (Int × Int)) (A F : Int) (hA : 1 ≤ A ∧ A ≤ 1000000) (hl : l.length ≤ 1000000) :
    ACalls (cxg gl) 83 [.d (.sl 2 (vD l)), I A, I F] [] (fun r H => r = .d (pD (ofV l A F)) ∧ H = []) := by
  have ha := around_c (gl := gl) l A F hA hl
  have m1 := middle_c (gl := gl) (lfV l A).1 (abV l A F).1 (arV l A F).1
  have m2 := middle_c (gl := gl) (lfV l A).2 (abV l A F).2 (arV l A F).2
  refine ACalls.enter Tryd.func83 rfl Tryd.ntmps83 (by kernel_rfl) rfl ?_; simp only [argEnv, Nat.reduceAdd, List.length_nil, List.length_cons]
  repeat' (first | (apply AGo.drawC (hs := [0, 1, 2, 3, 4, 5, 6, 7, 8, 9]) (pre := [10]) (n := 11); exact fun _ _ _ h => h; rfl; rfl; rfl; decide +kernel; (repeat (first | exact Heads.nil _ | (apply Heads.cons true; (iterate 5 rfl); first | exact True.intro | omega | (exact ⟨by omega, Nat.le_of_ble_eq_true rfl⟩)))); apply PGo.call (m1); (iterate 8 rfl); simp only [names, putH, AV.ren, AV.renL, AObj.ren, nh, Nat.reduceAdd, Nat.reduceSub]; apply PGo.nil) | (apply AGo.drawC (hs := [0, 1, 2, 3, 4, 5, 6, 7, 8, 9]) (pre := [10]) (n := 11); exact fun _ _ _ h => h; rfl; rfl; rfl; decide +kernel; (repeat (first | exact Heads.nil _ | (apply Heads.cons true; (iterate 5 rfl); first | exact True.intro | omega | (exact ⟨by omega, Nat.le_of_ble_eq_true rfl⟩)))); apply PGo.call (m2); (iterate 8 rfl); simp only [names, putH, AV.ren, AV.renL, AObj.ren, nh, Nat.reduceAdd, Nat.reduceSub]; apply PGo.nil) | apply AGo.seq | apply AGo.block | apply AGo.blk | apply AGo.skip | apply AGo.nil | (apply AGo.region; rfl) | (apply AGo.q true; rfl; rfl; rfl; rfl; first | exact True.intro | omega | (simp only [Int.toNat_natCast, Int.reduceToNat, IntKind.bits]; omega) | (exact ⟨by omega, Nat.le_of_ble_eq_true rfl⟩)) | (apply AGo.callP (ha); (iterate 6 rfl)) | (apply AGo.exit; rfl) | (apply AGo.condDT; rfl; first | omega | rfl) | (apply AGo.condDF; rfl; omega) | (apply AGo.alloc; (iterate 5 rfl); simp only [nm, Nat.reduceAdd, spliceA, AV.cells, D.cells]) | (apply AGo.store; (iterate 9 rfl); exact Nat.le_of_ble_eq_true rfl; simp only [nm, Nat.reduceAdd, spliceA, AV.cells, D.cells]) | apply AGo.loopU | apply AGo.lpU | intro _ | (apply AGo.retN; rfl; rfl; rfl; rfl))
  all_goals first | exact ⟨rfl, rfl⟩ | (exfalso; omega) | trace_state
end Go.Proofs.YtdihjnifoikbeaaDoor.Av.Sh
