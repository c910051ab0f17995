/- Cells are read: the document's head. Cells are read: the bits of a cell's pattern, as the document asks them. -/
import Derived.Test.YtdihjnifoikbeaaDoorPq6
import Derived.Test.YtdihjnifoikbeaaDoorPq8
import Derived.Test.YtdihjnifoikbeaaDoorCi4
/- Cells are read: the document's head. -/
set_option linter.unusedSimpArgs false
set_option linter.unusedVariables false
set_option maxRecDepth 100000
namespace Go.Proofs.YtdihjnifoikbeaaDoor.Av.Ci
open Go Bt Tc Co Bl
attribute [local irreducible] AGo ACalls ARegH ARegK ARegK1 AReg
variable {gl : List (Nat × List D)}
abbrev celQ (st : Int) (sk : Bool) (ki : Int) : D := .agg [In st, .bool sk, In ki, In 0, In 0, In 0, In 0, In 0, In 0, In 0, In 0, In 0, .nils, .nils, .nils, .nils, .nils, .nils]
theorem rintra21_c (k : Int) : ACalls (cxg gl) 43 [I k] [] (fun r H => r = B (intraS k) ∧ H = []) := by
  by_cases h : k = 3 ∨ k = 4
  · rw [show intraS k = true from decide_eq_true h]
    rcases h with rfl | rfl
    all_goals
      refine ACalls.enter Tryd.func43 rfl Tryd.ntmps43 (by kernel_rfl) rfl ?_; simp only [argEnv, Nat.reduceAdd, List.length_nil, List.length_cons]
      repeat' (first | apply AGo.seq | apply AGo.nil | (apply AGo.region; rfl) | (apply AGo.q true; rfl; rfl; rfl; rfl; first | exact True.intro | omega | (simp only [Int.toNat_natCast, Int.reduceToNat, IntKind.bits]; omega)) | (apply AGo.unguard; rfl; rfl) | (apply AGo.gT; rfl; rfl; rfl; first | omega | rfl) | (apply AGo.gF; rfl; rfl; rfl; omega) | (apply AGo.skipOp; rfl; rfl; rfl) | intro _ | (apply AGo.retN; rfl; rfl; rfl; rfl))
      all_goals first | exact ⟨rfl, rfl⟩ | trace_state
  · rw [show intraS k = false from decide_eq_false h]
    refine ACalls.enter Tryd.func43 rfl Tryd.ntmps43 (by kernel_rfl) rfl ?_; simp only [argEnv, Nat.reduceAdd, List.length_nil, List.length_cons]
    repeat' (first | apply AGo.seq | apply AGo.nil | (apply AGo.region; rfl) | (apply AGo.q true; rfl; rfl; rfl; rfl; first | exact True.intro | omega | (simp only [Int.toNat_natCast, Int.reduceToNat, IntKind.bits]; omega)) | (apply AGo.unguard; rfl; rfl) | (apply AGo.gT; rfl; rfl; rfl; first | omega | rfl) | (apply AGo.gF; rfl; rfl; rfl; omega) | (apply AGo.skipOp; rfl; rfl; rfl) | intro _ | (apply AGo.retN; rfl; rfl; rfl; rfl))
    all_goals first | exact ⟨rfl, rfl⟩ | exact ⟨congrArg B (by simp only [bF]; omega), rfl⟩ | trace_state
/-- what the document tells of a head -/
def hdT (p : Nat) (h : HdR) : AV := if h.err = 0 then .tup [.d (celQ h.stuff h.skip h.kind), I h.chr, I ((p + h.used : Nat) : Int), I 0] else .tup [.d (celQ 0 false 0), I 0, I 0, I h.err]
theorem hdT_err {p : Nat} {h : HdR} (he : h.err ≠ 0) : hdT p h = .tup [.d (celQ 0 false 0), I 0, I 0, I h.err] := if_neg he
theorem hdT_ok {p : Nat} {h : HdR} (he : h.err = 0) : hdT p h = .tup [.d (celQ h.stuff h.skip h.kind), I h.chr, I ((p + h.used : Nat) : Int), I 0] := if_pos he
theorem mbN_kinds (b : Bool) (B : List Int) (h : (mbN b B).2.2.1 = 0) : 0 ≤ (mbN b B).1 ∧ (mbN b B).1 ≤ 5 := by
  have := (mbN_kind b B h).1
  omega
attribute [local irreducible] mbN bitsF bitS hdX showN
set_option maxHeartbeats 16000000 in
theorem rbegin_c (b : Bool) (s : List UInt8) (p : Nat) (hs : s.length ≤ 100000) (hp : p ≤ 8 * s.length) : ACalls (cxg gl) 51 [S (showN s), I p, B b] []
    (fun r H => r = hdT p (hdX b 65 0 (bitsF s p)) ∧ H = []) := by
  have hle := fun q => mbN_le b (bitsF s q)
  have hlen := showN_len s
  generalize hh0 : hdX b 65 0 (bitsF s p) = h at *
  refine ACalls.enter Tryd.func51 rfl Tryd.ntmps51 (by kernel_rfl) rfl ?_; simp only [argEnv, Nat.reduceAdd, List.length_nil, List.length_cons]
  repeat (first | apply AGo.seq | apply AGo.block | apply AGo.blk | apply AGo.skip | apply AGo.nil | (apply AGo.region; rfl) | (apply AGo.q true; rfl; rfl; rfl; rfl; first | exact True.intro | omega | (simp only [Int.toNat_natCast, Int.reduceToNat, IntKind.bits]; omega)) | (apply AGo.condDT; rfl; first | omega | rfl) | (apply AGo.condDF; rfl; omega) | (apply AGo.condT; rfl) | (apply AGo.condF; rfl) | (apply AGo.alloc; (iterate 5 rfl); simp only [nm, Nat.reduceAdd, spliceA, AV.cells, D.cells]) | (apply AGo.store; (iterate 9 rfl); exact Nat.le_of_ble_eq_true rfl; simp only [nm, Nat.reduceAdd, spliceA, AV.cells, D.cells]) | (apply AGo.build; (iterate 5 rfl); simp only [nm, Nat.reduceAdd, spliceA, AV.cells, D.cells, mkAgg, unDs, AV.unD]) | (apply AGo.cBT; rfl; first | (simp only [bT]; omega)))
  refine AGo.weak (env' := [(10, .ptr 1 0), (6, .ptr 0 0), (2, B b), (1, I ((p + 0 : Nat) : Int)), (0, S (showN s))]) ⟨rfl, rfl, rfl, rfl, rfl, trivial⟩ ?_
  refine AGo.loop (fun m env H => ∃ (f : Nat) (n : Int) (q : Nat), m = f ∧ (0 ≤ n ∧ n ≤ 64 ∧ 64 - n < f) ∧ p + q ≤ 8 * s.length ∧ hdA q (hdX b f n (bitsF s (p + q))) = h ∧
    env = [(10, .ptr 1 0), (6, .ptr 0 0), (2, B b), (1, I ((p + q : Nat) : Int)), (0, S (showN s))] ∧ H = [.cells (celZ 0 false 0), .cells (celZ n false 0)]) 65
    ⟨65, 0, 0, rfl, by omega, by omega, by rw [Nat.add_zero, hh0]; exact hdA_0 h, rfl, rfl⟩ ?_
  rintro m env H ⟨f, n, q, rfl, hn, hq, hh, rfl, rfl⟩
  obtain ⟨f, rfl⟩ : ∃ g, m = g + 1 := ⟨m - 1, by omega⟩
  cases b with
  | false =>
    have mt := rmbt_c (gl := gl) false s (p + q) hs hq
    have ml := hle (p + q)
    have mk := mbN_kinds false (bitsF s (p + q))
    rw [bitsF_len] at ml
    rw [hdX_F] at hh
    generalize mbN false (bitsF s (p + q)) = x at *
    obtain ⟨k, ch, e, u⟩ := x
    simp only at mt ml mk hh
    unfold hdK at hh
    simp only at hh
    by_cases he : e = 0
    · subst he
      have mk := mk rfl
      rw [if_neg (by simp)] at hh
      by_cases h5 : k = 5
      · subst h5
        rw [if_neg (by simp)] at hh
        by_cases h64 : n = 64
        · subst h64
          rw [if_pos rfl] at hh
          subst hh
          rw [hdT_err (by simp [hdA])]
          repeat' (first | apply AGo.seq | apply AGo.block | apply AGo.blk | apply AGo.skip | apply AGo.nil | (apply AGo.region; rfl) | (apply AGo.q true; rfl; rfl; rfl; rfl; first | exact True.intro | omega | (simp only [Int.toNat_natCast, Int.reduceToNat, IntKind.bits]; omega)) | (apply AGo.callP (mt); (iterate 6 rfl)) | (apply AGo.condDT; rfl; first | omega | rfl) | (apply AGo.condDF; rfl; omega) | (apply AGo.condT; rfl) | (apply AGo.condF; rfl) | (apply AGo.alloc; (iterate 5 rfl); simp only [nm, Nat.reduceAdd, spliceA, AV.cells, D.cells]) | (apply AGo.store; (iterate 9 rfl); exact Nat.le_of_ble_eq_true rfl; simp only [nm, Nat.reduceAdd, spliceA, AV.cells, D.cells]) | (apply AGo.build; (iterate 5 rfl); simp only [nm, Nat.reduceAdd, spliceA, AV.cells, D.cells, mkAgg, unDs, AV.unD]) | (apply AGo.cBT; rfl; first | (simp only [bT]; omega)) | intro _ | (apply AGo.retL; rfl; rfl; rfl; rfl))
          all_goals first | exact ⟨rfl, rfl⟩ | (exfalso; omega) | trace_state
        · rw [if_neg h64] at hh
          repeat' (first | apply AGo.seq | apply AGo.block | apply AGo.blk | apply AGo.skip | apply AGo.nil | (apply AGo.region; rfl) | (apply AGo.q true; rfl; rfl; rfl; rfl; first | exact True.intro | omega | (simp only [Int.toNat_natCast, Int.reduceToNat, IntKind.bits]; omega)) | (apply AGo.callP (mt); (iterate 6 rfl)) | (apply AGo.condDT; rfl; first | omega | rfl) | (apply AGo.condDF; rfl; omega) | (apply AGo.condT; rfl) | (apply AGo.condF; rfl) | (apply AGo.alloc; (iterate 5 rfl); simp only [nm, Nat.reduceAdd, spliceA, AV.cells, D.cells]) | (apply AGo.store; (iterate 9 rfl); exact Nat.le_of_ble_eq_true rfl; simp only [nm, Nat.reduceAdd, spliceA, AV.cells, D.cells]) | (apply AGo.build; (iterate 5 rfl); simp only [nm, Nat.reduceAdd, spliceA, AV.cells, D.cells, mkAgg, unDs, AV.unD]) | (apply AGo.cBT; rfl; first | (simp only [bT]; omega)) | intro _ | (apply AGo.retL; rfl; rfl; rfl; rfl))
          all_goals first
            | exact AGo.round [(10, .ptr 1 0), (6, .ptr 0 0), (2, B false), (1, I ((p + (q + u) : Nat) : Int)), (0, S (showN s))] f (by omega) ⟨rfl, rfl, rfl, congrArg I (by omega), rfl, trivial⟩ ⟨f, n + 1, q + u, rfl, by omega, by omega, by rw [← hh]; simp only [hdA, Nat.zero_add, Nat.add_assoc], rfl, rfl⟩
            | (exfalso; omega) | trace_state
      · rw [if_pos h5] at hh
        subst hh
        rw [hdT_ok (by simp [hdA])]
        simp only [hdA, Nat.zero_add, ← Nat.add_assoc]
        repeat' (first | apply AGo.seq | apply AGo.block | apply AGo.blk | apply AGo.skip | apply AGo.nil | (apply AGo.region; rfl) | (apply AGo.q true; rfl; rfl; rfl; rfl; first | exact True.intro | omega | (simp only [Int.toNat_natCast, Int.reduceToNat, IntKind.bits]; omega)) | (apply AGo.callP (mt); (iterate 6 rfl)) | (apply AGo.condDT; rfl; first | omega | rfl) | (apply AGo.condDF; rfl; omega) | (apply AGo.condT; rfl) | (apply AGo.condF; rfl) | (apply AGo.alloc; (iterate 5 rfl); simp only [nm, Nat.reduceAdd, spliceA, AV.cells, D.cells]) | (apply AGo.store; (iterate 9 rfl); exact Nat.le_of_ble_eq_true rfl; simp only [nm, Nat.reduceAdd, spliceA, AV.cells, D.cells]) | (apply AGo.build; (iterate 5 rfl); simp only [nm, Nat.reduceAdd, spliceA, AV.cells, D.cells, mkAgg, unDs, AV.unD]) | (apply AGo.cBT; rfl; first | (simp only [bT]; omega)) | intro _ | (apply AGo.retL; rfl; rfl; rfl; rfl))
        all_goals first | exact ⟨rfl, rfl⟩ | (exfalso; omega) | trace_state
    · rw [if_pos he] at hh
      subst hh
      rw [hdT_err (by simpa [hdA] using he)]
      repeat' (first | apply AGo.seq | apply AGo.block | apply AGo.blk | apply AGo.skip | apply AGo.nil | (apply AGo.region; rfl) | (apply AGo.q true; rfl; rfl; rfl; rfl; first | exact True.intro | omega | (simp only [Int.toNat_natCast, Int.reduceToNat, IntKind.bits]; omega)) | (apply AGo.callP (mt); (iterate 6 rfl)) | (apply AGo.condDT; rfl; first | omega | rfl) | (apply AGo.condDF; rfl; omega) | (apply AGo.condT; rfl) | (apply AGo.condF; rfl) | (apply AGo.alloc; (iterate 5 rfl); simp only [nm, Nat.reduceAdd, spliceA, AV.cells, D.cells]) | (apply AGo.store; (iterate 9 rfl); exact Nat.le_of_ble_eq_true rfl; simp only [nm, Nat.reduceAdd, spliceA, AV.cells, D.cells]) | (apply AGo.build; (iterate 5 rfl); simp only [nm, Nat.reduceAdd, spliceA, AV.cells, D.cells, mkAgg, unDs, AV.unD]) | (apply AGo.cBT; rfl; first | (simp only [bT]; omega)) | intro _ | (apply AGo.retL; rfl; rfl; rfl; rfl))
      all_goals first | exact ⟨rfl, rfl⟩ | (exfalso; omega) | trace_state
  | true =>
    rcases Nat.lt_or_ge (p + q) (8 * s.length) with hlt | hge
    · have hb01 := bitS_bd s ((p + q : Nat) : Int)
      have b1 : bt (showN s) (((p + q : Nat) : Int) + 1 - 1).toNat = 48 + bitS s ((p + q : Nat) : Int) := by
        rw [show (((p + q : Nat) : Int) + 1 - 1).toNat = p + q by omega]
        exact bt_show s (p + q) hlt
      by_cases h1 : bitS s ((p + q : Nat) : Int) = 1
      · rw [hdX_one _ _ _ _ hlt h1] at hh
        subst hh
        rw [hdT_ok (by simp [hdA])]
        simp only [hdA, ← Nat.add_assoc]
        repeat' (first | apply AGo.seq | apply AGo.block | apply AGo.blk | apply AGo.skip | apply AGo.nil | (apply AGo.region; rfl) | (apply AGo.q true; rfl; rfl; rfl; rfl; first | exact True.intro | omega | (simp only [Int.toNat_natCast, Int.reduceToNat, IntKind.bits]; omega) | (rw [hlen]; omega)) | (apply AGo.condDT; rfl; first | omega | rfl) | (apply AGo.condDF; rfl; omega) | (apply AGo.condT; rfl) | (apply AGo.condF; rfl) | (apply AGo.alloc; (iterate 5 rfl); simp only [nm, Nat.reduceAdd, spliceA, AV.cells, D.cells]) | (apply AGo.store; (iterate 9 rfl); exact Nat.le_of_ble_eq_true rfl; simp only [nm, Nat.reduceAdd, spliceA, AV.cells, D.cells]) | (apply AGo.build; (iterate 5 rfl); simp only [nm, Nat.reduceAdd, spliceA, AV.cells, D.cells, mkAgg, unDs, AV.unD]) | (apply AGo.cBT; rfl; first | (simp only [bT]; omega)) | intro _ | (apply AGo.retL; rfl; rfl; rfl; rfl))
        all_goals first | exact ⟨rfl, rfl⟩ | (exfalso; omega) | trace_state
      · rw [hdX_zero _ _ _ _ hlt h1] at hh
        have mt := rmbt_c (gl := gl) true s (p + q + 1) hs (by omega)
        have ml := hle (p + q + 1)
        have mk := mbN_kinds true (bitsF s (p + q + 1))
        rw [bitsF_len] at ml
        generalize mbN true (bitsF s (p + q + 1)) = x at *
        obtain ⟨k, ch, e, u⟩ := x
        simp only at mt ml mk hh
        unfold hdK at hh
        simp only at hh
        by_cases he : e = 0
        · subst he
          have mk := mk rfl
          rw [if_neg (by simp)] at hh
          by_cases h5 : k = 5
          · subst h5
            rw [if_neg (by simp)] at hh
            by_cases h64 : n = 64
            · subst h64
              rw [if_pos rfl] at hh
              subst hh
              rw [hdT_err (by simp [hdA])]
              repeat' (first | apply AGo.seq | apply AGo.block | apply AGo.blk | apply AGo.skip | apply AGo.nil | (apply AGo.region; rfl) | (apply AGo.q true; rfl; rfl; rfl; rfl; first | exact True.intro | omega | (simp only [Int.toNat_natCast, Int.reduceToNat, IntKind.bits]; omega) | (rw [hlen]; omega)) | (apply AGo.callP (mt); (iterate 6 rfl)) | (apply AGo.condDT; rfl; first | omega | rfl) | (apply AGo.condDF; rfl; omega) | (apply AGo.condT; rfl) | (apply AGo.condF; rfl) | (apply AGo.alloc; (iterate 5 rfl); simp only [nm, Nat.reduceAdd, spliceA, AV.cells, D.cells]) | (apply AGo.store; (iterate 9 rfl); exact Nat.le_of_ble_eq_true rfl; simp only [nm, Nat.reduceAdd, spliceA, AV.cells, D.cells]) | (apply AGo.build; (iterate 5 rfl); simp only [nm, Nat.reduceAdd, spliceA, AV.cells, D.cells, mkAgg, unDs, AV.unD]) | (apply AGo.cBT; rfl; first | (simp only [bT]; omega)) | intro _ | (apply AGo.retL; rfl; rfl; rfl; rfl))
              all_goals first | exact ⟨rfl, rfl⟩ | (exfalso; omega) | trace_state
            · rw [if_neg h64] at hh
              repeat' (first | apply AGo.seq | apply AGo.block | apply AGo.blk | apply AGo.skip | apply AGo.nil | (apply AGo.region; rfl) | (apply AGo.q true; rfl; rfl; rfl; rfl; first | exact True.intro | omega | (simp only [Int.toNat_natCast, Int.reduceToNat, IntKind.bits]; omega) | (rw [hlen]; omega)) | (apply AGo.callP (mt); (iterate 6 rfl)) | (apply AGo.condDT; rfl; first | omega | rfl) | (apply AGo.condDF; rfl; omega) | (apply AGo.condT; rfl) | (apply AGo.condF; rfl) | (apply AGo.alloc; (iterate 5 rfl); simp only [nm, Nat.reduceAdd, spliceA, AV.cells, D.cells]) | (apply AGo.store; (iterate 9 rfl); exact Nat.le_of_ble_eq_true rfl; simp only [nm, Nat.reduceAdd, spliceA, AV.cells, D.cells]) | (apply AGo.build; (iterate 5 rfl); simp only [nm, Nat.reduceAdd, spliceA, AV.cells, D.cells, mkAgg, unDs, AV.unD]) | (apply AGo.cBT; rfl; first | (simp only [bT]; omega)) | intro _ | (apply AGo.retL; rfl; rfl; rfl; rfl))
              all_goals first
                | exact AGo.round [(10, .ptr 1 0), (6, .ptr 0 0), (2, B true), (1, I ((p + (q + 1 + u) : Nat) : Int)), (0, S (showN s))] f (by omega) ⟨rfl, rfl, rfl, congrArg I (by omega), rfl, trivial⟩ ⟨f, n + 1, q + 1 + u, rfl, by omega, by omega, by rw [← hh]; simp only [hdA, Nat.add_assoc], rfl, rfl⟩
                | (exfalso; omega) | trace_state
          · rw [if_pos h5] at hh
            subst hh
            rw [hdT_ok (by simp [hdA])]
            simp only [hdA, ← Nat.add_assoc]
            repeat' (first | apply AGo.seq | apply AGo.block | apply AGo.blk | apply AGo.skip | apply AGo.nil | (apply AGo.region; rfl) | (apply AGo.q true; rfl; rfl; rfl; rfl; first | exact True.intro | omega | (simp only [Int.toNat_natCast, Int.reduceToNat, IntKind.bits]; omega) | (rw [hlen]; omega)) | (apply AGo.callP (mt); (iterate 6 rfl)) | (apply AGo.condDT; rfl; first | omega | rfl) | (apply AGo.condDF; rfl; omega) | (apply AGo.condT; rfl) | (apply AGo.condF; rfl) | (apply AGo.alloc; (iterate 5 rfl); simp only [nm, Nat.reduceAdd, spliceA, AV.cells, D.cells]) | (apply AGo.store; (iterate 9 rfl); exact Nat.le_of_ble_eq_true rfl; simp only [nm, Nat.reduceAdd, spliceA, AV.cells, D.cells]) | (apply AGo.build; (iterate 5 rfl); simp only [nm, Nat.reduceAdd, spliceA, AV.cells, D.cells, mkAgg, unDs, AV.unD]) | (apply AGo.cBT; rfl; first | (simp only [bT]; omega)) | intro _ | (apply AGo.retL; rfl; rfl; rfl; rfl))
            all_goals first | exact ⟨rfl, rfl⟩ | (exfalso; omega) | trace_state
        · rw [if_pos he] at hh
          subst hh
          rw [hdT_err (by simpa [hdA] using he)]
          repeat' (first | apply AGo.seq | apply AGo.block | apply AGo.blk | apply AGo.skip | apply AGo.nil | (apply AGo.region; rfl) | (apply AGo.q true; rfl; rfl; rfl; rfl; first | exact True.intro | omega | (simp only [Int.toNat_natCast, Int.reduceToNat, IntKind.bits]; omega) | (rw [hlen]; omega)) | (apply AGo.callP (mt); (iterate 6 rfl)) | (apply AGo.condDT; rfl; first | omega | rfl) | (apply AGo.condDF; rfl; omega) | (apply AGo.condT; rfl) | (apply AGo.condF; rfl) | (apply AGo.alloc; (iterate 5 rfl); simp only [nm, Nat.reduceAdd, spliceA, AV.cells, D.cells]) | (apply AGo.store; (iterate 9 rfl); exact Nat.le_of_ble_eq_true rfl; simp only [nm, Nat.reduceAdd, spliceA, AV.cells, D.cells]) | (apply AGo.build; (iterate 5 rfl); simp only [nm, Nat.reduceAdd, spliceA, AV.cells, D.cells, mkAgg, unDs, AV.unD]) | (apply AGo.cBT; rfl; first | (simp only [bT]; omega)) | intro _ | (apply AGo.retL; rfl; rfl; rfl; rfl))
          all_goals first | exact ⟨rfl, rfl⟩ | (exfalso; omega) | trace_state
    · rw [hdX_end _ _ _ _ hge] at hh
      subst hh
      rw [hdT_err (by simp [hdA])]
      repeat' (first | apply AGo.seq | apply AGo.block | apply AGo.blk | apply AGo.skip | apply AGo.nil | (apply AGo.region; rfl) | (apply AGo.q true; rfl; rfl; rfl; rfl; first | exact True.intro | omega | (simp only [Int.toNat_natCast, Int.reduceToNat, IntKind.bits]; omega) | (rw [hlen]; omega)) | (apply AGo.condDT; rfl; first | omega | rfl) | (apply AGo.condDF; rfl; omega) | (apply AGo.condT; rfl) | (apply AGo.condF; rfl) | (apply AGo.alloc; (iterate 5 rfl); simp only [nm, Nat.reduceAdd, spliceA, AV.cells, D.cells]) | (apply AGo.store; (iterate 9 rfl); exact Nat.le_of_ble_eq_true rfl; simp only [nm, Nat.reduceAdd, spliceA, AV.cells, D.cells]) | (apply AGo.build; (iterate 5 rfl); simp only [nm, Nat.reduceAdd, spliceA, AV.cells, D.cells, mkAgg, unDs, AV.unD]) | (apply AGo.cBT; rfl; first | (simp only [bT]; omega)) | intro _ | (apply AGo.retL; rfl; rfl; rfl; rfl))
      all_goals first | exact ⟨rfl, rfl⟩ | (exfalso; omega) | trace_state
end Go.Proofs.YtdihjnifoikbeaaDoor.Av.Ci

/- Cells are read: the bits of a cell's pattern, as the document asks them. -/
set_option linter.unusedSimpArgs false
set_option linter.unusedVariables false
namespace Go.Proofs.YtdihjnifoikbeaaDoor.Av.Ci
open Go Bt Tc Co Bl
theorem cdb_r (v : Int) (i : Nat) (y : Int) (hy : (2 : Int) ^ (5 - i) = y) : cdb v i = decide (v / y % 2 = 1) := by
  unfold cdb
  rw [hy]
theorem of_len (L : List (Int × List Ev)) {n : Nat} (h : L.length = n) : ∃ f : Nat → Int × List Ev, L = (List.range n).map f := by
  subst h
  refine ⟨fun i => L.getD i (0, []), ?_⟩
  apply List.ext_getElem?
  intro i
  rw [List.getElem?_map]
  by_cases hi : i < L.length
  · rw [List.getElem?_range hi, List.getElem?_eq_getElem hi]
    simp [List.getD, hi]
  · rw [List.getElem?_eq_none (by omega), List.getElem?_eq_none (by simp; omega)]; rfl
theorem pow_i (i : Nat) (h : i < 6) : (2 : Int) ^ (5 - i) = 32 / 2 ^ i := by
  rcases (show i = 0 ∨ i = 1 ∨ i = 2 ∨ i = 3 ∨ i = 4 ∨ i = 5 by omega) with rfl | rfl | rfl | rfl | rfl | rfl <;> rfl
end Go.Proofs.YtdihjnifoikbeaaDoor.Av.Ci
