/- Events are read: the document's Take. Blocks are read: the document's Take. -/
import Derived.Test.YtdihjnifoikbeaaDoorPq2
import Derived.Test.YtdihjnifoikbeaaDoorPn4
import Derived.Test.YtdihjnifoikbeaaDoorPn5
import Derived.Test.YtdihjnifoikbeaaDoorPq3
import Derived.Test.YtdihjnifoikbeaaDoorPl
/- Events are read: the document's Take. -/
set_option linter.unusedSimpArgs false
set_option linter.unusedVariables false
set_option maxRecDepth 100000
namespace Go.Proofs.YtdihjnifoikbeaaDoor.Av.Tc
open Go Bt
attribute [local irreducible] AGo ACalls ARegH ARegK ARegK1
variable {gl : List (Nat × List D)}
theorem bits_15 (s : List UInt8) (q : Nat) (h : q + 15 ≤ 8 * s.length) : nB ((bitsF s q).take 15) = (bitS s (q : Int) * 64 + nB ((bitsF s (q + 1)).take 6)) * 256 + nB ((bitsF s (q + 7)).take 8) := by
  have e : (bitsF s q).take 15 = [bitS s (q : Int)] ++ ((bitsF s (q + 1)).take 6 ++ (bitsF s (q + 7)).take 8) := by
    rw [bitsF_cons s q (by omega), List.take_succ_cons, show 14 = 6 + 8 from rfl, List.take_add, bits_drop]
    rfl
  have l6 : ((bitsF s (q + 1)).take 6).length = 6 := take_len s (q + 1) 6 (by omega)
  have l8 : ((bitsF s (q + 7)).take 8).length = 8 := take_len s (q + 7) 8 (by omega)
  have n1 : nB [bitS s (q : Int)] = bitS s (q : Int) := by simp [nB]
  rw [e, nB_app, nB_app, List.length_append, l6, l8, n1]
  omega
theorem tD_0 : tD (tabU 0) = [.str [48, 48, 48, 48, 48, 49, 49]] := rfl
theorem eD_0 : eD (tabU 0) = [evDD false 0 0] := rfl
theorem tabU_len (ru : Nat) (h : ru ≤ 64) : (tabU ru).length ≤ 103 := tab_bd ⟨ru, by omega⟩
theorem grp_bd (la : Bool) (ru : Nat) (h : ru ≤ 63) : (wdsS la (ru : Int)).length ≤ 12 := wds_bd la ⟨ru, by omega⟩
def tabK (ru k : Nat) : List TE := tabU ru ++ (if 1 ≤ k then grp false ru else []) ++ (if 2 ≤ k then grp true ru else [])
theorem tabK_0 (ru : Nat) : tabK ru 0 = tabU ru := by simp [tabK]
theorem tabK_2 (ru : Nat) : tabK ru 2 = tabU (ru + 1) := by rw [tabU_succ]; simp [tabK]
theorem tabK_s (ru k : Nat) (h : k < 2) : tabK ru (k + 1) = tabK ru k ++ grp (decide ((k : Int) = 1)) ru := by
  rcases (show k = 0 ∨ k = 1 by omega) with rfl | rfl <;> simp [tabK]
theorem tabK_len (ru k : Nat) (h : ru ≤ 63) : (tabK ru k).length ≤ 127 := by
  have h1 := tabU_len ru (by omega)
  have h2 := grp_len false ru
  have h3 := grp_len true ru
  have h4 := grp_bd false ru h
  have h5 := grp_bd true ru h
  unfold tabK
  simp only [List.length_append]
  split <;> split <;> (try simp only [List.length_nil]) <;> omega
attribute [local irreducible] tabK rowsD wordsS tabS endS wdsS hasS digs grp tabU tD eD evTab evX t5
set_option maxHeartbeats 16000000 in
theorem retake_c (s : List UInt8) (p : Nat) (hs : s.length ≤ 100000) (hp : p ≤ 8 * s.length) : ACalls (cxg gl) 100 [S (showN s), I p] []
    (fun r H => r = .tup [.d (evD (evX (bitsF s p)).1), I ((p + (evX (bitsF s p)).2.2 : Nat) : Int), I (evX (bitsF s p)).2.1] ∧ H = []) := by
  refine ACalls.enter Tryd.func100 rfl Tryd.ntmps100 (by kernel_rfl) rfl ?_; simp only [argEnv, Nat.reduceAdd, List.length_nil, List.length_cons]
  repeat (first | (apply AGo.buildM; (iterate 11 rfl); simp only [List.length_cons, List.length_nil, Nat.reduceAdd, List.nil_append, List.cons_append]) | apply AGo.seq | apply AGo.block | apply AGo.blk | apply AGo.skip | apply AGo.nil | (apply AGo.region; rfl) | (apply AGo.q true; rfl; rfl; rfl; rfl; first | exact True.intro | omega | (simp only [Int.toNat_natCast, Int.reduceToNat, IntKind.bits]; omega)) | (apply AGo.exit; rfl) | (apply AGo.condDT; rfl; first | omega | rfl) | (apply AGo.condDF; rfl; omega) | (apply AGo.condT; rfl) | (apply AGo.condF; rfl) | (apply AGo.alloc; (iterate 5 rfl); simp only [nm, Nat.reduceAdd, spliceA, AV.cells, D.cells]) | (apply AGo.store; (iterate 9 rfl); exact Nat.le_of_ble_eq_true rfl; simp only [nm, Nat.reduceAdd, spliceA, AV.cells, D.cells]) | (apply AGo.build; (iterate 5 rfl); simp only [nm, Nat.reduceAdd, spliceA, AV.cells, D.cells, mkAgg, unDs, AV.unD]) | (apply AGo.cBT; rfl; first | (simp only [bT]; omega)) | (apply AGo.buildSlice; (iterate 11 rfl)) | (apply AGo.freezeR 7; rfl; rfl; (first | rfl | (simp only [List.length_append, List.length_map, List.length_set, List.length_replicate, List.length_cons, List.length_nil]; omega)); simp only [List.set_cons_zero, List.set_cons_succ]) | (apply AGo.freezeR 8; rfl; rfl; (first | rfl | (simp only [List.length_append, List.length_map, List.length_set, List.length_replicate, List.length_cons, List.length_nil]; omega)); simp only [List.set_cons_zero, List.set_cons_succ]))
  refine AGo.weak (env' := [(9, I ((0 : Nat) : Int)), (8, .own 3 (eD (tabU 0)) 2), (7, .own 1 (tD (tabU 0)) 1), (4, .ptr 0 0), (1, I p), (0, S (showN s))]) ⟨rfl, congrArg (AV.own 3 · 2) eD_0.symm, congrArg (AV.own 1 · 1) tD_0.symm, rfl, rfl, rfl, trivial⟩ ?_
  refine AGo.loop (fun m env H => ∃ ru : Nat, m = 64 - ru ∧ ru ≤ 64 ∧ env = [(9, I (ru : Int)), (8, .own 3 (eD (tabU ru)) 2), (7, .own 1 (tD (tabU ru)) 1), (4, .ptr 0 0), (1, I p), (0, S (showN s))] ∧
    H = [.cells [B false, I 0, I 0], .front 9 1 (tD (tabU ru)).length, .front 106 3 (eD (tabU ru)).length]) 64
    ⟨0, rfl, by omega, rfl, by rw [tD_0, eD_0]⟩ ?_
  rintro m env H ⟨ru, rfl, hru, rfl, rfl⟩
  rcases Nat.lt_or_ge ru 64 with hr | hr
  · repeat (first | apply AGo.seq | apply AGo.block | apply AGo.blk | apply AGo.skip | apply AGo.nil | (apply AGo.region; rfl) | (apply AGo.q true; rfl; rfl; rfl; rfl; first | exact True.intro | omega | (simp only [Int.toNat_natCast, Int.reduceToNat, IntKind.bits]; omega)) | (apply AGo.exit; rfl) | (apply AGo.condDT; rfl; first | omega | rfl) | (apply AGo.condDF; rfl; omega) | (apply AGo.condT; rfl) | (apply AGo.condF; rfl) | (apply AGo.alloc; (iterate 5 rfl); simp only [nm, Nat.reduceAdd, spliceA, AV.cells, D.cells]) | (apply AGo.store; (iterate 9 rfl); exact Nat.le_of_ble_eq_true rfl; simp only [nm, Nat.reduceAdd, spliceA, AV.cells, D.cells]) | (apply AGo.build; (iterate 5 rfl); simp only [nm, Nat.reduceAdd, spliceA, AV.cells, D.cells, mkAgg, unDs, AV.unD]) | (apply AGo.cBT; rfl; first | (simp only [bT]; omega)) | (apply AGo.buildSlice; (iterate 11 rfl)))
    refine AGo.weak (env' := [(10, I ((0 : Nat) : Int)), (9, I (ru : Int)), (8, .own 3 (eD (tabK ru 0)) 2), (7, .own 1 (tD (tabK ru 0)) 1), (4, .ptr 0 0), (1, I p), (0, S (showN s))]) ⟨rfl, rfl, by rw [tabK_0]; rfl, by rw [tabK_0]; rfl, rfl, rfl, rfl, trivial⟩ ?_
    refine AGo.loop (fun m env H => ∃ k : Nat, m = 2 - k ∧ k ≤ 2 ∧ env = [(10, I (k : Int)), (9, I (ru : Int)), (8, .own 3 (eD (tabK ru k)) 2), (7, .own 1 (tD (tabK ru k)) 1), (4, .ptr 0 0), (1, I p), (0, S (showN s))] ∧
      H = [.cells [B false, I 0, I 0], .front 9 1 (tD (tabK ru k)).length, .front 106 3 (eD (tabK ru k)).length]) 2
      ⟨0, rfl, by omega, rfl, by rw [tabK_0]⟩ ?_
    rintro m env H ⟨k, rfl, hk, rfl, rfl⟩
    rcases Nat.lt_or_ge k 2 with hk2 | hk2
    · have hT := tabK_len ru k (by omega)
      have hs1 := tabK_s ru k hk2
      have rc := rrows_c (gl := gl) (decide ((k : Int) = 1)) ru (by omega)
      have gt := grp_take (decide ((k : Int) = 1)) ru
      have gl' := grp_len (decide ((k : Int) = 1)) ru
      generalize tabK ru k = T at *
      rcases rc with ⟨hW, rc⟩ | rc
      · have e0 : T ++ grp (decide ((k : Int) = 1)) ru = T := by
          rw [hW] at gl'
          rw [List.length_eq_zero_iff.1 gl', List.append_nil]
        rw [e0] at hs1
        repeat' (first | apply AGo.seq | apply AGo.block | apply AGo.blk | apply AGo.skip | apply AGo.nil | (apply AGo.region; rfl) | (apply AGo.q true; rfl; rfl; rfl; rfl; first | exact True.intro | omega | (simp only [Int.toNat_natCast, Int.reduceToNat, IntKind.bits]; omega)) | (apply AGo.callP (rc); (iterate 6 rfl)) | (apply AGo.exit; rfl) | (apply AGo.condDT; rfl; first | omega | rfl) | (apply AGo.condDF; rfl; omega) | (apply AGo.condT; rfl) | (apply AGo.condF; rfl) | (apply AGo.alloc; (iterate 5 rfl); simp only [nm, Nat.reduceAdd, spliceA, AV.cells, D.cells]) | (apply AGo.store; (iterate 9 rfl); exact Nat.le_of_ble_eq_true rfl; simp only [nm, Nat.reduceAdd, spliceA, AV.cells, D.cells]) | (apply AGo.build; (iterate 5 rfl); simp only [nm, Nat.reduceAdd, spliceA, AV.cells, D.cells, mkAgg, unDs, AV.unD]) | (apply AGo.cBT; rfl; first | (simp only [bT]; omega)) | (apply AGo.buildSlice; (iterate 11 rfl)) | apply AGo.loopU | intro _ | (apply AGo.condB; rfl) | (apply AGo.retN; rfl; rfl; rfl; rfl) | (apply AGo.outL; rfl; rfl))
        exact AGo.roundD 3 [(10, I ((k + 1 : Nat) : Int)), (9, I (ru : Int)), (8, .own 3 (eD (tabK ru (k + 1))) 2), (7, .own 1 (tD (tabK ru (k + 1))) 1), (4, .ptr 0 0), (1, I p), (0, S (showN s))] (2 - (k + 1)) (by omega) rfl rfl rfl rfl
          ⟨rfl, rfl, by rw [hs1]; rfl, by rw [hs1]; rfl, rfl, rfl, rfl, trivial⟩ ⟨k + 1, rfl, by omega, rfl, by first | (rw [hs1]; done) | (rw [hs1]; rfl)⟩
      · have hl := rowsD_len (wdsS (decide ((k : Int) = 1)) ru)
        have gg := rowsD_get (wdsS (decide ((k : Int) = 1)) ru)
        generalize hWe : wdsS (decide ((k : Int) = 1)) (ru : Int) = W at *
        repeat (first | apply AGo.seq | apply AGo.block | apply AGo.blk | apply AGo.skip | apply AGo.nil | (apply AGo.region; rfl) | (apply AGo.q true; rfl; rfl; rfl; rfl; first | exact True.intro | omega | (simp only [Int.toNat_natCast, Int.reduceToNat, IntKind.bits]; omega)) | (apply AGo.callH [] ( rc); (iterate 6 rfl); decide; rfl; rfl; simp only [names, putH, AV.ren, AV.renL, AObj.ren, nh, Nat.reduceAdd, Nat.reduceSub]) | (apply AGo.exit; rfl) | (apply AGo.condDT; rfl; first | omega | rfl) | (apply AGo.condDF; rfl; omega) | (apply AGo.condT; rfl) | (apply AGo.condF; rfl) | (apply AGo.alloc; (iterate 5 rfl); simp only [nm, Nat.reduceAdd, spliceA, AV.cells, D.cells]) | (apply AGo.store; (iterate 9 rfl); exact Nat.le_of_ble_eq_true rfl; simp only [nm, Nat.reduceAdd, spliceA, AV.cells, D.cells]) | (apply AGo.build; (iterate 5 rfl); simp only [nm, Nat.reduceAdd, spliceA, AV.cells, D.cells, mkAgg, unDs, AV.unD]) | (apply AGo.cBT; rfl; first | (simp only [bT]; omega)) | (apply AGo.buildSlice; (iterate 11 rfl)))
        refine AGo.weak (env' := [(12, I ((0 : Nat) : Int)), (11, .own 1 (rowsD W) 3), (10, I (k : Int)), (9, I (ru : Int)), (8, .own 3 (eD (T ++ (grp (decide ((k : Int) = 1)) ru).take 0)) 2), (7, .own 1 (tD (T ++ (grp (decide ((k : Int) = 1)) ru).take 0)) 1), (4, .ptr 0 0), (1, I p), (0, S (showN s))])
          ⟨rfl, rfl, rfl, rfl, by rw [List.take_zero, List.append_nil]; rfl, by rw [List.take_zero, List.append_nil]; rfl, rfl, rfl, rfl, trivial⟩ ?_
        refine AGo.loop (fun m env H => ∃ i : Nat, m = W.length - i ∧ i ≤ W.length ∧ env = [(12, I (i : Int)), (11, .own 1 (rowsD W) 3), (10, I (k : Int)), (9, I (ru : Int)), (8, .own 3 (eD (T ++ (grp (decide ((k : Int) = 1)) ru).take i)) 2), (7, .own 1 (tD (T ++ (grp (decide ((k : Int) = 1)) ru).take i)) 1), (4, .ptr 0 0), (1, I p), (0, S (showN s))] ∧
          H = [.cells [B false, I 0, I 0], .front 9 1 (tD (T ++ (grp (decide ((k : Int) = 1)) ru).take i)).length, .front 106 3 (eD (T ++ (grp (decide ((k : Int) = 1)) ru).take i)).length, .front 9 1 (rowsD W).length]) W.length
          ⟨0, rfl, by omega, rfl, by rw [List.take_zero, List.append_nil]⟩ ?_
        rintro m env H ⟨i, rfl, hi, rfl, rfl⟩
        rcases Nat.lt_or_ge i W.length with hil | hig
        · have hx : W[i]? = some (W.getD i []) := by rw [List.getD_eq_getElem?_getD, List.getElem?_eq_getElem hil]; rfl
          have gt1 := gt i _ hx
          have g1 := gg i hil
          generalize W.getD i [] = w at *
          have hWl : W.length ≤ 12 := by rw [← hWe]; exact grp_bd _ ru (by omega)
          have hTl : (T ++ (grp (decide ((k : Int) = 1)) ru).take i).length ≤ 10000 := by
            rw [List.length_append, List.length_take]; omega
          have hTs : T ++ (grp (decide ((k : Int) = 1)) ru).take (i + 1) = (T ++ (grp (decide ((k : Int) = 1)) ru).take i) ++ [(w, decide ((k : Int) = 1), ru, i + 1)] := by rw [gt1, List.append_assoc]
          generalize T ++ (grp (decide ((k : Int) = 1)) ru).take i = T1 at *
          have h1 := tD_len T1
          have h2 := eD_len T1
          have a1 := tD_add T1 (w, decide ((k : Int) = 1), ru, i + 1)
          have a2 := eD_add T1 (w, decide ((k : Int) = 1), ru, i + 1)
          repeat' (first | (apply AGo.append; (iterate 11 rfl); (first | rfl | (simp only [List.length_append, List.length_map, List.length_cons, List.length_nil]; omega)); (first | (simp only [List.length_append, List.length_map, List.length_cons, List.length_nil]; omega) | (rw [hl]; omega) | (rw [h1]; omega) | (rw [h2]; omega)); simp only [List.set_cons_zero, List.set_cons_succ]) | apply AGo.seq | apply AGo.block | apply AGo.blk | apply AGo.skip | apply AGo.nil | (apply AGo.region; rfl) | (apply AGo.q true; rfl; rfl; rfl; rfl; first | exact True.intro | omega | (simp only [Int.toNat_natCast, Int.reduceToNat, IntKind.bits]; omega) | (rw [hl]; omega) | (rw [h1]; omega) | (rw [h2]; omega)) | (apply AGo.exit; rfl) | (apply AGo.condDT; rfl; first | omega | rfl) | (apply AGo.condDF; rfl; omega) | (apply AGo.condT; rfl) | (apply AGo.condF; rfl) | (apply AGo.alloc; (iterate 5 rfl); simp only [nm, Nat.reduceAdd, spliceA, AV.cells, D.cells]) | (apply AGo.store; (iterate 9 rfl); exact Nat.le_of_ble_eq_true rfl; simp only [nm, Nat.reduceAdd, spliceA, AV.cells, D.cells]) | (apply AGo.build; (iterate 5 rfl); simp only [nm, Nat.reduceAdd, spliceA, AV.cells, D.cells, mkAgg, unDs, AV.unD]) | (apply AGo.cBT; rfl; first | (simp only [bT]; omega)) | (apply AGo.buildSlice; (iterate 11 rfl)) | (apply AGo.loadG; (iterate 7 rfl); exact g1) | intro _ | (apply AGo.condB; rfl) | (apply AGo.retN; rfl; rfl; rfl; rfl) | (apply AGo.outL; rfl; rfl))
          all_goals first
            | exact AGo.round [(12, I ((i + 1 : Nat) : Int)), (11, .own 1 (rowsD W) 3), (10, I (k : Int)), (9, I (ru : Int)), (8, .own 3 (eD (T ++ (grp (decide ((k : Int) = 1)) ru).take (i + 1))) 2), (7, .own 1 (tD (T ++ (grp (decide ((k : Int) = 1)) ru).take (i + 1))) 1), (4, .ptr 0 0), (1, I p), (0, S (showN s))] (W.length - (i + 1)) (by omega)
                ⟨rfl, rfl, rfl, rfl, by rw [hTs, a2]; rfl, by rw [hTs, a1]; rfl, rfl, rfl, rfl, trivial⟩ ⟨i + 1, rfl, by omega, rfl, by rw [hTs, a1, a2]; rfl⟩
            | (exfalso; omega) | trace_state
        · obtain rfl : i = W.length := by omega
          have e1 : (grp (decide ((k : Int) = 1)) ru).take W.length = grp (decide ((k : Int) = 1)) ru := List.take_of_length_le (by omega)
          rw [e1, ← hs1]
          repeat' (first | apply AGo.seq | apply AGo.block | apply AGo.blk | apply AGo.skip | apply AGo.nil | (apply AGo.region; rfl) | (apply AGo.q true; rfl; rfl; rfl; rfl; first | exact True.intro | omega | (simp only [Int.toNat_natCast, Int.reduceToNat, IntKind.bits]; omega) | (rw [hl]; omega)) | (apply AGo.exit; rfl) | (apply AGo.condDT; rfl; first | omega | rfl) | (apply AGo.condDF; rfl; omega) | (apply AGo.condT; rfl) | (apply AGo.condF; rfl) | (apply AGo.alloc; (iterate 5 rfl); simp only [nm, Nat.reduceAdd, spliceA, AV.cells, D.cells]) | (apply AGo.store; (iterate 9 rfl); exact Nat.le_of_ble_eq_true rfl; simp only [nm, Nat.reduceAdd, spliceA, AV.cells, D.cells]) | (apply AGo.build; (iterate 5 rfl); simp only [nm, Nat.reduceAdd, spliceA, AV.cells, D.cells, mkAgg, unDs, AV.unD]) | (apply AGo.cBT; rfl; first | (simp only [bT]; omega)) | (apply AGo.buildSlice; (iterate 11 rfl)) | intro _ | (apply AGo.condB; rfl) | (apply AGo.retN; rfl; rfl; rfl; rfl) | (apply AGo.outL; rfl; rfl))
          all_goals first
            | exact AGo.roundD 3 [(10, I ((k + 1 : Nat) : Int)), (9, I (ru : Int)), (8, .own 3 (eD (tabK ru (k + 1))) 2), (7, .own 1 (tD (tabK ru (k + 1))) 1), (4, .ptr 0 0), (1, I p), (0, S (showN s))] (2 - (k + 1)) (by omega) rfl rfl rfl rfl
                ⟨rfl, rfl, rfl, rfl, rfl, rfl, rfl, trivial⟩ ⟨k + 1, rfl, by omega, rfl, rfl⟩
            | (exfalso; omega) | trace_state
    · obtain rfl : k = 2 := by omega
      have e2 := tabK_2 ru
      repeat' (first | apply AGo.seq | apply AGo.block | apply AGo.blk | apply AGo.skip | apply AGo.nil | (apply AGo.region; rfl) | (apply AGo.q true; rfl; rfl; rfl; rfl; first | exact True.intro | omega | (simp only [Int.toNat_natCast, Int.reduceToNat, IntKind.bits]; omega)) | (apply AGo.exit; rfl) | (apply AGo.condDT; rfl; first | omega | rfl) | (apply AGo.condDF; rfl; omega) | (apply AGo.condT; rfl) | (apply AGo.condF; rfl) | (apply AGo.alloc; (iterate 5 rfl); simp only [nm, Nat.reduceAdd, spliceA, AV.cells, D.cells]) | (apply AGo.store; (iterate 9 rfl); exact Nat.le_of_ble_eq_true rfl; simp only [nm, Nat.reduceAdd, spliceA, AV.cells, D.cells]) | (apply AGo.build; (iterate 5 rfl); simp only [nm, Nat.reduceAdd, spliceA, AV.cells, D.cells, mkAgg, unDs, AV.unD]) | (apply AGo.cBT; rfl; first | (simp only [bT]; omega)) | (apply AGo.buildSlice; (iterate 11 rfl)) | intro _ | (apply AGo.condB; rfl) | (apply AGo.retN; rfl; rfl; rfl; rfl) | (apply AGo.outL; rfl; rfl))
      exact AGo.round [(9, I ((ru + 1 : Nat) : Int)), (8, .own 3 (eD (tabU (ru + 1))) 2), (7, .own 1 (tD (tabU (ru + 1))) 1), (4, .ptr 0 0), (1, I p), (0, S (showN s))] (64 - (ru + 1)) (by omega)
        ⟨rfl, by rw [← e2]; rfl, by rw [← e2]; rfl, rfl, rfl, rfl, trivial⟩ ⟨ru + 1, rfl, by omega, rfl, by rw [← e2]⟩
  · obtain rfl : ru = 64 := by omega
    have hr := evRows_len
    have rt := rtake_c (gl := gl) evRows (showN s) p (by omega) (by rw [showN_len]; omega) (by omega)
    rw [t5_all evRows _ p evRows_short (by rw [showN_len]; omega), showN_drop, ← evRows_tD, ← tabU_all] at rt
    have hu := rrun_used evRows ((bitsF s p).map digB) []
    have hb := Mv.rrun_bd evRows ((bitsF s p).map digB) []
    have hB := bitsF_01 s p
    have hBl := bitsF_len s p
    have hag := agreeE_ok 13 0 1 [] agreeE_all (bitsF s p) hB
    have hesc := erun_esc (bitsF s p) 0 1
    have hlen := showN_len s
    unfold evX
    generalize hR : rrun evRows ((bitsF s p).map digB) [] = R at *
    obtain ⟨i, e, c⟩ := R
    simp only [List.length_map, List.length_nil] at hu hb hag ⊢
    unfold rconv at rt
    by_cases he : e = 0
    · subst he
      have hu := hu rfl
      have hb := hb rfl
      simp only [if_true] at rt
      obtain ⟨n, rfl⟩ : ∃ n : Nat, i = n := ⟨i.toNat, by omega⟩
      replace rt : ACalls (cxg gl) 95 [.d (.sl 1 (tD (tabU 64))), S (showN s), I p] [] (fun r H => r = .tup [I (n : Int), I ((p + c : Nat) : Int), I 0] ∧ H = []) := rt
      obtain ⟨hc, i2, hi2, hok⟩ := hag.2 rfl
      obtain rfl : n = i2 := by omega
      rw [if_neg (show ¬ (0 : Int) ≠ 0 by omega)]
      by_cases hn : n = 0
      · subst hn
        rw [if_pos (show ((0 : Nat) : Int) = 0 from rfl)]
        have hx : (erun (bitsF s p) 0 1).1 = -1 := by
          unfold okE at hok
          rw [if_pos rfl] at hok
          exact of_decide_eq_true hok
        have hc7 := hesc hx hag.1
        obtain rfl : c = 7 := by omega
        rw [bits_drop]
        by_cases h15 : (bitsF s p).length - 7 < 15
        · have ex : escX (nB ((bitsF s (p + 7)).take 15)) ((bitsF s p).length - 7) = (ev0, 2, 0) := by unfold escX; rw [if_pos h15]
          rw [ex]
          repeat' (first | apply AGo.seq | apply AGo.block | apply AGo.blk | apply AGo.skip | apply AGo.nil | (apply AGo.region; rfl) | (apply AGo.q true; rfl; rfl; rfl; rfl; first | exact True.intro | omega | (simp only [Int.toNat_natCast, Int.reduceToNat, IntKind.bits]; omega) | (rw [hlen]; omega)) | (apply AGo.callPF ( rt); (iterate 7 rfl)) | (apply AGo.exit; rfl) | (apply AGo.condDT; rfl; first | omega | rfl) | (apply AGo.condDF; rfl; omega) | (apply AGo.condT; rfl) | (apply AGo.condF; rfl) | (apply AGo.alloc; (iterate 5 rfl); simp only [nm, Nat.reduceAdd, spliceA, AV.cells, D.cells]) | (apply AGo.store; (iterate 9 rfl); exact Nat.le_of_ble_eq_true rfl; simp only [nm, Nat.reduceAdd, spliceA, AV.cells, D.cells]) | (apply AGo.build; (iterate 5 rfl); simp only [nm, Nat.reduceAdd, spliceA, AV.cells, D.cells, mkAgg, unDs, AV.unD]) | (apply AGo.cBT; rfl; first | (simp only [bT]; omega)) | (apply AGo.buildSlice; (iterate 11 rfl)) | intro _ | (apply AGo.condB; rfl) | (apply AGo.retN; rfl; rfl; rfl; rfl) | (apply AGo.outL; rfl; rfl))
          all_goals first | exact ⟨rfl, rfl⟩ | (exfalso; omega) | trace_state
        · have ex : escX (nB ((bitsF s (p + 7)).take 15)) ((bitsF s p).length - 7) = if escBad (escOf (nB ((bitsF s (p + 7)).take 15))) = true then (ev0, 7, 0) else (escOf (nB ((bitsF s (p + 7)).take 15)), 0, 22) := by unfold escX; rw [if_neg h15]
          rw [ex, bits_15 s (p + 7) (by omega)]
          have b1 := bt_show s (p + 7) (by omega)
          have b0 := bitS_bd s ((p + 7 : Nat) : Int)
          have s6 : ((showN s).take (((p + 7 : Nat) : Int) + 7).toNat).drop (((p + 7 : Nat) : Int) + 1).toNat = ((bitsF s (p + 7 + 1)).take 6).map digB := by
            rw [show (((p + 7 : Nat) : Int) + 7).toNat = p + 7 + 1 + 6 by omega, show (((p + 7 : Nat) : Int) + 1).toNat = p + 7 + 1 by omega]
            exact slice_show s (p + 7 + 1) 6
          have s8 : ((showN s).take (((p + 7 : Nat) : Int) + 15).toNat).drop (((p + 7 : Nat) : Int) + 7).toNat = ((bitsF s (p + 7 + 7)).take 8).map digB := by
            rw [show (((p + 7 : Nat) : Int) + 15).toNat = p + 7 + 7 + 8 by omega, show (((p + 7 : Nat) : Int) + 7).toNat = p + 7 + 7 by omega]
            exact slice_show s (p + 7 + 7) 8
          have l6 : ((bitsF s (p + 7 + 1)).take 6).length = 6 := take_len s _ 6 (by omega)
          have l8 : ((bitsF s (p + 7 + 7)).take 8).length = 8 := take_len s _ 8 (by omega)
          have o6 := take_01 s (p + 7 + 1) 6
          have o8 := take_01 s (p + 7 + 7) 8
          have n6 := number_c (gl := gl) (((bitsF s (p + 7 + 1)).take 6).map digB) (by rw [List.length_map]; omega) (all_map _ o6)
          have n8 := number_c (gl := gl) (((bitsF s (p + 7 + 7)).take 8).map digB) (by rw [List.length_map]; omega) (all_map _ o8)
          rw [numS_map _ o6, ← s6] at n6
          rw [numS_map _ o8, ← s8] at n8
          have m6 := nB_bd 6 _ l6 o6
          have m8 := nB_bd 8 _ l8 o8
          generalize nB ((bitsF s (p + 7 + 1)).take 6) = v6 at *
          generalize nB ((bitsF s (p + 7 + 7)).take 8) = v8 at *
          generalize bitS s ((p + 7 : Nat) : Int) = v1 at *
          rw [esc_eq v1 v6 v8 (by omega) (by omega) (by omega)]
          rw [show 48 + v1 = bt (showN s) ((p + 7 : Nat) : Int).toNat by rw [Int.toNat_natCast]; exact b1.symm]
          have hle : -128 ≤ (if 127 < v8 then v8 - 256 else v8) ∧ (if 127 < v8 then v8 - 256 else v8) ≤ 127 := by split <;> omega
          generalize hlv : (if 127 < v8 then v8 - 256 else v8) = le at *
          have rr := rright_c (gl := gl) ⟨decide (bt (showN s) ((p + 7 : Nat) : Int).toNat = 49), v6, le⟩
          have am := amount_c (gl := gl) le (by omega)
          have hpl := fun h => has_place (e := ⟨decide (bt (showN s) ((p + 7 : Nat) : Int).toNat = 49), v6, le⟩) h
          unfold escBad
          cases hR : evR ⟨decide (bt (showN s) ((p + 7 : Nat) : Int).toNat = 49), v6, le⟩ with
          | false =>
            rw [hR] at rr
            rw [if_pos (by simp)]
            by_cases h127 : 127 < v8
            all_goals
              first | rw [if_pos h127] at hlv | rw [if_neg h127] at hlv
              subst hlv
              repeat' (first | (apply AGo.drawY [0, 1, 2, 3, 4, 5, 6, 7, 8, 9, 10, 11, 12, 13, 14, 15, 16, 17, 18, 19, 20] 21 18; rfl) | (apply ARegH.pureX; rfl; (apply PureTo.q true; rfl; rfl; first | exact True.intro | omega | (rw [hlen]; omega)); exact fun _ _ _ h => h; (iterate 6 rfl); kernel_rfl; kernel_rfl) | (apply ARegH.load; rfl; rfl; (first | exact True.intro | omega | (rw [hlen]; omega)); exact fun _ _ _ h => h; (iterate 6 rfl); kernel_rfl; kernel_rfl) | (apply ARegH.go) | (apply ARegK.fin; kernel_rfl) | (apply ARegK.pass; rfl; rfl; exact fun _ _ _ h => h; (iterate 5 rfl); kernel_rfl; kernel_rfl) | (apply ARegK.pureX; rfl; (apply PureTo.q true; rfl; rfl; first | exact True.intro | omega | (rw [hlen]; omega)); exact fun _ _ _ h => h; (iterate 6 rfl); kernel_rfl; kernel_rfl) | (apply ARegK.call (n6); (iterate 8 rfl); kernel_rfl; rfl; rfl; rfl; try simp only [names, putH, AV.ren, AV.renL, AObj.ren, nh, Nat.reduceAdd, Nat.reduceSub]) | (apply ARegK.call (n8); (iterate 8 rfl); kernel_rfl; rfl; rfl; rfl; try simp only [names, putH, AV.ren, AV.renL, AObj.ren, nh, Nat.reduceAdd, Nat.reduceSub]) | (apply ARegK.call (rr); (iterate 8 rfl); kernel_rfl; rfl; rfl; rfl; try simp only [names, putH, AV.ren, AV.renL, AObj.ren, nh, Nat.reduceAdd, Nat.reduceSub]) | (apply ARegK.call ( rt); (iterate 8 rfl); kernel_rfl; rfl; rfl; rfl; try simp only [names, putH, AV.ren, AV.renL, AObj.ren, nh, Nat.reduceAdd, Nat.reduceSub]) | (apply ARegK.quiet; rfl; (apply QuietTo.q true; rfl; (first | exact True.intro | omega | (rw [hlen]; omega))); rfl; rfl; rfl; rfl; kernel_rfl; rfl) | (apply ARegK.step; rfl; rfl; kernel_rfl; rfl) | (apply ARegK.passR; (iterate 5 rfl); kernel_rfl; rfl) | (apply ARegK.fork2; rfl; kernel_rfl) | (apply ARegK.fork3; rfl; kernel_rfl) | (apply ARegK1.step; rfl; rfl) | (apply ARegK1.pass; (iterate 5 rfl)) | (apply ARegK1.quiet; rfl; (apply QuietTo.q true; rfl; (first | exact True.intro | omega | (rw [hlen]; omega))); rfl; rfl; rfl; rfl) | (apply ARegK1.call (n6); (iterate 10 rfl); try simp only [names, putH, AV.ren, AV.renL, AObj.ren, nh, Nat.reduceAdd, Nat.reduceSub]) | (apply ARegK1.call (n8); (iterate 10 rfl); try simp only [names, putH, AV.ren, AV.renL, AObj.ren, nh, Nat.reduceAdd, Nat.reduceSub]) | (apply ARegK1.call (rr); (iterate 10 rfl); try simp only [names, putH, AV.ren, AV.renL, AObj.ren, nh, Nat.reduceAdd, Nat.reduceSub]) | (apply ARegK1.call ( rt); (iterate 10 rfl); try simp only [names, putH, AV.ren, AV.renL, AObj.ren, nh, Nat.reduceAdd, Nat.reduceSub]) | (apply ARegK.back) | (exact AGo.mid0) | (apply AGo.midDone; (repeat' (first | exact EnvEq.nil | (apply EnvEq.cons; rfl))); rfl) | (apply AGo.drawY [0, 1, 2, 3, 4, 5, 6, 7, 8, 9, 10, 11, 12, 13] 14 14; rfl) | apply AGo.seq | apply AGo.block | apply AGo.blk | apply AGo.skip | apply AGo.nil | (apply AGo.region; rfl) | (apply AGo.q true; rfl; rfl; rfl; rfl; first | exact True.intro | omega | (simp only [Int.toNat_natCast, Int.reduceToNat, IntKind.bits]; omega) | (rw [hlen]; omega)) | (apply AGo.callPF ( rt); (iterate 7 rfl)) | (apply AGo.callP (n6); (iterate 6 rfl)) | (apply AGo.callP (n8); (iterate 6 rfl)) | (apply AGo.callP (rr); (iterate 6 rfl)) | (apply AGo.exit; rfl) | (apply AGo.condDT; rfl; first | omega | rfl) | (apply AGo.condDF; rfl; omega) | (apply AGo.condT; rfl) | (apply AGo.condF; rfl) | (apply AGo.alloc; (iterate 5 rfl); simp only [nm, Nat.reduceAdd, spliceA, AV.cells, D.cells]) | (apply AGo.store; (iterate 9 rfl); exact Nat.le_of_ble_eq_true rfl; simp only [nm, Nat.reduceAdd, spliceA, AV.cells, D.cells]) | (apply AGo.build; (iterate 5 rfl); simp only [nm, Nat.reduceAdd, spliceA, AV.cells, D.cells, mkAgg, unDs, AV.unD]) | (apply AGo.cBT; rfl; first | (simp only [bT]; omega)) | (apply AGo.buildSlice; (iterate 11 rfl)) | intro _ | (apply AGo.condB; rfl) | (apply AGo.retN; rfl; rfl; rfl; rfl) | (apply AGo.outL; rfl; rfl))
              all_goals first | exact ⟨rfl, rfl⟩ | (exfalso; omega) | trace_state
          | true =>
            rw [hR] at rr
            have hpl2 := hpl hR
            simp only at hpl2
            have hb : (0 ≤ v6 ∧ v6 ≤ 63) ∧ le ≠ 0 ∧ -127 ≤ le ∧ le ≤ 127 := of_decide_eq_true hR
            have ab := absS_bd hb.2
            have hs := has_c (gl := gl) (decide (bt (showN s) ((p + 7 : Nat) : Int).toNat = 49)) v6 (absS le) hb.1.1 ab.1 (by omega)
            have hhl := hasS_len (decide (bt (showN s) ((p + 7 : Nat) : Int).toNat = 49)) v6 (absS le) hb.1
            have e22 : ((p + 22 : Nat) : Int) = ((p + 7 : Nat) : Int) + 15 := by omega
            by_cases hw : hasS (decide (bt (showN s) ((p + 7 : Nat) : Int).toNat = 49)) v6 (absS le) = []
            · rw [decide_eq_true hw] at hpl2
              have hp0 : decide (0 ≤ placeS (decide (bt (showN s) ((p + 7 : Nat) : Int).toNat = 49)) v6 (max le (-le))) = false := by simpa using hpl2.symm
              rw [hp0, if_neg (by simp)]
              rw [hw] at hs
              simp only
              rw [e22]
              by_cases h127 : 127 < v8
              all_goals
                first | rw [if_pos h127] at hlv | rw [if_neg h127] at hlv
                subst hlv
                repeat' (first | (apply AGo.drawY [0, 1, 2, 3, 4, 5, 6, 7, 8, 9, 10, 11, 12, 13, 14, 15, 16, 17, 18, 19, 20] 21 18; rfl) | (apply ARegH.pureX; rfl; (apply PureTo.q true; rfl; rfl; first | exact True.intro | omega | (rw [hlen]; omega)); exact fun _ _ _ h => h; (iterate 6 rfl); kernel_rfl; kernel_rfl) | (apply ARegH.load; rfl; rfl; (first | exact True.intro | omega | (rw [hlen]; omega)); exact fun _ _ _ h => h; (iterate 6 rfl); kernel_rfl; kernel_rfl) | (apply ARegH.go) | (apply ARegK.fin; kernel_rfl) | (apply ARegK.pass; rfl; rfl; exact fun _ _ _ h => h; (iterate 5 rfl); kernel_rfl; kernel_rfl) | (apply ARegK.pureX; rfl; (apply PureTo.q true; rfl; rfl; first | exact True.intro | omega | (rw [hlen]; omega)); exact fun _ _ _ h => h; (iterate 6 rfl); kernel_rfl; kernel_rfl) | (apply ARegK.call (n6); (iterate 8 rfl); kernel_rfl; rfl; rfl; rfl; try simp only [names, putH, AV.ren, AV.renL, AObj.ren, nh, Nat.reduceAdd, Nat.reduceSub]) | (apply ARegK.call (n8); (iterate 8 rfl); kernel_rfl; rfl; rfl; rfl; try simp only [names, putH, AV.ren, AV.renL, AObj.ren, nh, Nat.reduceAdd, Nat.reduceSub]) | (apply ARegK.call (rr); (iterate 8 rfl); kernel_rfl; rfl; rfl; rfl; try simp only [names, putH, AV.ren, AV.renL, AObj.ren, nh, Nat.reduceAdd, Nat.reduceSub]) | (apply ARegK.call (am); (iterate 8 rfl); kernel_rfl; rfl; rfl; rfl; try simp only [names, putH, AV.ren, AV.renL, AObj.ren, nh, Nat.reduceAdd, Nat.reduceSub]) | (apply ARegK.call (hs); (iterate 8 rfl); kernel_rfl; rfl; rfl; rfl; try simp only [names, putH, AV.ren, AV.renL, AObj.ren, nh, Nat.reduceAdd, Nat.reduceSub]) | (apply ARegK.call ( rt); (iterate 8 rfl); kernel_rfl; rfl; rfl; rfl; try simp only [names, putH, AV.ren, AV.renL, AObj.ren, nh, Nat.reduceAdd, Nat.reduceSub]) | (apply ARegK.quiet; rfl; (apply QuietTo.q true; rfl; (first | exact True.intro | omega | (rw [hlen]; omega))); rfl; rfl; rfl; rfl; kernel_rfl; rfl) | (apply ARegK.step; rfl; rfl; kernel_rfl; rfl) | (apply ARegK.passR; (iterate 5 rfl); kernel_rfl; rfl) | (apply ARegK.fork2; rfl; kernel_rfl) | (apply ARegK.fork3; rfl; kernel_rfl) | (apply ARegK1.step; rfl; rfl) | (apply ARegK1.pass; (iterate 5 rfl)) | (apply ARegK1.quiet; rfl; (apply QuietTo.q true; rfl; (first | exact True.intro | omega | (rw [hlen]; omega))); rfl; rfl; rfl; rfl) | (apply ARegK1.call (n6); (iterate 10 rfl); try simp only [names, putH, AV.ren, AV.renL, AObj.ren, nh, Nat.reduceAdd, Nat.reduceSub]) | (apply ARegK1.call (n8); (iterate 10 rfl); try simp only [names, putH, AV.ren, AV.renL, AObj.ren, nh, Nat.reduceAdd, Nat.reduceSub]) | (apply ARegK1.call (rr); (iterate 10 rfl); try simp only [names, putH, AV.ren, AV.renL, AObj.ren, nh, Nat.reduceAdd, Nat.reduceSub]) | (apply ARegK1.call (am); (iterate 10 rfl); try simp only [names, putH, AV.ren, AV.renL, AObj.ren, nh, Nat.reduceAdd, Nat.reduceSub]) | (apply ARegK1.call (hs); (iterate 10 rfl); try simp only [names, putH, AV.ren, AV.renL, AObj.ren, nh, Nat.reduceAdd, Nat.reduceSub]) | (apply ARegK1.call ( rt); (iterate 10 rfl); try simp only [names, putH, AV.ren, AV.renL, AObj.ren, nh, Nat.reduceAdd, Nat.reduceSub]) | (apply ARegK.back) | (exact AGo.mid0) | (apply AGo.midDone; (repeat' (first | exact EnvEq.nil | (apply EnvEq.cons; rfl))); rfl) | (apply AGo.drawY [0, 1, 2, 3, 4, 5, 6, 7, 8, 9, 10, 11, 12, 13] 14 14; rfl) | apply AGo.seq | apply AGo.block | apply AGo.blk | apply AGo.skip | apply AGo.nil | (apply AGo.region; rfl) | (apply AGo.q true; rfl; rfl; rfl; rfl; first | exact True.intro | omega | (simp only [Int.toNat_natCast, Int.reduceToNat, IntKind.bits]; omega) | (rw [hlen]; omega)) | (apply AGo.callPF ( rt); (iterate 7 rfl)) | (apply AGo.callP (n6); (iterate 6 rfl)) | (apply AGo.callP (n8); (iterate 6 rfl)) | (apply AGo.callP (rr); (iterate 6 rfl)) | (apply AGo.callP (am); (iterate 6 rfl)) | (apply AGo.callP (hs); (iterate 6 rfl)) | (apply AGo.exit; rfl) | (apply AGo.condDT; rfl; first | omega | rfl) | (apply AGo.condDF; rfl; omega) | (apply AGo.condT; rfl) | (apply AGo.condF; rfl) | (apply AGo.alloc; (iterate 5 rfl); simp only [nm, Nat.reduceAdd, spliceA, AV.cells, D.cells]) | (apply AGo.store; (iterate 9 rfl); exact Nat.le_of_ble_eq_true rfl; simp only [nm, Nat.reduceAdd, spliceA, AV.cells, D.cells]) | (apply AGo.build; (iterate 5 rfl); simp only [nm, Nat.reduceAdd, spliceA, AV.cells, D.cells, mkAgg, unDs, AV.unD]) | (apply AGo.cBT; rfl; first | (simp only [bT]; omega)) | (apply AGo.buildSlice; (iterate 11 rfl)) | intro _ | (apply AGo.condB; rfl) | (apply AGo.retN; rfl; rfl; rfl; rfl) | (apply AGo.outL; rfl; rfl))
                all_goals first | exact ⟨rfl, rfl⟩ | (exfalso; omega) | trace_state
            · rw [decide_eq_false hw] at hpl2
              have hp0 : decide (0 ≤ placeS (decide (bt (showN s) ((p + 7 : Nat) : Int).toNat = 49)) v6 (max le (-le))) = true := by simpa using hpl2.symm
              rw [hp0, if_pos (by simp)]
              generalize hasS (decide (bt (showN s) ((p + 7 : Nat) : Int).toNat = 49)) v6 (absS le) = W at *
              by_cases h127 : 127 < v8
              all_goals
                first | rw [if_pos h127] at hlv | rw [if_neg h127] at hlv
                subst hlv
                repeat' (first | (apply AGo.drawY [0, 1, 2, 3, 4, 5, 6, 7, 8, 9, 10, 11, 12, 13, 14, 15, 16, 17, 18, 19, 20] 21 18; rfl) | (apply ARegH.pureX; rfl; (apply PureTo.q true; rfl; rfl; first | exact True.intro | omega | (rw [hlen]; omega)); exact fun _ _ _ h => h; (iterate 6 rfl); kernel_rfl; kernel_rfl) | (apply ARegH.load; rfl; rfl; (first | exact True.intro | omega | (rw [hlen]; omega)); exact fun _ _ _ h => h; (iterate 6 rfl); kernel_rfl; kernel_rfl) | (apply ARegH.go) | (apply ARegK.fin; kernel_rfl) | (apply ARegK.pass; rfl; rfl; exact fun _ _ _ h => h; (iterate 5 rfl); kernel_rfl; kernel_rfl) | (apply ARegK.pureX; rfl; (apply PureTo.q true; rfl; rfl; first | exact True.intro | omega | (rw [hlen]; omega)); exact fun _ _ _ h => h; (iterate 6 rfl); kernel_rfl; kernel_rfl) | (apply ARegK.call (n6); (iterate 8 rfl); kernel_rfl; rfl; rfl; rfl; try simp only [names, putH, AV.ren, AV.renL, AObj.ren, nh, Nat.reduceAdd, Nat.reduceSub]) | (apply ARegK.call (n8); (iterate 8 rfl); kernel_rfl; rfl; rfl; rfl; try simp only [names, putH, AV.ren, AV.renL, AObj.ren, nh, Nat.reduceAdd, Nat.reduceSub]) | (apply ARegK.call (rr); (iterate 8 rfl); kernel_rfl; rfl; rfl; rfl; try simp only [names, putH, AV.ren, AV.renL, AObj.ren, nh, Nat.reduceAdd, Nat.reduceSub]) | (apply ARegK.call (am); (iterate 8 rfl); kernel_rfl; rfl; rfl; rfl; try simp only [names, putH, AV.ren, AV.renL, AObj.ren, nh, Nat.reduceAdd, Nat.reduceSub]) | (apply ARegK.call (hs); (iterate 8 rfl); kernel_rfl; rfl; rfl; rfl; try simp only [names, putH, AV.ren, AV.renL, AObj.ren, nh, Nat.reduceAdd, Nat.reduceSub]) | (apply ARegK.call ( rt); (iterate 8 rfl); kernel_rfl; rfl; rfl; rfl; try simp only [names, putH, AV.ren, AV.renL, AObj.ren, nh, Nat.reduceAdd, Nat.reduceSub]) | (apply ARegK.quiet; rfl; (apply QuietTo.q true; rfl; (first | exact True.intro | omega | (rw [hlen]; omega))); rfl; rfl; rfl; rfl; kernel_rfl; rfl) | (apply ARegK.step; rfl; rfl; kernel_rfl; rfl) | (apply ARegK.passR; (iterate 5 rfl); kernel_rfl; rfl) | (apply ARegK.fork2; rfl; kernel_rfl) | (apply ARegK.fork3; rfl; kernel_rfl) | (apply ARegK1.step; rfl; rfl) | (apply ARegK1.pass; (iterate 5 rfl)) | (apply ARegK1.quiet; rfl; (apply QuietTo.q true; rfl; (first | exact True.intro | omega | (rw [hlen]; omega))); rfl; rfl; rfl; rfl) | (apply ARegK1.call (n6); (iterate 10 rfl); try simp only [names, putH, AV.ren, AV.renL, AObj.ren, nh, Nat.reduceAdd, Nat.reduceSub]) | (apply ARegK1.call (n8); (iterate 10 rfl); try simp only [names, putH, AV.ren, AV.renL, AObj.ren, nh, Nat.reduceAdd, Nat.reduceSub]) | (apply ARegK1.call (rr); (iterate 10 rfl); try simp only [names, putH, AV.ren, AV.renL, AObj.ren, nh, Nat.reduceAdd, Nat.reduceSub]) | (apply ARegK1.call (am); (iterate 10 rfl); try simp only [names, putH, AV.ren, AV.renL, AObj.ren, nh, Nat.reduceAdd, Nat.reduceSub]) | (apply ARegK1.call (hs); (iterate 10 rfl); try simp only [names, putH, AV.ren, AV.renL, AObj.ren, nh, Nat.reduceAdd, Nat.reduceSub]) | (apply ARegK1.call ( rt); (iterate 10 rfl); try simp only [names, putH, AV.ren, AV.renL, AObj.ren, nh, Nat.reduceAdd, Nat.reduceSub]) | (apply ARegK.back) | (exact AGo.mid0) | (apply AGo.midDone; (repeat' (first | exact EnvEq.nil | (apply EnvEq.cons; rfl))); rfl) | (apply AGo.drawY [0, 1, 2, 3, 4, 5, 6, 7, 8, 9, 10, 11, 12, 13] 14 14; rfl) | apply AGo.seq | apply AGo.block | apply AGo.blk | apply AGo.skip | apply AGo.nil | (apply AGo.region; rfl) | (apply AGo.q true; rfl; rfl; rfl; rfl; first | exact True.intro | omega | (simp only [Int.toNat_natCast, Int.reduceToNat, IntKind.bits]; omega) | (rw [hlen]; omega)) | (apply AGo.callPF ( rt); (iterate 7 rfl)) | (apply AGo.callP (n6); (iterate 6 rfl)) | (apply AGo.callP (n8); (iterate 6 rfl)) | (apply AGo.callP (rr); (iterate 6 rfl)) | (apply AGo.callP (am); (iterate 6 rfl)) | (apply AGo.callP (hs); (iterate 6 rfl)) | (apply AGo.exit; rfl) | (apply AGo.condDT; rfl; first | omega | rfl) | (apply AGo.condDF; rfl; omega) | (apply AGo.condT; rfl) | (apply AGo.condF; rfl) | (apply AGo.alloc; (iterate 5 rfl); simp only [nm, Nat.reduceAdd, spliceA, AV.cells, D.cells]) | (apply AGo.store; (iterate 9 rfl); exact Nat.le_of_ble_eq_true rfl; simp only [nm, Nat.reduceAdd, spliceA, AV.cells, D.cells]) | (apply AGo.build; (iterate 5 rfl); simp only [nm, Nat.reduceAdd, spliceA, AV.cells, D.cells, mkAgg, unDs, AV.unD]) | (apply AGo.cBT; rfl; first | (simp only [bT]; omega) | ((simp [hw]; done))) | (apply AGo.buildSlice; (iterate 11 rfl)) | intro _ | (apply AGo.condB; rfl) | (apply AGo.retN; rfl; rfl; rfl; rfl) | (apply AGo.outL; rfl; rfl))
                all_goals first | exact ⟨rfl, rfl⟩ | (exfalso; omega) | (exfalso; simp_all; done) | trace_state
      · have hn3 : n < 103 := by have := hb.2; rw [hr] at this; omega
        have hok2 := hok
        unfold okE at hok2
        rw [if_neg hn] at hok2
        simp only [Bool.and_eq_true, decide_eq_true_eq] at hok2
        obtain ⟨⟨⟨⟨k0, k1⟩, k2⟩, k3⟩, k4⟩ := hok2
        have hmb := manyS_bd (evAt n).1 (evAt n).2.1
        have hev := evAt_get n hn3
        rw [← tabU_all] at hev
        rw [if_neg (by omega), Int.toNat_natCast]
        generalize evAt n = ea at *
        obtain ⟨la, ru, am⟩ := ea
        simp only at k1 k2 k3 k4 hmb hev ⊢
        rw [hBl]
        have hcb : p + c ≤ 8 * s.length := by omega
        have heL : (eD (tabU 64)).length = 103 := by rw [eD_len, tabU_all]; exact evTab_len
        have hev2 := fun (ti : TI) (ha : ti.agg = true) (hs : ti.size = 3) => (show loadD ti ((eD (tabU 64)).getD ((n : Nat) : Int).toNat .top).cells 0 = some (evDD la ru am) by rw [hev]; unfold loadD; rw [ha, hs]; rfl)
        by_cases hlast : 8 * s.length - p ≤ c
        · rw [if_pos hlast]
          repeat' (first | apply AGo.seq | apply AGo.block | apply AGo.blk | apply AGo.skip | apply AGo.nil | (apply AGo.region; rfl) | (apply AGo.q true; rfl; rfl; rfl; rfl; first | exact True.intro | omega | (simp only [Int.toNat_natCast, Int.reduceToNat, IntKind.bits]; omega) | (rw [hlen]; omega) | (rw [heL]; omega)) | (apply AGo.callPF ( rt); (iterate 7 rfl)) | (apply AGo.exit; rfl) | (apply AGo.condDT; rfl; first | omega | rfl) | (apply AGo.condDF; rfl; omega) | (apply AGo.condT; rfl) | (apply AGo.condF; rfl) | (apply AGo.alloc; (iterate 5 rfl); simp only [nm, Nat.reduceAdd, spliceA, AV.cells, D.cells]) | (apply AGo.store; (iterate 9 rfl); exact Nat.le_of_ble_eq_true rfl; simp only [nm, Nat.reduceAdd, spliceA, AV.cells, D.cells]) | (apply AGo.build; (iterate 5 rfl); simp only [nm, Nat.reduceAdd, spliceA, AV.cells, D.cells, mkAgg, unDs, AV.unD]) | (apply AGo.cBT; rfl; first | (simp only [bT]; omega)) | (apply AGo.buildSlice; (iterate 11 rfl)) | (apply AGo.loadDD; (iterate 6 rfl); exact hev2 _ rfl rfl) | intro _ | (apply AGo.condB; rfl) | (apply AGo.retN; rfl; rfl; rfl; rfl) | (apply AGo.outL; rfl; rfl))
          all_goals first | exact ⟨rfl, rfl⟩ | (exfalso; omega) | trace_state
        · rw [if_neg hlast, getD_bits s p c (by omega)]
          have b1 : bt (showN s) ((p + c : Nat) : Int).toNat = 48 + bitS s ((p + c : Nat) : Int) := by rw [Int.toNat_natCast]; exact bt_show s (p + c) (by omega)
          have b0 := bitS_bd s ((p + c : Nat) : Int)
          rcases (show bitS s ((p + c : Nat) : Int) = 0 ∨ bitS s ((p + c : Nat) : Int) = 1 by omega) with h01 | h01
          · rw [h01] at b1 ⊢
            rw [show (am : Int) * (1 - 2 * 0) = am by omega]
            repeat' (first | apply AGo.seq | apply AGo.block | apply AGo.blk | apply AGo.skip | apply AGo.nil | (apply AGo.region; rfl) | (apply AGo.q true; rfl; rfl; rfl; rfl; first | exact True.intro | omega | (simp only [Int.toNat_natCast, Int.reduceToNat, IntKind.bits]; omega) | (rw [hlen]; omega) | (rw [heL]; omega)) | (apply AGo.callPF ( rt); (iterate 7 rfl)) | (apply AGo.exit; rfl) | (apply AGo.condDT; rfl; first | omega | rfl) | (apply AGo.condDF; rfl; omega) | (apply AGo.condT; rfl) | (apply AGo.condF; rfl) | (apply AGo.alloc; (iterate 5 rfl); simp only [nm, Nat.reduceAdd, spliceA, AV.cells, D.cells]) | (apply AGo.store; (iterate 9 rfl); exact Nat.le_of_ble_eq_true rfl; simp only [nm, Nat.reduceAdd, spliceA, AV.cells, D.cells]) | (apply AGo.build; (iterate 5 rfl); simp only [nm, Nat.reduceAdd, spliceA, AV.cells, D.cells, mkAgg, unDs, AV.unD]) | (apply AGo.cBT; rfl; first | (simp only [bT]; omega)) | (apply AGo.buildSlice; (iterate 11 rfl)) | (apply AGo.loadDD; (iterate 6 rfl); exact hev2 _ rfl rfl) | intro _ | (apply AGo.condB; rfl) | (apply AGo.retN; rfl; rfl; rfl; rfl) | (apply AGo.outL; rfl; rfl))
            all_goals first | exact ⟨rfl, rfl⟩ | (exfalso; omega) | trace_state
          · rw [h01] at b1 ⊢
            rw [show (am : Int) * (1 - 2 * 1) = -am by omega]
            repeat' (first | apply AGo.seq | apply AGo.block | apply AGo.blk | apply AGo.skip | apply AGo.nil | (apply AGo.region; rfl) | (apply AGo.q true; rfl; rfl; rfl; rfl; first | exact True.intro | omega | (simp only [Int.toNat_natCast, Int.reduceToNat, IntKind.bits]; omega) | (rw [hlen]; omega) | (rw [heL]; omega)) | (apply AGo.callPF ( rt); (iterate 7 rfl)) | (apply AGo.exit; rfl) | (apply AGo.condDT; rfl; first | omega | rfl) | (apply AGo.condDF; rfl; omega) | (apply AGo.condT; rfl) | (apply AGo.condF; rfl) | (apply AGo.alloc; (iterate 5 rfl); simp only [nm, Nat.reduceAdd, spliceA, AV.cells, D.cells]) | (apply AGo.store; (iterate 9 rfl); exact Nat.le_of_ble_eq_true rfl; simp only [nm, Nat.reduceAdd, spliceA, AV.cells, D.cells]) | (apply AGo.build; (iterate 5 rfl); simp only [nm, Nat.reduceAdd, spliceA, AV.cells, D.cells, mkAgg, unDs, AV.unD]) | (apply AGo.cBT; rfl; first | (simp only [bT]; omega)) | (apply AGo.buildSlice; (iterate 11 rfl)) | (apply AGo.loadDD; (iterate 6 rfl); exact hev2 _ rfl rfl) | intro _ | (apply AGo.condB; rfl) | (apply AGo.retN; rfl; rfl; rfl; rfl) | (apply AGo.outL; rfl; rfl))
            all_goals first | exact ⟨rfl, rfl⟩ | (exfalso; omega) | trace_state
    · rw [if_neg he] at rt
      rw [if_pos he]
      repeat' (first | apply AGo.seq | apply AGo.block | apply AGo.blk | apply AGo.skip | apply AGo.nil | (apply AGo.region; rfl) | (apply AGo.q true; rfl; rfl; rfl; rfl; first | exact True.intro | omega | (simp only [Int.toNat_natCast, Int.reduceToNat, IntKind.bits]; omega)) | (apply AGo.callPF ( rt); (iterate 7 rfl)) | (apply AGo.exit; rfl) | (apply AGo.condDT; rfl; first | omega | rfl) | (apply AGo.condDF; rfl; omega) | (apply AGo.condT; rfl) | (apply AGo.condF; rfl) | (apply AGo.alloc; (iterate 5 rfl); simp only [nm, Nat.reduceAdd, spliceA, AV.cells, D.cells]) | (apply AGo.store; (iterate 9 rfl); exact Nat.le_of_ble_eq_true rfl; simp only [nm, Nat.reduceAdd, spliceA, AV.cells, D.cells]) | (apply AGo.build; (iterate 5 rfl); simp only [nm, Nat.reduceAdd, spliceA, AV.cells, D.cells, mkAgg, unDs, AV.unD]) | (apply AGo.cBT; rfl; first | (simp only [bT]; omega)) | (apply AGo.buildSlice; (iterate 11 rfl)) | intro _ | (apply AGo.condB; rfl) | (apply AGo.retN; rfl; rfl; rfl; rfl) | (apply AGo.outL; rfl; rfl))
      all_goals first | exact ⟨rfl, rfl⟩ | (exfalso; omega) | trace_state
end Go.Proofs.YtdihjnifoikbeaaDoor.Av.Tc

/- Blocks are read: the document's Take. -/
set_option linter.unusedSimpArgs false
set_option linter.unusedVariables false
set_option maxRecDepth 100000
namespace Go.Proofs.YtdihjnifoikbeaaDoor.Av.Tc
open Go Bt Bl
attribute [local irreducible] AGo ACalls
variable {gl : List (Nat × List D)}
theorem evsX_1 {f : Nat} {B : List Int} {a : Int} (h0 : (evX B).2.1 = 0) (h1 : ¬ 64 < a + ((evX B).1.run + 1)) (h2 : (evX B).1.last = true) : evsX (f + 1) B a = ([(evX B).1], 0, (evX B).2.2) := by
  rw [evsX, if_neg (by simpa using h0), if_neg h1, if_pos h2]
theorem evsX_7 {f : Nat} {B : List Int} {a : Int} (h0 : (evX B).2.1 = 0) (h1 : 64 < a + ((evX B).1.run + 1)) : evsX (f + 1) B a = ([], 7, (evX B).2.2) := by
  rw [evsX, if_neg (by simpa using h0), if_pos h1]
theorem evsX_e {f : Nat} {B : List Int} {a : Int} (h0 : (evX B).2.1 ≠ 0) : evsX (f + 1) B a = ([], (evX B).2.1, 0) := by
  rw [evsX, if_pos h0]
attribute [local irreducible] evX bitsF evsX evsD nB frm
set_option maxHeartbeats 32000000 in
theorem rbltake_c (s : List UInt8) (p : Nat) (intra coded : Bool) (hs : s.length ≤ 100000) (hp : p ≤ 8 * s.length) : ACalls (cxg gl) 56 [S (showN s), I p, B intra, B coded] []
    (fun r H => r = .tup [I (blX intra coded (bitsF s p)).1, .d (.sl 3 (evsD (blX intra coded (bitsF s p)).2.1)), I ((p + (blX intra coded (bitsF s p)).2.2.2 : Nat) : Int), I (blX intra coded (bitsF s p)).2.2.1] ∧ H = []) := by
  have e00 : evsD [] = [] := by unfold evsD; rfl
  have hBl := bitsF_len s p
  have hlen := showN_len s
  have rf := rfrom_c (gl := gl) intra
  have hfb := frm_bd intra
  have o8 := take_01 s p 8
  have s8 : ((showN s).take ((p : Int) + 8).toNat).drop (p : Int).toNat = ((bitsF s p).take 8).map digB := by
    rw [show ((p : Int) + 8).toNat = p + 8 by omega, Int.toNat_natCast]
    exact slice_show s p 8
  have n8 := number_c (gl := gl) (((bitsF s p).take 8).map digB) (by rw [List.length_map, List.length_take]; omega) (all_map _ o8)
  rw [numS_map _ o8, ← s8] at n8
  have h3 : (intra = true ∧ 8 * s.length < p + 8) ∨ (intra = true ∧ ¬ 8 * s.length < p + 8 ∧ (nB ((bitsF s p).take 8) = 0 ∨ nB ((bitsF s p).take 8) = 128)) ∨
      ∃ dc dn, dc0 intra (bitsF s p) = (dc, 0, dn) ∧ p + dn ≤ 8 * s.length ∧ ((intra = false ∧ dc = 0 ∧ dn = 0) ∨ (intra = true ∧ nB ((bitsF s p).take 8) = 255 ∧ dc = 128 ∧ dn = 8 ∧ p + 8 ≤ 8 * s.length) ∨
        (intra = true ∧ nB ((bitsF s p).take 8) ≠ 0 ∧ nB ((bitsF s p).take 8) ≠ 128 ∧ nB ((bitsF s p).take 8) ≠ 255 ∧ dc = nB ((bitsF s p).take 8) ∧ dn = 8 ∧ p + 8 ≤ 8 * s.length)) := by
    cases intra with
    | false => exact .inr (.inr ⟨0, 0, rfl, by omega, .inl ⟨rfl, rfl, rfl⟩⟩)
    | true =>
      by_cases c1 : 8 * s.length < p + 8
      · exact .inl ⟨rfl, c1⟩
      · by_cases c2 : nB ((bitsF s p).take 8) = 0 ∨ nB ((bitsF s p).take 8) = 128
        · exact .inr (.inl ⟨rfl, c1, c2⟩)
        · by_cases c3 : nB ((bitsF s p).take 8) = 255
          · exact .inr (.inr ⟨128, 8, by unfold dc0 dcX; rw [if_pos rfl, if_neg (by omega), if_neg c2, if_pos c3], by omega, .inr (.inl ⟨rfl, c3, rfl, rfl, by omega⟩)⟩)
          · exact .inr (.inr ⟨_, 8, by unfold dc0 dcX; rw [if_pos rfl, if_neg (by omega), if_neg c2, if_neg c3], by omega, .inr (.inr ⟨rfl, fun h => c2 (.inl h), fun h => c2 (.inr h), c3, rfl, rfl, by omega⟩)⟩)
  rcases h3 with ⟨rfl, hsh⟩ | ⟨rfl, hsh, hz⟩ | ⟨dc, dn, hx, hle, h3⟩
  · have hd : dc0 true (bitsF s p) = (0, 2, 0) := by unfold dc0 dcX; rw [if_pos rfl, if_pos (by omega)]
    have hx : blX true coded (bitsF s p) = (0, [], 2, 0) := by unfold blX; rw [hd]; rfl
    rw [hx]
    simp only
    rw [e00]
    refine ACalls.enter Tryd.func56 rfl Tryd.ntmps56 (by kernel_rfl) rfl ?_; simp only [argEnv, Nat.reduceAdd, List.length_nil, List.length_cons]
    repeat' (first | apply AGo.seq | apply AGo.block | apply AGo.blk | apply AGo.skip | apply AGo.nil | (apply AGo.region; rfl) | (apply AGo.q true; rfl; rfl; rfl; rfl; first | exact True.intro | omega | (simp only [Int.toNat_natCast, Int.reduceToNat, IntKind.bits]; omega) | (rw [hlen]; omega)) | (apply AGo.exit; rfl) | (apply AGo.condDT; rfl; first | omega | rfl) | (apply AGo.condDF; rfl; omega) | (apply AGo.condT; rfl) | (apply AGo.condF; rfl) | (apply AGo.alloc; (iterate 5 rfl); simp only [nm, Nat.reduceAdd, spliceA, AV.cells, D.cells]) | (apply AGo.store; (iterate 9 rfl); exact Nat.le_of_ble_eq_true rfl; simp only [nm, Nat.reduceAdd, spliceA, AV.cells, D.cells]) | (apply AGo.unguard; rfl; rfl) | (apply AGo.gT; rfl; rfl; rfl; first | omega | rfl) | (apply AGo.gF; rfl; rfl; rfl; omega) | (apply AGo.cBT; rfl; first | (simp only [bT]; omega)) | (apply AGo.skipOp; rfl; rfl; rfl) | (apply AGo.buildSlice; (iterate 11 rfl)) | (apply AGo.retW (.tup [I 0, .d (.sl 3 []), I p, I 2]); rfl; exact Weak.tup ⟨Weak.refl _, Weak.d (DWeak.nils 3), Weak.refl _, Weak.refl _, trivial⟩; rfl; rfl; rfl) | apply AGo.loopU | intro _ | (apply AGo.outL; rfl; rfl))
    all_goals first | exact ⟨rfl, rfl⟩ | (exfalso; omega) | trace_state
  · have hd : dc0 true (bitsF s p) = (0, 7, 8) := by unfold dc0 dcX; rw [if_pos rfl, if_neg (by omega), if_pos hz]
    have hx : blX true coded (bitsF s p) = (0, [], 7, 0) := by unfold blX; rw [hd]; rfl
    rw [hx]
    simp only
    rw [e00]
    rcases hz with hz | hz
    all_goals
      rw [hz] at n8
      refine ACalls.enter Tryd.func56 rfl Tryd.ntmps56 (by kernel_rfl) rfl ?_; simp only [argEnv, Nat.reduceAdd, List.length_nil, List.length_cons]
      repeat' (first | apply AGo.seq | apply AGo.block | apply AGo.blk | apply AGo.skip | apply AGo.nil | (apply AGo.region; rfl) | (apply AGo.q true; rfl; rfl; rfl; rfl; first | exact True.intro | omega | (simp only [Int.toNat_natCast, Int.reduceToNat, IntKind.bits]; omega) | (rw [hlen]; omega)) | (apply AGo.callP (n8); (iterate 6 rfl)) | (apply AGo.exit; rfl) | (apply AGo.condDT; rfl; first | omega | rfl) | (apply AGo.condDF; rfl; omega) | (apply AGo.condT; rfl) | (apply AGo.condF; rfl) | (apply AGo.alloc; (iterate 5 rfl); simp only [nm, Nat.reduceAdd, spliceA, AV.cells, D.cells]) | (apply AGo.store; (iterate 9 rfl); exact Nat.le_of_ble_eq_true rfl; simp only [nm, Nat.reduceAdd, spliceA, AV.cells, D.cells]) | (apply AGo.unguard; rfl; rfl) | (apply AGo.gT; rfl; rfl; rfl; first | omega | rfl) | (apply AGo.gF; rfl; rfl; rfl; omega) | (apply AGo.cBT; rfl; first | (simp only [bT]; omega)) | (apply AGo.skipOp; rfl; rfl; rfl) | (apply AGo.buildSlice; (iterate 11 rfl)) | (apply AGo.retW (.tup [I 0, .d (.sl 3 []), I p, I 7]); rfl; exact Weak.tup ⟨Weak.refl _, Weak.d (DWeak.nils 3), Weak.refl _, Weak.refl _, trivial⟩; rfl; rfl; rfl) | apply AGo.loopU | intro _ | (apply AGo.outL; rfl; rfl))
      all_goals first | exact ⟨rfl, rfl⟩ | (exfalso; omega) | trace_state
  · unfold blX
    rw [hx]
    simp only [ne_eq, not_true_eq_false, if_false]
    cases coded with
    | false =>
      simp only [Bool.false_eq_true, if_false]
      rw [e00]
      rcases h3 with ⟨rfl, rfl, rfl⟩ | ⟨rfl, hv, rfl, rfl, hp8⟩ | ⟨rfl, hv0, hv1, hv2, hdc, rfl, hp8⟩
      · refine ACalls.enter Tryd.func56 rfl Tryd.ntmps56 (by kernel_rfl) rfl ?_; simp only [argEnv, Nat.reduceAdd, List.length_nil, List.length_cons]
        repeat' (first | apply AGo.seq | apply AGo.block | apply AGo.blk | apply AGo.skip | apply AGo.nil | (apply AGo.region; rfl) | (apply AGo.q true; rfl; rfl; rfl; rfl; first | exact True.intro | omega | (simp only [Int.toNat_natCast, Int.reduceToNat, IntKind.bits]; omega)) | (apply AGo.callP (rf); (iterate 6 rfl)) | (apply AGo.exit; rfl) | (apply AGo.condDT; rfl; first | omega | rfl) | (apply AGo.condDF; rfl; omega) | (apply AGo.condT; rfl) | (apply AGo.condF; rfl) | (apply AGo.alloc; (iterate 5 rfl); simp only [nm, Nat.reduceAdd, spliceA, AV.cells, D.cells]) | (apply AGo.store; (iterate 9 rfl); exact Nat.le_of_ble_eq_true rfl; simp only [nm, Nat.reduceAdd, spliceA, AV.cells, D.cells]) | (apply AGo.unguard; rfl; rfl) | (apply AGo.gT; rfl; rfl; rfl; first | omega | rfl) | (apply AGo.gF; rfl; rfl; rfl; omega) | (apply AGo.cBT; rfl; first | (simp only [bT]; omega)) | (apply AGo.skipOp; rfl; rfl; rfl) | (apply AGo.buildSlice; (iterate 11 rfl)) | (apply AGo.retW (.tup [I 0, .d (.sl 3 []), I p, I 0]); rfl; exact Weak.tup ⟨Weak.refl _, Weak.d (DWeak.nils 3), Weak.refl _, Weak.refl _, trivial⟩; rfl; rfl; rfl) | apply AGo.loopU | intro _ | (apply AGo.outL; rfl; rfl))
        all_goals first | exact ⟨rfl, rfl⟩ | (exfalso; omega) | trace_state
      · rw [hv] at n8
        refine ACalls.enter Tryd.func56 rfl Tryd.ntmps56 (by kernel_rfl) rfl ?_; simp only [argEnv, Nat.reduceAdd, List.length_nil, List.length_cons]
        repeat' (first | apply AGo.seq | apply AGo.block | apply AGo.blk | apply AGo.skip | apply AGo.nil | (apply AGo.region; rfl) | (apply AGo.q true; rfl; rfl; rfl; rfl; first | exact True.intro | omega | (simp only [Int.toNat_natCast, Int.reduceToNat, IntKind.bits]; omega) | (rw [hlen]; omega)) | (apply AGo.callP (n8); (iterate 6 rfl)) | (apply AGo.callP (rf); (iterate 6 rfl)) | (apply AGo.exit; rfl) | (apply AGo.condDT; rfl; first | omega | rfl) | (apply AGo.condDF; rfl; omega) | (apply AGo.condT; rfl) | (apply AGo.condF; rfl) | (apply AGo.alloc; (iterate 5 rfl); simp only [nm, Nat.reduceAdd, spliceA, AV.cells, D.cells]) | (apply AGo.store; (iterate 9 rfl); exact Nat.le_of_ble_eq_true rfl; simp only [nm, Nat.reduceAdd, spliceA, AV.cells, D.cells]) | (apply AGo.unguard; rfl; rfl) | (apply AGo.gT; rfl; rfl; rfl; first | omega | rfl) | (apply AGo.gF; rfl; rfl; rfl; omega) | (apply AGo.cBT; rfl; first | (simp only [bT]; omega)) | (apply AGo.skipOp; rfl; rfl; rfl) | (apply AGo.buildSlice; (iterate 11 rfl)) | (apply AGo.retW (.tup [I 128, .d (.sl 3 []), I ((p : Int) + 8), I 0]); rfl; exact Weak.tup ⟨Weak.refl _, Weak.d (DWeak.nils 3), Weak.refl _, Weak.refl _, trivial⟩; rfl; rfl; rfl) | apply AGo.loopU | intro _ | (apply AGo.outL; rfl; rfl))
        all_goals first | exact ⟨rfl, rfl⟩ | (exfalso; omega) | trace_state
      · rw [← hdc] at n8 hv0 hv1 hv2
        refine ACalls.enter Tryd.func56 rfl Tryd.ntmps56 (by kernel_rfl) rfl ?_; simp only [argEnv, Nat.reduceAdd, List.length_nil, List.length_cons]
        repeat' (first | apply AGo.seq | apply AGo.block | apply AGo.blk | apply AGo.skip | apply AGo.nil | (apply AGo.region; rfl) | (apply AGo.q true; rfl; rfl; rfl; rfl; first | exact True.intro | omega | (simp only [Int.toNat_natCast, Int.reduceToNat, IntKind.bits]; omega) | (rw [hlen]; omega)) | (apply AGo.callP (n8); (iterate 6 rfl)) | (apply AGo.callP (rf); (iterate 6 rfl)) | (apply AGo.exit; rfl) | (apply AGo.condDT; rfl; first | omega | rfl) | (apply AGo.condDF; rfl; omega) | (apply AGo.condT; rfl) | (apply AGo.condF; rfl) | (apply AGo.alloc; (iterate 5 rfl); simp only [nm, Nat.reduceAdd, spliceA, AV.cells, D.cells]) | (apply AGo.store; (iterate 9 rfl); exact Nat.le_of_ble_eq_true rfl; simp only [nm, Nat.reduceAdd, spliceA, AV.cells, D.cells]) | (apply AGo.unguard; rfl; rfl) | (apply AGo.gT; rfl; rfl; rfl; first | omega | rfl) | (apply AGo.gF; rfl; rfl; rfl; omega) | (apply AGo.cBT; rfl; first | (simp only [bT]; omega)) | (apply AGo.skipOp; rfl; rfl; rfl) | (apply AGo.buildSlice; (iterate 11 rfl)) | (apply AGo.retW (.tup [I dc, .d (.sl 3 []), I ((p : Int) + 8), I 0]); rfl; exact Weak.tup ⟨Weak.refl _, Weak.d (DWeak.nils 3), Weak.refl _, Weak.refl _, trivial⟩; rfl; rfl; rfl) | apply AGo.loopU | intro _ | (apply AGo.outL; rfl; rfl))
        all_goals first | exact ⟨rfl, rfl⟩ | (exfalso; omega) | trace_state
    | true =>
      simp only [if_true]
      rw [bits_drop]
      have hc0 := cmbE_0 (evsX 66 (bitsF s (p + dn)) (frm intra : Nat)) (evsX_err _ _ _)
      generalize hR : evsX 66 (bitsF s (p + dn)) (frm intra : Nat) = R at *
      generalize ha0 : ((frm intra : Nat) : Int) = a0 at *
      have rt := fun q hq => retake_c (gl := gl) s q hs hq
      have hOe : R.2.1 ≠ 0 → (if ¬R.2.1 = 0 then ((0 : Int), ([] : List Ev), R.2.1, (0 : Nat)) else (dc, R.1, 0, dn + R.2.2)) = (0, [], R.2.1, 0) := fun h => if_pos h
      have hOk : R.2.1 = 0 → (if ¬R.2.1 = 0 then ((0 : Int), ([] : List Ev), R.2.1, (0 : Nat)) else (dc, R.1, 0, dn + R.2.2)) = (dc, R.1, 0, dn + R.2.2) := fun h => if_neg (fun k => k h)
      generalize (if ¬R.2.1 = 0 then ((0 : Int), ([] : List Ev), R.2.1, (0 : Nat)) else (dc, R.1, 0, dn + R.2.2)) = O at *
      rcases h3 with ⟨rfl, hdc, hdn⟩ | ⟨rfl, hv, hdc, hdn, hp8⟩ | ⟨rfl, hv0, hv1, hv2, hdc, hdn, hp8⟩
      all_goals
        first | rw [hv] at n8 | rw [← hdc] at n8 hv0 hv1 hv2 | skip
        refine ACalls.enter Tryd.func56 rfl Tryd.ntmps56 (by kernel_rfl) rfl ?_; simp only [argEnv, Nat.reduceAdd, List.length_nil, List.length_cons]
        repeat (first | apply AGo.seq | apply AGo.block | apply AGo.blk | apply AGo.skip | apply AGo.nil | (apply AGo.region; rfl) | (apply AGo.q true; rfl; rfl; rfl; rfl; first | exact True.intro | omega | (simp only [Int.toNat_natCast, Int.reduceToNat, IntKind.bits]; omega) | (rw [hlen]; omega)) | (apply AGo.callP (n8); (iterate 6 rfl)) | (apply AGo.callP (rf); (iterate 6 rfl)) | (apply AGo.exit; rfl) | (apply AGo.condDT; rfl; first | omega | rfl) | (apply AGo.condDF; rfl; omega) | (apply AGo.condT; rfl) | (apply AGo.condF; rfl) | (apply AGo.alloc; (iterate 5 rfl); simp only [nm, Nat.reduceAdd, spliceA, AV.cells, D.cells]) | (apply AGo.store; (iterate 9 rfl); exact Nat.le_of_ble_eq_true rfl; simp only [nm, Nat.reduceAdd, spliceA, AV.cells, D.cells]) | (apply AGo.unguard; rfl; rfl) | (apply AGo.gT; rfl; rfl; rfl; first | omega | rfl) | (apply AGo.gF; rfl; rfl; rfl; omega) | (apply AGo.cBT; rfl; first | (simp only [bT]; omega)) | (apply AGo.skipOp; rfl; rfl; rfl) | (apply AGo.buildSlice; (iterate 11 rfl)) | (apply AGo.ghostR 14 106 3; rfl; simp only [List.length_cons, List.length_nil, Nat.reduceAdd, List.cons_append, List.nil_append]) | (apply AGo.freezeR 14; rfl; rfl; (first | rfl | (simp only [List.length_append, List.length_map, List.length_set, List.length_replicate, List.length_cons, List.length_nil]; omega) | (rw [hlen]; omega)); simp only [List.set_cons_zero, List.set_cons_succ]))
        refine AGo.weak (env' := [(15, I (a0 - 1)), (14, .own 3 (evsD []) 0), (13, I ((p + dn + 0 : Nat) : Int)), (12, I dc), (3, B true), (1, I p), (0, S (showN s))])
          ⟨rfl, by rw [e00]; rfl, congrArg I (by omega), by first | rfl | (rw [hdc]; rfl), rfl, rfl, rfl, trivial⟩ ?_
        refine AGo.loop (fun m env H => ∃ (acc : List Ev) (q : Nat) (a : Int) (cd : Bool), p + dn + q ≤ 8 * s.length ∧ (0 ≤ a ∧ a ≤ 64) ∧ (acc.length : Int) ≤ a ∧
          ((cd = true ∧ ∃ f : Nat, m = f + 1 ∧ 65 - a < f ∧ cmbE acc q (evsX f (bitsF s (p + dn + q)) a) = R) ∨ (cd = false ∧ m = 0 ∧ R = (acc, 0, q))) ∧
          env = [(15, I (a - 1)), (14, .own 3 (evsD acc) 0), (13, I ((p + dn + q : Nat) : Int)), (12, I dc), (3, B cd), (1, I p), (0, S (showN s))] ∧ H = [.front 106 3 (evsD acc).length]) 67
          ⟨[], 0, a0, true, by omega, by omega, by simp; omega, .inl ⟨rfl, 66, rfl, by omega, by rw [Nat.add_zero, hR]; exact hc0⟩, rfl, by first | (rw [e00]; done) | (rw [e00]; rfl)⟩ ?_
        rintro m env H ⟨acc, q, a, cd, hq, ha, hacc, hcd, rfl, rfl⟩
        rcases hcd with ⟨rfl, f, rfl, hf, hm⟩ | ⟨rfl, rfl, hR2⟩
        · obtain ⟨f, rfl⟩ : ∃ g, f = g + 1 := ⟨f - 1, by omega⟩
          have tk := rt (p + dn + q) hq
          have hB := bitsF_01 s (p + dn + q)
          have hal := evsD_len acc
          by_cases h0 : (evX (bitsF s (p + dn + q))).2.1 = 0
          · have hrun := evX_run hB h0
            have hle2 := posR_le s (p + dn + q) hq h0
            by_cases h1 : 64 < a + ((evX (bitsF s (p + dn + q))).1.run + 1)
            · rw [evsX_7 h0 h1] at hm
              have hm2 : R = ([], 7, q + (evX (bitsF s (p + dn + q))).2.2) := by rw [← hm]; rfl
              rw [hOe (by rw [hm2]; exact (by decide : (7 : Int) ≠ 0)), hm2]
              generalize evX (bitsF s (p + dn + q)) = x at *
              obtain ⟨⟨la, ru, le⟩, er, c⟩ := x
              simp only at h0 h1 hrun tk
              subst h0
              simp only
              rw [e00]
              repeat' (first | apply AGo.seq | apply AGo.block | apply AGo.blk | apply AGo.skip | apply AGo.nil | (apply AGo.region; rfl) | (apply AGo.q true; rfl; rfl; rfl; rfl; first | exact True.intro | omega | (simp only [Int.toNat_natCast, Int.reduceToNat, IntKind.bits]; omega)) | (apply AGo.callP (tk); (iterate 6 rfl)) | (apply AGo.exit; rfl) | (apply AGo.condDT; rfl; first | omega | rfl) | (apply AGo.condDF; rfl; omega) | (apply AGo.condT; rfl) | (apply AGo.condF; rfl) | (apply AGo.alloc; (iterate 5 rfl); simp only [nm, Nat.reduceAdd, spliceA, AV.cells, D.cells]) | (apply AGo.store; (iterate 9 rfl); exact Nat.le_of_ble_eq_true rfl; simp only [nm, Nat.reduceAdd, spliceA, AV.cells, D.cells]) | (apply AGo.unguard; rfl; rfl) | (apply AGo.gT; rfl; rfl; rfl; first | omega | rfl) | (apply AGo.gF; rfl; rfl; rfl; omega) | (apply AGo.cBT; rfl; first | (simp only [bT]; omega)) | (apply AGo.skipOp; rfl; rfl; rfl) | (apply AGo.buildSlice; (iterate 11 rfl)) | (apply AGo.retLW (.tup [I 0, .d (.sl 3 []), I p, I 7]); rfl; exact Weak.tup ⟨Weak.refl _, Weak.d (DWeak.nils 3), Weak.refl _, Weak.refl _, trivial⟩; rfl; rfl; rfl) | intro _ | (apply AGo.outL; rfl; rfl))
              all_goals first | exact ⟨rfl, rfl⟩ | (exfalso; omega) | trace_state
            · cases h2 : (evX (bitsF s (p + dn + q))).1.last with
              | true =>
                rw [evsX_1 h0 h1 h2] at hm
                have hm2 : R = (acc ++ [(evX (bitsF s (p + dn + q))).1], 0, q + (evX (bitsF s (p + dn + q))).2.2) := by rw [← hm]; rfl
                have eA := evsD_add acc (evX (bitsF s (p + dn + q))).1
                generalize evX (bitsF s (p + dn + q)) = x at *
                obtain ⟨⟨la, ru, le⟩, er, c⟩ := x
                simp only at h0 h1 h2 hrun tk eA hm2 hle2
                subst h0
                subst h2
                repeat' (first | (apply AGo.append; (iterate 11 rfl); (first | rfl | (simp only [List.length_append, List.length_map, List.length_cons, List.length_nil]; omega)); (first | (simp only [List.length_append, List.length_map, List.length_cons, List.length_nil]; omega) | (rw [hal]; omega)); simp only [List.set_cons_zero, List.set_cons_succ]) | apply AGo.seq | apply AGo.block | apply AGo.blk | apply AGo.skip | apply AGo.nil | (apply AGo.region; rfl) | (apply AGo.q true; rfl; rfl; rfl; rfl; first | exact True.intro | omega | (simp only [Int.toNat_natCast, Int.reduceToNat, IntKind.bits]; omega) | (rw [hal]; omega)) | (apply AGo.callP (tk); (iterate 6 rfl)) | (apply AGo.exit; rfl) | (apply AGo.condDT; rfl; first | omega | rfl) | (apply AGo.condDF; rfl; omega) | (apply AGo.condT; rfl) | (apply AGo.condF; rfl) | (apply AGo.alloc; (iterate 5 rfl); simp only [nm, Nat.reduceAdd, spliceA, AV.cells, D.cells]) | (apply AGo.store; (iterate 9 rfl); exact Nat.le_of_ble_eq_true rfl; simp only [nm, Nat.reduceAdd, spliceA, AV.cells, D.cells]) | (apply AGo.unguard; rfl; rfl) | (apply AGo.gT; rfl; rfl; rfl; first | omega | rfl) | (apply AGo.gF; rfl; rfl; rfl; omega) | (apply AGo.cBT; rfl; first | (simp only [bT]; omega)) | (apply AGo.skipOp; rfl; rfl; rfl) | (apply AGo.buildSlice; (iterate 11 rfl)) | intro _ | (apply AGo.outL; rfl; rfl))
                all_goals first
                  | exact AGo.roundD 1 [(15, I (a + (ru + 1) - 1)), (14, .own 3 (evsD (acc ++ [⟨true, ru, le⟩])) 0), (13, I ((p + dn + (q + c) : Nat) : Int)), (12, I dc), (3, B false), (1, I p), (0, S (showN s))] 0 (by omega) rfl rfl rfl rfl
                      ⟨congrArg I (by omega), by rw [eA]; rfl, congrArg I (by omega), rfl, rfl, rfl, rfl, trivial⟩ ⟨acc ++ [⟨true, ru, le⟩], q + c, a + (ru + 1), false, by omega, by omega, by rw [List.length_append]; simp; omega, .inr ⟨rfl, rfl, hm2⟩, rfl, by first | (rw [eA]; done) | (rw [eA]; rfl)⟩
                  | (exfalso; omega) | trace_state
              | false =>
                rw [cmbE_next h0 h1 h2, bits_drop, Nat.add_assoc (p + dn)] at hm
                have eA := evsD_add acc (evX (bitsF s (p + dn + q))).1
                generalize evX (bitsF s (p + dn + q)) = x at *
                obtain ⟨⟨la, ru, le⟩, er, c⟩ := x
                simp only at h0 h1 h2 hrun tk eA hm hle2
                subst h0
                subst h2
                repeat' (first | (apply AGo.append; (iterate 11 rfl); (first | rfl | (simp only [List.length_append, List.length_map, List.length_cons, List.length_nil]; omega)); (first | (simp only [List.length_append, List.length_map, List.length_cons, List.length_nil]; omega) | (rw [hal]; omega)); simp only [List.set_cons_zero, List.set_cons_succ]) | apply AGo.seq | apply AGo.block | apply AGo.blk | apply AGo.skip | apply AGo.nil | (apply AGo.region; rfl) | (apply AGo.q true; rfl; rfl; rfl; rfl; first | exact True.intro | omega | (simp only [Int.toNat_natCast, Int.reduceToNat, IntKind.bits]; omega) | (rw [hal]; omega)) | (apply AGo.callP (tk); (iterate 6 rfl)) | (apply AGo.exit; rfl) | (apply AGo.condDT; rfl; first | omega | rfl) | (apply AGo.condDF; rfl; omega) | (apply AGo.condT; rfl) | (apply AGo.condF; rfl) | (apply AGo.alloc; (iterate 5 rfl); simp only [nm, Nat.reduceAdd, spliceA, AV.cells, D.cells]) | (apply AGo.store; (iterate 9 rfl); exact Nat.le_of_ble_eq_true rfl; simp only [nm, Nat.reduceAdd, spliceA, AV.cells, D.cells]) | (apply AGo.unguard; rfl; rfl) | (apply AGo.gT; rfl; rfl; rfl; first | omega | rfl) | (apply AGo.gF; rfl; rfl; rfl; omega) | (apply AGo.cBT; rfl; first | (simp only [bT]; omega)) | (apply AGo.skipOp; rfl; rfl; rfl) | (apply AGo.buildSlice; (iterate 11 rfl)) | intro _ | (apply AGo.outL; rfl; rfl))
                all_goals first
                  | exact AGo.roundD 1 [(15, I (a + (ru + 1) - 1)), (14, .own 3 (evsD (acc ++ [⟨false, ru, le⟩])) 0), (13, I ((p + dn + (q + c) : Nat) : Int)), (12, I dc), (3, B true), (1, I p), (0, S (showN s))] (f + 1) (by omega) rfl rfl rfl rfl
                      ⟨congrArg I (by omega), by rw [eA]; rfl, congrArg I (by omega), rfl, rfl, rfl, rfl, trivial⟩ ⟨acc ++ [⟨false, ru, le⟩], q + c, a + (ru + 1), true, by omega, by omega, by rw [List.length_append]; simp; omega, .inl ⟨rfl, f, rfl, by omega, hm⟩, rfl, by first | (rw [eA]; done) | (rw [eA]; rfl)⟩
                  | (exfalso; omega) | trace_state
          · rw [evsX_e h0] at hm
            obtain ⟨u1, u2⟩ := (evX_used hB).2 h0
            have hm2 : R = ([], (evX (bitsF s (p + dn + q))).2.1, q + 0) := by rw [← hm]; unfold cmbE; rw [if_pos h0]
            rw [hOe (by rw [hm2]; exact h0), hm2]
            generalize evX (bitsF s (p + dn + q)) = x at *
            obtain ⟨⟨la, ru, le⟩, er, c⟩ := x
            simp only at h0 tk u1
            subst u1
            simp only
            rw [e00]
            repeat' (first | apply AGo.seq | apply AGo.block | apply AGo.blk | apply AGo.skip | apply AGo.nil | (apply AGo.region; rfl) | (apply AGo.q true; rfl; rfl; rfl; rfl; first | exact True.intro | omega | (simp only [Int.toNat_natCast, Int.reduceToNat, IntKind.bits]; omega)) | (apply AGo.callP (tk); (iterate 6 rfl)) | (apply AGo.exit; rfl) | (apply AGo.condDT; rfl; first | omega | rfl) | (apply AGo.condDF; rfl; omega) | (apply AGo.condT; rfl) | (apply AGo.condF; rfl) | (apply AGo.alloc; (iterate 5 rfl); simp only [nm, Nat.reduceAdd, spliceA, AV.cells, D.cells]) | (apply AGo.store; (iterate 9 rfl); exact Nat.le_of_ble_eq_true rfl; simp only [nm, Nat.reduceAdd, spliceA, AV.cells, D.cells]) | (apply AGo.unguard; rfl; rfl) | (apply AGo.gT; rfl; rfl; rfl; first | omega | rfl) | (apply AGo.gF; rfl; rfl; rfl; omega) | (apply AGo.cBT; rfl; first | (simp only [bT]; omega)) | (apply AGo.skipOp; rfl; rfl; rfl) | (apply AGo.buildSlice; (iterate 11 rfl)) | (apply AGo.retLW (.tup [I 0, .d (.sl 3 []), I p, I er]); rfl; exact Weak.tup ⟨Weak.refl _, Weak.d (DWeak.nils 3), Weak.refl _, Weak.refl _, trivial⟩; rfl; rfl; rfl) | intro _ | (apply AGo.outL; rfl; rfl))
            all_goals first | exact ⟨rfl, rfl⟩ | (exfalso; omega) | trace_state
        · rw [hOk (by rw [hR2]), hR2]
          simp only
          rw [← Nat.add_assoc]
          repeat' (first | apply AGo.seq | apply AGo.block | apply AGo.blk | apply AGo.skip | apply AGo.nil | (apply AGo.region; rfl) | (apply AGo.q true; rfl; rfl; rfl; rfl; first | exact True.intro | omega | (simp only [Int.toNat_natCast, Int.reduceToNat, IntKind.bits]; omega)) | (apply AGo.exit; rfl) | (apply AGo.condDT; rfl; first | omega | rfl) | (apply AGo.condDF; rfl; omega) | (apply AGo.condT; rfl) | (apply AGo.condF; rfl) | (apply AGo.alloc; (iterate 5 rfl); simp only [nm, Nat.reduceAdd, spliceA, AV.cells, D.cells]) | (apply AGo.store; (iterate 9 rfl); exact Nat.le_of_ble_eq_true rfl; simp only [nm, Nat.reduceAdd, spliceA, AV.cells, D.cells]) | (apply AGo.unguard; rfl; rfl) | (apply AGo.gT; rfl; rfl; rfl; first | omega | rfl) | (apply AGo.gF; rfl; rfl; rfl; omega) | (apply AGo.cBT; rfl; first | (simp only [bT]; omega)) | (apply AGo.skipOp; rfl; rfl; rfl) | (apply AGo.buildSlice; (iterate 11 rfl)) | (apply AGo.retW (.tup [I dc, .d (.sl 3 (evsD acc)), I ((p + dn + q : Nat) : Int), I 0]); rfl; exact Weak.tup ⟨Weak.refl _, Weak.own _ _ _, Weak.refl _, Weak.refl _, trivial⟩; rfl; rfl; rfl) | intro _ | (apply AGo.outL; rfl; rfl))
          all_goals first | exact ⟨rfl, rfl⟩ | (exfalso; omega) | trace_state
end Go.Proofs.YtdihjnifoikbeaaDoor.Av.Tc
