/- Heads of sheets: the document's answer. -/
import Derived.Test.YtocmdllfdeiceaaGreatDoorPs1
set_option linter.unusedSimpArgs false
set_option linter.unusedVariables false
set_option maxRecDepth 100000
namespace Go.Proofs.YtocmdllfdeiceaaGreatDoor.Av.Sh
open Go Bt Wr
attribute [local irreducible] AGo ACalls
variable {gl : List (Nat × List D)}
theorem fN_0 (f : Int) : (fN f = 0 ∧ fOk f = false) ∨ (fN f ≠ 0 ∧ fOk f = true) := by
  rcases fmts f with rfl | rfl | rfl | rfl | rfl | rfl | h
  rotate_right
  · obtain ⟨e1, e2, e3, e4, e5⟩ := f_no h
    exact .inl ⟨by unfold fN fA; rw [e1]; simp, e5⟩
  all_goals exact .inr (by decide)
theorem iD_row (b : Bool) : digs (iD b) 1 1 = if b = true then [49] else [48] := by cases b <;> decide +kernel
theorem d2 : digs 2 2 2 = [49, 48] := by decide +kernel
theorem d4 : digs 0 4 4 = [48, 48, 48, 48] := by decide +kernel
theorem d1 : digs 0 1 1 = [48] := by decide +kernel
def hdRow2 (h : Hd) (i : List UInt8) : List UInt8 := mkRow 0 ++ digs h.ref 8 8 ++ [49, 48] ++ digs h.flags 3 3 ++ digs h.fmt 3 3 ++ i ++ [48, 48, 48, 48] ++ digs h.quant 5 5 ++ [48]
theorem hdRow_eq (h : Hd) : hdRow h = hdRow2 h (if h.inter = true then [49] else [48]) := by unfold hdRow hdRow2; rw [iD_row, d2, d4, d1]
theorem suRow_eq (v : Int) : suRow v = [49] ++ digs v 8 8 := rfl
theorem z_len (n : Nat) : (zs n).length = n := by unfold zs; simp
attribute [local irreducible] suD suRow digs mkRow zs
set_option maxHeartbeats 8000000 in
theorem rright_c (h : Hd) (rs : List D) (z : Int) (hl : h.supp.length ≤ 100) (hb : -9223372036854775808 ≤ h.fmt ∧ h.fmt ≤ 9223372036854775807) : ACalls (cxg gl) 39 [.d (shD h rs z)] [] (fun r H => r = B (hdOk h) ∧ H = []) := by
  have hs := rmany_c (gl := gl) h.fmt hb
  have hn := suD_len h.supp
  have hf := fN_0 h.fmt
  generalize fN h.fmt = N at hs hf
  by_cases hp : baseP h
  · have hh : hdOk h = h.supp.all okB := by unfold hdOk; rw [decide_eq_true hp]; rfl
    obtain ⟨f0, f1, f2, f3, f4⟩ := hp
    rw [f0] at hf
    have hN : N ≠ 0 := by
      rcases hf with h | h
      · exact absurd h.2 (by decide)
      · exact h.1
    refine ACalls.enter Tryz.func39 rfl Tryz.ntmps39 (by kernel_rfl) rfl ?_; simp only [argEnv, Nat.reduceAdd, List.length_nil, List.length_cons]
    repeat (first | apply AGo.seq | apply AGo.block | apply AGo.blk | apply AGo.skip | apply AGo.nil | (apply AGo.region; rfl) | (apply AGo.q true; rfl; rfl; rfl; rfl; first | exact True.intro | omega | (simp only [Int.toNat_natCast, Int.reduceToNat, IntKind.bits]; omega) | (rw [hn]; omega)) | (apply AGo.callP (hs); (iterate 6 rfl)) | (apply AGo.condDT; rfl; first | omega | rfl) | (apply AGo.condDF; rfl; omega) | (apply AGo.condT; rfl) | (apply AGo.box; (iterate 6 rfl); simp only [nm, Nat.reduceAdd, spliceA, AV.cells, D.cells]) | (apply AGo.unguard; rfl; rfl) | (apply AGo.gF; rfl; rfl; rfl; omega) | (apply AGo.skipOp; rfl; rfl; rfl))
    rw [hh]
    refine AGo.weak (env' := [(3, I ((0 : Nat) : Int)), (1, .ptr 0 0)]) ⟨rfl, rfl, trivial⟩ ?_
    refine AGo.loop (fun m env H => ∃ k : Nat, m = h.supp.length - k ∧ k ≤ h.supp.length ∧ (h.supp.take k).all okB = true ∧ env = [(3, I (k : Int)), (1, .ptr 0 0)] ∧ H = [.cells [.d (Nn h.ref), .d (Nn h.flags), .d (Nn h.fmt), .d (.bool h.inter), .d (Nn h.quant), .d (.sl 1 (suD h.supp)), .d (.sl 4 rs), .d (Nn z)]]) h.supp.length
      ⟨0, rfl, by omega, by simp, rfl, rfl⟩ ?_
    rintro m env H ⟨k, rfl, hk, hq, rfl, rfl⟩
    rcases Nat.lt_or_ge k h.supp.length with hlt | hge
    · obtain ⟨v, hv⟩ : ∃ v, h.supp[k]? = some v := ⟨_, List.getElem?_eq_getElem hlt⟩
      have g1 := suD_get h.supp k v hv
      have ht := take_all h.supp k v hv
      rw [hq, Bool.true_and] at ht
      by_cases hvb : 0 ≤ v ∧ v ≤ 255
      · rw [show okB v = true from decide_eq_true hvb] at ht
        repeat' (first | apply AGo.seq | apply AGo.block | apply AGo.blk | apply AGo.skip | apply AGo.nil | (apply AGo.region; rfl) | (apply AGo.q true; rfl; rfl; rfl; rfl; first | exact True.intro | omega | (simp only [Int.toNat_natCast, Int.reduceToNat, IntKind.bits]; omega) | (rw [hn]; omega)) | (apply AGo.condDT; rfl; first | omega | rfl) | (apply AGo.condDF; rfl; omega) | (apply AGo.condT; rfl) | (apply AGo.box; (iterate 6 rfl); simp only [nm, Nat.reduceAdd, spliceA, AV.cells, D.cells]) | (apply AGo.unguard; rfl; rfl) | (apply AGo.gF; rfl; rfl; rfl; omega) | (apply AGo.skipOp; rfl; rfl; rfl) | (apply AGo.loadG; (iterate 7 rfl); exact g1) | intro _ | (apply AGo.gD; rfl; rfl; rfl) | (apply AGo.retN; rfl; rfl; rfl; rfl) | (apply AGo.retL; rfl; rfl; rfl; rfl) | (apply AGo.outL; rfl; rfl))
        all_goals first
          | exact AGo.round [(3, I (((k + 1 : Nat)) : Int)), (1, .ptr 0 0)] (h.supp.length - (k + 1)) (by omega) ⟨rfl, rfl, trivial⟩ ⟨k + 1, rfl, hlt, ht, rfl, rfl⟩
          | (exfalso; omega)
          | trace_state
      · have hno : h.supp.all okB = false := by
          rw [List.all_eq_false]
          exact ⟨v, List.mem_of_getElem? hv, by rw [show okB v = false from decide_eq_false hvb]; decide⟩
        rw [hno]
        repeat' (first | apply AGo.seq | apply AGo.block | apply AGo.blk | apply AGo.skip | apply AGo.nil | (apply AGo.region; rfl) | (apply AGo.q true; rfl; rfl; rfl; rfl; first | exact True.intro | omega | (simp only [Int.toNat_natCast, Int.reduceToNat, IntKind.bits]; omega) | (rw [hn]; omega)) | (apply AGo.condDT; rfl; first | omega | rfl) | (apply AGo.condDF; rfl; omega) | (apply AGo.condT; rfl) | (apply AGo.box; (iterate 6 rfl); simp only [nm, Nat.reduceAdd, spliceA, AV.cells, D.cells]) | (apply AGo.unguard; rfl; rfl) | (apply AGo.gF; rfl; rfl; rfl; omega) | (apply AGo.skipOp; rfl; rfl; rfl) | (apply AGo.loadG; (iterate 7 rfl); exact g1) | intro _ | (apply AGo.gD; rfl; rfl; rfl) | (apply AGo.retN; rfl; rfl; rfl; rfl) | (apply AGo.retL; rfl; rfl; rfl; rfl) | (apply AGo.outL; rfl; rfl))
        all_goals first
          | exact ⟨rfl, rfl⟩
          | (exfalso; omega)
          | trace_state
    · obtain rfl : k = h.supp.length := by omega
      rw [List.take_length] at hq
      rw [hq]
      repeat' (first | apply AGo.seq | apply AGo.block | apply AGo.blk | apply AGo.skip | apply AGo.nil | (apply AGo.region; rfl) | (apply AGo.q true; rfl; rfl; rfl; rfl; first | exact True.intro | omega | (simp only [Int.toNat_natCast, Int.reduceToNat, IntKind.bits]; omega) | (rw [hn]; omega)) | (apply AGo.condDT; rfl; first | omega | rfl) | (apply AGo.condDF; rfl; omega) | (apply AGo.condT; rfl) | (apply AGo.box; (iterate 6 rfl); simp only [nm, Nat.reduceAdd, spliceA, AV.cells, D.cells]) | (apply AGo.unguard; rfl; rfl) | (apply AGo.gF; rfl; rfl; rfl; omega) | (apply AGo.skipOp; rfl; rfl; rfl) | intro _ | (apply AGo.gD; rfl; rfl; rfl) | (apply AGo.retN; rfl; rfl; rfl; rfl) | (apply AGo.retL; rfl; rfl; rfl; rfl) | (apply AGo.outL; rfl; rfl))
      all_goals first | exact ⟨rfl, rfl⟩ | (exfalso; omega) | trace_state
  · have hh : hdOk h = false := by unfold hdOk; rw [decide_eq_false hp]; rfl
    rw [hh]
    have hp3 : ¬ (N ≠ 0 ∧ (0 ≤ h.ref ∧ h.ref ≤ 255) ∧ (0 ≤ h.flags ∧ h.flags ≤ 7) ∧ (1 ≤ h.quant ∧ h.quant ≤ 31) ∧ h.supp.length ≤ 8) := fun ⟨q, r⟩ => hp ⟨by
      rcases hf with h1 | h1
      · exact absurd h1.1 q
      · exact h1.2, r⟩
    refine ACalls.enter Tryz.func39 rfl Tryz.ntmps39 (by kernel_rfl) rfl ?_; simp only [argEnv, Nat.reduceAdd, List.length_nil, List.length_cons]
    repeat' (first | apply AGo.seq | apply AGo.block | apply AGo.blk | apply AGo.skip | apply AGo.nil | (apply AGo.region; rfl) | (apply AGo.q true; rfl; rfl; rfl; rfl; first | exact True.intro | omega | (simp only [Int.toNat_natCast, Int.reduceToNat, IntKind.bits]; omega) | (rw [hn]; omega)) | (apply AGo.callP (hs); (iterate 6 rfl)) | (apply AGo.condDT; rfl; first | omega | rfl) | (apply AGo.condDF; rfl; omega) | (apply AGo.condT; rfl) | (apply AGo.box; (iterate 6 rfl); simp only [nm, Nat.reduceAdd, spliceA, AV.cells, D.cells]) | (apply AGo.unguard; rfl; rfl) | (apply AGo.gF; rfl; rfl; rfl; omega) | (apply AGo.skipOp; rfl; rfl; rfl) | intro _ | (apply AGo.gD; rfl; rfl; rfl) | (apply AGo.retN; rfl; rfl; rfl; rfl) | (apply AGo.retL; rfl; rfl; rfl; rfl) | (apply AGo.outL; rfl; rfl))
    all_goals first | exact ⟨rfl, rfl⟩ | (exfalso; omega) | trace_state
set_option maxHeartbeats 8000000 in
theorem rhead_c (ahead : Nat) (h : Hd) (rs : List D) (z : Int) (hl : ahead ≤ 100000000) (hh : hdOk h = true) : ACalls (cxg gl) 45 [I (ahead : Int), .d (shD h rs z)] [] (fun r H => r = S (zs (padN ahead) ++ headRow h) ∧ H = []) := by
  obtain ⟨⟨f0, f1, f2, f3, f4⟩, fs⟩ := hdOk_inv hh
  have f5 := fOk_bd f0
  have hn := suD_len h.supp
  have hm := rmk_c (gl := gl) 0 (by omega)
  have r1 := rrow_c (gl := gl) h.ref 8 (by omega) (by omega)
  have r2 := rrow_c (gl := gl) h.flags 3 (by omega) (by omega)
  have r3 := rrow_c (gl := gl) h.fmt 3 (by omega) (by omega)
  have r4 := rrow_c (gl := gl) h.quant 5 (by omega) (by omega)
  have k0 := mk_len 0
  have k1 := digs_len h.ref 8 8
  have k2 := digs_len h.flags 3 3
  have k3 := digs_len h.fmt 3 3
  have k4 := digs_len h.quant 5 5
  have he := hdRow_eq h
  obtain ⟨p1, p2⟩ := padN_ok ahead
  have kz := z_len (padN ahead)
  have wh := fi_hd h
  refine ACalls.enter Tryz.func45 rfl Tryz.ntmps45 (by kernel_rfl) rfl ?_; simp only [argEnv, Nat.reduceAdd, List.length_nil, List.length_cons]
  repeat (first | apply AGo.seq | apply AGo.block | apply AGo.blk | apply AGo.skip | apply AGo.nil | apply AGo.qnil | (apply AGo.region; rfl) | ((first | apply AGo.q true | apply AGo.qq true); rfl; rfl; rfl; rfl; first | exact True.intro | omega | (simp only [Int.toNat_natCast, Int.reduceToNat, IntKind.bits]; omega)) | (apply AGo.drawQ; rfl; rfl; decide +kernel) | (apply AGo.condDT; rfl; first | omega | rfl) | (apply AGo.condDF; rfl; omega) | (apply AGo.box; (iterate 6 rfl); simp only [nm, Nat.reduceAdd, spliceA, AV.cells, D.cells]) | (apply AGo.cBT; rfl; first | (simp only [bT]; omega)) | (apply AGo.cBF; rfl; first | (simp only [bF]; omega) | exact ndF rfl))
  refine AGo.weak (env' := [(5, S (zs 0)), (3, .ptr 0 0), (0, I (ahead : Int))]) ⟨congrArg S zs_0.symm, rfl, rfl, trivial⟩ ?_
  refine AGo.loop (fun m env H => ∃ k : Nat, m = padN ahead - k ∧ k ≤ padN ahead ∧ env = [(5, S (zs k)), (3, .ptr 0 0), (0, I (ahead : Int))] ∧ H = [.cells [.d (Nn h.ref), .d (Nn h.flags), .d (Nn h.fmt), .d (.bool h.inter), .d (Nn h.quant), .d (.sl 1 (suD h.supp)), .d (.sl 4 rs), .d (Nn z)]]) (padN ahead) ⟨0, rfl, by omega, rfl, rfl⟩ ?_
  rintro m env H ⟨k, rfl, hk, rfl, rfl⟩
  have kk := z_len k
  rcases Nat.lt_or_ge k (padN ahead) with hlt | hge
  · have hz := zs_succ k
    have q1 : decide (((ahead : Int) + ((zs k).length : Int)) % 8 = 0) = false := decide_eq_false (by rw [kk]; unfold padN at hlt; omega)
    repeat' (first | apply AGo.seq | apply AGo.block | apply AGo.blk | apply AGo.skip | apply AGo.nil | apply AGo.qnil | (apply AGo.region; rfl) | ((first | apply AGo.q true | apply AGo.qq true); rfl; rfl; rfl; rfl; first | exact True.intro | omega | (simp only [Int.toNat_natCast, Int.reduceToNat, IntKind.bits]; omega) | (simp only [List.length_append, List.length_cons, List.length_nil]; omega)) | (apply AGo.drawQ; rfl; rfl; decide +kernel) | (apply AGo.condDT; rfl; first | omega | rfl) | (apply AGo.condDF; rfl; omega) | (apply AGo.box; (iterate 6 rfl); simp only [nm, Nat.reduceAdd, spliceA, AV.cells, D.cells]) | (apply AGo.cBT; rfl; first | (simp only [bT]; omega)) | (apply AGo.cBF; rfl; first | (simp only [bF]; omega) | exact ndF rfl) | intro _ | (apply AGo.retN; rfl; rfl; rfl; rfl) | (apply AGo.outL; rfl; rfl))
    all_goals first | exact AGo.round [(5, S (zs (k + 1))), (3, .ptr 0 0), (0, I (ahead : Int))] (padN ahead - (k + 1)) (by omega) ⟨congrArg S hz.symm, rfl, rfl, trivial⟩ ⟨k + 1, rfl, hlt, rfl, rfl⟩ | (exfalso; unfold padN at *; omega) | trace_state
  · obtain rfl : k = padN ahead := by omega
    have q1 : decide (((ahead : Int) + ((zs (padN ahead)).length : Int)) % 8 = 0) = true := decide_eq_true (by rw [kk]; omega)
    have hi : (h.inter = false ∧ zs (padN ahead) ++ hdRow h ++ (h.supp.take 0).flatMap suRow = zs (padN ahead) ++ mkRow 0 ++ digs h.ref 8 8 ++ [49, 48] ++ digs h.flags 3 3 ++ digs h.fmt 3 3 ++ [48] ++ [48, 48, 48, 48] ++ digs h.quant 5 5 ++ [48]) ∨ (h.inter = true ∧ zs (padN ahead) ++ hdRow h ++ (h.supp.take 0).flatMap suRow = zs (padN ahead) ++ mkRow 0 ++ digs h.ref 8 8 ++ [49, 48] ++ digs h.flags 3 3 ++ digs h.fmt 3 3 ++ [49] ++ [48, 48, 48, 48] ++ digs h.quant 5 5 ++ [48]) := by
      cases hb : h.inter
      · refine .inl ⟨rfl, ?_⟩
        rw [he, hb]; unfold hdRow2; simp
      · refine .inr ⟨rfl, ?_⟩
        rw [he, hb]; unfold hdRow2; simp
    rcases hi with ⟨hb, hi⟩ | ⟨hb, hi⟩
    all_goals
      repeat (first | apply AGo.seq | apply AGo.block | apply AGo.blk | apply AGo.skip | apply AGo.nil | apply AGo.qnil | (apply AGo.region; rfl) | ((first | apply AGo.q true | apply AGo.qq true); rfl; rfl; rfl; rfl; first | exact True.intro | omega | (simp only [Int.toNat_natCast, Int.reduceToNat, IntKind.bits]; omega)) | (apply AGo.drawQ; rfl; rfl; decide +kernel) | (apply AGo.condDT; rfl; first | omega | rfl) | (apply AGo.condDF; rfl; omega) | (apply AGo.box; (iterate 6 rfl); simp only [nm, Nat.reduceAdd, spliceA, AV.cells, D.cells]) | (apply AGo.cBT; rfl; first | (simp only [bT]; omega)) | (apply AGo.cBF; rfl; first | (simp only [bF]; omega) | exact ndF rfl))
      refine AGo.out rfl ⟨_, rfl, ?_⟩
      repeat (first | apply AGo.seq | apply AGo.block | apply AGo.blk | apply AGo.skip | apply AGo.nil | apply AGo.qnil | (apply AGo.region; rfl) | ((first | apply AGo.q true | apply AGo.qq true); rfl; rfl; rfl; rfl; first | exact True.intro | omega | (simp only [Int.toNat_natCast, Int.reduceToNat, IntKind.bits]; omega) | (simp only [List.length_append, List.length_cons, List.length_nil]; omega)) | (apply AGo.callP (hm); (iterate 6 rfl)) | (apply AGo.qcallP (hm); (iterate 7 rfl)) | (apply AGo.callP (r1); (iterate 6 rfl)) | (apply AGo.qcallP (r1); (iterate 7 rfl)) | (apply AGo.callP (r2); (iterate 6 rfl)) | (apply AGo.qcallP (r2); (iterate 7 rfl)) | (apply AGo.callP (r3); (iterate 6 rfl)) | (apply AGo.qcallP (r3); (iterate 7 rfl)) | (apply AGo.callP (r4); (iterate 6 rfl)) | (apply AGo.qcallP (r4); (iterate 7 rfl)) | (apply AGo.drawQ; rfl; rfl; decide +kernel) | (apply AGo.condDT; rfl; first | omega | rfl) | (apply AGo.condDF; rfl; omega) | (apply AGo.box; (iterate 6 rfl); simp only [nm, Nat.reduceAdd, spliceA, AV.cells, D.cells]) | (apply AGo.cBT; rfl; first | (simp only [bT]; omega) | (exact hb)) | (apply AGo.cBF; rfl; first | (simp only [bF]; omega) | exact ndF rfl | (exact hb)))
      refine AGo.weak (env' := [(7, I ((0 : Nat) : Int)), (5, S (zs (padN ahead) ++ hdRow h ++ (h.supp.take (0)).flatMap suRow)), (3, .ptr 0 0)]) ⟨rfl, congrArg S hi.symm, rfl, trivial⟩ ?_
      refine AGo.loop (fun m env H => ∃ k : Nat, m = h.supp.length - k ∧ k ≤ h.supp.length ∧ env = [(7, I (k : Int)), (5, S (zs (padN ahead) ++ hdRow h ++ (h.supp.take (k)).flatMap suRow)), (3, .ptr 0 0)] ∧ H = [.cells [.d (Nn h.ref), .d (Nn h.flags), .d (Nn h.fmt), .d (.bool h.inter), .d (Nn h.quant), .d (.sl 1 (suD h.supp)), .d (.sl 4 rs), .d (Nn z)]]) h.supp.length ⟨0, rfl, by omega, rfl, rfl⟩ ?_
      rintro m env H ⟨k, rfl, hk2, rfl, rfl⟩
      have hkl : (h.supp.take k).length ≤ 8 := by rw [List.length_take]; omega
      have wk := fi_sus (h.supp.take k)
      have wk2 := wk.2
      have wh2 := wh.2
      rcases Nat.lt_or_ge k h.supp.length with hlt | hge
      · obtain ⟨v, hv⟩ : ∃ v, h.supp[k]? = some v := ⟨_, List.getElem?_eq_getElem hlt⟩
        have g1 := suD_get h.supp k v hv
        have hvb := fs v (List.mem_of_getElem? hv)
        have rv := rrow_c (gl := gl) v 8 (by omega) (by omega)
        have kv := digs_len v 8 8
        have es : zs (padN ahead) ++ hdRow h ++ (h.supp.take (k + 1)).flatMap suRow = zs (padN ahead) ++ hdRow h ++ (h.supp.take k).flatMap suRow ++ [49] ++ digs v 8 8 := by
          rw [take_sus h.supp k v hv, suRow_eq]; simp only [List.append_assoc]
        repeat' (first | apply AGo.seq | apply AGo.block | apply AGo.blk | apply AGo.skip | apply AGo.nil | apply AGo.qnil | (apply AGo.region; rfl) | ((first | apply AGo.q true | apply AGo.qq true); rfl; rfl; rfl; rfl; first | exact True.intro | omega | (simp only [Int.toNat_natCast, Int.reduceToNat, IntKind.bits]; omega) | (rw [hn]; omega) | (simp only [List.length_append, List.length_cons, List.length_nil]; omega)) | (apply AGo.callP (rv); (iterate 6 rfl)) | (apply AGo.qcallP (rv); (iterate 7 rfl)) | (apply AGo.drawQ; rfl; rfl; decide +kernel) | (apply AGo.condDT; rfl; first | omega | rfl) | (apply AGo.condDF; rfl; omega) | (apply AGo.box; (iterate 6 rfl); simp only [nm, Nat.reduceAdd, spliceA, AV.cells, D.cells]) | (apply AGo.cBT; rfl; first | (simp only [bT]; omega)) | (apply AGo.cBF; rfl; first | (simp only [bF]; omega) | exact ndF rfl) | (apply AGo.loadG; (iterate 7 rfl); exact g1) | intro _ | (apply AGo.retN; rfl; rfl; rfl; rfl) | (apply AGo.outL; rfl; rfl))
        all_goals first
          | exact AGo.round [(7, I (((k + 1 : Nat)) : Int)), (5, S (zs (padN ahead) ++ hdRow h ++ (h.supp.take (k + 1)).flatMap suRow)), (3, .ptr 0 0)] (h.supp.length - (k + 1)) (by omega) ⟨rfl, congrArg S es.symm, rfl, trivial⟩ ⟨k + 1, rfl, hlt, rfl, rfl⟩
          | (exfalso; omega)
          | trace_state
      · obtain rfl : k = h.supp.length := by omega
        have ef : zs (padN ahead) ++ hdRow h ++ (h.supp.take h.supp.length).flatMap suRow ++ [48] = zs (padN ahead) ++ headRow h := by unfold headRow; rw [List.take_length, d1]; simp only [List.append_assoc]
        rw [← ef]
        repeat' (first | apply AGo.seq | apply AGo.block | apply AGo.blk | apply AGo.skip | apply AGo.nil | apply AGo.qnil | (apply AGo.region; rfl) | ((first | apply AGo.q true | apply AGo.qq true); rfl; rfl; rfl; rfl; first | exact True.intro | omega | (simp only [Int.toNat_natCast, Int.reduceToNat, IntKind.bits]; omega) | (rw [hn]; omega) | (simp only [List.length_append, List.length_cons, List.length_nil]; omega)) | (apply AGo.drawQ; rfl; rfl; decide +kernel) | (apply AGo.condDT; rfl; first | omega | rfl) | (apply AGo.condDF; rfl; omega) | (apply AGo.box; (iterate 6 rfl); simp only [nm, Nat.reduceAdd, spliceA, AV.cells, D.cells]) | (apply AGo.cBT; rfl; first | (simp only [bT]; omega)) | (apply AGo.cBF; rfl; first | (simp only [bF]; omega) | exact ndF rfl) | intro _ | (apply AGo.retN; rfl; rfl; rfl; rfl) | (apply AGo.outL; rfl; rfl))
        all_goals first | exact ⟨rfl, rfl⟩ | (exfalso; omega) | trace_state
end Go.Proofs.YtocmdllfdeiceaaGreatDoor.Av.Sh
