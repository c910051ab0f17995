/- A sheet's digits: the document's answer. -/
import Derived.Test.YtocmdllfdeiceaaGreatDoorPs4
import Derived.Test.YtocmdllfdeiceaaGreatDoorSh20
set_option linter.unusedSimpArgs false
set_option linter.unusedVariables false
set_option maxRecDepth 100000
namespace Go.Proofs.YtocmdllfdeiceaaGreatDoor.Av.Sh
open Go Bt Co
attribute [local irreducible] AGo ACalls
variable {gl : List (Nat × List D)}
def nz (n k : Nat) : List D := List.replicate k (D.int .u8 48) ++ List.replicate (n - k) (D.int .u8 0)
theorem nz_len {n k : Nat} (h : k ≤ n) : (nz n k).length = n := by simp [nz]; omega
theorem nz_0 (n : Nat) : nz n 0 = List.replicate n (D.int .u8 0) := by simp [nz]
theorem nz_n (n : Nat) : nz n n = octets (zs n) := by unfold nz octets zs; simp
theorem nz_get {n k : Nat} (h : k < n) : (nz n k)[k]? = some (D.int .u8 0) := by
  unfold nz
  rw [List.getElem?_append_right (by simp), List.length_replicate, Nat.sub_self, List.getElem?_replicate, if_pos (by omega)]
theorem nz_set {n k : Nat} (h : k < n) : (nz n k).set k (D.int .u8 48) = nz n (k + 1) := by
  unfold nz
  rw [List.set_append_right _ _ (by simp)]
  have e : n - k = (n - (k + 1)) + 1 := by omega
  rw [e, List.replicate_succ]
  simp [List.replicate_succ']
theorem vecs_I2 {rs : List Rw} (ok : RwsOk rs) (i : Nat) : VecsI (mvs (cellsOf (rs.take i))) := fun p hp => by
  unfold mvs at hp
  obtain ⟨c, hc, rfl⟩ := List.mem_map.1 hp
  unfold cellsOf at hc
  obtain ⟨r, hr, hcr⟩ := List.mem_flatMap.1 hc
  have := (ok.cells r (List.mem_of_mem_take hr)).2 c hcr
  exact ⟨this.x, this.y⟩
attribute [local irreducible] Tc.evsD suD celsD rsD rightS octets packN padS putRow ofV vD rowsS hdOk Sh.headRow rhRow zs cellsOut outS headOut firstS mvs cellsOf cellRow fW fR fL fH nz
set_option maxHeartbeats 64000000 in
theorem rsheet_c (n : Nat) (h : Hd) (rs : List Rw) (z : Int) (ok : RwsOk rs) (hl : h.supp.length ≤ 100) (hyes : formS h rs z = true) (hbig : n + 13000 * (cellsOf rs).length + 1000 ≤ 9000000) :
    ACalls (cxg gl) 14 [I (n : Int), .d (shD h (rsD rs) z)] [] (fun r H => r = S (sheetOut h rs z n) ∧ H = []) := by
  obtain ⟨hh, hz, hR, ha⟩ := formS_inv hyes
  obtain ⟨hf, hlen⟩ := formS_len hyes
  have hfb := fOk_bd hf
  have hb : I64 h.fmt := by unfold I64; omega
  have rh := rhead_c (gl := gl) n h (rsD rs) z (by omega) hh
  have k1 := racross_c (gl := gl) h.fmt hb
  have k2 := rsize_c (gl := gl) h.fmt hb
  unfold sizD at k2
  have hAb := fA_bd hf
  have hLb := fL_bd h.fmt
  have hRb : fR h.fmt ≤ 18 := by unfold fR; split <;> (try split) <;> (try split) <;> (try split) <;> (try split) <;> (try split) <;> decide
  have hof := fun i hi => outS_fine (n := n) (i := i) hh ha hi
  have hcl : ∀ i, (cellsOf (rs.take i)).length ≤ (cellsOf rs).length := fun i => by
    have e : cellsOf rs = cellsOf (rs.take i) ++ cellsOf (rs.drop i) := by
      unfold cellsOf
      rw [← List.flatMap_append, List.take_append_drop]
    rw [e, List.length_append]; omega
  have hrl := rsD_len rs
  have o0 : outS h rs n 0 = zs (padN n) ++ Sh.headRow h := by unfold outS; rfl
  have f0 : firstS (fL h.fmt) rs 0 = 0 := by unfold firstS; rfl
  have m0 : vD (mvs (cellsOf (rs.take 0))) = [] := by rw [List.take_zero]; unfold vD mvs cellsOf; rfl
  have hfs := fun i hi => firstS_bd (rs := rs) hLb i hi
  rw [← o0] at rh
  refine ACalls.enter Tryz.func14 rfl Tryz.ntmps14 (by kernel_rfl) rfl ?_; simp only [argEnv, Nat.reduceAdd, List.length_nil, List.length_cons]
  repeat (first | apply AGo.seq | apply AGo.block | apply AGo.blk | apply AGo.skip | apply AGo.nil | (apply AGo.region; rfl) | (apply AGo.q true; rfl; rfl; rfl; rfl; first | exact True.intro | omega | (simp only [Int.toNat_natCast, Int.reduceToNat, IntKind.bits]; omega)) | (apply AGo.callP (rh); (iterate 6 rfl)) | (apply AGo.condDT; rfl; first | omega | rfl) | (apply AGo.condDF; rfl; omega) | (apply AGo.box; (iterate 6 rfl); simp only [nm, Nat.reduceAdd, spliceA, AV.cells, D.cells]) | (apply AGo.cBT; rfl; first | (simp only [bT]; omega)) | (apply AGo.cBF; rfl; first | (simp only [bF]; omega) | exact ndF rfl) | (apply AGo.buildSlice; (iterate 11 rfl)) | (apply AGo.ghostR 6 51 2; rfl; simp only [List.length_cons, List.length_nil, Nat.reduceAdd, List.cons_append, List.nil_append]) | (apply AGo.makeM; (iterate 9 rfl); (first | decide | exact Nat.le_of_ble_eq_true rfl | (dsimp only; omega) | decide +kernel); simp only [Int.reduceNeg, Int.reduceAdd, Int.reduceSub, Int.reduceMul, Int.reduceMod, Int.reduceToNat, List.replicate_succ, List.replicate_zero, List.length_nil, List.length_cons, Nat.reduceAdd, List.nil_append, List.cons_append]) | (apply AGo.storeM; (iterate 11 rfl); (first | rfl | (simp only [List.length_append, List.length_map, List.length_set, List.length_replicate, List.length_cons, List.length_nil]; omega)); rfl; (first | decide | exact Nat.le_of_ble_eq_true rfl | (dsimp only; omega) | decide +kernel); simp only [List.set_cons_zero, List.set_cons_succ]) | (apply AGo.opx; (first | (apply quiet_lenM; (iterate 5 rfl); (first | rfl | (simp only [List.length_append, List.length_map, List.length_set, List.length_replicate, List.length_cons, List.length_nil]; omega))) | (apply quiet_idxM; (iterate 8 rfl); (first | rfl | (simp only [List.length_append, List.length_map, List.length_set, List.length_replicate, List.length_cons, List.length_nil]; omega)); (first | decide | exact Nat.le_of_ble_eq_true rfl | (dsimp only; omega) | decide +kernel)) | (apply quiet_strM; (iterate 9 rfl); (first | rfl | (simp only [List.length_append, List.length_map, List.length_set, List.length_replicate, List.length_cons, List.length_nil]; omega)); rfl)); rfl; rfl; rfl) | (apply AGo.freezeR 6; rfl; rfl; (first | rfl | (simp only [List.length_append, List.length_map, List.length_set, List.length_replicate, List.length_cons, List.length_nil]; omega)); simp only [List.set_cons_zero, List.set_cons_succ]))
  refine AGo.weak (env' := [(8, I ((0 : Nat) : Int)), (7, I 0), (6, .own 2 [] 1), (5, S (outS h rs n 0)), (3, .ptr 0 0), (0, I (n : Int))]) ⟨rfl, rfl, rfl, rfl, rfl, rfl, trivial⟩ ?_
  refine AGo.loop (fun m env H => ∃ i : Nat, m = rs.length - i ∧ i ≤ rs.length ∧ env = [(8, I (i : Int)), (7, I (firstS (fL h.fmt) rs i)), (6, .own 2 (vD (mvs (cellsOf (rs.take i)))) 1), (5, S (outS h rs n i)), (3, .ptr 0 0), (0, I (n : Int))] ∧ H = [.cells (shA h (rsD rs) z), .front 51 2 (vD (mvs (cellsOf (rs.take i)))).length]) rs.length
    ⟨0, rfl, by omega, by rw [f0, m0], by first | (rw [m0]; done) | (rw [m0]; rfl)⟩ ?_
  rintro m env H ⟨i, rfl, hi, rfl, rfl⟩
  rcases Nat.lt_or_ge i rs.length with hlt | hge
  · obtain ⟨r, hr⟩ : ∃ r, rs[i]? = some r := ⟨_, List.getElem?_eq_getElem hlt⟩
    have g1 := rsD_get hr
    obtain ⟨hrl2, hrc⟩ := ok.cells r (List.mem_of_getElem? hr)
    have hrow := rowsS_at ha (by omega) hr
    have hcells := rowS_cells hrow
    have hX := hcl i
    have eX := cellsOf_take hr
    have hX2 := hcl (i + 1)
    rw [eX, List.length_append] at hX2
    have hm := celsD_len r.cells
    have fo := hof i (by omega)
    have ho := headOut_fine (n := n) (i := i) (r := r) fo
    have eO := outS_succ (n := n) hr (h := h)
    have eF := firstS_succ (L := fL h.fmt) hr
    have hvI := vecs_I2 ok i
    have eM : mvs (cellsOf (rs.take (i + 1))) = mvs (cellsOf (rs.take i)) ++ mvs r.cells := by rw [eX, mvs_app]
    have hmul : (0 : Int) ≤ (i : Int) * fL h.fmt ∧ (i : Int) * fL h.fmt ≤ 1000 * 4 := ⟨Int.mul_nonneg (by omega) hLb.1, Int.mul_le_mul (by omega) hLb.2 hLb.1 (by omega)⟩
    generalize hXX : cellsOf (rs.take i) = X at *
    generalize hMM : mvs X = M at *
    have hML : M.length = X.length := by rw [← hMM, mvs_len]
    generalize hOO : outS h rs n i = O at *
    generalize hFF : firstS (fL h.fmt) rs i = F0 at *
    have c0 : ∀ F, cellsOut h.inter (fA h.fmt) F M (r.cells.take 0) = [] := fun F => by rw [List.take_zero]; unfold cellsOut; rfl
    have m00 : mvs (r.cells.take 0) = [] := by rw [List.take_zero]; unfold mvs; rfl
    have hcf := fun k => cellsOut_fine (A := fA h.fmt) (F := firstS (fL h.fmt) rs (i + 1)) (r.cells.take k) M (fun c hc => hcells c (List.mem_of_mem_take hc))
    generalize hF1 : firstS (fL h.fmt) rs (i + 1) = F1 at *
    have hOl := fo.2
    rcases Bool.eq_false_or_eq_true r.head with hd | hd
    all_goals
      first
        | (obtain ⟨q0, q1, q2⟩ := rowS_hdr hrow hd
           have rp := rrh_c (gl := gl) (n + O.length) i r.id r.quant (by omega) (by omega) q1 q2
           have hrl9 := (rhRow_fine i r.id r.quant).2
           have hzl := (zs_fine (padN (n + O.length))).2
           have hp7 := padN_le (n + O.length)
           rw [Int.natCast_add] at rp
           have e1 : O ++ (zs (padN (n + O.length)) ++ rhRow i r.id r.quant) = headOut n i r O := by unfold headOut; rw [if_pos hd]
           rw [if_pos hd] at eF
           have e2 : (i : Int) * fL h.fmt = F1 := eF.symm
           repeat' (first | (apply AGo.opx; (apply quiet_idxG; (iterate 7 rfl); (first | omega | (rw [hrl]; omega) | (exact ⟨by omega, by omega⟩) | (simp only [List.length_append]; omega) | (exact ⟨by omega, Nat.le_of_ble_eq_true rfl⟩)); exact g1); rfl; rfl; rfl) | (apply AGo.drawY [0, 1, 2, 3, 4, 5, 6, 7, 8, 9, 10, 11, 12, 13, 14, 15, 16, 17, 18, 19, 20] 21 21; rfl) | (apply ARegH.pureX; rfl; (apply pure_idxG; (iterate 7 rfl); (first | omega | (rw [hrl]; omega) | (exact ⟨by omega, by omega⟩) | (simp only [List.length_append]; omega) | (exact ⟨by omega, Nat.le_of_ble_eq_true rfl⟩)); exact g1); exact fun _ _ _ h => h; (iterate 6 rfl); kernel_rfl; kernel_rfl) | (apply ARegH.pureX; rfl; (apply PureTo.q true; rfl; rfl; first | exact True.intro | omega | (rw [hrl]; omega) | (exact ⟨by omega, by omega⟩) | (simp only [List.length_append]; omega) | (exact ⟨by omega, Nat.le_of_ble_eq_true rfl⟩)); exact fun _ _ _ h => h; (iterate 6 rfl); kernel_rfl; kernel_rfl) | (apply ARegH.load; rfl; rfl; (first | exact True.intro | omega | (rw [hrl]; omega) | (exact ⟨by omega, by omega⟩) | (simp only [List.length_append]; omega) | (exact ⟨by omega, Nat.le_of_ble_eq_true rfl⟩)); exact fun _ _ _ h => h; (iterate 6 rfl); kernel_rfl; kernel_rfl) | (apply ARegH.go) | (apply ARegK.fin; kernel_rfl) | (apply ARegK.pureX; rfl; (apply pure_idxG; (iterate 7 rfl); (first | omega | (rw [hrl]; omega) | (exact ⟨by omega, by omega⟩) | (simp only [List.length_append]; omega) | (exact ⟨by omega, Nat.le_of_ble_eq_true rfl⟩)); exact g1); exact fun _ _ _ h => h; (iterate 6 rfl); kernel_rfl; kernel_rfl) | (apply ARegK.pureX; rfl; (apply PureTo.q true; rfl; rfl; first | exact True.intro | omega | (rw [hrl]; omega) | (exact ⟨by omega, by omega⟩) | (simp only [List.length_append]; omega) | (exact ⟨by omega, Nat.le_of_ble_eq_true rfl⟩)); exact fun _ _ _ h => h; (iterate 6 rfl); kernel_rfl; kernel_rfl) | (apply ARegK.call (rp); (iterate 8 rfl); kernel_rfl; rfl; rfl; rfl; try simp only [names, putH, AV.ren, AV.renL, AObj.ren, nh, Nat.reduceAdd, Nat.reduceSub]) | (apply ARegK.call (k2); (iterate 8 rfl); kernel_rfl; rfl; rfl; rfl; try simp only [names, putH, AV.ren, AV.renL, AObj.ren, nh, Nat.reduceAdd, Nat.reduceSub]) | (exact AGo.mid0) | apply AGo.seq | apply AGo.block | apply AGo.blk | apply AGo.skip | apply AGo.nil | (apply AGo.region; rfl) | (apply AGo.q true; rfl; rfl; rfl; rfl; first | exact True.intro | omega | (simp only [Int.toNat_natCast, Int.reduceToNat, IntKind.bits]; omega) | (rw [hrl]; omega) | (exact ⟨by omega, by omega⟩) | (simp only [List.length_append]; omega) | (exact ⟨by omega, Nat.le_of_ble_eq_true rfl⟩)) | (apply AGo.callP (rp); (iterate 6 rfl)) | (apply AGo.callP (k2); (iterate 6 rfl)) | (apply AGo.condDT; rfl; first | omega | rfl) | (apply AGo.condDF; rfl; omega) | (apply AGo.box; (iterate 6 rfl); simp only [nm, Nat.reduceAdd, spliceA, AV.cells, D.cells]) | (apply AGo.cBT; rfl; first | (simp only [bT]; omega) | (exact hd)) | (apply AGo.cBF; rfl; first | (simp only [bF]; omega) | exact ndF rfl | (exact hd)) | (apply AGo.buildSlice; (iterate 11 rfl)) | intro _ | (apply AGo.retN; rfl; rfl; rfl; rfl) | (apply AGo.outL; rfl; rfl))
           rw [e1, e2])
        | (have rp := hdOut_no (n := n) (i := i) (out := O) hd
           rw [if_neg (by rw [hd]; decide)] at eF
           repeat' (first | (apply AGo.opx; (apply quiet_idxG; (iterate 7 rfl); (first | omega | (rw [hrl]; omega)); exact g1); rfl; rfl; rfl) | apply AGo.seq | apply AGo.block | apply AGo.blk | apply AGo.skip | apply AGo.nil | (apply AGo.region; rfl) | (apply AGo.q true; rfl; rfl; rfl; rfl; first | exact True.intro | omega | (simp only [Int.toNat_natCast, Int.reduceToNat, IntKind.bits]; omega) | (rw [hrl]; omega)) | (apply AGo.condDT; rfl; first | omega | rfl) | (apply AGo.condDF; rfl; omega) | (apply AGo.box; (iterate 6 rfl); simp only [nm, Nat.reduceAdd, spliceA, AV.cells, D.cells]) | (apply AGo.cBT; rfl; first | (simp only [bT]; omega) | (exact hd)) | (apply AGo.cBF; rfl; first | (simp only [bF]; omega) | exact ndF rfl | (exact hd)) | (apply AGo.buildSlice; (iterate 11 rfl)) | intro _ | (apply AGo.retN; rfl; rfl; rfl; rfl) | (apply AGo.outL; rfl; rfl))
           rw [← eF, ← rp])
    all_goals
      generalize hHO : headOut n i r O = Q at *
      refine AGo.weak (env' := [(10, I ((0 : Nat) : Int)), (9, .d (.sl 18 (celsD r.cells))), (8, I (i : Int)), (7, I F1), (6, .own 2 (vD M) 1), (5, S Q), (3, .ptr 0 0), (0, I (n : Int))]) ⟨rfl, rfl, rfl, rfl, rfl, rfl, rfl, rfl, trivial⟩ ?_
      refine AGo.loop (fun m env H => ∃ k : Nat, m = r.cells.length - k ∧ k ≤ r.cells.length ∧ env = [(10, I (k : Int)), (9, .d (.sl 18 (celsD r.cells))), (8, I (i : Int)), (7, I F1), (6, .own 2 (vD (M ++ mvs (r.cells.take k))) 1), (5, S (Q ++ cellsOut h.inter (fA h.fmt) F1 M (r.cells.take k))), (3, .ptr 0 0), (0, I (n : Int))] ∧ H = [.cells (shA h (rsD rs) z), .front 51 2 (vD (M ++ mvs (r.cells.take k))).length]) r.cells.length
        ⟨0, rfl, by omega, by rw [c0, m00, List.append_nil, List.append_nil], by first | (rw [m00, List.append_nil]; done) | (rw [m00, List.append_nil]; rfl)⟩ ?_
      rintro m env H ⟨k, rfl, hk, rfl, rfl⟩
      rcases Nat.lt_or_ge k r.cells.length with hlt2 | hge2
      · obtain ⟨c, hc2⟩ : ∃ c, r.cells[k]? = some c := ⟨_, List.getElem?_eq_getElem hlt2⟩
        have g2 := celsD_get hc2
        have okc := hrc c (List.mem_of_getElem? hc2)
        have hrc2 := hcells c (List.mem_of_getElem? hc2)
        have hfk := (hcf k).2
        have hkl : (r.cells.take k).length = k := by rw [List.length_take]; omega
        rw [hkl] at hfk
        have hQl := ho.2
        have hvk : VecsI (M ++ mvs (r.cells.take k)) := fun p hp => by
          rcases List.mem_append.1 hp with hp | hp
          · exact hvI p hp
          · exact vecs_I (fun c hc => hrc c (List.mem_of_mem_take hc)) p hp
        have hvl : (M ++ mvs (r.cells.take k)).length ≤ 1000000 := by rw [List.length_append, mvs_len, hkl]; omega
        have hvl2 := vD_len (M ++ mvs (r.cells.take k))
        obtain ⟨i1, i2⟩ := hvk.of (fA h.fmt) F1
        have ro := rof_c (gl := gl) (M ++ mvs (r.cells.take k)) (fA h.fmt) F1 (by omega) hvl
        have rc := Co.rcrow_c (gl := gl) h.inter (ofV (M ++ mvs (r.cells.take k)) (fA h.fmt) F1).1 (ofV (M ++ mvs (r.cells.take k)) (fA h.fmt) F1).2 c okc i1 i2 hrc2
        rw [show putRow [] h.inter (ofV (M ++ mvs (r.cells.take k)) (fA h.fmt) F1).1 (ofV (M ++ mvs (r.cells.take k)) (fA h.fmt) F1).2 c = cellRow h.inter (fA h.fmt) F1 (M ++ mvs (r.cells.take k)) c by unfold cellRow; rfl] at rc
        have hcr := (cellRow_fine (A := fA h.fmt) (F := F1) (vs := M ++ mvs (r.cells.take k)) hrc2).2
        have eT : Q ++ cellsOut h.inter (fA h.fmt) F1 M (r.cells.take k) ++ cellRow h.inter (fA h.fmt) F1 (M ++ mvs (r.cells.take k)) c = Q ++ cellsOut h.inter (fA h.fmt) F1 M (r.cells.take (k + 1)) := by rw [cellsOut_take _ _ _ _ hc2]; simp only [List.append_assoc]
        have eV : vD (M ++ mvs (r.cells.take (k + 1))) = vD (M ++ mvs (r.cells.take k)) ++ [pD (mvP c)] := by rw [mvs_take hc2, ← List.append_assoc, vD_add]
        repeat' (first | (apply AGo.opx; (apply quiet_idxG; (iterate 7 rfl); (first | omega | (rw [hm]; omega) | (simp only [List.length_append]; omega) | (rw [hvl2]; omega)); exact g2); rfl; rfl; rfl) | (apply AGo.drawY [0, 1, 2, 3, 4, 5, 6, 7, 8, 9, 10, 11, 12, 13, 14, 15] 16 16; rfl) | (apply ARegH.pureX; rfl; (apply pure_idxG; (iterate 7 rfl); (first | omega | (rw [hm]; omega) | (simp only [List.length_append]; omega) | (rw [hvl2]; omega)); exact g2); exact fun _ _ _ h => h; (iterate 6 rfl); kernel_rfl; kernel_rfl) | (apply ARegH.pureX; rfl; (apply PureTo.q true; rfl; rfl; first | exact True.intro | omega | (rw [hm]; omega) | (simp only [List.length_append]; omega) | (rw [hvl2]; omega)); exact fun _ _ _ h => h; (iterate 6 rfl); kernel_rfl; kernel_rfl) | (apply ARegH.load; rfl; rfl; (first | exact True.intro | omega | (rw [hm]; omega) | (simp only [List.length_append]; omega) | (rw [hvl2]; omega)); exact fun _ _ _ h => h; (iterate 6 rfl); kernel_rfl; kernel_rfl) | (apply ARegH.go) | (apply ARegK.fin; kernel_rfl) | (apply ARegK.pureX; rfl; (apply pure_idxG; (iterate 7 rfl); (first | omega | (rw [hm]; omega) | (simp only [List.length_append]; omega) | (rw [hvl2]; omega)); exact g2); exact fun _ _ _ h => h; (iterate 6 rfl); kernel_rfl; kernel_rfl) | (apply ARegK.pureX; rfl; (apply PureTo.q true; rfl; rfl; first | exact True.intro | omega | (rw [hm]; omega) | (simp only [List.length_append]; omega) | (rw [hvl2]; omega)); exact fun _ _ _ h => h; (iterate 6 rfl); kernel_rfl; kernel_rfl) | (apply ARegK.call (k1); (iterate 8 rfl); kernel_rfl; rfl; rfl; rfl; try simp only [names, putH, AV.ren, AV.renL, AObj.ren, nh, Nat.reduceAdd, Nat.reduceSub]) | (apply ARegK.call (rc); (iterate 8 rfl); kernel_rfl; rfl; rfl; rfl; try simp only [names, putH, AV.ren, AV.renL, AObj.ren, nh, Nat.reduceAdd, Nat.reduceSub]) | (apply ARegK.call ( ro); (iterate 8 rfl); kernel_rfl; rfl; rfl; rfl; try simp only [names, putH, AV.ren, AV.renL, AObj.ren, nh, Nat.reduceAdd, Nat.reduceSub]) | (exact AGo.mid0) | (apply AGo.append; (iterate 11 rfl); (first | rfl | (simp only [List.length_append, List.length_map, List.length_cons, List.length_nil]; omega)); (first | (simp only [List.length_append, List.length_map, List.length_cons, List.length_nil]; omega) | (rw [hm]; omega) | (simp only [List.length_append]; omega) | (rw [hvl2]; omega)); simp only [List.set_cons_zero, List.set_cons_succ]) | apply AGo.seq | apply AGo.block | apply AGo.blk | apply AGo.skip | apply AGo.nil | (apply AGo.region; rfl) | (apply AGo.q true; rfl; rfl; rfl; rfl; first | exact True.intro | omega | (simp only [Int.toNat_natCast, Int.reduceToNat, IntKind.bits]; omega) | (rw [hm]; omega) | (simp only [List.length_append]; omega) | (rw [hvl2]; omega)) | (apply AGo.callP (k1); (iterate 6 rfl)) | (apply AGo.callP (rc); (iterate 6 rfl)) | (apply AGo.condDT; rfl; first | omega | rfl) | (apply AGo.condDF; rfl; omega) | (apply AGo.box; (iterate 6 rfl); simp only [nm, Nat.reduceAdd, spliceA, AV.cells, D.cells]) | (apply AGo.cBT; rfl; first | (simp only [bT]; omega)) | (apply AGo.cBF; rfl; first | (simp only [bF]; omega) | exact ndF rfl) | (apply AGo.buildSlice; (iterate 11 rfl)) | intro _ | (apply AGo.retN; rfl; rfl; rfl; rfl) | (apply AGo.outL; rfl; rfl))
        all_goals first
          | exact AGo.round [(10, I ((k + 1 : Nat) : Int)), (9, .d (.sl 18 (celsD r.cells))), (8, I (i : Int)), (7, I F1), (6, .own 2 (vD (M ++ mvs (r.cells.take (k + 1)))) 1), (5, S (Q ++ cellsOut h.inter (fA h.fmt) F1 M (r.cells.take (k + 1)))), (3, .ptr 0 0), (0, I (n : Int))] (r.cells.length - (k + 1)) (by omega) ⟨rfl, rfl, rfl, rfl, by rw [eV]; rfl, by rw [← eT]; rfl, rfl, rfl, trivial⟩ ⟨k + 1, rfl, hlt2, rfl, by first | (rw [eV]; done) | (rw [eV]; rfl)⟩
          | (exfalso; omega)
          | trace_state
      · obtain rfl : k = r.cells.length := by omega
        rw [List.take_length]
        repeat' (first | apply AGo.seq | apply AGo.block | apply AGo.blk | apply AGo.skip | apply AGo.nil | (apply AGo.region; rfl) | (apply AGo.q true; rfl; rfl; rfl; rfl; first | exact True.intro | omega | (simp only [Int.toNat_natCast, Int.reduceToNat, IntKind.bits]; omega)) | (apply AGo.condDT; rfl; first | omega | rfl) | (apply AGo.condDF; rfl; omega) | (apply AGo.box; (iterate 6 rfl); simp only [nm, Nat.reduceAdd, spliceA, AV.cells, D.cells]) | (apply AGo.cBT; rfl; first | (simp only [bT]; omega)) | (apply AGo.cBF; rfl; first | (simp only [bF]; omega) | exact ndF rfl) | (apply AGo.buildSlice; (iterate 11 rfl)) | intro _ | (apply AGo.retN; rfl; rfl; rfl; rfl) | (apply AGo.outL; rfl; rfl))
        all_goals first
          | exact AGo.round [(8, I ((i + 1 : Nat) : Int)), (7, I (firstS (fL h.fmt) rs (i + 1))), (6, .own 2 (vD (mvs (cellsOf (rs.take (i + 1))))) 1), (5, S (outS h rs n (i + 1))), (3, .ptr 0 0), (0, I (n : Int))] (rs.length - (i + 1)) (by omega) ⟨rfl, by rw [hF1]; rfl, by rw [eM]; rfl, by rw [eO]; rfl, rfl, rfl, trivial⟩ ⟨i + 1, rfl, hlt, rfl, by first | (rw [eM]; done) | (rw [eM]; rfl)⟩
          | (exfalso; omega)
          | trace_state
  · obtain rfl : i = rs.length := by omega
    have fo := hof rs.length (Nat.le_refl _)
    rw [List.take_length] at fo
    have hrl18 : rs.length ≤ 18 := by omega
    obtain ⟨N, hN⟩ := Int.eq_ofNat_of_zero_le hz.1
    have hso : outS h rs n rs.length ++ zs (padN (n + (outS h rs n rs.length).length)) ++ zs (8 * N) = sheetOut h rs z n := by
      unfold sheetOut; rw [hN, Int.toNat_natCast]
    rw [← hso]
    have fol := fo.2
    generalize outS h rs n rs.length = O at *
    obtain ⟨p1, p2⟩ := padN_ok (n + O.length)
    generalize hP : padN (n + O.length) = P at *
    have zz : O ++ zs 0 = O := by unfold zs; simp
    repeat' (first | apply AGo.seq | apply AGo.block | apply AGo.blk | apply AGo.skip | apply AGo.nil | (apply AGo.region; rfl) | (apply AGo.q true; rfl; rfl; rfl; rfl; first | exact True.intro | omega | (simp only [Int.toNat_natCast, Int.reduceToNat, IntKind.bits]; omega)) | (apply AGo.condDT; rfl; first | omega | rfl) | (apply AGo.condDF; rfl; omega) | (apply AGo.box; (iterate 6 rfl); simp only [nm, Nat.reduceAdd, spliceA, AV.cells, D.cells]) | (apply AGo.cBT; rfl; first | (simp only [bT]; omega)) | (apply AGo.cBF; rfl; first | (simp only [bF]; omega) | exact ndF rfl) | (apply AGo.buildSlice; (iterate 11 rfl)) | intro _ | (apply AGo.retN; rfl; rfl; rfl; rfl) | (apply AGo.outL; rfl; rfl))
    refine AGo.weak (env' := [(5, S (O ++ zs 0)), (3, .ptr 0 0), (0, I (n : Int))]) ⟨by rw [zz]; rfl, rfl, rfl, trivial⟩ ?_
    refine AGo.loop (fun m env H => ∃ k : Nat, m = P - k ∧ k ≤ P ∧ env = [(5, S (O ++ zs k)), (3, .ptr 0 0), (0, I (n : Int))] ∧ ∃ F, H = [.cells (shA h (rsD rs) z), F]) P
      ⟨0, rfl, by omega, rfl, _, rfl⟩ ?_
    rintro m env H ⟨k, rfl, hk, rfl, F, rfl⟩
    have kz : (O ++ zs k).length = O.length + k := by unfold zs; simp
    rcases Nat.lt_or_ge k P with hlt | hge2
    · have hz := zs_succ k
      have k1 : decide (((n : Int) + ((O ++ zs k).length : Int)) % 8 = 0) = false := decide_eq_false (by rw [kz]; unfold padN at hP; omega)
      repeat' (first | apply AGo.seq | apply AGo.block | apply AGo.blk | apply AGo.skip | apply AGo.nil | (apply AGo.region; rfl) | (apply AGo.q true; rfl; rfl; rfl; rfl; first | exact True.intro | omega | (simp only [Int.toNat_natCast, Int.reduceToNat, IntKind.bits]; omega) | (rw [kz]; omega) | (simp only [List.length_append, List.length_cons, List.length_nil] at kz ⊢; omega)) | (apply AGo.condDT; rfl; first | omega | rfl) | (apply AGo.condDF; rfl; omega) | (apply AGo.box; (iterate 6 rfl); simp only [nm, Nat.reduceAdd, spliceA, AV.cells, D.cells]) | (apply AGo.cBT; rfl; first | (simp only [bT]; omega)) | (apply AGo.cBF; rfl; first | (simp only [bF]; omega) | exact ndF rfl) | (apply AGo.buildSlice; (iterate 11 rfl)) | intro _ | (apply AGo.retN; rfl; rfl; rfl; rfl) | (apply AGo.outL; rfl; rfl))
      all_goals first | exact AGo.round [(5, S (O ++ zs (k + 1))), (3, .ptr 0 0), (0, I (n : Int))] (P - (k + 1)) (by omega) ⟨by rw [hz, ← List.append_assoc]; rfl, rfl, rfl, trivial⟩ ⟨k + 1, rfl, hlt, rfl, F, rfl⟩ | (exfalso; unfold padN at *; omega) | trace_state
    · obtain rfl : k = P := by omega
      have k1 : decide (((n : Int) + ((O ++ zs k).length : Int)) % 8 = 0) = true := decide_eq_true (by rw [kz]; omega)
      have e8 : (8 * z).toNat = 8 * N := by omega
      have kl : (nz (8 * N) 0).length = 8 * N := nz_len (Nat.zero_le _)
      have kO : (O ++ zs k).length = O.length + k := kz
      repeat' (first | apply AGo.seq | apply AGo.block | apply AGo.blk | apply AGo.skip | apply AGo.nil | (apply AGo.region; rfl) | (apply AGo.q true; rfl; rfl; rfl; rfl; first | exact True.intro | omega | (simp only [Int.toNat_natCast, Int.reduceToNat, IntKind.bits]; omega) | (refine ⟨⟨?_, ?_⟩, ?_, ?_⟩ <;> omega)) | (apply AGo.condDT; rfl; first | omega | rfl) | (apply AGo.condDF; rfl; omega) | (apply AGo.box; (iterate 6 rfl); simp only [nm, Nat.reduceAdd, spliceA, AV.cells, D.cells]) | (apply AGo.cBT; rfl; first | (simp only [bT]; omega)) | (apply AGo.cBF; rfl; first | (simp only [bF]; omega) | exact ndF rfl) | (apply AGo.buildSlice; (iterate 11 rfl)) | (apply AGo.makeM; (iterate 9 rfl); (first | decide | exact Nat.le_of_ble_eq_true rfl | (dsimp only; omega) | decide +kernel | (refine ⟨⟨?_, ?_⟩, ?_, ?_⟩ <;> omega)); simp only [Int.reduceNeg, Int.reduceAdd, Int.reduceSub, Int.reduceMul, Int.reduceMod, Int.reduceToNat, List.replicate_succ, List.replicate_zero, List.length_nil, List.length_cons, Nat.reduceAdd, List.nil_append, List.cons_append]) | (apply AGo.storeM; (iterate 11 rfl); (first | rfl | (simp only [List.length_append, List.length_map, List.length_set, List.length_replicate, List.length_cons, List.length_nil]; omega) | (refine ⟨⟨?_, ?_⟩, ?_, ?_⟩ <;> omega)); rfl; (first | decide | exact Nat.le_of_ble_eq_true rfl | (dsimp only; omega) | decide +kernel | (refine ⟨⟨?_, ?_⟩, ?_, ?_⟩ <;> omega)); simp only [List.set_cons_zero, List.set_cons_succ]) | (apply AGo.opx; (first | (apply quiet_lenM; (iterate 5 rfl); (first | rfl | (simp only [List.length_append, List.length_map, List.length_set, List.length_replicate, List.length_cons, List.length_nil]; omega) | (refine ⟨⟨?_, ?_⟩, ?_, ?_⟩ <;> omega))) | (apply quiet_idxM; (iterate 8 rfl); (first | rfl | (simp only [List.length_append, List.length_map, List.length_set, List.length_replicate, List.length_cons, List.length_nil]; omega) | (refine ⟨⟨?_, ?_⟩, ?_, ?_⟩ <;> omega)); (first | decide | exact Nat.le_of_ble_eq_true rfl | (dsimp only; omega) | decide +kernel | (refine ⟨⟨?_, ?_⟩, ?_, ?_⟩ <;> omega))) | (apply quiet_strM; (iterate 9 rfl); (first | rfl | (simp only [List.length_append, List.length_map, List.length_set, List.length_replicate, List.length_cons, List.length_nil]; omega) | (refine ⟨⟨?_, ?_⟩, ?_, ?_⟩ <;> omega)); rfl)); rfl; rfl; rfl) | intro _ | (apply AGo.retN; rfl; rfl; rfl; rfl) | (apply AGo.outL; rfl; rfl))
      rw [e8]
      generalize hW : O ++ zs k = W at *
      refine AGo.weak (env' := [(12, I ((0 : Nat) : Int)), (11, .ms 2 (8 * N)), (5, S W)]) ⟨rfl, rfl, rfl, trivial⟩ ?_
      refine AGo.loop (fun m env H => ∃ k2 : Nat, m = 8 * N - k2 ∧ k2 ≤ 8 * N ∧ env = [(12, I (k2 : Int)), (11, .ms 2 (8 * N)), (5, S W)] ∧ H = [.cells (shA h (rsD rs) z), F, .arr 5 1 (nz (8 * N) k2)]) (8 * N)
        ⟨0, rfl, by omega, rfl, by rw [nz_0]; rfl⟩ ?_
      rintro m env H ⟨k2, rfl, hk2, rfl, rfl⟩
      have nl := nz_len hk2
      rcases Nat.lt_or_ge k2 (8 * N) with hlt3 | hge3
      · have ng := nz_get hlt3
        have ns := nz_set hlt3
        have e2 : (k2 : Int).toNat = k2 := Int.toNat_natCast k2
        rw [← e2] at ng ns
        repeat' (first | apply AGo.seq | apply AGo.block | apply AGo.blk | apply AGo.skip | apply AGo.nil | (apply AGo.region; rfl) | (apply AGo.q true; rfl; rfl; rfl; rfl; first | exact True.intro | omega | (simp only [Int.toNat_natCast, Int.reduceToNat, IntKind.bits]; omega) | (exact nl) | (rw [nl]; omega) | (omega)) | (apply AGo.condDT; rfl; first | omega | rfl) | (apply AGo.condDF; rfl; omega) | (apply AGo.box; (iterate 6 rfl); simp only [nm, Nat.reduceAdd, spliceA, AV.cells, D.cells]) | (apply AGo.cBT; rfl; first | (simp only [bT]; omega)) | (apply AGo.cBF; rfl; first | (simp only [bF]; omega) | exact ndF rfl) | (apply AGo.buildSlice; (iterate 11 rfl)) | (apply AGo.makeM; (iterate 9 rfl); (first | decide | exact Nat.le_of_ble_eq_true rfl | (dsimp only; omega) | decide +kernel | (exact nl) | (rw [nl]; omega) | (omega)); simp only [Int.reduceNeg, Int.reduceAdd, Int.reduceSub, Int.reduceMul, Int.reduceMod, Int.reduceToNat, List.replicate_succ, List.replicate_zero, List.length_nil, List.length_cons, Nat.reduceAdd, List.nil_append, List.cons_append]) | (apply AGo.storeM; (iterate 11 rfl); (first | rfl | (simp only [List.length_append, List.length_map, List.length_set, List.length_replicate, List.length_cons, List.length_nil]; omega) | (exact nl) | (rw [nl]; omega) | (omega)); (first | rfl | exact ng); (first | decide | exact Nat.le_of_ble_eq_true rfl | (dsimp only; omega) | decide +kernel | (exact nl) | (rw [nl]; omega) | (omega)); simp only [List.set_cons_zero, List.set_cons_succ]) | (apply AGo.opx; (first | (apply quiet_lenM; (iterate 5 rfl); (first | rfl | (simp only [List.length_append, List.length_map, List.length_set, List.length_replicate, List.length_cons, List.length_nil]; omega) | (exact nl) | (rw [nl]; omega) | (omega))) | (apply quiet_idxM; (iterate 8 rfl); (first | rfl | (simp only [List.length_append, List.length_map, List.length_set, List.length_replicate, List.length_cons, List.length_nil]; omega) | (exact nl) | (rw [nl]; omega) | (omega)); (first | decide | exact Nat.le_of_ble_eq_true rfl | (dsimp only; omega) | decide +kernel | (exact nl) | (rw [nl]; omega) | (omega))) | (apply quiet_strM; (iterate 9 rfl); (first | rfl | (simp only [List.length_append, List.length_map, List.length_set, List.length_replicate, List.length_cons, List.length_nil]; omega) | (exact nl) | (rw [nl]; omega) | (omega)); rfl)); rfl; rfl; rfl) | intro _ | (apply AGo.retN; rfl; rfl; rfl; rfl) | (apply AGo.outL; rfl; rfl))
        all_goals first
          | exact AGo.round [(12, I ((k2 + 1 : Nat) : Int)), (11, .ms 2 (8 * N)), (5, S W)] (8 * N - (k2 + 1)) (by omega) ⟨rfl, rfl, rfl, trivial⟩ ⟨k2 + 1, rfl, hlt3, rfl, by rw [← e2, ← ns]; rfl⟩
          | (exfalso; omega)
          | trace_state
      · obtain rfl : k2 = 8 * N := by omega
        have nn := nz_n (8 * N)
        have hzl := (zs_fine (8 * N)).2
        rw [nn] at nl ⊢
        repeat' (first | apply AGo.seq | apply AGo.block | apply AGo.blk | apply AGo.skip | apply AGo.nil | (apply AGo.region; rfl) | (apply AGo.q true; rfl; rfl; rfl; rfl; first | exact True.intro | omega | (simp only [Int.toNat_natCast, Int.reduceToNat, IntKind.bits]; omega) | (exact nl) | (simp only [List.length_append]; omega)) | (apply AGo.condDT; rfl; first | omega | rfl) | (apply AGo.condDF; rfl; omega) | (apply AGo.box; (iterate 6 rfl); simp only [nm, Nat.reduceAdd, spliceA, AV.cells, D.cells]) | (apply AGo.cBT; rfl; first | (simp only [bT]; omega)) | (apply AGo.cBF; rfl; first | (simp only [bF]; omega) | exact ndF rfl) | (apply AGo.buildSlice; (iterate 11 rfl)) | (apply AGo.makeM; (iterate 9 rfl); (first | decide | exact Nat.le_of_ble_eq_true rfl | (dsimp only; omega) | decide +kernel | (exact nl) | (simp only [List.length_append]; omega)); simp only [Int.reduceNeg, Int.reduceAdd, Int.reduceSub, Int.reduceMul, Int.reduceMod, Int.reduceToNat, List.replicate_succ, List.replicate_zero, List.length_nil, List.length_cons, Nat.reduceAdd, List.nil_append, List.cons_append]) | (apply AGo.storeM; (iterate 11 rfl); (first | rfl | (simp only [List.length_append, List.length_map, List.length_set, List.length_replicate, List.length_cons, List.length_nil]; omega) | (exact nl) | (simp only [List.length_append]; omega)); rfl; (first | decide | exact Nat.le_of_ble_eq_true rfl | (dsimp only; omega) | decide +kernel | (exact nl) | (simp only [List.length_append]; omega)); simp only [List.set_cons_zero, List.set_cons_succ]) | (apply AGo.opx; (first | (apply quiet_lenM; (iterate 5 rfl); (first | rfl | (simp only [List.length_append, List.length_map, List.length_set, List.length_replicate, List.length_cons, List.length_nil]; omega) | (exact nl) | (simp only [List.length_append]; omega))) | (apply quiet_idxM; (iterate 8 rfl); (first | rfl | (simp only [List.length_append, List.length_map, List.length_set, List.length_replicate, List.length_cons, List.length_nil]; omega) | (exact nl) | (simp only [List.length_append]; omega)); (first | decide | exact Nat.le_of_ble_eq_true rfl | (dsimp only; omega) | decide +kernel | (exact nl) | (simp only [List.length_append]; omega))) | (apply quiet_strM; (iterate 9 rfl); (first | rfl | (simp only [List.length_append, List.length_map, List.length_set, List.length_replicate, List.length_cons, List.length_nil]; omega) | (exact nl) | (simp only [List.length_append]; omega)); rfl)); rfl; rfl; rfl) | intro _ | (apply AGo.retN; rfl; rfl; rfl; rfl) | (apply AGo.outL; rfl; rfl))
        all_goals first | exact ⟨rfl, rfl⟩ | (exfalso; omega) | trace_state
end Go.Proofs.YtocmdllfdeiceaaGreatDoor.Av.Sh
