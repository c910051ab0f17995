/- Sheets that are dropped: Bits. Sheets that are dropped: what they are, how long they are. Sheets that are dropped: blank.Of. Sheets that are dropped: the document's. Sheets that are dropped: what is the same. -/
import Derived.Test.YtdihjnifoikbeaaDoorPs1
import Derived.Test.YtdihjnifoikbeaaDoorSh26
import Derived.Test.YtdihjnifoikbeaaDoorPn4
/- Sheets that are dropped: Bits. -/
set_option linter.unusedSimpArgs false
set_option linter.unusedVariables false
set_option maxRecDepth 100000
namespace Go.Proofs.YtdihjnifoikbeaaDoor.Av.Sh
open Go Bt
attribute [local irreducible] AGo ACalls
variable {gl : List (Nat × List D)}
def clS (n : Int) : Int := if n < 0 then 0 else if 8 < n then 8 else n
def blB (f n : Int) : Int := if fA f = 0 then 0 else (50 + 9 * clS n + fA f * fD f + 7) / 8 * 8
theorem bclip_c (n : Int) : ACalls (cxg gl) 35 [I n, I 0, I 8] [] (fun r H => r = I (clS n) ∧ H = []) := by
  unfold clS
  by_cases h1 : n < 0
  · rw [if_pos h1]
    refine ACalls.enter Tryd.func35 rfl Tryd.ntmps35 (by kernel_rfl) rfl ?_; simp only [argEnv, Nat.reduceAdd, List.length_nil, List.length_cons]
    repeat' (first | apply AGo.seq | apply AGo.block | apply AGo.blk | apply AGo.skip | apply AGo.nil | (apply AGo.region; rfl) | (apply AGo.q true; rfl; rfl; rfl; rfl; first | exact True.intro | omega | (simp only [Int.toNat_natCast, Int.reduceToNat, IntKind.bits]; omega)) | (apply AGo.condDT; rfl; first | omega | rfl) | (apply AGo.condDF; rfl; omega) | intro _ | (apply AGo.retN; rfl; rfl; rfl; rfl))
    all_goals first | exact ⟨rfl, rfl⟩ | (exfalso; omega) | trace_state
  · rw [if_neg h1]
    by_cases h2 : 8 < n
    · rw [if_pos h2]
      refine ACalls.enter Tryd.func35 rfl Tryd.ntmps35 (by kernel_rfl) rfl ?_; simp only [argEnv, Nat.reduceAdd, List.length_nil, List.length_cons]
      repeat' (first | apply AGo.seq | apply AGo.block | apply AGo.blk | apply AGo.skip | apply AGo.nil | (apply AGo.region; rfl) | (apply AGo.q true; rfl; rfl; rfl; rfl; first | exact True.intro | omega | (simp only [Int.toNat_natCast, Int.reduceToNat, IntKind.bits]; omega)) | (apply AGo.condDT; rfl; first | omega | rfl) | (apply AGo.condDF; rfl; omega) | intro _ | (apply AGo.retN; rfl; rfl; rfl; rfl))
      all_goals first | exact ⟨rfl, rfl⟩ | (exfalso; omega) | trace_state
    · rw [if_neg h2]
      refine ACalls.enter Tryd.func35 rfl Tryd.ntmps35 (by kernel_rfl) rfl ?_; simp only [argEnv, Nat.reduceAdd, List.length_nil, List.length_cons]
      repeat' (first | apply AGo.seq | apply AGo.block | apply AGo.blk | apply AGo.skip | apply AGo.nil | (apply AGo.region; rfl) | (apply AGo.q true; rfl; rfl; rfl; rfl; first | exact True.intro | omega | (simp only [Int.toNat_natCast, Int.reduceToNat, IntKind.bits]; omega)) | (apply AGo.condDT; rfl; first | omega | rfl) | (apply AGo.condDF; rfl; omega) | intro _ | (apply AGo.retN; rfl; rfl; rfl; rfl))
      all_goals first | exact ⟨rfl, rfl⟩ | (exfalso; omega) | trace_state
theorem clS_bd (n : Int) : 0 ≤ clS n ∧ clS n ≤ 8 := by unfold clS; split <;> (try split) <;> omega
theorem fAD_bd (f : Int) : 0 ≤ fA f * fD f ∧ fA f * fD f ≤ 10000 ∧ (fA f = 0 → fA f * fD f = 0) ∧ (fA f ≠ 0 → fA f * fD f ≠ 0) ∧ 0 ≤ fA f ∧ fA f ≤ 100 ∧ 0 ≤ fD f ∧ fD f ≤ 100 := by
  rcases fmts f with rfl | rfl | rfl | rfl | rfl | rfl | h
  rotate_right
  · obtain ⟨e1, e2, e3, e4, e5⟩ := f_no h
    unfold fA fD; rw [e1, e2]; decide
  all_goals decide
set_option maxHeartbeats 4000000 in
theorem blbits_c (f n : Int) : ACalls (cxg gl) 10 [I f, I n] [] (fun r H => r = I (blB f n) ∧ H = []) := by
  have k1 := cells_c (gl := gl) f
  have cl := bclip_c (gl := gl) n
  have cb := clS_bd n
  obtain ⟨a1, a2, a3, a4, a5, a6, a7, a8⟩ := fAD_bd f
  unfold blB
  generalize hP : fA f * fD f = P at *
  generalize fA f = A at *
  generalize fD f = E at *
  generalize clS n = c at *
  have hm64 : -9223372036854775808 ≤ A * E ∧ A * E ≤ 9223372036854775807 := by omega
  by_cases hA : A = 0
  · rw [if_pos hA]
    subst hA
    refine ACalls.enter Tryd.func10 rfl Tryd.ntmps10 (by kernel_rfl) rfl ?_; simp only [argEnv, Nat.reduceAdd, List.length_nil, List.length_cons]
    repeat' (first | apply AGo.seq | apply AGo.skip | apply AGo.nil | (apply AGo.region; rfl) | (apply AGo.q true; rfl; rfl; rfl; rfl; first | exact True.intro | omega | (simp only [Int.toNat_natCast, Int.reduceToNat, IntKind.bits]; omega)) | (apply AGo.callP (k1); (iterate 6 rfl)) | (apply AGo.callP (cl); (iterate 6 rfl)) | (apply AGo.condDT; rfl; first | omega | rfl) | (apply AGo.condDF; rfl; omega) | intro _ | (apply AGo.retN; rfl; rfl; rfl; rfl))
    all_goals first | exact ⟨rfl, rfl⟩ | (exfalso; omega) | trace_state
  · rw [if_neg hA]
    refine ACalls.enter Tryd.func10 rfl Tryd.ntmps10 (by kernel_rfl) rfl ?_; simp only [argEnv, Nat.reduceAdd, List.length_nil, List.length_cons]
    repeat' (first | apply AGo.seq | apply AGo.skip | apply AGo.nil | (apply AGo.region; rfl) | (apply AGo.q true; rfl; rfl; rfl; rfl; first | exact True.intro | omega | (simp only [Int.toNat_natCast, Int.reduceToNat, IntKind.bits]; omega) | (exact hm64)) | (apply AGo.callP (k1); (iterate 6 rfl)) | (apply AGo.callP (cl); (iterate 6 rfl)) | (apply AGo.condDT; rfl; first | omega | rfl) | (apply AGo.condDF; rfl; omega) | intro _ | (apply AGo.retN; rfl; rfl; rfl; rfl))
    all_goals first | exact ⟨rfl, rfl⟩ | (exfalso; omega) | (refine ⟨?_, rfl⟩; rw [hP]; congr 3; omega) | trace_state
/-- the noughts that are lacking -/
def lackS (b : Int) : Nat := ((8 - b % 8) % 8).toNat
set_option maxHeartbeats 8000000 in
theorem rblbits_c (f n : Int) (hb : -9223372036854775808 ≤ f ∧ f ≤ 9223372036854775807) : ACalls (cxg gl) 11 [I f, I n] [] (fun r H => r = I (blB f n) ∧ H = []) := by
  have k1 := rmany_c (gl := gl) f hb
  rw [show fN f = fA f * fD f from rfl] at k1
  have cb := clS_bd n
  obtain ⟨a1, a2, a3, a4, a5, a6, a7, a8⟩ := fAD_bd f
  unfold blB
  generalize hP : fA f * fD f = P at *
  generalize fA f = A at *
  generalize fD f = E at *
  have hcl : clS n = if n < 0 then 0 else if 8 < n then 8 else n := rfl
  generalize clS n = c at *
  by_cases hA : A = 0
  · rw [if_pos hA]
    subst hA
    refine ACalls.enter Tryd.func11 rfl Tryd.ntmps11 (by kernel_rfl) rfl ?_; simp only [argEnv, Nat.reduceAdd, List.length_nil, List.length_cons]
    repeat' (first | apply AGo.seq | apply AGo.block | apply AGo.blk | apply AGo.skip | apply AGo.nil | (apply AGo.region; rfl) | (apply AGo.q true; rfl; rfl; rfl; rfl; first | exact True.intro | omega | (simp only [Int.toNat_natCast, Int.reduceToNat, IntKind.bits]; omega)) | (apply AGo.callP (k1); (iterate 6 rfl)) | (apply AGo.condDT; rfl; first | omega | rfl) | (apply AGo.condDF; rfl; omega) | (apply AGo.condF; rfl) | (apply AGo.unguard; rfl; rfl) | (apply AGo.gT; rfl; rfl; rfl; first | omega | rfl) | (apply AGo.gF; rfl; rfl; rfl; omega) | (apply AGo.cBT; rfl; first | (simp only [bT]; omega)) | (apply AGo.cBF; rfl; first | (simp only [bF]; omega) | exact ndF rfl) | (apply AGo.skipOp; rfl; rfl; rfl) | intro _ | (apply AGo.retN; rfl; rfl; rfl; rfl) | (apply AGo.outL; rfl; rfl))
    all_goals first | exact ⟨rfl, rfl⟩ | (exfalso; omega) | trace_state
  · rw [if_neg hA]
    have hP0 := a4 hA
    refine ACalls.enter Tryd.func11 rfl Tryd.ntmps11 (by kernel_rfl) rfl ?_; simp only [argEnv, Nat.reduceAdd, List.length_nil, List.length_cons]
    repeat' (first | apply AGo.seq | apply AGo.block | apply AGo.blk | apply AGo.skip | apply AGo.nil | (apply AGo.region; rfl) | (apply AGo.q true; rfl; rfl; rfl; rfl; first | exact True.intro | omega | (simp only [Int.toNat_natCast, Int.reduceToNat, IntKind.bits]; omega)) | (apply AGo.callP (k1); (iterate 6 rfl)) | (apply AGo.condDT; rfl; first | omega | rfl) | (apply AGo.condDF; rfl; omega) | (apply AGo.condF; rfl) | (apply AGo.unguard; rfl; rfl) | (apply AGo.gT; rfl; rfl; rfl; first | omega | rfl) | (apply AGo.gF; rfl; rfl; rfl; omega) | (apply AGo.cBT; rfl; first | (simp only [bT]; omega)) | (apply AGo.cBF; rfl; first | (simp only [bF]; omega) | exact ndF rfl) | (apply AGo.skipOp; rfl; rfl; rfl) | intro _ | (apply AGo.retN; rfl; rfl; rfl; rfl) | (apply AGo.outL; rfl; rfl))
    all_goals first | (exfalso; omega) | skip
    refine AGo.weak (env' := [(6, I ((0 : Nat) : Int)), (5, I (50 + P + 9 * ((0 : Nat) : Int))), (1, I n)]) ⟨rfl, congrArg I (by omega), rfl, trivial⟩ ?_
    refine AGo.loop (fun m env H => ∃ i : Nat, m = c.toNat - i ∧ (i : Int) ≤ c ∧ env = [(6, I (i : Int)), (5, I (50 + P + 9 * (i : Int))), (1, I n)] ∧ H = []) c.toNat
      ⟨0, rfl, by omega, rfl, rfl⟩ ?_
    rintro m env H ⟨i, rfl, hi, rfl, rfl⟩
    by_cases hlt : (i : Int) < c
    · have h1 : (i : Int) < n := by split at hcl <;> (try split at hcl) <;> omega
      have h2 : (i : Int) < 8 := by omega
      repeat' (first | apply AGo.seq | apply AGo.block | apply AGo.blk | apply AGo.skip | apply AGo.nil | (apply AGo.region; rfl) | (apply AGo.q true; rfl; rfl; rfl; rfl; first | exact True.intro | omega | (simp only [Int.toNat_natCast, Int.reduceToNat, IntKind.bits]; omega)) | (apply AGo.condDT; rfl; first | omega | rfl) | (apply AGo.condDF; rfl; omega) | (apply AGo.condF; rfl) | (apply AGo.unguard; rfl; rfl) | (apply AGo.gT; rfl; rfl; rfl; first | omega | rfl) | (apply AGo.gF; rfl; rfl; rfl; omega) | (apply AGo.cBT; rfl; first | (simp only [bT]; omega)) | (apply AGo.cBF; rfl; first | (simp only [bF]; omega) | exact ndF rfl) | (apply AGo.skipOp; rfl; rfl; rfl) | intro _ | (apply AGo.retN; rfl; rfl; rfl; rfl) | (apply AGo.outL; rfl; rfl))
      all_goals first
        | exact AGo.round [(6, I ((i + 1 : Nat) : Int)), (5, I (50 + P + 9 * ((i + 1 : Nat) : Int))), (1, I n)] (c.toNat - (i + 1)) (by omega) ⟨rfl, congrArg I (by omega), rfl, trivial⟩ ⟨i + 1, rfl, by omega, rfl, rfl⟩
        | (exfalso; omega) | trace_state
    · have hic : (i : Int) = c := by omega
      have h1 : ¬ ((i : Int) < n ∧ (i : Int) < 8) := by split at hcl <;> (try split at hcl) <;> omega
      rw [hic]
      by_cases hcn : c < n
      all_goals
        have hcn8 : ¬ (c < n ∧ c < 8) := by split at hcl <;> (try split at hcl) <;> omega
        repeat' (first | apply AGo.seq | apply AGo.block | apply AGo.blk | apply AGo.skip | apply AGo.nil | (apply AGo.region; rfl) | (apply AGo.q true; rfl; rfl; rfl; rfl; first | exact True.intro | omega | (simp only [Int.toNat_natCast, Int.reduceToNat, IntKind.bits]; omega)) | (apply AGo.condDT; rfl; first | omega | rfl) | (apply AGo.condDF; rfl; omega) | (apply AGo.condF; rfl) | (apply AGo.unguard; rfl; rfl) | (apply AGo.gT; rfl; rfl; rfl; first | omega | rfl) | (apply AGo.gF; rfl; rfl; rfl; omega) | (apply AGo.cBT; rfl; first | (simp only [bT]; omega)) | (apply AGo.cBF; rfl; first | (simp only [bF]; omega) | exact ndF rfl) | (apply AGo.skipOp; rfl; rfl; rfl) | intro _ | (apply AGo.retN; rfl; rfl; rfl; rfl) | (apply AGo.outL; rfl; rfl))
        all_goals first | (exfalso; omega) | skip
        generalize hb0 : 50 + P + 9 * c = b at *
        have hb1 : 0 ≤ b ∧ b ≤ 20000 := by omega
        refine AGo.weak (env' := [(5, I (b + ((0 : Nat) : Int)))]) ⟨congrArg I (by omega), trivial⟩ ?_
        refine AGo.loop (fun m env H => ∃ j : Nat, m = lackS b - j ∧ j ≤ lackS b ∧ env = [(5, I (b + (j : Int)))] ∧ H = []) (lackS b)
          ⟨0, rfl, by omega, rfl, rfl⟩ ?_
        rintro m env H ⟨j, rfl, hj, rfl, rfl⟩
        have hl : (lackS b : Int) = (8 - b % 8) % 8 := by unfold lackS; omega
        rcases Nat.lt_or_ge j (lackS b) with hj1 | hj1
        · repeat' (first | apply AGo.seq | apply AGo.block | apply AGo.blk | apply AGo.skip | apply AGo.nil | (apply AGo.region; rfl) | (apply AGo.q true; rfl; rfl; rfl; rfl; first | exact True.intro | omega | (simp only [Int.toNat_natCast, Int.reduceToNat, IntKind.bits]; omega) | (exact Int.le_refl _)) | (apply AGo.condDT; rfl; first | omega | rfl) | (apply AGo.condDF; rfl; omega) | (apply AGo.condF; rfl) | (apply AGo.unguard; rfl; rfl) | (apply AGo.gT; rfl; rfl; rfl; first | omega | rfl) | (apply AGo.gF; rfl; rfl; rfl; omega) | (apply AGo.cBT; rfl; first | (simp only [bT]; omega)) | (apply AGo.cBF; rfl; first | (simp only [bF]; omega) | exact ndF rfl) | (apply AGo.skipOp; rfl; rfl; rfl) | intro _ | (apply AGo.retN; rfl; rfl; rfl; rfl) | (apply AGo.outL; rfl; rfl))
          all_goals first
            | exact AGo.round [(5, I (b + ((j + 1 : Nat) : Int)))] (lackS b - (j + 1)) (by omega) ⟨congrArg I (by omega), trivial⟩ ⟨j + 1, rfl, by omega, rfl, rfl⟩
            | (exfalso; omega) | trace_state
        · repeat' (first | apply AGo.seq | apply AGo.block | apply AGo.blk | apply AGo.skip | apply AGo.nil | (apply AGo.region; rfl) | (apply AGo.q true; rfl; rfl; rfl; rfl; first | exact True.intro | omega | (simp only [Int.toNat_natCast, Int.reduceToNat, IntKind.bits]; omega)) | (apply AGo.condDT; rfl; first | omega | rfl) | (apply AGo.condDF; rfl; omega) | (apply AGo.condF; rfl) | (apply AGo.unguard; rfl; rfl) | (apply AGo.gT; rfl; rfl; rfl; first | omega | rfl) | (apply AGo.gF; rfl; rfl; rfl; omega) | (apply AGo.cBT; rfl; first | (simp only [bT]; omega)) | (apply AGo.cBF; rfl; first | (simp only [bF]; omega) | exact ndF rfl) | (apply AGo.skipOp; rfl; rfl; rfl) | intro _ | (apply AGo.retN; rfl; rfl; rfl; rfl) | (apply AGo.outL; rfl; rfl))
          all_goals first | exact ⟨congrArg I (by omega), rfl⟩ | (exfalso; omega) | trace_state
end Go.Proofs.YtdihjnifoikbeaaDoor.Av.Sh

/- Sheets that are dropped: what they are, how long they are. -/
set_option linter.unusedSimpArgs false
set_option linter.unusedVariables false
set_option maxRecDepth 100000
namespace Go.Proofs.YtdihjnifoikbeaaDoor.Av.Sh
open Go Bt Co Wr
def blankR (r : Rw) : Rw := ⟨false, 0, 0, List.replicate r.cells.length celL⟩
def blankS (rs : List Rw) : List Rw := rs.map blankR
theorem blank_len (rs : List Rw) : (blankS rs).length = rs.length := by simp [blankS]
theorem blank_get {rs : List Rw} {i : Nat} {r : Rw} (h : rs[i]? = some r) : (blankS rs)[i]? = some (blankR r) := by simp [blankS, h]
theorem blank_cells : ∀ rs : List Rw, cellsOf (blankS rs) = List.replicate (cellsOf rs).length celL
  | [] => rfl
  | r :: l => by
    have ih := blank_cells l
    have e1 : cellsOf (blankS (r :: l)) = List.replicate r.cells.length celL ++ cellsOf (blankS l) := rfl
    have e2 : cellsOf (r :: l) = r.cells ++ cellsOf l := rfl
    rw [e1, e2, ih, List.length_append, List.replicate_append_replicate]
theorem celL_right : rightS true celL = true := by decide +kernel
theorem blank_row {h : Hd} {i : Nat} {r : Rw} (hr : rowS h i r = true) (hi : h.inter = true) : rowS h i (blankR r) = true := by
  have hl := rowS_len hr
  unfold rowS
  simp only [Bool.and_eq_true, decide_eq_true_eq]
  refine ⟨⟨by simpa [blankR] using hl, rfl⟩, ?_⟩
  rw [List.all_eq_true]
  intro c hc
  have : c = celL := (List.mem_replicate.1 hc).2
  rw [this, hi]; exact celL_right
theorem blank_rows {h : Hd} {rs : List Rw} (hi : h.inter = true) : ∀ n, n ≤ rs.length → rowsS h rs n = true → rowsS h (blankS rs) n = true
  | 0, _, _ => rfl
  | n + 1, hn, hh => by
    obtain ⟨r, hr⟩ : ∃ r, rs[n]? = some r := ⟨_, List.getElem?_eq_getElem (by omega)⟩
    rw [rowsS_succ hr, Bool.and_eq_true] at hh
    rw [rowsS_succ (blank_get hr), blank_rows hi n (by omega) hh.1, blank_row hh.2 hi]; rfl
theorem blank_form {h : Hd} {rs : List Rw} {z : Int} (hf : formS h rs z = true) (hi : h.inter = true) : formS h (blankS rs) 0 = true := by
  obtain ⟨h1, h2, h3, h4⟩ := formS_inv hf
  unfold formS
  rw [h1, blank_len, decide_eq_true h3, blank_rows hi _ (Nat.le_refl _) h4]; rfl
theorem may_0 {f : Int} (hf : fOk f = true) (n : Int) (h0 : 0 ≤ n) (h1 : n < fA f * fD f) : mayS f n (0, 0) = true := by
  have hb := fOk_bd hf
  have e1 : mvOk 0 = true := rfl
  unfold mayS inS
  rw [e1]
  simp only [Bool.true_and, Bool.and_eq_true, decide_eq_true_eq]
  have : f = 1 ∨ f = 2 ∨ f = 3 ∨ f = 4 ∨ f = 5 ∨ f = 6 := by omega
  rcases this with rfl | rfl | rfl | rfl | rfl | rfl
  · rw [show fA 1 = 8 from rfl, show fD 1 = 6 from rfl] at h1; rw [show fA 1 = 8 from rfl, show fW 1 = 128 from rfl, show fH 1 = 96 from rfl]; omega
  · rw [show fA 2 = 11 from rfl, show fD 2 = 9 from rfl] at h1; rw [show fA 2 = 11 from rfl, show fW 2 = 176 from rfl, show fH 2 = 144 from rfl]; omega
  · rw [show fA 3 = 22 from rfl, show fD 3 = 18 from rfl] at h1; rw [show fA 3 = 22 from rfl, show fW 3 = 352 from rfl, show fH 3 = 288 from rfl]; omega
  · rw [show fA 4 = 44 from rfl, show fD 4 = 36 from rfl] at h1; rw [show fA 4 = 44 from rfl, show fW 4 = 704 from rfl, show fH 4 = 576 from rfl]; omega
  · rw [show fA 5 = 88 from rfl, show fD 5 = 72 from rfl] at h1; rw [show fA 5 = 88 from rfl, show fW 5 = 1408 from rfl, show fH 5 = 1152 from rfl]; omega
  · rw [show fA 6 = 2 from rfl, show fD 6 = 2 from rfl] at h1; rw [show fA 6 = 2 from rfl, show fW 6 = 32 from rfl, show fH 6 = 32 from rfl]; omega
theorem vecs_rep {f : Int} (hf : fOk f = true) (m : Nat) (hm : (m : Int) ≤ fA f * fD f) : ∀ n, n ≤ m → vecsS f (List.replicate m celL) n = true
  | 0, _ => rfl
  | n + 1, hn => by
    have e : (List.replicate m celL)[n]? = some celL := by rw [List.getElem?_replicate, if_pos (by omega)]
    rw [vecsS_succ e, vecs_rep hf m hm n (by omega)]
    unfold vecOk
    rw [show mvP celL = (0, 0) from rfl, may_0 hf n (by omega) (by omega)]
    simp
theorem blank_check {h : Hd} {rs : List Rw} {z : Int} (hf : formS h rs z = true) (hi : h.inter = true) : checkS h (blankS rs) 0 = 0 := by
  obtain ⟨h1, h2⟩ := formS_len hf
  unfold checkS
  rw [blank_form hf hi, if_pos rfl, blank_cells, List.length_replicate, vecs_rep h1 _ (by omega) _ (Nat.le_refl _), if_pos rfl]
theorem blank_ok {rs : List Rw} (ok : RwsOk rs) : RwsOk (blankS rs) := ⟨by rw [blank_len]; exact ok.few, fun r hr => by
  obtain ⟨x, hx, rfl⟩ := List.mem_map.1 hr
  refine ⟨by simpa [blankR] using (ok.cells x hx).1, fun c hc => ?_⟩
  have : c = celL := (List.mem_replicate.1 hc).2
  subst this
  exact celL_ok⟩
theorem celL_row (b : Bool) (A F : Int) (vs : List (Int × Int)) : cellRow b A F vs celL = [49] := by
  unfold cellRow putRow
  rw [if_pos (show celL.skip = true from rfl)]; rfl
theorem rep_out (b : Bool) (A F : Int) : ∀ (m : Nat) (vs : List (Int × Int)), (cellsOut b A F vs (List.replicate m celL)).length = m
  | 0, _ => rfl
  | m + 1, vs => by
    rw [List.replicate_succ, cellsOut, celL_row, List.length_append, rep_out b A F m]; simp; omega
theorem sus_len (l : List Int) : (l.flatMap suRow).length = 9 * l.length := by
  induction l with
  | nil => rfl
  | cons v l ih => rw [List.flatMap_cons, List.length_append, ih]; unfold suRow; rw [List.length_cons, digs_len, List.length_cons]; omega
theorem headRow_len (h : Hd) : (Sh.headRow h).length = 50 + 9 * h.supp.length := by
  unfold Sh.headRow hdRow
  simp only [List.length_append, digs_len, sus_len, mk_len]
  omega
theorem blank_out {h : Hd} {rs : List Rw} {n : Nat} : ∀ i, i ≤ rs.length → (outS h (blankS rs) n i).length = padN n + (50 + 9 * h.supp.length) + (cellsOf (rs.take i)).length
  | 0, _ => by
    have : (zs (padN n)).length = padN n := by unfold zs; simp
    simp only [outS, List.take_zero]
    rw [List.length_append, this, headRow_len]; rfl
  | i + 1, hi => by
    obtain ⟨r, hr⟩ : ∃ r, rs[i]? = some r := ⟨_, List.getElem?_eq_getElem (by omega)⟩
    have ih := blank_out (h := h) (rs := rs) (n := n) i (by omega)
    rw [outS_succ (blank_get hr), cellsOf_take hr]
    have e : headOut n i (blankR r) (outS h (blankS rs) n i) = outS h (blankS rs) n i := by unfold headOut; rw [if_neg (by simp [blankR])]
    rw [e, List.length_append, ih, List.length_append, show (blankR r).cells = List.replicate r.cells.length celL from rfl, rep_out]
    omega
theorem blank_sheet {h : Hd} {rs : List Rw} {z : Int} (hf : formS h rs z = true) : ((sheetOut h (blankS rs) 0 0).length : Int) = blB h.fmt h.supp.length := by
  obtain ⟨h1, h2⟩ := formS_len hf
  obtain ⟨g1, _⟩ := formS_inv hf
  obtain ⟨⟨b0, b1, b2, b3, b4⟩, _⟩ := hdOk_inv g1
  have hb := blank_out (h := h) (rs := rs) (n := 0) rs.length (Nat.le_refl _)
  rw [List.take_length] at hb
  have hfb := fOk_bd h1
  have hA : fA h.fmt ≠ 0 := by
    have : h.fmt = 1 ∨ h.fmt = 2 ∨ h.fmt = 3 ∨ h.fmt = 4 ∨ h.fmt = 5 ∨ h.fmt = 6 := by omega
    rcases this with e | e | e | e | e | e <;> rw [e] <;> decide
  unfold sheetOut blB clS
  rw [blank_len, if_neg hA]
  have p0 : padN 0 = 0 := rfl
  have hp := padN_ok (0 + (outS h (blankS rs) 0 rs.length).length)
  have e : ∀ k, (zs k).length = k := fun k => by unfold zs; simp
  rw [List.length_append, List.length_append, e, e, if_neg (by omega), if_neg (by omega)]
  have : (8 * (0 : Int).toNat) = 0 := rfl
  omega
end Go.Proofs.YtdihjnifoikbeaaDoor.Av.Sh

/- Sheets that are dropped: blank.Of. -/
set_option linter.unusedSimpArgs false
set_option linter.unusedVariables false
set_option maxRecDepth 100000
namespace Go.Proofs.YtdihjnifoikbeaaDoor.Av.Sh
open Go Bt Tc Co Wr
attribute [local irreducible] AGo ACalls
variable {gl : List (Nat × List D)}
set_option maxHeartbeats 4000000 in
theorem clonei_c (es : List D) (hl : es.length ≤ 1000000) :
    ACalls (cxg gl) 38 [.d (.sl 1 es)] [] (fun r H => r = .d (.sl 1 es) ∧ H = []) := by
  refine ACalls.enter Tryd.func38 rfl Tryd.ntmps38 (by kernel_rfl) rfl ?_; simp only [argEnv, Nat.reduceAdd, List.length_nil, List.length_cons]
  repeat' (first | (apply AGo.build0; (iterate 7 rfl); simp only [List.length_cons, List.length_nil, Nat.reduceAdd, List.nil_append, List.cons_append]) | apply AGo.seq | apply AGo.skip | apply AGo.nil | (apply AGo.region; rfl) | (apply AGo.q true; rfl; rfl; rfl; rfl; first | exact True.intro | omega | (simp only [Int.toNat_natCast, Int.reduceToNat, IntKind.bits]; omega) | (omega)) | (apply AGo.condT; rfl) | (apply AGo.condF; rfl) | (apply AGo.nilO; (iterate 9 rfl); intro b hb; cases b) | (apply AGo.retW (.d (.sl 1 es)); rfl; exact Weak.own _ _ _; rfl; rfl; rfl) | (apply AGo.retW (.d (.sl 1 [])); rfl; exact Weak.d (DWeak.nils 1); rfl; rfl; rfl) | (apply AGo.appendM; (iterate 11 rfl); (first | rfl | (simp only [List.length_append, List.length_map, List.length_set, List.length_replicate, List.length_cons, List.length_nil]; omega) | (omega)); (first | (simp only [List.length_append, List.length_map, List.length_cons, List.length_nil]; omega) | (omega)); simp only [List.set_cons_zero, List.set_cons_succ]) | (apply AGo.freezeR 2; rfl; rfl; (first | rfl | (simp only [List.length_append, List.length_map, List.length_set, List.length_replicate, List.length_cons, List.length_nil]; omega) | (omega)); simp only [List.set_cons_zero, List.set_cons_succ]) | intro _)
  all_goals first | exact ⟨rfl, rfl⟩ | (exfalso; omega) | (obtain rfl := hb rfl; exact ⟨rfl, rfl⟩) | trace_state
abbrev rwBL (n : Nat) : D := .agg [.bool false, In 0, In 0, .sl 18 (List.replicate n celLD)]
def rbD (rs : List Rw) : List D := rs.map fun r => rwBL r.cells.length
theorem rbD_len (rs : List Rw) : (rbD rs).length = rs.length := by simp [rbD]
theorem rbD_take {rs : List Rw} {i : Nat} {r : Rw} (h : rs[i]? = some r) : rbD (rs.take (i + 1)) = rbD (rs.take i) ++ [rwBL r.cells.length] := by
  rw [List.take_add_one, h]; simp [rbD]
theorem rwB_w (r : Rw) : CW (rwBL r.cells.length) (rwD (blankR r)) := ⟨rfl, by simp [D.cells, D.one], fun i c d hc hd => by
  match i, hc, hd with
  | 0, hc, hd | 1, hc, hd | 2, hc, hd => cases hc; cases hd; exact DWeak.refl _
  | 3, hc, hd =>
    cases hc; cases hd
    refine DWeak.sl (by simp [blankR, celsD]) fun j e f he hf => ?_
    have h1 := List.mem_of_getElem? he
    have h2 := List.mem_of_getElem? hf
    obtain rfl := (List.mem_replicate.1 h1).2
    obtain ⟨c, hc, rfl⟩ := List.mem_map.1 h2
    obtain rfl := (List.mem_replicate.1 hc).2
    exact celL_w
  | i + 4, hc, hd => simp [D.cells] at hc⟩
theorem blank_w (h : Hd) (rs : List Rw) : DWeak (shD h (rbD rs) 0) (shD h (rsD (blankS rs)) 0) := CW.dweak ⟨rfl, by simp [D.cells, D.one], fun i c d hc hd => by
  match i, hc, hd with
  | 0, hc, hd | 1, hc, hd | 2, hc, hd | 3, hc, hd | 4, hc, hd | 5, hc, hd | 7, hc, hd => cases hc; cases hd; exact DWeak.refl _
  | 6, hc, hd =>
    cases hc; cases hd
    refine DWeak.sl (by simp [rbD, rsD, blankS]) fun j e f he hf => ?_
    unfold rbD at he
    unfold rsD blankS at hf
    rw [List.getElem?_map] at he
    rw [List.map_map, List.getElem?_map] at hf
    cases hr : rs[j]? with
    | none => rw [hr] at he; cases he
    | some r =>
      rw [hr] at he hf
      cases he; cases hf
      exact rwB_w r
  | i + 8, hc, hd => simp [D.cells] at hc⟩
attribute [local irreducible] Tc.evsD suD celsD rsD rbD rightS octets packN padS formS checkS sheetOut hdOk lightS cellsOf blankS
set_option maxHeartbeats 16000000 in
theorem blof_bad (h : Hd) (rs : List Rw) (z : Int) (ok : RwsOk rs) (hl : h.supp.length ≤ 100) (hc : checkS h rs z ≠ 0) :
    ACalls (cxg gtc) 12 [.d (shD h (rsD rs) z)] [] (fun r H => r = .tup [.d sh0D, I (checkS h rs z)] ∧ H = []) := by
  have ck := check_c h rs z ok hl
  refine ACalls.enter Tryd.func12 rfl Tryd.ntmps12 (by kernel_rfl) rfl ?_; simp only [argEnv, Nat.reduceAdd, List.length_nil, List.length_cons]
  repeat' (first | apply AGo.seq | apply AGo.nil | (apply AGo.region; rfl) | (apply AGo.q true; rfl; rfl; rfl; rfl; first | exact True.intro | omega | (simp only [Int.toNat_natCast, Int.reduceToNat, IntKind.bits]; omega)) | (apply AGo.callP (ck); (iterate 6 rfl)) | (apply AGo.alloc; (iterate 5 rfl); simp only [nm, Nat.reduceAdd, spliceA, AV.cells, D.cells]) | (apply AGo.box; (iterate 6 rfl); simp only [nm, Nat.reduceAdd, spliceA, AV.cells, D.cells]) | (apply AGo.store; (iterate 9 rfl); exact Nat.le_of_ble_eq_true rfl; simp only [nm, Nat.reduceAdd, spliceA, AV.cells, D.cells]) | (apply AGo.build; (iterate 5 rfl); simp only [nm, Nat.reduceAdd, spliceA, AV.cells, D.cells, mkAgg, unDs, AV.unD]) | (apply AGo.cBT; rfl; first | (simp only [bT]; omega)) | intro _ | (apply AGo.retN; rfl; rfl; rfl; rfl))
  all_goals first | exact ⟨rfl, rfl⟩ | (exfalso; omega) | trace_state
set_option maxHeartbeats 16000000 in
theorem blof_no (h : Hd) (rs : List Rw) (z : Int) (ok : RwsOk rs) (hl : h.supp.length ≤ 100) (hc : checkS h rs z = 0) (hi : h.inter = false) :
    ACalls (cxg gtc) 12 [.d (shD h (rsD rs) z)] [] (fun r H => r = .tup [.d sh0D, I 12] ∧ H = []) := by
  have ck := check_c h rs z ok hl
  rw [hc] at ck
  obtain ⟨a, b, c, d, e, f⟩ := h
  simp only at hi
  subst hi
  refine ACalls.enter Tryd.func12 rfl Tryd.ntmps12 (by kernel_rfl) rfl ?_; simp only [argEnv, Nat.reduceAdd, List.length_nil, List.length_cons]
  repeat' (first | apply AGo.seq | apply AGo.skip | apply AGo.nil | (apply AGo.region; rfl) | (apply AGo.q true; rfl; rfl; rfl; rfl; first | exact True.intro | omega | (simp only [Int.toNat_natCast, Int.reduceToNat, IntKind.bits]; omega)) | (apply AGo.callP (ck); (iterate 6 rfl)) | (apply AGo.condT; rfl) | (apply AGo.condF; rfl) | (apply AGo.alloc; (iterate 5 rfl); simp only [nm, Nat.reduceAdd, spliceA, AV.cells, D.cells]) | (apply AGo.box; (iterate 6 rfl); simp only [nm, Nat.reduceAdd, spliceA, AV.cells, D.cells]) | (apply AGo.store; (iterate 9 rfl); exact Nat.le_of_ble_eq_true rfl; simp only [nm, Nat.reduceAdd, spliceA, AV.cells, D.cells]) | (apply AGo.build; (iterate 5 rfl); simp only [nm, Nat.reduceAdd, spliceA, AV.cells, D.cells, mkAgg, unDs, AV.unD]) | intro _ | (apply AGo.retN; rfl; rfl; rfl; rfl))
  all_goals first | exact ⟨rfl, rfl⟩ | (exfalso; omega) | trace_state
set_option maxHeartbeats 16000000 in
theorem blof_yes (h : Hd) (rs : List Rw) (z : Int) (ok : RwsOk rs) (hl : h.supp.length ≤ 100) (hc : checkS h rs z = 0) (hi : h.inter = true) :
    ACalls (cxg gtc) 12 [.d (shD h (rsD rs) z)] [] (fun r H => r = .tup [.d (shD h (rsD (blankS rs)) 0), I 0] ∧ H = []) := by
  have ck := check_c h rs z ok hl
  rw [hc] at ck
  have hn := rsD_len rs
  have hf := ok.few
  have hsl := suD_len h.supp
  have bw := blank_w h rs
  have cl := clonei_c (gl := gtc) (suD h.supp) (by omega)
  have e00 : rbD (rs.take 0) = [] := by rw [List.take_zero]; unfold rbD; rfl
  obtain ⟨a, b, c, d, e, f⟩ := h
  simp only at hi hl hsl bw cl ck
  subst hi
  refine ACalls.enter Tryd.func12 rfl Tryd.ntmps12 (by kernel_rfl) rfl ?_; simp only [argEnv, Nat.reduceAdd, List.length_nil, List.length_cons]
  repeat' (first | (apply AGo.seal 0 1; rfl; rfl; simp only [List.map, AV.viewD, List.set_cons_zero, List.set_cons_succ]) | (apply AGo.drawZ1 [0, 1, 2, 3, 4, 5, 6, 7, 8, 9, 10, 11, 12, 13] 14; rfl) | (apply ARegI.pureX; rfl; (apply PureTo.q true; rfl; rfl; first | exact True.intro | omega); exact fun _ _ _ h => h; (iterate 5 rfl); kernel_rfl; kernel_rfl) | (apply ARegI.load; (iterate 5 rfl); exact fun _ _ _ h => h; (iterate 5 rfl); kernel_rfl; kernel_rfl) | (apply ARegI.go) | (apply ARegA.fin; kernel_rfl) | (apply ARegA.fork1; rfl; kernel_rfl) | (apply ARegA.fork2; rfl; kernel_rfl) | (apply ARegA1.step; rfl) | (apply ARegA.back) | (exact AGo.mid0) | (apply AGo.midDone; (repeat' (first | exact EnvEq.nil | (apply EnvEq.cons; rfl))); rfl) | apply AGo.seq | apply AGo.block | apply AGo.blk | apply AGo.skip | apply AGo.nil | (apply AGo.region; rfl) | (apply AGo.q true; rfl; rfl; rfl; rfl; first | exact True.intro | omega | (simp only [Int.toNat_natCast, Int.reduceToNat, IntKind.bits]; omega)) | (apply AGo.callP (ck); (iterate 6 rfl)) | (apply AGo.callP (cl); (iterate 6 rfl)) | (apply AGo.condDT; rfl; first | omega | rfl) | (apply AGo.condDF; rfl; omega) | (apply AGo.condF; rfl) | (apply AGo.alloc; (iterate 5 rfl); simp only [nm, Nat.reduceAdd, spliceA, AV.cells, D.cells]) | (apply AGo.box; (iterate 6 rfl); simp only [nm, Nat.reduceAdd, spliceA, AV.cells, D.cells]) | (apply AGo.store; (iterate 9 rfl); exact Nat.le_of_ble_eq_true rfl; simp only [nm, Nat.reduceAdd, spliceA, AV.cells, D.cells]) | (apply AGo.build; (iterate 5 rfl); simp only [nm, Nat.reduceAdd, spliceA, AV.cells, D.cells, mkAgg, unDs, AV.unD]) | (apply AGo.buildSlice; (iterate 11 rfl)) | (apply AGo.ghostC 2 6 70 4; rfl; rfl; simp only [List.set_cons_zero, List.set_cons_succ, List.length_cons, List.length_nil, Nat.reduceAdd, List.cons_append, List.nil_append]) | (apply AGo.freezeC 2 6; rfl; rfl; rfl; first | rfl | (simp only [List.length_append, List.length_map, List.length_set, List.length_replicate, List.length_cons, List.length_nil]; omega); simp only [List.set_cons_zero, List.set_cons_succ]) | intro _ | (apply AGo.outL; rfl; rfl))
  simp only [List.set_cons_succ, List.set_cons_zero, List.length_nil]
  refine AGo.weak (env' := [(34, I ((0 : Nat) : Int)), (33, I ((rsD rs).length : Int)), (32, .d (.sl 4 (rsD rs))), (5, .ptr 2 0), (2, .ptr 1 0)]) ⟨rfl, rfl, rfl, rfl, rfl, trivial⟩ ?_
  refine AGo.loop (fun m env H => ∃ i : Nat, m = rs.length - i ∧ i ≤ rs.length ∧ env = [(34, I (i : Int)), (33, I ((rsD rs).length : Int)), (32, .d (.sl 4 (rsD rs))), (5, .ptr 2 0), (2, .ptr 1 0)] ∧
    H = [.gone, .cells [I 0, I 0, I 0, B false, I 0, .d .nils, .d .nils, I 0], .cells [.d (Nn a), .d (Nn b), .d (Nn c), B true, .d (Nn e), .d (.sl 1 (suD f)), .own 4 (rbD (rs.take i)) 3, I 0], .front 70 4 (rbD (rs.take i)).length]) rs.length
    ⟨0, rfl, by omega, rfl, by rw [e00]; rfl⟩ ?_
  rintro m env H ⟨i, rfl, hi, rfl, rfl⟩
  rcases Nat.lt_or_ge i rs.length with hlt | hge
  · obtain ⟨r, hr⟩ : ∃ r, rs[i]? = some r := ⟨_, List.getElem?_eq_getElem hlt⟩
    have g1 := rsD_get hr
    obtain ⟨hrl, _⟩ := ok.cells r (List.mem_of_getElem? hr)
    have hm := celsD_len r.cells
    have hbt := rbD_take hr
    have hbl : (rbD (rs.take i)).length ≤ 1000 := by rw [rbD_len, List.length_take]; omega
    generalize rbD (rs.take i) = T at *
    repeat' (first | (apply AGo.opx; (apply quiet_idxG; (iterate 7 rfl); (first | omega | (rw [hn]; omega)); exact g1); rfl; rfl; rfl) | apply AGo.seq | apply AGo.block | apply AGo.blk | apply AGo.skip | apply AGo.nil | (apply AGo.region; rfl) | (apply AGo.q true; rfl; rfl; rfl; rfl; first | exact True.intro | omega | (simp only [Int.toNat_natCast, Int.reduceToNat, IntKind.bits]; omega) | (rw [hn]; omega)) | (apply AGo.condDT; rfl; first | omega | rfl) | (apply AGo.condDF; rfl; omega) | (apply AGo.condF; rfl) | (apply AGo.alloc; (iterate 5 rfl); simp only [nm, Nat.reduceAdd, spliceA, AV.cells, D.cells]) | (apply AGo.box; (iterate 6 rfl); simp only [nm, Nat.reduceAdd, spliceA, AV.cells, D.cells]) | (apply AGo.store; (iterate 9 rfl); exact Nat.le_of_ble_eq_true rfl; simp only [nm, Nat.reduceAdd, spliceA, AV.cells, D.cells]) | (apply AGo.build; (iterate 5 rfl); simp only [nm, Nat.reduceAdd, spliceA, AV.cells, D.cells, mkAgg, unDs, AV.unD]) | (apply AGo.buildSlice; (iterate 11 rfl)) | (apply AGo.ghostC 5 3 48 18; rfl; rfl; simp only [List.set_cons_zero, List.set_cons_succ, List.length_cons, List.length_nil, Nat.reduceAdd, List.cons_append, List.nil_append]) | (apply AGo.freezeC 5 3; rfl; rfl; rfl; first | rfl | (simp only [List.length_append, List.length_map, List.length_set, List.length_replicate, List.length_cons, List.length_nil]; omega) | (rw [hn]; omega); simp only [List.set_cons_zero, List.set_cons_succ]) | intro _ | (apply AGo.outL; rfl; rfl))
    simp only [List.set_cons_succ, List.set_cons_zero, List.length_nil]
    refine AGo.weak (env' := [(41, I ((0 : Nat) : Int)), (40, I ((celsD r.cells).length : Int)), (8, .ptr 5 0), (34, I (i : Int)), (33, I ((rsD rs).length : Int)), (32, .d (.sl 4 (rsD rs))), (5, .ptr 2 0), (2, .ptr 1 0)]) ⟨rfl, rfl, rfl, rfl, rfl, rfl, rfl, rfl, trivial⟩ ?_
    refine AGo.loop (fun m env H => ∃ k : Nat, m = r.cells.length - k ∧ k ≤ r.cells.length ∧ env = [(41, I (k : Int)), (40, I ((celsD r.cells).length : Int)), (8, .ptr 5 0), (34, I (i : Int)), (33, I ((rsD rs).length : Int)), (32, .d (.sl 4 (rsD rs))), (5, .ptr 2 0), (2, .ptr 1 0)] ∧
      H = [.gone, .cells [I 0, I 0, I 0, B false, I 0, .d .nils, .d .nils, I 0], .cells [.d (Nn a), .d (Nn b), .d (Nn c), B true, .d (Nn e), .d (.sl 1 (suD f)), .own 4 T 3, I 0], .front 70 4 T.length,
        .cells (rwA r), .cells [B false, I 0, I 0, .own 18 (List.replicate k celLD) 6], .front 48 18 (List.replicate k celLD).length]) r.cells.length
      ⟨0, rfl, by omega, rfl, rfl⟩ ?_
    rintro m env H ⟨k, rfl, hk, rfl, rfl⟩
    rcases Nat.lt_or_ge k r.cells.length with hlt2 | hge2
    · have hrep : List.replicate (k + 1) celLD = List.replicate k celLD ++ [celLD] := List.replicate_succ'
      have hkl : (List.replicate k celLD).length ≤ 1000 := by rw [List.length_replicate]; omega
      generalize List.replicate k celLD = U at *
      repeat' (first | (apply AGo.append; (iterate 11 rfl); (first | rfl | (simp only [List.length_append, List.length_map, List.length_cons, List.length_nil]; omega)); (first | (simp only [List.length_append, List.length_map, List.length_cons, List.length_nil]; omega) | (rw [hm]; omega)); simp only [List.set_cons_zero, List.set_cons_succ]) | apply AGo.seq | apply AGo.block | apply AGo.blk | apply AGo.skip | apply AGo.nil | (apply AGo.region; rfl) | (apply AGo.q true; rfl; rfl; rfl; rfl; first | exact True.intro | omega | (simp only [Int.toNat_natCast, Int.reduceToNat, IntKind.bits]; omega) | (rw [hm]; omega)) | (apply AGo.condDT; rfl; first | omega | rfl) | (apply AGo.condDF; rfl; omega) | (apply AGo.condF; rfl) | (apply AGo.alloc; (iterate 5 rfl); simp only [nm, Nat.reduceAdd, spliceA, AV.cells, D.cells]) | (apply AGo.box; (iterate 6 rfl); simp only [nm, Nat.reduceAdd, spliceA, AV.cells, D.cells]) | (apply AGo.store; (iterate 9 rfl); exact Nat.le_of_ble_eq_true rfl; simp only [nm, Nat.reduceAdd, spliceA, AV.cells, D.cells]) | (apply AGo.build; (iterate 5 rfl); simp only [nm, Nat.reduceAdd, spliceA, AV.cells, D.cells, mkAgg, unDs, AV.unD]) | (apply AGo.buildSlice; (iterate 11 rfl)) | intro _ | (apply AGo.outL; rfl; rfl))
      all_goals first
        | exact AGo.round [(41, I ((k + 1 : Nat) : Int)), (40, I ((celsD r.cells).length : Int)), (8, .ptr 5 0), (34, I (i : Int)), (33, I ((rsD rs).length : Int)), (32, .d (.sl 4 (rsD rs))), (5, .ptr 2 0), (2, .ptr 1 0)] (r.cells.length - (k + 1)) (by omega) ⟨rfl, rfl, rfl, rfl, rfl, rfl, rfl, rfl, trivial⟩ ⟨k + 1, rfl, hlt2, rfl, by first | (rw [hrep]; done) | (rw [hrep]; rfl)⟩
        | (exfalso; omega) | trace_state
    · obtain rfl : k = r.cells.length := by omega
      repeat' (first | (apply AGo.append; (iterate 11 rfl); (first | rfl | (simp only [List.length_append, List.length_map, List.length_cons, List.length_nil]; omega)); (first | (simp only [List.length_append, List.length_map, List.length_cons, List.length_nil]; omega) | (rw [hm]; omega)); simp only [List.set_cons_zero, List.set_cons_succ]) | apply AGo.seq | apply AGo.block | apply AGo.blk | apply AGo.skip | apply AGo.nil | (apply AGo.region; rfl) | (apply AGo.q true; rfl; rfl; rfl; rfl; first | exact True.intro | omega | (simp only [Int.toNat_natCast, Int.reduceToNat, IntKind.bits]; omega) | (rw [hm]; omega)) | (apply AGo.condDT; rfl; first | omega | rfl) | (apply AGo.condDF; rfl; omega) | (apply AGo.condF; rfl) | (apply AGo.alloc; (iterate 5 rfl); simp only [nm, Nat.reduceAdd, spliceA, AV.cells, D.cells]) | (apply AGo.box; (iterate 6 rfl); simp only [nm, Nat.reduceAdd, spliceA, AV.cells, D.cells]) | (apply AGo.store; (iterate 9 rfl); exact Nat.le_of_ble_eq_true rfl; simp only [nm, Nat.reduceAdd, spliceA, AV.cells, D.cells]) | (apply AGo.build; (iterate 5 rfl); simp only [nm, Nat.reduceAdd, spliceA, AV.cells, D.cells, mkAgg, unDs, AV.unD]) | (apply AGo.buildSlice; (iterate 11 rfl)) | intro _ | (apply AGo.outL; rfl; rfl))
      all_goals first
        | exact AGo.roundD 4 [(34, I ((i + 1 : Nat) : Int)), (33, I ((rsD rs).length : Int)), (32, .d (.sl 4 (rsD rs))), (5, .ptr 2 0), (2, .ptr 1 0)] (rs.length - (i + 1)) (by omega) rfl rfl rfl rfl ⟨rfl, rfl, rfl, rfl, rfl, trivial⟩ ⟨i + 1, rfl, hlt, rfl, by first | (rw [hbt]; done) | (rw [hbt]; rfl)⟩
        | (exfalso; omega) | trace_state
  · obtain rfl : i = rs.length := by omega
    rw [List.take_length]
    repeat' (first | apply AGo.seq | apply AGo.block | apply AGo.blk | apply AGo.skip | apply AGo.nil | (apply AGo.region; rfl) | (apply AGo.q true; rfl; rfl; rfl; rfl; first | exact True.intro | omega | (simp only [Int.toNat_natCast, Int.reduceToNat, IntKind.bits]; omega) | (rw [hn]; omega)) | (apply AGo.condDT; rfl; first | omega | rfl) | (apply AGo.condDF; rfl; omega) | (apply AGo.condF; rfl) | (apply AGo.alloc; (iterate 5 rfl); simp only [nm, Nat.reduceAdd, spliceA, AV.cells, D.cells]) | (apply AGo.box; (iterate 6 rfl); simp only [nm, Nat.reduceAdd, spliceA, AV.cells, D.cells]) | (apply AGo.store; (iterate 9 rfl); exact Nat.le_of_ble_eq_true rfl; simp only [nm, Nat.reduceAdd, spliceA, AV.cells, D.cells]) | (apply AGo.build; (iterate 5 rfl); simp only [nm, Nat.reduceAdd, spliceA, AV.cells, D.cells, mkAgg, unDs, AV.unD]) | (apply AGo.buildSlice; (iterate 11 rfl)) | (apply AGo.retW (.tup [.d (shD ⟨a, b, c, true, e, f⟩ (rsD (blankS rs)) 0), I 0]); rfl; exact Weak.tup ⟨Weak.d bw, Weak.refl _, trivial⟩; rfl; rfl; rfl) | intro _ | (apply AGo.outL; rfl; rfl))
    all_goals first | exact ⟨rfl, rfl⟩ | (exfalso; omega) | trace_state
end Go.Proofs.YtdihjnifoikbeaaDoor.Av.Sh

/- Sheets that are dropped: the document's. -/
set_option linter.unusedSimpArgs false
set_option linter.unusedVariables false
set_option maxRecDepth 100000
namespace Go.Proofs.YtdihjnifoikbeaaDoor.Av.Sh
open Go Bt Tc Co Wr
attribute [local irreducible] AGo ACalls
variable {gl : List (Nat × List D)}
theorem rbD_rep {rs : List Rw} {n : Nat} (h : ∀ r ∈ rs, r.cells.length = n) : rbD rs = List.replicate rs.length (rwBL n) := by
  unfold rbD
  rw [List.eq_replicate_iff]
  refine ⟨by simp, fun x hx => ?_⟩
  obtain ⟨r, hr, rfl⟩ := List.mem_map.1 hx
  rw [h r hr]
theorem rows_even {h : Hd} {rs : List Rw} {z : Int} (hf : formS h rs z = true) : ∀ r ∈ rs, r.cells.length = (fA h.fmt * fL h.fmt).toNat := fun r hr => by
  obtain ⟨h1, h2, h3, h4⟩ := formS_inv hf
  obtain ⟨i, hi⟩ := List.getElem?_of_mem hr
  have := rowS_len (rowsS_at h4 (getElem?_lt hi) hi)
  omega
attribute [local irreducible] Tc.evsD suD celsD rsD rbD rightS octets packN padS formS checkS sheetOut hdOk lightS cellsOf blankS
set_option maxHeartbeats 16000000 in
theorem rblof_c (h : Hd) (rs : List Rw) (z : Int) (hl : h.supp.length ≤ 100) (hb : I64 h.fmt) (hf : formS h rs z = true) (hi : h.inter = true) :
    ACalls (cxg gl) 16 [.d (shD h (rsD rs) z)] [] (fun r H => r = .d (shD h (rsD (blankS rs)) 0) ∧ H = []) := by
  have hsl := suD_len h.supp
  have bw := blank_w h rs
  have k1 := rsize_c (gl := gl) h.fmt hb
  have k2 := racross_c (gl := gl) h.fmt hb
  have hP := fAL_bd h.fmt
  have he := rbD_rep (rows_even hf)
  obtain ⟨_, _, hR, _⟩ := formS_inv hf
  rw [he] at bw
  have hrl : rs.length ≤ 20 := by
    have : fR h.fmt ≤ 18 := by unfold fR; split <;> (try split) <;> (try split) <;> (try split) <;> (try split) <;> (try split) <;> decide
    omega
  generalize hn : rs.length = n at *
  obtain ⟨a, b, c, d, e, f⟩ := h
  simp only at hi hl hsl bw hb k1 k2 hP hR
  subst hi
  refine ACalls.enter Tryd.func16 rfl Tryd.ntmps16 (by kernel_rfl) rfl ?_; simp only [argEnv, Nat.reduceAdd, List.length_nil, List.length_cons]
  repeat' (first | (apply AGo.seal 0 1; rfl; rfl; simp only [List.map, AV.viewD, List.set_cons_zero, List.set_cons_succ]) | (apply AGo.drawZ2 [0, 1, 2, 3, 4, 5, 6, 7, 8, 9, 10, 11, 12, 13, 14] 15; rfl) | (apply ARegI.pureX; rfl; (apply PureTo.q true; rfl; rfl; first | exact True.intro | omega); exact fun _ _ _ h => h; (iterate 5 rfl); kernel_rfl; kernel_rfl) | (apply ARegI.load; (iterate 5 rfl); exact fun _ _ _ h => h; (iterate 5 rfl); kernel_rfl; kernel_rfl) | (apply ARegI.go) | (apply ARegA.fin; kernel_rfl) | (apply ARegA.fork1; rfl; kernel_rfl) | (apply ARegA.fork2; rfl; kernel_rfl) | (apply ARegA1.step; rfl) | (apply ARegA.back) | (apply AGo.mid0L) | (apply AGo.midL; rfl; (repeat' (first | exact EnvEq.nil | (apply EnvEq.cons; rfl))); done) | (apply AGo.mid0R) | (apply AGo.build0; (iterate 7 rfl); simp only [List.length_cons, List.length_nil, Nat.reduceAdd, List.nil_append, List.cons_append]) | apply AGo.seq | apply AGo.block | apply AGo.blk | apply AGo.skip | apply AGo.nil | (apply AGo.region; rfl) | (apply AGo.q true; rfl; rfl; rfl; rfl; first | exact True.intro | omega | (simp only [Int.toNat_natCast, Int.reduceToNat, IntKind.bits]; omega)) | (apply AGo.callP (k1); (iterate 6 rfl)) | (apply AGo.condDT; rfl; first | omega | rfl) | (apply AGo.condDF; rfl; omega) | (apply AGo.alloc; (iterate 5 rfl); simp only [nm, Nat.reduceAdd, spliceA, AV.cells, D.cells]) | (apply AGo.box; (iterate 6 rfl); simp only [nm, Nat.reduceAdd, spliceA, AV.cells, D.cells]) | (apply AGo.store; (iterate 9 rfl); exact Nat.le_of_ble_eq_true rfl; simp only [nm, Nat.reduceAdd, spliceA, AV.cells, D.cells]) | (apply AGo.build; (iterate 5 rfl); simp only [nm, Nat.reduceAdd, spliceA, AV.cells, D.cells, mkAgg, unDs, AV.unD]) | (apply AGo.buildSlice; (iterate 11 rfl)) | (apply AGo.appendM; (iterate 11 rfl); (first | rfl | (simp only [List.length_append, List.length_map, List.length_set, List.length_replicate, List.length_cons, List.length_nil]; omega)); ((simp only [List.length_append, List.length_map, List.length_cons, List.length_nil]; omega)); simp only [List.set_cons_zero, List.set_cons_succ]) | intro _ | (apply AGo.outL; rfl; rfl))
  all_goals repeat (first | apply AGo.seq | apply AGo.block | apply AGo.blk | apply AGo.skip | apply AGo.nil | (apply AGo.region; rfl) | (apply AGo.q true; rfl; rfl; rfl; rfl; first | exact True.intro | omega | (simp only [Int.toNat_natCast, Int.reduceToNat, IntKind.bits]; omega)) | (apply AGo.condDT; rfl; first | omega | rfl) | (apply AGo.condDF; rfl; omega) | (apply AGo.alloc; (iterate 5 rfl); simp only [nm, Nat.reduceAdd, spliceA, AV.cells, D.cells]) | (apply AGo.box; (iterate 6 rfl); simp only [nm, Nat.reduceAdd, spliceA, AV.cells, D.cells]) | (apply AGo.store; (iterate 9 rfl); exact Nat.le_of_ble_eq_true rfl; simp only [nm, Nat.reduceAdd, spliceA, AV.cells, D.cells]) | (apply AGo.build; (iterate 5 rfl); simp only [nm, Nat.reduceAdd, spliceA, AV.cells, D.cells, mkAgg, unDs, AV.unD]) | (apply AGo.buildSlice; (iterate 11 rfl)) | (apply AGo.freezeC 2 5; rfl; rfl; rfl; first | rfl | (simp only [List.length_append, List.length_map, List.length_set, List.length_replicate, List.length_cons, List.length_nil]; omega); simp only [List.set_cons_zero, List.set_cons_succ]) | (apply AGo.freezeC 3 5; rfl; rfl; rfl; first | rfl | (simp only [List.length_append, List.length_map, List.length_set, List.length_replicate, List.length_cons, List.length_nil]; omega); simp only [List.set_cons_zero, List.set_cons_succ]) | (apply AGo.ghostC 2 6 70 4; rfl; rfl; simp only [List.set_cons_zero, List.set_cons_succ, List.length_cons, List.length_nil, Nat.reduceAdd, List.cons_append, List.nil_append]) | (apply AGo.freezeC 2 6; rfl; rfl; rfl; first | rfl | (simp only [List.length_append, List.length_map, List.length_set, List.length_replicate, List.length_cons, List.length_nil]; omega); simp only [List.set_cons_zero, List.set_cons_succ]) | (apply AGo.ghostC 3 6 70 4; rfl; rfl; simp only [List.set_cons_zero, List.set_cons_succ, List.length_cons, List.length_nil, Nat.reduceAdd, List.cons_append, List.nil_append]) | (apply AGo.freezeC 3 6; rfl; rfl; rfl; first | rfl | (simp only [List.length_append, List.length_map, List.length_set, List.length_replicate, List.length_cons, List.length_nil]; omega); simp only [List.set_cons_zero, List.set_cons_succ]))
  all_goals simp only [List.set_cons_succ, List.set_cons_zero, List.length_nil]
  all_goals obtain ⟨N, hN⟩ : ∃ N : Nat, fA c * fL c = N := ⟨(fA c * fL c).toNat, by omega⟩
  all_goals
    rw [hN, Int.toNat_natCast] at bw
    rw [hN] at hP
    generalize fA c = A at *
    generalize fL c = L at *
    have hm64 : -9223372036854775808 ≤ A * L ∧ A * L ≤ 9223372036854775807 := by rw [hN]; omega
  · refine AGo.weak (env' := [(5, I ((0 : Nat) : Int)), (4, .ptr 4 0), (3, .ptr 3 0), (2, .ptr 1 0), (1, .d (.iptr [Nn a, Nn b, Nn c, .bool true, Nn e, .sl 1 (suD f), .sl 4 (rsD rs), Nn z]))]) ⟨rfl, rfl, rfl, rfl, rfl, trivial⟩ ?_
    refine AGo.loop (fun m env H => ∃ i : Nat, m = n - i ∧ i ≤ n ∧ env = [(5, I (i : Int)), (4, .ptr 4 0), (3, .ptr 3 0), (2, .ptr 1 0), (1, .d (.iptr [Nn a, Nn b, Nn c, .bool true, Nn e, .sl 1 (suD f), .sl 4 (rsD rs), Nn z]))] ∧
      H = [.gone, .cells [I 0, I 0, I 0, B false, I 0, .d .nils, .d .nils, I 0], .front 3 1 (suD f).length, .cells [.d (Nn a), .d (Nn b), .d (Nn c), B true, .d (Nn e), .own 1 (suD f) 2, .own 4 (List.replicate i (rwBL N)) 5, I 0], .cells [I (fW c), I (fH c), I (fR c), I L], .front 70 4 (List.replicate i (rwBL N)).length]) n
      ⟨0, rfl, by omega, rfl, rfl⟩ ?_
    rintro m env H ⟨i, rfl, hi, rfl, rfl⟩
    have hTl : (List.replicate i (rwBL N)).length ≤ 1000 := by rw [List.length_replicate]; omega
    rcases Nat.lt_or_ge i n with hlt | hge
    · have hrep : List.replicate (i + 1) (rwBL N) = List.replicate i (rwBL N) ++ [rwBL N] := List.replicate_succ'
      generalize List.replicate i (rwBL N) = T at *
      repeat' (first | apply AGo.seq | apply AGo.block | apply AGo.blk | apply AGo.skip | apply AGo.nil | (apply AGo.region; rfl) | (apply AGo.q true; rfl; rfl; rfl; rfl; first | exact True.intro | omega | (simp only [Int.toNat_natCast, Int.reduceToNat, IntKind.bits]; omega)) | (apply AGo.condDT; rfl; first | omega | rfl) | (apply AGo.condDF; rfl; omega) | (apply AGo.alloc; (iterate 5 rfl); simp only [nm, Nat.reduceAdd, spliceA, AV.cells, D.cells]) | (apply AGo.box; (iterate 6 rfl); simp only [nm, Nat.reduceAdd, spliceA, AV.cells, D.cells]) | (apply AGo.store; (iterate 9 rfl); exact Nat.le_of_ble_eq_true rfl; simp only [nm, Nat.reduceAdd, spliceA, AV.cells, D.cells]) | (apply AGo.build; (iterate 5 rfl); simp only [nm, Nat.reduceAdd, spliceA, AV.cells, D.cells, mkAgg, unDs, AV.unD]) | (apply AGo.buildSlice; (iterate 11 rfl)) | intro _ | (apply AGo.outL; rfl; rfl))
      all_goals first | (exfalso; omega) | skip
      repeat (first | apply AGo.seq | apply AGo.block | apply AGo.blk | apply AGo.skip | apply AGo.nil | (apply AGo.region; rfl) | (apply AGo.q true; rfl; rfl; rfl; rfl; first | exact True.intro | omega | (simp only [Int.toNat_natCast, Int.reduceToNat, IntKind.bits]; omega)) | (apply AGo.condDT; rfl; first | omega | rfl) | (apply AGo.condDF; rfl; omega) | (apply AGo.alloc; (iterate 5 rfl); simp only [nm, Nat.reduceAdd, spliceA, AV.cells, D.cells]) | (apply AGo.box; (iterate 6 rfl); simp only [nm, Nat.reduceAdd, spliceA, AV.cells, D.cells]) | (apply AGo.store; (iterate 9 rfl); exact Nat.le_of_ble_eq_true rfl; simp only [nm, Nat.reduceAdd, spliceA, AV.cells, D.cells]) | (apply AGo.build; (iterate 5 rfl); simp only [nm, Nat.reduceAdd, spliceA, AV.cells, D.cells, mkAgg, unDs, AV.unD]) | (apply AGo.buildSlice; (iterate 11 rfl)) | (apply AGo.ghostC 6 3 48 18; rfl; rfl; simp only [List.set_cons_zero, List.set_cons_succ, List.length_cons, List.length_nil, Nat.reduceAdd, List.cons_append, List.nil_append]) | (apply AGo.freezeC 6 3; rfl; rfl; rfl; first | rfl | (simp only [List.length_append, List.length_map, List.length_set, List.length_replicate, List.length_cons, List.length_nil]; omega); simp only [List.set_cons_zero, List.set_cons_succ]))
      simp only [List.set_cons_succ, List.set_cons_zero, List.length_nil]
      refine AGo.weak (env' := [(7, I ((0 : Nat) : Int)), (6, .ptr 6 0), (5, I (i : Int)), (4, .ptr 4 0), (3, .ptr 3 0), (2, .ptr 1 0), (1, .d (.iptr [Nn a, Nn b, Nn c, .bool true, Nn e, .sl 1 (suD f), .sl 4 (rsD rs), Nn z]))]) ⟨rfl, rfl, rfl, rfl, rfl, rfl, rfl, trivial⟩ ?_
      refine AGo.loop (fun m env H => ∃ k : Nat, m = N - k ∧ k ≤ N ∧ env = [(7, I (k : Int)), (6, .ptr 6 0), (5, I (i : Int)), (4, .ptr 4 0), (3, .ptr 3 0), (2, .ptr 1 0), (1, .d (.iptr [Nn a, Nn b, Nn c, .bool true, Nn e, .sl 1 (suD f), .sl 4 (rsD rs), Nn z]))] ∧
        H = [.gone, .cells [I 0, I 0, I 0, B false, I 0, .d .nils, .d .nils, I 0], .front 3 1 (suD f).length, .cells [.d (Nn a), .d (Nn b), .d (Nn c), B true, .d (Nn e), .own 1 (suD f) 2, .own 4 T 5, I 0], .cells [I (fW c), I (fH c), I (fR c), I L], .front 70 4 T.length,
          .cells [B false, I 0, I 0, .own 18 (List.replicate k celLD) 7], .front 48 18 (List.replicate k celLD).length]) N
        ⟨0, rfl, by omega, rfl, rfl⟩ ?_
      rintro m env H ⟨k, rfl, hk, rfl, rfl⟩
      have hkl : (List.replicate k celLD).length ≤ 1000 := by rw [List.length_replicate]; omega
      rcases Nat.lt_or_ge k N with hlt2 | hge2
      · have hrep2 : List.replicate (k + 1) celLD = List.replicate k celLD ++ [celLD] := List.replicate_succ'
        generalize List.replicate k celLD = U at *
        repeat' (first | (apply AGo.drawY [0, 1, 2, 3, 4, 5, 6, 7] 8 8; rfl) | (apply ARegH.pureX; rfl; (apply PureTo.q true; rfl; rfl; first | exact True.intro | omega | (exact hm64)); exact fun _ _ _ h => h; (iterate 6 rfl); kernel_rfl; kernel_rfl) | (apply ARegH.load; rfl; rfl; (first | exact True.intro | omega | (exact hm64)); exact fun _ _ _ h => h; (iterate 6 rfl); kernel_rfl; kernel_rfl) | (apply ARegH.go) | (apply ARegK.fin; kernel_rfl) | (apply ARegK.pureX; rfl; (apply PureTo.q true; rfl; rfl; first | exact True.intro | omega | (exact hm64)); exact fun _ _ _ h => h; (iterate 6 rfl); kernel_rfl; kernel_rfl) | (apply ARegK.call (k2); (iterate 8 rfl); kernel_rfl; rfl; rfl; rfl; try simp only [names, putH, AV.ren, AV.renL, AObj.ren, nh, Nat.reduceAdd, Nat.reduceSub]) | (exact AGo.mid0) | (apply AGo.append; (iterate 11 rfl); (first | rfl | (simp only [List.length_append, List.length_map, List.length_cons, List.length_nil]; omega)); (first | (simp only [List.length_append, List.length_map, List.length_cons, List.length_nil]; omega) | (exact hm64)); simp only [List.set_cons_zero, List.set_cons_succ]) | apply AGo.seq | apply AGo.block | apply AGo.blk | apply AGo.skip | apply AGo.nil | (apply AGo.region; rfl) | (apply AGo.q true; rfl; rfl; rfl; rfl; first | exact True.intro | omega | (simp only [Int.toNat_natCast, Int.reduceToNat, IntKind.bits]; omega) | (exact hm64)) | (apply AGo.callP (k2); (iterate 6 rfl)) | (apply AGo.condDT; rfl; first | omega | rfl) | (apply AGo.condDF; rfl; omega) | (apply AGo.alloc; (iterate 5 rfl); simp only [nm, Nat.reduceAdd, spliceA, AV.cells, D.cells]) | (apply AGo.box; (iterate 6 rfl); simp only [nm, Nat.reduceAdd, spliceA, AV.cells, D.cells]) | (apply AGo.store; (iterate 9 rfl); exact Nat.le_of_ble_eq_true rfl; simp only [nm, Nat.reduceAdd, spliceA, AV.cells, D.cells]) | (apply AGo.build; (iterate 5 rfl); simp only [nm, Nat.reduceAdd, spliceA, AV.cells, D.cells, mkAgg, unDs, AV.unD]) | (apply AGo.buildSlice; (iterate 11 rfl)) | intro _ | (apply AGo.outL; rfl; rfl))
        all_goals first
          | exact AGo.round [(7, I ((k + 1 : Nat) : Int)), (6, .ptr 6 0), (5, I (i : Int)), (4, .ptr 4 0), (3, .ptr 3 0), (2, .ptr 1 0), (1, .d (.iptr [Nn a, Nn b, Nn c, .bool true, Nn e, .sl 1 (suD f), .sl 4 (rsD rs), Nn z]))] (N - (k + 1)) (by omega) ⟨rfl, rfl, rfl, rfl, rfl, rfl, rfl, trivial⟩ ⟨k + 1, rfl, hlt2, rfl, by first | (rw [hrep2]; done) | (rw [hrep2]; rfl)⟩
          | (exfalso; omega) | trace_state
      · obtain rfl : k = N := by omega
        repeat' (first | (apply AGo.drawY [0, 1, 2, 3, 4, 5, 6, 7] 8 8; rfl) | (apply ARegH.pureX; rfl; (apply PureTo.q true; rfl; rfl; first | exact True.intro | omega | (exact hm64)); exact fun _ _ _ h => h; (iterate 6 rfl); kernel_rfl; kernel_rfl) | (apply ARegH.load; rfl; rfl; (first | exact True.intro | omega | (exact hm64)); exact fun _ _ _ h => h; (iterate 6 rfl); kernel_rfl; kernel_rfl) | (apply ARegH.go) | (apply ARegK.fin; kernel_rfl) | (apply ARegK.pureX; rfl; (apply PureTo.q true; rfl; rfl; first | exact True.intro | omega | (exact hm64)); exact fun _ _ _ h => h; (iterate 6 rfl); kernel_rfl; kernel_rfl) | (apply ARegK.call (k2); (iterate 8 rfl); kernel_rfl; rfl; rfl; rfl; try simp only [names, putH, AV.ren, AV.renL, AObj.ren, nh, Nat.reduceAdd, Nat.reduceSub]) | (exact AGo.mid0) | (apply AGo.append; (iterate 11 rfl); (first | rfl | (simp only [List.length_append, List.length_map, List.length_cons, List.length_nil]; omega)); (first | (simp only [List.length_append, List.length_map, List.length_cons, List.length_nil]; omega) | (exact hm64)); simp only [List.set_cons_zero, List.set_cons_succ]) | apply AGo.seq | apply AGo.block | apply AGo.blk | apply AGo.skip | apply AGo.nil | (apply AGo.region; rfl) | (apply AGo.q true; rfl; rfl; rfl; rfl; first | exact True.intro | omega | (simp only [Int.toNat_natCast, Int.reduceToNat, IntKind.bits]; omega) | (exact hm64)) | (apply AGo.callP (k2); (iterate 6 rfl)) | (apply AGo.condDT; rfl; first | omega | rfl) | (apply AGo.condDF; rfl; omega) | (apply AGo.alloc; (iterate 5 rfl); simp only [nm, Nat.reduceAdd, spliceA, AV.cells, D.cells]) | (apply AGo.box; (iterate 6 rfl); simp only [nm, Nat.reduceAdd, spliceA, AV.cells, D.cells]) | (apply AGo.store; (iterate 9 rfl); exact Nat.le_of_ble_eq_true rfl; simp only [nm, Nat.reduceAdd, spliceA, AV.cells, D.cells]) | (apply AGo.build; (iterate 5 rfl); simp only [nm, Nat.reduceAdd, spliceA, AV.cells, D.cells, mkAgg, unDs, AV.unD]) | (apply AGo.buildSlice; (iterate 11 rfl)) | intro _ | (apply AGo.outL; rfl; rfl))
        all_goals first
          | exact AGo.roundD 6 [(5, I ((i + 1 : Nat) : Int)), (4, .ptr 4 0), (3, .ptr 3 0), (2, .ptr 1 0), (1, .d (.iptr [Nn a, Nn b, Nn c, .bool true, Nn e, .sl 1 (suD f), .sl 4 (rsD rs), Nn z]))] (n - (i + 1)) (by omega) rfl rfl rfl rfl ⟨rfl, rfl, rfl, rfl, rfl, trivial⟩ ⟨i + 1, rfl, hlt, rfl, by first | (rw [hrep]; done) | (rw [hrep]; rfl)⟩
          | (exfalso; omega) | trace_state
    · obtain rfl : i = n := by omega
      repeat' (first | apply AGo.seq | apply AGo.block | apply AGo.blk | apply AGo.skip | apply AGo.nil | (apply AGo.region; rfl) | (apply AGo.q true; rfl; rfl; rfl; rfl; first | exact True.intro | omega | (simp only [Int.toNat_natCast, Int.reduceToNat, IntKind.bits]; omega)) | (apply AGo.condDT; rfl; first | omega | rfl) | (apply AGo.condDF; rfl; omega) | (apply AGo.alloc; (iterate 5 rfl); simp only [nm, Nat.reduceAdd, spliceA, AV.cells, D.cells]) | (apply AGo.box; (iterate 6 rfl); simp only [nm, Nat.reduceAdd, spliceA, AV.cells, D.cells]) | (apply AGo.store; (iterate 9 rfl); exact Nat.le_of_ble_eq_true rfl; simp only [nm, Nat.reduceAdd, spliceA, AV.cells, D.cells]) | (apply AGo.build; (iterate 5 rfl); simp only [nm, Nat.reduceAdd, spliceA, AV.cells, D.cells, mkAgg, unDs, AV.unD]) | (apply AGo.buildSlice; (iterate 11 rfl)) | (apply AGo.retW (.d (shD ⟨a, b, c, true, e, f⟩ (rsD (blankS rs)) 0)); rfl; exact Weak.d bw; rfl; rfl; rfl) | intro _ | (apply AGo.outL; rfl; rfl))
      all_goals first | exact ⟨rfl, rfl⟩ | (exfalso; omega) | trace_state
  · refine AGo.weak (env' := [(5, I ((0 : Nat) : Int)), (4, .ptr 4 0), (3, .ptr 2 0), (2, .ptr 1 0), (1, .d (.iptr [Nn a, Nn b, Nn c, .bool true, Nn e, .sl 1 (suD f), .sl 4 (rsD rs), Nn z]))]) ⟨rfl, rfl, rfl, rfl, rfl, trivial⟩ ?_
    refine AGo.loop (fun m env H => ∃ i : Nat, m = n - i ∧ i ≤ n ∧ env = [(5, I (i : Int)), (4, .ptr 4 0), (3, .ptr 2 0), (2, .ptr 1 0), (1, .d (.iptr [Nn a, Nn b, Nn c, .bool true, Nn e, .sl 1 (suD f), .sl 4 (rsD rs), Nn z]))] ∧
      H = [.gone, .cells [I 0, I 0, I 0, B false, I 0, .d .nils, .d .nils, I 0], .cells [.d (Nn a), .d (Nn b), .d (Nn c), B true, .d (Nn e), .own 1 (suD f) 3, .own 4 (List.replicate i (rwBL N)) 5, I 0], .front 3 1 (suD f).length, .cells [I (fW c), I (fH c), I (fR c), I L], .front 70 4 (List.replicate i (rwBL N)).length]) n
      ⟨0, rfl, by omega, rfl, rfl⟩ ?_
    rintro m env H ⟨i, rfl, hi, rfl, rfl⟩
    have hTl : (List.replicate i (rwBL N)).length ≤ 1000 := by rw [List.length_replicate]; omega
    rcases Nat.lt_or_ge i n with hlt | hge
    · have hrep : List.replicate (i + 1) (rwBL N) = List.replicate i (rwBL N) ++ [rwBL N] := List.replicate_succ'
      generalize List.replicate i (rwBL N) = T at *
      repeat' (first | apply AGo.seq | apply AGo.block | apply AGo.blk | apply AGo.skip | apply AGo.nil | (apply AGo.region; rfl) | (apply AGo.q true; rfl; rfl; rfl; rfl; first | exact True.intro | omega | (simp only [Int.toNat_natCast, Int.reduceToNat, IntKind.bits]; omega)) | (apply AGo.condDT; rfl; first | omega | rfl) | (apply AGo.condDF; rfl; omega) | (apply AGo.alloc; (iterate 5 rfl); simp only [nm, Nat.reduceAdd, spliceA, AV.cells, D.cells]) | (apply AGo.box; (iterate 6 rfl); simp only [nm, Nat.reduceAdd, spliceA, AV.cells, D.cells]) | (apply AGo.store; (iterate 9 rfl); exact Nat.le_of_ble_eq_true rfl; simp only [nm, Nat.reduceAdd, spliceA, AV.cells, D.cells]) | (apply AGo.build; (iterate 5 rfl); simp only [nm, Nat.reduceAdd, spliceA, AV.cells, D.cells, mkAgg, unDs, AV.unD]) | (apply AGo.buildSlice; (iterate 11 rfl)) | intro _ | (apply AGo.outL; rfl; rfl))
      all_goals first | (exfalso; omega) | skip
      repeat (first | apply AGo.seq | apply AGo.block | apply AGo.blk | apply AGo.skip | apply AGo.nil | (apply AGo.region; rfl) | (apply AGo.q true; rfl; rfl; rfl; rfl; first | exact True.intro | omega | (simp only [Int.toNat_natCast, Int.reduceToNat, IntKind.bits]; omega)) | (apply AGo.condDT; rfl; first | omega | rfl) | (apply AGo.condDF; rfl; omega) | (apply AGo.alloc; (iterate 5 rfl); simp only [nm, Nat.reduceAdd, spliceA, AV.cells, D.cells]) | (apply AGo.box; (iterate 6 rfl); simp only [nm, Nat.reduceAdd, spliceA, AV.cells, D.cells]) | (apply AGo.store; (iterate 9 rfl); exact Nat.le_of_ble_eq_true rfl; simp only [nm, Nat.reduceAdd, spliceA, AV.cells, D.cells]) | (apply AGo.build; (iterate 5 rfl); simp only [nm, Nat.reduceAdd, spliceA, AV.cells, D.cells, mkAgg, unDs, AV.unD]) | (apply AGo.buildSlice; (iterate 11 rfl)) | (apply AGo.ghostC 6 3 48 18; rfl; rfl; simp only [List.set_cons_zero, List.set_cons_succ, List.length_cons, List.length_nil, Nat.reduceAdd, List.cons_append, List.nil_append]) | (apply AGo.freezeC 6 3; rfl; rfl; rfl; first | rfl | (simp only [List.length_append, List.length_map, List.length_set, List.length_replicate, List.length_cons, List.length_nil]; omega); simp only [List.set_cons_zero, List.set_cons_succ]))
      simp only [List.set_cons_succ, List.set_cons_zero, List.length_nil]
      refine AGo.weak (env' := [(7, I ((0 : Nat) : Int)), (6, .ptr 6 0), (5, I (i : Int)), (4, .ptr 4 0), (3, .ptr 2 0), (2, .ptr 1 0), (1, .d (.iptr [Nn a, Nn b, Nn c, .bool true, Nn e, .sl 1 (suD f), .sl 4 (rsD rs), Nn z]))]) ⟨rfl, rfl, rfl, rfl, rfl, rfl, rfl, trivial⟩ ?_
      refine AGo.loop (fun m env H => ∃ k : Nat, m = N - k ∧ k ≤ N ∧ env = [(7, I (k : Int)), (6, .ptr 6 0), (5, I (i : Int)), (4, .ptr 4 0), (3, .ptr 2 0), (2, .ptr 1 0), (1, .d (.iptr [Nn a, Nn b, Nn c, .bool true, Nn e, .sl 1 (suD f), .sl 4 (rsD rs), Nn z]))] ∧
        H = [.gone, .cells [I 0, I 0, I 0, B false, I 0, .d .nils, .d .nils, I 0], .cells [.d (Nn a), .d (Nn b), .d (Nn c), B true, .d (Nn e), .own 1 (suD f) 3, .own 4 T 5, I 0], .front 3 1 (suD f).length, .cells [I (fW c), I (fH c), I (fR c), I L], .front 70 4 T.length,
          .cells [B false, I 0, I 0, .own 18 (List.replicate k celLD) 7], .front 48 18 (List.replicate k celLD).length]) N
        ⟨0, rfl, by omega, rfl, rfl⟩ ?_
      rintro m env H ⟨k, rfl, hk, rfl, rfl⟩
      have hkl : (List.replicate k celLD).length ≤ 1000 := by rw [List.length_replicate]; omega
      rcases Nat.lt_or_ge k N with hlt2 | hge2
      · have hrep2 : List.replicate (k + 1) celLD = List.replicate k celLD ++ [celLD] := List.replicate_succ'
        generalize List.replicate k celLD = U at *
        repeat' (first | (apply AGo.drawY [0, 1, 2, 3, 4, 5, 6, 7] 8 8; rfl) | (apply ARegH.pureX; rfl; (apply PureTo.q true; rfl; rfl; first | exact True.intro | omega | (exact hm64)); exact fun _ _ _ h => h; (iterate 6 rfl); kernel_rfl; kernel_rfl) | (apply ARegH.load; rfl; rfl; (first | exact True.intro | omega | (exact hm64)); exact fun _ _ _ h => h; (iterate 6 rfl); kernel_rfl; kernel_rfl) | (apply ARegH.go) | (apply ARegK.fin; kernel_rfl) | (apply ARegK.pureX; rfl; (apply PureTo.q true; rfl; rfl; first | exact True.intro | omega | (exact hm64)); exact fun _ _ _ h => h; (iterate 6 rfl); kernel_rfl; kernel_rfl) | (apply ARegK.call (k2); (iterate 8 rfl); kernel_rfl; rfl; rfl; rfl; try simp only [names, putH, AV.ren, AV.renL, AObj.ren, nh, Nat.reduceAdd, Nat.reduceSub]) | (exact AGo.mid0) | (apply AGo.append; (iterate 11 rfl); (first | rfl | (simp only [List.length_append, List.length_map, List.length_cons, List.length_nil]; omega)); (first | (simp only [List.length_append, List.length_map, List.length_cons, List.length_nil]; omega) | (exact hm64)); simp only [List.set_cons_zero, List.set_cons_succ]) | apply AGo.seq | apply AGo.block | apply AGo.blk | apply AGo.skip | apply AGo.nil | (apply AGo.region; rfl) | (apply AGo.q true; rfl; rfl; rfl; rfl; first | exact True.intro | omega | (simp only [Int.toNat_natCast, Int.reduceToNat, IntKind.bits]; omega) | (exact hm64)) | (apply AGo.callP (k2); (iterate 6 rfl)) | (apply AGo.condDT; rfl; first | omega | rfl) | (apply AGo.condDF; rfl; omega) | (apply AGo.alloc; (iterate 5 rfl); simp only [nm, Nat.reduceAdd, spliceA, AV.cells, D.cells]) | (apply AGo.box; (iterate 6 rfl); simp only [nm, Nat.reduceAdd, spliceA, AV.cells, D.cells]) | (apply AGo.store; (iterate 9 rfl); exact Nat.le_of_ble_eq_true rfl; simp only [nm, Nat.reduceAdd, spliceA, AV.cells, D.cells]) | (apply AGo.build; (iterate 5 rfl); simp only [nm, Nat.reduceAdd, spliceA, AV.cells, D.cells, mkAgg, unDs, AV.unD]) | (apply AGo.buildSlice; (iterate 11 rfl)) | intro _ | (apply AGo.outL; rfl; rfl))
        all_goals first
          | exact AGo.round [(7, I ((k + 1 : Nat) : Int)), (6, .ptr 6 0), (5, I (i : Int)), (4, .ptr 4 0), (3, .ptr 2 0), (2, .ptr 1 0), (1, .d (.iptr [Nn a, Nn b, Nn c, .bool true, Nn e, .sl 1 (suD f), .sl 4 (rsD rs), Nn z]))] (N - (k + 1)) (by omega) ⟨rfl, rfl, rfl, rfl, rfl, rfl, rfl, trivial⟩ ⟨k + 1, rfl, hlt2, rfl, by first | (rw [hrep2]; done) | (rw [hrep2]; rfl)⟩
          | (exfalso; omega) | trace_state
      · obtain rfl : k = N := by omega
        repeat' (first | (apply AGo.drawY [0, 1, 2, 3, 4, 5, 6, 7] 8 8; rfl) | (apply ARegH.pureX; rfl; (apply PureTo.q true; rfl; rfl; first | exact True.intro | omega | (exact hm64)); exact fun _ _ _ h => h; (iterate 6 rfl); kernel_rfl; kernel_rfl) | (apply ARegH.load; rfl; rfl; (first | exact True.intro | omega | (exact hm64)); exact fun _ _ _ h => h; (iterate 6 rfl); kernel_rfl; kernel_rfl) | (apply ARegH.go) | (apply ARegK.fin; kernel_rfl) | (apply ARegK.pureX; rfl; (apply PureTo.q true; rfl; rfl; first | exact True.intro | omega | (exact hm64)); exact fun _ _ _ h => h; (iterate 6 rfl); kernel_rfl; kernel_rfl) | (apply ARegK.call (k2); (iterate 8 rfl); kernel_rfl; rfl; rfl; rfl; try simp only [names, putH, AV.ren, AV.renL, AObj.ren, nh, Nat.reduceAdd, Nat.reduceSub]) | (exact AGo.mid0) | (apply AGo.append; (iterate 11 rfl); (first | rfl | (simp only [List.length_append, List.length_map, List.length_cons, List.length_nil]; omega)); (first | (simp only [List.length_append, List.length_map, List.length_cons, List.length_nil]; omega) | (exact hm64)); simp only [List.set_cons_zero, List.set_cons_succ]) | apply AGo.seq | apply AGo.block | apply AGo.blk | apply AGo.skip | apply AGo.nil | (apply AGo.region; rfl) | (apply AGo.q true; rfl; rfl; rfl; rfl; first | exact True.intro | omega | (simp only [Int.toNat_natCast, Int.reduceToNat, IntKind.bits]; omega) | (exact hm64)) | (apply AGo.callP (k2); (iterate 6 rfl)) | (apply AGo.condDT; rfl; first | omega | rfl) | (apply AGo.condDF; rfl; omega) | (apply AGo.alloc; (iterate 5 rfl); simp only [nm, Nat.reduceAdd, spliceA, AV.cells, D.cells]) | (apply AGo.box; (iterate 6 rfl); simp only [nm, Nat.reduceAdd, spliceA, AV.cells, D.cells]) | (apply AGo.store; (iterate 9 rfl); exact Nat.le_of_ble_eq_true rfl; simp only [nm, Nat.reduceAdd, spliceA, AV.cells, D.cells]) | (apply AGo.build; (iterate 5 rfl); simp only [nm, Nat.reduceAdd, spliceA, AV.cells, D.cells, mkAgg, unDs, AV.unD]) | (apply AGo.buildSlice; (iterate 11 rfl)) | intro _ | (apply AGo.outL; rfl; rfl))
        all_goals first
          | exact AGo.roundD 6 [(5, I ((i + 1 : Nat) : Int)), (4, .ptr 4 0), (3, .ptr 2 0), (2, .ptr 1 0), (1, .d (.iptr [Nn a, Nn b, Nn c, .bool true, Nn e, .sl 1 (suD f), .sl 4 (rsD rs), Nn z]))] (n - (i + 1)) (by omega) rfl rfl rfl rfl ⟨rfl, rfl, rfl, rfl, rfl, trivial⟩ ⟨i + 1, rfl, hlt, rfl, by first | (rw [hrep]; done) | (rw [hrep]; rfl)⟩
          | (exfalso; omega) | trace_state
    · obtain rfl : i = n := by omega
      repeat' (first | apply AGo.seq | apply AGo.block | apply AGo.blk | apply AGo.skip | apply AGo.nil | (apply AGo.region; rfl) | (apply AGo.q true; rfl; rfl; rfl; rfl; first | exact True.intro | omega | (simp only [Int.toNat_natCast, Int.reduceToNat, IntKind.bits]; omega)) | (apply AGo.condDT; rfl; first | omega | rfl) | (apply AGo.condDF; rfl; omega) | (apply AGo.alloc; (iterate 5 rfl); simp only [nm, Nat.reduceAdd, spliceA, AV.cells, D.cells]) | (apply AGo.box; (iterate 6 rfl); simp only [nm, Nat.reduceAdd, spliceA, AV.cells, D.cells]) | (apply AGo.store; (iterate 9 rfl); exact Nat.le_of_ble_eq_true rfl; simp only [nm, Nat.reduceAdd, spliceA, AV.cells, D.cells]) | (apply AGo.build; (iterate 5 rfl); simp only [nm, Nat.reduceAdd, spliceA, AV.cells, D.cells, mkAgg, unDs, AV.unD]) | (apply AGo.buildSlice; (iterate 11 rfl)) | (apply AGo.retW (.d (shD ⟨a, b, c, true, e, f⟩ (rsD (blankS rs)) 0)); rfl; exact Weak.d bw; rfl; rfl; rfl) | intro _ | (apply AGo.outL; rfl; rfl))
      all_goals first | exact ⟨rfl, rfl⟩ | (exfalso; omega) | trace_state
end Go.Proofs.YtdihjnifoikbeaaDoor.Av.Sh

/- Sheets that are dropped: what is the same. -/
set_option linter.unusedSimpArgs false
set_option linter.unusedVariables false
set_option maxRecDepth 100000
namespace Go.Proofs.YtdihjnifoikbeaaDoor.Av.Sh
open Go Bt Tc Co Wr
attribute [local irreducible] AGo ACalls
variable {gl : List (Nat × List D)}
set_option maxHeartbeats 4000000 in
theorem rsame10_nil : ACalls (cxg gl) 58 [.d (.sl 3 []), .d (.sl 3 [])] [] (fun r H => r = B true ∧ H = []) := by
  refine ACalls.enter Tryd.func58 rfl Tryd.ntmps58 (by kernel_rfl) rfl ?_; simp only [argEnv, Nat.reduceAdd, List.length_nil, List.length_cons]
  repeat' (first | apply AGo.seq | apply AGo.block | apply AGo.skip | apply AGo.nil | (apply AGo.region; rfl) | (apply AGo.q true; rfl; rfl; rfl; rfl; first | exact True.intro | omega | (simp only [Int.toNat_natCast, Int.reduceToNat, IntKind.bits]; omega)) | (apply AGo.exit; rfl) | (apply AGo.condF; rfl) | apply AGo.loopU | intro _ | (apply AGo.retN; rfl; rfl; rfl; rfl))
  all_goals first | exact ⟨rfl, rfl⟩ | (exfalso; omega) | trace_state
abbrev celN : D := .agg [In 0, .bool true, In 0, In 0, In 0, In 0, In 0, In 0, In 0, In 0, In 0, In 0, .sl 3 [], .sl 3 [], .sl 3 [], .sl 3 [], .sl 3 [], .sl 3 []]
set_option maxHeartbeats 16000000 in
theorem rsame21_nil : ACalls (cxg gl) 23 [.d celN, .d celN] [] (fun r H => r = B true ∧ H = []) := by
  have s10 := rsame10_nil (gl := gl)
  refine ACalls.enter Tryd.func23 rfl Tryd.ntmps23 (by kernel_rfl) rfl ?_; simp only [argEnv, Nat.reduceAdd, List.length_nil, List.length_cons]
  repeat' (first | (apply AGo.drawY [0, 1, 2, 3, 4, 5, 6, 7, 8, 9] 10 10; rfl) | (apply ARegH.pureX; rfl; (apply PureTo.q true; rfl; rfl; first | exact True.intro | omega); exact fun _ _ _ h => h; (iterate 6 rfl); kernel_rfl; kernel_rfl) | (apply ARegH.load; rfl; rfl; (first | exact True.intro | omega); exact fun _ _ _ h => h; (iterate 6 rfl); kernel_rfl; kernel_rfl) | (apply ARegH.go) | (apply ARegK.fin; kernel_rfl) | (apply ARegK.pureX; rfl; (apply PureTo.q true; rfl; rfl; first | exact True.intro | omega); exact fun _ _ _ h => h; (iterate 6 rfl); kernel_rfl; kernel_rfl) | (apply ARegK.call (s10); (iterate 8 rfl); kernel_rfl; rfl; rfl; rfl; try simp only [names, putH, AV.ren, AV.renL, AObj.ren, nh, Nat.reduceAdd, Nat.reduceSub]) | (exact AGo.mid0) | apply AGo.seq | apply AGo.block | apply AGo.blk | apply AGo.skip | apply AGo.nil | (apply AGo.region; rfl) | (apply AGo.q true; rfl; rfl; rfl; rfl; first | exact True.intro | omega | (simp only [Int.toNat_natCast, Int.reduceToNat, IntKind.bits]; omega)) | (apply AGo.exit; rfl) | (apply AGo.condDT; rfl; first | omega | rfl) | (apply AGo.condDF; rfl; omega) | (apply AGo.condF; rfl) | (apply AGo.box; (iterate 6 rfl); simp only [nm, Nat.reduceAdd, spliceA, AV.cells, D.cells]) | (apply AGo.unguard; rfl; rfl) | (apply AGo.opx; (apply quiet_neInts; (iterate 12 rfl)); rfl; rfl; rfl) | apply AGo.loopU | apply AGo.lpU | intro _ | (apply AGo.retN; rfl; rfl; rfl; rfl))
  all_goals first | exact ⟨rfl, rfl⟩ | (exfalso; omega) | trace_state
theorem suD_getD (l : List Int) (k : Nat) (v : Int) (h : l[k]? = some v) : (suD l).getD (k : Int).toNat .top = Nn v := by
  simp [suD, List.getD_eq_getElem?_getD, h]
theorem celL_N : celD celL = celN := rfl
attribute [local irreducible] Tc.evsD suD celsD rsD rbD rightS octets packN padS formS checkS sheetOut hdOk lightS cellsOf blankS
set_option maxHeartbeats 16000000 in
theorem rsame24_c (h : Hd) (rs rs2 : List D) (z z2 : Int) (hl : h.supp.length ≤ 100) : ACalls (cxg gl) 45 [.d (shD h rs z), .d (shD h rs2 z2)] [] (fun r H => r = B true ∧ H = []) := by
  have hsl := suD_len h.supp
  have hsg := suD_getD h.supp
  obtain ⟨a, b, c, d, e, f⟩ := h
  simp only at hl hsl hsg
  refine ACalls.enter Tryd.func45 rfl Tryd.ntmps45 (by kernel_rfl) rfl ?_; simp only [argEnv, Nat.reduceAdd, List.length_nil, List.length_cons]
  repeat' (first | apply AGo.seq | apply AGo.block | apply AGo.blk | apply AGo.skip | apply AGo.nil | (apply AGo.region; rfl) | (apply AGo.q true; rfl; rfl; rfl; rfl; first | exact True.intro | omega | (simp only [Int.toNat_natCast, Int.reduceToNat, IntKind.bits]; omega)) | (apply AGo.box; (iterate 6 rfl); simp only [nm, Nat.reduceAdd, spliceA, AV.cells, D.cells]) | (apply AGo.unguard; rfl; rfl) | (apply AGo.cBT; rfl; first | (simp only [bT]; omega)) | (apply AGo.cBF; rfl; first | (simp only [bF]; omega) | exact ndF rfl) | (apply AGo.gBF; rfl; rfl; rfl; first | (simp only [bF]; omega) | exact ndF rfl) | intro _ | (apply AGo.retN; rfl; rfl; rfl; rfl) | (apply AGo.outL; rfl; rfl))
  refine AGo.weak (env' := [(5, I ((0 : Nat) : Int)), (3, .ptr 1 0), (2, .ptr 0 0)]) ⟨rfl, rfl, rfl, trivial⟩ ?_
  refine AGo.loop (fun m env H => ∃ i : Nat, m = f.length - i ∧ i ≤ f.length ∧ env = [(5, I (i : Int)), (3, .ptr 1 0), (2, .ptr 0 0)] ∧ H = [.cells (shA ⟨a, b, c, d, e, f⟩ rs z), .cells (shA ⟨a, b, c, d, e, f⟩ rs2 z2)]) f.length
    ⟨0, rfl, by omega, rfl, rfl⟩ ?_
  rintro m env H ⟨i, rfl, hi, rfl, rfl⟩
  rcases Nat.lt_or_ge i f.length with hlt | hge
  · have g1 := hsg i _ (List.getElem?_eq_getElem hlt)
    generalize f[i] = v at *
    repeat' (first | (apply AGo.drawY [0, 1, 2, 3, 4, 5, 6, 7, 8, 9, 10] 11 11; rfl) | (apply ARegH.pureX; rfl; (apply pure_idxG; (iterate 7 rfl); (first | omega | (rw [hsl]; omega)); exact g1); exact fun _ _ _ h => h; (iterate 6 rfl); kernel_rfl; kernel_rfl) | (apply ARegH.pureX; rfl; (apply PureTo.q true; rfl; rfl; first | exact True.intro | omega | (rw [hsl]; omega)); exact fun _ _ _ h => h; (iterate 6 rfl); kernel_rfl; kernel_rfl) | (apply ARegH.load; rfl; rfl; (first | exact True.intro | omega | (rw [hsl]; omega)); exact fun _ _ _ h => h; (iterate 6 rfl); kernel_rfl; kernel_rfl) | (apply ARegH.go) | (apply ARegK.fin; kernel_rfl) | (exact AGo.mid0) | apply AGo.seq | apply AGo.block | apply AGo.blk | apply AGo.skip | apply AGo.nil | (apply AGo.region; rfl) | (apply AGo.q true; rfl; rfl; rfl; rfl; first | exact True.intro | omega | (simp only [Int.toNat_natCast, Int.reduceToNat, IntKind.bits]; omega) | (rw [hsl]; omega)) | (apply AGo.box; (iterate 6 rfl); simp only [nm, Nat.reduceAdd, spliceA, AV.cells, D.cells]) | (apply AGo.unguard; rfl; rfl) | (apply AGo.cBT; rfl; first | (simp only [bT]; omega)) | (apply AGo.cBF; rfl; first | (simp only [bF]; omega) | exact ndF rfl) | (apply AGo.gBF; rfl; rfl; rfl; first | (simp only [bF]; omega) | exact ndF rfl) | intro _ | (apply AGo.retN; rfl; rfl; rfl; rfl) | (apply AGo.outL; rfl; rfl))
    all_goals first
      | exact AGo.round [(5, I ((i + 1 : Nat) : Int)), (3, .ptr 1 0), (2, .ptr 0 0)] (f.length - (i + 1)) (by omega) ⟨rfl, rfl, rfl, trivial⟩ ⟨i + 1, rfl, hlt, rfl, rfl⟩
      | (exfalso; omega) | trace_state
  · repeat' (first | apply AGo.seq | apply AGo.block | apply AGo.blk | apply AGo.skip | apply AGo.nil | (apply AGo.region; rfl) | (apply AGo.q true; rfl; rfl; rfl; rfl; first | exact True.intro | omega | (simp only [Int.toNat_natCast, Int.reduceToNat, IntKind.bits]; omega) | (rw [hsl]; omega)) | (apply AGo.box; (iterate 6 rfl); simp only [nm, Nat.reduceAdd, spliceA, AV.cells, D.cells]) | (apply AGo.unguard; rfl; rfl) | (apply AGo.cBT; rfl; first | (simp only [bT]; omega)) | (apply AGo.cBF; rfl; first | (simp only [bF]; omega) | exact ndF rfl) | (apply AGo.gBF; rfl; rfl; rfl; first | (simp only [bF]; omega) | exact ndF rfl) | intro _ | (apply AGo.retN; rfl; rfl; rfl; rfl) | (apply AGo.outL; rfl; rfl))
    all_goals first | exact ⟨rfl, rfl⟩ | (exfalso; omega) | trace_state
end Go.Proofs.YtdihjnifoikbeaaDoor.Av.Sh
