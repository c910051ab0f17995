/- The document's Pack, of long rows. -/
import Derived.Test.YtocmdllfdeiceaaGreatDoorPd
set_option linter.unusedSimpArgs false
set_option linter.unusedVariables false
set_option maxRecDepth 100000
namespace Go.Proofs.YtocmdllfdeiceaaGreatDoor.Av.Bt
open Go
attribute [local irreducible] AGo ACalls
variable {gl : List (Nat × List D)}
attribute [local irreducible] packB numS
set_option maxHeartbeats 4000000 in
theorem packL_c (w : List UInt8) (hw : w.length ≤ 20000000) (hd : w.all isDig = true) : ACalls (cxg gl) 16 [S w] [] (fun r H => r = S (packN w) ∧ H = []) := by
  obtain ⟨p1, p2⟩ := padN_ok w.length
  have hL := padS_len w
  have hLd := padS_dig w hd
  refine ACalls.enter Tryz.func16 rfl Tryz.ntmps16 (by kernel_rfl) rfl ?_; simp only [argEnv, Nat.reduceAdd, List.length_nil, List.length_cons]
  repeat (first | apply AGo.seq | apply AGo.block | apply AGo.blk | apply AGo.skip | apply AGo.nil | (apply AGo.region; rfl) | (apply AGo.q true; rfl; rfl; rfl; rfl; first | exact True.intro | omega | (simp only [Int.toNat_natCast, Int.reduceToNat, IntKind.bits]; omega)) | (apply AGo.condDT; rfl; first | omega | rfl) | (apply AGo.condDF; rfl; omega) | (apply AGo.cBT; rfl; first | (simp only [bT]; omega)) | (apply AGo.cBF; rfl; first | (simp only [bF]; omega) | exact ndF rfl) | (apply AGo.buildSlice; (iterate 11 rfl)))
  refine AGo.weak (env' := [(0, S w)]) ⟨rfl, trivial⟩ ?_
  refine AGo.loop (fun m env H => ∃ k : Nat, m = padN w.length - k ∧ k ≤ padN w.length ∧ env = [(0, S (w ++ List.replicate k 48))] ∧ H = []) (padN w.length)
    ⟨0, rfl, by omega, by simp, rfl⟩ ?_
  rintro m env H ⟨k, rfl, hk, rfl, rfl⟩
  have hl : (w ++ List.replicate k (48 : UInt8)).length = w.length + k := by simp
  rcases Nat.lt_or_ge k (padN w.length) with hlt | hge
  · have k1 : (!decide (((w ++ List.replicate k (48 : UInt8)).length : Int) % 8 = 0)) = true := by
      rw [hl, decide_eq_false (by unfold padN at hlt; omega)]; rfl
    have ha : w ++ List.replicate (k + 1) (48 : UInt8) = (w ++ List.replicate k 48) ++ [48] := by rw [List.replicate_succ', List.append_assoc]
    repeat' (first | apply AGo.seq | apply AGo.block | apply AGo.blk | apply AGo.skip | apply AGo.nil | (apply AGo.region; rfl) | (apply AGo.q true; rfl; rfl; rfl; rfl; first | exact True.intro | omega | (simp only [Int.toNat_natCast, Int.reduceToNat, IntKind.bits]; omega) | (simp only [List.length_append, List.length_replicate, List.length_cons, List.length_nil]; omega)) | (apply AGo.condDT; rfl; first | omega | rfl) | (apply AGo.condDF; rfl; omega) | (apply AGo.cBT; rfl; first | (simp only [bT]; omega) | (exact k1)) | (apply AGo.cBF; rfl; first | (simp only [bF]; omega) | exact ndF rfl | (exact k1)) | (apply AGo.buildSlice; (iterate 11 rfl)) | intro _ | (apply AGo.retN; rfl; rfl; rfl; rfl) | (apply AGo.outL; rfl; rfl))
    exact AGo.round [(0, S (w ++ List.replicate (k + 1) 48))] (padN w.length - (k + 1)) (by omega) ⟨congrArg S ha.symm, trivial⟩ ⟨k + 1, rfl, hlt, rfl, rfl⟩
  · obtain rfl : k = padN w.length := by omega
    have k1 : (!decide (((w ++ List.replicate (padN w.length) (48 : UInt8)).length : Int) % 8 = 0)) = false := by
      rw [hl, decide_eq_true (by omega)]; rfl
    repeat' (first | apply AGo.seq | apply AGo.block | apply AGo.blk | apply AGo.skip | apply AGo.nil | (apply AGo.region; rfl) | (apply AGo.q true; rfl; rfl; rfl; rfl; first | exact True.intro | omega | (simp only [Int.toNat_natCast, Int.reduceToNat, IntKind.bits]; omega)) | (apply AGo.condDT; rfl; first | omega | rfl) | (apply AGo.condDF; rfl; omega) | (apply AGo.cBT; rfl; first | (simp only [bT]; omega) | (exact k1)) | (apply AGo.cBF; rfl; first | (simp only [bF]; omega) | exact ndF rfl | (exact k1)) | (apply AGo.buildSlice; (iterate 11 rfl)) | intro _ | (apply AGo.retN; rfl; rfl; rfl; rfl) | (apply AGo.outL; rfl; rfl))
    rw [show w ++ List.replicate (padN w.length) (48 : UInt8) = padS w from rfl]
    unfold packN
    generalize padS w = L at *
    have h8 : L.length % 8 = 0 := by omega
    have hq : L.length = 8 * (L.length / 8) := by omega
    generalize hqe : L.length / 8 = q at *
    refine AGo.weak (env' := [(4, I 0), (3, .d .nils), (0, S L)]) ⟨rfl, rfl, rfl, trivial⟩ ?_
    refine AGo.loop (fun m env H => ∃ i : Nat, m = q - i ∧ i ≤ q ∧ ((i = 0 ∧ env = [(4, I ((8 * i : Nat) : Int)), (3, .d .nils), (0, S L)] ∧ H = []) ∨ (0 < i ∧ env = [(4, I ((8 * i : Nat) : Int)), (3, .own 1 (octets (packB L i)) 0), (0, S L)] ∧ H = [.front 5 1 (octets (packB L i)).length]))) q
      ⟨0, by simp, Nat.zero_le _, .inl ⟨rfl, rfl, rfl⟩⟩ ?_
    rintro n env H ⟨i, rfl, hi, hcase⟩
    have hpl := packB_len L i
    rcases Nat.lt_or_ge i q with hlt | hge
    · have hs : (L.take (((8 * i : Nat) : Int) + 8).toNat).drop ((8 * i : Nat) : Int).toNat = (L.drop (8 * i)).take 8 := by
        rw [show (((8 * i : Nat) : Int) + 8).toNat = 8 * i + 8 by omega, Int.toNat_natCast, List.drop_take]
        congr 1; omega
      have hcl : ((L.drop (8 * i)).take 8).length = 8 := by rw [List.length_take, List.length_drop]; omega
      have hcd : ((L.drop (8 * i)).take 8).all isDig = true := by
        rw [List.all_eq_true] at hLd ⊢
        exact fun x hx => hLd x (List.mem_of_mem_drop (List.mem_of_mem_take hx))
      have hn := number_c (gl := gl) ((L.drop (8 * i)).take 8) (by omega) hcd
      obtain ⟨n1, n2⟩ := numS_bd _ hcd
      rw [hcl] at n2
      have hb : numS ((L.drop (8 * i)).take 8) % 256 = ((UInt8.ofNat (numS ((L.drop (8 * i)).take 8)).toNat).toNat : Int) := by
        have : ∀ m : Nat, (UInt8.ofNat m).toNat = m % 256 := fun m => by simp
        rw [this]; omega
      have hsucc := packB_succ L i
      generalize (L.drop (8 * i)).take 8 = ch at *
      have hn' : ACalls (cxg gl) 50 [S ((L.take (((8 * i : Nat) : Int) + 8).toNat).drop ((8 * i : Nat) : Int).toNat)] [] (fun r H => r = I (numS ch) ∧ H = []) := by rw [hs]; exact hn
      have hres : octets (packB L (i + 1)) = octets (packB L i) ++ [D.int .u8 (numS ch % 256)] := by rw [hsucc, octets_append, hb]; rfl
      rcases hcase with ⟨hi0, rfl, rfl⟩ | ⟨h0, rfl, rfl⟩
      · repeat' (first | (apply AGo.append; (iterate 11 rfl); (first | rfl | (simp only [List.length_append, List.length_map, List.length_cons, List.length_nil]; omega)); (first | (simp only [List.length_append, List.length_map, List.length_cons, List.length_nil]; omega) | (simp only [octets_length, List.length_cons, List.length_nil]; omega)); simp only [List.set_cons_zero, List.set_cons_succ]) | (apply AGo.appendN; (iterate 10 rfl); (first | (simp only [List.length_append, List.length_map, List.length_cons, List.length_nil]; omega) | (simp only [octets_length, List.length_cons, List.length_nil]; omega)); simp only [List.nil_append, List.cons_append, List.length_nil, List.length_cons, Nat.reduceAdd]) | (apply AGo.strN; (iterate 11 rfl)) | (apply AGo.strB; (iterate 12 rfl)) | apply AGo.seq | apply AGo.block | apply AGo.blk | apply AGo.skip | apply AGo.nil | (apply AGo.region; rfl) | (apply AGo.q true; rfl; rfl; rfl; rfl; first | exact True.intro | omega | (simp only [Int.toNat_natCast, Int.reduceToNat, IntKind.bits]; omega) | (simp only [octets_length, List.length_cons, List.length_nil]; omega)) | (apply AGo.callP (hn'); (iterate 6 rfl)) | (apply AGo.condDT; rfl; first | omega | rfl) | (apply AGo.condDF; rfl; omega) | (apply AGo.cBT; rfl; first | (simp only [bT]; omega)) | (apply AGo.cBF; rfl; first | (simp only [bF]; omega) | exact ndF rfl) | (apply AGo.buildSlice; (iterate 11 rfl)) | intro _ | (apply AGo.retN; rfl; rfl; rfl; rfl) | (apply AGo.outL; rfl; rfl))
        refine AGo.round [(4, I ((8 * (i + 1) : Nat) : Int)), (3, .own 1 (octets (packB L (i + 1))) 0), (0, S L)] (q - (i + 1)) (by omega) ⟨congrArg I (by omega), ?_, rfl, trivial⟩ ⟨i + 1, rfl, hlt, .inr ⟨by omega, rfl, ?_⟩⟩
        · subst hi0; rw [hres, packB_0] <;> rfl
        · subst hi0; rw [hres, packB_0] <;> rfl
      · repeat' (first | (apply AGo.append; (iterate 11 rfl); (first | rfl | (simp only [List.length_append, List.length_map, List.length_cons, List.length_nil]; omega)); (first | (simp only [List.length_append, List.length_map, List.length_cons, List.length_nil]; omega) | (simp only [octets_length, hpl, List.length_cons, List.length_nil]; omega)); simp only [List.set_cons_zero, List.set_cons_succ]) | (apply AGo.appendN; (iterate 10 rfl); (first | (simp only [List.length_append, List.length_map, List.length_cons, List.length_nil]; omega) | (simp only [octets_length, hpl, List.length_cons, List.length_nil]; omega)); simp only [List.nil_append, List.cons_append, List.length_nil, List.length_cons, Nat.reduceAdd]) | (apply AGo.strN; (iterate 11 rfl)) | (apply AGo.strB; (iterate 12 rfl)) | apply AGo.seq | apply AGo.block | apply AGo.blk | apply AGo.skip | apply AGo.nil | (apply AGo.region; rfl) | (apply AGo.q true; rfl; rfl; rfl; rfl; first | exact True.intro | omega | (simp only [Int.toNat_natCast, Int.reduceToNat, IntKind.bits]; omega) | (simp only [octets_length, hpl, List.length_cons, List.length_nil]; omega)) | (apply AGo.callP (hn'); (iterate 6 rfl)) | (apply AGo.condDT; rfl; first | omega | rfl) | (apply AGo.condDF; rfl; omega) | (apply AGo.cBT; rfl; first | (simp only [bT]; omega)) | (apply AGo.cBF; rfl; first | (simp only [bF]; omega) | exact ndF rfl) | (apply AGo.buildSlice; (iterate 11 rfl)) | intro _ | (apply AGo.retN; rfl; rfl; rfl; rfl) | (apply AGo.outL; rfl; rfl))
        refine AGo.round [(4, I ((8 * (i + 1) : Nat) : Int)), (3, .own 1 (octets (packB L (i + 1))) 0), (0, S L)] (q - (i + 1)) (by omega) ⟨congrArg I (by omega), ?_, rfl, trivial⟩ ⟨i + 1, rfl, hlt, .inr ⟨by omega, rfl, ?_⟩⟩
        · rw [hres] <;> rfl
        · rw [hres] <;> rfl
    · obtain rfl : i = q := by omega
      rcases hcase with ⟨hi0, rfl, rfl⟩ | ⟨h0, rfl, rfl⟩
      · repeat' (first | (apply AGo.append; (iterate 11 rfl); (first | rfl | (simp only [List.length_append, List.length_map, List.length_cons, List.length_nil]; omega)); ((simp only [List.length_append, List.length_map, List.length_cons, List.length_nil]; omega)); simp only [List.set_cons_zero, List.set_cons_succ]) | (apply AGo.appendN; (iterate 10 rfl); ((simp only [List.length_append, List.length_map, List.length_cons, List.length_nil]; omega)); simp only [List.nil_append, List.cons_append, List.length_nil, List.length_cons, Nat.reduceAdd]) | (apply AGo.strN; (iterate 11 rfl)) | (apply AGo.strB; (iterate 12 rfl)) | apply AGo.seq | apply AGo.block | apply AGo.blk | apply AGo.skip | apply AGo.nil | (apply AGo.region; rfl) | (apply AGo.q true; rfl; rfl; rfl; rfl; first | exact True.intro | omega | (simp only [Int.toNat_natCast, Int.reduceToNat, IntKind.bits]; omega)) | (apply AGo.condDT; rfl; first | omega | rfl) | (apply AGo.condDF; rfl; omega) | (apply AGo.cBT; rfl; first | (simp only [bT]; omega)) | (apply AGo.cBF; rfl; first | (simp only [bF]; omega) | exact ndF rfl) | (apply AGo.buildSlice; (iterate 11 rfl)) | intro _ | (apply AGo.retN; rfl; rfl; rfl; rfl) | (apply AGo.outL; rfl; rfl))
        all_goals first | exact ⟨by subst hi0; rw [packB_0], rfl⟩ | trace_state
      · repeat' (first | (apply AGo.append; (iterate 11 rfl); (first | rfl | (simp only [List.length_append, List.length_map, List.length_cons, List.length_nil]; omega)); ((simp only [List.length_append, List.length_map, List.length_cons, List.length_nil]; omega)); simp only [List.set_cons_zero, List.set_cons_succ]) | (apply AGo.appendN; (iterate 10 rfl); ((simp only [List.length_append, List.length_map, List.length_cons, List.length_nil]; omega)); simp only [List.nil_append, List.cons_append, List.length_nil, List.length_cons, Nat.reduceAdd]) | (apply AGo.strN; (iterate 11 rfl)) | (apply AGo.strB; (iterate 12 rfl)) | apply AGo.seq | apply AGo.block | apply AGo.blk | apply AGo.skip | apply AGo.nil | (apply AGo.region; rfl) | (apply AGo.q true; rfl; rfl; rfl; rfl; first | exact True.intro | omega | (simp only [Int.toNat_natCast, Int.reduceToNat, IntKind.bits]; omega)) | (apply AGo.condDT; rfl; first | omega | rfl) | (apply AGo.condDF; rfl; omega) | (apply AGo.cBT; rfl; first | (simp only [bT]; omega)) | (apply AGo.cBF; rfl; first | (simp only [bF]; omega) | exact ndF rfl) | (apply AGo.buildSlice; (iterate 11 rfl)) | intro _ | (apply AGo.retN; rfl; rfl; rfl; rfl) | (apply AGo.outL; rfl; rfl))
        all_goals first | exact ⟨rfl, rfl⟩ | trace_state
end Go.Proofs.YtocmdllfdeiceaaGreatDoor.Av.Bt
