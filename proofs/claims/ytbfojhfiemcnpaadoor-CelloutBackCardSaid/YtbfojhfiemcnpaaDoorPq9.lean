/- Cells that are the same. A cell is the same as itself, to the document. -/
import Derived.Test.YtbfojhfiemcnpaaDoorCo2
import Derived.Test.YtbfojhfiemcnpaaDoorPn5
/- Cells that are the same. -/
set_option linter.unusedSimpArgs false
set_option linter.unusedVariables false
set_option maxRecDepth 100000
namespace Go.Proofs.YtbfojhfiemcnpaaDoor.Av.Cs
open Go Bt Tc Co
attribute [local irreducible] AGo ACalls ARegH ARegK ARegK1 AReg
variable {gl : List (Nat × List D)}
def evB (a b : Ev) : Bool := (a.last == b.last) && (decide (a.run = b.run) && (decide (a.level = b.level) && true))
def evsB : List Ev → List Ev → Bool
  | [], [] => true
  | a :: l, b :: m => evB a b && evsB l m
  | _, _ => false
theorem evB_refl (a : Ev) : evB a a = true := by simp [evB]
theorem evsB_refl : ∀ l : List Ev, evsB l l = true
  | [] => rfl
  | a :: l => by rw [evsB, evB_refl, evsB_refl l]; rfl
theorem evsB_len : ∀ l m : List Ev, l.length ≠ m.length → evsB l m = false
  | [], [], h => absurd rfl h
  | [], _ :: _, _ => rfl
  | _ :: _, [], _ => rfl
  | a :: l, b :: m, h => by rw [evsB, evsB_len l m (by simpa using h), Bool.and_false]
theorem evsB_drop (l m : List Ev) (i : Nat) (a b : Ev) (h1 : l[i]? = some a) (h2 : m[i]? = some b) : evsB (l.drop i) (m.drop i) = (evB a b && evsB (l.drop (i + 1)) (m.drop (i + 1))) := by
  rw [drop_cut l i a h1, drop_cut m i b h2, evsB]
attribute [local irreducible] Tc.evsD
set_option maxHeartbeats 8000000 in
theorem sequal_c (l m : List Ev) (hl : l.length ≤ 1000000000000) (hm : m.length ≤ 1000000000000) : ACalls (cxg gl) 22 [.d (evS l), .d (evS m)] [] (fun r H => r = B (evsB l m) ∧ H = []) := by
  have el := evsD_len l
  have em := evsD_len m
  by_cases hlen : l.length = m.length
  · refine ACalls.enter Tryd.func22 rfl Tryd.ntmps22 (by kernel_rfl) rfl ?_; simp only [argEnv, Nat.reduceAdd, List.length_nil, List.length_cons]
    repeat (first | apply AGo.seq | apply AGo.block | apply AGo.blk | apply AGo.skip | apply AGo.nil | apply AGo.qnil | (apply AGo.region; rfl) | ((first | apply AGo.q true | apply AGo.qq true); rfl; rfl; rfl; rfl; first | exact True.intro | omega | (simp only [Int.toNat_natCast, Int.reduceToNat, IntKind.bits]; omega) | (rw [el, em]; omega)) | (apply AGo.drawQ; rfl; rfl; decide +kernel) | (apply AGo.condDT; rfl; first | omega | rfl) | (apply AGo.condDF; rfl; omega) | (apply AGo.cBT; rfl; first | (simp only [bT]; omega)) | (apply AGo.cBF; rfl; first | (simp only [bF]; omega) | exact ndF rfl))
    refine AGo.weak (env' := [(13, I ((0 : Nat) : Int)), (12, I ((evsD l).length : Int)), (1, .d (evS m)), (0, .d (evS l))]) ⟨rfl, rfl, rfl, rfl, trivial⟩ ?_
    refine AGo.loop (fun w env H => ∃ i : Nat, w = l.length - i ∧ i ≤ l.length ∧ evsB (l.drop i) (m.drop i) = evsB l m ∧ env = [(13, I (i : Int)), (12, I ((evsD l).length : Int)), (1, .d (evS m)), (0, .d (evS l))] ∧ H = []) l.length
      ⟨0, rfl, by omega, rfl, rfl, rfl⟩ ?_
    rintro w env H ⟨i, rfl, hi, hd, rfl, rfl⟩
    rcases Nat.lt_or_ge i l.length with hlt | hge
    · have h1 : l[i]? = some l[i] := List.getElem?_eq_getElem hlt
      have h2 : m[i]? = some m[i] := List.getElem?_eq_getElem (by omega)
      generalize l[i] = a at *
      generalize m[i] = b at *
      rw [evsB_drop l m i a b h1 h2] at hd
      have g1 := fun (ti : TI) (ha : ti.agg = true) (hs : ti.size = 3) => ev_load ti ha hs l i a h1
      have g2 := fun (ti : TI) (ha : ti.agg = true) (hs : ti.size = 3) => ev_load ti ha hs m i b h2
      obtain ⟨la, ru, le⟩ := a
      obtain ⟨lb, rv, lf⟩ := b
      unfold evB at hd
      simp only at hd
      cases hE : ((la == lb) && (decide (ru = rv) && (decide (le = lf) && true))) with
      | true =>
        rw [hE, Bool.true_and] at hd
        repeat' (first | apply AGo.seq | apply AGo.block | apply AGo.blk | apply AGo.skip | apply AGo.nil | apply AGo.qnil | (apply AGo.region; rfl) | ((first | apply AGo.q true | apply AGo.qq true); rfl; rfl; rfl; rfl; first | exact True.intro | omega | (simp only [Int.toNat_natCast, Int.reduceToNat, IntKind.bits]; omega) | (rw [el]; omega) | (rw [em]; omega)) | (apply AGo.drawQ; rfl; rfl; decide +kernel) | (apply AGo.condDT; rfl; first | omega | rfl) | (apply AGo.condDF; rfl; omega) | (apply AGo.cBT; rfl; first | (simp only [bT]; omega) | (rw [hE]; rfl)) | (apply AGo.cBF; rfl; first | (simp only [bF]; omega) | exact ndF rfl | (rw [hE]; rfl)) | (apply AGo.qloadDD; (iterate 6 rfl); exact g1 _ rfl rfl) | (apply AGo.qloadDD; (iterate 6 rfl); exact g2 _ rfl rfl) | (apply AGo.qopx; ((apply quiet_neFlat; (iterate 6 rfl); kernel_rfl)); rfl; rfl; rfl) | intro _ | (apply AGo.retN; rfl; rfl; rfl; rfl) | (apply AGo.retL; rfl; rfl; rfl; rfl) | (apply AGo.outL; rfl; rfl))
        all_goals first
          | exact AGo.round [(13, I ((i + 1 : Nat) : Int)), (12, I ((evsD l).length : Int)), (1, .d (evS m)), (0, .d (evS l))] (l.length - (i + 1)) (by omega) ⟨rfl, rfl, rfl, rfl, trivial⟩ ⟨i + 1, rfl, hlt, hd, rfl, rfl⟩
          | (exfalso; omega) | trace_state
      | false =>
        rw [hE, Bool.false_and] at hd
        rw [← hd]
        repeat' (first | apply AGo.seq | apply AGo.block | apply AGo.blk | apply AGo.skip | apply AGo.nil | apply AGo.qnil | (apply AGo.region; rfl) | ((first | apply AGo.q true | apply AGo.qq true); rfl; rfl; rfl; rfl; first | exact True.intro | omega | (simp only [Int.toNat_natCast, Int.reduceToNat, IntKind.bits]; omega) | (rw [el]; omega) | (rw [em]; omega)) | (apply AGo.drawQ; rfl; rfl; decide +kernel) | (apply AGo.condDT; rfl; first | omega | rfl) | (apply AGo.condDF; rfl; omega) | (apply AGo.cBT; rfl; first | (simp only [bT]; omega) | (rw [hE]; rfl)) | (apply AGo.cBF; rfl; first | (simp only [bF]; omega) | exact ndF rfl | (rw [hE]; rfl)) | (apply AGo.qloadDD; (iterate 6 rfl); exact g1 _ rfl rfl) | (apply AGo.qloadDD; (iterate 6 rfl); exact g2 _ rfl rfl) | (apply AGo.qopx; ((apply quiet_neFlat; (iterate 6 rfl); kernel_rfl)); rfl; rfl; rfl) | intro _ | (apply AGo.retN; rfl; rfl; rfl; rfl) | (apply AGo.retL; rfl; rfl; rfl; rfl) | (apply AGo.outL; rfl; rfl))
        all_goals first | exact ⟨rfl, rfl⟩ | (exfalso; omega) | trace_state
    · obtain rfl : i = l.length := by omega
      have ht : evsB l m = true := by rw [← hd, List.drop_length, hlen, List.drop_length]; rfl
      rw [ht]
      repeat' (first | apply AGo.seq | apply AGo.block | apply AGo.blk | apply AGo.skip | apply AGo.nil | apply AGo.qnil | (apply AGo.region; rfl) | ((first | apply AGo.q true | apply AGo.qq true); rfl; rfl; rfl; rfl; first | exact True.intro | omega | (simp only [Int.toNat_natCast, Int.reduceToNat, IntKind.bits]; omega) | (rw [el]; omega)) | (apply AGo.drawQ; rfl; rfl; decide +kernel) | (apply AGo.condDT; rfl; first | omega | rfl) | (apply AGo.condDF; rfl; omega) | (apply AGo.cBT; rfl; first | (simp only [bT]; omega)) | (apply AGo.cBF; rfl; first | (simp only [bF]; omega) | exact ndF rfl) | intro _ | (apply AGo.retN; rfl; rfl; rfl; rfl) | (apply AGo.retL; rfl; rfl; rfl; rfl) | (apply AGo.outL; rfl; rfl))
      all_goals first | exact ⟨rfl, rfl⟩ | (exfalso; omega) | trace_state
  · rw [evsB_len l m hlen]
    refine ACalls.enter Tryd.func22 rfl Tryd.ntmps22 (by kernel_rfl) rfl ?_; simp only [argEnv, Nat.reduceAdd, List.length_nil, List.length_cons]
    repeat' (first | apply AGo.seq | apply AGo.block | apply AGo.blk | apply AGo.skip | apply AGo.nil | apply AGo.qnil | (apply AGo.region; rfl) | ((first | apply AGo.q true | apply AGo.qq true); rfl; rfl; rfl; rfl; first | exact True.intro | omega | (simp only [Int.toNat_natCast, Int.reduceToNat, IntKind.bits]; omega) | (rw [el, em]; omega)) | (apply AGo.drawQ; rfl; rfl; decide +kernel) | (apply AGo.condDT; rfl; first | omega | rfl) | (apply AGo.condDF; rfl; omega) | (apply AGo.cBT; rfl; first | (simp only [bT]; omega)) | (apply AGo.cBF; rfl; first | (simp only [bF]; omega) | exact ndF rfl) | intro _ | (apply AGo.retN; rfl; rfl; rfl; rfl) | (apply AGo.retL; rfl; rfl; rfl; rfl) | (apply AGo.outL; rfl; rfl))
    all_goals first | exact ⟨rfl, rfl⟩ | (exfalso; omega) | trace_state
end Go.Proofs.YtbfojhfiemcnpaaDoor.Av.Cs

/- A cell is the same as itself, to the document. -/
set_option linter.unusedSimpArgs false
set_option linter.unusedVariables false
set_option maxRecDepth 100000
namespace Go.Proofs.YtbfojhfiemcnpaaDoor.Av.Cs
open Go Bt Tc Co
attribute [local irreducible] AGo ACalls ARegH ARegK ARegK1 AReg
variable {gl : List (Nat × List D)}
attribute [local irreducible] Tc.evsD evsB
end Go.Proofs.YtbfojhfiemcnpaaDoor.Av.Cs
