/- The writer of bits, plain: what one more digit does to the bytes. The writer of bits: New, bit. The writer of bits: plain, Put, Add, Len, Text. -/
import Derived.Test.YtbfojhfiemcnpaaDoorPd
import Derived.Test.YtbfojhfiemcnpaaDoorPn
/- The writer of bits, plain: what one more digit does to the bytes. -/
set_option linter.unusedSimpArgs false
set_option linter.unusedVariables false
set_option maxRecDepth 100000
namespace Go.Proofs.YtbfojhfiemcnpaaDoor.Av.Wr
open Go Bt
theorem numS_zeros (w : List UInt8) : ∀ k, numS (w ++ List.replicate k 48) = numS w * 2 ^ k
  | 0 => by simp
  | k + 1 => by
    rw [List.replicate_succ', ← List.append_assoc, numS_snoc, numS_zeros w k, Int.pow_succ]
    have : (((48 : UInt8).toNat : Nat) : Int) = 48 := rfl
    have e : numS w * (2 ^ k * 2) = numS w * 2 ^ k * 2 := by rw [Int.mul_assoc]
    rw [this, e]
    generalize numS w * 2 ^ k = x at *
    omega
/-- the byte of at most eight digits -/
def byteS (d : List UInt8) : UInt8 := UInt8.ofNat (numS (d ++ List.replicate (8 - d.length) 48)).toNat
theorem packN_eq (w : List UInt8) : packN w = (List.range ((w.length + 7) / 8)).map fun t => byteS ((w.drop (8 * t)).take 8) := by
  have h1 := padS_len w
  obtain ⟨p1, p2⟩ := padN_ok w.length
  have h2 : (padS w).length / 8 = (w.length + 7) / 8 := by omega
  unfold packN packB
  rw [h2]
  apply List.map_congr_left
  intro t ht
  rw [List.mem_range] at ht
  unfold byteS
  congr 2
  unfold padS
  rw [List.drop_append, List.take_append]
  by_cases hl : 8 * (t + 1) ≤ w.length
  · have e1 : ((w.drop (8 * t)).take 8).length = 8 := by rw [List.length_take, List.length_drop]; omega
    rw [e1, List.length_drop]
    rw [show 8 - (w.length - 8 * t) = 0 by omega]
    simp
  · have e1 : (w.drop (8 * t)).take 8 = w.drop (8 * t) := List.take_of_length_le (by rw [List.length_drop]; omega)
    rw [e1, List.length_drop, show 8 * t - w.length = 0 by omega, List.drop_zero, List.take_replicate]
    congr 2
    congr 1
    omega
theorem packN_length (w : List UInt8) : (packN w).length = (w.length + 7) / 8 := by rw [packN_eq]; simp
theorem packN_get (w : List UInt8) (t : Nat) (h : t < (w.length + 7) / 8) : (packN w)[t]? = some (byteS ((w.drop (8 * t)).take 8)) := by
  rw [packN_eq]; simp [h]
/-- the digits of the last byte -/
def tailS (w : List UInt8) : List UInt8 := w.drop (8 * (w.length / 8))
theorem tailS_len (w : List UInt8) : (tailS w).length = w.length % 8 := by unfold tailS; rw [List.length_drop]; omega
theorem packN_old (w : List UInt8) (d : UInt8) (t : Nat) (h : t < w.length / 8) : (packN (w ++ [d]))[t]? = (packN w)[t]? := by
  rw [packN_get _ _ (by simp; omega), packN_get _ _ (by omega)]
  congr 2
  rw [List.drop_append_of_le_length (by omega), List.take_append_of_le_length (by rw [List.length_drop]; omega)]
theorem packN_snoc0 (w : List UInt8) (d : UInt8) (h : w.length % 8 = 0) : packN (w ++ [d]) = packN w ++ [byteS [d]] := by
  apply List.ext_getElem?
  intro t
  have hl := packN_length w
  rcases Nat.lt_trichotomy t (w.length / 8) with h1 | h1 | h1
  · rw [packN_old w d t h1, List.getElem?_append_left (by omega)]
  · subst h1
    rw [packN_get _ _ (by simp; omega), List.getElem?_append_right (by omega), show w.length / 8 - (packN w).length = 0 by omega]
    have e : 8 * (w.length / 8) = w.length := by omega
    rw [e, List.drop_left]; rfl
  · rw [List.getElem?_eq_none (by rw [packN_length]; simp; omega), List.getElem?_eq_none (by simp; omega)]
theorem packN_snocS (w : List UInt8) (d : UInt8) (h : w.length % 8 ≠ 0) : packN (w ++ [d]) = (packN w).set (w.length / 8) (byteS (tailS w ++ [d])) := by
  have hl := packN_length w
  have hl2 := packN_length (w ++ [d])
  simp only [List.length_append, List.length_singleton] at hl2
  apply List.ext_getElem?
  intro t
  rcases Nat.lt_trichotomy t (w.length / 8) with h1 | h1 | h1
  · rw [packN_old w d t h1, List.getElem?_set_ne (by omega)]
  · subst h1
    rw [packN_get _ _ (by simp; omega), List.getElem?_set_self (by omega), List.drop_append_of_le_length (by omega), List.take_of_length_le (by simp; omega)]
    rfl
  · rw [List.getElem?_eq_none (by omega), List.getElem?_eq_none (by simp; omega)]
theorem packN_last (w : List UInt8) (h : w.length % 8 ≠ 0) : (packN w)[w.length / 8]? = some (byteS (tailS w)) := by
  rw [packN_get _ _ (by omega), List.take_of_length_le (by rw [List.length_drop]; omega)]
  rfl
theorem tailS_dig (w : List UInt8) (h : w.all isDig = true) : (tailS w).all isDig = true := by
  rw [List.all_eq_true] at h ⊢
  exact fun x hx => h x (List.mem_of_mem_drop hx)
theorem byteS_val (d : List UInt8) (hd : d.all isDig = true) (hl : d.length ≤ 8) : ((byteS d).toNat : Int) = numS d * 2 ^ (8 - d.length) ∧ 0 ≤ numS d := by
  obtain ⟨b0, b1⟩ := numS_bd d hd
  have e := numS_zeros d (8 - d.length)
  have hp : (0 : Int) < 2 ^ (8 - d.length) := Int.pow_pos (by decide)
  have h2 : numS d * 2 ^ (8 - d.length) < 256 := by
    have h3 : numS d * 2 ^ (8 - d.length) < 2 ^ d.length * 2 ^ (8 - d.length) := Int.mul_lt_mul_of_pos_right b1 hp
    rw [← Int.pow_add, show d.length + (8 - d.length) = 8 by omega] at h3
    exact h3
  have h4 : 0 ≤ numS d * 2 ^ (8 - d.length) := Int.mul_nonneg b0 (by omega)
  refine ⟨?_, b0⟩
  unfold byteS
  rw [e]
  simp only [UInt8.toNat_ofNat', Nat.reducePow]
  generalize numS d * 2 ^ (8 - d.length) = x at *
  omega
/-- a 0 digit changes nothing, a 1 digit sets its bit -/
theorem byteS_0 (d : List UInt8) (hd : d.all isDig = true) (hl : d.length < 8) : byteS (d ++ [48]) = byteS d := by
  unfold byteS
  congr 2
  rw [List.append_assoc, List.length_append, List.length_singleton]
  congr 1
  rw [show 8 - d.length = (8 - (d.length + 1)) + 1 by omega, List.replicate_succ]; rfl
theorem byteS_1 (d : List UInt8) (hd : d.all isDig = true) (hl : d.length < 8) : ((byteS d).toNat ||| 2 ^ (7 - d.length)) = (byteS (d ++ [49])).toNat := by
  obtain ⟨v1, b1⟩ := byteS_val d hd (by omega)
  obtain ⟨v2, _⟩ := byteS_val (d ++ [49]) (by rw [List.all_append, hd]; rfl) (by rw [List.length_append]; simp; omega)
  rw [numS_snoc, List.length_append, List.length_singleton] at v2
  obtain ⟨n, hn⟩ := Int.eq_ofNat_of_zero_le b1
  rw [hn] at v1 v2
  have e49 : (((49 : UInt8).toNat : Nat) : Int) = 49 := rfl
  rw [e49] at v2
  have e1 : (byteS d).toNat = 2 ^ (8 - d.length) * n := by
    have : ((2 ^ (8 - d.length) * n : Nat) : Int) = (n : Int) * 2 ^ (8 - d.length) := by rw [Int.natCast_mul, Int.natCast_pow, Int.mul_comm]; rfl
    rw [← this] at v1
    exact Int.ofNat.inj v1
  have e2 : (byteS (d ++ [49])).toNat = (2 * n + 1) * 2 ^ (7 - d.length) := by
    have : (((2 * n + 1) * 2 ^ (7 - d.length) : Nat) : Int) = (2 * (n : Int) + (49 - 48)) * 2 ^ (8 - (d.length + 1)) := by
      rw [Int.natCast_mul, Int.natCast_pow, show 8 - (d.length + 1) = 7 - d.length by omega]
      congr 1
    rw [← this] at v2
    exact Int.ofNat.inj v2
  rw [e1, e2, ← Nat.two_pow_add_eq_or_of_lt (Nat.pow_lt_pow_right (by decide) (by omega))]
  rw [show 8 - d.length = (7 - d.length) + 1 by omega, Nat.pow_succ, Nat.add_mul, Nat.one_mul]
  congr 1
  rw [Nat.mul_comm (2 ^ (7 - d.length)) 2, Nat.mul_assoc, Nat.mul_assoc, Nat.mul_comm n]
end Go.Proofs.YtbfojhfiemcnpaaDoor.Av.Wr

/- The writer of bits: New, bit. -/
set_option linter.unusedSimpArgs false
set_option linter.unusedVariables false
set_option maxRecDepth 100000
namespace Go.Proofs.YtbfojhfiemcnpaaDoor.Av.Wr
open Go Bt
attribute [local irreducible] AGo ACalls
variable {gl : List (Nat × List D)}
/-- a writer that has written these digits -/
abbrev WO (w : List UInt8) : List AObj := [.cells [.ms 1 (octets (packN w)).length, I w.length], .arr 5 1 (octets (packN w))]
def dgB (b : Bool) : UInt8 := if b = true then 49 else 48
theorem wnew_c : ACalls (cxg gl) 14 [] [] (fun r H => r = .ptr 0 0 ∧ H = WO []) := by
  refine ACalls.enter Tryd.func14 rfl Tryd.ntmps14 (by kernel_rfl) rfl ?_; simp only [argEnv, Nat.reduceAdd, List.length_nil, List.length_cons]
  repeat (first | apply AGo.seq | apply AGo.nil | (apply AGo.region; rfl) | (apply AGo.q true; rfl; rfl; rfl; rfl; first | exact True.intro | omega | (simp only [Int.toNat_natCast, Int.reduceToNat, IntKind.bits]; omega)) | (apply AGo.box; (iterate 6 rfl); simp only [nm, Nat.reduceAdd, spliceA, AV.cells, D.cells]) | (apply AGo.build; (iterate 5 rfl); simp only [nm, Nat.reduceAdd, spliceA, AV.cells, D.cells, mkAgg, unDs, AV.unD]))
  apply AGo.ghostC 0 0 5 1
  rfl; rfl
  (apply AGo.retK 2; rfl; rfl; rfl; rfl; rfl)
  exact ⟨rfl, rfl⟩
theorem oct_get (P : List UInt8) (i : Nat) (b : UInt8) (h : P[i]? = some b) : (octets P)[i]? = some (.int .u8 (b.toNat : Int)) := by simp [octets, h]
theorem oct_set (P : List UInt8) (i : Nat) (b : UInt8) : (octets P).set i (.int .u8 (b.toNat : Int)) = octets (P.set i b) := by simp [octets, List.map_set]
theorem fin_eq {es fs : List D} {m : Int} {n : Nat} (h : es = fs) (hm : m = n) (x : Nat) (hx : x = fs.length) : ([.cells [.ms 1 x, I m], .arr 5 1 es] : List AObj) = [.cells [.ms 1 fs.length, I n], .arr 5 1 fs] := by rw [h, hm, hx]
theorem o48 : octets [byteS [dgB false]] = [.int .u8 0] := rfl
theorem o49 : octets [byteS [dgB true]] = [.int .u8 128] := rfl
theorem set_self {α : Type} {l : List α} {i : Nat} {x : α} (h : l[i]? = some x) : l.set i x = l := by
  apply List.ext_getElem?
  intro j
  by_cases hj : i = j
  · subst hj; rw [List.getElem?_set_self (getElem?_lt h), h]
  · rw [List.getElem?_set_ne hj]
attribute [local irreducible] octets packN byteS
set_option maxHeartbeats 4000000 in
theorem bit_c (w : List UInt8) (one : Bool) (hd : w.all isDig = true) (hl : w.length ≤ 1000000000) : ACalls (cxg gl) 40 [.ptr 0 0, B one] (WO w) (fun r H => r = .tup [] ∧ H = WO (w ++ [dgB one])) := by
  have hP := packN_length w
  have hO := octets_length (packN w)
  unfold WO
  have hin : (w ++ [dgB one]).length = w.length + 1 := by simp
  by_cases h8 : w.length % 8 = 0
  · have hs := packN_snoc0 w (dgB one) h8
    cases one
    · have e : octets (packN w) ++ [.int .u8 0] = octets (packN (w ++ [dgB false])) := by rw [hs, octets_append, o48]
      refine ACalls.enter Tryd.func40 rfl Tryd.ntmps40 (by kernel_rfl) rfl ?_; simp only [argEnv, Nat.reduceAdd, List.length_nil, List.length_cons]
      repeat' (first | apply AGo.seq | apply AGo.skip | apply AGo.nil | apply AGo.snil | (apply AGo.region; rfl) | ((first | apply AGo.q true | apply AGo.sq true); rfl; rfl; rfl; rfl; first | exact True.intro | omega | (simp only [Int.toNat_natCast, Int.reduceToNat, IntKind.bits]; omega) | (rw [hO, hP]; simp only [List.length_cons, List.length_nil]; omega)) | (apply AGo.drawT; rfl; rfl; rfl; decide +kernel) | (apply AGo.condDT; rfl; first | omega | rfl) | (apply AGo.condDF; rfl; omega) | (apply AGo.condT; rfl) | (apply AGo.condF; rfl) | (apply AGo.store; (iterate 9 rfl); exact Nat.le_of_ble_eq_true rfl; simp only [nm, Nat.reduceAdd, spliceA, AV.cells, D.cells]) | (apply AGo.buildSlice; (iterate 11 rfl)) | (apply AGo.endN; rfl; rfl; rfl; rfl) | (apply AGo.appendM; (iterate 11 rfl); (first | rfl | (simp only [List.length_append, List.length_map, List.length_set, List.length_replicate, List.length_cons, List.length_nil]; omega) | (rw [hO, hP]; simp only [List.length_cons, List.length_nil]; omega)); (first | (simp only [List.length_append, List.length_map, List.length_cons, List.length_nil]; omega) | (rw [hO, hP]; simp only [List.length_cons, List.length_nil]; omega)); simp only [List.set_cons_zero, List.set_cons_succ]) | (apply AGo.storeM; (iterate 11 rfl); (first | rfl | (simp only [List.length_append, List.length_map, List.length_set, List.length_replicate, List.length_cons, List.length_nil]; omega) | (rw [hO, hP]; simp only [List.length_cons, List.length_nil]; omega)); rfl; (first | decide | exact Nat.le_of_ble_eq_true rfl | (dsimp only; omega) | decide +kernel | (rw [hO, hP]; simp only [List.length_cons, List.length_nil]; omega)); simp only [List.set_cons_zero, List.set_cons_succ]) | (apply AGo.sopx; (first | (apply quiet_idxM; (iterate 8 rfl); (first | rfl | (simp only [List.length_append, List.length_map, List.length_set, List.length_replicate, List.length_cons, List.length_nil]; omega) | (rw [hO, hP]; simp only [List.length_cons, List.length_nil]; omega)); (first | decide | exact Nat.le_of_ble_eq_true rfl | (dsimp only; omega) | decide +kernel | (rw [hO, hP]; simp only [List.length_cons, List.length_nil]; omega))) | (apply quiet_loadM; rfl; rfl; rfl; rfl; (first | rfl | (simp only [List.length_append, List.length_map, List.length_set, List.length_replicate, List.length_cons, List.length_nil]; omega) | (rw [hO, hP]; simp only [List.length_cons, List.length_nil]; omega)); rfl; rfl)); rfl; rfl; rfl) | intro _)
      all_goals first | exact ⟨rfl, fin_eq e (by simp) _ (by first | (rw [← e]; done) | rw [← e, List.length_set])⟩ | trace_state
    · have m1 : (octets (packN w) ++ [.int .u8 0])[((w.length : Int) / 8).toNat]? = some (.int .u8 0) := by
        rw [List.getElem?_append_right (by omega), show ((w.length : Int) / 8).toNat - (octets (packN w)).length = 0 by omega]; rfl
      have ez : (7 - (w.length : Int) % 8) = 7 := by omega
      have e : (octets (packN w) ++ [D.int .u8 0]).set ((w.length : Int) / 8).toNat (D.int .u8 ((((0 : Int).toNat ||| (1 * 2 ^ (7 - (w.length : Int) % 8).toNat % 256 : Int).toNat : Nat)) : Int)) = octets (packN (w ++ [dgB true])) := by
        rw [hs, octets_append, List.set_append_right _ _ (by omega), show ((w.length : Int) / 8).toNat - (octets (packN w)).length = 0 by omega, ez, o49]; rfl
      refine ACalls.enter Tryd.func40 rfl Tryd.ntmps40 (by kernel_rfl) rfl ?_; simp only [argEnv, Nat.reduceAdd, List.length_nil, List.length_cons]
      repeat' (first | apply AGo.seq | apply AGo.skip | apply AGo.nil | apply AGo.snil | (apply AGo.region; rfl) | ((first | apply AGo.q true | apply AGo.sq true); rfl; rfl; rfl; rfl; first | exact True.intro | omega | (simp only [Int.toNat_natCast, Int.reduceToNat, IntKind.bits]; omega) | (rw [hO, hP]; simp only [List.length_cons, List.length_nil]; omega) | (rw [List.length_append, hO, hP]; simp only [List.length_cons, List.length_nil]; omega) | (rw [ez]; decide)) | (apply AGo.drawT; rfl; rfl; rfl; decide +kernel) | (apply AGo.condDT; rfl; first | omega | rfl) | (apply AGo.condDF; rfl; omega) | (apply AGo.condT; rfl) | (apply AGo.condF; rfl) | (apply AGo.store; (iterate 9 rfl); exact Nat.le_of_ble_eq_true rfl; simp only [nm, Nat.reduceAdd, spliceA, AV.cells, D.cells]) | (apply AGo.buildSlice; (iterate 11 rfl)) | (apply AGo.endN; rfl; rfl; rfl; rfl) | (apply AGo.appendM; (iterate 11 rfl); (first | rfl | (simp only [List.length_append, List.length_map, List.length_set, List.length_replicate, List.length_cons, List.length_nil]; omega) | (rw [hO, hP]; simp only [List.length_cons, List.length_nil]; omega) | (rw [List.length_append, hO, hP]; simp only [List.length_cons, List.length_nil]; omega) | (rw [ez]; decide)); (first | (simp only [List.length_append, List.length_map, List.length_cons, List.length_nil]; omega) | (rw [hO, hP]; simp only [List.length_cons, List.length_nil]; omega) | (rw [List.length_append, hO, hP]; simp only [List.length_cons, List.length_nil]; omega) | (rw [ez]; decide)); simp only [List.set_cons_zero, List.set_cons_succ]) | (apply AGo.storeM; (iterate 11 rfl); (first | rfl | (simp only [List.length_append, List.length_map, List.length_set, List.length_replicate, List.length_cons, List.length_nil]; omega) | (rw [hO, hP]; simp only [List.length_cons, List.length_nil]; omega) | (rw [List.length_append, hO, hP]; simp only [List.length_cons, List.length_nil]; omega) | (rw [ez]; decide)); (first | rfl | exact m1); (first | decide | exact Nat.le_of_ble_eq_true rfl | (dsimp only; omega) | decide +kernel | (rw [hO, hP]; simp only [List.length_cons, List.length_nil]; omega) | (rw [List.length_append, hO, hP]; simp only [List.length_cons, List.length_nil]; omega) | (rw [ez]; decide)); simp only [List.set_cons_zero, List.set_cons_succ]) | (apply AGo.sopx; (first | (apply quiet_idxM; (iterate 8 rfl); (first | rfl | (simp only [List.length_append, List.length_map, List.length_set, List.length_replicate, List.length_cons, List.length_nil]; omega) | (rw [hO, hP]; simp only [List.length_cons, List.length_nil]; omega) | (rw [List.length_append, hO, hP]; simp only [List.length_cons, List.length_nil]; omega) | (rw [ez]; decide)); (first | decide | exact Nat.le_of_ble_eq_true rfl | (dsimp only; omega) | decide +kernel | (rw [hO, hP]; simp only [List.length_cons, List.length_nil]; omega) | (rw [List.length_append, hO, hP]; simp only [List.length_cons, List.length_nil]; omega) | (rw [ez]; decide))) | (apply quiet_loadM; rfl; rfl; rfl; rfl; (first | rfl | (simp only [List.length_append, List.length_map, List.length_set, List.length_replicate, List.length_cons, List.length_nil]; omega) | (rw [hO, hP]; simp only [List.length_cons, List.length_nil]; omega) | (rw [List.length_append, hO, hP]; simp only [List.length_cons, List.length_nil]; omega) | (rw [ez]; decide)); (first | rfl | exact m1); rfl)); rfl; rfl; rfl) | intro _)
      all_goals first | exact ⟨rfl, fin_eq e (by simp) _ (by first | (rw [← e]; done) | rw [← e, List.length_set])⟩ | trace_state
  · have hs := packN_snocS w (dgB one) h8
    have hlast := packN_last w h8
    have hT := tailS_len w
    have hTd := tailS_dig w hd
    have ei : ((w.length : Int) / 8).toNat = w.length / 8 := by omega
    cases one
    · have e : octets (packN w) = octets (packN (w ++ [dgB false])) := by
        rw [hs]
        unfold dgB
        rw [if_neg (by decide), byteS_0 _ hTd (by omega), set_self hlast]
      refine ACalls.enter Tryd.func40 rfl Tryd.ntmps40 (by kernel_rfl) rfl ?_; simp only [argEnv, Nat.reduceAdd, List.length_nil, List.length_cons]
      repeat' (first | apply AGo.seq | apply AGo.skip | apply AGo.nil | apply AGo.snil | (apply AGo.region; rfl) | ((first | apply AGo.q true | apply AGo.sq true); rfl; rfl; rfl; rfl; first | exact True.intro | omega | (simp only [Int.toNat_natCast, Int.reduceToNat, IntKind.bits]; omega)) | (apply AGo.drawT; rfl; rfl; rfl; decide +kernel) | (apply AGo.condDT; rfl; first | omega | rfl) | (apply AGo.condDF; rfl; omega) | (apply AGo.condT; rfl) | (apply AGo.condF; rfl) | (apply AGo.store; (iterate 9 rfl); exact Nat.le_of_ble_eq_true rfl; simp only [nm, Nat.reduceAdd, spliceA, AV.cells, D.cells]) | (apply AGo.buildSlice; (iterate 11 rfl)) | (apply AGo.endN; rfl; rfl; rfl; rfl) | (apply AGo.appendM; (iterate 11 rfl); (first | rfl | (simp only [List.length_append, List.length_map, List.length_set, List.length_replicate, List.length_cons, List.length_nil]; omega)); ((simp only [List.length_append, List.length_map, List.length_cons, List.length_nil]; omega)); simp only [List.set_cons_zero, List.set_cons_succ]) | (apply AGo.storeM; (iterate 11 rfl); (first | rfl | (simp only [List.length_append, List.length_map, List.length_set, List.length_replicate, List.length_cons, List.length_nil]; omega)); rfl; (first | decide | exact Nat.le_of_ble_eq_true rfl | (dsimp only; omega) | decide +kernel); simp only [List.set_cons_zero, List.set_cons_succ]) | (apply AGo.sopx; (first | (apply quiet_idxM; (iterate 8 rfl); (first | rfl | (simp only [List.length_append, List.length_map, List.length_set, List.length_replicate, List.length_cons, List.length_nil]; omega)); (first | decide | exact Nat.le_of_ble_eq_true rfl | (dsimp only; omega) | decide +kernel)) | (apply quiet_loadM; rfl; rfl; rfl; rfl; (first | rfl | (simp only [List.length_append, List.length_map, List.length_set, List.length_replicate, List.length_cons, List.length_nil]; omega)); rfl; rfl)); rfl; rfl; rfl) | intro _)
      all_goals first | exact ⟨rfl, fin_eq e (by simp) _ (by first | (rw [← e]; done) | rw [← e, List.length_set])⟩ | trace_state
    · have m1 : (octets (packN w))[((w.length : Int) / 8).toNat]? = some (.int .u8 ((byteS (tailS w)).toNat : Int)) := by rw [ei]; exact oct_get _ _ _ hlast
      have ez : (7 - (w.length : Int) % 8).toNat = 7 - (tailS w).length := by omega
      have hb1 := byteS_1 (tailS w) hTd (by omega)
      have hv : (((((byteS (tailS w)).toNat : Int).toNat ||| (1 * 2 ^ (7 - (w.length : Int) % 8).toNat % 256 : Int).toNat : Nat)) : Int) = ((byteS (tailS w ++ [49])).toNat : Int) := by
        rw [ez, Int.toNat_natCast, ← hb1]
        have hpw : (2 : Nat) ^ (7 - (tailS w).length) < 256 := Nat.lt_of_le_of_lt (Nat.pow_le_pow_right (by decide) (Nat.sub_le 7 _)) (by decide)
        have : (1 * 2 ^ (7 - (tailS w).length) % 256 : Int).toNat = 2 ^ (7 - (tailS w).length) := by
          have hc : ((2 ^ (7 - (tailS w).length) : Nat) : Int) = (2 : Int) ^ (7 - (tailS w).length) := by simp
          rw [← hc]
          generalize (2 : Nat) ^ (7 - (tailS w).length) = z at *
          omega
        rw [this]
      have e : (octets (packN w)).set ((w.length : Int) / 8).toNat (D.int .u8 (((((byteS (tailS w)).toNat : Int).toNat ||| (1 * 2 ^ (7 - (w.length : Int) % 8).toNat % 256 : Int).toNat : Nat)) : Int)) = octets (packN (w ++ [dgB true])) := by
        rw [hv, ei, oct_set, hs]; rfl
      have hbd : ((byteS (tailS w)).toNat : Int) ≤ 255 := by have := (byteS (tailS w)).toNat_lt; omega
      refine ACalls.enter Tryd.func40 rfl Tryd.ntmps40 (by kernel_rfl) rfl ?_; simp only [argEnv, Nat.reduceAdd, List.length_nil, List.length_cons]
      repeat' (first | apply AGo.seq | apply AGo.skip | apply AGo.nil | apply AGo.snil | (apply AGo.region; rfl) | ((first | apply AGo.q true | apply AGo.sq true); rfl; rfl; rfl; rfl; first | exact True.intro | omega | (simp only [Int.toNat_natCast, Int.reduceToNat, IntKind.bits]; omega) | (rw [hO, hP]; omega) | (exact ⟨by omega, by omega⟩)) | (apply AGo.drawT; rfl; rfl; rfl; decide +kernel) | (apply AGo.condDT; rfl; first | omega | rfl) | (apply AGo.condDF; rfl; omega) | (apply AGo.condT; rfl) | (apply AGo.condF; rfl) | (apply AGo.store; (iterate 9 rfl); exact Nat.le_of_ble_eq_true rfl; simp only [nm, Nat.reduceAdd, spliceA, AV.cells, D.cells]) | (apply AGo.buildSlice; (iterate 11 rfl)) | (apply AGo.endN; rfl; rfl; rfl; rfl) | (apply AGo.appendM; (iterate 11 rfl); (first | rfl | (simp only [List.length_append, List.length_map, List.length_set, List.length_replicate, List.length_cons, List.length_nil]; omega) | (rw [hO, hP]; omega) | (exact ⟨by omega, by omega⟩)); (first | (simp only [List.length_append, List.length_map, List.length_cons, List.length_nil]; omega) | (rw [hO, hP]; omega) | (exact ⟨by omega, by omega⟩)); simp only [List.set_cons_zero, List.set_cons_succ]) | (apply AGo.storeM; (iterate 11 rfl); (first | rfl | (simp only [List.length_append, List.length_map, List.length_set, List.length_replicate, List.length_cons, List.length_nil]; omega) | (rw [hO, hP]; omega) | (exact ⟨by omega, by omega⟩)); (first | rfl | exact m1); (first | decide | exact Nat.le_of_ble_eq_true rfl | (dsimp only; omega) | decide +kernel | (rw [hO, hP]; omega) | (exact ⟨by omega, by omega⟩)); simp only [List.set_cons_zero, List.set_cons_succ]) | (apply AGo.sopx; (first | (apply quiet_idxM; (iterate 8 rfl); (first | rfl | (simp only [List.length_append, List.length_map, List.length_set, List.length_replicate, List.length_cons, List.length_nil]; omega) | (rw [hO, hP]; omega) | (exact ⟨by omega, by omega⟩)); (first | decide | exact Nat.le_of_ble_eq_true rfl | (dsimp only; omega) | decide +kernel | (rw [hO, hP]; omega) | (exact ⟨by omega, by omega⟩))) | (apply quiet_loadM; rfl; rfl; rfl; rfl; (first | rfl | (simp only [List.length_append, List.length_map, List.length_set, List.length_replicate, List.length_cons, List.length_nil]; omega) | (rw [hO, hP]; omega) | (exact ⟨by omega, by omega⟩)); (first | rfl | exact m1); rfl)); rfl; rfl; rfl) | intro _)
      all_goals first | exact ⟨rfl, fin_eq e (by simp) _ (by first | (rw [← e]; done) | rw [← e, List.length_set])⟩ | trace_state
end Go.Proofs.YtbfojhfiemcnpaaDoor.Av.Wr

/- The writer of bits: plain, Put, Add, Len, Text. -/
set_option linter.unusedSimpArgs false
set_option linter.unusedVariables false
set_option maxRecDepth 100000
namespace Go.Proofs.YtbfojhfiemcnpaaDoor.Av.Wr
open Go Bt
attribute [local irreducible] AGo ACalls
variable {gl : List (Nat × List D)}
theorem drop_get {α : Type} (l : List α) (i : Nat) (x : α) (h : l[i]? = some x) : l.drop i = x :: l.drop (i + 1) := drop_cut l i x h
theorem all_dig (s : List UInt8) (h : s.all isDig = true) {k : Nat} {b : UInt8} (hk : s[k]? = some b) : b = 48 ∨ b = 49 := isDig_cases (List.all_eq_true.1 h b (List.mem_of_getElem? hk))
theorem n48 : (((48 : UInt8).toNat : Nat) : Int) = 48 := rfl
theorem n49 : (((49 : UInt8).toNat : Nat) : Int) = 49 := rfl
set_option maxHeartbeats 4000000 in
theorem oplain_c (s : List UInt8) : ACalls (cxg gl) 39 [S s] [] (fun r H => r = B (s.all isDig) ∧ H = []) := by
  refine ACalls.enter Tryd.func39 rfl Tryd.ntmps39 (by kernel_rfl) rfl ?_; simp only [argEnv, Nat.reduceAdd, List.length_nil, List.length_cons]
  repeat (first | apply AGo.seq | apply AGo.block | apply AGo.blk | apply AGo.skip | apply AGo.nil | (apply AGo.region; rfl) | (apply AGo.q true; rfl; rfl; rfl; rfl; first | exact True.intro | omega | (simp only [Int.toNat_natCast, Int.reduceToNat, IntKind.bits]; omega)) | (apply AGo.condT; rfl) | (apply AGo.condF; rfl) | (apply AGo.unguard; rfl; rfl) | (apply AGo.cBT; rfl; first | (simp only [bT]; omega)) | (apply AGo.gBT; rfl; rfl; rfl; first | (simp only [bT]; omega)) | (apply AGo.gBF; rfl; rfl; rfl; first | (simp only [bF]; omega) | exact ndF rfl) | (apply AGo.skipOp; rfl; rfl; rfl) | (apply AGo.rangeS; (iterate 7 rfl); simp only [List.length_cons, List.length_nil, Nat.reduceAdd, List.cons_append, List.nil_append]))
  refine AGo.weak (env' := [(6, .it 0), (2, B false)]) ⟨rfl, rfl, trivial⟩ ?_
  refine AGo.loop (fun m env H => ∃ k : Nat, m = s.length - k ∧ k ≤ s.length ∧ (s.drop k).all isDig = s.all isDig ∧ env = [(6, .it 0), (2, B false)] ∧ H = [.siter ⟨s.toArray⟩ k]) s.length
    ⟨0, rfl, by omega, rfl, rfl, rfl⟩ ?_
  rintro m env H ⟨k, rfl, hk, hall, rfl, rfl⟩
  rcases Nat.lt_or_ge k s.length with hlt | hge
  · obtain ⟨b, hb⟩ : ∃ b, s[k]? = some b := ⟨_, List.getElem?_eq_getElem hlt⟩
    rw [drop_get s k b hb, List.all_cons] at hall
    by_cases h1 : 128 ≤ b.toNat
    · have e : isDig b = false := by
        cases he : isDig b with
        | false => rfl
        | true => rcases isDig_cases he with rfl | rfl <;> simp at h1
      rw [e, Bool.false_and] at hall
      rw [← hall]
      repeat' (first | apply AGo.seq | apply AGo.block | apply AGo.blk | apply AGo.skip | apply AGo.nil | (apply AGo.region; rfl) | (apply AGo.q true; rfl; rfl; rfl; rfl; first | exact True.intro | omega | (simp only [Int.toNat_natCast, Int.reduceToNat, IntKind.bits]; omega)) | (apply AGo.condT; rfl) | (apply AGo.condF; rfl) | (apply AGo.unguard; rfl; rfl) | (apply AGo.cBT; rfl; first | (simp only [bT]; omega)) | (apply AGo.gBT; rfl; rfl; rfl; first | (simp only [bT]; omega)) | (apply AGo.gBF; rfl; rfl; rfl; first | (simp only [bF]; omega) | exact ndF rfl) | (apply AGo.skipOp; rfl; rfl; rfl) | (apply AGo.nextB; (iterate 6 rfl); exact hb; exact h1; intro _ _ _ _; simp only [List.set_cons_zero, List.set_cons_succ]) | intro _ | (apply AGo.retN; rfl; rfl; rfl; rfl) | (apply AGo.retL; rfl; rfl; rfl; rfl) | (apply AGo.outL; rfl; rfl))
      all_goals first | exact ⟨rfl, rfl⟩ | omega | trace_state
    · by_cases h8 : b = 48
      · subst h8
        have hall' : (s.drop (k + 1)).all isDig = s.all isDig := by rw [← hall]; rfl
        repeat' (first | apply AGo.seq | apply AGo.block | apply AGo.blk | apply AGo.skip | apply AGo.nil | (apply AGo.region; rfl) | (apply AGo.q true; rfl; rfl; rfl; rfl; first | exact True.intro | omega | (simp only [Int.toNat_natCast, Int.reduceToNat, IntKind.bits]; omega)) | (apply AGo.condT; rfl) | (apply AGo.condF; rfl) | (apply AGo.unguard; rfl; rfl) | (apply AGo.cBT; rfl; first | (simp only [bT]; omega)) | (apply AGo.gBT; rfl; rfl; rfl; first | (simp only [bT]; omega)) | (apply AGo.gBF; rfl; rfl; rfl; first | (simp only [bF]; omega) | exact ndF rfl) | (apply AGo.skipOp; rfl; rfl; rfl) | (apply AGo.nextA; (iterate 6 rfl); exact hb; exact (by decide); exact n48; simp only [List.set_cons_zero, List.set_cons_succ]) | intro _ | (apply AGo.retN; rfl; rfl; rfl; rfl) | (apply AGo.retL; rfl; rfl; rfl; rfl) | (apply AGo.outL; rfl; rfl))
        exact AGo.round [(6, .it 0), (2, B false)] (s.length - (k + 1)) (by omega) ⟨rfl, rfl, trivial⟩ ⟨k + 1, rfl, hlt, hall', rfl, rfl⟩
      · by_cases h9 : b = 49
        · subst h9
          have hall' : (s.drop (k + 1)).all isDig = s.all isDig := by rw [← hall]; rfl
          repeat' (first | apply AGo.seq | apply AGo.block | apply AGo.blk | apply AGo.skip | apply AGo.nil | (apply AGo.region; rfl) | (apply AGo.q true; rfl; rfl; rfl; rfl; first | exact True.intro | omega | (simp only [Int.toNat_natCast, Int.reduceToNat, IntKind.bits]; omega)) | (apply AGo.condT; rfl) | (apply AGo.condF; rfl) | (apply AGo.unguard; rfl; rfl) | (apply AGo.cBT; rfl; first | (simp only [bT]; omega)) | (apply AGo.gBT; rfl; rfl; rfl; first | (simp only [bT]; omega)) | (apply AGo.gBF; rfl; rfl; rfl; first | (simp only [bF]; omega) | exact ndF rfl) | (apply AGo.skipOp; rfl; rfl; rfl) | (apply AGo.nextA; (iterate 6 rfl); exact hb; exact (by decide); exact n49; simp only [List.set_cons_zero, List.set_cons_succ]) | intro _ | (apply AGo.retN; rfl; rfl; rfl; rfl) | (apply AGo.retL; rfl; rfl; rfl; rfl) | (apply AGo.outL; rfl; rfl))
          exact AGo.round [(6, .it 0), (2, B false)] (s.length - (k + 1)) (by omega) ⟨rfl, rfl, trivial⟩ ⟨k + 1, rfl, hlt, hall', rfl, rfl⟩
        · have e1 : (b.toNat : Int) ≠ 48 := fun h => h8 ((toNat_eq (c := b) (n := 48) (by omega)).1 h)
          have e2 : (b.toNat : Int) ≠ 49 := fun h => h9 ((toNat_eq (c := b) (n := 49) (by omega)).1 h)
          have e3 : isDig b = false := by simp [isDig, h8, h9]
          rw [e3, Bool.false_and] at hall
          rw [← hall]
          have hlt8 : b.toNat < 128 := by omega
          repeat' (first | apply AGo.seq | apply AGo.block | apply AGo.blk | apply AGo.skip | apply AGo.nil | (apply AGo.region; rfl) | (apply AGo.q true; rfl; rfl; rfl; rfl; first | exact True.intro | omega | (simp only [Int.toNat_natCast, Int.reduceToNat, IntKind.bits]; omega)) | (apply AGo.condT; rfl) | (apply AGo.condF; rfl) | (apply AGo.unguard; rfl; rfl) | (apply AGo.cBT; rfl; first | (simp only [bT]; omega)) | (apply AGo.gBT; rfl; rfl; rfl; first | (simp only [bT]; omega)) | (apply AGo.gBF; rfl; rfl; rfl; first | (simp only [bF]; omega) | exact ndF rfl) | (apply AGo.skipOp; rfl; rfl; rfl) | (apply AGo.nextA; (iterate 6 rfl); exact hb; exact hlt8; exact rfl; simp only [List.set_cons_zero, List.set_cons_succ]) | intro _ | (apply AGo.retN; rfl; rfl; rfl; rfl) | (apply AGo.retL; rfl; rfl; rfl; rfl) | (apply AGo.outL; rfl; rfl))
          all_goals first | exact ⟨rfl, rfl⟩ | omega | trace_state
  · obtain rfl : k = s.length := by omega
    rw [List.drop_length] at hall
    rw [← hall]
    have hsz : (⟨s.toArray⟩ : ByteArray).size ≤ s.length := Nat.le_of_eq (bsize s)
    repeat' (first | apply AGo.seq | apply AGo.block | apply AGo.blk | apply AGo.skip | apply AGo.nil | (apply AGo.region; rfl) | (apply AGo.q true; rfl; rfl; rfl; rfl; first | exact True.intro | omega | (simp only [Int.toNat_natCast, Int.reduceToNat, IntKind.bits]; omega)) | (apply AGo.condT; rfl) | (apply AGo.condF; rfl) | (apply AGo.unguard; rfl; rfl) | (apply AGo.cBT; rfl; first | (simp only [bT]; omega)) | (apply AGo.gBT; rfl; rfl; rfl; first | (simp only [bT]; omega)) | (apply AGo.gBF; rfl; rfl; rfl; first | (simp only [bF]; omega) | exact ndF rfl) | (apply AGo.skipOp; rfl; rfl; rfl) | (apply AGo.nextEnd; (iterate 6 rfl); exact hsz) | intro _ | (apply AGo.retN; rfl; rfl; rfl; rfl) | (apply AGo.retL; rfl; rfl; rfl; rfl) | (apply AGo.outL; rfl; rfl))
    all_goals first | exact ⟨rfl, rfl⟩ | trace_state
theorem dg_dgB (x : Int) (hx : 0 ≤ x) : dgB (decide (((x.toNat &&& (1 : Int).toNat : Nat) : Int) = 1)) = dg x := by
  have h : (x.toNat &&& (1 : Int).toNat) = x.toNat % 2 := Nat.and_one_is_mod _
  rw [h]
  have : x % 2 = 0 ∨ x % 2 = 1 := by omega
  unfold dg dgB
  rcases this with h2 | h2
  · rw [if_neg (by rw [decide_eq_true_eq]; omega), h2]; rfl
  · rw [if_pos (by rw [decide_eq_true_eq]; omega), h2]; rfl
theorem dg_dig (x : Int) : isDig (dg x) = true := by
  have : x % 2 = 0 ∨ x % 2 = 1 := by omega
  unfold dg
  rcases this with h | h <;> rw [h] <;> decide
theorem digs_dig (v : Int) (n k : Nat) : (digs v n k).all isDig = true := by
  unfold digs
  rw [List.all_eq_true]
  intro x hx
  obtain ⟨j, _, rfl⟩ := List.mem_map.1 hx
  exact dg_dig _
attribute [local irreducible] octets packN digs dg
set_option maxHeartbeats 4000000 in
theorem wput_c (w : List UInt8) (v : Int) (n : Nat) (hd : w.all isDig = true) (hl : w.length ≤ 100000000) (hn : n ≤ 32) (hv : 0 ≤ v ∧ v < 2 ^ n) :
    ACalls (cxg gl) 54 [.ptr 0 0, I v, I n] (WO w) (fun r H => r = I 0 ∧ H = WO (w ++ digs v n n)) := by
  have hf := fits_c (gl := gl) v n hn hv
  have hp32 := pow_le32 hn
  have e0 : digs v n 0 = [] := List.eq_nil_of_length_eq_zero (digs_len v n 0)
  refine ACalls.enter Tryd.func54 rfl Tryd.ntmps54 (by kernel_rfl) rfl ?_; simp only [argEnv, Nat.reduceAdd, List.length_nil, List.length_cons]
  repeat (first | apply AGo.seq | apply AGo.block | apply AGo.blk | apply AGo.skip | apply AGo.nil | (apply AGo.region; rfl) | (apply AGo.q true; rfl; rfl; rfl; rfl; first | exact True.intro | omega | (simp only [Int.toNat_natCast, Int.reduceToNat, IntKind.bits]; omega)) | (apply AGo.callP (hf); (iterate 6 rfl)) | (apply AGo.condDT; rfl; first | omega | rfl) | (apply AGo.condDF; rfl; omega) | (apply AGo.condF; rfl) | (apply AGo.unguard; rfl; rfl))
  refine AGo.weak (env' := [(7, I ((n : Int) - 1)), (1, I v), (0, .ptr 0 0)]) ⟨rfl, rfl, rfl, trivial⟩ ?_
  refine AGo.loop (fun m env H => ∃ k : Nat, m = n - k ∧ k ≤ n ∧ env = [(7, I ((n : Int) - 1 - k)), (1, I v), (0, .ptr 0 0)] ∧ H = WO (w ++ digs v n k)) n
    ⟨0, rfl, by omega, by simp, by rw [e0, List.append_nil]⟩ ?_
  rintro m env H ⟨k, rfl, hk, rfl, rfl⟩
  rcases Nat.lt_or_ge k n with hlt | hge
  · have hx : 0 ≤ v / 2 ^ ((n : Int) - 1 - k).toNat ∧ v / 2 ^ ((n : Int) - 1 - k).toNat ≤ 4294967296 := by
      have h2 := pow_pos2 ((n : Int) - 1 - k).toNat
      exact ⟨Int.ediv_nonneg hv.1 (by omega), Int.le_trans (Int.ediv_le_self _ hv.1) (by omega)⟩
    have hdk := digs_len v n k
    have hb := bit_c (gl := gl) (w ++ digs v n k) (decide ((((v / 2 ^ ((n : Int) - 1 - k).toNat).toNat &&& (1 : Int).toNat : Nat) : Int) = 1)) (by rw [List.all_append, hd, digs_dig]; rfl) (by rw [List.length_append, hdk]; omega)
    rw [dg_dgB _ hx.1, List.append_assoc, show ((n : Int) - 1 - k).toNat = n - 1 - k by omega, ← digs_succ, ← show ((n : Int) - 1 - k).toNat = n - 1 - k by omega] at hb
    repeat' (first | apply AGo.seq | apply AGo.block | apply AGo.blk | apply AGo.skip | apply AGo.nil | (apply AGo.region; rfl) | (apply AGo.q true; rfl; rfl; rfl; rfl; first | exact True.intro | omega | (simp only [Int.toNat_natCast, Int.reduceToNat, IntKind.bits]; omega)) | (apply AGo.callH [0,1] ( hb); (iterate 6 rfl); decide; rfl; rfl; simp only [names, putH, AV.ren, AV.renL, AObj.ren, nh, Nat.reduceAdd, Nat.reduceSub]) | (apply AGo.condDT; rfl; first | omega | rfl) | (apply AGo.condDF; rfl; omega) | (apply AGo.condF; rfl) | (apply AGo.unguard; rfl; rfl) | intro _ | (apply AGo.retN; rfl; rfl; rfl; rfl) | (apply AGo.outL; rfl; rfl))
    all_goals first | exact AGo.round [(7, I ((n : Int) - 1 - ((k + 1 : Nat) : Int))), (1, I v), (0, .ptr 0 0)] (n - (k + 1)) (by omega) ⟨congrArg I (by omega), rfl, rfl, trivial⟩ ⟨k + 1, rfl, hlt, rfl, rfl⟩ | omega | trace_state
  · obtain rfl : k = n := by omega
    repeat' (first | apply AGo.seq | apply AGo.block | apply AGo.blk | apply AGo.skip | apply AGo.nil | (apply AGo.region; rfl) | (apply AGo.q true; rfl; rfl; rfl; rfl; first | exact True.intro | omega | (simp only [Int.toNat_natCast, Int.reduceToNat, IntKind.bits]; omega)) | (apply AGo.condDT; rfl; first | omega | rfl) | (apply AGo.condDF; rfl; omega) | (apply AGo.condF; rfl) | (apply AGo.unguard; rfl; rfl) | intro _ | (apply AGo.retN; rfl; rfl; rfl; rfl) | (apply AGo.outL; rfl; rfl))
    all_goals first | exact ⟨rfl, rfl⟩ | omega | trace_state
set_option maxHeartbeats 4000000 in
theorem wadd_c (w s : List UInt8) (hd : w.all isDig = true) (hs : s.all isDig = true) (hl : w.length + s.length ≤ 100000000) :
    ACalls (cxg gl) 21 [.ptr 0 0, S s] (WO w) (fun r H => r = I 0 ∧ H = WO (w ++ s)) := by
  have hp := oplain_c (gl := gl) s
  rw [hs] at hp
  refine ACalls.enter Tryd.func21 rfl Tryd.ntmps21 (by kernel_rfl) rfl ?_; simp only [argEnv, Nat.reduceAdd, List.length_nil, List.length_cons]
  repeat (first | apply AGo.seq | apply AGo.block | apply AGo.blk | apply AGo.skip | apply AGo.nil | (apply AGo.region; rfl) | (apply AGo.q true; rfl; rfl; rfl; rfl; first | exact True.intro | omega | (simp only [Int.toNat_natCast, Int.reduceToNat, IntKind.bits]; omega)) | (apply AGo.callP (hp); (iterate 6 rfl)) | (apply AGo.condT; rfl) | (apply AGo.condF; rfl) | (apply AGo.unguard; rfl; rfl) | (apply AGo.rangeS; (iterate 7 rfl); simp only [List.length_cons, List.length_nil, Nat.reduceAdd, List.cons_append, List.nil_append]))
  refine AGo.weak (env' := [(15, .it 2), (0, .ptr 0 0)]) ⟨rfl, rfl, trivial⟩ ?_
  refine AGo.loop (fun m env H => ∃ k : Nat, m = s.length - k ∧ k ≤ s.length ∧ env = [(15, .it 2), (0, .ptr 0 0)] ∧ H = [.cells [.ms 1 (octets (packN (w ++ s.take k))).length, I (w ++ s.take k).length], .arr 5 1 (octets (packN (w ++ s.take k))), .siter ⟨s.toArray⟩ k]) s.length
    ⟨0, rfl, by omega, rfl, by simp⟩ ?_
  rintro m env H ⟨k, rfl, hk, rfl, rfl⟩
  have hwd : (w ++ s.take k).all isDig = true := by
    rw [List.all_append, hd, Bool.true_and, List.all_eq_true]
    exact fun x hx => List.all_eq_true.1 hs x (List.mem_of_mem_take hx)
  rcases Nat.lt_or_ge k s.length with hlt | hge
  · obtain ⟨b, hb⟩ : ∃ b, s[k]? = some b := ⟨_, List.getElem?_eq_getElem hlt⟩
    have ht : w ++ s.take (k + 1) = w ++ s.take k ++ [b] := by rw [List.take_add_one, hb, List.append_assoc]; rfl
    have hwl : (w ++ s.take k).length ≤ 1000000000 := by rw [List.length_append, List.length_take]; omega
    rcases all_dig s hs hb with rfl | rfl
    · have hbit := bit_c (gl := gl) (w ++ s.take k) false hwd hwl
      rw [show dgB false = 48 from rfl, ← ht] at hbit
      repeat' (first | apply AGo.seq | apply AGo.block | apply AGo.blk | apply AGo.skip | apply AGo.nil | (apply AGo.region; rfl) | (apply AGo.q true; rfl; rfl; rfl; rfl; first | exact True.intro | omega | (simp only [Int.toNat_natCast, Int.reduceToNat, IntKind.bits]; omega)) | (apply AGo.callH [0,1] ( hbit); (iterate 6 rfl); decide; rfl; rfl; simp only [names, putH, AV.ren, AV.renL, AObj.ren, nh, Nat.reduceAdd, Nat.reduceSub]) | (apply AGo.condT; rfl) | (apply AGo.condF; rfl) | (apply AGo.unguard; rfl; rfl) | (apply AGo.nextA; (iterate 6 rfl); exact hb; exact (by decide); exact n48; simp only [List.set_cons_zero, List.set_cons_succ]) | intro _ | (apply AGo.retN; rfl; rfl; rfl; rfl) | (apply AGo.outL; rfl; rfl))
      all_goals first | exact AGo.round [(15, .it 2), (0, .ptr 0 0)] (s.length - (k + 1)) (by omega) ⟨rfl, rfl, trivial⟩ ⟨k + 1, rfl, hlt, rfl, rfl⟩ | trace_state
    · have hbit := bit_c (gl := gl) (w ++ s.take k) true hwd hwl
      rw [show dgB true = 49 from rfl, ← ht] at hbit
      repeat' (first | apply AGo.seq | apply AGo.block | apply AGo.blk | apply AGo.skip | apply AGo.nil | (apply AGo.region; rfl) | (apply AGo.q true; rfl; rfl; rfl; rfl; first | exact True.intro | omega | (simp only [Int.toNat_natCast, Int.reduceToNat, IntKind.bits]; omega)) | (apply AGo.callH [0,1] ( hbit); (iterate 6 rfl); decide; rfl; rfl; simp only [names, putH, AV.ren, AV.renL, AObj.ren, nh, Nat.reduceAdd, Nat.reduceSub]) | (apply AGo.condT; rfl) | (apply AGo.condF; rfl) | (apply AGo.unguard; rfl; rfl) | (apply AGo.nextA; (iterate 6 rfl); exact hb; exact (by decide); exact n49; simp only [List.set_cons_zero, List.set_cons_succ]) | intro _ | (apply AGo.retN; rfl; rfl; rfl; rfl) | (apply AGo.outL; rfl; rfl))
      all_goals first | exact AGo.round [(15, .it 2), (0, .ptr 0 0)] (s.length - (k + 1)) (by omega) ⟨rfl, rfl, trivial⟩ ⟨k + 1, rfl, hlt, rfl, rfl⟩ | trace_state
  · obtain rfl : k = s.length := by omega
    rw [List.take_length]
    have hsz : (⟨s.toArray⟩ : ByteArray).size ≤ s.length := Nat.le_of_eq (bsize s)
    repeat' (first | apply AGo.seq | apply AGo.block | apply AGo.blk | apply AGo.skip | apply AGo.nil | (apply AGo.region; rfl) | (apply AGo.q true; rfl; rfl; rfl; rfl; first | exact True.intro | omega | (simp only [Int.toNat_natCast, Int.reduceToNat, IntKind.bits]; omega)) | (apply AGo.condT; rfl) | (apply AGo.condF; rfl) | (apply AGo.unguard; rfl; rfl) | (apply AGo.nextEnd; (iterate 6 rfl); exact hsz) | intro _ | (apply AGo.retN; rfl; rfl; rfl; rfl) | (apply AGo.outL; rfl; rfl))
    all_goals first | exact ⟨rfl, rfl⟩ | trace_state
set_option maxHeartbeats 4000000 in
theorem waddbad_c (w s : List UInt8) (hs : s.all isDig = false) : ACalls (cxg gl) 21 [.ptr 0 0, S s] (WO w) (fun r H => r = I 1 ∧ H = WO w) := by
  have hp := oplain_c (gl := gl) s
  rw [hs] at hp
  refine ACalls.enter Tryd.func21 rfl Tryd.ntmps21 (by kernel_rfl) rfl ?_; simp only [argEnv, Nat.reduceAdd, List.length_nil, List.length_cons]
  repeat' (first | apply AGo.seq | apply AGo.nil | (apply AGo.region; rfl) | (apply AGo.q true; rfl; rfl; rfl; rfl; first | exact True.intro | omega | (simp only [Int.toNat_natCast, Int.reduceToNat, IntKind.bits]; omega)) | (apply AGo.callP (hp); (iterate 6 rfl)) | (apply AGo.condT; rfl) | (apply AGo.unguard; rfl; rfl) | intro _ | (apply AGo.retN; rfl; rfl; rfl; rfl))
  all_goals first | exact ⟨rfl, rfl⟩ | trace_state
set_option maxHeartbeats 4000000 in
theorem wlen_c (w : List UInt8) : ACalls (cxg gl) 17 [.ptr 0 0] (WO w) (fun r H => r = I w.length ∧ H = WO w) := by
  refine ACalls.enter Tryd.func17 rfl Tryd.ntmps17 (by kernel_rfl) rfl ?_; simp only [argEnv, Nat.reduceAdd, List.length_nil, List.length_cons]
  repeat' (first | apply AGo.seq | apply AGo.skip | apply AGo.nil | (apply AGo.region; rfl) | (apply AGo.q true; rfl; rfl; rfl; rfl; first | exact True.intro | omega | (simp only [Int.toNat_natCast, Int.reduceToNat, IntKind.bits]; omega)) | (apply AGo.condF; rfl) | intro _ | (apply AGo.retN; rfl; rfl; rfl; rfl))
  all_goals first | exact ⟨rfl, rfl⟩ | trace_state
set_option maxHeartbeats 4000000 in
theorem wtext_c (w : List UInt8) : ACalls (cxg gl) 19 [.ptr 0 0] (WO w) (fun r H => r = S (packN w) ∧ H = WO w) := by
  refine ACalls.enter Tryd.func19 rfl Tryd.ntmps19 (by kernel_rfl) rfl ?_; simp only [argEnv, Nat.reduceAdd, List.length_nil, List.length_cons]
  repeat' (first | apply AGo.seq | apply AGo.skip | apply AGo.nil | (apply AGo.region; rfl) | (apply AGo.q true; rfl; rfl; rfl; rfl; first | exact True.intro | omega | (simp only [Int.toNat_natCast, Int.reduceToNat, IntKind.bits]; omega)) | (apply AGo.condF; rfl) | (apply AGo.opx; ((apply quiet_strM; (iterate 9 rfl); (first | rfl | (simp only [List.length_append, List.length_map, List.length_set, List.length_replicate, List.length_cons, List.length_nil]; omega)); rfl)); rfl; rfl; rfl) | intro _ | (apply AGo.retN; rfl; rfl; rfl; rfl))
  all_goals first | exact ⟨rfl, rfl⟩ | trace_state
end Go.Proofs.YtbfojhfiemcnpaaDoor.Av.Wr
