/- Rows that are told digit by digit: there and back. Events, there and back. Blocks, there and back. -/
import Derived.Test.YtbfojhfiemcnpaaDoorPq2
import Derived.Test.YtbfojhfiemcnpaaDoorPl
import Derived.Test.YtbfojhfiemcnpaaDoorPw
/- Rows that are told digit by digit: there and back. -/
set_option linter.unusedSimpArgs false
set_option linter.unusedVariables false
set_option maxRecDepth 100000
namespace Go.Proofs.YtbfojhfiemcnpaaDoor.Av.Rn
open Go Bt Tc
/-- a row that ends just where it is told -/
def rgo (rows : List (List UInt8)) : List UInt8 → List UInt8 → Option Nat
  | [], _ => none
  | x :: r, w => match rstep rows w x with
    | .done i c => if r = [] then some i else none
    | .fail => none
    | .next w' => rgo rows r w'
theorem rgo_run (rows : List (List UInt8)) : ∀ (Dg w : List UInt8) (i : Nat), rgo rows Dg w = some i → ∀ R, rrun rows (Dg ++ R) w = ((i : Int), 0, w.length + Dg.length)
  | [], w, i, h, R => by simp [rgo] at h
  | x :: r, w, i, h, R => by
    rw [rgo] at h
    rw [List.cons_append, rrun]
    cases hs : rstep rows w x with
    | done j c =>
      rw [hs] at h
      simp only at h
      split at h
      · rename_i hr
        cases h
        unfold rstep at hs
        split at hs
        · cases hs
          simp [hr]
        · split at hs <;> cases hs
      · cases h
    | fail => rw [hs] at h; cases h
    | next w' =>
      rw [hs] at h
      have hw : w' = w ++ [x] := by
        unfold rstep at hs
        split at hs
        · cases hs
        · split at hs
          · cases hs; rfl
          · cases hs
      subst hw
      have := rgo_run rows r (w ++ [x]) i h R
      simp only [this, List.length_append, List.length_cons, List.length_nil]
      rw [show w.length + (0 + 1) + r.length = w.length + (r.length + 1) by omega]
/-! digits and bits -/
theorem dig_und (c : UInt8) (h : isDig c = true) : digB (und c) = c ∧ (und c = 0 ∨ und c = 1) := by
  rcases isDig_cases h with rfl | rfl <;> decide
theorem map_und (w : List UInt8) (h : w.all isDig = true) : (w.map und).map digB = w := by
  rw [List.map_map]
  conv => rhs; rw [← List.map_id w]
  apply List.map_congr_left
  intro c hc
  exact (dig_und c (List.all_eq_true.1 h c hc)).1
theorem und_01 (w : List UInt8) (h : w.all isDig = true) : ∀ b ∈ w.map und, b = 0 ∨ b = 1 := by
  intro b hb
  obtain ⟨c, hc, rfl⟩ := List.mem_map.1 hb
  exact (dig_und c (List.all_eq_true.1 h c hc)).2
theorem numS_digs : ∀ (n : Nat) (v : Int), 0 ≤ v → v < 2 ^ n → numS (digs v n n) = v
  | 0, v, h0, h1 => by
    have : v = 0 := by simp at h1; omega
    subst this; rfl
  | n + 1, v, h0, h1 => by
    have hp : (2 : Int) ^ (n + 1) = 2 * 2 ^ n := by rw [Int.pow_succ]; omega
    rw [digs_snoc, numS_snoc, numS_digs n (v / 2) (by omega) (by omega)]
    have : ((dg v).toNat : Int) = 48 + v % 2 := by
      rw [dg_digB]
      exact (digB_nat _ (by omega)).1
    omega
theorem nB_digs (n : Nat) (v : Int) (h0 : 0 ≤ v) (h1 : v < 2 ^ n) : nB ((digs v n n).map und) = v := by
  have hd := Wr.digs_dig v n n
  rw [← numS_map _ (und_01 _ hd), map_und _ hd]
  exact numS_digs n v h0 h1
end Go.Proofs.YtbfojhfiemcnpaaDoor.Av.Rn

/- Events, there and back. -/
set_option linter.unusedSimpArgs false
set_option linter.unusedVariables false
set_option maxRecDepth 100000
namespace Go.Proofs.YtbfojhfiemcnpaaDoor.Av.Rn
open Go Bt Tc Bl
/-- an event's place among all rows -/
def evIx (la : Bool) (ru : Int) (am : Int) : Nat := (fidx (hasS la ru am) evRows 0).getD 0
set_option maxHeartbeats 4000000 in
theorem ev_key : ∀ la : Bool, ∀ ru : _root_.Fin 64, ∀ a : _root_.Fin 12, (a.val : Int) < manyS la ru.val →
    rgo evRows (hasS la ru.val (a.val + 1)) [] = some (evIx la ru.val (a.val + 1)) ∧ evAt (evIx la ru.val (a.val + 1)) = (la, ru.val, a.val + 1) ∧ evIx la ru.val (a.val + 1) ≠ 0 := by decide +kernel
theorem esc_key : rgo evRows [48, 48, 48, 48, 48, 49, 49] [] = some 0 := by decide +kernel
theorem ev_row (la : Bool) (ru am : Int) (h : 0 ≤ ru ∧ ru ≤ 63) (ha : 1 ≤ am) (hm : ¬ manyS la ru < am) : ∃ i : Nat, i ≠ 0 ∧ rgo evRows (hasS la ru am) [] = some i ∧ evAt i = (la, ru.toNat, am.toNat) := by
  have hb := manyS_bd la ru
  have k := ev_key la ⟨ru.toNat, by omega⟩ ⟨(am - 1).toNat, by omega⟩
  simp only at k
  rw [show ((ru.toNat : Nat) : Int) = ru by omega, show (((am - 1).toNat : Nat) : Int) = am - 1 by omega, show am - 1 + 1 = am by omega, show (am - 1).toNat + 1 = am.toNat by omega] at k
  obtain ⟨k1, k2, k3⟩ := k (by omega)
  exact ⟨_, k3, k1, k2⟩
attribute [local irreducible] hasS evRows evAt manyS Tc.placeS digs
/-- what is behind the escape -/
def lev8 (n : Int) : Int := if n < 0 then 256 + n else n
theorem lstD_und (la : Bool) : (lstD la).map und = [if la = true then 1 else 0] := by cases la <;> rfl
theorem sgnS_und (n : Int) : (sgnS n).map und = [if n < 0 then 1 else 0] := by unfold sgnS; split <;> rfl
theorem esc_row (e : Ev) (h : evR e = true) (hw : hasS e.last e.run (absS e.level) = []) (R : List Int) :
    escX (nB (((((lstD e.last) ++ digs e.run 6 6) ++ digs (lev8 e.level) 8 8).map und ++ R).take 15)) (((((lstD e.last) ++ digs e.run 6 6) ++ digs (lev8 e.level) 8 8).map und ++ R).length) = (e, 0, 22) := by
  obtain ⟨la, ru, le⟩ := e
  have hb : (0 ≤ ru ∧ ru ≤ 63) ∧ le ≠ 0 ∧ -127 ≤ le ∧ le ≤ 127 := of_decide_eq_true h
  have l15 : ((((lstD la) ++ digs ru 6 6) ++ digs (lev8 le) 8 8).map und).length = 15 := by
    rw [List.length_map, List.length_append, List.length_append, lstD_len, digs_len, digs_len]
  simp only
  rw [List.take_left' l15, List.map_append, List.map_append, lstD_und, nB_app, nB_app, nB_digs 6 ru hb.1.1 (by omega), nB_digs 8 (lev8 le) (by unfold lev8; split <;> omega) (by unfold lev8; split <;> omega), List.length_map, List.length_map, digs_len, digs_len]
  have n1 : nB [if la = true then (1 : Int) else 0] = if la = true then 1 else 0 := by simp [nB]
  rw [n1]
  have e0 := esc_eq (if la = true then 1 else 0) ru (lev8 le) (by split <;> simp) (by omega) (by unfold lev8; split <;> omega)
  have e1 : escOf (((if la = true then 1 else 0) * 2 ^ 6 + ru) * 2 ^ 8 + lev8 le) = ⟨la, ru, le⟩ := by
    rw [show (2 : Int) ^ 6 = 64 by decide, show (2 : Int) ^ 8 = 256 by decide, e0]
    congr 1
    · cases la <;> decide
    · unfold lev8; split <;> split <;> omega
  unfold escX
  rw [if_neg (by rw [List.length_append, List.length_append, List.length_append, List.length_singleton, List.length_map, List.length_map, digs_len, digs_len]; omega), e1]
  have hp := has_place h
  rw [decide_eq_true hw] at hp
  have eb : escBad ⟨la, ru, le⟩ = false := by
    unfold escBad
    rw [h]
    simpa using hp.symm
  rw [eb, if_neg (by decide)]
theorem evRow_dig (e : Ev) (h : evR e = true) : (evRow e).all isDig = true := (evRow_ok e h).1
/-- an event's row tells it -/
theorem ev_back (e : Ev) (h : evR e = true) (R : List Int) (hR : ∀ b ∈ R, b = 0 ∨ b = 1) : evX ((evRow e).map und ++ R) = (e, 0, (evRow e).length) := by
  obtain ⟨la, ru, le⟩ := e
  have hb : (0 ≤ ru ∧ ru ≤ 63) ∧ le ≠ 0 ∧ -127 ≤ le ∧ le ≤ 127 := of_decide_eq_true h
  have ab := absS_bd hb.2
  have hmap : ((evRow ⟨la, ru, le⟩).map und ++ R).map digB = evRow ⟨la, ru, le⟩ ++ R.map digB := by rw [List.map_append, map_und _ (evRow_dig _ h)]
  by_cases hw : hasS la ru (absS le) = []
  · have er : evRow ⟨la, ru, le⟩ = [48, 48, 48, 48, 48, 49, 49] ++ (((lstD la) ++ digs ru 6 6) ++ digs (lev8 le) 8 8) := by
      unfold evRow lev8
      rw [if_pos h, if_neg (by simpa using hw)]
      simp [List.append_assoc]
    have hx := esc_row ⟨la, ru, le⟩ h hw R
    unfold evX
    rw [hmap, er, List.append_assoc, rgo_run evRows _ [] 0 esc_key]
    simp only [ne_eq, not_true_eq_false, if_false]
    rw [if_pos (show ((0 : Nat) : Int) = 0 from rfl)]
    rw [List.map_append, List.append_assoc, List.drop_left' (show (([48, 48, 48, 48, 48, 49, 49] : List UInt8).map und).length = 7 from rfl)]
    have hl : ((([48, 48, 48, 48, 48, 49, 49] : List UInt8).map und ++ ((((lstD la) ++ digs ru 6 6) ++ digs (lev8 le) 8 8).map und ++ R)).length - 7) = ((((lstD la) ++ digs ru 6 6) ++ digs (lev8 le) 8 8).map und ++ R).length := by
      rw [List.length_append, show (([48, 48, 48, 48, 48, 49, 49] : List UInt8).map und).length = 7 from rfl]; omega
    rw [hl, hx]
    congr 2
    rw [List.length_append, List.length_append, List.length_append, lstD_len, digs_len, digs_len]; rfl
  · have hm : ¬ manyS la ru < absS le := fun hm => hw (tc_no la ru (absS le) hb.1 hm).1
    obtain ⟨i, h0, h1, h2⟩ := ev_row la ru (absS le) hb.1 ab.1 hm
    have er : evRow ⟨la, ru, le⟩ = hasS la ru (absS le) ++ sgnS le := by
      unfold evRow
      rw [if_pos h, if_pos (by simpa using hw)]
    have hr := rgo_run evRows _ [] i h1 (sgnS le ++ R.map digB)
    rw [← List.append_assoc, ← er, ← hmap, List.length_nil, Nat.zero_add] at hr
    unfold evX
    rw [hr]
    simp only [ne_eq, not_true_eq_false, if_false]
    rw [if_neg (by omega), Int.toNat_natCast, h2, if_neg (by rw [er, List.length_append, List.length_map, List.length_append, sgnS_len]; omega)]
    have hg : ((evRow ⟨la, ru, le⟩).map und ++ R).getD (hasS la ru (absS le)).length 0 = if le < 0 then 1 else 0 := by
      rw [er, List.map_append, sgnS_und, List.append_assoc, List.getD_eq_getElem?_getD, List.getElem?_append_right (by rw [List.length_map]; omega), List.length_map, Nat.sub_self]
      rfl
    rw [hg, er, List.length_append, sgnS_len]
    congr 1
    have e1 : ((ru.toNat : Nat) : Int) = ru := by omega
    have e2 : (((absS le).toNat : Nat) : Int) = absS le := by omega
    simp only [e1, e2]
    unfold absS
    congr 1
    split <;> omega
end Go.Proofs.YtbfojhfiemcnpaaDoor.Av.Rn

/- Blocks, there and back. -/
set_option linter.unusedSimpArgs false
set_option linter.unusedVariables false
set_option maxRecDepth 100000
namespace Go.Proofs.YtbfojhfiemcnpaaDoor.Av.Rn
open Go Bt Tc Bl
attribute [local irreducible] evX evRow nB digs
theorem rows_01 (l : List Ev) (h : ∀ e ∈ l, evR e = true) (R : List Int) (hR : ∀ b ∈ R, b = 0 ∨ b = 1) : ∀ b ∈ (l.flatMap evRow).map und ++ R, b = 0 ∨ b = 1 := fun b hb => by
  rcases List.mem_append.1 hb with hb | hb
  · exact und_01 _ (rows_ok l h).1 b hb
  · exact hR b hb
theorem evs_back : ∀ (l : List Ev) (f a : Nat) (out : List Int) (R : List Int), (∀ b ∈ R, b = 0 ∨ b = 1) → l ≠ [] → l.length ≤ f → (levS l a out).isSome = true → evsX f ((l.flatMap evRow).map und ++ R) (a : Int) = (l, 0, (l.flatMap evRow).length)
  | [], f, a, out, R, _, h, _, _ => absurd rfl h
  | e :: l, 0, a, out, R, _, _, h, _ => by simp at h
  | e :: l, f + 1, a, out, R, hR, _, hf, hl => by
    obtain ⟨r, hr⟩ := Option.isSome_iff_exists.1 hl
    have hall := (levS_facts _ _ _ _ hr).2.1
    rw [levS_cons] at hl
    by_cases hc : evR e = true ∧ e.last = l.isEmpty ∧ a + e.run.toNat < 64
    · rw [if_pos hc] at hl
      obtain ⟨c1, c2, c3⟩ := hc
      have hb := evR_bd c1
      have h01 := rows_01 l (fun x hx => hall x (List.mem_cons_of_mem _ hx)) R hR
      have eb := ev_back e c1 ((l.flatMap evRow).map und ++ R) h01
      have hB : ((e :: l).flatMap evRow).map und ++ R = (evRow e).map und ++ ((l.flatMap evRow).map und ++ R) := by
        rw [List.flatMap_cons, List.map_append, List.append_assoc]
      rw [evsX, hB, eb]
      simp only [ne_eq, not_true_eq_false, if_false]
      rw [if_neg (by omega)]
      cases l with
      | nil =>
        rw [if_pos (by rw [c2]; rfl)]
        simp
      | cons x t =>
        rw [if_neg (by rw [c2]; simp)]
        have ea : (a : Int) + (e.run + 1) = ((a + e.run.toNat + 1 : Nat) : Int) := by omega
        rw [ea, List.drop_left' (by rw [List.length_map])]
        rw [evs_back (x :: t) f (a + e.run.toNat + 1) _ R hR (by simp) (by simp at hf ⊢; omega) hl]
        simp only [ne_eq, not_true_eq_false, if_false]
        rw [show (e :: x :: t).flatMap evRow = evRow e ++ (x :: t).flatMap evRow from rfl, List.length_append]
    · rw [if_neg hc] at hl; cases hl
theorem dc_back (intra : Bool) (dc : Int) (R : List Int) (h : dcOk intra dc = true) : dc0 intra ((dcRow intra dc).map und ++ R) = (dc, 0, (dcRow intra dc).length) := by
  unfold dc0 dcRow
  cases intra with
  | false =>
    have : dc = 0 := of_decide_eq_true h
    subst this; rfl
  | true =>
    have hb : 1 ≤ dc ∧ dc ≤ 254 := of_decide_eq_true h
    simp only [if_true]
    rw [List.take_left' (by rw [List.length_map, digs_len]), nB_digs 8 _ (by split <;> omega) (by split <;> omega), digs_len]
    unfold dcX
    rw [if_neg (by rw [List.length_append, List.length_map, digs_len]; omega), if_neg (by split <;> omega)]
    by_cases h2 : dc = 128
    · rw [if_pos h2, if_pos rfl, h2]
    · rw [if_neg h2, if_neg (by omega)]
theorem bl_back (intra : Bool) (dc : Int) (l : List Ev) (R : List Int) (hR : ∀ b ∈ R, b = 0 ∨ b = 1) (h : blMay intra dc l = true) : blX intra (!l.isEmpty) ((blRow intra dc l).map und ++ R) = (dc, l, 0, (blRow intra dc l).length) := by
  have h2 := h
  unfold blMay at h2
  rw [Bool.and_eq_true] at h2
  obtain ⟨m1, m2⟩ := h2
  have hB : (blRow intra dc l).map und ++ R = (dcRow intra dc).map und ++ ((l.flatMap evRow).map und ++ R) := by
    unfold blRow; rw [List.map_append, List.append_assoc]
  have hd := dc_back intra dc ((l.flatMap evRow).map und ++ R) m2
  have hbl : (blRow intra dc l).length = (dcRow intra dc).length + (l.flatMap evRow).length := by unfold blRow; rw [List.length_append]
  unfold blX
  rw [hB, hd, hbl]
  simp only [ne_eq, not_true_eq_false, if_false]
  cases l with
  | nil => simp
  | cons e t =>
    rw [if_pos (by rfl), List.drop_left' (by rw [List.length_map])]
    have hl : (e :: t).length ≤ 64 := (blMay_inv h).2.1
    rw [evs_back (e :: t) 66 (frm intra) z64 R hR (by simp) (by omega) m1]
    simp
end Go.Proofs.YtbfojhfiemcnpaaDoor.Av.Rn
