/- Cells are read: cellin.Take. Cells are read: cellin.Take, walked. -/
import Derived.Test.YtbfojhfiemcnpaaDoorCi4
/- Cells are read: cellin.Take. -/
set_option linter.unusedSimpArgs false
set_option linter.unusedVariables false
set_option maxRecDepth 100000
namespace Go.Proofs.YtbfojhfiemcnpaaDoor.Av.Ci
open Go Bt Tc Co Bl
attribute [local irreducible] AGo ACalls ARegH ARegK ARegK1 AReg
variable {gl : List (Nat × List D)}
abbrev celN' (st : Int) (sk : Bool) : D := .agg [In st, .bool sk, In 0, In 0, In 0, In 0, In 0, In 0, In 0, In 0, In 0, In 0, .nils, .nils, .nils, .nils, .nils, .nils]
abbrev celS (st : Int) (sk : Bool) : Cel := ⟨st, sk, 0, 0, 0, 0, 0, 0, 0, 0, 0, 0, [], [], [], [], [], []⟩
theorem agg_weak {cs ds : List D} (hl : ds.length = cs.length) (hone : ∀ d ∈ ds, d.one = true) (h : ∀ (i : Nat) (c d : D), cs[i]? = some c → ds[i]? = some d → DWeak c d) : DWeak (.agg cs) (.agg ds) := fun imm v hv => by
  cases hv with
  | agg vs _ hl0 hone0 h0 =>
    refine .agg vs _ (hl0.trans hl.symm) hone fun i d hd => ?_
    have hi : i < cs.length := by rw [← hl]; exact getElem?_lt hd
    have hc : cs[i]? = some cs[i] := List.getElem?_eq_getElem hi
    exact h i _ d hc hd imm _ (h0 i _ hc)
theorem celN'_weak (st : Int) (sk : Bool) : DWeak (celN' st sk) (celD (celS st sk)) := agg_weak rfl (by simp [D.one]) (fun i c d hc hd => by
  have hn : DWeak .nils (evS []) := DWeak.nils 3
  match i, hc, hd with
  | 0, hc, hd | 1, hc, hd | 2, hc, hd | 3, hc, hd | 4, hc, hd | 5, hc, hd | 6, hc, hd | 7, hc, hd | 8, hc, hd | 9, hc, hd | 10, hc, hd | 11, hc, hd => cases hc; cases hd; exact DWeak.refl _
  | 12, hc, hd | 13, hc, hd | 14, hc, hd | 15, hc, hd | 16, hc, hd | 17, hc, hd => cases hc; cases hd; exact hn
  | i + 18, hc, hd => simp at hc)
/-! bounds -/
theorem mbN_kind (b : Bool) (B : List Int) (h : (mbN b B).2.2.1 = 0) : ((mbN b B).1 = 0 ∨ (mbN b B).1 = 1 ∨ (mbN b B).1 = 3 ∨ (mbN b B).1 = 4 ∨ (mbN b B).1 = 5) ∧ 0 ≤ (mbN b B).2.1 ∧ (mbN b B).2.1 ≤ 3 := by
  have hb := Mv.rrun_bd (Mb.mbRs b) (B.map digB) []
  rw [Mb.mbRs_len] at hb
  unfold mbN Mb.mbX at h ⊢
  generalize rrun (Mb.mbRs b) (B.map digB) [] = y at *
  obtain ⟨i, e, c⟩ := y
  simp only at hb h ⊢
  by_cases h1 : e = 0
  · rw [if_pos h1] at h ⊢
    have hb := hb h1
    by_cases h2 : (i + (if b = true then 0 else 12)) / 4 = 2
    · rw [if_pos h2] at h; cases h
    · rw [if_neg h2]
      simp only
      cases b
      · simp only [Bool.false_eq_true, if_false] at hb h2 ⊢; omega
      · simp only [if_true] at hb h2 ⊢; omega
  · rw [if_neg h1] at h; exact absurd h h1
structure HdB (B : List Int) (h : HdR) : Prop where
  le : h.used ≤ B.length
  sk : h.skip = true → h.kind = 0
  ki : h.err = 0 → h.skip = false → (h.kind = 0 ∨ h.kind = 1 ∨ h.kind = 3 ∨ h.kind = 4) ∧ 0 ≤ h.chr ∧ h.chr ≤ 3
theorem hdK_bd (b : Bool) (B : List Int) (n : Int) (k : Nat) (y : HdR) (hk : k ≤ B.length) (hy : HdB (B.drop (k + (mbN b (B.drop k)).2.2.2)) y) : HdB B (hdK n k (mbN b (B.drop k)) y) := by
  have hl := mbN_le b (B.drop k)
  have hkd := mbN_kind b (B.drop k)
  rw [List.length_drop] at hl
  obtain ⟨y1, y2, y3⟩ := hy
  rw [List.length_drop] at y1
  generalize mbN b (B.drop k) = x at *
  unfold hdK
  by_cases h0 : x.2.2.1 ≠ 0
  · rw [if_pos h0]; exact ⟨hk, fun _ => rfl, fun h => absurd h h0⟩
  · rw [if_neg h0]
    obtain ⟨k1, k2⟩ := hkd (by simpa using h0)
    by_cases h5 : x.1 ≠ 5
    · rw [if_pos h5]
      exact ⟨by simp only; omega, fun h => (by cases h), fun _ _ => ⟨by simp only; omega, k2⟩⟩
    · rw [if_neg h5]
      by_cases h64 : n = 64
      · rw [if_pos h64]; exact ⟨by simp only; omega, fun _ => rfl, fun h => (by cases h)⟩
      · rw [if_neg h64]; exact ⟨by simp only; omega, y2, y3⟩
theorem hdX_bd (b : Bool) : ∀ (f : Nat) (n : Int) (B : List Int), HdB B (hdX b f n B)
  | 0, n, B => ⟨Nat.zero_le _, fun _ => rfl, fun h => (by cases h)⟩
  | f + 1, n, B => by
    rw [hdX]
    cases b with
    | false =>
      simp only [Bool.false_eq_true, if_false]
      have := hdK_bd false B n 0 _ (Nat.zero_le _) (hdX_bd false f (n + 1) _)
      simp only [List.drop_zero, Nat.zero_add] at this
      exact this
    | true =>
      simp only [if_true]
      by_cases h0 : B = []
      · rw [if_pos h0]; exact ⟨Nat.zero_le _, fun _ => rfl, fun h => (by cases h)⟩
      · rw [if_neg h0]
        have hl : 1 ≤ B.length := by
          cases B with
          | nil => exact absurd rfl h0
          | cons _ _ => simp
        by_cases h1 : B.getD 0 0 = 1
        · rw [if_pos h1]; exact ⟨hl, fun _ => rfl, fun _ h => (by cases h)⟩
        · rw [if_neg h1]
          exact hdK_bd true B n 1 _ hl (hdX_bd true f (n + 1) _)
theorem cbN_pat (b : Bool) (B : List Int) : 0 ≤ (cbN b B).1 ∧ (cbN b B).1 ≤ 15 := by
  have hb := Mv.rrun_bd Cb.cbR (B.map digB) []
  have hl : Cb.cbR.length = 16 := rfl
  unfold cbN Cb.cbX
  simp only
  split
  · rename_i h
    exact Cb.trn_bd b _ (by have := hb h; omega)
  · omega
theorem mdX_pat (k px py : Int) (B : List Int) : 0 ≤ (mdX k px py B).pat ∧ (mdX k px py B).pat ≤ 15 := by
  have := cbN_pat (intraS k) B
  have hm : ∀ st q, (mdM k px py B (cbN (intraS k) B).1 st q).pat = (cbN (intraS k) B).1 := fun st q => by
    unfold mdM
    split
    · rfl
    · split <;> rfl
  unfold mdX
  split
  · exact this
  · split
    · split
      · exact this
      · rw [hm]; exact this
    · rw [hm]; exact this
theorem mdM_le (k px py : Int) (s : List UInt8) (p : Nat) (pat st : Int) (q : Nat) (hq : p + q ≤ 8 * s.length) : p + (mdM k px py (bitsF s p) pat st q).used ≤ 8 * s.length := by
  have h1 := mvN_le (bitsF_01 s (p + q))
  have h2 := mvN_le (bitsF_01 s (p + (q + (mvN (bitsF s (p + q))).2.2)))
  rw [bitsF_len] at h1 h2
  unfold mdM
  simp only [bits_drop]
  split
  · exact hq
  · split
    · exact hq
    · simp only; omega
theorem mdX_le (k px py : Int) (s : List UInt8) (p : Nat) (hp : p ≤ 8 * s.length) : p + (mdX k px py (bitsF s p)).used ≤ 8 * s.length := by
  have h1 := cbN_le (intraS k) (bitsF s p)
  have h2 := stN_le (bitsF s (p + (cbN (intraS k) (bitsF s p)).2.2))
  rw [bitsF_len] at h1 h2
  unfold mdX
  simp only [bits_drop]
  split
  · exact hp
  · split
    · split
      · simp only; omega
      · exact mdM_le k px py s p _ _ _ (by omega)
    · exact mdM_le k px py s p _ _ _ (by omega)
theorem bdX_shift (b : Bool) (s : List UInt8) (p q : Nat) : ∀ (cs : List Bool) (r : Nat), bdX b cs (bitsF s p) (q + r) = ((bdX b cs (bitsF s (p + q)) r).1, (bdX b cs (bitsF s (p + q)) r).2.1, q + (bdX b cs (bitsF s (p + q)) r).2.2)
  | [], r => rfl
  | c :: cs, r => by
    rw [bdX, bdX, bits_drop, bits_drop, ← Nat.add_assoc p q r]
    by_cases h : (blX b c (bitsF s (p + q + r))).2.2.1 ≠ 0
    · rw [if_pos h, if_pos h]
    · rw [if_neg h, if_neg h, Nat.add_assoc q r, bdX_shift b s p q cs]
theorem bdX_len (b : Bool) (s : List UInt8) (p : Nat) : ∀ (cs : List Bool) (r : Nat), (bdX b cs (bitsF s p) r).2.1 = 0 → (bdX b cs (bitsF s p) r).1.length = cs.length
  | [], r, _ => rfl
  | c :: cs, r, h => by
    rw [bdX] at h ⊢
    by_cases h0 : (blX b c ((bitsF s p).drop r)).2.2.1 ≠ 0
    · rw [if_pos h0] at h; exact absurd h h0
    · rw [if_neg h0] at h ⊢
      simp only [List.length_cons]
      rw [bdX_len b s p cs _ h]
end Go.Proofs.YtbfojhfiemcnpaaDoor.Av.Ci

/- Cells are read: cellin.Take, walked. -/
set_option linter.unusedSimpArgs false
set_option linter.unusedVariables false
set_option maxRecDepth 100000
namespace Go.Proofs.YtbfojhfiemcnpaaDoor.Av.Ci
open Go Bt Tc Co Bl
attribute [local irreducible] AGo ACalls ARegH ARegK ARegK1 AReg
variable {gl : List (Nat × List D)}
theorem or_pat (a c : Int) (ha : 0 ≤ a ∧ a ≤ 15) (hc : 0 ≤ c ∧ c ≤ 3) : (((a * 2 ^ 2).toNat ||| c.toNat : Nat) : Int) = 4 * a + c := by
  obtain ⟨n, rfl⟩ := Int.eq_ofNat_of_zero_le ha.1
  obtain ⟨m, rfl⟩ := Int.eq_ofNat_of_zero_le hc.1
  have e : ((n : Int) * 2 ^ 2).toNat = 2 ^ 2 * n := by omega
  rw [e, Int.toNat_natCast]
  have := Nat.two_pow_add_eq_or_of_lt (i := 2) (b := m) (by omega) n
  rw [← this]; omega
set_option maxHeartbeats 4000000 in
theorem cbodye_c (e v q : Int) (cs : List AV) (s : List UInt8) (he : e ≠ 0) (hb : objsBnd 3 ([Rr 2 e, .cells cs, Rd s q].take 3) = true) : ACalls (cxg gl) 26 [.ptr 0 0, .ptr 1 0, I v] [Rr 2 e, .cells cs, Rd s q] (fun r H => r = .tup [] ∧ H = [Rr 2 e, .cells cs, Rd s q]) := by
  refine ACalls.enter Tryd.func26 rfl Tryd.ntmps26 (by kernel_rfl) rfl ?_; simp only [argEnv, Nat.reduceAdd, List.length_nil, List.length_cons]
  repeat' (first | apply AGo.seq | apply AGo.block | apply AGo.skip | apply AGo.nil | (apply AGo.region; rfl) | (apply AGo.q true; rfl; rfl; rfl; rfl; first | exact True.intro | omega | (simp only [Int.toNat_natCast, Int.reduceToNat, IntKind.bits]; omega)) | (apply AGo.condDT; rfl; first | omega | rfl) | (apply AGo.cBT; rfl; first | (simp only [bT]; omega)) | (((apply AGo.retN; rfl; rfl; rfl; exact hb))) | apply AGo.loopU | intro _ | (apply AGo.retN; rfl; rfl; rfl; rfl))
  all_goals first | exact ⟨rfl, rfl⟩ | trace_state
attribute [local irreducible] bitsF Tc.evsD hdX mdX bdX
set_option maxHeartbeats 32000000 in
theorem citake_c (b : Bool) (px py : Int) (s : List UInt8) (p : Nat) (hpx : I64 px) (hpy : I64 py) (hs : s.length ≤ 1000000) (hp : p ≤ 8 * s.length) :
    ACalls (cxg gB) 12 [.ptr 0 0, B b, .d (.agg [In px, In py])] [Rd s p]
    (fun r H => r = .tup [.d (celD (celX b px py (bitsF s p)).1), I (celX b px py (bitsF s p)).2.1] ∧ H = [Rd s ((p + (celX b px py (bitsF s p)).2.2 : Nat) : Int)]) := by
  have e00 : evsD [] = [] := by unfold Tc.evsD; rfl
  have a0 := at_c (gl := gB) s p
  have hd := chead_c b s p hs hp
  have hB := hdX_bd b 65 0 (bitsF s p)
  have hBl := bitsF_len s p
  unfold celX celT
  generalize hdX b 65 0 (bitsF s p) = h at *
  obtain ⟨h1, h2, h3⟩ := hB
  rw [hBl] at h1
  obtain ⟨st, sk, k, ch, e, u⟩ := h
  simp only at hd h1 h2 h3 ⊢
  have sk0 := fun c : Int => seek_ok (gl := gB) s c p (by omega) ⟨by omega, by omega⟩
  by_cases he : e = 0
  · subst he
    simp only [ne_eq, not_true_eq_false, if_false]
    cases sk with
    | true =>
      obtain rfl := h2 rfl
      simp only [if_true]
      refine ACalls.enter Tryd.func12 rfl Tryd.ntmps12 (by kernel_rfl) rfl ?_; simp only [argEnv, Nat.reduceAdd, List.length_nil, List.length_cons]
      repeat' (first | apply AGo.seq | apply AGo.skip | apply AGo.nil | (apply AGo.region; rfl) | (apply AGo.q true; rfl; rfl; rfl; rfl; first | exact True.intro | omega | (simp only [Int.toNat_natCast, Int.reduceToNat, IntKind.bits]; omega)) | (apply AGo.callH [0] ( a0); (iterate 6 rfl); decide; rfl; rfl; simp only [names, putH, AV.ren, AV.renL, AObj.ren, nh, Nat.reduceAdd, Nat.reduceSub]) | (apply AGo.callH [3,4,0] ( hd); (iterate 6 rfl); decide; rfl; rfl; simp only [names, putH, AV.ren, AV.renL, AObj.ren, nh, Nat.reduceAdd, Nat.reduceSub]) | (apply AGo.condT; rfl) | (apply AGo.condF; rfl) | (apply AGo.alloc; (iterate 5 rfl); simp only [nm, Nat.reduceAdd, spliceA, AV.cells, D.cells]) | (apply AGo.box; (iterate 6 rfl); simp only [nm, Nat.reduceAdd, spliceA, AV.cells, D.cells]) | (apply AGo.store; (iterate 9 rfl); exact Nat.le_of_ble_eq_true rfl; simp only [nm, Nat.reduceAdd, spliceA, AV.cells, D.cells]) | (apply AGo.build; (iterate 5 rfl); simp only [nm, Nat.reduceAdd, spliceA, AV.cells, D.cells, mkAgg, unDs, AV.unD]) | (apply AGo.cBT; rfl; first | (simp only [bT]; omega)) | (apply AGo.retW (.tup [.d (celD (celS st true)), I 0]); rfl; exact Weak.tup ⟨Weak.d (celN'_weak st true), Weak.refl _, trivial⟩; rfl; rfl; rfl) | intro _ | (apply AGo.retN; rfl; rfl; rfl; rfl))
      all_goals first | exact ⟨rfl, rfl⟩ | (exfalso; omega) | trace_state
    | false =>
      obtain ⟨hk, hch⟩ := h3 rfl rfl
      simp only [Bool.false_eq_true, if_false]
      have md := cmid_c st k px py s (p + u) hk hpx hpy hs (by omega)
      have mp := mdX_pat k px py (bitsF s (p + u))
      have ml := mdX_le k px py s (p + u) (by omega)
      rw [bits_drop]
      generalize mdX k px py (bitsF s (p + u)) = M at *
      obtain ⟨pat, sp, mx, my, me, mu⟩ := M
      simp only at md mp ml ⊢
      have hor := or_pat pat ch mp hch
      by_cases hm : me = 0
      · subst hm
        simp only [not_true_eq_false, if_false]
        have bd := cbody_c st k sp mx my (4 * pat + ch) s (p + u + mu) hs (by omega) (by omega)
        have bs := bdX_shift (intraS k) s (p + u) mu (cds (4 * pat + ch)) 0
        have bn := bdX_len (intraS k) s (p + u + mu) (cds (4 * pat + ch)) 0
        rw [Nat.add_zero] at bs
        rw [bs]
        generalize bdX (intraS k) (cds (4 * pat + ch)) (bitsF s (p + u + mu)) 0 = Y at *
        obtain ⟨L, be, bu⟩ := Y
        simp only at bd bn ⊢
        rw [← hor] at bd
        by_cases hbe : be = 0
        · subst hbe
          simp only [if_true, not_true_eq_false, if_false] at bd ⊢
          have hL : L.length = 6 := bn rfl
          match L, hL with
          | [b0, b1, b2, b3, b4, b5], _ =>
            simp only [← Nat.add_assoc]
            refine ACalls.enter Tryd.func12 rfl Tryd.ntmps12 (by kernel_rfl) rfl ?_; simp only [argEnv, Nat.reduceAdd, List.length_nil, List.length_cons]
            repeat' (first | apply AGo.seq | apply AGo.skip | apply AGo.nil | (apply AGo.region; rfl) | (apply AGo.q true; rfl; rfl; rfl; rfl; first | exact True.intro | omega | (simp only [Int.toNat_natCast, Int.reduceToNat, IntKind.bits]; omega)) | (apply AGo.callH [0] ( a0); (iterate 6 rfl); decide; rfl; rfl; simp only [names, putH, AV.ren, AV.renL, AObj.ren, nh, Nat.reduceAdd, Nat.reduceSub]) | (apply AGo.callH [3,4,0] ( hd); (iterate 6 rfl); decide; rfl; rfl; simp only [names, putH, AV.ren, AV.renL, AObj.ren, nh, Nat.reduceAdd, Nat.reduceSub]) | (apply AGo.callH [3,4,0] ( md); (iterate 6 rfl); decide; rfl; rfl; simp only [names, putH, AV.ren, AV.renL, AObj.ren, nh, Nat.reduceAdd, Nat.reduceSub]) | (apply AGo.callH [3,4,0] ( bd); (iterate 6 rfl); decide; rfl; rfl; simp only [names, putH, AV.ren, AV.renL, AObj.ren, nh, Nat.reduceAdd, Nat.reduceSub]) | (apply AGo.condT; rfl) | (apply AGo.condF; rfl) | (apply AGo.alloc; (iterate 5 rfl); simp only [nm, Nat.reduceAdd, spliceA, AV.cells, D.cells]) | (apply AGo.box; (iterate 6 rfl); simp only [nm, Nat.reduceAdd, spliceA, AV.cells, D.cells]) | (apply AGo.store; (iterate 9 rfl); exact Nat.le_of_ble_eq_true rfl; simp only [nm, Nat.reduceAdd, spliceA, AV.cells, D.cells]) | (apply AGo.build; (iterate 5 rfl); simp only [nm, Nat.reduceAdd, spliceA, AV.cells, D.cells, mkAgg, unDs, AV.unD]) | (apply AGo.cBT; rfl; first | (simp only [bT]; omega)) | intro _ | (apply AGo.retN; rfl; rfl; rfl; rfl))
            all_goals first | exact ⟨rfl, rfl⟩ | (exfalso; omega) | trace_state
        · simp only [if_neg hbe, if_pos hbe, Nat.add_zero] at bd ⊢
          generalize celB st k sp mx my (L ++ [(0, [])]) = CS at *
          refine ACalls.enter Tryd.func12 rfl Tryd.ntmps12 (by kernel_rfl) rfl ?_; simp only [argEnv, Nat.reduceAdd, List.length_nil, List.length_cons]
          repeat' (first | (apply AGo.drawX [0, 1, 2, 3, 4, 5, 6] 7; rfl) | (apply AReg.fin; kernel_rfl) | (apply AReg.go) | (apply AReg.pure true; rfl; exact fun _ _ _ h => h; (iterate 6 rfl); kernel_rfl; kernel_rfl; first | exact True.intro | omega) | (apply AReg.one; rfl; rfl; kernel_rfl) | (apply AReg.two; rfl; rfl; rfl; kernel_rfl) | (exact AGo.mid0) | (apply AGo.midDone; (repeat' (first | exact EnvEq.nil | (apply EnvEq.cons; rfl))); rfl) | apply AGo.seq | apply AGo.skip | apply AGo.nil | (apply AGo.region; rfl) | (apply AGo.q true; rfl; rfl; rfl; rfl; first | exact True.intro | omega | (simp only [Int.toNat_natCast, Int.reduceToNat, IntKind.bits]; omega)) | (apply AGo.callH [0] ( a0); (iterate 6 rfl); decide; rfl; rfl; simp only [names, putH, AV.ren, AV.renL, AObj.ren, nh, Nat.reduceAdd, Nat.reduceSub]) | (apply AGo.callH [3,4,0] ( hd); (iterate 6 rfl); decide; rfl; rfl; simp only [names, putH, AV.ren, AV.renL, AObj.ren, nh, Nat.reduceAdd, Nat.reduceSub]) | (apply AGo.callH [3,4,0] ( md); (iterate 6 rfl); decide; rfl; rfl; simp only [names, putH, AV.ren, AV.renL, AObj.ren, nh, Nat.reduceAdd, Nat.reduceSub]) | (apply AGo.callH [3,4,0] ( bd); (iterate 6 rfl); decide; rfl; rfl; simp only [names, putH, AV.ren, AV.renL, AObj.ren, nh, Nat.reduceAdd, Nat.reduceSub]) | (apply AGo.callH [0] ( sk0 _); (iterate 6 rfl); decide; rfl; rfl; simp only [names, putH, AV.ren, AV.renL, AObj.ren, nh, Nat.reduceAdd, Nat.reduceSub]) | (apply AGo.condT; rfl) | (apply AGo.condF; rfl) | (apply AGo.alloc; (iterate 5 rfl); simp only [nm, Nat.reduceAdd, spliceA, AV.cells, D.cells]) | (apply AGo.box; (iterate 6 rfl); simp only [nm, Nat.reduceAdd, spliceA, AV.cells, D.cells]) | (apply AGo.store; (iterate 9 rfl); exact Nat.le_of_ble_eq_true rfl; simp only [nm, Nat.reduceAdd, spliceA, AV.cells, D.cells]) | (apply AGo.build; (iterate 5 rfl); simp only [nm, Nat.reduceAdd, spliceA, AV.cells, D.cells, mkAgg, unDs, AV.unD]) | (apply AGo.cBT; rfl; first | (simp only [bT]; omega)) | (apply AGo.retW (.tup [.d (celD cel0), I be]); rfl; exact Weak.tup ⟨Weak.d (celN'_weak 0 false), Weak.refl _, trivial⟩; rfl; rfl; rfl) | intro _ | (apply AGo.retN; rfl; rfl; rfl; rfl))
          all_goals first | exact ⟨rfl, rfl⟩ | (exfalso; omega) | trace_state
      · rw [if_pos hm]
        simp only [Nat.add_zero]
        have be := fun v => cbodye_c (gl := gB) me v ((p + u + mu : Nat) : Int) (celM st k sp mx my) s hm rfl
        refine ACalls.enter Tryd.func12 rfl Tryd.ntmps12 (by kernel_rfl) rfl ?_; simp only [argEnv, Nat.reduceAdd, List.length_nil, List.length_cons]
        repeat' (first | (apply AGo.drawX [0, 1, 2, 3, 4, 5, 6] 7; rfl) | (apply AReg.fin; kernel_rfl) | (apply AReg.go) | (apply AReg.pure true; rfl; exact fun _ _ _ h => h; (iterate 6 rfl); kernel_rfl; kernel_rfl; first | exact True.intro | omega) | (apply AReg.one; rfl; rfl; kernel_rfl) | (apply AReg.two; rfl; rfl; rfl; kernel_rfl) | (exact AGo.mid0) | (apply AGo.midDone; (repeat' (first | exact EnvEq.nil | (apply EnvEq.cons; rfl))); rfl) | apply AGo.seq | apply AGo.skip | apply AGo.nil | (apply AGo.region; rfl) | (apply AGo.q true; rfl; rfl; rfl; rfl; first | exact True.intro | omega | (simp only [Int.toNat_natCast, Int.reduceToNat, IntKind.bits]; omega)) | (apply AGo.callH [0] ( a0); (iterate 6 rfl); decide; rfl; rfl; simp only [names, putH, AV.ren, AV.renL, AObj.ren, nh, Nat.reduceAdd, Nat.reduceSub]) | (apply AGo.callH [3,4,0] ( hd); (iterate 6 rfl); decide; rfl; rfl; simp only [names, putH, AV.ren, AV.renL, AObj.ren, nh, Nat.reduceAdd, Nat.reduceSub]) | (apply AGo.callH [3,4,0] ( md); (iterate 6 rfl); decide; rfl; rfl; simp only [names, putH, AV.ren, AV.renL, AObj.ren, nh, Nat.reduceAdd, Nat.reduceSub]) | (apply AGo.callH [3,4,0] ( be _); (iterate 6 rfl); decide; rfl; rfl; simp only [names, putH, AV.ren, AV.renL, AObj.ren, nh, Nat.reduceAdd, Nat.reduceSub]) | (apply AGo.callH [0] ( sk0 _); (iterate 6 rfl); decide; rfl; rfl; simp only [names, putH, AV.ren, AV.renL, AObj.ren, nh, Nat.reduceAdd, Nat.reduceSub]) | (apply AGo.condT; rfl) | (apply AGo.condF; rfl) | (apply AGo.alloc; (iterate 5 rfl); simp only [nm, Nat.reduceAdd, spliceA, AV.cells, D.cells]) | (apply AGo.box; (iterate 6 rfl); simp only [nm, Nat.reduceAdd, spliceA, AV.cells, D.cells]) | (apply AGo.store; (iterate 9 rfl); exact Nat.le_of_ble_eq_true rfl; simp only [nm, Nat.reduceAdd, spliceA, AV.cells, D.cells]) | (apply AGo.build; (iterate 5 rfl); simp only [nm, Nat.reduceAdd, spliceA, AV.cells, D.cells, mkAgg, unDs, AV.unD]) | (apply AGo.cBT; rfl; first | (simp only [bT]; omega)) | (apply AGo.retW (.tup [.d (celD cel0), I me]); rfl; exact Weak.tup ⟨Weak.d (celN'_weak 0 false), Weak.refl _, trivial⟩; rfl; rfl; rfl) | intro _ | (apply AGo.retN; rfl; rfl; rfl; rfl))
        all_goals first | exact ⟨rfl, rfl⟩ | (exfalso; omega) | trace_state
  · rw [if_pos he]
    simp only [decide_eq_false he, Bool.false_and, Nat.add_zero] at hd ⊢
    refine ACalls.enter Tryd.func12 rfl Tryd.ntmps12 (by kernel_rfl) rfl ?_; simp only [argEnv, Nat.reduceAdd, List.length_nil, List.length_cons]
    repeat' (first | (apply AGo.drawX [0, 1, 2, 3, 4, 5, 6] 7; rfl) | (apply AReg.fin; kernel_rfl) | (apply AReg.go) | (apply AReg.pure true; rfl; exact fun _ _ _ h => h; (iterate 6 rfl); kernel_rfl; kernel_rfl; first | exact True.intro | omega) | (apply AReg.one; rfl; rfl; kernel_rfl) | (apply AReg.two; rfl; rfl; rfl; kernel_rfl) | (exact AGo.mid0) | (apply AGo.midDone; (repeat' (first | exact EnvEq.nil | (apply EnvEq.cons; rfl))); rfl) | apply AGo.seq | apply AGo.skip | apply AGo.nil | (apply AGo.region; rfl) | (apply AGo.q true; rfl; rfl; rfl; rfl; first | exact True.intro | omega | (simp only [Int.toNat_natCast, Int.reduceToNat, IntKind.bits]; omega)) | (apply AGo.callH [0] ( a0); (iterate 6 rfl); decide; rfl; rfl; simp only [names, putH, AV.ren, AV.renL, AObj.ren, nh, Nat.reduceAdd, Nat.reduceSub]) | (apply AGo.callH [3,4,0] ( hd); (iterate 6 rfl); decide; rfl; rfl; simp only [names, putH, AV.ren, AV.renL, AObj.ren, nh, Nat.reduceAdd, Nat.reduceSub]) | (apply AGo.callH [0] ( sk0 _); (iterate 6 rfl); decide; rfl; rfl; simp only [names, putH, AV.ren, AV.renL, AObj.ren, nh, Nat.reduceAdd, Nat.reduceSub]) | (apply AGo.condT; rfl) | (apply AGo.condF; rfl) | (apply AGo.alloc; (iterate 5 rfl); simp only [nm, Nat.reduceAdd, spliceA, AV.cells, D.cells]) | (apply AGo.box; (iterate 6 rfl); simp only [nm, Nat.reduceAdd, spliceA, AV.cells, D.cells]) | (apply AGo.store; (iterate 9 rfl); exact Nat.le_of_ble_eq_true rfl; simp only [nm, Nat.reduceAdd, spliceA, AV.cells, D.cells]) | (apply AGo.build; (iterate 5 rfl); simp only [nm, Nat.reduceAdd, spliceA, AV.cells, D.cells, mkAgg, unDs, AV.unD]) | (apply AGo.cBT; rfl; first | (simp only [bT]; omega)) | (apply AGo.retW (.tup [.d (celD cel0), I e]); rfl; exact Weak.tup ⟨Weak.d (celN'_weak 0 false), Weak.refl _, trivial⟩; rfl; rfl; rfl) | intro _ | (apply AGo.retN; rfl; rfl; rfl; rfl))
    all_goals first | exact ⟨rfl, rfl⟩ | (exfalso; omega) | trace_state
end Go.Proofs.YtbfojhfiemcnpaaDoor.Av.Ci
