/- The parts of cells, there and back. Cells, there and back. Cells, there and back: whole cells. -/
import Derived.Test.YtbfojhfiemcnpaaDoorPr1
import Derived.Test.YtbfojhfiemcnpaaDoorPq5
import Derived.Test.YtbfojhfiemcnpaaDoorCo6
import Derived.Test.YtbfojhfiemcnpaaDoorPq11
import Derived.Test.YtbfojhfiemcnpaaDoorPq4
import Derived.Test.YtbfojhfiemcnpaaDoorPq3
/- The parts of cells, there and back. -/
set_option linter.unusedSimpArgs false
set_option linter.unusedVariables false
set_option maxRecDepth 100000
namespace Go.Proofs.YtbfojhfiemcnpaaDoor.Av.Rn
open Go Bt Tc Bl Co Ci Mb
theorem mb_back (b : Bool) (k c : Int) (h : mbIs b k c = true) (h2 : k ≠ 2) (R : List Int) : mbN b ((mbRow b k c).map und ++ R) = (k, c, 0, (mbRow b k c).length) := by
  unfold mbN
  rw [List.map_append, map_und _ (mbRow_in b k c h).2.2, mbX_row b k c h, if_neg h2]
theorem cb_back (b : Bool) (p : Int) (h : 0 ≤ p ∧ p ≤ 15) (R : List Int) : cbN b ((Cb.cbRow b p).map und ++ R) = (p, 0, (Cb.cbRow b p).length) := by
  unfold cbN
  rw [List.map_append, map_und _ (Cb.cbRow_ok b p h).2.2, Cb.cbX_row b b p h, Cb.trn_trn]
  rfl
theorem mv_back (d : Int) (h : -32 ≤ d ∧ d ≤ 31) (R : List Int) : mvN ((Mv.mrow d).map und ++ R) = (d, 0, (Mv.mrow d).length) := by
  have h1 := Mv.mgo_all ⟨(d + 32).toNat, by omega⟩
  simp only at h1
  rw [show (((d + 32).toNat : Nat) : Int) - 32 = d by omega] at h1
  have h2 := Mv.mgo_run _ _ _ h1 R
  rw [Mv.mrun_mt] at h2
  unfold mvN
  rw [h2]
  rfl
theorem st_back (n : Int) (h : stIs n = true) (R : List Int) : stN ((stRow n).map und ++ R) = (n, 0, (stRow n).length) := by
  have h2 : n = -1 ∨ n = -2 ∨ n = 1 ∨ n = 2 := of_decide_eq_true h
  unfold stN stX
  rcases h2 with rfl | rfl | rfl | rfl
  all_goals
    rw [if_neg (by rw [List.length_append, List.length_map]; exact Nat.not_lt.2 (Nat.le_add_right 2 _))]
    rfl
theorem bd_back (intra : Bool) : ∀ (L : List (Int × List Ev)) (W : List Int) (R : List Int), (∀ x ∈ R, x = 0 ∨ x = 1) → (∀ x ∈ L, blMay intra x.1 x.2 = true) →
    bdX intra (L.map fun x => !x.2.isEmpty) (W ++ ((L.flatMap fun x => blRow intra x.1 x.2).map und ++ R)) W.length = (L, 0, W.length + (L.flatMap fun x => blRow intra x.1 x.2).length)
  | [], W, R, _, _ => by simp [bdX]
  | x :: L, W, R, hR, h => by
    have hx := h x (by simp)
    have hrows : ∀ L : List (Int × List Ev), (∀ x ∈ L, blMay intra x.1 x.2 = true) → (L.flatMap fun x => blRow intra x.1 x.2).all isDig = true := fun L hL => by
      rw [List.all_flatMap, List.all_eq_true]
      exact fun x hx => (blRow_ok intra x.1 x.2 (hL x hx)).1
    have hL := fun y hy => h y (List.mem_cons_of_mem x hy)
    have h01 : ∀ b ∈ (L.flatMap fun x => blRow intra x.1 x.2).map und ++ R, b = 0 ∨ b = 1 := fun b hb => by
      rcases List.mem_append.1 hb with hb | hb
      · exact und_01 _ (hrows L hL) b hb
      · exact hR b hb
    have bb := bl_back intra x.1 x.2 ((L.flatMap fun x => blRow intra x.1 x.2).map und ++ R) h01 hx
    have hB : ((x :: L).flatMap fun x => blRow intra x.1 x.2).map und ++ R = (blRow intra x.1 x.2).map und ++ ((L.flatMap fun x => blRow intra x.1 x.2).map und ++ R) := by
      rw [List.flatMap_cons, List.map_append, List.append_assoc]
    rw [List.map_cons, bdX, hB, List.drop_left, bb]
    simp only [ne_eq, not_true_eq_false, if_false]
    have hW : W ++ ((blRow intra x.1 x.2).map und ++ ((L.flatMap fun x => blRow intra x.1 x.2).map und ++ R)) = (W ++ (blRow intra x.1 x.2).map und) ++ ((L.flatMap fun x => blRow intra x.1 x.2).map und ++ R) := by rw [List.append_assoc]
    have hl : W.length + (blRow intra x.1 x.2).length = (W ++ (blRow intra x.1 x.2).map und).length := by rw [List.length_append, List.length_map]
    rw [hW, hl, bd_back intra L (W ++ (blRow intra x.1 x.2).map und) R hR hL]
    rw [List.flatMap_cons, List.length_append, List.length_append, List.length_map, Nat.add_assoc]
end Go.Proofs.YtbfojhfiemcnpaaDoor.Av.Rn

/- Cells, there and back. -/
set_option linter.unusedSimpArgs false
set_option linter.unusedVariables false
set_option maxRecDepth 100000
namespace Go.Proofs.YtbfojhfiemcnpaaDoor.Av.Rn
open Go Bt Tc Bl Co Ci Mb
attribute [local irreducible] mbN cbN mvN stN bdX mbRow mbIs blRow blMay
theorem again_und (b : Bool) : (again b).map und = if b = true then [0] else [] := by cases b <;> rfl
def hdRow (b : Bool) (h : HdR) : List UInt8 := if h.skip = true then [49] else again b ++ mbRow b h.kind h.chr
/-- a head that was read -/
structure HdOk (b : Bool) (n : Int) (B : List Int) (h : HdR) : Prop where
  lo : n ≤ h.stuff
  hi : h.stuff ≤ 64
  le : h.used ≤ B.length
  sk : h.skip = true → b = true
  ki : h.skip = false → mbIs b h.kind h.chr = true ∧ h.kind ≠ 5 ∧ h.kind ≠ 2
  row : (B.take h.used).map digB = (List.replicate (h.stuff - n).toNat (stuffRow b)).flatten ++ hdRow b h
theorem hd_back (b : Bool) (h : HdR) (R : List Int) (h64 : h.stuff ≤ 64) (he : h.err = 0) (sk : h.skip = true → b = true ∧ h.kind = 0 ∧ h.chr = 0) (ki : h.skip = false → mbIs b h.kind h.chr = true ∧ h.kind ≠ 5 ∧ h.kind ≠ 2) :
    ∀ (m f : Nat) (n : Int), n + m = h.stuff → m < f → h.used = ((List.replicate m (stuffRow b)).flatten ++ hdRow b h).length →
    hdX b f n (((List.replicate m (stuffRow b)).flatten ++ hdRow b h).map und ++ R) = h
  | m, 0, n, _, hf, _ => by omega
  | 0, f + 1, n, hn, hf, hu => by
    obtain ⟨st, skp, k, c, er, us⟩ := h
    simp only at h64 he sk ki hn hu ⊢
    subst he
    obtain rfl : st = n := by omega
    simp only [List.replicate_zero, List.flatten_nil, List.nil_append] at hu ⊢
    unfold hdRow at hu ⊢
    simp only at hu ⊢
    cases skp with
    | true =>
      obtain ⟨rfl, rfl, rfl⟩ := sk rfl
      subst hu
      rfl
    | false =>
      obtain ⟨k1, k2, k3⟩ := ki rfl
      simp only [Bool.false_eq_true, if_false] at hu ⊢
      have mb := mb_back b k c k1 k3 R
      rw [List.map_append, again_und, List.append_assoc, hdX]
      cases b with
      | false =>
        simp only [Bool.false_eq_true, if_false, List.nil_append] at mb ⊢
        rw [mb]
        unfold hdK
        simp only [ne_eq, not_true_eq_false, if_false]
        rw [if_pos k2, hu]
        simp [again]
      | true =>
        simp only [if_true] at mb ⊢
        rw [if_neg (by simp), if_neg (by simp), show (([0] : List Int) ++ ((mbRow true k c).map und ++ R)).drop 1 = (mbRow true k c).map und ++ R from rfl, mb]
        unfold hdK
        simp only [ne_eq, not_true_eq_false, if_false]
        rw [if_pos k2, hu]
        simp [again, Nat.add_comm]
  | m + 1, f + 1, n, hn, hf, hu => by
    have mb := fun R' => mb_back b 5 0 (mbIs_st b) (by decide) R'
    have hrow : ((List.replicate (m + 1) (stuffRow b)).flatten ++ hdRow b h).map und ++ R = (again b).map und ++ ((mbRow b 5 0).map und ++ ((((List.replicate m (stuffRow b)).flatten ++ hdRow b h).map und) ++ R)) := by
      rw [List.replicate_succ, List.flatten_cons]
      unfold stuffRow
      simp only [List.map_append, List.append_assoc]
    have hlen : ((List.replicate (m + 1) (stuffRow b)).flatten ++ hdRow b h).length = (again b).length + (mbRow b 5 0).length + ((List.replicate m (stuffRow b)).flatten ++ hdRow b h).length := by
      rw [List.replicate_succ, List.flatten_cons]
      unfold stuffRow
      simp only [List.length_append]; omega
    rw [hlen] at hu
    have ih := hd_back b { h with used := ((List.replicate m (stuffRow b)).flatten ++ hdRow b h).length } R h64 he sk ki m f (n + 1) (by simp only; omega) (by omega) rfl
    have hr2 : hdRow b { h with used := ((List.replicate m (stuffRow b)).flatten ++ hdRow b h).length } = hdRow b h := rfl
    rw [hr2] at ih
    rw [hrow, again_und, hdX]
    cases b with
    | false =>
      simp only [Bool.false_eq_true, if_false, List.nil_append] at mb ⊢
      rw [mb]
      unfold hdK
      simp only [ne_eq, not_true_eq_false, if_false]
      rw [if_neg (by omega), List.drop_left' (by rw [List.length_map]), ih]
      obtain ⟨st, skp, k, c, er, us⟩ := h
      have ha : (again false).length = 0 := rfl
      simp only [HdR.mk.injEq, true_and] at hu ⊢
      omega
    | true =>
      simp only [if_true] at mb ⊢
      have d1 : (([0] : List Int) ++ ((mbRow true 5 0).map und ++ ((((List.replicate m (stuffRow true)).flatten ++ hdRow true h).map und) ++ R))).drop 1 = (mbRow true 5 0).map und ++ ((((List.replicate m (stuffRow true)).flatten ++ hdRow true h).map und) ++ R) := rfl
      rw [if_neg (by simp), if_neg (by simp), d1, mb]
      unfold hdK
      simp only [ne_eq, not_true_eq_false, if_false]
      rw [if_neg (by omega), ← List.drop_drop, d1, List.drop_left' (by rw [List.length_map]), ih]
      obtain ⟨st, skp, k, c, er, us⟩ := h
      have ha : (again true).length = 1 := rfl
      simp only [HdR.mk.injEq, true_and] at hu ⊢
      omega
/-! the middle -/
def mdRow (k px py : Int) (pat step mx my : Int) : List UInt8 := Cb.cbRow (intraS k) pat ++ ((if steppedS k = true then stRow step else []) ++ ((if intraS k = true then [] else Mv.mrow (wrapS (mx - wrapS px))) ++ (if intraS k = true then [] else Mv.mrow (wrapS (my - wrapS py)))))
theorem wr_back (p m : Int) (h : wrapS m = m) : wr p (wrapS (m - wrapS p)) = m := by unfold wr; unfold wrapS at *; omega
structure MdOk (k px py : Int) (B : List Int) (m : MdR) : Prop where
  pat : 0 ≤ m.pat ∧ m.pat ≤ 15
  st : if steppedS k = true then stIs m.step = true else m.step = 0
  mv : if intraS k = true then m.mx = 0 ∧ m.my = 0 else wrapS m.mx = m.mx ∧ wrapS m.my = m.my
  le : m.used ≤ B.length
  row : (B.take m.used).map digB = mdRow k px py m.pat m.step m.mx m.my
theorem md_back (k px py pat step mx my : Int) (R : List Int) (hp : 0 ≤ pat ∧ pat ≤ 15) (hs : if steppedS k = true then stIs step = true else step = 0) (hm : if intraS k = true then mx = 0 ∧ my = 0 else wrapS mx = mx ∧ wrapS my = my) :
    mdX k px py ((mdRow k px py pat step mx my).map und ++ R) = ⟨pat, step, mx, my, 0, (mdRow k px py pat step mx my).length⟩ := by
  have hmv : ∀ (q : Nat) (W : List Int), W.length = q → mdM k px py (W ++ ((((if intraS k = true then [] else Mv.mrow (wrapS (mx - wrapS px))) ++ (if intraS k = true then [] else Mv.mrow (wrapS (my - wrapS py)))).map und) ++ R)) pat step q =
      ⟨pat, step, mx, my, 0, q + ((if intraS k = true then [] else Mv.mrow (wrapS (mx - wrapS px))) ++ (if intraS k = true then [] else Mv.mrow (wrapS (my - wrapS py)))).length⟩ := by
    intro q W hW
    subst hW
    unfold mdM
    cases hI : intraS k with
    | true =>
      rw [hI] at hm
      simp only [if_true] at hm ⊢
      obtain ⟨rfl, rfl⟩ := hm
      simp
    | false =>
      rw [hI] at hm
      simp only [Bool.false_eq_true, if_false] at hm ⊢
      have b1 := wrapS_bd (mx - wrapS px)
      have b2 := wrapS_bd (my - wrapS py)
      have w1 := wr_back px mx hm.1
      have w2 := wr_back py my hm.2
      generalize wrapS (mx - wrapS px) = d at *
      generalize wrapS (my - wrapS py) = e at *
      rw [List.map_append, List.append_assoc, List.drop_left, mv_back d (by omega)]
      simp only [ne_eq, not_true_eq_false, if_false]
      have e2 : (W ++ ((Mv.mrow d).map und ++ ((Mv.mrow e).map und ++ R))).drop (W.length + (Mv.mrow d).length) = (Mv.mrow e).map und ++ R := by
        rw [← List.drop_drop, List.drop_left, List.drop_left' (by rw [List.length_map])]
      rw [e2, mv_back e (by omega), w1, w2, List.length_append, Nat.add_assoc]
  unfold mdX mdRow
  rw [List.map_append, List.append_assoc, cb_back (intraS k) pat hp]
  simp only [ne_eq, not_true_eq_false, if_false]
  by_cases hS : steppedS k = true
  · rw [if_pos hS] at hs
    simp only [if_pos hS]
    have ed : ((Cb.cbRow (intraS k) pat).map und ++ ((stRow step ++ ((if intraS k = true then [] else Mv.mrow (wrapS (mx - wrapS px))) ++ (if intraS k = true then [] else Mv.mrow (wrapS (my - wrapS py))))).map und ++ R)).drop (Cb.cbRow (intraS k) pat).length
        = (stRow step).map und ++ (((((if intraS k = true then [] else Mv.mrow (wrapS (mx - wrapS px))) ++ (if intraS k = true then [] else Mv.mrow (wrapS (my - wrapS py)))).map und) ++ R)) := by
      rw [List.drop_left' (by rw [List.length_map]), List.map_append, List.append_assoc]
    rw [ed, st_back step hs]
    simp only [not_true_eq_false, if_false]
    have ea : (Cb.cbRow (intraS k) pat).map und ++ ((stRow step ++ ((if intraS k = true then [] else Mv.mrow (wrapS (mx - wrapS px))) ++ (if intraS k = true then [] else Mv.mrow (wrapS (my - wrapS py))))).map und ++ R)
        = ((Cb.cbRow (intraS k) pat).map und ++ (stRow step).map und) ++ ((((if intraS k = true then [] else Mv.mrow (wrapS (mx - wrapS px))) ++ (if intraS k = true then [] else Mv.mrow (wrapS (my - wrapS py)))).map und) ++ R) := by
      rw [List.map_append, List.append_assoc, List.append_assoc]
    rw [ea, hmv _ _ (by rw [List.length_append, List.length_map, List.length_map])]
    congr 1
    simp only [List.length_append]; omega
  · rw [if_neg hS] at hs
    simp only [if_neg hS, List.nil_append]
    subst hs
    rw [hmv _ _ (by rw [List.length_map])]
    congr 1
    simp only [List.length_append]
end Go.Proofs.YtbfojhfiemcnpaaDoor.Av.Rn

/- Cells, there and back: whole cells. -/
set_option linter.unusedSimpArgs false
set_option linter.unusedVariables false
set_option maxRecDepth 100000
namespace Go.Proofs.YtbfojhfiemcnpaaDoor.Av.Rn
open Go Bt Tc Bl Co Ci Mb
set_option maxHeartbeats 2000000
theorem is_bit {v : Int} {i : Nat} {l : List Ev} (h : v / 2 ^ (5 - i) % 2 = bitS' l) : cdb v i = !l.isEmpty := by
  unfold cdb
  unfold bitS' at h
  rw [evsD_len] at h
  cases l with
  | nil =>
    rw [if_neg (by simp)] at h
    exact decide_eq_false (by omega)
  | cons x r =>
    rw [if_pos (by simp only [List.length_cons]; omega)] at h
    exact decide_eq_true h
theorem of_coded (c : Cel) : cds (codedS c) = [!c.e0.isEmpty, !c.e1.isEmpty, !c.e2.isEmpty, !c.e3.isEmpty, !c.e4.isEmpty, !c.e5.isEmpty] := by
  have b0 := bitS'_bd c.e0
  have b1 := bitS'_bd c.e1
  have b2 := bitS'_bd c.e2
  have b3 := bitS'_bd c.e3
  have b4 := bitS'_bd c.e4
  have b5 := bitS'_bd c.e5
  unfold cds
  rw [is_bit (l := c.e0) (by unfold codedS; simp only [Nat.reduceSub]; omega), is_bit (l := c.e1) (by unfold codedS; simp only [Nat.reduceSub]; omega), is_bit (l := c.e2) (by unfold codedS; simp only [Nat.reduceSub]; omega),
    is_bit (l := c.e3) (by unfold codedS; simp only [Nat.reduceSub]; omega), is_bit (l := c.e4) (by unfold codedS; simp only [Nat.reduceSub]; omega), is_bit (l := c.e5) (by unfold codedS; simp only [Nat.reduceSub]; omega)]
def blsOf (c : Cel) : List (Int × List Ev) := [(c.d0, c.e0), (c.d1, c.e1), (c.d2, c.e2), (c.d3, c.e3), (c.d4, c.e4), (c.d5, c.e5)]
theorem put_eq (b : Bool) (px py : Int) (c : Cel) (h : c.skip = false) : putRow [] b px py c = headRow b c ++ (mdRow c.kind px py (codedS c / 2 ^ 2) c.step c.mx c.my ++ (blsOf c).flatMap fun x => blRow (intraS c.kind) x.1 x.2) := by
  unfold putRow mdRow blsOf stR mvR
  rw [h, if_neg (by decide)]
  simp only [List.flatMap_cons, List.flatMap_nil, List.append_nil, List.nil_append, List.append_assoc]
theorem bare_cel {c : Cel} (h : bareS c = true) (hs : c.skip = true) : c = ⟨c.stuff, true, 0, 0, 0, 0, 0, 0, 0, 0, 0, 0, [], [], [], [], [], []⟩ := by
  obtain ⟨st, sk, ki, sp, mx, my, d0, d1, d2, d3, d4, d5, e0, e1, e2, e3, e4, e5⟩ := c
  unfold bareS noEv at h
  simp only [Bool.and_eq_true, decide_eq_true_eq, evsD_len, List.cons.injEq, and_true] at h
  obtain ⟨⟨⟨⟨⟨⟨⟨⟨⟨h1, h2⟩, h3, h4⟩, g0, g1, g2, g3, g4, g5⟩, f0⟩, f1⟩, f2⟩, f3⟩, f4⟩, f5⟩ := h
  have nil : ∀ l : List Ev, (l.length : Int) = 0 → l = [] := fun l hl => List.length_eq_zero_iff.1 (by omega)
  simp only at hs
  subst hs h1 h2 h3 h4 g0 g1 g2 g3 g4 g5
  rw [nil e0 f0, nil e1 f1, nil e2 f2, nil e3 f3, nil e4 f4, nil e5 f5]
/-- a cell's row tells it -/
theorem cel_back (b : Bool) (px py : Int) (c : Cel) (R : List Int) (hR : ∀ x ∈ R, x = 0 ∨ x = 1) (h : rightS b c = true) : celX b px py ((putRow [] b px py c).map und ++ R) = (c, 0, (putRow [] b px py c).length) := by
  obtain ⟨hst, hc⟩ := right_inv h
  unfold celX
  rcases hc with hs | ⟨hs, h1, h2, h3, h4⟩
  · have hbb : b = true ∧ bareS c = true := by
      unfold rightS at h
      rw [if_neg (by omega), if_pos hs, Bool.and_eq_true] at h
      exact h
    obtain ⟨rfl, hb⟩ := hbb
    have hcel := bare_cel hb hs
    have hp : putRow [] true px py c = (List.replicate c.stuff.toNat (stuffRow true)).flatten ++ hdRow true ⟨c.stuff, true, 0, 0, 0, (putRow [] true px py c).length⟩ := by
      unfold putRow headRow tailRow hdRow
      rw [hs]
      simp
    have hd := hd_back true ⟨c.stuff, true, 0, 0, 0, (putRow [] true px py c).length⟩ R hst.2 rfl (fun _ => ⟨rfl, rfl, rfl⟩) (fun h => (by cases h)) c.stuff.toNat 65 0 (by simp only; omega) (by omega) (by rw [← hp])
    rw [← hp] at hd
    rw [hd]
    unfold celT
    simp only [ne_eq, not_true_eq_false, if_false, if_true]
    rw [← hcel]
  · have hput := put_eq b px py c hs
    have hm := mbIs_cel h1
    have hkk := h1
    unfold headMay intraS at hkk
    simp only [Bool.or_eq_true, Bool.and_eq_true, decide_eq_true_eq] at hkk
    have hhd : headRow b c = (List.replicate c.stuff.toNat (stuffRow b)).flatten ++ hdRow b ⟨c.stuff, false, c.kind, chroma c, 0, (headRow b c).length⟩ := by
      unfold headRow tailRow hdRow
      rw [hs]
    have hcb := codedS_bd c
    have hce := chroma_eq c
    have hbm : ∀ x ∈ blsOf c, blMay (intraS c.kind) x.1 x.2 = true := by
      unfold blksMay at h4
      simp only [Bool.and_eq_true] at h4
      obtain ⟨⟨⟨⟨⟨g0, g1⟩, g2⟩, g3⟩, g4⟩, g5⟩ := h4
      intro x hx
      simp only [blsOf, List.mem_cons, List.not_mem_nil, or_false] at hx
      rcases hx with rfl | rfl | rfl | rfl | rfl | rfl <;> assumption
    have e1 : (putRow [] b px py c).map und ++ R = (headRow b c).map und ++ ((mdRow c.kind px py (codedS c / 2 ^ 2) c.step c.mx c.my).map und ++ (((blsOf c).flatMap fun x => blRow (intraS c.kind) x.1 x.2).map und ++ R)) := by
      rw [hput]
      simp only [List.map_append, List.append_assoc]
    have hd := hd_back b ⟨c.stuff, false, c.kind, chroma c, 0, (headRow b c).length⟩ ((mdRow c.kind px py (codedS c / 2 ^ 2) c.step c.mx c.my).map und ++ (((blsOf c).flatMap fun x => blRow (intraS c.kind) x.1 x.2).map und ++ R)) hst.2 rfl (fun h => (by cases h))
      (fun _ => ⟨hm, by simp only; omega, by simp only; omega⟩) c.stuff.toNat 65 0 (by simp only; omega) (by omega) (by rw [← hhd])
    rw [← hhd] at hd
    have hmd := md_back c.kind px py (codedS c / 2 ^ 2) c.step c.mx c.my (((blsOf c).flatMap fun x => blRow (intraS c.kind) x.1 x.2).map und ++ R) (by omega)
      (by
        unfold stepMay at h2
        cases hS : steppedS c.kind with
        | true =>
          rw [hS] at h2
          simp only [Bool.and_eq_true, beq_iff_eq] at h2
          rw [if_pos rfl]; exact h2.1
        | false =>
          rw [hS] at h2
          simp only [Bool.and_eq_true, beq_iff_eq] at h2
          rw [if_neg (by decide)]
          obtain ⟨g1, g2⟩ := h2
          rw [g1, Bool.false_or] at g2
          exact of_decide_eq_true g2)
      (by
        unfold vectorS at h3
        cases hI : intraS c.kind with
        | true =>
          rw [hI, if_pos rfl] at h3
          have := of_decide_eq_true h3
          simp only [List.cons.injEq, and_true] at this
          rw [if_pos rfl]; exact this
        | false =>
          rw [hI, if_neg (by decide)] at h3
          simp only [Bool.and_eq_true, decide_eq_true_eq] at h3
          rw [if_neg (by decide)]; exact h3)
    have hbd := bd_back (intraS c.kind) (blsOf c) ((mdRow c.kind px py (codedS c / 2 ^ 2) c.step c.mx c.my).map und) R hR hbm
    have hcds : (blsOf c).map (fun x => !x.2.isEmpty) = cds (4 * (codedS c / 2 ^ 2) + chroma c) := by
      rw [hce, show 4 * (codedS c / 2 ^ 2) + codedS c % 4 = codedS c by omega, of_coded]; rfl
    rw [hcds, List.length_map] at hbd
    rw [e1, hd]
    unfold celT
    simp only [ne_eq, not_true_eq_false, if_false]
    rw [if_neg (by decide), List.drop_left' (by rw [List.length_map]), hmd]
    simp only [not_true_eq_false, if_false]
    rw [hbd]
    simp only [not_true_eq_false, if_false]
    have hlen : (putRow [] b px py c).length = (headRow b c).length + ((mdRow c.kind px py (codedS c / 2 ^ 2) c.step c.mx c.my).length + ((blsOf c).flatMap fun x => blRow (intraS c.kind) x.1 x.2).length) := by
      rw [hput, List.length_append, List.length_append]
    rw [hlen]
    congr 1
    obtain ⟨st, sk, ki, sp, mx, my, d0, d1, d2, d3, d4, d5, e0, e1, e2, e3, e4, e5⟩ := c
    simp only at hs
    subst hs
    rfl
end Go.Proofs.YtbfojhfiemcnpaaDoor.Av.Rn
