/- Blocks: what may be one, and its row: both programs. Blocks: Put, and the reference's May and Row. Blocks: the reference's May and Row. -/
import Derived.Test.YtbfojhfiemcnpaaGreatDoorPt2
import Derived.Test.YtbfojhfiemcnpaaGreatDoorPw
set_option linter.unusedVariables false
set_option linter.unusedSimpArgs false
set_option maxRecDepth 100000
set_option maxHeartbeats 64000000
namespace Go.Proofs.YtbfojhfiemcnpaaGreatDoor.Av
namespace Bl
open Go Bt Tc Wr
attribute [local irreducible] aa ACalls
variable {gl : List (Nat × List D)}
def frm (b : Bool) : Nat := if b = true then 1 else 0
def pU (b : Bool) (dc : Int) : Bool := if b = true then decide (1 ≤ dc ∧ dc ≤ 254) else decide (dc = 0)
def di (b : Bool) (dc : Int) (l : List Ev) : Bool := (lev l (frm b)).isSome && pU b dc
def fu (b : Bool) (dc : Int) : List UInt8 := if b = true then bv (if dc = 128 then 255 else dc) 8 8 else []
def iL (b : Bool) (dc : Int) (l : List Ev) : List UInt8 := fu b dc ++ l.flatMap dE
theorem rB : ∀ (l : List Ev) (a : Nat) (out r : List Int), nD l a out = some r → r.length = out.length ∧ (∀ e ∈ l, evR e = true) ∧ (l = [] ∨ a + l.length ≤ 64)
 | [], a, out, r, h => by rw [rA] at h; cases h; simp
 | e :: l, a, out, r, h => by
  rw [lU] at h
  split at h
  ·rename_i hc
   obtain ⟨h1, h2, h3⟩ := rB l _ _ r h
   refine ⟨by rw [h1, List.length_set], fun x hx => ?_, .inr ?_⟩
   ·rcases List.mem_cons.1 hx with rfl | hx
    ·exact hc.1
    ·exact h2 x hx
   ·rcases h3 with rfl | h3
    ·simp only [List.length_cons, List.length_nil]; omega
    ·simp only [List.length_cons]; omega
  ·cases h
theorem oD {l : List Ev} {a : Nat} {out : List Int} (h : lev l a = some out) : out.length = 64 ∧ (∀ e ∈ l, evR e = true) ∧ l.length ≤ 64 := by
 obtain ⟨h1, h2, h3⟩ := rB l a z64 out h
 refine ⟨h1, h2, ?_⟩
 rcases h3 with rfl | h3
 ·simp
 ·omega
theorem Dw : ∀ la : Bool, ∀ ru : _root_.Fin 64, ∀ w ∈ mi la ru.val, w.all aX = true := by decide +kernel
theorem nN (e : Ev) (h : evR e = true) : (dE e).all aX = true ∧ (dE e).length ≤ 30 := by
 have hb := uM h
 have hl := Dv e.last e.run (kR e.level) hb.1
 have hd : (jZ e.last e.run (kR e.level)).all aX = true := by
  unfold jZ
  split
  ·rfl
  ·rw [List.getD_eq_getElem?_getD]
   cases hx : (mi e.last e.run)[(kR e.level - 1).toNat]? with
   | none => rfl
   | some w =>
    have := Dw e.last ⟨e.run.toNat, by omega⟩ w
    simp only at this
    rw [show ((e.run.toNat : Nat) : Int) = e.run by omega] at this
    exact this (List.mem_of_getElem? hx)
 have hs : (tY e.level).all aX = true := by unfold tY; split <;> rfl
 have hsl := vB e.level
 have ht : (wD e.last).all aX = true := by unfold wD; split <;> rfl
 have htl := wC e.last
 unfold dE
 rw [if_pos h]
 split
 ·exact ⟨by rw [List.all_append, hd, hs]; rfl, by rw [List.length_append]; omega⟩
 ·refine ⟨?_, ?_⟩
  ·simp only [List.all_append, j6, ht, Bool.and_true]; rfl
  ·simp only [List.length_append, fq, List.length_cons, List.length_nil]; omega
theorem rows_ok (l : List Ev) (h : ∀ e ∈ l, evR e = true) : (l.flatMap dE).all aX = true ∧ (l.flatMap dE).length ≤ 30 * l.length := by
 induction l with
 | nil => simp
 | cons e l ih =>
  obtain ⟨h1, h2⟩ := nN e (h e (by simp))
  obtain ⟨i1, i2⟩ := ih fun x hx => h x (by simp [hx])
  rw [List.flatMap_cons, List.all_append, h1, i1, List.length_append, List.length_cons]
  exact ⟨rfl, by omega⟩
theorem D8 (b : Bool) (dc : Int) : (fu b dc).all aX = true ∧ (fu b dc).length ≤ 8 := by
 unfold fu
 split
 ·exact ⟨j6 _ _ _, by rw [fq]; exact Nat.le_refl _⟩
 ·exact ⟨rfl, by simp⟩
theorem DD (b : Bool) : ACalls (cxg gl) 140 [B b] [] (fun r H => r = I (frm b : Nat) ∧ H = []) := by
 cases b
 all_goals
  refine ACalls.enter Tryz.func140 rfl Tryz.ntmps140 (by kernel_rfl) rfl ?_; simp only [au, nm, Nat.reduceAdd]
  repeat' (first | (apply aa.st; rfl) | (apply aa.q true; rfl; rfl; rfl; rfl; first | exact True.intro | omega | (simp only [tn, Int.reduceToNat]; omega)) | (apply aa.aB; rfl) | (apply aa.ak; rfl) | intro _ | (apply aa.aC; rfl; rfl; rfl; rfl))
  all_goals first | exact ⟨rfl, rfl⟩
theorem H9 (b : Bool) : frm b ≤ 1 := by cases b <;> decide
attribute [local irreducible] bg nD evR lev dE bv
theorem Et (b : Bool) (dc : Int) (l : List Ev) (hl : l.length ≤ 1000000) (hok : ∀ e ∈ l, Bn e) : ACalls (cxg gl) 124 [B b, I dc, .d (.sl 3 (bg l))] [] (fun r H => r = B (di b dc l) ∧ H = []) := by
 have fc := DD (gl := gl) b
 have lc := Dc (gl := gl) l (frm b) (H9 b) hl hok
 unfold di
 by_cases hd : pU b dc = true
 ·rw [hd, Bool.and_true]
  cases hv : lev l (frm b) with
  | none =>
   rw [jY hv] at lc
   cases b
   all_goals
    unfold pU at hd
    simp only [Bool.false_eq_true, if_false, if_true, decide_eq_true_eq] at hd
    refine ACalls.enter Tryz.func124 rfl Tryz.ntmps124 (by kernel_rfl) rfl ?_; simp only [au, nm, Nat.reduceAdd]
    repeat' (first | (apply aa.st; rfl) | (apply aa.q true; rfl; rfl; rfl; rfl; first | exact True.intro | omega | (simp only [tn, Int.reduceToNat]; omega)) | (apply aa.aA (fc); (iterate 6 rfl)) | (apply aa.aA (lc); (iterate 6 rfl)) | (apply aa.ae; rfl; omega) | (apply aa.aB; rfl) | (apply aa.alloc; (iterate 5 rfl); simp only [nm, nz, Nat.reduceAdd]) | (apply aa.store; (iterate 9 rfl); exact Nat.le_of_ble_eq_true rfl; simp only [nm, nz, Nat.reduceAdd]) | (apply aa.aj; rfl; rfl) | (apply aa.gF; rfl; rfl; rfl; omega) | (apply aa.az; rfl; rfl; rfl) | intro _ | (apply aa.dw ; rfl) | (apply aa.gD; rfl; rfl; rfl) | (apply aa.gS; rfl; rfl; rfl) | (apply aa.aC; rfl; rfl; rfl; rfl))
    all_goals first | exact ⟨rfl, rfl⟩ | omega | (exfalso; simp_all; done) | (exfalso; simp at *; omega)
  | some out =>
   obtain ⟨f, rfl⟩ := Hz out (oD hv).1
   rw [oF hv] at lc
   cases b
   all_goals
    unfold pU at hd
    simp only [Bool.false_eq_true, if_false, if_true, decide_eq_true_eq] at hd
    refine ACalls.enter Tryz.func124 rfl Tryz.ntmps124 (by kernel_rfl) rfl ?_; simp only [au, nm, Nat.reduceAdd]
    repeat' (first | (apply aa.st; rfl) | (apply aa.q true; rfl; rfl; rfl; rfl; first | exact True.intro | omega | (simp only [tn, Int.reduceToNat]; omega)) | (apply aa.aA (fc); (iterate 6 rfl)) | (apply aa.aA (lc); (iterate 6 rfl)) | (apply aa.ae; rfl; omega) | (apply aa.aB; rfl) | (apply aa.alloc; (iterate 5 rfl); simp only [nm, nz, Nat.reduceAdd]) | (apply aa.store; (iterate 9 rfl); exact Nat.le_of_ble_eq_true rfl; simp only [nm, nz, Nat.reduceAdd]) | (apply aa.aj; rfl; rfl) | (apply aa.gF; rfl; rfl; rfl; omega) | (apply aa.az; rfl; rfl; rfl) | intro _ | (apply aa.dw ; rfl) | (apply aa.gD; rfl; rfl; rfl) | (apply aa.gS; rfl; rfl; rfl) | (apply aa.aC; rfl; rfl; rfl; rfl))
    all_goals first | exact ⟨rfl, rfl⟩ | omega | (exfalso; simp_all; done) | (exfalso; simp at *; omega)
 ·have hd' : pU b dc = false := by simpa using hd
  rw [hd', Bool.and_false]
  cases hv : lev l (frm b) with
  | none =>
   rw [jY hv] at lc
   cases b
   all_goals
    unfold pU at hd'
    simp only [Bool.false_eq_true, if_false, if_true, decide_eq_false_iff_not] at hd'
    refine ACalls.enter Tryz.func124 rfl Tryz.ntmps124 (by kernel_rfl) rfl ?_; simp only [au, nm, Nat.reduceAdd]
    repeat' (first | (apply aa.st; rfl) | (apply aa.q true; rfl; rfl; rfl; rfl; first | exact True.intro | omega | (simp only [tn, Int.reduceToNat]; omega)) | (apply aa.aA (fc); (iterate 6 rfl)) | (apply aa.aA (lc); (iterate 6 rfl)) | (apply aa.ae; rfl; omega) | (apply aa.aB; rfl) | (apply aa.alloc; (iterate 5 rfl); simp only [nm, nz, Nat.reduceAdd]) | (apply aa.store; (iterate 9 rfl); exact Nat.le_of_ble_eq_true rfl; simp only [nm, nz, Nat.reduceAdd]) | (apply aa.aj; rfl; rfl) | (apply aa.gF; rfl; rfl; rfl; omega) | (apply aa.az; rfl; rfl; rfl) | intro _ | (apply aa.dw ; rfl) | (apply aa.gD; rfl; rfl; rfl) | (apply aa.gS; rfl; rfl; rfl) | (apply aa.aC; rfl; rfl; rfl; rfl))
    all_goals first | exact ⟨rfl, rfl⟩ | omega | (exfalso; simp_all; done) | (exfalso; simp at *; omega)
  | some out =>
   obtain ⟨f, rfl⟩ := Hz out (oD hv).1
   rw [oF hv] at lc
   cases b
   all_goals
    unfold pU at hd'
    simp only [Bool.false_eq_true, if_false, if_true, decide_eq_false_iff_not] at hd'
    refine ACalls.enter Tryz.func124 rfl Tryz.ntmps124 (by kernel_rfl) rfl ?_; simp only [au, nm, Nat.reduceAdd]
    repeat' (first | (apply aa.st; rfl) | (apply aa.q true; rfl; rfl; rfl; rfl; first | exact True.intro | omega | (simp only [tn, Int.reduceToNat]; omega)) | (apply aa.aA (fc); (iterate 6 rfl)) | (apply aa.aA (lc); (iterate 6 rfl)) | (apply aa.ae; rfl; omega) | (apply aa.aB; rfl) | (apply aa.alloc; (iterate 5 rfl); simp only [nm, nz, Nat.reduceAdd]) | (apply aa.store; (iterate 9 rfl); exact Nat.le_of_ble_eq_true rfl; simp only [nm, nz, Nat.reduceAdd]) | (apply aa.aj; rfl; rfl) | (apply aa.gF; rfl; rfl; rfl; omega) | (apply aa.az; rfl; rfl; rfl) | intro _ | (apply aa.dw ; rfl) | (apply aa.gD; rfl; rfl; rfl) | (apply aa.gS; rfl; rfl; rfl) | (apply aa.aC; rfl; rfl; rfl; rfl))
    all_goals first | exact ⟨rfl, rfl⟩ | omega | (exfalso; simp_all; done) | (exfalso; simp at *; omega)
end Bl
namespace Bl
open Go Bt Tc Wr
attribute [local irreducible] aa ACalls
variable {gl : List (Nat × List D)}
theorem tL {b : Bool} {dc : Int} {l : List Ev} (h : di b dc l = true) : (∀ e ∈ l, evR e = true) ∧ l.length ≤ 64 ∧ pU b dc = true := by
 unfold di at h
 rw [Bool.and_eq_true, Option.isSome_iff_exists] at h
 obtain ⟨⟨out, ho⟩, hd⟩ := h
 obtain ⟨_, h2, h3⟩ := oD ho
 exact ⟨h2, h3, hd⟩
theorem oH (l : List Ev) (i : Nat) (e : Ev) (h : l[i]? = some e) : (l.take (i + 1)).flatMap dE = (l.take i).flatMap dE ++ dE e := by
 rw [List.take_add_one, h, List.flatMap_append]; simp
theorem EB (l : List Ev) (i : Nat) (h : ∀ e ∈ l, evR e = true) : ∀ e ∈ l.take i, evR e = true := fun e he => h e (List.mem_of_mem_take he)
attribute [local irreducible] bg nD evR lev dE bv di aS bJ
theorem Bd (w : List UInt8) (b : Bool) (dc : Int) (l : List Ev) (hl : l.length ≤ 1000000) (hok : ∀ e ∈ l, Bn e) (h : di b dc l = false) :
  ACalls (cxg gtc) 91 [.ptr 0 0, B b, I dc, .d (.sl 3 (bg l))] (WO w) (fun r H => r = I 7 ∧ H = WO w) := by
 have mc := Et (gl := gtc) b dc l hl hok
 rw [h] at mc
 refine ACalls.enter Tryz.func91 rfl Tryz.ntmps91 (by kernel_rfl) rfl ?_; simp only [au, nm, Nat.reduceAdd]
 repeat' (first | (apply aa.st; rfl) | (apply aa.q true; rfl; rfl; rfl; rfl; first | exact True.intro | omega | (simp only [tn, Int.reduceToNat]; omega)) | (apply aa.aA (mc); (iterate 6 rfl)) | (apply aa.aB; rfl) | (apply aa.ak; rfl) | intro _ | (apply aa.aC; rfl; rfl; rfl; rfl))
 all_goals first | exact ⟨rfl, rfl⟩
theorem Er (w : List UInt8) (l : List Ev) (hw : w.all aX = true) (hwl : w.length ≤ 30000000) (hl : l.length ≤ 64) (he : ∀ e ∈ l, evR e = true) (i : Nat) :
  (w ++ (l.take i).flatMap dE).all aX = true ∧ (w ++ (l.take i).flatMap dE).length ≤ 30002000 := by
 obtain ⟨r1, r2⟩ := rows_ok (l.take i) (EB l i he)
 have : (l.take i).length ≤ 64 := by rw [List.length_take]; omega
 rw [List.all_append, hw, r1, List.length_append]
 exact ⟨rfl, by omega⟩
theorem IB (w : List UInt8) (b : Bool) (dc : Int) (l : List Ev) (hok : ∀ e ∈ l, Bn e) (h : di b dc l = true) (hw : w.all aX = true) (hwl : w.length ≤ 20000000) :
    ACalls (cxg gtc) 91 [.ptr 0 0, B b, I dc, .d (.sl 3 (bg l))] (WO w) (fun r H => r = I 0 ∧ H = WO (w ++ iL b dc l)) := by
  obtain ⟨he, hl, hd⟩ := tL h
  have mc := Et (gl := gtc) b dc l (by omega) hok
  rw [h] at mc
  have hln := lw l
  obtain ⟨d1, d2⟩ := D8 b dc
  have hv : b = true → 0 ≤ (if dc = 128 then 255 else dc) ∧ (if dc = 128 then 255 else dc) < 2 ^ 8 := fun hb => by
    subst hb
    unfold pU at hd
    simp only [if_true, decide_eq_true_eq] at hd
    split <;> omega
  have wp := fun hb => xh (gl := gtc) w (if dc = 128 then 255 else dc) 8 hw (by omega) (by decide) (hv hb)
  have bl := fun i => Er (w ++ fu b dc) l (by rw [List.all_append, hw, d1]; rfl) (by rw [List.length_append]; omega) hl he i
  unfold iL
  rw [← List.append_assoc]
  have e0 : w ++ fu b dc = w ++ fu b dc ++ (l.take 0).flatMap dE := by simp
  cases b
  · have hd0 : dc = 0 := by unfold pU at hd; simpa using hd
    subst hd0
    · refine ACalls.enter Tryz.func91 rfl Tryz.ntmps91 (by kernel_rfl) rfl ?_; simp only [au, nm, Nat.reduceAdd]
      repeat (first | (apply aa.st; rfl) | (apply aa.q true; rfl; rfl; rfl; rfl; first | exact True.intro | omega | (simp only [tn, Int.reduceToNat]; omega)) | (apply aa.aA (mc); (iterate 6 rfl)) | (apply aa.af; rfl; first | omega | rfl) | (apply aa.ae; rfl; omega) | (apply aa.aB; rfl) | (apply aa.ak; rfl) | (apply aa.alloc; (iterate 5 rfl); simp only [nm, nz, Nat.reduceAdd]) | (apply aa.store; (iterate 9 rfl); exact Nat.le_of_ble_eq_true rfl; simp only [nm, nz, Nat.reduceAdd]))
      refine aa.weak (env' := [(30, I ((0 : Nat) : Int)), (29, I ((bg l).length : Int)), (28, .d (.sl 3 (bg l))), (0, .ptr 0 0)]) ⟨rfl, rfl, rfl, rfl, trivial⟩ ?_
      refine aa.loop (fun m env H => ∃ i : Nat, m = l.length - i ∧ i ≤ l.length ∧ env = [(30, I (i : Int)), (29, I ((bg l).length : Int)), (28, .d (.sl 3 (bg l))), (0, .ptr 0 0)] ∧ H = WO (w ++ fu false 0 ++ (l.take i).flatMap dE)) l.length
        ⟨0, rfl, by omega, rfl, by rw [← e0]; unfold fu; rw [if_neg (by decide), List.append_nil]⟩ ?_
      rintro m env H ⟨i, rfl, hi, rfl, rfl⟩
      obtain ⟨b1, b2⟩ := bl i
      rcases Nat.lt_or_ge i l.length with hlt | hge
      · obtain ⟨e, hee⟩ : ∃ e, l[i]? = some e := ⟨_, List.getElem?_eq_getElem hlt⟩
        have g1 := fun (ti : TI) (ha : ti.agg = true) (hs : ti.size = 3) => qi ti ha hs l i e hee
        have hR := he e (List.mem_of_getElem? hee)
        obtain ⟨r1, r2⟩ := nN e hR
        have rc := uL e
        rw [hR] at rc
        have ad := og (gl := gtc) (w ++ fu false 0 ++ (l.take i).flatMap dE) (dE e) b1 r1 (by omega)
        rw [List.append_assoc (w ++ fu false 0), ← oH l i e hee] at ad
        repeat' (first | (apply aa.st; rfl) | (apply aa.q true; rfl; rfl; rfl; rfl; first | exact True.intro | omega | (simp only [tn, Int.reduceToNat]; omega) | (rw [hln]; omega)) | (apply aa.ah [0,1] ( ad); (iterate 6 rfl); decide; rfl; rfl; simp only [ny, nh, Nat.reduceAdd, Nat.reduceSub]) | (apply aa.aA (rc); (iterate 6 rfl)) | (apply aa.af; rfl; first | omega | rfl) | (apply aa.ae; rfl; omega) | (apply aa.aB; rfl) | (apply aa.ak; rfl) | (apply aa.alloc; (iterate 5 rfl); simp only [nm, nz, Nat.reduceAdd]) | (apply aa.store; (iterate 9 rfl); exact Nat.le_of_ble_eq_true rfl; simp only [nm, nz, Nat.reduceAdd]) | (apply aa.kH; (iterate 6 rfl); exact (g1 _ rfl rfl)) | intro _ | (apply aa.aC; rfl; rfl; rfl; rfl) | (apply aa.aP; rfl; rfl))
        all_goals first
          | (refine aa.drop 2 (env' := [(30, I ((i + 1 : Nat) : Int)), (29, I ((bg l).length : Int)), (28, .d (.sl 3 (bg l))), (0, .ptr 0 0)]) (Nat.le_refl _) (by simp) (fun o ho => dA (m := 2) rfl o ho) ⟨rfl, rfl, rfl, rfl, trivial⟩ (fg 2 _ rfl) ?_
             exact aa.round [(30, I ((i + 1 : Nat) : Int)), (29, I ((bg l).length : Int)), (28, .d (.sl 3 (bg l))), (0, .ptr 0 0)] (l.length - (i + 1)) (by omega) ⟨rfl, rfl, rfl, rfl, trivial⟩ ⟨i + 1, rfl, hlt, rfl, rfl⟩)
      · obtain rfl : i = l.length := by omega
        rw [List.take_length]
        repeat' (first | (apply aa.st; rfl) | (apply aa.q true; rfl; rfl; rfl; rfl; first | exact True.intro | omega | (simp only [tn, Int.reduceToNat]; omega)) | (apply aa.af; rfl; first | omega | rfl) | (apply aa.ae; rfl; omega) | (apply aa.aB; rfl) | (apply aa.ak; rfl) | (apply aa.alloc; (iterate 5 rfl); simp only [nm, nz, Nat.reduceAdd]) | (apply aa.store; (iterate 9 rfl); exact Nat.le_of_ble_eq_true rfl; simp only [nm, nz, Nat.reduceAdd]) | intro _ | (apply aa.aC; rfl; rfl; rfl; rfl) | (apply aa.aP; rfl; rfl))
        all_goals first | exact ⟨rfl, rfl⟩ | omega
  · have wp' := wp rfl
    by_cases h128 : dc = 128
    · subst h128
      simp only [if_true] at wp'
      refine ACalls.enter Tryz.func91 rfl Tryz.ntmps91 (by kernel_rfl) rfl ?_; simp only [au, nm, Nat.reduceAdd]
      repeat (first | (apply aa.st; rfl) | (apply aa.q true; rfl; rfl; rfl; rfl; first | exact True.intro | omega | (simp only [tn, Int.reduceToNat]; omega)) | (apply aa.ah [0,1] ( wp'); (iterate 6 rfl); decide; rfl; rfl; simp only [ny, nh, Nat.reduceAdd, Nat.reduceSub]) | (apply aa.aA (mc); (iterate 6 rfl)) | (apply aa.af; rfl; first | omega | rfl) | (apply aa.ae; rfl; omega) | (apply aa.aB; rfl) | (apply aa.ak; rfl) | (apply aa.alloc; (iterate 5 rfl); simp only [nm, nz, Nat.reduceAdd]) | (apply aa.store; (iterate 9 rfl); exact Nat.le_of_ble_eq_true rfl; simp only [nm, nz, Nat.reduceAdd]))
      refine aa.weak (env' := [(30, I ((0 : Nat) : Int)), (29, I ((bg l).length : Int)), (28, .d (.sl 3 (bg l))), (0, .ptr 0 0)]) ⟨rfl, rfl, rfl, rfl, trivial⟩ ?_
      refine aa.loop (fun m env H => ∃ i : Nat, m = l.length - i ∧ i ≤ l.length ∧ env = [(30, I (i : Int)), (29, I ((bg l).length : Int)), (28, .d (.sl 3 (bg l))), (0, .ptr 0 0)] ∧ H = WO (w ++ fu true 128 ++ (l.take i).flatMap dE)) l.length
        ⟨0, rfl, by omega, rfl, by rw [← e0]; unfold fu; rw [if_pos rfl, if_pos rfl]⟩ ?_
      rintro m env H ⟨i, rfl, hi, rfl, rfl⟩
      obtain ⟨b1, b2⟩ := bl i
      rcases Nat.lt_or_ge i l.length with hlt | hge
      · obtain ⟨e, hee⟩ : ∃ e, l[i]? = some e := ⟨_, List.getElem?_eq_getElem hlt⟩
        have g1 := fun (ti : TI) (ha : ti.agg = true) (hs : ti.size = 3) => qi ti ha hs l i e hee
        have hR := he e (List.mem_of_getElem? hee)
        obtain ⟨r1, r2⟩ := nN e hR
        have rc := uL e
        rw [hR] at rc
        have ad := og (gl := gtc) (w ++ fu true 128 ++ (l.take i).flatMap dE) (dE e) b1 r1 (by omega)
        rw [List.append_assoc (w ++ fu true 128), ← oH l i e hee] at ad
        repeat' (first | (apply aa.st; rfl) | (apply aa.q true; rfl; rfl; rfl; rfl; first | exact True.intro | omega | (simp only [tn, Int.reduceToNat]; omega) | (rw [hln]; omega)) | (apply aa.ah [0,1] ( ad); (iterate 6 rfl); decide; rfl; rfl; simp only [ny, nh, Nat.reduceAdd, Nat.reduceSub]) | (apply aa.aA (rc); (iterate 6 rfl)) | (apply aa.af; rfl; first | omega | rfl) | (apply aa.ae; rfl; omega) | (apply aa.aB; rfl) | (apply aa.ak; rfl) | (apply aa.alloc; (iterate 5 rfl); simp only [nm, nz, Nat.reduceAdd]) | (apply aa.store; (iterate 9 rfl); exact Nat.le_of_ble_eq_true rfl; simp only [nm, nz, Nat.reduceAdd]) | (apply aa.kH; (iterate 6 rfl); exact (g1 _ rfl rfl)) | intro _ | (apply aa.aC; rfl; rfl; rfl; rfl) | (apply aa.aP; rfl; rfl))
        all_goals first
          | (refine aa.drop 2 (env' := [(30, I ((i + 1 : Nat) : Int)), (29, I ((bg l).length : Int)), (28, .d (.sl 3 (bg l))), (0, .ptr 0 0)]) (Nat.le_refl _) (by simp) (fun o ho => dA (m := 2) rfl o ho) ⟨rfl, rfl, rfl, rfl, trivial⟩ (fg 2 _ rfl) ?_
             exact aa.round [(30, I ((i + 1 : Nat) : Int)), (29, I ((bg l).length : Int)), (28, .d (.sl 3 (bg l))), (0, .ptr 0 0)] (l.length - (i + 1)) (by omega) ⟨rfl, rfl, rfl, rfl, trivial⟩ ⟨i + 1, rfl, hlt, rfl, rfl⟩)
      · obtain rfl : i = l.length := by omega
        rw [List.take_length]
        repeat' (first | (apply aa.st; rfl) | (apply aa.q true; rfl; rfl; rfl; rfl; first | exact True.intro | omega | (simp only [tn, Int.reduceToNat]; omega)) | (apply aa.af; rfl; first | omega | rfl) | (apply aa.ae; rfl; omega) | (apply aa.aB; rfl) | (apply aa.ak; rfl) | (apply aa.alloc; (iterate 5 rfl); simp only [nm, nz, Nat.reduceAdd]) | (apply aa.store; (iterate 9 rfl); exact Nat.le_of_ble_eq_true rfl; simp only [nm, nz, Nat.reduceAdd]) | intro _ | (apply aa.aC; rfl; rfl; rfl; rfl) | (apply aa.aP; rfl; rfl))
        all_goals first | exact ⟨rfl, rfl⟩ | omega
    · rw [if_neg h128] at wp'
      refine ACalls.enter Tryz.func91 rfl Tryz.ntmps91 (by kernel_rfl) rfl ?_; simp only [au, nm, Nat.reduceAdd]
      repeat (first | (apply aa.st; rfl) | (apply aa.q true; rfl; rfl; rfl; rfl; first | exact True.intro | omega | (simp only [tn, Int.reduceToNat]; omega)) | (apply aa.ah [0,1] ( wp'); (iterate 6 rfl); decide; rfl; rfl; simp only [ny, nh, Nat.reduceAdd, Nat.reduceSub]) | (apply aa.aA (mc); (iterate 6 rfl)) | (apply aa.af; rfl; first | omega | rfl) | (apply aa.ae; rfl; omega) | (apply aa.aB; rfl) | (apply aa.ak; rfl) | (apply aa.alloc; (iterate 5 rfl); simp only [nm, nz, Nat.reduceAdd]) | (apply aa.store; (iterate 9 rfl); exact Nat.le_of_ble_eq_true rfl; simp only [nm, nz, Nat.reduceAdd]))
      refine aa.weak (env' := [(30, I ((0 : Nat) : Int)), (29, I ((bg l).length : Int)), (28, .d (.sl 3 (bg l))), (0, .ptr 0 0)]) ⟨rfl, rfl, rfl, rfl, trivial⟩ ?_
      refine aa.loop (fun m env H => ∃ i : Nat, m = l.length - i ∧ i ≤ l.length ∧ env = [(30, I (i : Int)), (29, I ((bg l).length : Int)), (28, .d (.sl 3 (bg l))), (0, .ptr 0 0)] ∧ H = WO (w ++ fu true dc ++ (l.take i).flatMap dE)) l.length
        ⟨0, rfl, by omega, rfl, by rw [← e0]; unfold fu; rw [if_pos rfl, if_neg h128]⟩ ?_
      rintro m env H ⟨i, rfl, hi, rfl, rfl⟩
      obtain ⟨b1, b2⟩ := bl i
      rcases Nat.lt_or_ge i l.length with hlt | hge
      · obtain ⟨e, hee⟩ : ∃ e, l[i]? = some e := ⟨_, List.getElem?_eq_getElem hlt⟩
        have g1 := fun (ti : TI) (ha : ti.agg = true) (hs : ti.size = 3) => qi ti ha hs l i e hee
        have hR := he e (List.mem_of_getElem? hee)
        obtain ⟨r1, r2⟩ := nN e hR
        have rc := uL e
        rw [hR] at rc
        have ad := og (gl := gtc) (w ++ fu true dc ++ (l.take i).flatMap dE) (dE e) b1 r1 (by omega)
        rw [List.append_assoc (w ++ fu true dc), ← oH l i e hee] at ad
        repeat' (first | (apply aa.st; rfl) | (apply aa.q true; rfl; rfl; rfl; rfl; first | exact True.intro | omega | (simp only [tn, Int.reduceToNat]; omega) | (rw [hln]; omega)) | (apply aa.ah [0,1] ( ad); (iterate 6 rfl); decide; rfl; rfl; simp only [ny, nh, Nat.reduceAdd, Nat.reduceSub]) | (apply aa.aA (rc); (iterate 6 rfl)) | (apply aa.af; rfl; first | omega | rfl) | (apply aa.ae; rfl; omega) | (apply aa.aB; rfl) | (apply aa.ak; rfl) | (apply aa.alloc; (iterate 5 rfl); simp only [nm, nz, Nat.reduceAdd]) | (apply aa.store; (iterate 9 rfl); exact Nat.le_of_ble_eq_true rfl; simp only [nm, nz, Nat.reduceAdd]) | (apply aa.kH; (iterate 6 rfl); exact (g1 _ rfl rfl)) | intro _ | (apply aa.aC; rfl; rfl; rfl; rfl) | (apply aa.aP; rfl; rfl))
        all_goals first
          | (refine aa.drop 2 (env' := [(30, I ((i + 1 : Nat) : Int)), (29, I ((bg l).length : Int)), (28, .d (.sl 3 (bg l))), (0, .ptr 0 0)]) (Nat.le_refl _) (by simp) (fun o ho => dA (m := 2) rfl o ho) ⟨rfl, rfl, rfl, rfl, trivial⟩ (fg 2 _ rfl) ?_
             exact aa.round [(30, I ((i + 1 : Nat) : Int)), (29, I ((bg l).length : Int)), (28, .d (.sl 3 (bg l))), (0, .ptr 0 0)] (l.length - (i + 1)) (by omega) ⟨rfl, rfl, rfl, rfl, trivial⟩ ⟨i + 1, rfl, hlt, rfl, rfl⟩)
      · obtain rfl : i = l.length := by omega
        rw [List.take_length]
        repeat' (first | (apply aa.st; rfl) | (apply aa.q true; rfl; rfl; rfl; rfl; first | exact True.intro | omega | (simp only [tn, Int.reduceToNat]; omega)) | (apply aa.af; rfl; first | omega | rfl) | (apply aa.ae; rfl; omega) | (apply aa.aB; rfl) | (apply aa.ak; rfl) | (apply aa.alloc; (iterate 5 rfl); simp only [nm, nz, Nat.reduceAdd]) | (apply aa.store; (iterate 9 rfl); exact Nat.le_of_ble_eq_true rfl; simp only [nm, nz, Nat.reduceAdd]) | intro _ | (apply aa.aC; rfl; rfl; rfl; rfl) | (apply aa.aP; rfl; rfl))
        all_goals first | exact ⟨rfl, rfl⟩ | omega
end Bl
namespace Bl
open Go Bt Tc Wr
attribute [local irreducible] aa ACalls
variable {gl : List (Nat × List D)}
attribute [local irreducible] bg nD evR lev dE bv
attribute [local irreducible] di
end Bl
end Go.Proofs.YtbfojhfiemcnpaaGreatDoor.Av
