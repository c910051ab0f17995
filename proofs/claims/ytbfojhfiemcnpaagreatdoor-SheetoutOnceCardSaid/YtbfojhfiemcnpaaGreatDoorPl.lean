/- Blocks: what may be one, and its row: both programs. Blocks: Put, and the reference's May and Row. Blocks: the reference's May and Row. -/
import Derived.Test.YtbfojhfiemcnpaaGreatDoorPt2
import Derived.Test.YtbfojhfiemcnpaaGreatDoorPw
set_option linter.unusedVariables false
set_option linter.unusedSimpArgs false
set_option maxRecDepth 100000
set_option maxHeartbeats 64000000
namespace Go.Proofs.YtbfojhfiemcnpaaGreatDoor.Av
namespace Bl
open Go Bt Tc Wr
attribute [local irreducible] aa ACalls
variable {gl : List (Nat × List D)}
def frm (b : Bool) : Nat := if b = true then 1 else 0
def sw (b : Bool) (dc : Int) : Bool := if b = true then decide (1 ≤ dc ∧ dc ≤ 254) else decide (dc = 0)
def dM (b : Bool) (dc : Int) (l : List Ev) : Bool := (lev l (frm b)).isSome && sw b dc
def ig (b : Bool) (dc : Int) : List UInt8 := if b = true then bI (if dc = 128 then 255 else dc) 8 8 else []
def iO (b : Bool) (dc : Int) (l : List Ev) : List UInt8 := ig b dc ++ l.flatMap fC
theorem uj : ∀ (l : List Ev) (a : Nat) (out r : List Int), qh l a out = some r → r.length = out.length ∧ (∀ e ∈ l, evR e = true) ∧ (l = [] ∨ a + l.length ≤ 64)
 | [], a, out, r, h => by rw [ui] at h; cases h; simp
 | e :: l, a, out, r, h => by
  rw [nV] at h
  split at h
  ·rename_i hc
   obtain ⟨h1, h2, h3⟩ := uj l _ _ r h
   refine ⟨by rw [h1, List.length_set], fun x hx => ?_, .inr ?_⟩
   ·rcases List.mem_cons.1 hx with rfl | hx
    ·exact hc.1
    ·exact h2 x hx
   ·rcases h3 with rfl | h3
    ·simp only [List.length_cons, List.length_nil]; omega
    ·simp only [List.length_cons]; omega
  ·cases h
theorem nU {l : List Ev} {a : Nat} {out : List Int} (h : lev l a = some out) : out.length = 64 ∧ (∀ e ∈ l, evR e = true) ∧ l.length ≤ 64 := by
 obtain ⟨h1, h2, h3⟩ := uj l a z64 out h
 refine ⟨h1, h2, ?_⟩
 rcases h3 with rfl | h3
 ·simp
 ·omega
theorem Ga : ∀ la : Bool, ∀ ru : _root_.Fin 64, ∀ w ∈ oI la ru.val, w.all bq = true := by decide +kernel
theorem qy (e : Ev) (h : evR e = true) : (fC e).all bq = true ∧ (fC e).length ≤ 30 := by
 have hb := xm h
 have hl := F9 e.last e.run (mS e.level) hb.1
 have hd : (lW e.last e.run (mS e.level)).all bq = true := by
  unfold lW
  split
  ·rfl
  ·rw [List.getD_eq_getElem?_getD]
   cases hx : (oI e.last e.run)[(mS e.level - 1).toNat]? with
   | none => rfl
   | some w =>
    have := Ga e.last ⟨e.run.toNat, by omega⟩ w
    simp only at this
    rw [show ((e.run.toNat : Nat) : Int) = e.run by omega] at this
    exact this (List.mem_of_getElem? hx)
 have hs : (wo e.level).all bq = true := by unfold wo; split <;> rfl
 have hsl := xR e.level
 have ht : (yJ e.last).all bq = true := by unfold yJ; split <;> rfl
 have htl := yI e.last
 unfold fC
 rw [if_pos h]
 split
 ·exact ⟨by rw [List.all_append, hd, hs]; rfl, by rw [List.length_append]; omega⟩
 ·refine ⟨?_, ?_⟩
  ·simp only [List.all_append, iM, ht, Bool.and_true]; rfl
  ·simp only [List.length_append, dA, List.length_cons, List.length_nil]; omega
theorem rows_ok (l : List Ev) (h : ∀ e ∈ l, evR e = true) : (l.flatMap fC).all bq = true ∧ (l.flatMap fC).length ≤ 30 * l.length := by
 induction l with
 | nil => simp
 | cons e l ih =>
  obtain ⟨h1, h2⟩ := qy e (h e (by simp))
  obtain ⟨i1, i2⟩ := ih fun x hx => h x (by simp [hx])
  rw [List.flatMap_cons, List.all_append, h1, i1, List.length_append, List.length_cons]
  exact ⟨rfl, by omega⟩
theorem yZ (b : Bool) (dc : Int) : (ig b dc).all bq = true ∧ (ig b dc).length ≤ 8 := by
 unfold ig
 split
 ·exact ⟨iM _ _ _, by rw [dA]; exact Nat.le_refl _⟩
 ·exact ⟨rfl, by simp⟩
theorem He (b : Bool) (dc : Int) (l : List Ev) (h : dM b dc l = true) : (iO b dc l).all bq = true ∧ (iO b dc l).length ≤ 2000 := by
 unfold dM at h
 rw [Bool.and_eq_true, Option.isSome_iff_exists] at h
 obtain ⟨⟨out, ho⟩, _⟩ := h
 obtain ⟨_, h2, h3⟩ := nU ho
 obtain ⟨r1, r2⟩ := rows_ok l h2
 obtain ⟨d1, d2⟩ := yZ b dc
 unfold iO
 rw [List.all_append, d1, r1, List.length_append]
 exact ⟨rfl, by omega⟩
theorem Gf (b : Bool) : ACalls (cxg gl) 140 [B b] [] (fun r H => r = I (frm b : Nat) ∧ H = []) := by
 cases b
 all_goals
  refine ACalls.enter Tryz.func140 rfl Tryz.ntmps140 (by kernel_rfl) rfl ?_; simp only [aB, nm, Nat.reduceAdd]
  repeat' (first | refine aa.aD ?_ | refine aa.aY true ?_ | refine aa.av ?_ | refine aa.ai ?_ | intro _ | refine aa.au ?_)
  all_goals first | exact ⟨rfl, rfl⟩
theorem KP (b : Bool) : frm b ≤ 1 := by cases b <;> decide
attribute [local irreducible] bG qh evR lev fC bI
theorem G9 (b : Bool) (dc : Int) (l : List Ev) (hl : l.length ≤ 1000000) (hok : ∀ e ∈ l, A7 e) : ACalls (cxg gl) 124 [B b, I dc, .d (.sl 3 (bG l))] [] (fun r H => r = B (dM b dc l) ∧ H = []) := by
 have fc := Gf (gl := gl) b
 have lc := FT (gl := gl) l (frm b) (KP b) hl hok
 unfold dM
 by_cases hd : sw b dc = true
 ·rw [hd, Bool.and_true]
  cases hv : lev l (frm b) with
  | none =>
   rw [lV hv] at lc
   cases b
   all_goals
    unfold sw at hd
    simp only [Bool.false_eq_true, if_false, if_true, decide_eq_true_eq] at hd
    refine ACalls.enter Tryz.func124 rfl Tryz.ntmps124 (by kernel_rfl) rfl ?_; simp only [aB, nm, Nat.reduceAdd]
    repeat' (first | refine aa.aD ?_ | refine aa.aY true ?_ | refine aa.ak (fc) ?_ | refine aa.ak (lc) ?_ | refine aa.af ?_ | refine aa.av ?_ | (refine aa.aG ?_; simp only [nm, nz, Nat.reduceAdd]) | (refine aa.az ?_; simp only [nm, nz, Nat.reduceAdd]) | refine aa.aj ?_ | refine aa.bh ?_ | refine aa.aA ?_ | intro _ | (apply aa.eu ; rfl) | (apply aa.gD; rfl; rfl; rfl) | (apply aa.gS; rfl; rfl; rfl) | refine aa.au ?_)
    all_goals first | exact ⟨rfl, rfl⟩ | omega | (exfalso; simp_all; done) | (exfalso; simp at *; omega)
  | some out =>
   obtain ⟨f, rfl⟩ := Kq out (nU hv).1
   rw [qX hv] at lc
   cases b
   all_goals
    unfold sw at hd
    simp only [Bool.false_eq_true, if_false, if_true, decide_eq_true_eq] at hd
    refine ACalls.enter Tryz.func124 rfl Tryz.ntmps124 (by kernel_rfl) rfl ?_; simp only [aB, nm, Nat.reduceAdd]
    repeat' (first | refine aa.aD ?_ | refine aa.aY true ?_ | refine aa.ak (fc) ?_ | refine aa.ak (lc) ?_ | refine aa.af ?_ | refine aa.av ?_ | (refine aa.aG ?_; simp only [nm, nz, Nat.reduceAdd]) | (refine aa.az ?_; simp only [nm, nz, Nat.reduceAdd]) | refine aa.aj ?_ | refine aa.bh ?_ | refine aa.aA ?_ | intro _ | (apply aa.eu ; rfl) | (apply aa.gD; rfl; rfl; rfl) | (apply aa.gS; rfl; rfl; rfl) | refine aa.au ?_)
    all_goals first | exact ⟨rfl, rfl⟩ | omega | (exfalso; simp_all; done) | (exfalso; simp at *; omega)
 ·have hd' : sw b dc = false := by simpa using hd
  rw [hd', Bool.and_false]
  cases hv : lev l (frm b) with
  | none =>
   rw [lV hv] at lc
   cases b
   all_goals
    unfold sw at hd'
    simp only [Bool.false_eq_true, if_false, if_true, decide_eq_false_iff_not] at hd'
    refine ACalls.enter Tryz.func124 rfl Tryz.ntmps124 (by kernel_rfl) rfl ?_; simp only [aB, nm, Nat.reduceAdd]
    repeat' (first | refine aa.aD ?_ | refine aa.aY true ?_ | refine aa.ak (fc) ?_ | refine aa.ak (lc) ?_ | refine aa.af ?_ | refine aa.av ?_ | (refine aa.aG ?_; simp only [nm, nz, Nat.reduceAdd]) | (refine aa.az ?_; simp only [nm, nz, Nat.reduceAdd]) | refine aa.aj ?_ | refine aa.bh ?_ | refine aa.aA ?_ | intro _ | (apply aa.eu ; rfl) | (apply aa.gD; rfl; rfl; rfl) | (apply aa.gS; rfl; rfl; rfl) | refine aa.au ?_)
    all_goals first | exact ⟨rfl, rfl⟩ | omega | (exfalso; simp_all; done) | (exfalso; simp at *; omega)
  | some out =>
   obtain ⟨f, rfl⟩ := Kq out (nU hv).1
   rw [qX hv] at lc
   cases b
   all_goals
    unfold sw at hd'
    simp only [Bool.false_eq_true, if_false, if_true, decide_eq_false_iff_not] at hd'
    refine ACalls.enter Tryz.func124 rfl Tryz.ntmps124 (by kernel_rfl) rfl ?_; simp only [aB, nm, Nat.reduceAdd]
    repeat' (first | refine aa.aD ?_ | refine aa.aY true ?_ | refine aa.ak (fc) ?_ | refine aa.ak (lc) ?_ | refine aa.af ?_ | refine aa.av ?_ | (refine aa.aG ?_; simp only [nm, nz, Nat.reduceAdd]) | (refine aa.az ?_; simp only [nm, nz, Nat.reduceAdd]) | refine aa.aj ?_ | refine aa.bh ?_ | refine aa.aA ?_ | intro _ | (apply aa.eu ; rfl) | (apply aa.gD; rfl; rfl; rfl) | (apply aa.gS; rfl; rfl; rfl) | refine aa.au ?_)
    all_goals first | exact ⟨rfl, rfl⟩ | omega | (exfalso; simp_all; done) | (exfalso; simp at *; omega)
end Bl
namespace Bl
open Go Bt Tc Wr
attribute [local irreducible] aa ACalls
variable {gl : List (Nat × List D)}
theorem vS {b : Bool} {dc : Int} {l : List Ev} (h : dM b dc l = true) : (∀ e ∈ l, evR e = true) ∧ l.length ≤ 64 ∧ sw b dc = true := by
 unfold dM at h
 rw [Bool.and_eq_true, Option.isSome_iff_exists] at h
 obtain ⟨⟨out, ho⟩, hd⟩ := h
 obtain ⟨_, h2, h3⟩ := nU ho
 exact ⟨h2, h3, hd⟩
theorem rf (l : List Ev) (i : Nat) (e : Ev) (h : l[i]? = some e) : (l.take (i + 1)).flatMap fC = (l.take i).flatMap fC ++ fC e := by
 rw [List.take_add_one, h, List.flatMap_append]; simp
theorem Hm (l : List Ev) (i : Nat) (h : ∀ e ∈ l, evR e = true) : ∀ e ∈ l.take i, evR e = true := fun e he => h e (List.mem_of_mem_take he)
attribute [local irreducible] bG qh evR lev fC bI dM bg bR
theorem DT (w : List UInt8) (b : Bool) (dc : Int) (l : List Ev) (hl : l.length ≤ 1000000) (hok : ∀ e ∈ l, A7 e) (h : dM b dc l = false) :
  ACalls (cxg gtc) 91 [.ptr 0 0, B b, I dc, .d (.sl 3 (bG l))] (WO w) (fun r H => r = I 7 ∧ H = WO w) := by
 have mc := G9 (gl := gtc) b dc l hl hok
 rw [h] at mc
 refine ACalls.enter Tryz.func91 rfl Tryz.ntmps91 (by kernel_rfl) rfl ?_; simp only [aB, nm, Nat.reduceAdd]
 repeat' (first | refine aa.aD ?_ | refine aa.aY true ?_ | refine aa.ak (mc) ?_ | refine aa.av ?_ | refine aa.ai ?_ | intro _ | refine aa.au ?_)
 all_goals first | exact ⟨rfl, rfl⟩
theorem G7 (w : List UInt8) (l : List Ev) (hw : w.all bq = true) (hwl : w.length ≤ 30000000) (hl : l.length ≤ 64) (he : ∀ e ∈ l, evR e = true) (i : Nat) :
  (w ++ (l.take i).flatMap fC).all bq = true ∧ (w ++ (l.take i).flatMap fC).length ≤ 30002000 := by
 obtain ⟨r1, r2⟩ := rows_ok (l.take i) (Hm l i he)
 have : (l.take i).length ≤ 64 := by rw [List.length_take]; omega
 rw [List.all_append, hw, r1, List.length_append]
 exact ⟨rfl, by omega⟩
theorem eC (w : List UInt8) (b : Bool) (dc : Int) (l : List Ev) (hok : ∀ e ∈ l, A7 e) (h : dM b dc l = true) (hw : w.all bq = true) (hwl : w.length ≤ 20000000) :
    ACalls (cxg gtc) 91 [.ptr 0 0, B b, I dc, .d (.sl 3 (bG l))] (WO w) (fun r H => r = I 0 ∧ H = WO (w ++ iO b dc l)) := by
  obtain ⟨he, hl, hd⟩ := vS h
  have mc := G9 (gl := gtc) b dc l (by omega) hok
  rw [h] at mc
  have hln := nH l
  obtain ⟨d1, d2⟩ := yZ b dc
  have hv : b = true → 0 ≤ (if dc = 128 then 255 else dc) ∧ (if dc = 128 then 255 else dc) < 2 ^ 8 := fun hb => by
    subst hb
    unfold sw at hd
    simp only [if_true, decide_eq_true_eq] at hd
    split <;> omega
  have wp := fun hb => qJ (gl := gtc) w (if dc = 128 then 255 else dc) 8 hw (by omega) (by decide) (hv hb)
  have bl := fun i => G7 (w ++ ig b dc) l (by rw [List.all_append, hw, d1]; rfl) (by rw [List.length_append]; omega) hl he i
  unfold iO
  rw [← List.append_assoc]
  have e0 : w ++ ig b dc = w ++ ig b dc ++ (l.take 0).flatMap fC := by simp
  cases b
  · have hd0 : dc = 0 := by unfold sw at hd; simpa using hd
    subst hd0
    · refine ACalls.enter Tryz.func91 rfl Tryz.ntmps91 (by kernel_rfl) rfl ?_; simp only [aB, nm, Nat.reduceAdd]
      repeat (first | refine aa.aD ?_ | refine aa.aY true ?_ | refine aa.ak (mc) ?_ | refine aa.ah ?_ | refine aa.af ?_ | refine aa.av ?_ | refine aa.ai ?_ | (refine aa.aG ?_; simp only [nm, nz, Nat.reduceAdd]) | (refine aa.az ?_; simp only [nm, nz, Nat.reduceAdd]))
      refine aa.weak (env' := [(30, I ((0 : Nat) : Int)), (29, I ((bG l).length : Int)), (28, .d (.sl 3 (bG l))), (0, .ptr 0 0)]) ⟨rfl, rfl, rfl, rfl, trivial⟩ ?_
      refine aa.loop (fun m env H => ∃ i : Nat, m = l.length - i ∧ i ≤ l.length ∧ env = [(30, I (i : Int)), (29, I ((bG l).length : Int)), (28, .d (.sl 3 (bG l))), (0, .ptr 0 0)] ∧ H = WO (w ++ ig false 0 ++ (l.take i).flatMap fC)) l.length
        ⟨0, rfl, by omega, rfl, by rw [← e0]; unfold ig; rw [if_neg (by decide), List.append_nil]⟩ ?_
      rintro m env H ⟨i, rfl, hi, rfl, rfl⟩
      obtain ⟨b1, b2⟩ := bl i
      rcases Nat.lt_or_ge i l.length with hlt | hge
      · obtain ⟨e, hee⟩ : ∃ e, l[i]? = some e := ⟨_, List.getElem?_eq_getElem hlt⟩
        have g1 := fun (ti : TI) (ha : ti.agg = true) (hs : ti.size = 3) => sO ti ha hs l i e hee
        have hR := he e (List.mem_of_getElem? hee)
        obtain ⟨r1, r2⟩ := qy e hR
        have rc := xk e
        rw [hR] at rc
        have ad := qL (gl := gtc) (w ++ ig false 0 ++ (l.take i).flatMap fC) (fC e) b1 r1 (by omega)
        rw [List.append_assoc (w ++ ig false 0), ← rf l i e hee] at ad
        repeat' (first | refine aa.aD ?_ | (apply aa.q true; rfl; rfl; rfl; rfl; first | exact True.intro | omega | (simp only [tn, Int.reduceToNat]; omega) | (rw [hln]; omega)) | (refine aa.ae [0,1] ( ad) ?_; simp only [ny, nh, Nat.reduceAdd, Nat.reduceSub]) | refine aa.ak (rc) ?_ | refine aa.ah ?_ | refine aa.af ?_ | refine aa.av ?_ | refine aa.ai ?_ | (refine aa.aG ?_; simp only [nm, nz, Nat.reduceAdd]) | (refine aa.az ?_; simp only [nm, nz, Nat.reduceAdd]) | (apply aa.mE; (iterate 6 rfl); exact (g1 _ rfl rfl)) | intro _ | refine aa.au ?_ | refine aa.aI ?_)
        all_goals first
          | (refine aa.drop 2 (env' := [(30, I ((i + 1 : Nat) : Int)), (29, I ((bG l).length : Int)), (28, .d (.sl 3 (bG l))), (0, .ptr 0 0)]) (Nat.le_refl _) (by simp) (fun o ho => eY (m := 2) rfl o ho) ⟨rfl, rfl, rfl, rfl, trivial⟩ (ib 2 _ rfl) ?_
             exact aa.round [(30, I ((i + 1 : Nat) : Int)), (29, I ((bG l).length : Int)), (28, .d (.sl 3 (bG l))), (0, .ptr 0 0)] (l.length - (i + 1)) (by omega) ⟨rfl, rfl, rfl, rfl, trivial⟩ ⟨i + 1, rfl, hlt, rfl, rfl⟩)
      · obtain rfl : i = l.length := by omega
        rw [List.take_length]
        repeat' (first | refine aa.aD ?_ | refine aa.aY true ?_ | refine aa.ah ?_ | refine aa.af ?_ | refine aa.av ?_ | refine aa.ai ?_ | (refine aa.aG ?_; simp only [nm, nz, Nat.reduceAdd]) | (refine aa.az ?_; simp only [nm, nz, Nat.reduceAdd]) | intro _ | refine aa.au ?_ | refine aa.aI ?_)
        all_goals first | exact ⟨rfl, rfl⟩ | omega
  · have wp' := wp rfl
    by_cases h128 : dc = 128
    · subst h128
      simp only [if_true] at wp'
      refine ACalls.enter Tryz.func91 rfl Tryz.ntmps91 (by kernel_rfl) rfl ?_; simp only [aB, nm, Nat.reduceAdd]
      repeat (first | refine aa.aD ?_ | refine aa.aY true ?_ | (refine aa.ae [0,1] ( wp') ?_; simp only [ny, nh, Nat.reduceAdd, Nat.reduceSub]) | refine aa.ak (mc) ?_ | refine aa.ah ?_ | refine aa.af ?_ | refine aa.av ?_ | refine aa.ai ?_ | (refine aa.aG ?_; simp only [nm, nz, Nat.reduceAdd]) | (refine aa.az ?_; simp only [nm, nz, Nat.reduceAdd]))
      refine aa.weak (env' := [(30, I ((0 : Nat) : Int)), (29, I ((bG l).length : Int)), (28, .d (.sl 3 (bG l))), (0, .ptr 0 0)]) ⟨rfl, rfl, rfl, rfl, trivial⟩ ?_
      refine aa.loop (fun m env H => ∃ i : Nat, m = l.length - i ∧ i ≤ l.length ∧ env = [(30, I (i : Int)), (29, I ((bG l).length : Int)), (28, .d (.sl 3 (bG l))), (0, .ptr 0 0)] ∧ H = WO (w ++ ig true 128 ++ (l.take i).flatMap fC)) l.length
        ⟨0, rfl, by omega, rfl, by rw [← e0]; unfold ig; rw [if_pos rfl, if_pos rfl]⟩ ?_
      rintro m env H ⟨i, rfl, hi, rfl, rfl⟩
      obtain ⟨b1, b2⟩ := bl i
      rcases Nat.lt_or_ge i l.length with hlt | hge
      · obtain ⟨e, hee⟩ : ∃ e, l[i]? = some e := ⟨_, List.getElem?_eq_getElem hlt⟩
        have g1 := fun (ti : TI) (ha : ti.agg = true) (hs : ti.size = 3) => sO ti ha hs l i e hee
        have hR := he e (List.mem_of_getElem? hee)
        obtain ⟨r1, r2⟩ := qy e hR
        have rc := xk e
        rw [hR] at rc
        have ad := qL (gl := gtc) (w ++ ig true 128 ++ (l.take i).flatMap fC) (fC e) b1 r1 (by omega)
        rw [List.append_assoc (w ++ ig true 128), ← rf l i e hee] at ad
        repeat' (first | refine aa.aD ?_ | (apply aa.q true; rfl; rfl; rfl; rfl; first | exact True.intro | omega | (simp only [tn, Int.reduceToNat]; omega) | (rw [hln]; omega)) | (refine aa.ae [0,1] ( ad) ?_; simp only [ny, nh, Nat.reduceAdd, Nat.reduceSub]) | refine aa.ak (rc) ?_ | refine aa.ah ?_ | refine aa.af ?_ | refine aa.av ?_ | refine aa.ai ?_ | (refine aa.aG ?_; simp only [nm, nz, Nat.reduceAdd]) | (refine aa.az ?_; simp only [nm, nz, Nat.reduceAdd]) | (apply aa.mE; (iterate 6 rfl); exact (g1 _ rfl rfl)) | intro _ | refine aa.au ?_ | refine aa.aI ?_)
        all_goals first
          | (refine aa.drop 2 (env' := [(30, I ((i + 1 : Nat) : Int)), (29, I ((bG l).length : Int)), (28, .d (.sl 3 (bG l))), (0, .ptr 0 0)]) (Nat.le_refl _) (by simp) (fun o ho => eY (m := 2) rfl o ho) ⟨rfl, rfl, rfl, rfl, trivial⟩ (ib 2 _ rfl) ?_
             exact aa.round [(30, I ((i + 1 : Nat) : Int)), (29, I ((bG l).length : Int)), (28, .d (.sl 3 (bG l))), (0, .ptr 0 0)] (l.length - (i + 1)) (by omega) ⟨rfl, rfl, rfl, rfl, trivial⟩ ⟨i + 1, rfl, hlt, rfl, rfl⟩)
      · obtain rfl : i = l.length := by omega
        rw [List.take_length]
        repeat' (first | refine aa.aD ?_ | refine aa.aY true ?_ | refine aa.ah ?_ | refine aa.af ?_ | refine aa.av ?_ | refine aa.ai ?_ | (refine aa.aG ?_; simp only [nm, nz, Nat.reduceAdd]) | (refine aa.az ?_; simp only [nm, nz, Nat.reduceAdd]) | intro _ | refine aa.au ?_ | refine aa.aI ?_)
        all_goals first | exact ⟨rfl, rfl⟩ | omega
    · rw [if_neg h128] at wp'
      refine ACalls.enter Tryz.func91 rfl Tryz.ntmps91 (by kernel_rfl) rfl ?_; simp only [aB, nm, Nat.reduceAdd]
      repeat (first | refine aa.aD ?_ | refine aa.aY true ?_ | (refine aa.ae [0,1] ( wp') ?_; simp only [ny, nh, Nat.reduceAdd, Nat.reduceSub]) | refine aa.ak (mc) ?_ | refine aa.ah ?_ | refine aa.af ?_ | refine aa.av ?_ | refine aa.ai ?_ | (refine aa.aG ?_; simp only [nm, nz, Nat.reduceAdd]) | (refine aa.az ?_; simp only [nm, nz, Nat.reduceAdd]))
      refine aa.weak (env' := [(30, I ((0 : Nat) : Int)), (29, I ((bG l).length : Int)), (28, .d (.sl 3 (bG l))), (0, .ptr 0 0)]) ⟨rfl, rfl, rfl, rfl, trivial⟩ ?_
      refine aa.loop (fun m env H => ∃ i : Nat, m = l.length - i ∧ i ≤ l.length ∧ env = [(30, I (i : Int)), (29, I ((bG l).length : Int)), (28, .d (.sl 3 (bG l))), (0, .ptr 0 0)] ∧ H = WO (w ++ ig true dc ++ (l.take i).flatMap fC)) l.length
        ⟨0, rfl, by omega, rfl, by rw [← e0]; unfold ig; rw [if_pos rfl, if_neg h128]⟩ ?_
      rintro m env H ⟨i, rfl, hi, rfl, rfl⟩
      obtain ⟨b1, b2⟩ := bl i
      rcases Nat.lt_or_ge i l.length with hlt | hge
      · obtain ⟨e, hee⟩ : ∃ e, l[i]? = some e := ⟨_, List.getElem?_eq_getElem hlt⟩
        have g1 := fun (ti : TI) (ha : ti.agg = true) (hs : ti.size = 3) => sO ti ha hs l i e hee
        have hR := he e (List.mem_of_getElem? hee)
        obtain ⟨r1, r2⟩ := qy e hR
        have rc := xk e
        rw [hR] at rc
        have ad := qL (gl := gtc) (w ++ ig true dc ++ (l.take i).flatMap fC) (fC e) b1 r1 (by omega)
        rw [List.append_assoc (w ++ ig true dc), ← rf l i e hee] at ad
        repeat' (first | refine aa.aD ?_ | (apply aa.q true; rfl; rfl; rfl; rfl; first | exact True.intro | omega | (simp only [tn, Int.reduceToNat]; omega) | (rw [hln]; omega)) | (refine aa.ae [0,1] ( ad) ?_; simp only [ny, nh, Nat.reduceAdd, Nat.reduceSub]) | refine aa.ak (rc) ?_ | refine aa.ah ?_ | refine aa.af ?_ | refine aa.av ?_ | refine aa.ai ?_ | (refine aa.aG ?_; simp only [nm, nz, Nat.reduceAdd]) | (refine aa.az ?_; simp only [nm, nz, Nat.reduceAdd]) | (apply aa.mE; (iterate 6 rfl); exact (g1 _ rfl rfl)) | intro _ | refine aa.au ?_ | refine aa.aI ?_)
        all_goals first
          | (refine aa.drop 2 (env' := [(30, I ((i + 1 : Nat) : Int)), (29, I ((bG l).length : Int)), (28, .d (.sl 3 (bG l))), (0, .ptr 0 0)]) (Nat.le_refl _) (by simp) (fun o ho => eY (m := 2) rfl o ho) ⟨rfl, rfl, rfl, rfl, trivial⟩ (ib 2 _ rfl) ?_
             exact aa.round [(30, I ((i + 1 : Nat) : Int)), (29, I ((bG l).length : Int)), (28, .d (.sl 3 (bG l))), (0, .ptr 0 0)] (l.length - (i + 1)) (by omega) ⟨rfl, rfl, rfl, rfl, trivial⟩ ⟨i + 1, rfl, hlt, rfl, rfl⟩)
      · obtain rfl : i = l.length := by omega
        rw [List.take_length]
        repeat' (first | refine aa.aD ?_ | refine aa.aY true ?_ | refine aa.ah ?_ | refine aa.af ?_ | refine aa.av ?_ | refine aa.ai ?_ | (refine aa.aG ?_; simp only [nm, nz, Nat.reduceAdd]) | (refine aa.az ?_; simp only [nm, nz, Nat.reduceAdd]) | intro _ | refine aa.au ?_ | refine aa.aI ?_)
        all_goals first | exact ⟨rfl, rfl⟩ | omega
end Bl
namespace Bl
open Go Bt Tc Wr
attribute [local irreducible] aa ACalls
variable {gl : List (Nat × List D)}
attribute [local irreducible] bG qh evR lev fC bI
attribute [local irreducible] dM
end Bl
end Go.Proofs.YtbfojhfiemcnpaaGreatDoor.Av
