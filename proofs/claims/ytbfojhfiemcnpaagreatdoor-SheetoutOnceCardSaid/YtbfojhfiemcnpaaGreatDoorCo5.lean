/- Cells: what stands ahead of a cell's pattern is written. -/
import Derived.Test.YtbfojhfiemcnpaaGreatDoorCo4
import Derived.Test.YtbfojhfiemcnpaaGreatDoorPy7
import Derived.Test.YtbfojhfiemcnpaaGreatDoorPq3
set_option linter.unusedVariables false
set_option linter.unusedSimpArgs false
set_option maxRecDepth 100000
set_option maxHeartbeats 64000000
namespace Go.Proofs.YtbfojhfiemcnpaaGreatDoor.Av
namespace Co
open Go Bt Tc Wr Bl Mb
attribute [local irreducible] aa ACalls
variable {gl : List (Nat × List D)}
noncomputable abbrev gA : List (Nat × List D) := [(0, gl0), (3, gl3), (1, gl1), (2, gl2)]
theorem JD : ∀ p ∈ gsp, p ∈ gA := by simp [gsp, gA]
theorem gb : ∀ p ∈ gtc, p ∈ gA := by simp [gtc, gA]
theorem BR : ∀ p ∈ [(0, gl0)], p ∈ gA := by simp [gA]
def again (b : Bool) : List UInt8 := if b = true then [48] else []
def dw (b : Bool) : List UInt8 := again b ++ fV b 5 0
def kP (c : Cel) : Int := (((eB c).toNat &&& (3 : Int).toNat : Nat) : Int)
theorem lZ (c : Cel) : 0 ≤ eB c ∧ eB c ≤ 63 := by
 have := l7 c.e0
 have := l7 c.e1
 have := l7 c.e2
 have := l7 c.e3
 have := l7 c.e4
 have := l7 c.e5
 unfold eB; omega
theorem vM (c : Cel) : kP c = eB c % 4 := by
 have h := lZ c
 have e : (eB c).toNat &&& (3 : Int).toNat = (eB c).toNat % 2 ^ 2 := Nat.and_two_pow_sub_one_eq_mod _ 2
 unfold kP
 rw [e]; omega
def jX (b : Bool) (c : Cel) : List UInt8 := if c.skip = true then [49] else again b ++ fV b c.kind (kP c)
def cH (b : Bool) (c : Cel) : List UInt8 := (List.replicate c.stuff.toNat (dw b)).flatten ++ jX b c
theorem wW : ∀ b : Bool, lT b 5 0 = true := by decide +kernel
theorem FM : ∀ b : Bool, ∀ k : _root_.Fin 5, ∀ ch : _root_.Fin 4, (aK k.val || (b && decide ((k.val : Int) = 0 ∨ (k.val : Int) = 1))) = true → lT b k.val ch.val = true := by decide +kernel
theorem Aw {b : Bool} {c : Cel} (h : fU b c = true) : 0 ≤ c.kind ∧ c.kind ≤ 4 := by
 unfold fU aK at h
 simp only [Bool.or_eq_true, Bool.and_eq_true, decide_eq_true_eq] at h
 omega
theorem ug {b : Bool} {c : Cel} (h : fU b c = true) : lT b c.kind (kP c) = true := by
 have hb := Aw h
 have hc := lZ c
 rw [vM]
 have := FM b ⟨c.kind.toNat, by omega⟩ ⟨(eB c % 4).toNat, by omega⟩
 simp only at this
 rw [show ((c.kind.toNat : Nat) : Int) = c.kind by omega, show (((eB c % 4).toNat : Nat) : Int) = eB c % 4 by omega] at this
 exact this h
theorem qI (b : Bool) : (again b).all bq = true ∧ (again b).length ≤ 1 := by cases b <;> decide
theorem rO (b : Bool) : (dw b).all bq = true ∧ (dw b).length ≤ 10 := by
 obtain ⟨_, h2, h3⟩ := qc b 5 0 (wW b)
 obtain ⟨a1, a2⟩ := qI b
 unfold dw
 rw [List.all_append, a1, h3, List.length_append]
 exact ⟨rfl, by omega⟩
theorem EX (r : List UInt8) (h : r.all bq = true) (n : Nat) : ((List.replicate n r).flatten).all bq = true ∧ ((List.replicate n r).flatten).length = n * r.length := by
 induction n with
 | zero => simp
 | succ n ih =>
  rw [List.replicate_succ, List.flatten_cons, List.all_append, h, ih.1, List.length_append, ih.2, Nat.succ_mul]
  exact ⟨rfl, by omega⟩
theorem EW (r : List UInt8) (n : Nat) : (List.replicate (n + 1) r).flatten = (List.replicate n r).flatten ++ r := by
 rw [List.replicate_succ', List.flatten_append]; simp
theorem tJ {b : Bool} {c : Cel} (h : c.skip = true ∨ fU b c = true) : (jX b c).all bq = true ∧ (jX b c).length ≤ 10 := by
 unfold jX
 split
 ·exact ⟨rfl, by decide⟩
 ·rename_i hs
  have h' : fU b c = true := by rcases h with h | h; exact absurd h hs; exact h
  obtain ⟨_, h2, h3⟩ := qc b c.kind (kP c) (ug h')
  obtain ⟨a1, a2⟩ := qI b
  rw [List.all_append, a1, h3, List.length_append]
  exact ⟨rfl, by omega⟩
abbrev Ny (c : Cel) : List AV := [I c.stuff, B c.skip, I c.kind, I c.step, I c.mx, I c.my, I c.d0, I c.d1, I c.d2, I c.d3, I c.d4, I c.d5, .d (evS c.e0), .d (evS c.e1), .d (evS c.e2), .d (evS c.e3), .d (evS c.e4), .d (evS c.e5)]
attribute [local irreducible] bG bg bR fV lT eB
theorem Au (w : List UInt8) (b : Bool) (c : Cel) (hs : 0 ≤ c.stuff ∧ c.stuff ≤ 64) (h : c.skip = true ∨ fU b c = true) (hw : w.all bq = true) (hwl : w.length ≤ 20000000) :
  ACalls (cxg gA) 83 [.ptr 0 0, B b, .d (lH c)] (WO w) (fun r H => r = .bW [] ∧ H = WO (w ++ cH b c)) := by
 have m5 := (BJ b 5 0).more JD
 rw [wW b] at m5
 obtain ⟨s1, s2⟩ := rO b
 have rk := fun n => EX (dw b) s1 n
 have inv : ∀ n, n ≤ 64 → (w ++ (List.replicate n (dw b)).flatten).all bq = true ∧ (w ++ (List.replicate n (dw b)).flatten).length ≤ 20000640 := fun n hn => by
  obtain ⟨k1, k2⟩ := rk n
  have : n * (dw b).length ≤ 64 * 10 := Nat.mul_le_mul hn s2
  rw [List.all_append, hw, k1, List.length_append, k2]
  exact ⟨rfl, by omega⟩
 obtain ⟨n, hn⟩ := Int.eq_ofNat_of_zero_le hs.1
 obtain ⟨i1, i2⟩ := inv n (by omega)
 obtain ⟨t1, t2⟩ := tJ h
 have at1 := qL (gl := gA) (w ++ (List.replicate n (dw b)).flatten) (jX b c) i1 t1 (by omega)
 have cc := (Cq (gl := gA) c)
 have mc := (BJ b c.kind (kP c)).more JD
 have hml : (fV b 5 0).length ≤ 9 := (qc b 5 0 (wW b)).2.1
 have hfin : w ++ cH b c = w ++ (List.replicate n (dw b)).flatten ++ jX b c := by
  unfold cH; rw [hn, Int.toNat_natCast, List.append_assoc]
 rw [hfin]
 have e0 : w = w ++ (List.replicate 0 (dw b)).flatten := by simp
 have hadd := fun i hi => qL (gl := gA) (w ++ (List.replicate i (dw b)).flatten) (dw b) (inv i hi).1 s1 (by have := (inv i hi).2; omega)
 have hsr : dw b = again b ++ fV b 5 0 := rfl
 have htr : jX b c = if c.skip = true then [49] else again b ++ fV b c.kind (kP c) := rfl
 have hcd := lZ c
 have hm5 : (again b ++ fV b 5 0).length ≤ 100 := by have := (qI b).2; rw [List.length_append]; omega
 have hmk : fU b c = true → (again b ++ fV b c.kind (kP c)).length ≤ 100 := fun hh => by
  have := (qI b).2
  have := (qc b c.kind (kP c) (ug hh)).2.1
  rw [List.length_append]; omega
 rw [htr] at at1 ⊢
 rcases Bool.eq_false_or_eq_true b with hb | hb
 all_goals
  refine ACalls.enter Tryz.func83 rfl Tryz.ntmps83 (by kernel_rfl) rfl ?_; simp only [aB, nm, Nat.reduceAdd]
  repeat (first | refine aa.aD ?_ | refine aa.aY true ?_ | refine aa.dL true ?_ | refine aa.ak (m5) ?_ | refine aa.aL (m5) ?_ | refine aa.aR ?_ | refine aa.ah ?_ | refine aa.af ?_ | (refine aa.aP ?_; simp only [nm, nz, Nat.reduceAdd]) | (apply aa.cBT; rfl; first | (simp only [bT]; omega) | (exact hb)) | (apply aa.cBF; rfl; first | (simp only [bF]; omega) | exact ndF rfl | (exact hb)))
  refine aa.weak (env' := [(19, I ((0 : Nat) : Int)), (18, I c.stuff), (7, S (fV b 5 0)), (6, S (again b)), (5, .ptr 2 0), (0, .ptr 0 0), (1, B b)]) ⟨rfl, rfl, rfl, congrArg S (by rw [hb]; rfl), rfl, rfl, rfl, trivial⟩ ?_
  refine aa.loop (fun m env H => ∃ i : Nat, m = n - i ∧ i ≤ n ∧ env = [(19, I (i : Int)), (18, I c.stuff), (7, S (fV b 5 0)), (6, S (again b)), (5, .ptr 2 0), (0, .ptr 0 0), (1, B b)] ∧
   H = [.cells [.ms 1 (bg (bR (w ++ (List.replicate i (dw b)).flatten))).length, I (w ++ (List.replicate i (dw b)).flatten).length], .arr 5 1 (bg (bR (w ++ (List.replicate i (dw b)).flatten))), .cells (Ny c)]) n
   ⟨0, rfl, by omega, rfl, by rw [← e0]⟩ ?_
  rintro m env H ⟨i, rfl, hi, rfl, rfl⟩
  rcases Nat.lt_or_ge i n with hlt | hge
  ·have ad := hadd i (by omega)
   rw [List.append_assoc, ← EW, hsr] at ad
   repeat' (first | refine aa.aD ?_ | ((first | apply aa.q true | apply aa.qq true); rfl; rfl; rfl; rfl; first | exact True.intro | omega | (simp only [tn, Int.reduceToNat]; omega) | (simp only [List.length_append] at *; omega)) | (refine aa.ae [0,1] ( ad) ?_; simp only [ny, nh, Nat.reduceAdd, Nat.reduceSub]) | refine aa.aR ?_ | refine aa.ah ?_ | refine aa.af ?_ | (refine aa.aP ?_; simp only [nm, nz, Nat.reduceAdd]) | refine aa.aU ?_ | refine aa.cB ?_ | intro _ | refine aa.au ?_ | refine aa.aI ?_)
   all_goals first | exact aa.round [(19, I ((i + 1 : Nat) : Int)), (18, I c.stuff), (7, S (fV b 5 0)), (6, S (again b)), (5, .ptr 2 0), (0, .ptr 0 0), (1, B b)] (n - (i + 1)) (by omega) ⟨rfl, rfl, rfl, rfl, rfl, rfl, rfl, trivial⟩ ⟨i + 1, rfl, hlt, rfl, rfl⟩
  ·obtain rfl : i = n := by omega
   cases hk : c.skip with
   | true =>
    rw [hk] at at1
    simp only [if_true] at at1 ⊢
    repeat' (first | refine aa.aD ?_ | refine aa.aY true ?_ | refine aa.dL true ?_ | (refine aa.ae [0,1] ( at1) ?_; simp only [ny, nh, Nat.reduceAdd, Nat.reduceSub]) | refine aa.aR ?_ | refine aa.ah ?_ | refine aa.af ?_ | (refine aa.aP ?_; simp only [nm, nz, Nat.reduceAdd]) | (apply aa.cBT; rfl; first | (simp only [bT]; omega) | (exact hk)) | (apply aa.cBF; rfl; first | (simp only [bF]; omega) | exact ndF rfl | (exact hk)) | refine aa.jR ?_ | intro _ | refine aa.au ?_ | refine aa.aI ?_)
    all_goals first | exact ⟨rfl, rfl⟩
   | false =>
    rw [hk] at at1
    simp only [Bool.false_eq_true, if_false] at at1 ⊢
    have hh : fU b c = true := by rcases h with h | h; rw [hk] at h; cases h; exact h
    rw [ug hh] at mc
    have hmk' := hmk hh
    repeat' (first | refine aa.aD ?_ | ((first | apply aa.q true | apply aa.qq true); rfl; rfl; rfl; rfl; first | exact True.intro | omega | (simp only [tn, Int.reduceToNat]; omega) | (simp only [List.length_append] at *; omega) | (exact ⟨by omega, by omega⟩)) | (refine aa.ae [0,1] ( at1) ?_; simp only [ny, nh, Nat.reduceAdd, Nat.reduceSub]) | refine aa.ak (mc) ?_ | refine aa.aL (mc) ?_ | refine aa.ak (cc) ?_ | refine aa.aL (cc) ?_ | refine aa.aR ?_ | refine aa.ah ?_ | refine aa.af ?_ | (refine aa.aP ?_; simp only [nm, nz, Nat.reduceAdd]) | (apply aa.cBT; rfl; first | (simp only [bT]; omega) | (exact hk)) | (apply aa.cBF; rfl; first | (simp only [bF]; omega) | exact ndF rfl | (exact hk)) | refine aa.jR ?_ | intro _ | refine aa.au ?_ | refine aa.aI ?_)
    all_goals first | exact ⟨rfl, rfl⟩
end Co
end Go.Proofs.YtbfojhfiemcnpaaGreatDoor.Av
