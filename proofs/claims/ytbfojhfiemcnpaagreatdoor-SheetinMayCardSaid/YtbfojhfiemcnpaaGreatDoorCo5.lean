/- Cells: what stands ahead of a cell's pattern is written. -/
import Derived.Test.YtbfojhfiemcnpaaGreatDoorCo4
import Derived.Test.YtbfojhfiemcnpaaGreatDoorPy7
import Derived.Test.YtbfojhfiemcnpaaGreatDoorPq3
set_option linter.unusedVariables false
set_option linter.unusedSimpArgs false
set_option maxRecDepth 100000
set_option maxHeartbeats 64000000
namespace Go.Proofs.YtbfojhfiemcnpaaGreatDoor.Av
namespace Co
open Go Bt Tc Wr Bl Mb
attribute [local irreducible] aa ACalls
variable {gl : List (Nat × List D)}
noncomputable abbrev gA : List (Nat × List D) := [(0, gl0), (3, gl3), (1, gl1), (2, gl2)]
theorem GM : ∀ p ∈ gsp, p ∈ gA := by simp [gsp, gA]
def again (b : Bool) : List UInt8 := if b = true then [48] else []
def cB (b : Bool) : List UInt8 := again b ++ dY b 5 0
def jM (c : Cel) : Int := (((dU c).toNat &&& (3 : Int).toNat : Nat) : Int)
theorem oM (c : Cel) : 0 ≤ dU c ∧ dU c ≤ 63 := by
 have := ku c.e0
 have := ku c.e1
 have := ku c.e2
 have := ku c.e3
 have := ku c.e4
 have := ku c.e5
 unfold dU; omega
theorem tC (c : Cel) : jM c = dU c % 4 := by
 have h := oM c
 have e : (dU c).toNat &&& (3 : Int).toNat = (dU c).toNat % 2 ^ 2 := Nat.and_two_pow_sub_one_eq_mod _ 2
 unfold jM
 rw [e]; omega
def iO (b : Bool) (c : Cel) : List UInt8 := if c.skip = true then [49] else again b ++ dY b c.kind (jM c)
def cZ (b : Bool) (c : Cel) : List UInt8 := (List.replicate c.stuff.toNat (cB b)).flatten ++ iO b c
theorem uB : ∀ b : Bool, jW b 5 0 = true := by decide +kernel
theorem CZ : ∀ b : Bool, ∀ k : _root_.Fin 5, ∀ ch : _root_.Fin 4, (aH k.val || (b && decide ((k.val : Int) = 0 ∨ (k.val : Int) = 1))) = true → jW b k.val ch.val = true := by decide +kernel
theorem xX {b : Bool} {c : Cel} (h : fV b c = true) : 0 ≤ c.kind ∧ c.kind ≤ 4 := by
 unfold fV aH at h
 simp only [Bool.or_eq_true, Bool.and_eq_true, decide_eq_true_eq] at h
 omega
theorem ry {b : Bool} {c : Cel} (h : fV b c = true) : jW b c.kind (jM c) = true := by
 have hb := xX h
 have hc := oM c
 rw [tC]
 have := CZ b ⟨c.kind.toNat, by omega⟩ ⟨(dU c % 4).toNat, by omega⟩
 simp only at this
 rw [show ((c.kind.toNat : Nat) : Int) = c.kind by omega, show (((dU c % 4).toNat : Nat) : Int) = dU c % 4 by omega] at this
 exact this h
theorem nW (b : Bool) : (again b).all aX = true ∧ (again b).length ≤ 1 := by cases b <;> decide
theorem vw (b : Bool) : (cB b).all aX = true ∧ (cB b).length ≤ 10 := by
 obtain ⟨_, h2, h3⟩ := nk b 5 0 (uB b)
 obtain ⟨a1, a2⟩ := nW b
 unfold cB
 rw [List.all_append, a1, h3, List.length_append]
 exact ⟨rfl, by omega⟩
theorem Hq (r : List UInt8) (h : r.all aX = true) (n : Nat) : ((List.replicate n r).flatten).all aX = true ∧ ((List.replicate n r).flatten).length = n * r.length := by
 induction n with
 | zero => simp
 | succ n ih =>
  rw [List.replicate_succ, List.flatten_cons, List.all_append, h, ih.1, List.length_append, ih.2, Nat.succ_mul]
  exact ⟨rfl, by omega⟩
theorem Ck (r : List UInt8) (n : Nat) : (List.replicate (n + 1) r).flatten = (List.replicate n r).flatten ++ r := by
 rw [List.replicate_succ', List.flatten_append]; simp
theorem xq {b : Bool} {c : Cel} (h : c.skip = true ∨ fV b c = true) : (iO b c).all aX = true ∧ (iO b c).length ≤ 10 := by
 unfold iO
 split
 ·exact ⟨rfl, by decide⟩
 ·rename_i hs
  have h' : fV b c = true := by rcases h with h | h; exact absurd h hs; exact h
  obtain ⟨_, h2, h3⟩ := nk b c.kind (jM c) (ry h')
  obtain ⟨a1, a2⟩ := nW b
  rw [List.all_append, a1, h3, List.length_append]
  exact ⟨rfl, by omega⟩
abbrev JZ (c : Cel) : List AV := [I c.stuff, B c.skip, I c.kind, I c.step, I c.mx, I c.my, I c.d0, I c.d1, I c.d2, I c.d3, I c.d4, I c.d5, .d (evS c.e0), .d (evS c.e1), .d (evS c.e2), .d (evS c.e3), .d (evS c.e4), .d (evS c.e5)]
attribute [local irreducible] bg aS bJ dY jW dU
theorem Dl (w : List UInt8) (b : Bool) (c : Cel) (hs : 0 ≤ c.stuff ∧ c.stuff ≤ 64) (h : c.skip = true ∨ fV b c = true) (hw : w.all aX = true) (hwl : w.length ≤ 20000000) :
  ACalls (cxg gA) 83 [.ptr 0 0, B b, .d (jm c)] (WO w) (fun r H => r = .bG [] ∧ H = WO (w ++ cZ b c)) := by
 have m5 := (zf b 5 0).more GM
 rw [uB b] at m5
 obtain ⟨s1, s2⟩ := vw b
 have rk := fun n => Hq (cB b) s1 n
 have inv : ∀ n, n ≤ 64 → (w ++ (List.replicate n (cB b)).flatten).all aX = true ∧ (w ++ (List.replicate n (cB b)).flatten).length ≤ 20000640 := fun n hn => by
  obtain ⟨k1, k2⟩ := rk n
  have : n * (cB b).length ≤ 64 * 10 := Nat.mul_le_mul hn s2
  rw [List.all_append, hw, k1, List.length_append, k2]
  exact ⟨rfl, by omega⟩
 obtain ⟨n, hn⟩ := Int.eq_ofNat_of_zero_le hs.1
 obtain ⟨i1, i2⟩ := inv n (by omega)
 obtain ⟨t1, t2⟩ := xq h
 have at1 := og (gl := gA) (w ++ (List.replicate n (cB b)).flatten) (iO b c) i1 t1 (by omega)
 have cc := (F8 (gl := gA) c)
 have mc := (zf b c.kind (jM c)).more GM
 have hml : (dY b 5 0).length ≤ 9 := (nk b 5 0 (uB b)).2.1
 have hfin : w ++ cZ b c = w ++ (List.replicate n (cB b)).flatten ++ iO b c := by
  unfold cZ; rw [hn, Int.toNat_natCast, List.append_assoc]
 rw [hfin]
 have e0 : w = w ++ (List.replicate 0 (cB b)).flatten := by simp
 have hadd := fun i hi => og (gl := gA) (w ++ (List.replicate i (cB b)).flatten) (cB b) (inv i hi).1 s1 (by have := (inv i hi).2; omega)
 have hsr : cB b = again b ++ dY b 5 0 := rfl
 have htr : iO b c = if c.skip = true then [49] else again b ++ dY b c.kind (jM c) := rfl
 have hcd := oM c
 have hm5 : (again b ++ dY b 5 0).length ≤ 100 := by have := (nW b).2; rw [List.length_append]; omega
 have hmk : fV b c = true → (again b ++ dY b c.kind (jM c)).length ≤ 100 := fun hh => by
  have := (nW b).2
  have := (nk b c.kind (jM c) (ry hh)).2.1
  rw [List.length_append]; omega
 rw [htr] at at1 ⊢
 rcases Bool.eq_false_or_eq_true b with hb | hb
 all_goals
  refine ACalls.enter Tryz.func83 rfl Tryz.ntmps83 (by kernel_rfl) rfl ?_; simp only [au, nm, Nat.reduceAdd]
  repeat (first | (apply aa.st; rfl) | ((first | apply aa.q true | apply aa.qq true); rfl; rfl; rfl; rfl; first | exact True.intro | omega | (simp only [tn, Int.reduceToNat]; omega)) | (apply aa.aA (m5); (iterate 6 rfl)) | (apply aa.bD (m5); (iterate 7 rfl)) | (apply aa.aY; rfl; rfl; decide +kernel) | (apply aa.af; rfl; first | omega | rfl) | (apply aa.ae; rfl; omega) | (apply aa.box; (iterate 6 rfl); simp only [nm, nz, Nat.reduceAdd]) | (apply aa.cBT; rfl; first | (simp only [bT]; omega) | (exact hb)) | (apply aa.cBF; rfl; first | (simp only [bF]; omega) | exact ndF rfl | (exact hb)))
  refine aa.weak (env' := [(19, I ((0 : Nat) : Int)), (18, I c.stuff), (7, S (dY b 5 0)), (6, S (again b)), (5, .ptr 2 0), (0, .ptr 0 0), (1, B b)]) ⟨rfl, rfl, rfl, congrArg S (by rw [hb]; rfl), rfl, rfl, rfl, trivial⟩ ?_
  refine aa.loop (fun m env H => ∃ i : Nat, m = n - i ∧ i ≤ n ∧ env = [(19, I (i : Int)), (18, I c.stuff), (7, S (dY b 5 0)), (6, S (again b)), (5, .ptr 2 0), (0, .ptr 0 0), (1, B b)] ∧
   H = [.cells [.ms 1 (aS (bJ (w ++ (List.replicate i (cB b)).flatten))).length, I (w ++ (List.replicate i (cB b)).flatten).length], .arr 5 1 (aS (bJ (w ++ (List.replicate i (cB b)).flatten))), .cells (JZ c)]) n
   ⟨0, rfl, by omega, rfl, by rw [← e0]⟩ ?_
  rintro m env H ⟨i, rfl, hi, rfl, rfl⟩
  rcases Nat.lt_or_ge i n with hlt | hge
  ·have ad := hadd i (by omega)
   rw [List.append_assoc, ← Ck, hsr] at ad
   repeat' (first | (apply aa.st; rfl) | ((first | apply aa.q true | apply aa.qq true); rfl; rfl; rfl; rfl; first | exact True.intro | omega | (simp only [tn, Int.reduceToNat]; omega) | (simp only [List.length_append] at *; omega)) | (apply aa.ah [0,1] ( ad); (iterate 6 rfl); decide; rfl; rfl; simp only [ny, nh, Nat.reduceAdd, Nat.reduceSub]) | (apply aa.aY; rfl; rfl; decide +kernel) | (apply aa.af; rfl; first | omega | rfl) | (apply aa.ae; rfl; omega) | (apply aa.box; (iterate 6 rfl); simp only [nm, nz, Nat.reduceAdd]) | (apply aa.cBT; rfl; first | (simp only [bT]; omega)) | (apply aa.cBF; rfl; first | (simp only [bF]; omega) | exact ndF rfl) | intro _ | (apply aa.aC; rfl; rfl; rfl; rfl) | (apply aa.aP; rfl; rfl))
   all_goals first | exact aa.round [(19, I ((i + 1 : Nat) : Int)), (18, I c.stuff), (7, S (dY b 5 0)), (6, S (again b)), (5, .ptr 2 0), (0, .ptr 0 0), (1, B b)] (n - (i + 1)) (by omega) ⟨rfl, rfl, rfl, rfl, rfl, rfl, rfl, trivial⟩ ⟨i + 1, rfl, hlt, rfl, rfl⟩
  ·obtain rfl : i = n := by omega
   cases hk : c.skip with
   | true =>
    rw [hk] at at1
    simp only [if_true] at at1 ⊢
    repeat' (first | (apply aa.st; rfl) | ((first | apply aa.q true | apply aa.qq true); rfl; rfl; rfl; rfl; first | exact True.intro | omega | (simp only [tn, Int.reduceToNat]; omega)) | (apply aa.ah [0,1] ( at1); (iterate 6 rfl); decide; rfl; rfl; simp only [ny, nh, Nat.reduceAdd, Nat.reduceSub]) | (apply aa.aY; rfl; rfl; decide +kernel) | (apply aa.af; rfl; first | omega | rfl) | (apply aa.ae; rfl; omega) | (apply aa.box; (iterate 6 rfl); simp only [nm, nz, Nat.reduceAdd]) | (apply aa.cBT; rfl; first | (simp only [bT]; omega) | (exact hk)) | (apply aa.cBF; rfl; first | (simp only [bF]; omega) | exact ndF rfl | (exact hk)) | (apply aa.oK; rfl; rfl; rfl; rfl) | intro _ | (apply aa.aC; rfl; rfl; rfl; rfl) | (apply aa.aP; rfl; rfl))
    all_goals first | exact ⟨rfl, rfl⟩
   | false =>
    rw [hk] at at1
    simp only [Bool.false_eq_true, if_false] at at1 ⊢
    have hh : fV b c = true := by rcases h with h | h; rw [hk] at h; cases h; exact h
    rw [ry hh] at mc
    have hmk' := hmk hh
    repeat' (first | (apply aa.st; rfl) | ((first | apply aa.q true | apply aa.qq true); rfl; rfl; rfl; rfl; first | exact True.intro | omega | (simp only [tn, Int.reduceToNat]; omega) | (simp only [List.length_append] at *; omega) | (exact ⟨by omega, by omega⟩)) | (apply aa.ah [0,1] ( at1); (iterate 6 rfl); decide; rfl; rfl; simp only [ny, nh, Nat.reduceAdd, Nat.reduceSub]) | (apply aa.aA (mc); (iterate 6 rfl)) | (apply aa.bD (mc); (iterate 7 rfl)) | (apply aa.aA (cc); (iterate 6 rfl)) | (apply aa.bD (cc); (iterate 7 rfl)) | (apply aa.aY; rfl; rfl; decide +kernel) | (apply aa.af; rfl; first | omega | rfl) | (apply aa.ae; rfl; omega) | (apply aa.box; (iterate 6 rfl); simp only [nm, nz, Nat.reduceAdd]) | (apply aa.cBT; rfl; first | (simp only [bT]; omega) | (exact hk)) | (apply aa.cBF; rfl; first | (simp only [bF]; omega) | exact ndF rfl | (exact hk)) | (apply aa.oK; rfl; rfl; rfl; rfl) | intro _ | (apply aa.aC; rfl; rfl; rfl; rfl) | (apply aa.aP; rfl; rfl))
    all_goals first | exact ⟨rfl, rfl⟩
end Co
end Go.Proofs.YtbfojhfiemcnpaaGreatDoor.Av
