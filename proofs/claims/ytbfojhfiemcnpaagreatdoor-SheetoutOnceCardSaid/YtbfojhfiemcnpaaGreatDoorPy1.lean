/- Marks are read: the reader's Fill, Text and Left; marks.At, Zeros and Next, walked. Marks: numbers of rows of bits, no program. Marks: the document's answers, walked. Heads of rows are read: rowhead.Take and the document's answer, walked. Heads of rows are read: rowhead.Take; the document's answer, walked. Heads of rows: the document's answer, walked. Heads of sheets are read: the mark. -/
import Derived.Test.YtbfojhfiemcnpaaGreatDoorPq1
set_option linter.unusedVariables false
set_option linter.unusedSimpArgs false
set_option maxRecDepth 100000
set_option maxHeartbeats 64000000
namespace Go.Proofs.YtbfojhfiemcnpaaGreatDoor.Av
namespace Mk
open Go Bt
attribute [local irreducible] aa ACalls
variable {gl : List (Nat × List D)}
theorem zF (s : List UInt8) (p : Int) : ACalls (cxg gl) 108 [.ptr 0 0] [Rd s p] (fun r H => r = S s ∧ H = [Rd s p]) := by
 refine ACalls.enter Tryz.func108 rfl Tryz.ntmps108 (by kernel_rfl) rfl ?_; simp only [aB, nm, Nat.reduceAdd]
 repeat' (first | refine aa.aD ?_ | refine aa.aY true ?_ | refine aa.ai ?_ | intro _ | refine aa.au ?_)
 all_goals first | exact ⟨rfl, rfl⟩
theorem KG (s : List UInt8) (p : Nat) (hs : s.length < 1000000000000000) (hp : p ≤ 8 * s.length) : ACalls (cxg gl) 24 [.ptr 0 0] [Rd s p] (fun r H => r = I (8 * (s.length : Int) - (p : Int)) ∧ H = [Rd s p]) := by
 refine ACalls.enter Tryz.func24 rfl Tryz.ntmps24 (by kernel_rfl) rfl ?_; simp only [aB, nm, Nat.reduceAdd]
 repeat' (first | refine aa.aD ?_ | refine aa.aY true ?_ | refine aa.dL true ?_ | refine aa.aR ?_ | refine aa.ai ?_ | intro _ | refine aa.au ?_)
 all_goals first | exact ⟨rfl, rfl⟩ | omega
def bZ (p : Nat) : Nat := (8 - p % 8) % 8
theorem jZ (s : List UInt8) (p : Nat) (h : p ≤ 8 * s.length) : p + bZ p ≤ 8 * s.length := by unfold bZ; omega
def kI (s : List UInt8) (p : Nat) : Bool := nB ((aC s p).take (bZ p)) == 0
theorem Ay (s : List UInt8) (p : Nat) (hs : s.length < 1000000000000000) (hp : p ≤ 8 * s.length) : ACalls (cxg gl) 62 [.ptr 0 0] [Rd s p] (fun r H => r = DY (if kI s p then ((bZ p : Nat), 0) else (0, 5)) ∧ H = [Rd s ((if kI s p then p + bZ p else p : Nat) : Int)]) := by
 have hle := jZ s p hp
 have pk := Bx (gl := gl) s p (bZ p) hs hp (by unfold bZ; omega)
 unfold pkN at pk
 rw [if_neg (by omega)] at pk
 have hn : ((bZ p : Nat) : Int) = (8 - (p : Int) % 8) % 8 := by unfold bZ; omega
 unfold kI
 generalize nB ((aC s p).take (bZ p)) = V at *
 rw [hn] at pk
 by_cases hv : V = 0
 ·subst hv
  simp only [beq_self_eq_true, if_true]
  refine ACalls.enter Tryz.func62 rfl Tryz.ntmps62 (by kernel_rfl) rfl ?_; simp only [aB, nm, Nat.reduceAdd]
  repeat' (first | refine aa.aD ?_ | refine aa.aY true ?_ | (refine aa.ae [0] ( pk) ?_; simp only [ny, nh, Nat.reduceAdd, Nat.reduceSub]) | refine aa.ai ?_ | (refine aa.az ?_; simp only [nm, nz, Nat.reduceAdd]) | refine aa.aU ?_ | intro _ | refine aa.au ?_)
  all_goals first | exact ⟨rfl, rfl⟩ | exact ⟨by first | (rw [hn]; done) | (rw [hn]; rfl), by first | (rw [Int.natCast_add, hn]; done) | (rw [Int.natCast_add, hn]; rfl)⟩ | omega
 ·have hb : (V == 0) = false := by simpa using hv
  simp only [hb, Bool.false_eq_true, if_false]
  refine ACalls.enter Tryz.func62 rfl Tryz.ntmps62 (by kernel_rfl) rfl ?_; simp only [aB, nm, Nat.reduceAdd]
  repeat' (first | refine aa.aD ?_ | refine aa.aY true ?_ | (refine aa.ae [0] ( pk) ?_; simp only [ny, nh, Nat.reduceAdd, Nat.reduceSub]) | refine aa.ai ?_ | (refine aa.az ?_; simp only [nm, nz, Nat.reduceAdd]) | refine aa.aU ?_ | intro _ | refine aa.au ?_)
  all_goals first | exact ⟨rfl, rfl⟩ | omega
def atB (s : List UInt8) (p : Nat) : Int × Int := if 8 * s.length < p + 22 then (0, 2) else if nB ((aC s p).take 22) / 32 = 1 then (nB ((aC s p).take 22) % 32, 0) else (0, 4)
theorem JM (v : Int) (h : 0 ≤ v) : ((v.toNat &&& (31 : Int).toNat : Nat) : Int) = v % 32 := by
 obtain ⟨n, rfl⟩ := Int.eq_ofNat_of_zero_le h
 rw [Int.toNat_natCast, show (31 : Int).toNat = 2 ^ 5 - 1 from rfl, Nat.and_two_pow_sub_one_eq_mod]
 omega
theorem BK (s : List UInt8) (p : Nat) (hs : s.length < 1000000000000000) (hp : p ≤ 8 * s.length) : ACalls (cxg gl) 109 [S s, I p] [] (fun r H => r = DY (atB s p) ∧ H = []) := by
 have nw := BD (gl := gl) s
 have sk := fM (gl := gl) s 0 p hs ⟨by omega, by omega⟩
 have tk := iP (gl := gl) s p 22 hs hp (by omega)
 unfold atB
 unfold pkN tkN at tk
 by_cases h : 8 * s.length < p + 22
 ·rw [if_pos h]
  rw [if_pos h, if_pos h] at tk
  refine ACalls.enter Tryz.func109 rfl Tryz.ntmps109 (by kernel_rfl) rfl ?_; simp only [aB, nm, Nat.reduceAdd]
  repeat' (first | refine aa.aD ?_ | refine aa.aY true ?_ | (refine aa.ae [] ( nw) ?_; simp only [ny, nh, Nat.reduceAdd, Nat.reduceSub]) | (refine aa.ae [0] ( sk) ?_; simp only [ny, nh, Nat.reduceAdd, Nat.reduceSub]) | (refine aa.ae [0] ( tk) ?_; simp only [ny, nh, Nat.reduceAdd, Nat.reduceSub]) | refine aa.av ?_ | refine aa.ai ?_ | refine aa.aU ?_ | refine aa.cB ?_ | intro _ | refine aa.au ?_)
  all_goals first | exact ⟨rfl, rfl⟩ | omega
 ·rw [if_neg h]
  rw [if_neg h, if_neg h] at tk
  obtain ⟨v0, v1⟩ := mO 22 _ (take_len s p 22 (by omega)) (jD s p 22)
  have ha := JM _ v0
  generalize nB ((aC s p).take 22) = V at *
  have e5 : V / 2 ^ 5 = V / 32 := rfl
  by_cases hv : V / 32 = 1
  ·rw [if_pos hv]
   rw [← ha]
   refine ACalls.enter Tryz.func109 rfl Tryz.ntmps109 (by kernel_rfl) rfl ?_; simp only [aB, nm, Nat.reduceAdd]
   repeat' (first | refine aa.aD ?_ | refine aa.aY true ?_ | (refine aa.ae [] ( nw) ?_; simp only [ny, nh, Nat.reduceAdd, Nat.reduceSub]) | (refine aa.ae [0] ( sk) ?_; simp only [ny, nh, Nat.reduceAdd, Nat.reduceSub]) | (refine aa.ae [0] ( tk) ?_; simp only [ny, nh, Nat.reduceAdd, Nat.reduceSub]) | refine aa.av ?_ | refine aa.ai ?_ | refine aa.aU ?_ | refine aa.cB ?_ | intro _ | refine aa.au ?_)
   all_goals first | exact ⟨rfl, rfl⟩ | omega
  ·rw [if_neg hv]
   refine ACalls.enter Tryz.func109 rfl Tryz.ntmps109 (by kernel_rfl) rfl ?_; simp only [aB, nm, Nat.reduceAdd]
   repeat' (first | refine aa.aD ?_ | refine aa.aY true ?_ | (refine aa.ae [] ( nw) ?_; simp only [ny, nh, Nat.reduceAdd, Nat.reduceSub]) | (refine aa.ae [0] ( sk) ?_; simp only [ny, nh, Nat.reduceAdd, Nat.reduceSub]) | (refine aa.ae [0] ( tk) ?_; simp only [ny, nh, Nat.reduceAdd, Nat.reduceSub]) | refine aa.av ?_ | refine aa.ai ?_ | refine aa.aU ?_ | refine aa.cB ?_ | intro _ | refine aa.au ?_)
   all_goals first | exact ⟨rfl, rfl⟩ | omega
def zer : List Int → Nat
 | [] => 0
 | b :: r => if b = 0 then zer r + 1 else 0
theorem D6 : ∀ l : List Int, zer l ≤ l.length
 | [] => by simp [zer]
 | b :: r => by
  have := D6 r
  unfold zer
  split <;> simp <;> omega
def nxB (s : List UInt8) (p : Nat) : Int × Bool := if kI s p then ((atB s (p + bZ p)).1, (atB s (p + bZ p)).2 == 0) else (0, false)
theorem Ls (s : List UInt8) (p : Nat) : 0 ≤ (atB s p).1 ∧ (atB s p).1 ≤ 31 ∧ ((atB s p).2 ≠ 0 → (atB s p).1 = 0) := by
 unfold atB
 split
 ·simp
 ·split
  ·simp; omega
  ·simp
theorem BI (s : List UInt8) (p : Nat) (hs : s.length < 1000000000000000) (hp : p ≤ 8 * s.length) : ACalls (cxg gl) 127 [S s, I p] [] (fun r H => r = .bW [I (nxB s p).1, B (nxB s p).2] ∧ H = []) := by
 have nw := BD (gl := gl) s
 have sk := fM (gl := gl) s 0 p hs ⟨by omega, by omega⟩
 have fl := Ay (gl := gl) s p hs hp
 have hle := jZ s p hp
 have at' := qG (gl := gl) s ((p + bZ p : Nat) : Int)
 have ma := BK (gl := gl) s (p + bZ p) hs hle
 unfold nxB
 generalize kI s p = k at *
 cases k with
 | false =>
  simp only [Bool.false_eq_true, if_false] at fl ⊢
  refine ACalls.enter Tryz.func127 rfl Tryz.ntmps127 (by kernel_rfl) rfl ?_; simp only [aB, nm, Nat.reduceAdd]
  repeat' (first | refine aa.aD ?_ | refine aa.aY true ?_ | (refine aa.ae [] ( nw) ?_; simp only [ny, nh, Nat.reduceAdd, Nat.reduceSub]) | (refine aa.ae [0] ( sk) ?_; simp only [ny, nh, Nat.reduceAdd, Nat.reduceSub]) | (refine aa.ae [0] ( fl) ?_; simp only [ny, nh, Nat.reduceAdd, Nat.reduceSub]) | refine aa.av ?_ | refine aa.ai ?_ | intro _ | refine aa.au ?_)
  all_goals first | exact ⟨rfl, rfl⟩ | omega
 | true =>
  simp only [if_true] at fl ⊢
  generalize atB s (p + bZ p) = m at *
  obtain ⟨v, e⟩ := m
  simp only at ma ⊢
  have he : (e == (0 : Int)) = decide (e = 0) := by by_cases h : e = 0 <;> simp [h]
  rw [he]
  refine ACalls.enter Tryz.func127 rfl Tryz.ntmps127 (by kernel_rfl) rfl ?_; simp only [aB, nm, Nat.reduceAdd]
  repeat' (first | refine aa.aD ?_ | refine aa.aY true ?_ | (refine aa.ae [] ( nw) ?_; simp only [ny, nh, Nat.reduceAdd, Nat.reduceSub]) | (refine aa.ae [0] ( sk) ?_; simp only [ny, nh, Nat.reduceAdd, Nat.reduceSub]) | (refine aa.ae [0] ( fl) ?_; simp only [ny, nh, Nat.reduceAdd, Nat.reduceSub]) | (refine aa.ae [0] ( at') ?_; simp only [ny, nh, Nat.reduceAdd, Nat.reduceSub]) | refine aa.ak (ma) ?_ | refine aa.av ?_ | refine aa.ai ?_ | intro _ | refine aa.au ?_)
  all_goals first | exact ⟨rfl, rfl⟩ | omega
theorem Fq (s : List UInt8) (p : Nat) (hs : s.length < 1000000000000000) (hp : p ≤ 8 * s.length) : ACalls (cxg gl) 107 [S s, I p] [] (fun r H => r = I (zer (aC s p)) ∧ H = []) := by
 have nw := BD (gl := gl) s
 have sk := fM (gl := gl) s 0 p hs ⟨by omega, by omega⟩
 refine ACalls.enter Tryz.func107 rfl Tryz.ntmps107 (by kernel_rfl) rfl ?_; simp only [aB, nm, Nat.reduceAdd]
 repeat (first | refine aa.aD ?_ | refine aa.aY true ?_ | (refine aa.ae [] ( nw) ?_; simp only [ny, nh, Nat.reduceAdd, Nat.reduceSub]) | (refine aa.ae [0] ( sk) ?_; simp only [ny, nh, Nat.reduceAdd, Nat.reduceSub]) | refine aa.av ?_ | refine aa.ai ?_ | refine aa.aj ?_ | refine aa.fw ?_ | refine aa.aA ?_)
 refine aa.weak (env' := [(6, I ((0 : Nat) : Int)), (5, .ptr 0 0)]) ⟨rfl, rfl, trivial⟩ ?_
 refine aa.loop (fun m env H => ∃ i : Nat, m = 8 * s.length - (p + i) ∧ p + i ≤ 8 * s.length ∧ zer (aC s p) = i + zer (aC s (p + i)) ∧ env = [(6, I (i : Int)), (5, .ptr 0 0)] ∧ H = [Rd s ((p + i : Nat) : Int)]) (8 * s.length - p)
  ⟨0, rfl, by omega, by simp, rfl, rfl⟩ ?_
 rintro m env H ⟨i, rfl, hi, hz, rfl, rfl⟩
 have tk := iP (gl := gl) s (p + i) 1 hs hi (by omega)
 unfold pkN tkN at tk
 rcases Nat.lt_or_ge (p + i) (8 * s.length) with hlt | hge
 ·rw [if_neg (by omega), if_neg (by omega)] at tk
  have hb := gG s (p + i)
  rw [ik s (p + i) hlt] at tk hz hb
  have h01 := hb _ List.mem_cons_self
  have e1 : ∀ b : Int, nB (List.take 1 (b :: aC s (p + i + 1))) = b := fun b => by simp [nB]
  rw [e1] at tk
  generalize dS s ((p + i : Nat) : Int) = b at *
  rcases h01 with rfl | rfl
  ·have hz' : zer (aC s p) = (i + 1) + zer (aC s (p + (i + 1))) := by
    have e0 : zer (0 :: aC s (p + i + 1)) = zer (aC s (p + i + 1)) + 1 := by rw [zer, if_pos rfl]
    rw [show p + (i + 1) = p + i + 1 from rfl]; omega
   repeat' (first | refine aa.aD ?_ | refine aa.aY true ?_ | (refine aa.ae [0] ( tk) ?_; simp only [ny, nh, Nat.reduceAdd, Nat.reduceSub]) | refine aa.av ?_ | refine aa.ai ?_ | refine aa.aj ?_ | refine aa.fw ?_ | refine aa.aA ?_ | intro _ | refine aa.aQ ?_)
   all_goals first
    | exact aa.round [(6, I ((i + 1 : Nat) : Int)), (5, .ptr 0 0)] (8 * s.length - (p + (i + 1))) (by omega) ⟨rfl, rfl, trivial⟩ ⟨i + 1, rfl, by omega, hz', rfl, rfl⟩
    | omega
  ·have hz' : zer (aC s p) = i := by
    have e0 : zer (1 :: aC s (p + i + 1)) = 0 := by rw [zer, if_neg (by decide)]
    omega
   rw [hz']
   repeat' (first | refine aa.aD ?_ | refine aa.aY true ?_ | (refine aa.ae [0] ( tk) ?_; simp only [ny, nh, Nat.reduceAdd, Nat.reduceSub]) | refine aa.av ?_ | refine aa.ai ?_ | refine aa.aj ?_ | refine aa.fw ?_ | refine aa.aA ?_ | intro _ | refine aa.aQ ?_)
   all_goals first | exact ⟨rfl, rfl⟩ | omega
 ·rw [if_pos (by omega), if_pos (by omega)] at tk
  have hz' : zer (aC s p) = i := by rw [hz, kr s (p + i) hge, zer]; omega
  rw [hz']
  repeat' (first | refine aa.aD ?_ | refine aa.aY true ?_ | (refine aa.ae [0] ( tk) ?_; simp only [ny, nh, Nat.reduceAdd, Nat.reduceSub]) | refine aa.av ?_ | refine aa.ai ?_ | refine aa.aj ?_ | refine aa.fw ?_ | refine aa.aA ?_ | intro _ | refine aa.aQ ?_)
  all_goals first | exact ⟨rfl, rfl⟩ | omega
end Mk
namespace Mk
open Go Bt
theorem Gg (l : List Int) : ∀ a : Int, l.foldl (fun a b => 2 * a + b) a = a * 2 ^ l.length + nB l := by
 induction l with
 | nil => intro a; simp [nB]
 | cons b l ih =>
  intro a
  have h0 : nB (b :: l) = b * 2 ^ l.length + nB l := by
   show List.foldl _ (2 * 0 + b) l = _
   rw [ih]; simp
  rw [h0, List.foldl_cons, ih, List.length_cons, Int.pow_succ, Int.add_mul, Int.mul_comm 2 a, Int.mul_assoc, Int.mul_comm 2 (2 ^ l.length)]
  omega
theorem wQ (a b : List Int) : nB (a ++ b) = nB a * 2 ^ b.length + nB b := by
 have := Gg b (nB a)
 rw [← this]
 simp [nB, List.foldl_append]
theorem Fp : ∀ (n : Nat) (a b : List Int), a.length = n → b.length = n → (∀ x ∈ a, x = 0 ∨ x = 1) → (∀ x ∈ b, x = 0 ∨ x = 1) → nB a = nB b → a = b
 | 0, a, b, ha, hb, _, _, _ => by rw [List.eq_nil_of_length_eq_zero ha, List.eq_nil_of_length_eq_zero hb]
 | n + 1, a, b, ha, hb, h1, h2, h => by
  have na : a ≠ [] := fun e => by rw [e] at ha; simp at ha
  have nb : b ≠ [] := fun e => by rw [e] at hb; simp at hb
  have ea := (List.dropLast_concat_getLast na).symm
  have eb := (List.dropLast_concat_getLast nb).symm
  have la := h1 _ (List.getLast_mem na)
  have lb := h2 _ (List.getLast_mem nb)
  rw [ea, eb, lg, lg] at h
  have := Fp n a.dropLast b.dropLast (by rw [List.length_dropLast]; omega) (by rw [List.length_dropLast]; omega) (fun x hx => h1 x (List.dropLast_subset _ hx)) (fun x hx => h2 x (List.dropLast_subset _ hx)) (by omega)
  rw [ea, eb, this]
  congr 2
  rw [this] at h
  omega
theorem tZ (l : List Int) (h : ∀ x ∈ l, x = 0 ∨ x = 1) : gX (l.map bJ) = nB l := by
 have : ∀ (l : List Int) (a : Int), (∀ x ∈ l, x = 0 ∨ x = 1) → (l.map bJ).foldl (fun n c => 2 * n + ((c.toNat : Int) - 48)) a = l.foldl (fun a b => 2 * a + b) a := by
  intro l
  induction l with
  | nil => intro a _; rfl
  | cons b l ih =>
   intro a hl
   rw [List.map_cons, List.foldl_cons, List.foldl_cons, ih _ fun x hx => hl x (List.mem_cons_of_mem _ hx)]
   congr 2
   rcases hl b List.mem_cons_self with rfl | rfl <;> rfl
 exact this l 0 h
def cz : List UInt8 := [48, 48, 48, 48, 48, 48, 48, 48, 48, 48, 48, 48, 48, 48, 48, 48, 49]
end Mk
namespace Mk
open Go Bt
attribute [local irreducible] aa ACalls
variable {gl : List (Nat × List D)}
attribute [local irreducible] iY aC gX bJ
end Mk
namespace Mk
open Go Bt
attribute [local irreducible] aa ACalls
variable {gl : List (Nat × List D)}
def rhT (s : List UInt8) (p : Nat) (k : Int) : Int × Int × Int × Nat :=
 if (nxB s p).2 then
  if (nxB s p).1 = k then
   if 8 * s.length < p + bZ p + 22 + 7 then (0, 0, 2, p + bZ p + 22)
   else (nB ((aC s (p + bZ p + 22)).take 7) / 32, nB ((aC s (p + bZ p + 22)).take 7) % 32, if nB ((aC s (p + bZ p + 22)).take 7) % 32 = 0 then 9 else 0, p + bZ p + 22 + 7)
  else (0, 0, 10, p)
 else (0, 0, 4, p)
theorem Ab (s : List UInt8) (p : Nat) (h : (nxB s p).2 = true) : kI s p = true ∧ p + bZ p + 22 ≤ 8 * s.length := by
 unfold nxB at h
 cases hk : kI s p with
 | false => rw [hk] at h; simp at h
 | true =>
  rw [hk] at h
  simp only [if_true, beq_iff_eq] at h
  refine ⟨rfl, ?_⟩
  unfold atB at h
  split at h
  ·cases h
  ·omega
attribute [local irreducible] nxB kI
theorem LR (s : List UInt8) (p : Nat) (k : Int) (hk : -9223372036854775808 ≤ k ∧ k ≤ 9223372036854775807) (hs : s.length < 1000000000000000) (hp : p ≤ 8 * s.length) : ACalls (cxg gl) 144 [.ptr 0 0, I k] [Rd s p] (fun r H => r = .bW [I (rhT s p k).1, I (rhT s p k).2.1, I (rhT s p k).2.2.1] ∧ H = [Rd s ((rhT s p k).2.2.2 : Int)]) := by
 have tx := zF (gl := gl) s p
 have a0 := qG (gl := gl) s p
 have nx := BI (gl := gl) s p hs hp
 have fl := Ay (gl := gl) s p hs hp
 have ok := Ab s p
 unfold rhT
 generalize nxB s p = X at *
 obtain ⟨n, b⟩ := X
 simp only at nx ok ⊢
 cases b with
 | false =>
  simp only [Bool.false_eq_true, if_false]
  refine ACalls.enter Tryz.func144 rfl Tryz.ntmps144 (by kernel_rfl) rfl ?_; simp only [aB, nm, Nat.reduceAdd]
  repeat' (first | refine aa.aD ?_ | refine aa.aY true ?_ | (refine aa.ae [0] ( tx) ?_; simp only [ny, nh, Nat.reduceAdd, Nat.reduceSub]) | (refine aa.ae [0] ( a0) ?_; simp only [ny, nh, Nat.reduceAdd, Nat.reduceSub]) | refine aa.ak (nx) ?_ | refine aa.ah ?_ | refine aa.af ?_ | refine aa.av ?_ | refine aa.ai ?_ | refine aa.aj ?_ | refine aa.bh ?_ | refine aa.aU ?_ | refine aa.cB ?_ | refine aa.aA ?_ | intro _ | refine aa.au ?_)
  all_goals first | exact ⟨rfl, rfl⟩ | omega
 | true =>
  obtain ⟨o1, o2⟩ := ok rfl
  rw [o1] at fl
  simp only [if_true] at fl ⊢
  by_cases hn : n = k
  ·rw [if_pos hn]
   have t22 := iP (gl := gl) s (p + bZ p) 22 hs (by omega) (by omega)
   have t7 := iP (gl := gl) s (p + bZ p + 22) 7 hs (by omega) (by omega)
   unfold pkN tkN at t22 t7
   rw [if_neg (by omega), if_neg (by omega)] at t22
   generalize p + bZ p = q at *
   by_cases h7 : 8 * s.length < q + 22 + 7
   ·rw [if_pos h7, if_pos h7] at t7
    rw [if_pos h7]
    refine ACalls.enter Tryz.func144 rfl Tryz.ntmps144 (by kernel_rfl) rfl ?_; simp only [aB, nm, Nat.reduceAdd]
    repeat' (first | refine aa.aD ?_ | refine aa.aY true ?_ | (refine aa.ae [0] ( tx) ?_; simp only [ny, nh, Nat.reduceAdd, Nat.reduceSub]) | (refine aa.ae [0] ( a0) ?_; simp only [ny, nh, Nat.reduceAdd, Nat.reduceSub]) | (refine aa.ae [0] ( fl) ?_; simp only [ny, nh, Nat.reduceAdd, Nat.reduceSub]) | (refine aa.ae [0] ( t22) ?_; simp only [ny, nh, Nat.reduceAdd, Nat.reduceSub]) | (refine aa.ae [0] ( t7) ?_; simp only [ny, nh, Nat.reduceAdd, Nat.reduceSub]) | refine aa.ak (nx) ?_ | refine aa.ah ?_ | refine aa.af ?_ | refine aa.av ?_ | refine aa.ai ?_ | refine aa.aj ?_ | refine aa.bh ?_ | refine aa.aU ?_ | refine aa.cB ?_ | refine aa.aA ?_ | intro _ | refine aa.au ?_)
    all_goals first | exact ⟨rfl, rfl⟩ | omega
   ·rw [if_neg h7, if_neg h7] at t7
    rw [if_neg h7]
    obtain ⟨v0, v1⟩ := mO 7 _ (take_len s (q + 22) 7 (by omega)) (jD s (q + 22) 7)
    have ha := JM _ v0
    generalize nB ((aC s (q + 22)).take 7) = V at *
    rw [← ha]
    by_cases hv : ((V.toNat &&& (31 : Int).toNat : Nat) : Int) = 0
    ·rw [if_pos hv]
     refine ACalls.enter Tryz.func144 rfl Tryz.ntmps144 (by kernel_rfl) rfl ?_; simp only [aB, nm, Nat.reduceAdd]
     repeat' (first | refine aa.aD ?_ | refine aa.aY true ?_ | (refine aa.ae [0] ( tx) ?_; simp only [ny, nh, Nat.reduceAdd, Nat.reduceSub]) | (refine aa.ae [0] ( a0) ?_; simp only [ny, nh, Nat.reduceAdd, Nat.reduceSub]) | (refine aa.ae [0] ( fl) ?_; simp only [ny, nh, Nat.reduceAdd, Nat.reduceSub]) | (refine aa.ae [0] ( t22) ?_; simp only [ny, nh, Nat.reduceAdd, Nat.reduceSub]) | (refine aa.ae [0] ( t7) ?_; simp only [ny, nh, Nat.reduceAdd, Nat.reduceSub]) | refine aa.ak (nx) ?_ | refine aa.ah ?_ | refine aa.af ?_ | refine aa.av ?_ | refine aa.ai ?_ | refine aa.aj ?_ | refine aa.bh ?_ | refine aa.aU ?_ | refine aa.cB ?_ | refine aa.aA ?_ | intro _ | refine aa.au ?_)
     all_goals first | exact ⟨rfl, rfl⟩ | omega
    ·rw [if_neg hv]
     refine ACalls.enter Tryz.func144 rfl Tryz.ntmps144 (by kernel_rfl) rfl ?_; simp only [aB, nm, Nat.reduceAdd]
     repeat' (first | refine aa.aD ?_ | refine aa.aY true ?_ | (refine aa.ae [0] ( tx) ?_; simp only [ny, nh, Nat.reduceAdd, Nat.reduceSub]) | (refine aa.ae [0] ( a0) ?_; simp only [ny, nh, Nat.reduceAdd, Nat.reduceSub]) | (refine aa.ae [0] ( fl) ?_; simp only [ny, nh, Nat.reduceAdd, Nat.reduceSub]) | (refine aa.ae [0] ( t22) ?_; simp only [ny, nh, Nat.reduceAdd, Nat.reduceSub]) | (refine aa.ae [0] ( t7) ?_; simp only [ny, nh, Nat.reduceAdd, Nat.reduceSub]) | refine aa.ak (nx) ?_ | refine aa.ah ?_ | refine aa.af ?_ | refine aa.av ?_ | refine aa.ai ?_ | refine aa.aj ?_ | refine aa.bh ?_ | refine aa.aU ?_ | refine aa.cB ?_ | refine aa.aA ?_ | intro _ | refine aa.au ?_)
     all_goals first | exact ⟨rfl, rfl⟩ | omega
  ·rw [if_neg hn]
   refine ACalls.enter Tryz.func144 rfl Tryz.ntmps144 (by kernel_rfl) rfl ?_; simp only [aB, nm, Nat.reduceAdd]
   repeat' (first | refine aa.aD ?_ | refine aa.aY true ?_ | (refine aa.ae [0] ( tx) ?_; simp only [ny, nh, Nat.reduceAdd, Nat.reduceSub]) | (refine aa.ae [0] ( a0) ?_; simp only [ny, nh, Nat.reduceAdd, Nat.reduceSub]) | refine aa.ak (nx) ?_ | refine aa.ah ?_ | refine aa.af ?_ | refine aa.av ?_ | refine aa.ai ?_ | refine aa.aj ?_ | refine aa.bh ?_ | refine aa.aU ?_ | refine aa.cB ?_ | refine aa.aA ?_ | intro _ | refine aa.au ?_)
   all_goals first | exact ⟨rfl, rfl⟩ | omega
end Mk
namespace Mk
open Go Bt
attribute [local irreducible] aa ACalls
variable {gl : List (Nat × List D)}
theorem ET (s : List UInt8) (p : Nat) (k : Int) (hp : p ≤ 8 * s.length) : (rhT s p k).2.2.2 ≤ 8 * s.length ∧ p ≤ (rhT s p k).2.2.2 := by
 unfold rhT
 split
 ·rename_i h
  have := (Ab s p h).2
  split
  ·split <;> simp <;> omega
  ·simp; omega
 ·simp; omega
def rhX (s : List UInt8) (p : Nat) (k : Int) : Int × Int × Int × Nat := if (rhT s p k).2.2.1 = 0 then rhT s p k else (0, 0, (rhT s p k).2.2.1, p)
attribute [local irreducible] rhT
theorem ER (s : List UInt8) (p : Nat) (k : Int) (hk : -9223372036854775808 ≤ k ∧ k ≤ 9223372036854775807) (hs : s.length < 1000000000000000) (hp : p ≤ 8 * s.length) : ACalls (cxg gl) 128 [.ptr 0 0, I k] [Rd s p] (fun r H => r = .bW [I (rhX s p k).1, I (rhX s p k).2.1, I (rhX s p k).2.2.1] ∧ H = [Rd s ((rhX s p k).2.2.2 : Int)]) := by
 have a0 := qG (gl := gl) s p
 have tk := LR (gl := gl) s p k hk hs hp
 have hle := ET s p k hp
 unfold rhX
 generalize rhT s p k = T at *
 obtain ⟨i, q, e, u⟩ := T
 simp only at tk hle ⊢
 have sk := fM (gl := gl) s u p hs ⟨by omega, by omega⟩
 by_cases he : e = 0
 ·subst he
  simp only [if_true]
  refine ACalls.enter Tryz.func128 rfl Tryz.ntmps128 (by kernel_rfl) rfl ?_; simp only [aB, nm, Nat.reduceAdd]
  repeat' (first | refine aa.aD ?_ | refine aa.aY true ?_ | (refine aa.ae [0] ( a0) ?_; simp only [ny, nh, Nat.reduceAdd, Nat.reduceSub]) | (refine aa.ae [0] ( tk) ?_; simp only [ny, nh, Nat.reduceAdd, Nat.reduceSub]) | refine aa.ai ?_ | refine aa.aU ?_ | intro _ | refine aa.au ?_)
  all_goals first | exact ⟨rfl, rfl⟩ | omega
 ·rw [if_neg he]
  refine ACalls.enter Tryz.func128 rfl Tryz.ntmps128 (by kernel_rfl) rfl ?_; simp only [aB, nm, Nat.reduceAdd]
  repeat' (first | refine aa.aD ?_ | refine aa.aY true ?_ | (refine aa.ae [0] ( a0) ?_; simp only [ny, nh, Nat.reduceAdd, Nat.reduceSub]) | (refine aa.ae [0] ( tk) ?_; simp only [ny, nh, Nat.reduceAdd, Nat.reduceSub]) | (refine aa.ae [0] ( sk) ?_; simp only [ny, nh, Nat.reduceAdd, Nat.reduceSub]) | refine aa.ai ?_ | refine aa.aU ?_ | intro _ | refine aa.au ?_)
  all_goals first | exact ⟨rfl, rfl⟩ | omega
end Mk
namespace Mk
open Go Bt
attribute [local irreducible] aa ACalls
variable {gl : List (Nat × List D)}
theorem AU (s : List UInt8) (p n : Nat) : (aC s p).drop n = aC s (p + n) := by
 apply List.ext_getElem?
 intro j
 rw [List.getElem?_drop]
 unfold aC
 simp only [List.getElem?_map]
 by_cases hj : n + j < 8 * s.length - p
 ·rw [List.getElem?_range hj, List.getElem?_range (by omega)]
  simp only [Option.map_some]
  congr 2; omega
 ·rw [List.getElem?_eq_none (by simpa using hj), List.getElem?_eq_none (by simp; omega)]; rfl
attribute [local irreducible] iY aC nxB kI
end Mk
namespace Mk
open Go Bt
attribute [local irreducible] aa ACalls
variable {gl : List (Nat × List D)}
def mkM (s : List UInt8) (p : Nat) : Int × Nat :=
 if p % 8 = 0 then (if (atB s p).2 = 0 then (if (atB s p).1 = 0 then (0, p + 22) else (4, p)) else ((atB s p).2, p)) else (4, p)
theorem AX (s : List UInt8) (p : Nat) (h : (atB s p).2 = 0) : p + 22 ≤ 8 * s.length := by
 unfold atB at h
 split at h
 ·cases h
 ·omega
attribute [local irreducible] atB
theorem KC (s : List UInt8) (p : Nat) (hs : s.length < 1000000000000000) (hp : p ≤ 8 * s.length) : ACalls (cxg gl) 97 [.ptr 0 0] [Rd s p] (fun r H => r = I (mkM s p).1 ∧ H = [Rd s ((mkM s p).2 : Int)]) := by
 have tx := zF (gl := gl) s p
 have a0 := qG (gl := gl) s p
 have ma := BK (gl := gl) s p hs hp
 have ok := AX s p
 have t22 := iP (gl := gl) s p 22 hs hp (by omega)
 unfold pkN tkN at t22
 unfold mkM
 generalize atB s p = A at *
 obtain ⟨v, e⟩ := A
 simp only at ma ok ⊢
 by_cases h8 : p % 8 = 0
 ·rw [if_pos h8]
  have h8' : (p : Int) % 8 = 0 := by omega
  by_cases he : e = 0
  ·subst he
   have o := ok rfl
   rw [if_neg (by omega), if_neg (by omega)] at t22
   simp only [if_true]
   by_cases hv : v = 0
   ·subst hv
    simp only [if_true]
    refine ACalls.enter Tryz.func97 rfl Tryz.ntmps97 (by kernel_rfl) rfl ?_; simp only [aB, nm, Nat.reduceAdd]
    repeat' (first | refine aa.aD ?_ | refine aa.aY true ?_ | (refine aa.ae [0] ( a0) ?_; simp only [ny, nh, Nat.reduceAdd, Nat.reduceSub]) | (refine aa.ae [0] ( tx) ?_; simp only [ny, nh, Nat.reduceAdd, Nat.reduceSub]) | (refine aa.ae [0] ( t22) ?_; simp only [ny, nh, Nat.reduceAdd, Nat.reduceSub]) | refine aa.ak (ma) ?_ | refine aa.ah ?_ | refine aa.af ?_ | refine aa.ai ?_ | refine aa.aj ?_ | refine aa.bh ?_ | refine aa.aU ?_ | refine aa.cB ?_ | refine aa.aA ?_ | intro _ | (apply aa.jr; rfl) | refine aa.au ?_)
    all_goals first | exact ⟨rfl, rfl⟩ | omega | (exfalso; rename_i hx; simp_all; done)
   ·rw [if_neg hv]
    refine ACalls.enter Tryz.func97 rfl Tryz.ntmps97 (by kernel_rfl) rfl ?_; simp only [aB, nm, Nat.reduceAdd]
    repeat' (first | refine aa.aD ?_ | refine aa.aY true ?_ | (refine aa.ae [0] ( a0) ?_; simp only [ny, nh, Nat.reduceAdd, Nat.reduceSub]) | (refine aa.ae [0] ( tx) ?_; simp only [ny, nh, Nat.reduceAdd, Nat.reduceSub]) | (refine aa.ae [0] ( t22) ?_; simp only [ny, nh, Nat.reduceAdd, Nat.reduceSub]) | refine aa.ak (ma) ?_ | refine aa.ah ?_ | refine aa.af ?_ | refine aa.ai ?_ | refine aa.aj ?_ | refine aa.bh ?_ | refine aa.aU ?_ | refine aa.cB ?_ | refine aa.aA ?_ | intro _ | (apply aa.jr; rfl) | refine aa.au ?_)
    all_goals first | exact ⟨rfl, rfl⟩ | omega | (exfalso; rename_i hx; simp_all; done)
  ·rw [if_neg he]
   refine ACalls.enter Tryz.func97 rfl Tryz.ntmps97 (by kernel_rfl) rfl ?_; simp only [aB, nm, Nat.reduceAdd]
   repeat' (first | refine aa.aD ?_ | refine aa.aY true ?_ | (refine aa.ae [0] ( a0) ?_; simp only [ny, nh, Nat.reduceAdd, Nat.reduceSub]) | (refine aa.ae [0] ( tx) ?_; simp only [ny, nh, Nat.reduceAdd, Nat.reduceSub]) | (refine aa.ae [0] ( t22) ?_; simp only [ny, nh, Nat.reduceAdd, Nat.reduceSub]) | refine aa.ak (ma) ?_ | refine aa.ah ?_ | refine aa.af ?_ | refine aa.ai ?_ | refine aa.aj ?_ | refine aa.bh ?_ | refine aa.aU ?_ | refine aa.cB ?_ | refine aa.aA ?_ | intro _ | (apply aa.jr; rfl) | refine aa.au ?_)
   all_goals first | exact ⟨rfl, rfl⟩ | omega | (exfalso; rename_i hx; simp_all; done)
 ·rw [if_neg h8]
  have h8' : (p : Int) % 8 ≠ 0 := by omega
  refine ACalls.enter Tryz.func97 rfl Tryz.ntmps97 (by kernel_rfl) rfl ?_; simp only [aB, nm, Nat.reduceAdd]
  repeat' (first | refine aa.aD ?_ | refine aa.aY true ?_ | (refine aa.ae [0] ( a0) ?_; simp only [ny, nh, Nat.reduceAdd, Nat.reduceSub]) | refine aa.ah ?_ | refine aa.af ?_ | refine aa.ai ?_ | refine aa.aj ?_ | refine aa.bh ?_ | refine aa.aU ?_ | refine aa.cB ?_ | refine aa.aA ?_ | intro _ | (apply aa.jr; rfl) | refine aa.au ?_)
  all_goals first | exact ⟨rfl, rfl⟩ | omega | (exfalso; rename_i hx; simp_all; done)
end Mk
end Go.Proofs.YtbfojhfiemcnpaaGreatDoor.Av
