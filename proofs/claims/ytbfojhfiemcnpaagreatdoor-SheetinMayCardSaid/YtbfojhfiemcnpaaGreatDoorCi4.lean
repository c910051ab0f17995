/- Cells are read: cellin's blocks. -/
import Derived.Test.YtbfojhfiemcnpaaGreatDoorPq5
set_option linter.unusedVariables false
set_option linter.unusedSimpArgs false
set_option maxRecDepth 100000
set_option maxHeartbeats 64000000
namespace Go.Proofs.YtbfojhfiemcnpaaGreatDoor.Av
namespace Ci
open Go Bt Tc Co Bl
attribute [local irreducible] aa ACalls bq aL cz aG
variable {gl : List (Nat × List D)}
abbrev evA (l : List Ev) : AV := .d (.sl 3 (bg l))
def dcA : Nat → List (Int × List Ev) → List AV
 | 0, _ => []
 | n + 1, [] => I 0 :: dcA n []
 | n + 1, x :: r => I x.1 :: dcA n r
def AP : Nat → List (Int × List Ev) → List AV
 | 0, _ => []
 | n + 1, [] => .d .aU :: AP n []
 | n + 1, x :: r => evA x.2 :: AP n r
def yl (st k sp mx my : Int) (L : List (Int × List Ev)) : List AV := [I st, B false, I k, I sp, I mx, I my] ++ (dcA 6 L ++ AP 6 L)
theorem eO (v : Int) (h : 0 ≤ v ∧ v ≤ 63) (n : Nat) : (0 ≤ v / 2 ^ n ∧ v / 2 ^ n ≤ 9223372036854775807) ∧ (0 : Int) ≤ 1 ∧ (1 : Int) ≤ 9223372036854775807 := by
 have hp : (0 : Int) < 2 ^ n := Int.pow_pos (by decide)
 have h1 := Int.ediv_le_self (2 ^ n) h.1
 have h0 : 0 ≤ v / 2 ^ n := Int.ediv_nonneg h.1 (by omega)
 omega
theorem tG (v : Int) (h : 0 ≤ v) (i : Nat) (j : Int) (hj : (5 - j).toNat = 5 - i) : aZ v i = decide ((((v / 2 ^ (5 - j).toNat).toNat &&& (1 : Int).toNat : Nat) : Int) = 1) := by
 have hp : (0 : Int) < 2 ^ (5 - i) := Int.pow_pos (by decide)
 have h0 : 0 ≤ v / 2 ^ (5 - i) := Int.ediv_nonneg h (by omega)
 unfold aZ
 rw [hj, show (1 : Int).toNat = 1 from rfl, Nat.and_one_is_mod]
 rw [decide_eq_decide]
 omega
theorem JE {b c : Bool} {B : List Int} (h : (blX b c B).2.2.1 ≠ 0) : (blX b c B).1 = 0 ∧ (blX b c B).2.1 = [] ∧ (blX b c B).2.2.2 = 0 := by
 unfold blX at h ⊢
 by_cases h0 : (dc0 b B).2.1 ≠ 0
 ·rw [if_pos h0]; exact ⟨rfl, rfl, rfl⟩
 ·rw [if_neg h0] at h ⊢
  cases c with
  | false => simp at h
  | true =>
   simp only [if_true] at h ⊢
   by_cases h1 : (dK 66 (B.drop (dc0 b B).2.2) (frm b : Nat)).2.1 ≠ 0
   ·rw [if_pos h1]; exact ⟨rfl, rfl, rfl⟩
   ·rw [if_neg h1] at h; exact absurd rfl h
theorem oU {b c : Bool} {cs : List Bool} {s : List UInt8} {p q : Nat} (h : (blX b c (ai s (p + q))).2.2.1 = 0) :
  bdX b (c :: cs) (ai s p) q = (((blX b c (ai s (p + q))).1, (blX b c (ai s (p + q))).2.1) :: (bdX b cs (ai s p) (q + (blX b c (ai s (p + q))).2.2.2)).1, (bdX b cs (ai s p) (q + (blX b c (ai s (p + q))).2.2.2)).2) := by
 rw [bdX, bW, if_neg (by simpa using h)]
def bdA (L : List (Int × List Ev)) (y : List (Int × List Ev) × Int × Nat) : List (Int × List Ev) × Int × Nat := (L ++ y.1, y.2)
theorem l4 {b c : Bool} {cs : List Bool} {s : List UInt8} {p q : Nat} (h : (blX b c (ai s (p + q))).2.2.1 ≠ 0) : bdX b (c :: cs) (ai s p) q = ([], (blX b c (ai s (p + q))).2.2.1, q) := by
 rw [bdX, bW, if_pos h]
theorem rS (m : Nat) : ∀ (a b : List AV), AV.cg m (a ++ b) = (AV.cg m a && AV.cg m b)
 | [], b => by simp [AV.cg]
 | x :: r, b => by rw [List.cons_append, AV.cg, AV.cg, rS m r b, Bool.and_assoc]
theorem uT (m : Nat) : ∀ (n : Nat) (L : List (Int × List Ev)), AV.cg m (dcA n L) = true
 | 0, _ => rfl
 | n + 1, [] => by rw [dcA, AV.cg, uT m n []]; rfl
 | n + 1, x :: r => by rw [dcA, AV.cg, uT m n r]; rfl
theorem uS (m : Nat) : ∀ (n : Nat) (L : List (Int × List Ev)), AV.cg m (AP n L) = true
 | 0, _ => rfl
 | n + 1, [] => by rw [AP, AV.cg, uS m n []]; rfl
 | n + 1, x :: r => by rw [AP, AV.cg, uS m n r]; rfl
theorem nR (st k sp mx my e : Int) (L : List (Int × List Ev)) (s : List UInt8) (q : Int) : dI 3 ([Rr 2 e, .cells (yl st k sp mx my L), Rd s q].take 3) = true := by
 have h : AV.cg 3 (yl st k sp mx my L) = true := by
  unfold yl
  rw [rS, rS, uT, uS]; rfl
 show (aF.bnd 3 (Rr 2 e) && (AV.cg 3 (yl st k sp mx my L) && (aF.bnd 3 (Rd s q) && true))) = true
 rw [h]; rfl
attribute [local irreducible] blX ai Tc.bg aZ
theorem Gg (st k sp mx my v : Int) (s : List UInt8) (p : Nat) (hs : s.length ≤ 1000000) (hp : p ≤ 8 * s.length) (hv : 0 ≤ v ∧ v ≤ 63) :
  ACalls (cxg gB) 147 [.ptr 0 0, .ptr 1 0, I v] [Rr 2 0, .cells (Iy st k sp mx my), Rd s p]
  (fun r H => r = .bG [] ∧ H = [Rr 2 (bdX (aH k) (cds v) (ai s p) 0).2.1, .cells (yl st k sp mx my (if (bdX (aH k) (cds v) (ai s p) 0).2.1 = 0 then (bdX (aH k) (cds v) (ai s p) 0).1 else (bdX (aH k) (cds v) (ai s p) 0).1 ++ [(0, [])])), Rd s ((p + (bdX (aH k) (cds v) (ai s p) 0).2.2 : Nat) : Int)]) := by
 have ic := wT (gl := gB) k
 have e00 : bg [] = [] := by unfold Tc.bg; rfl
 have bl := fun c q hq => JD s q (aH k) c hs hq
 have ble := fun c q hq => Ew (aH k) c s q hq
 have blu := fun c q => @JE (aH k) c (ai s q)
 have w0 := tG v hv.1 0 0 (by decide)
 have w1 := tG v hv.1 1 1 (by decide)
 have w2 := tG v hv.1 2 2 (by decide)
 have w3 := tG v hv.1 3 3 (by decide)
 have w4 := tG v hv.1 4 4 (by decide)
 have w5 := tG v hv.1 5 5 (by decide)
 unfold cds
 generalize aH k = b at *
 generalize hY : bdX b [aZ v 0, aZ v 1, aZ v 2, aZ v 3, aZ v 4, aZ v 5] (ai s p) 0 = Y at *
 have hY0 : bdA [] (bdX b [aZ v 0, aZ v 1, aZ v 2, aZ v 3, aZ v 4, aZ v 5] (ai s p) 0) = Y := by rw [hY]; rfl
 clear hY
 refine ACalls.enter Tryz.func147 rfl Tryz.ntmps147 (by kernel_rfl) rfl ?_; simp only [au, nm, Nat.reduceAdd]
 repeat (first | (apply aa.st; rfl) | (apply aa.q true; rfl; rfl; rfl; rfl; first | exact True.intro | omega | (simp only [tn, Int.reduceToNat]; omega)) | (apply aa.af; rfl; first | omega | rfl) | (apply aa.ae; rfl; omega) | (apply aa.ak; rfl) | (apply aa.store; (iterate 9 rfl); exact Nat.le_of_ble_eq_true rfl; simp only [nm, nz, Nat.reduceAdd]) | (apply aa.cBT; rfl; first | (simp only [bT]; omega)))
 refine aa.weak (env' := [(7, I 0), (2, I v), (1, .ptr 1 0), (0, .ptr 0 0)]) ⟨rfl, rfl, rfl, rfl, trivial⟩ ?_
 refine aa.loop (fun m env H => ∃ (i : Nat) (j e : Int) (q : Nat) (L : List (Int × List Ev)), j = i ∧ m = 7 - i ∧ i ≤ 6 ∧ p + q ≤ 8 * s.length ∧
  ((e = 0 ∧ L.length = i ∧ bdA L (bdX b ([aZ v 0, aZ v 1, aZ v 2, aZ v 3, aZ v 4, aZ v 5].drop i) (ai s p) q) = Y) ∨ (e ≠ 0 ∧ ∃ L', L = L' ++ [(0, [])] ∧ Y = (L', e, q))) ∧
  env = [(7, I j), (2, I v), (1, .ptr 1 0), (0, .ptr 0 0)] ∧ H = [Rr 2 e, .cells (yl st k sp mx my L), Rd s ((p + q : Nat) : Int)]) 7
  ⟨0, 0, 0, 0, [], rfl, rfl, by omega, by omega, .inl ⟨rfl, rfl, hY0⟩, rfl, rfl⟩ ?_
 rintro m env H ⟨i, j, e, q, L, hj, rfl, hi, hq, hc, rfl, rfl⟩
 rcases hc with ⟨rfl, hL, hY⟩ | ⟨he, L', rfl, rfl⟩
 ·rcases (show i = 0 ∨ i = 1 ∨ i = 2 ∨ i = 3 ∨ i = 4 ∨ i = 5 ∨ i = 6 by omega) with rfl | rfl | rfl | rfl | rfl | rfl | rfl
  ·obtain rfl : j = 0 := hj
   match L, hL with
   | [], _ =>
    have bb := bl (aZ v 0) (p + q) hq
    have gg := ble (aZ v 0) (p + q) hq
    have zz := blu (aZ v 0) (p + q)
    have oo := @oU b (aZ v 0) ([aZ v 0, aZ v 1, aZ v 2, aZ v 3, aZ v 4, aZ v 5].drop 1) s p q
    have xx := @l4 b (aZ v 0) ([aZ v 0, aZ v 1, aZ v 2, aZ v 3, aZ v 4, aZ v 5].drop 1) s p q
    rw [show [aZ v 0, aZ v 1, aZ v 2, aZ v 3, aZ v 4, aZ v 5].drop 0 = aZ v 0 :: [aZ v 0, aZ v 1, aZ v 2, aZ v 3, aZ v 4, aZ v 5].drop 1 from rfl] at hY
    generalize blX b (aZ v 0) (ai s (p + q)) = y at *
    obtain ⟨d, l, er, u⟩ := y
    simp only at bb gg zz oo xx
    rw [w0] at bb
    by_cases h : er = 0
    ·subst h
     rw [oo rfl] at hY
     rw [Nat.add_assoc] at bb
     repeat' (first | (apply aa.st; rfl) | (apply aa.dF [0, 1, 2, 3, 4, 5, 6, 7, 8, 9, 10, 11, 12, 13, 14, 15, 16, 17, 18, 19, 20, 21, 22, 23, 24, 25, 26, 27, 28, 29, 30, 31, 32, 33, 34, 35, 36] 37; rfl) | (apply aG.fin; kernel_rfl) | (apply aG.go) | (apply aG.pure true; rfl; exact fun _ _ _ h => h; (iterate 6 rfl); kernel_rfl; kernel_rfl; first | exact True.intro | omega | (simp only [IntKind.bits]; omega) | (exact eO v hv _)) | (apply aG.one; rfl; rfl; kernel_rfl) | (apply aG.two; rfl; rfl; rfl; kernel_rfl) | (exact aa.dR) | (apply aa.ba; (repeat' (first | exact aN.nil | (apply aN.cons; rfl))); rfl) | (apply aa.q true; rfl; rfl; rfl; rfl; first | exact True.intro | omega | (simp only [tn, Int.reduceToNat]; omega) | (simp only [IntKind.bits]; omega) | (exact eO v hv _)) | (apply aa.ah [2] ( bb); (iterate 6 rfl); decide; rfl; rfl; simp only [ny, nh, Nat.reduceAdd, Nat.reduceSub]) | (apply aa.aA (ic); (iterate 6 rfl)) | (apply aa.af; rfl; first | omega | rfl) | (apply aa.ae; rfl; omega) | (apply aa.ak; rfl) | (apply aa.store; (iterate 9 rfl); exact Nat.le_of_ble_eq_true rfl; simp only [nm, nz, Nat.reduceAdd]) | (apply aa.cBT; rfl; first | (simp only [bT]; omega)) | intro _ | (apply aa.dw ; rfl) | (apply aa.bf; rfl; rfl; rfl; rfl) | (apply aa.aP; rfl; rfl))
     all_goals first
      | exact aa.round [(7, I 1), (2, I v), (1, .ptr 1 0), (0, .ptr 0 0)] (7 - 1) (by omega) ⟨rfl, rfl, rfl, rfl, trivial⟩ ⟨1, 1, 0, q + u, [(d, l)], rfl, rfl, by omega, by omega, .inl ⟨rfl, rfl, by rw [← hY]; rfl⟩, rfl, rfl⟩
      | omega
    ·obtain ⟨rfl, rfl, rfl⟩ := zz h
     rw [xx h] at hY
     rw [Nat.add_zero] at bb
     repeat' (first | (apply aa.st; rfl) | (apply aa.dF [0, 1, 2, 3, 4, 5, 6, 7, 8, 9, 10, 11, 12, 13, 14, 15, 16, 17, 18, 19, 20, 21, 22, 23, 24, 25, 26, 27, 28, 29, 30, 31, 32, 33, 34, 35, 36] 37; rfl) | (apply aG.fin; kernel_rfl) | (apply aG.go) | (apply aG.pure true; rfl; exact fun _ _ _ h => h; (iterate 6 rfl); kernel_rfl; kernel_rfl; first | exact True.intro | omega | (simp only [IntKind.bits]; omega) | (exact eO v hv _)) | (apply aG.one; rfl; rfl; kernel_rfl) | (apply aG.two; rfl; rfl; rfl; kernel_rfl) | (exact aa.dR) | (apply aa.ba; (repeat' (first | exact aN.nil | (apply aN.cons; rfl))); rfl) | (apply aa.q true; rfl; rfl; rfl; rfl; first | exact True.intro | omega | (simp only [tn, Int.reduceToNat]; omega) | (simp only [IntKind.bits]; omega) | (exact eO v hv _)) | (apply aa.ah [2] ( bb); (iterate 6 rfl); decide; rfl; rfl; simp only [ny, nh, Nat.reduceAdd, Nat.reduceSub]) | (apply aa.aA (ic); (iterate 6 rfl)) | (apply aa.af; rfl; first | omega | rfl) | (apply aa.ae; rfl; omega) | (apply aa.ak; rfl) | (apply aa.store; (iterate 9 rfl); exact Nat.le_of_ble_eq_true rfl; simp only [nm, nz, Nat.reduceAdd]) | (apply aa.cBT; rfl; first | (simp only [bT]; omega)) | intro _ | (apply aa.dw ; rfl) | (apply aa.bf; rfl; rfl; rfl; rfl) | (apply aa.aP; rfl; rfl))
     all_goals first
      | exact aa.round [(7, I 1), (2, I v), (1, .ptr 1 0), (0, .ptr 0 0)] (7 - 1) (by omega) ⟨rfl, rfl, rfl, rfl, trivial⟩ ⟨1, 1, er, q, [] ++ [(0, [])], rfl, rfl, by omega, hq, .inr ⟨h, [], rfl, by rw [← hY]; rfl⟩, rfl, rfl⟩
      | omega
  ·obtain rfl : j = 1 := hj
   match L, hL with
   | [t0], _ =>
    have bb := bl (aZ v 1) (p + q) hq
    have gg := ble (aZ v 1) (p + q) hq
    have zz := blu (aZ v 1) (p + q)
    have oo := @oU b (aZ v 1) ([aZ v 0, aZ v 1, aZ v 2, aZ v 3, aZ v 4, aZ v 5].drop 2) s p q
    have xx := @l4 b (aZ v 1) ([aZ v 0, aZ v 1, aZ v 2, aZ v 3, aZ v 4, aZ v 5].drop 2) s p q
    rw [show [aZ v 0, aZ v 1, aZ v 2, aZ v 3, aZ v 4, aZ v 5].drop 1 = aZ v 1 :: [aZ v 0, aZ v 1, aZ v 2, aZ v 3, aZ v 4, aZ v 5].drop 2 from rfl] at hY
    generalize blX b (aZ v 1) (ai s (p + q)) = y at *
    obtain ⟨d, l, er, u⟩ := y
    simp only at bb gg zz oo xx
    rw [w1] at bb
    by_cases h : er = 0
    ·subst h
     rw [oo rfl] at hY
     rw [Nat.add_assoc] at bb
     repeat' (first | (apply aa.st; rfl) | (apply aa.dF [0, 1, 2, 3, 4, 5, 6, 7, 8, 9, 10, 11, 12, 13, 14, 15, 16, 17, 18, 19, 20, 21, 22, 23, 24, 25, 26, 27, 28, 29, 30, 31, 32, 33, 34, 35, 36] 37; rfl) | (apply aG.fin; kernel_rfl) | (apply aG.go) | (apply aG.pure true; rfl; exact fun _ _ _ h => h; (iterate 6 rfl); kernel_rfl; kernel_rfl; first | exact True.intro | omega | (simp only [IntKind.bits]; omega) | (exact eO v hv _)) | (apply aG.one; rfl; rfl; kernel_rfl) | (apply aG.two; rfl; rfl; rfl; kernel_rfl) | (exact aa.dR) | (apply aa.ba; (repeat' (first | exact aN.nil | (apply aN.cons; rfl))); rfl) | (apply aa.q true; rfl; rfl; rfl; rfl; first | exact True.intro | omega | (simp only [tn, Int.reduceToNat]; omega) | (simp only [IntKind.bits]; omega) | (exact eO v hv _)) | (apply aa.ah [2] ( bb); (iterate 6 rfl); decide; rfl; rfl; simp only [ny, nh, Nat.reduceAdd, Nat.reduceSub]) | (apply aa.aA (ic); (iterate 6 rfl)) | (apply aa.af; rfl; first | omega | rfl) | (apply aa.ae; rfl; omega) | (apply aa.ak; rfl) | (apply aa.store; (iterate 9 rfl); exact Nat.le_of_ble_eq_true rfl; simp only [nm, nz, Nat.reduceAdd]) | (apply aa.cBT; rfl; first | (simp only [bT]; omega)) | intro _ | (apply aa.dw ; rfl) | (apply aa.bf; rfl; rfl; rfl; rfl) | (apply aa.aP; rfl; rfl))
     all_goals first
      | exact aa.round [(7, I 2), (2, I v), (1, .ptr 1 0), (0, .ptr 0 0)] (7 - 2) (by omega) ⟨rfl, rfl, rfl, rfl, trivial⟩ ⟨2, 2, 0, q + u, [t0, (d, l)], rfl, rfl, by omega, by omega, .inl ⟨rfl, rfl, by rw [← hY]; rfl⟩, rfl, rfl⟩
      | omega
    ·obtain ⟨rfl, rfl, rfl⟩ := zz h
     rw [xx h] at hY
     rw [Nat.add_zero] at bb
     repeat' (first | (apply aa.st; rfl) | (apply aa.dF [0, 1, 2, 3, 4, 5, 6, 7, 8, 9, 10, 11, 12, 13, 14, 15, 16, 17, 18, 19, 20, 21, 22, 23, 24, 25, 26, 27, 28, 29, 30, 31, 32, 33, 34, 35, 36] 37; rfl) | (apply aG.fin; kernel_rfl) | (apply aG.go) | (apply aG.pure true; rfl; exact fun _ _ _ h => h; (iterate 6 rfl); kernel_rfl; kernel_rfl; first | exact True.intro | omega | (simp only [IntKind.bits]; omega) | (exact eO v hv _)) | (apply aG.one; rfl; rfl; kernel_rfl) | (apply aG.two; rfl; rfl; rfl; kernel_rfl) | (exact aa.dR) | (apply aa.ba; (repeat' (first | exact aN.nil | (apply aN.cons; rfl))); rfl) | (apply aa.q true; rfl; rfl; rfl; rfl; first | exact True.intro | omega | (simp only [tn, Int.reduceToNat]; omega) | (simp only [IntKind.bits]; omega) | (exact eO v hv _)) | (apply aa.ah [2] ( bb); (iterate 6 rfl); decide; rfl; rfl; simp only [ny, nh, Nat.reduceAdd, Nat.reduceSub]) | (apply aa.aA (ic); (iterate 6 rfl)) | (apply aa.af; rfl; first | omega | rfl) | (apply aa.ae; rfl; omega) | (apply aa.ak; rfl) | (apply aa.store; (iterate 9 rfl); exact Nat.le_of_ble_eq_true rfl; simp only [nm, nz, Nat.reduceAdd]) | (apply aa.cBT; rfl; first | (simp only [bT]; omega)) | intro _ | (apply aa.dw ; rfl) | (apply aa.bf; rfl; rfl; rfl; rfl) | (apply aa.aP; rfl; rfl))
     all_goals first
      | exact aa.round [(7, I 2), (2, I v), (1, .ptr 1 0), (0, .ptr 0 0)] (7 - 2) (by omega) ⟨rfl, rfl, rfl, rfl, trivial⟩ ⟨2, 2, er, q, [t0] ++ [(0, [])], rfl, rfl, by omega, hq, .inr ⟨h, [t0], rfl, by rw [← hY]; rfl⟩, rfl, rfl⟩
      | omega
  ·obtain rfl : j = 2 := hj
   match L, hL with
   | [t0, t1], _ =>
    have bb := bl (aZ v 2) (p + q) hq
    have gg := ble (aZ v 2) (p + q) hq
    have zz := blu (aZ v 2) (p + q)
    have oo := @oU b (aZ v 2) ([aZ v 0, aZ v 1, aZ v 2, aZ v 3, aZ v 4, aZ v 5].drop 3) s p q
    have xx := @l4 b (aZ v 2) ([aZ v 0, aZ v 1, aZ v 2, aZ v 3, aZ v 4, aZ v 5].drop 3) s p q
    rw [show [aZ v 0, aZ v 1, aZ v 2, aZ v 3, aZ v 4, aZ v 5].drop 2 = aZ v 2 :: [aZ v 0, aZ v 1, aZ v 2, aZ v 3, aZ v 4, aZ v 5].drop 3 from rfl] at hY
    generalize blX b (aZ v 2) (ai s (p + q)) = y at *
    obtain ⟨d, l, er, u⟩ := y
    simp only at bb gg zz oo xx
    rw [w2] at bb
    by_cases h : er = 0
    ·subst h
     rw [oo rfl] at hY
     rw [Nat.add_assoc] at bb
     repeat' (first | (apply aa.st; rfl) | (apply aa.dF [0, 1, 2, 3, 4, 5, 6, 7, 8, 9, 10, 11, 12, 13, 14, 15, 16, 17, 18, 19, 20, 21, 22, 23, 24, 25, 26, 27, 28, 29, 30, 31, 32, 33, 34, 35, 36] 37; rfl) | (apply aG.fin; kernel_rfl) | (apply aG.go) | (apply aG.pure true; rfl; exact fun _ _ _ h => h; (iterate 6 rfl); kernel_rfl; kernel_rfl; first | exact True.intro | omega | (simp only [IntKind.bits]; omega) | (exact eO v hv _)) | (apply aG.one; rfl; rfl; kernel_rfl) | (apply aG.two; rfl; rfl; rfl; kernel_rfl) | (exact aa.dR) | (apply aa.ba; (repeat' (first | exact aN.nil | (apply aN.cons; rfl))); rfl) | (apply aa.q true; rfl; rfl; rfl; rfl; first | exact True.intro | omega | (simp only [tn, Int.reduceToNat]; omega) | (simp only [IntKind.bits]; omega) | (exact eO v hv _)) | (apply aa.ah [2] ( bb); (iterate 6 rfl); decide; rfl; rfl; simp only [ny, nh, Nat.reduceAdd, Nat.reduceSub]) | (apply aa.aA (ic); (iterate 6 rfl)) | (apply aa.af; rfl; first | omega | rfl) | (apply aa.ae; rfl; omega) | (apply aa.ak; rfl) | (apply aa.store; (iterate 9 rfl); exact Nat.le_of_ble_eq_true rfl; simp only [nm, nz, Nat.reduceAdd]) | (apply aa.cBT; rfl; first | (simp only [bT]; omega)) | intro _ | (apply aa.dw ; rfl) | (apply aa.bf; rfl; rfl; rfl; rfl) | (apply aa.aP; rfl; rfl))
     all_goals first
      | exact aa.round [(7, I 3), (2, I v), (1, .ptr 1 0), (0, .ptr 0 0)] (7 - 3) (by omega) ⟨rfl, rfl, rfl, rfl, trivial⟩ ⟨3, 3, 0, q + u, [t0, t1, (d, l)], rfl, rfl, by omega, by omega, .inl ⟨rfl, rfl, by rw [← hY]; rfl⟩, rfl, rfl⟩
      | omega
    ·obtain ⟨rfl, rfl, rfl⟩ := zz h
     rw [xx h] at hY
     rw [Nat.add_zero] at bb
     repeat' (first | (apply aa.st; rfl) | (apply aa.dF [0, 1, 2, 3, 4, 5, 6, 7, 8, 9, 10, 11, 12, 13, 14, 15, 16, 17, 18, 19, 20, 21, 22, 23, 24, 25, 26, 27, 28, 29, 30, 31, 32, 33, 34, 35, 36] 37; rfl) | (apply aG.fin; kernel_rfl) | (apply aG.go) | (apply aG.pure true; rfl; exact fun _ _ _ h => h; (iterate 6 rfl); kernel_rfl; kernel_rfl; first | exact True.intro | omega | (simp only [IntKind.bits]; omega) | (exact eO v hv _)) | (apply aG.one; rfl; rfl; kernel_rfl) | (apply aG.two; rfl; rfl; rfl; kernel_rfl) | (exact aa.dR) | (apply aa.ba; (repeat' (first | exact aN.nil | (apply aN.cons; rfl))); rfl) | (apply aa.q true; rfl; rfl; rfl; rfl; first | exact True.intro | omega | (simp only [tn, Int.reduceToNat]; omega) | (simp only [IntKind.bits]; omega) | (exact eO v hv _)) | (apply aa.ah [2] ( bb); (iterate 6 rfl); decide; rfl; rfl; simp only [ny, nh, Nat.reduceAdd, Nat.reduceSub]) | (apply aa.aA (ic); (iterate 6 rfl)) | (apply aa.af; rfl; first | omega | rfl) | (apply aa.ae; rfl; omega) | (apply aa.ak; rfl) | (apply aa.store; (iterate 9 rfl); exact Nat.le_of_ble_eq_true rfl; simp only [nm, nz, Nat.reduceAdd]) | (apply aa.cBT; rfl; first | (simp only [bT]; omega)) | intro _ | (apply aa.dw ; rfl) | (apply aa.bf; rfl; rfl; rfl; rfl) | (apply aa.aP; rfl; rfl))
     all_goals first
      | exact aa.round [(7, I 3), (2, I v), (1, .ptr 1 0), (0, .ptr 0 0)] (7 - 3) (by omega) ⟨rfl, rfl, rfl, rfl, trivial⟩ ⟨3, 3, er, q, [t0, t1] ++ [(0, [])], rfl, rfl, by omega, hq, .inr ⟨h, [t0, t1], rfl, by rw [← hY]; rfl⟩, rfl, rfl⟩
      | omega
  ·obtain rfl : j = 3 := hj
   match L, hL with
   | [t0, t1, t2], _ =>
    have bb := bl (aZ v 3) (p + q) hq
    have gg := ble (aZ v 3) (p + q) hq
    have zz := blu (aZ v 3) (p + q)
    have oo := @oU b (aZ v 3) ([aZ v 0, aZ v 1, aZ v 2, aZ v 3, aZ v 4, aZ v 5].drop 4) s p q
    have xx := @l4 b (aZ v 3) ([aZ v 0, aZ v 1, aZ v 2, aZ v 3, aZ v 4, aZ v 5].drop 4) s p q
    rw [show [aZ v 0, aZ v 1, aZ v 2, aZ v 3, aZ v 4, aZ v 5].drop 3 = aZ v 3 :: [aZ v 0, aZ v 1, aZ v 2, aZ v 3, aZ v 4, aZ v 5].drop 4 from rfl] at hY
    generalize blX b (aZ v 3) (ai s (p + q)) = y at *
    obtain ⟨d, l, er, u⟩ := y
    simp only at bb gg zz oo xx
    rw [w3] at bb
    by_cases h : er = 0
    ·subst h
     rw [oo rfl] at hY
     rw [Nat.add_assoc] at bb
     repeat' (first | (apply aa.st; rfl) | (apply aa.dF [0, 1, 2, 3, 4, 5, 6, 7, 8, 9, 10, 11, 12, 13, 14, 15, 16, 17, 18, 19, 20, 21, 22, 23, 24, 25, 26, 27, 28, 29, 30, 31, 32, 33, 34, 35, 36] 37; rfl) | (apply aG.fin; kernel_rfl) | (apply aG.go) | (apply aG.pure true; rfl; exact fun _ _ _ h => h; (iterate 6 rfl); kernel_rfl; kernel_rfl; first | exact True.intro | omega | (simp only [IntKind.bits]; omega) | (exact eO v hv _)) | (apply aG.one; rfl; rfl; kernel_rfl) | (apply aG.two; rfl; rfl; rfl; kernel_rfl) | (exact aa.dR) | (apply aa.ba; (repeat' (first | exact aN.nil | (apply aN.cons; rfl))); rfl) | (apply aa.q true; rfl; rfl; rfl; rfl; first | exact True.intro | omega | (simp only [tn, Int.reduceToNat]; omega) | (simp only [IntKind.bits]; omega) | (exact eO v hv _)) | (apply aa.ah [2] ( bb); (iterate 6 rfl); decide; rfl; rfl; simp only [ny, nh, Nat.reduceAdd, Nat.reduceSub]) | (apply aa.aA (ic); (iterate 6 rfl)) | (apply aa.af; rfl; first | omega | rfl) | (apply aa.ae; rfl; omega) | (apply aa.ak; rfl) | (apply aa.store; (iterate 9 rfl); exact Nat.le_of_ble_eq_true rfl; simp only [nm, nz, Nat.reduceAdd]) | (apply aa.cBT; rfl; first | (simp only [bT]; omega)) | intro _ | (apply aa.dw ; rfl) | (apply aa.bf; rfl; rfl; rfl; rfl) | (apply aa.aP; rfl; rfl))
     all_goals first
      | exact aa.round [(7, I 4), (2, I v), (1, .ptr 1 0), (0, .ptr 0 0)] (7 - 4) (by omega) ⟨rfl, rfl, rfl, rfl, trivial⟩ ⟨4, 4, 0, q + u, [t0, t1, t2, (d, l)], rfl, rfl, by omega, by omega, .inl ⟨rfl, rfl, by rw [← hY]; rfl⟩, rfl, rfl⟩
      | omega
    ·obtain ⟨rfl, rfl, rfl⟩ := zz h
     rw [xx h] at hY
     rw [Nat.add_zero] at bb
     repeat' (first | (apply aa.st; rfl) | (apply aa.dF [0, 1, 2, 3, 4, 5, 6, 7, 8, 9, 10, 11, 12, 13, 14, 15, 16, 17, 18, 19, 20, 21, 22, 23, 24, 25, 26, 27, 28, 29, 30, 31, 32, 33, 34, 35, 36] 37; rfl) | (apply aG.fin; kernel_rfl) | (apply aG.go) | (apply aG.pure true; rfl; exact fun _ _ _ h => h; (iterate 6 rfl); kernel_rfl; kernel_rfl; first | exact True.intro | omega | (simp only [IntKind.bits]; omega) | (exact eO v hv _)) | (apply aG.one; rfl; rfl; kernel_rfl) | (apply aG.two; rfl; rfl; rfl; kernel_rfl) | (exact aa.dR) | (apply aa.ba; (repeat' (first | exact aN.nil | (apply aN.cons; rfl))); rfl) | (apply aa.q true; rfl; rfl; rfl; rfl; first | exact True.intro | omega | (simp only [tn, Int.reduceToNat]; omega) | (simp only [IntKind.bits]; omega) | (exact eO v hv _)) | (apply aa.ah [2] ( bb); (iterate 6 rfl); decide; rfl; rfl; simp only [ny, nh, Nat.reduceAdd, Nat.reduceSub]) | (apply aa.aA (ic); (iterate 6 rfl)) | (apply aa.af; rfl; first | omega | rfl) | (apply aa.ae; rfl; omega) | (apply aa.ak; rfl) | (apply aa.store; (iterate 9 rfl); exact Nat.le_of_ble_eq_true rfl; simp only [nm, nz, Nat.reduceAdd]) | (apply aa.cBT; rfl; first | (simp only [bT]; omega)) | intro _ | (apply aa.dw ; rfl) | (apply aa.bf; rfl; rfl; rfl; rfl) | (apply aa.aP; rfl; rfl))
     all_goals first
      | exact aa.round [(7, I 4), (2, I v), (1, .ptr 1 0), (0, .ptr 0 0)] (7 - 4) (by omega) ⟨rfl, rfl, rfl, rfl, trivial⟩ ⟨4, 4, er, q, [t0, t1, t2] ++ [(0, [])], rfl, rfl, by omega, hq, .inr ⟨h, [t0, t1, t2], rfl, by rw [← hY]; rfl⟩, rfl, rfl⟩
      | omega
  ·obtain rfl : j = 4 := hj
   match L, hL with
   | [t0, t1, t2, t3], _ =>
    have bb := bl (aZ v 4) (p + q) hq
    have gg := ble (aZ v 4) (p + q) hq
    have zz := blu (aZ v 4) (p + q)
    have oo := @oU b (aZ v 4) ([aZ v 0, aZ v 1, aZ v 2, aZ v 3, aZ v 4, aZ v 5].drop 5) s p q
    have xx := @l4 b (aZ v 4) ([aZ v 0, aZ v 1, aZ v 2, aZ v 3, aZ v 4, aZ v 5].drop 5) s p q
    rw [show [aZ v 0, aZ v 1, aZ v 2, aZ v 3, aZ v 4, aZ v 5].drop 4 = aZ v 4 :: [aZ v 0, aZ v 1, aZ v 2, aZ v 3, aZ v 4, aZ v 5].drop 5 from rfl] at hY
    generalize blX b (aZ v 4) (ai s (p + q)) = y at *
    obtain ⟨d, l, er, u⟩ := y
    simp only at bb gg zz oo xx
    rw [w4] at bb
    by_cases h : er = 0
    ·subst h
     rw [oo rfl] at hY
     rw [Nat.add_assoc] at bb
     repeat' (first | (apply aa.st; rfl) | (apply aa.dF [0, 1, 2, 3, 4, 5, 6, 7, 8, 9, 10, 11, 12, 13, 14, 15, 16, 17, 18, 19, 20, 21, 22, 23, 24, 25, 26, 27, 28, 29, 30, 31, 32, 33, 34, 35, 36] 37; rfl) | (apply aG.fin; kernel_rfl) | (apply aG.go) | (apply aG.pure true; rfl; exact fun _ _ _ h => h; (iterate 6 rfl); kernel_rfl; kernel_rfl; first | exact True.intro | omega | (simp only [IntKind.bits]; omega) | (exact eO v hv _)) | (apply aG.one; rfl; rfl; kernel_rfl) | (apply aG.two; rfl; rfl; rfl; kernel_rfl) | (exact aa.dR) | (apply aa.ba; (repeat' (first | exact aN.nil | (apply aN.cons; rfl))); rfl) | (apply aa.q true; rfl; rfl; rfl; rfl; first | exact True.intro | omega | (simp only [tn, Int.reduceToNat]; omega) | (simp only [IntKind.bits]; omega) | (exact eO v hv _)) | (apply aa.ah [2] ( bb); (iterate 6 rfl); decide; rfl; rfl; simp only [ny, nh, Nat.reduceAdd, Nat.reduceSub]) | (apply aa.aA (ic); (iterate 6 rfl)) | (apply aa.af; rfl; first | omega | rfl) | (apply aa.ae; rfl; omega) | (apply aa.ak; rfl) | (apply aa.store; (iterate 9 rfl); exact Nat.le_of_ble_eq_true rfl; simp only [nm, nz, Nat.reduceAdd]) | (apply aa.cBT; rfl; first | (simp only [bT]; omega)) | intro _ | (apply aa.dw ; rfl) | (apply aa.bf; rfl; rfl; rfl; rfl) | (apply aa.aP; rfl; rfl))
     all_goals first
      | exact aa.round [(7, I 5), (2, I v), (1, .ptr 1 0), (0, .ptr 0 0)] (7 - 5) (by omega) ⟨rfl, rfl, rfl, rfl, trivial⟩ ⟨5, 5, 0, q + u, [t0, t1, t2, t3, (d, l)], rfl, rfl, by omega, by omega, .inl ⟨rfl, rfl, by rw [← hY]; rfl⟩, rfl, rfl⟩
      | omega
    ·obtain ⟨rfl, rfl, rfl⟩ := zz h
     rw [xx h] at hY
     rw [Nat.add_zero] at bb
     repeat' (first | (apply aa.st; rfl) | (apply aa.dF [0, 1, 2, 3, 4, 5, 6, 7, 8, 9, 10, 11, 12, 13, 14, 15, 16, 17, 18, 19, 20, 21, 22, 23, 24, 25, 26, 27, 28, 29, 30, 31, 32, 33, 34, 35, 36] 37; rfl) | (apply aG.fin; kernel_rfl) | (apply aG.go) | (apply aG.pure true; rfl; exact fun _ _ _ h => h; (iterate 6 rfl); kernel_rfl; kernel_rfl; first | exact True.intro | omega | (simp only [IntKind.bits]; omega) | (exact eO v hv _)) | (apply aG.one; rfl; rfl; kernel_rfl) | (apply aG.two; rfl; rfl; rfl; kernel_rfl) | (exact aa.dR) | (apply aa.ba; (repeat' (first | exact aN.nil | (apply aN.cons; rfl))); rfl) | (apply aa.q true; rfl; rfl; rfl; rfl; first | exact True.intro | omega | (simp only [tn, Int.reduceToNat]; omega) | (simp only [IntKind.bits]; omega) | (exact eO v hv _)) | (apply aa.ah [2] ( bb); (iterate 6 rfl); decide; rfl; rfl; simp only [ny, nh, Nat.reduceAdd, Nat.reduceSub]) | (apply aa.aA (ic); (iterate 6 rfl)) | (apply aa.af; rfl; first | omega | rfl) | (apply aa.ae; rfl; omega) | (apply aa.ak; rfl) | (apply aa.store; (iterate 9 rfl); exact Nat.le_of_ble_eq_true rfl; simp only [nm, nz, Nat.reduceAdd]) | (apply aa.cBT; rfl; first | (simp only [bT]; omega)) | intro _ | (apply aa.dw ; rfl) | (apply aa.bf; rfl; rfl; rfl; rfl) | (apply aa.aP; rfl; rfl))
     all_goals first
      | exact aa.round [(7, I 5), (2, I v), (1, .ptr 1 0), (0, .ptr 0 0)] (7 - 5) (by omega) ⟨rfl, rfl, rfl, rfl, trivial⟩ ⟨5, 5, er, q, [t0, t1, t2, t3] ++ [(0, [])], rfl, rfl, by omega, hq, .inr ⟨h, [t0, t1, t2, t3], rfl, by rw [← hY]; rfl⟩, rfl, rfl⟩
      | omega
  ·obtain rfl : j = 5 := hj
   match L, hL with
   | [t0, t1, t2, t3, t4], _ =>
    have bb := bl (aZ v 5) (p + q) hq
    have gg := ble (aZ v 5) (p + q) hq
    have zz := blu (aZ v 5) (p + q)
    have oo := @oU b (aZ v 5) ([aZ v 0, aZ v 1, aZ v 2, aZ v 3, aZ v 4, aZ v 5].drop 6) s p q
    have xx := @l4 b (aZ v 5) ([aZ v 0, aZ v 1, aZ v 2, aZ v 3, aZ v 4, aZ v 5].drop 6) s p q
    rw [show [aZ v 0, aZ v 1, aZ v 2, aZ v 3, aZ v 4, aZ v 5].drop 5 = aZ v 5 :: [aZ v 0, aZ v 1, aZ v 2, aZ v 3, aZ v 4, aZ v 5].drop 6 from rfl] at hY
    generalize blX b (aZ v 5) (ai s (p + q)) = y at *
    obtain ⟨d, l, er, u⟩ := y
    simp only at bb gg zz oo xx
    rw [w5] at bb
    by_cases h : er = 0
    ·subst h
     rw [oo rfl] at hY
     rw [Nat.add_assoc] at bb
     repeat' (first | (apply aa.st; rfl) | (apply aa.dF [0, 1, 2, 3, 4, 5, 6, 7, 8, 9, 10, 11, 12, 13, 14, 15, 16, 17, 18, 19, 20, 21, 22, 23, 24, 25, 26, 27, 28, 29, 30, 31, 32, 33, 34, 35, 36] 37; rfl) | (apply aG.fin; kernel_rfl) | (apply aG.go) | (apply aG.pure true; rfl; exact fun _ _ _ h => h; (iterate 6 rfl); kernel_rfl; kernel_rfl; first | exact True.intro | omega | (simp only [IntKind.bits]; omega) | (exact eO v hv _)) | (apply aG.one; rfl; rfl; kernel_rfl) | (apply aG.two; rfl; rfl; rfl; kernel_rfl) | (exact aa.dR) | (apply aa.ba; (repeat' (first | exact aN.nil | (apply aN.cons; rfl))); rfl) | (apply aa.q true; rfl; rfl; rfl; rfl; first | exact True.intro | omega | (simp only [tn, Int.reduceToNat]; omega) | (simp only [IntKind.bits]; omega) | (exact eO v hv _)) | (apply aa.ah [2] ( bb); (iterate 6 rfl); decide; rfl; rfl; simp only [ny, nh, Nat.reduceAdd, Nat.reduceSub]) | (apply aa.aA (ic); (iterate 6 rfl)) | (apply aa.af; rfl; first | omega | rfl) | (apply aa.ae; rfl; omega) | (apply aa.ak; rfl) | (apply aa.store; (iterate 9 rfl); exact Nat.le_of_ble_eq_true rfl; simp only [nm, nz, Nat.reduceAdd]) | (apply aa.cBT; rfl; first | (simp only [bT]; omega)) | intro _ | (apply aa.dw ; rfl) | (apply aa.bf; rfl; rfl; rfl; rfl) | (apply aa.aP; rfl; rfl))
     all_goals first
      | exact aa.round [(7, I 6), (2, I v), (1, .ptr 1 0), (0, .ptr 0 0)] (7 - 6) (by omega) ⟨rfl, rfl, rfl, rfl, trivial⟩ ⟨6, 6, 0, q + u, [t0, t1, t2, t3, t4, (d, l)], rfl, rfl, by omega, by omega, .inl ⟨rfl, rfl, by rw [← hY]; rfl⟩, rfl, rfl⟩
      | omega
    ·obtain ⟨rfl, rfl, rfl⟩ := zz h
     rw [xx h] at hY
     rw [Nat.add_zero] at bb
     repeat' (first | (apply aa.st; rfl) | (apply aa.dF [0, 1, 2, 3, 4, 5, 6, 7, 8, 9, 10, 11, 12, 13, 14, 15, 16, 17, 18, 19, 20, 21, 22, 23, 24, 25, 26, 27, 28, 29, 30, 31, 32, 33, 34, 35, 36] 37; rfl) | (apply aG.fin; kernel_rfl) | (apply aG.go) | (apply aG.pure true; rfl; exact fun _ _ _ h => h; (iterate 6 rfl); kernel_rfl; kernel_rfl; first | exact True.intro | omega | (simp only [IntKind.bits]; omega) | (exact eO v hv _)) | (apply aG.one; rfl; rfl; kernel_rfl) | (apply aG.two; rfl; rfl; rfl; kernel_rfl) | (exact aa.dR) | (apply aa.ba; (repeat' (first | exact aN.nil | (apply aN.cons; rfl))); rfl) | (apply aa.q true; rfl; rfl; rfl; rfl; first | exact True.intro | omega | (simp only [tn, Int.reduceToNat]; omega) | (simp only [IntKind.bits]; omega) | (exact eO v hv _)) | (apply aa.ah [2] ( bb); (iterate 6 rfl); decide; rfl; rfl; simp only [ny, nh, Nat.reduceAdd, Nat.reduceSub]) | (apply aa.aA (ic); (iterate 6 rfl)) | (apply aa.af; rfl; first | omega | rfl) | (apply aa.ae; rfl; omega) | (apply aa.ak; rfl) | (apply aa.store; (iterate 9 rfl); exact Nat.le_of_ble_eq_true rfl; simp only [nm, nz, Nat.reduceAdd]) | (apply aa.cBT; rfl; first | (simp only [bT]; omega)) | intro _ | (apply aa.dw ; rfl) | (apply aa.bf; rfl; rfl; rfl; rfl) | (apply aa.aP; rfl; rfl))
     all_goals first
      | exact aa.round [(7, I 6), (2, I v), (1, .ptr 1 0), (0, .ptr 0 0)] (7 - 6) (by omega) ⟨rfl, rfl, rfl, rfl, trivial⟩ ⟨6, 6, er, q, [t0, t1, t2, t3, t4] ++ [(0, [])], rfl, rfl, by omega, hq, .inr ⟨h, [t0, t1, t2, t3, t4], rfl, by rw [← hY]; rfl⟩, rfl, rfl⟩
      | omega
  ·obtain rfl : j = 6 := hj
   have hY6 : Y = (L, 0, q) := by rw [← hY]; unfold bdA bdX; simp
   rw [hY6]
   simp only [if_true]
   repeat' (first | (apply aa.st; rfl) | (apply aa.q true; rfl; rfl; rfl; rfl; first | exact True.intro | omega | (simp only [tn, Int.reduceToNat]; omega)) | (apply aa.af; rfl; first | omega | rfl) | (apply aa.ae; rfl; omega) | (apply aa.ak; rfl) | (apply aa.store; (iterate 9 rfl); exact Nat.le_of_ble_eq_true rfl; simp only [nm, nz, Nat.reduceAdd]) | (apply aa.cBT; rfl; first | (simp only [bT]; omega)) | ((first | (apply aa.oK; rfl; rfl; rfl; exact nR _ _ _ _ _ _ _ _ _) | (apply aa.bf; rfl; rfl; rfl; exact nR _ _ _ _ _ _ _ _ _))) | intro _ | (apply aa.dw ; rfl) | (apply aa.bf; rfl; rfl; rfl; rfl) | (apply aa.aP; rfl; rfl))
   all_goals first | exact ⟨rfl, rfl⟩ | omega
 ·simp only [if_neg he]
  repeat' (first | (apply aa.st; rfl) | (apply aa.q true; rfl; rfl; rfl; rfl; first | exact True.intro | omega | (simp only [tn, Int.reduceToNat]; omega)) | (apply aa.af; rfl; first | omega | rfl) | (apply aa.ae; rfl; omega) | (apply aa.ak; rfl) | (apply aa.store; (iterate 9 rfl); exact Nat.le_of_ble_eq_true rfl; simp only [nm, nz, Nat.reduceAdd]) | (apply aa.cBT; rfl; first | (simp only [bT]; omega)) | ((first | (apply aa.oK; rfl; rfl; rfl; exact nR _ _ _ _ _ _ _ _ _) | (apply aa.bf; rfl; rfl; rfl; exact nR _ _ _ _ _ _ _ _ _))) | intro _ | (apply aa.dw ; rfl) | (apply aa.bf; rfl; rfl; rfl; rfl) | (apply aa.aP; rfl; rfl))
  all_goals first
   | exact ⟨rfl, rfl⟩
   | omega
end Ci
end Go.Proofs.YtbfojhfiemcnpaaGreatDoor.Av
