/- Contracts that hold over any tables: names; bytes. Contracts: rows of digits (outbits). Rows of texts, as cells. The reference's rows of bits: Row; the digits that Show tells are the reader's bits. The reference's packing of rows: Plain, Number, Pack; what is packed shows the row again. The reference's Pack; what is packed shows the row again. What is packed shows the row again. -/
import Derived.Test.YtbfojhfiemcnpaaGreatDoorCx
import Derived.Test.YtbfojhfiemcnpaaGreatDoorPc
set_option linter.unusedVariables false
set_option linter.unusedSimpArgs false
set_option maxRecDepth 100000
set_option maxHeartbeats 64000000
namespace Go.Proofs.YtbfojhfiemcnpaaGreatDoor.Av
namespace Bt
open Go
attribute [local irreducible] aa ACalls
variable {gl : List (Nat × List D)}
abbrev I (n : Int) : AV := .d (.int .i64 n)
abbrev B (b : Bool) : AV := .d (.bool b)
abbrev S (s : List UInt8) : AV := .d (.str s)
theorem Ep (s : List UInt8) (i : Nat) : 0 ≤ bt s i ∧ bt s i ≤ 255 := by
 have := (s.getD i 0).toNat_lt
 unfold bt; omega
theorem wU (s : List UInt8) (i n : Nat) : 0 ≤ bt s i / 2 ^ n ∧ bt s i / 2 ^ n ≤ 255 := by
 have := Ep s i
 have hp : (0 : Int) < 2 ^ n := Int.pow_pos (by decide)
 exact ⟨Int.ediv_nonneg this.1 (by omega), Int.le_trans (Int.ediv_le_self _ this.1) this.2⟩
def dG (s : List UInt8) (p : Int) : Int := bt s (p / 8).toNat / 2 ^ (7 - p % 8).toNat % 2
theorem kL (s : List UInt8) (p : Int) : 0 ≤ dG s p ∧ dG s p ≤ 1 := by
 unfold dG; omega
end Bt
namespace Bt
open Go
attribute [local irreducible] aa ACalls
variable {gl : List (Nat × List D)}
theorem qY {n : Nat} (h : n ≤ 32) : (2 : Int) ^ n ≤ 4294967296 := by
 have : (2 : Nat) ^ n ≤ 2 ^ 32 := Nat.pow_le_pow_right (by omega) h
 have h2 : ((2 ^ n : Nat) : Int) = (2 : Int) ^ n := by simp
 omega
theorem mX (n : Nat) : (0 : Int) < 2 ^ n := Int.pow_pos (by decide)
theorem DK (v : Int) (n : Nat) (hn : n ≤ 32) (hv : 0 ≤ v ∧ v < 2 ^ n) : ACalls (cxg gl) 94 [I v, I n] [] (fun r H => r = B true ∧ H = []) := by
 have h1 := qY hn
 have h2 := mX n
 refine ACalls.enter Tryz.func94 rfl Tryz.ntmps94 (by kernel_rfl) rfl ?_; simp only [au, nm, Nat.reduceAdd]
 repeat' (first | (apply aa.st; rfl) | (apply aa.q true; rfl; rfl; rfl; rfl; first | exact True.intro | omega | (simp only [tn, Int.reduceToNat]; omega) | (simp only [Int.toNat_natCast]; omega)) | (apply aa.aj; rfl; rfl) | (apply aa.gT; rfl; rfl; rfl; first | omega | rfl) | intro _ | (apply aa.aC; rfl; rfl; rfl; rfl))
 refine ⟨?_, rfl⟩
 rw [Int.toNat_natCast, Int.one_mul, decide_eq_true hv.2]; rfl
def dg (v : Int) : UInt8 := UInt8.ofNat (48 + (v % 2).toNat)
theorem Io (x : Int) (h : 0 ≤ x) : (48 + (((x.toNat &&& Int.toNat 1 : Nat) : Int) % 256)) % 256 = ((dg x).toNat : Int) := by
 have e : Int.toNat 1 = 1 := rfl
 rw [e, Nat.and_one_is_mod]
 have hm : x % 2 = 0 ∨ x % 2 = 1 := by omega
 have hn : x.toNat % 2 = (x % 2).toNat := by omega
 unfold dg
 rw [hn]
 rcases hm with h | h <;> rw [h] <;> rfl
def bv (v : Int) (n k : Nat) : List UInt8 := (List.range k).map fun j => dg (v / 2 ^ (n - 1 - j))
theorem lY (v : Int) (n k : Nat) : bv v n (k + 1) = bv v n k ++ [dg (v / 2 ^ (n - 1 - k))] := by
 simp [bv, List.range_succ]
theorem fq (v : Int) (n k : Nat) : (bv v n k).length = k := by simp [bv]
attribute [local irreducible] dg bv
theorem uq (v : Int) (n : Nat) (hn : n ≤ 32) (hv : 0 ≤ v ∧ v < 2 ^ n) : ACalls (cxg gl) 122 [I v, I n] [] (fun r H => r = .bG [S (bv v n n), I 0] ∧ H = []) := by
 have p1 := qY hn
 refine ACalls.enter Tryz.func122 rfl Tryz.ntmps122 (by kernel_rfl) rfl ?_; simp only [au, nm, Nat.reduceAdd]
 repeat (first | (apply aa.st; rfl) | (apply aa.zi; (iterate 9 rfl); (first | decide | (dsimp only; omega)); simp only [Int.reduceToNat, List.replicate_zero, List.length_nil, List.length_cons, Nat.reduceAdd, List.nil_append, List.cons_append]) | (apply aa.append; (iterate 11 rfl); (first | rfl | (simp only [List.length_append, List.length_map, List.length_cons, List.length_nil]; omega)); ((simp only [List.length_append, List.length_map, List.length_cons, List.length_nil]; omega)); simp only [List.set_cons_zero, List.set_cons_succ]) | (apply aa.Hj; (iterate 12 rfl)) | (apply aa.q true; rfl; rfl; rfl; rfl; first | exact True.intro | omega | (simp only [tn, Int.reduceToNat]; omega)) | (apply aa.aA (DK v n hn hv); (iterate 6 rfl)) | (apply aa.af; rfl; first | omega | rfl) | (apply aa.ae; rfl; omega) | (apply aa.ak; rfl) | (apply aa.buildSlice; (iterate 11 rfl)))
 have e0 : bv v n 0 = [] := by unfold bv; rfl
 refine aa.weak (env' := [(7, I ((n : Int) - 1)), (6, .own 1 [] 0), (0, I v)]) ⟨rfl, rfl, rfl, trivial⟩ ?_
 refine aa.loop (fun m env H => ∃ k : Nat, m = n - k ∧ k ≤ n ∧ env = [(7, I ((n : Int) - 1 - k)), (6, .own 1 (aS (bv v n k)) 0), (0, I v)] ∧ H = [.front 5 1 (aS (bv v n k)).length]) n
  ⟨0, by simp, Nat.zero_le _, by rw [e0]; simp [aS], by rw [e0]; simp [aS]⟩ ?_
 rintro m env H ⟨k, rfl, hk, rfl, rfl⟩
 have hl := fq v n k
 have q0 : ∀ j : Nat, 0 ≤ v / 2 ^ j ∧ v / 2 ^ j ≤ 9223372036854775807 := fun j => by
  have h2 := mX j
  exact ⟨Int.ediv_nonneg hv.1 (by omega), Int.le_trans (Int.ediv_le_self _ hv.1) (by omega)⟩
 rcases Nat.lt_or_ge k n with hlt | hge
 ·repeat (first | (apply aa.st; rfl) | (apply aa.zi; (iterate 9 rfl); (first | decide | (dsimp only; omega) | (exact ⟨q0 _, by decide⟩) | (simp only [IntKind.bits]; omega) | (simp only [fI, hl, List.length_cons, List.length_nil]; omega)); simp only [Int.reduceToNat, List.replicate_zero, List.length_nil, List.length_cons, Nat.reduceAdd, List.nil_append, List.cons_append]) | (apply aa.append; (iterate 11 rfl); (first | rfl | (simp only [List.length_append, List.length_map, List.length_cons, List.length_nil]; omega)); (first | (simp only [List.length_append, List.length_map, List.length_cons, List.length_nil]; omega) | (exact ⟨q0 _, by decide⟩) | (simp only [IntKind.bits]; omega) | (simp only [fI, hl, List.length_cons, List.length_nil]; omega)); simp only [List.set_cons_zero, List.set_cons_succ]) | (apply aa.Hj; (iterate 12 rfl)) | (apply aa.q true; rfl; rfl; rfl; rfl; first | exact True.intro | omega | (simp only [tn, Int.reduceToNat]; omega) | (exact ⟨q0 _, by decide⟩) | (simp only [IntKind.bits]; omega) | (simp only [fI, hl, List.length_cons, List.length_nil]; omega)) | (apply aa.af; rfl; first | omega | rfl) | (apply aa.ae; rfl; omega) | (apply aa.ak; rfl) | (apply aa.buildSlice; (iterate 11 rfl)))
  have ej : ((n : Int) - 1 - k).toNat = n - 1 - k := by omega
  have ed := Io (v / 2 ^ (n - 1 - k)) (q0 _).1
  refine aa.done ⟨[(7, I ((n : Int) - 1 - ((k + 1 : Nat) : Int))), (6, .own 1 (aS (bv v n (k + 1))) 0), (0, I v)], n - (k + 1), by omega, ⟨?_, ?_, rfl, trivial⟩, k + 1, rfl, hlt, rfl, ?_⟩
  ·exact congrArg I (by omega)
  ·show AV.own 1 _ 0 = AV.own 1 _ 0
   rw [lY, iw, ej, ed]; rfl
  ·rw [lY, iw, ej, ed]; rfl
 ·repeat (first | (apply aa.st; rfl) | (apply aa.q true; rfl; rfl; rfl; rfl; first | exact True.intro | omega | (simp only [tn, Int.reduceToNat]; omega)) | (apply aa.af; rfl; first | omega | rfl) | (apply aa.ae; rfl; omega) | (apply aa.ak; rfl) | (apply aa.buildSlice; (iterate 11 rfl)))
  refine aa.out rfl ⟨_, rfl, ?_⟩
  repeat (first | (apply aa.st; rfl) | (apply aa.zi; (iterate 9 rfl); (first | decide | (dsimp only; omega)); simp only [Int.reduceToNat, List.replicate_zero, List.length_nil, List.length_cons, Nat.reduceAdd, List.nil_append, List.cons_append]) | (apply aa.append; (iterate 11 rfl); (first | rfl | (simp only [List.length_append, List.length_map, List.length_cons, List.length_nil]; omega)); ((simp only [List.length_append, List.length_map, List.length_cons, List.length_nil]; omega)); simp only [List.set_cons_zero, List.set_cons_succ]) | (apply aa.Hj; (iterate 12 rfl)) | (apply aa.q true; rfl; rfl; rfl; rfl; first | exact True.intro | omega | (simp only [tn, Int.reduceToNat]; omega)) | (apply aa.af; rfl; first | omega | rfl) | (apply aa.ae; rfl; omega) | (apply aa.ak; rfl) | (apply aa.buildSlice; (iterate 11 rfl)))
  (apply aa.aC; rfl; rfl; rfl; rfl)
  obtain rfl : k = n := by omega
  exact ⟨rfl, rfl⟩
theorem Hw (v n : Int) (hn : 0 ≤ n ∧ n ≤ 32) (hv : 0 ≤ v ∧ v < 2 ^ n.toNat) : ACalls (cxg gl) 122 [I v, I n] [] (fun r H => r = .bG [S (bv v n.toNat n.toNat), I 0] ∧ H = []) := by
 have := uq (gl := gl) v n.toNat (by omega) hv
 rwa [Int.toNat_of_nonneg hn.1] at this
end Bt
namespace Bt
open Go
def gM (rows : List (List UInt8)) : List D := rows.map .str
theorem Ae (rows : List (List UInt8)) (i : Nat) (h : i < rows.length) : ((gM rows).getD i .top).cells[0]? = some (.str (rows.getD i [])) := by
 simp [gM, List.getD, h, D.cells]
theorem Ad (rows : List (List UInt8)) : (gM rows).length = rows.length := by simp [gM]
theorem wQ {α : Type} (l : List α) (i : Nat) (x : α) (h : l[i]? = some x) : l.drop i = x :: l.drop (i + 1) := by
 have hl := av h
 rw [List.drop_eq_getElem_cons hl]
 congr 1
 simpa [hl] using h
end Bt
namespace Bt
open Go
attribute [local irreducible] aa ACalls
variable {gl : List (Nat × List D)}
def bi (x : Int) : UInt8 := UInt8.ofNat (48 + x.toNat)
attribute [local irreducible] dg bv
def ai (s : List UInt8) (p : Nat) : List Int := (List.range (8 * s.length - p)).map fun j => dG s ((p + j : Nat) : Int)
theorem iT (s : List UInt8) (p : Nat) (h : 8 * s.length ≤ p) : ai s p = [] := by
 unfold ai; rw [show 8 * s.length - p = 0 by omega]; rfl
theorem gm (s : List UInt8) (p : Nat) (h : p < 8 * s.length) : ai s p = dG s p :: ai s (p + 1) := by
 unfold ai
 rw [show 8 * s.length - p = (8 * s.length - (p + 1)) + 1 by omega, List.range_succ_eq_map, List.map_cons, List.map_map]
 congr 1
 apply List.map_congr_left
 intro j _
 simp only [Function.comp]
 congr 2
 omega
theorem cL (s : List UInt8) (p : Nat) : (ai s p).length = 8 * s.length - p := by simp [ai]
theorem eD (s : List UInt8) (p : Nat) : ∀ b ∈ ai s p, b = 0 ∨ b = 1 := by
 intro b hb
 obtain ⟨j, _, rfl⟩ := List.mem_map.1 hb
 have := kL s ((p + j : Nat) : Int)
 omega
end Bt
namespace Bt
open Go
attribute [local irreducible] aa ACalls
variable {gl : List (Nat × List D)}
def aX (c : UInt8) : Bool := decide (c = 48) || decide (c = 49)
theorem IA (s : List UInt8) (i : Nat) (c : UInt8) (h : s[i]? = some c) : bt s i = (c.toNat : Int) := by simp [bt, List.getD, h]
theorem mO {c : UInt8} {n : Nat} (hn : n < 256) : ((c.toNat : Int) = (n : Int)) ↔ c = UInt8.ofNat n := by
 constructor
 ·intro h
  have h' : c.toNat = n := by omega
  rw [← h']; simp
 ·rintro rfl
  simp; omega
theorem jC {c : UInt8} (h : aX c = true) : c = 48 ∨ c = 49 := by simpa [aX] using h
def fF (w : List UInt8) : Int := w.foldl (fun n c => 2 * n + ((c.toNat : Int) - 48)) 0
theorem jV (w : List UInt8) (c : UInt8) : fF (w ++ [c]) = 2 * fF w + ((c.toNat : Int) - 48) := by simp [fF]
theorem jQ {α : Type} {P : List α → Prop} (h0 : P []) (h1 : ∀ l x, P l → P (l ++ [x])) : ∀ l, P l := by
 intro l
 rw [← List.reverse_reverse l]
 induction l.reverse with
 | nil => exact h0
 | cons x r ih => rw [List.reverse_cons]; exact h1 _ _ ih
theorem Fp (w : List UInt8) : w.all aX = true → 0 ≤ fF w ∧ fF w < 2 ^ w.length := by
 refine jQ (P := fun w => w.all aX = true → 0 ≤ fF w ∧ fF w < 2 ^ w.length) (fun _ => by simp [fF]) (fun w c ih h => ?_) w
 rw [List.all_append, Bool.and_eq_true] at h
 obtain ⟨i1, i2⟩ := ih h.1
 have hc : c = 48 ∨ c = 49 := jC (by simpa using h.2)
 rw [jV, List.length_append, List.length_singleton, Int.pow_succ]
 rcases hc with rfl | rfl
 ·have e : (((48 : UInt8).toNat : Nat) : Int) = 48 := rfl
  rw [e]; omega
 ·have e : (((49 : UInt8).toNat : Nat) : Int) = 49 := rfl
  rw [e]; omega
end Bt
namespace Bt
open Go
attribute [local irreducible] aa ACalls
variable {gl : List (Nat × List D)}
def bP (n : Nat) : Nat := (8 - n % 8) % 8
def eH (w : List UInt8) : List UInt8 := w ++ List.replicate (bP w.length) 48
theorem lS (n : Nat) : (n + bP n) % 8 = 0 ∧ bP n < 8 := by unfold bP; omega
def Cv (L : List UInt8) (j : Nat) : List UInt8 := (List.range j).map fun t => UInt8.ofNat (fF ((L.drop (8 * t)).take 8)).toNat
def bJ (w : List UInt8) : List UInt8 := Cv (eH w) ((eH w).length / 8)
theorem vQ (w : List UInt8) (h : w.all aX = true) : (eH w).all aX = true := by
 unfold eH
 rw [List.all_append, h, Bool.true_and, List.all_eq_true]
 intro x hx
 rw [List.eq_of_mem_replicate hx]; rfl
theorem li (w : List UInt8) : (eH w).length = w.length + bP w.length := by simp [eH]
attribute [local irreducible] Cv fF
end Bt
namespace Bt
open Go
theorem AY (v : Int) (n : Nat) : bv v (n + 1) (n + 1) = bv (v / 2) n n ++ [dg v] := by
 rw [lY]
 congr 1
 ·unfold bv
  apply List.map_congr_left
  intro j hj
  have hj' : j < n := by simpa using hj
  have e : n + 1 - 1 - j = (n - 1 - j) + 1 := by omega
  rw [e, Int.ediv_ediv_of_nonneg (by decide), Int.pow_succ, Int.mul_comm (2 ^ (n - 1 - j))]
 ·simp
theorem D5 (w : List UInt8) : w.all aX = true → bv (fF w) w.length w.length = w := by
 refine jQ (P := fun w => w.all aX = true → bv (fF w) w.length w.length = w) (fun _ => rfl) (fun w c ih h => ?_) w
 rw [List.all_append, Bool.and_eq_true] at h
 have hc : c = 48 ∨ c = 49 := jC (by simpa using h.2)
 rw [List.length_append, List.length_singleton, AY, jV]
 have e1 : (2 * fF w + ((c.toNat : Int) - 48)) / 2 = fF w := by
  rcases hc with rfl | rfl
  ·have e : (((48 : UInt8).toNat : Nat) : Int) = 48 := rfl
   rw [e]; omega
  ·have e : (((49 : UInt8).toNat : Nat) : Int) = 49 := rfl
   rw [e]; omega
 have e2 : dg (2 * fF w + ((c.toNat : Int) - 48)) = c := by
  unfold dg
  rcases hc with rfl | rfl
  ·have e : (((48 : UInt8).toNat : Nat) : Int) = 48 := rfl
   rw [e, show (2 * fF w + (48 - 48)) % 2 = 0 by omega]; rfl
  ·have e : (((49 : UInt8).toNat : Nat) : Int) = 49 := rfl
   rw [e, show (2 * fF w + (49 - 48)) % 2 = 1 by omega]; rfl
 rw [e1, e2, ih h.1]
def und (c : UInt8) : Int := (c.toNat : Int) - 48
end Bt
end Go.Proofs.YtbfojhfiemcnpaaGreatDoor.Av
