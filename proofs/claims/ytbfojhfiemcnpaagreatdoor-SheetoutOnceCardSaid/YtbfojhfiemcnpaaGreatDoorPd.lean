/- Contracts that hold over any tables: names; bytes. Contracts: rows of digits (outbits). Rows of texts, as cells. The reference's rows of bits: Row; the digits that Show tells are the reader's bits. The reference's packing of rows: Plain, Number, Pack; what is packed shows the row again. The reference's Pack; what is packed shows the row again. What is packed shows the row again. Contracts that hold over any tables: readers of bits. The reference's rows of bits: Show. The reference's rows of a table: begins, Take. The plain law of tables of rows: reading digit by digit. -/
import Derived.Test.YtbfojhfiemcnpaaGreatDoorCx
import Derived.Test.YtbfojhfiemcnpaaGreatDoorPc
set_option linter.unusedVariables false
set_option linter.unusedSimpArgs false
set_option maxRecDepth 100000
set_option maxHeartbeats 64000000
namespace Go.Proofs.YtbfojhfiemcnpaaGreatDoor.Av
namespace Bt
open Go
attribute [local irreducible] aa ACalls
variable {gl : List (Nat × List D)}
abbrev I (n : Int) : AV := .d (.int .i64 n)
abbrev B (b : Bool) : AV := .d (.bool b)
abbrev S (s : List UInt8) : AV := .d (.str s)
theorem G6 (s : List UInt8) (i : Nat) : 0 ≤ bt s i ∧ bt s i ≤ 255 := by
 have := (s.getD i 0).toNat_lt
 unfold bt; omega
theorem zi (s : List UInt8) (i n : Nat) : 0 ≤ bt s i / 2 ^ n ∧ bt s i / 2 ^ n ≤ 255 := by
 have := G6 s i
 have hp : (0 : Int) < 2 ^ n := Int.pow_pos (by decide)
 exact ⟨Int.ediv_nonneg this.1 (by omega), Int.le_trans (Int.ediv_le_self _ this.1) this.2⟩
def dS (s : List UInt8) (p : Int) : Int := bt s (p / 8).toNat / 2 ^ (7 - p % 8).toNat % 2
theorem mL (s : List UInt8) (p : Int) : 0 ≤ dS s p ∧ dS s p ≤ 1 := by
 unfold dS; omega
end Bt
namespace Bt
open Go
attribute [local irreducible] aa ACalls
variable {gl : List (Nat × List D)}
theorem tX {n : Nat} (h : n ≤ 32) : (2 : Int) ^ n ≤ 4294967296 := by
 have : (2 : Nat) ^ n ≤ 2 ^ 32 := Nat.pow_le_pow_right (by omega) h
 have h2 : ((2 ^ n : Nat) : Int) = (2 : Int) ^ n := by simp
 omega
theorem pV (n : Nat) : (0 : Int) < 2 ^ n := Int.pow_pos (by decide)
theorem Gl (v : Int) (n : Nat) (hn : n ≤ 32) (hv : 0 ≤ v ∧ v < 2 ^ n) : ACalls (cxg gl) 94 [I v, I n] [] (fun r H => r = B true ∧ H = []) := by
 have h1 := tX hn
 have h2 := pV n
 refine ACalls.enter Tryz.func94 rfl Tryz.ntmps94 (by kernel_rfl) rfl ?_; simp only [aB, nm, Nat.reduceAdd]
 repeat' (first | refine aa.aD ?_ | (apply aa.q true; rfl; rfl; rfl; rfl; first | exact True.intro | omega | (simp only [tn, Int.reduceToNat]; omega) | (simp only [Int.toNat_natCast]; omega)) | refine aa.aj ?_ | refine aa.cN ?_ | intro _ | refine aa.au ?_)
 refine ⟨?_, rfl⟩
 rw [Int.toNat_natCast, Int.one_mul, decide_eq_true hv.2]; rfl
def dg (v : Int) : UInt8 := UInt8.ofNat (48 + (v % 2).toNat)
theorem K4 (x : Int) (h : 0 ≤ x) : (48 + (((x.toNat &&& Int.toNat 1 : Nat) : Int) % 256)) % 256 = ((dg x).toNat : Int) := by
 have e : Int.toNat 1 = 1 := rfl
 rw [e, Nat.and_one_is_mod]
 have hm : x % 2 = 0 ∨ x % 2 = 1 := by omega
 have hn : x.toNat % 2 = (x % 2).toNat := by omega
 unfold dg
 rw [hn]
 rcases hm with h | h <;> rw [h] <;> rfl
def bI (v : Int) (n k : Nat) : List UInt8 := (List.range k).map fun j => dg (v / 2 ^ (n - 1 - j))
theorem nY (v : Int) (n k : Nat) : bI v n (k + 1) = bI v n k ++ [dg (v / 2 ^ (n - 1 - k))] := by
 simp [bI, List.range_succ]
theorem dA (v : Int) (n k : Nat) : (bI v n k).length = k := by simp [bI]
attribute [local irreducible] dg bI
theorem wL (v : Int) (n : Nat) (hn : n ≤ 32) (hv : 0 ≤ v ∧ v < 2 ^ n) : ACalls (cxg gl) 122 [I v, I n] [] (fun r H => r = .bW [S (bI v n n), I 0] ∧ H = []) := by
 have p1 := tX hn
 refine ACalls.enter Tryz.func122 rfl Tryz.ntmps122 (by kernel_rfl) rfl ?_; simp only [aB, nm, Nat.reduceAdd]
 repeat (first | refine aa.aD ?_ | (apply aa.BM; (iterate 9 rfl); (first | decide | (dsimp only; omega)); simp only [Int.reduceToNat, List.replicate_zero, List.length_nil, List.length_cons, Nat.reduceAdd, List.nil_append, List.cons_append]) | (apply aa.append; (iterate 11 rfl); (first | rfl | (simp only [List.length_append, List.length_map, List.length_cons, List.length_nil]; omega)); ((simp only [List.length_append, List.length_map, List.length_cons, List.length_nil]; omega)); simp only [List.set_cons_zero, List.set_cons_succ]) | refine aa.zI ?_ | refine aa.aY true ?_ | refine aa.ak (Gl v n hn hv) ?_ | refine aa.ah ?_ | refine aa.af ?_ | refine aa.ai ?_ | refine aa.aV ?_)
 have e0 : bI v n 0 = [] := by unfold bI; rfl
 refine aa.weak (env' := [(7, I ((n : Int) - 1)), (6, .own 1 [] 0), (0, I v)]) ⟨rfl, rfl, rfl, trivial⟩ ?_
 refine aa.loop (fun m env H => ∃ k : Nat, m = n - k ∧ k ≤ n ∧ env = [(7, I ((n : Int) - 1 - k)), (6, .own 1 (bg (bI v n k)) 0), (0, I v)] ∧ H = [.front 5 1 (bg (bI v n k)).length]) n
  ⟨0, by simp, Nat.zero_le _, by rw [e0]; simp [bg], by rw [e0]; simp [bg]⟩ ?_
 rintro m env H ⟨k, rfl, hk, rfl, rfl⟩
 have hl := dA v n k
 have q0 : ∀ j : Nat, 0 ≤ v / 2 ^ j ∧ v / 2 ^ j ≤ 9223372036854775807 := fun j => by
  have h2 := pV j
  exact ⟨Int.ediv_nonneg hv.1 (by omega), Int.le_trans (Int.ediv_le_self _ hv.1) (by omega)⟩
 rcases Nat.lt_or_ge k n with hlt | hge
 ·repeat (first | refine aa.aD ?_ | (apply aa.BM; (iterate 9 rfl); (first | decide | (dsimp only; omega) | (exact ⟨q0 _, by decide⟩) | (simp only [IntKind.bits]; omega) | (simp only [iC, hl, List.length_cons, List.length_nil]; omega)); simp only [Int.reduceToNat, List.replicate_zero, List.length_nil, List.length_cons, Nat.reduceAdd, List.nil_append, List.cons_append]) | (apply aa.append; (iterate 11 rfl); (first | rfl | (simp only [List.length_append, List.length_map, List.length_cons, List.length_nil]; omega)); (first | (simp only [List.length_append, List.length_map, List.length_cons, List.length_nil]; omega) | (exact ⟨q0 _, by decide⟩) | (simp only [IntKind.bits]; omega) | (simp only [iC, hl, List.length_cons, List.length_nil]; omega)); simp only [List.set_cons_zero, List.set_cons_succ]) | refine aa.zI ?_ | (apply aa.q true; rfl; rfl; rfl; rfl; first | exact True.intro | omega | (simp only [tn, Int.reduceToNat]; omega) | (exact ⟨q0 _, by decide⟩) | (simp only [IntKind.bits]; omega) | (simp only [iC, hl, List.length_cons, List.length_nil]; omega)) | refine aa.ah ?_ | refine aa.af ?_ | refine aa.ai ?_ | refine aa.aV ?_)
  have ej : ((n : Int) - 1 - k).toNat = n - 1 - k := by omega
  have ed := K4 (v / 2 ^ (n - 1 - k)) (q0 _).1
  refine aa.done ⟨[(7, I ((n : Int) - 1 - ((k + 1 : Nat) : Int))), (6, .own 1 (bg (bI v n (k + 1))) 0), (0, I v)], n - (k + 1), by omega, ⟨?_, ?_, rfl, trivial⟩, k + 1, rfl, hlt, rfl, ?_⟩
  ·exact congrArg I (by omega)
  ·show AV.own 1 _ 0 = AV.own 1 _ 0
   rw [nY, jE, ej, ed]; rfl
  ·rw [nY, jE, ej, ed]; rfl
 ·repeat (first | refine aa.aD ?_ | refine aa.aY true ?_ | refine aa.ah ?_ | refine aa.af ?_ | refine aa.ai ?_ | refine aa.aV ?_)
  refine aa.out rfl ⟨_, rfl, ?_⟩
  repeat (first | refine aa.aD ?_ | (apply aa.BM; (iterate 9 rfl); (first | decide | (dsimp only; omega)); simp only [Int.reduceToNat, List.replicate_zero, List.length_nil, List.length_cons, Nat.reduceAdd, List.nil_append, List.cons_append]) | (apply aa.append; (iterate 11 rfl); (first | rfl | (simp only [List.length_append, List.length_map, List.length_cons, List.length_nil]; omega)); ((simp only [List.length_append, List.length_map, List.length_cons, List.length_nil]; omega)); simp only [List.set_cons_zero, List.set_cons_succ]) | refine aa.zI ?_ | refine aa.aY true ?_ | refine aa.ah ?_ | refine aa.af ?_ | refine aa.ai ?_ | refine aa.aV ?_)
  (apply aa.EU; rfl; rfl; rfl; rfl)
  obtain rfl : k = n := by omega
  exact ⟨rfl, rfl⟩
theorem wK (v n : Int) (hn : 0 ≤ n ∧ n ≤ 32) (hv : 0 ≤ v ∧ v < 2 ^ n.toNat) : ACalls (cxg gl) 122 [I v, I n] [] (fun r H => r = .bW [S (bI v n.toNat n.toNat), I 0] ∧ H = []) := by
 have := wL (gl := gl) v n.toNat (by omega) hv
 rwa [Int.toNat_of_nonneg hn.1] at this
end Bt
namespace Bt
open Go
def jf (rows : List (List UInt8)) : List D := rows.map .str
theorem CX (rows : List (List UInt8)) (i : Nat) (h : i < rows.length) : ((jf rows).getD i .top).cells[0]? = some (.str (rows.getD i [])) := by
 simp [jf, List.getD, h, D.cells]
theorem CV (rows : List (List UInt8)) : (jf rows).length = rows.length := by simp [jf]
theorem yX {α : Type} (l : List α) (i : Nat) (x : α) (h : l[i]? = some x) : l.drop i = x :: l.drop (i + 1) := by
 have hl := aF h
 rw [List.drop_eq_getElem_cons hl]
 congr 1
 simpa [hl] using h
end Bt
namespace Bt
open Go
attribute [local irreducible] aa ACalls
variable {gl : List (Nat × List D)}
def bJ (x : Int) : UInt8 := UInt8.ofNat (48 + x.toNat)
theorem Ck (v : Int) : dg v = bJ (v % 2) := rfl
theorem Gz (v : Int) (n k j : Nat) (hj : j < k) : (bI v n k)[j]? = some (dg (v / 2 ^ (n - 1 - j))) := by
 simp [bI, hj]
attribute [local irreducible] dg bI
def iY (s : List UInt8) : List UInt8 := s.flatMap fun b => bI (b.toNat : Int) 8 8
theorem lM (s : List UInt8) : (iY s).length = 8 * s.length := by
 induction s with
 | nil => rfl
 | cons b s ih => simp only [iY, List.flatMap_cons, List.length_append, dA, List.length_cons] at ih ⊢; omega
theorem Jj (a : UInt8) (l : List UInt8) (i : Nat) : bt (a :: l) (i + 1) = bt l i := by simp [bt]
theorem nP (s : List UInt8) : ∀ (i j : Nat), i < s.length → j < 8 → (iY s)[8 * i + j]? = (bI (bt s i) 8 8)[j]? := by
 induction s with
 | nil => intro i j h; simp at h
 | cons b s ih =>
  intro i j hi hj
  have e : iY (b :: s) = bI (b.toNat : Int) 8 8 ++ iY s := by simp [iY]
  rw [e]
  cases i with
  | zero => rw [List.getElem?_append_left (by rw [dA]; omega)]; simp [bt]
  | succ i =>
   rw [List.getElem?_append_right (by rw [dA]; omega), dA, show 8 * (i + 1) + j - 8 = 8 * i + j by omega, ih i j (by simpa using hi) hj, Jj]
attribute [local irreducible] iY
theorem CU (s : List UInt8) (p : Int) (h0 : 0 ≤ p) (h1 : p < 8 * (s.length : Int)) : (iY s)[p.toNat]? = some (bJ (dS s p)) := by
 have e : p.toNat = 8 * (p / 8).toNat + (p % 8).toNat := by omega
 rw [e, nP s _ _ (by omega) (by omega), Gz _ _ _ _ (by omega), Ck]
 unfold dS
 have : 8 - 1 - (p % 8).toNat = (7 - p % 8).toNat := by omega
 rw [this]
def aC (s : List UInt8) (p : Nat) : List Int := (List.range (8 * s.length - p)).map fun j => dS s ((p + j : Nat) : Int)
theorem kr (s : List UInt8) (p : Nat) (h : 8 * s.length ≤ p) : aC s p = [] := by
 unfold aC; rw [show 8 * s.length - p = 0 by omega]; rfl
theorem ik (s : List UInt8) (p : Nat) (h : p < 8 * s.length) : aC s p = dS s p :: aC s (p + 1) := by
 unfold aC
 rw [show 8 * s.length - p = (8 * s.length - (p + 1)) + 1 by omega, List.range_succ_eq_map, List.map_cons, List.map_map]
 congr 1
 apply List.map_congr_left
 intro j _
 simp only [Function.comp]
 congr 2
 omega
theorem dK (s : List UInt8) (p : Nat) : (aC s p).length = 8 * s.length - p := by simp [aC]
theorem zL (s : List UInt8) (p : Nat) : (iY s).drop p = (aC s p).map bJ := by
 apply List.ext_getElem?
 intro j
 rw [List.getElem?_drop, List.getElem?_map]
 by_cases h : p + j < 8 * s.length
 ·have := CU s ((p + j : Nat) : Int) (by omega) (by omega)
  rw [Int.toNat_natCast] at this
  rw [this]
  simp [aC, show j < 8 * s.length - p by omega]
 ·rw [List.getElem?_eq_none (by rw [lM]; omega), List.getElem?_eq_none (by rw [dK]; omega)]; rfl
theorem gG (s : List UInt8) (p : Nat) : ∀ b ∈ aC s p, b = 0 ∨ b = 1 := by
 intro b hb
 obtain ⟨j, _, rfl⟩ := List.mem_map.1 hb
 have := mL s ((p + j : Nat) : Int)
 omega
end Bt
namespace Bt
open Go
attribute [local irreducible] aa ACalls
variable {gl : List (Nat × List D)}
def bq (c : UInt8) : Bool := decide (c = 48) || decide (c = 49)
theorem uG (s : List UInt8) (i : Nat) (c : UInt8) (h : s[i]? = some c) : bt s i = (c.toNat : Int) := by simp [bt, List.getD, h]
theorem pF {c : UInt8} {n : Nat} (hn : n < 256) : ((c.toNat : Int) = (n : Int)) ↔ c = UInt8.ofNat n := by
 constructor
 ·intro h
  have h' : c.toNat = n := by omega
  rw [← h']; simp
 ·rintro rfl
  simp; omega
theorem jM {c : UInt8} (h : bq c = true) : c = 48 ∨ c = 49 := by simpa [bq] using h
def gX (w : List UInt8) : Int := w.foldl (fun n c => 2 * n + ((c.toNat : Int) - 48)) 0
theorem kg (w : List UInt8) (c : UInt8) : gX (w ++ [c]) = 2 * gX w + ((c.toNat : Int) - 48) := by simp [gX]
theorem lL {α : Type} {P : List α → Prop} (h0 : P []) (h1 : ∀ l x, P l → P (l ++ [x])) : ∀ l, P l := by
 intro l
 rw [← List.reverse_reverse l]
 induction l.reverse with
 | nil => exact h0
 | cons x r ih => rw [List.reverse_cons]; exact h1 _ _ ih
theorem BB (w : List UInt8) : w.all bq = true → 0 ≤ gX w ∧ gX w < 2 ^ w.length := by
 refine lL (P := fun w => w.all bq = true → 0 ≤ gX w ∧ gX w < 2 ^ w.length) (fun _ => by simp [gX]) (fun w c ih h => ?_) w
 rw [List.all_append, Bool.and_eq_true] at h
 obtain ⟨i1, i2⟩ := ih h.1
 have hc : c = 48 ∨ c = 49 := jM (by simpa using h.2)
 rw [kg, List.length_append, List.length_singleton, Int.pow_succ]
 rcases hc with rfl | rfl
 ·have e : (((48 : UInt8).toNat : Nat) : Int) = 48 := rfl
  rw [e]; omega
 ·have e : (((49 : UInt8).toNat : Nat) : Int) = 49 := rfl
  rw [e]; omega
end Bt
namespace Bt
open Go
attribute [local irreducible] aa ACalls
variable {gl : List (Nat × List D)}
def bZ (n : Nat) : Nat := (8 - n % 8) % 8
def eQ (w : List UInt8) : List UInt8 := w ++ List.replicate (bZ w.length) 48
theorem kZ (n : Nat) : (n + bZ n) % 8 = 0 ∧ bZ n < 8 := by unfold bZ; omega
def pX (L : List UInt8) (j : Nat) : List UInt8 := (List.range j).map fun t => UInt8.ofNat (gX ((L.drop (8 * t)).take 8)).toNat
theorem vq (L : List UInt8) (j : Nat) : (pX L j).length = j := by simp [pX]
def bR (w : List UInt8) : List UInt8 := pX (eQ w) ((eQ w).length / 8)
theorem pW (w : List UInt8) (h : w.all bq = true) : (eQ w).all bq = true := by
 unfold eQ
 rw [List.all_append, h, Bool.true_and, List.all_eq_true]
 intro x hx
 rw [List.eq_of_mem_replicate hx]; rfl
theorem kH (w : List UInt8) : (eQ w).length = w.length + bZ w.length := by simp [eQ]
attribute [local irreducible] pX gX
end Bt
namespace Bt
open Go
theorem vK (v : Int) (n : Nat) : bI v (n + 1) (n + 1) = bI (v / 2) n n ++ [dg v] := by
 rw [nY]
 congr 1
 ·unfold bI
  apply List.map_congr_left
  intro j hj
  have hj' : j < n := by simpa using hj
  have e : n + 1 - 1 - j = (n - 1 - j) + 1 := by omega
  rw [e, Int.ediv_ediv_of_nonneg (by decide), Int.pow_succ, Int.mul_comm (2 ^ (n - 1 - j))]
 ·simp
theorem yY (w : List UInt8) : w.all bq = true → bI (gX w) w.length w.length = w := by
 refine lL (P := fun w => w.all bq = true → bI (gX w) w.length w.length = w) (fun _ => rfl) (fun w c ih h => ?_) w
 rw [List.all_append, Bool.and_eq_true] at h
 have hc : c = 48 ∨ c = 49 := jM (by simpa using h.2)
 rw [List.length_append, List.length_singleton, vK, kg]
 have e1 : (2 * gX w + ((c.toNat : Int) - 48)) / 2 = gX w := by
  rcases hc with rfl | rfl
  ·have e : (((48 : UInt8).toNat : Nat) : Int) = 48 := rfl
   rw [e]; omega
  ·have e : (((49 : UInt8).toNat : Nat) : Int) = 49 := rfl
   rw [e]; omega
 have e2 : dg (2 * gX w + ((c.toNat : Int) - 48)) = c := by
  unfold dg
  rcases hc with rfl | rfl
  ·have e : (((48 : UInt8).toNat : Nat) : Int) = 48 := rfl
   rw [e, show (2 * gX w + (48 - 48)) % 2 = 0 by omega]; rfl
  ·have e : (((49 : UInt8).toNat : Nat) : Int) = 49 := rfl
   rw [e, show (2 * gX w + (49 - 48)) % 2 = 1 by omega]; rfl
 rw [e1, e2, ih h.1]
theorem Da (L : List UInt8) (q i : Nat) (h : i < q) : bt (pX L q) i = ((UInt8.ofNat (gX ((L.drop (8 * i)).take 8)).toNat).toNat : Int) := uG _ _ _ (by simp [pX, h])
theorem zK (w : List UInt8) (h : w.all bq = true) : iY (bR w) = eQ w := by
 obtain ⟨p1, _⟩ := kZ w.length
 have hl := kH w
 have hd := pW w h
 unfold bR
 generalize eQ w = L at *
 generalize hq : L.length / 8 = q
 have hlen : L.length = 8 * q := by omega
 apply List.ext_getElem?
 intro p
 by_cases hp : p < 8 * q
 ·have e : p = 8 * (p / 8) + p % 8 := by omega
  have hcl : ((L.drop (8 * (p / 8))).take 8).length = 8 := by rw [List.length_take, List.length_drop]; omega
  have hcd : ((L.drop (8 * (p / 8))).take 8).all bq = true := by
   rw [List.all_eq_true] at hd ⊢
   exact fun x hx => hd x (List.mem_of_mem_drop (List.mem_of_mem_take hx))
  obtain ⟨n1, n2⟩ := BB _ hcd
  rw [hcl] at n2
  have hdn := yY _ hcd
  rw [hcl] at hdn
  have hb : bt (pX L q) (p / 8) = gX ((L.drop (8 * (p / 8))).take 8) := by
   rw [Da L q _ (by omega)]
   have : ∀ m : Nat, (UInt8.ofNat m).toNat = m % 256 := fun m => by simp
   rw [this]; omega
  have h1 := nP (pX L q) (p / 8) (p % 8) (by rw [vq]; omega) (by omega)
  rw [hb, hdn, ← e, List.getElem?_take, List.getElem?_drop, if_pos (by omega)] at h1
  rw [h1]
  congr 1
  omega
 ·rw [List.getElem?_eq_none (by rw [lM, vq]; omega), List.getElem?_eq_none (by omega)]
def und (c : UInt8) : Int := (c.toNat : Int) - 48
end Bt
namespace Bt
open Go
attribute [local irreducible] aa ACalls
variable {gl : List (Nat × List D)}
abbrev Rd (s : List UInt8) (at' : Int) : aH := .cells [S s, I at']
abbrev DY (x : Int × Int) : AV := .bW [I x.1, I x.2]
theorem BD (s : List UInt8) : ACalls (cxg gl) 7 [S s] [] (fun r H => r = .ptr 0 0 ∧ H = [Rd s 0]) := by
 refine ACalls.enter Tryz.func7 rfl Tryz.ntmps7 (by kernel_rfl) rfl ?_; simp only [aB, nm, Nat.reduceAdd]
 repeat (first | refine aa.aD ?_ | refine aa.aY true ?_ | (refine aa.aP ?_; simp only [nm, nz, Nat.reduceAdd]) | (refine aa.bz ?_; simp only [nm, nz, Nat.reduceAdd, bS, dF, AV.unD]))
 (apply aa.xX 1; rfl; rfl; rfl; rfl; rfl)
 exact ⟨rfl, rfl⟩
def pk1 (s : List UInt8) (p : Int) : Int × Int := if 8 * (s.length : Int) - p < 1 then (0, 2) else (dS s p, 0)
def tk1 (s : List UInt8) (p : Int) : Int := if 8 * (s.length : Int) - p < 1 then p else p + 1
theorem Bz (s : List UInt8) (p : Int) (h0 : 0 ≤ p) (hs : s.length < 1000000000000000) (h1 : p ≤ 8 * (s.length : Int)) : ACalls (cxg gl) 106 [.ptr 0 0, I 1] [Rd s p] (fun r H => r = DY (pk1 s p) ∧ H = [Rd s p]) := by
 refine ACalls.enter Tryz.func106 rfl Tryz.ntmps106 (by kernel_rfl) rfl ?_; simp only [aB, nm, Nat.reduceAdd]
 by_cases hp : 8 * (s.length : Int) - p < 1
 ·repeat' (first | refine aa.aD ?_ | refine aa.aY true ?_ | refine aa.dL true ?_ | refine aa.aR ?_ | refine aa.bO ?_ | refine aa.ah ?_ | refine aa.af ?_ | refine aa.ai ?_ | apply aa.dP | apply aa.lpU | intro _ | refine aa.au ?_)
  refine ⟨?_, rfl⟩
  simp [pk1, hp]
 ·repeat' (first | refine aa.aD ?_ | ((first | apply aa.q true | apply aa.qq true); rfl; rfl; rfl; rfl; first | exact True.intro | omega | (simp only [tn, Int.reduceToNat]; omega) | (exact ⟨zi _ _ _, by decide⟩) | (simp only [Int.zero_mul, Int.toNat_zero, Nat.zero_or, Int.toNat_natCast, Int.reduceToNat, Nat.and_one_is_mod]; omega)) | refine aa.aR ?_ | refine aa.bO ?_ | refine aa.ah ?_ | refine aa.af ?_ | refine aa.ai ?_ | apply aa.dP | apply aa.lpU | intro _ | refine aa.au ?_)
  refine ⟨?_, rfl⟩
  have b1 := zi s (p / 8).toNat (7 - p % 8).toNat
  simp only [pk1, if_neg hp, Int.zero_add, Int.add_zero, Int.zero_mul, Int.toNat_zero, Nat.zero_or, Int.toNat_natCast, Int.reduceToNat, Nat.and_one_is_mod, dS]
  revert b1
  generalize bt s (p / 8).toNat / 2 ^ (7 - p % 8).toNat = A
  intro b1
  congr 4
  omega
theorem nM (s : List UInt8) (p : Int) (h0 : 0 ≤ p) (hs : s.length < 1000000000000000) (h1 : p ≤ 8 * (s.length : Int)) : ACalls (cxg gl) 99 [.ptr 0 0, I 1] [Rd s p] (fun r H => r = DY (pk1 s p) ∧ H = [Rd s (tk1 s p)]) := by
 refine ACalls.enter Tryz.func99 rfl Tryz.ntmps99 (by kernel_rfl) rfl ?_; simp only [aB, nm, Nat.reduceAdd]
 by_cases hp : 8 * (s.length : Int) - p < 1
 ·have e : (pk1 s p).2 = 2 := by simp [pk1, hp]
  repeat' (first | refine aa.aD ?_ | refine aa.aY true ?_ | (refine aa.ae [0] ( Bz s p h0 hs h1) ?_; simp only [ny, nh, Nat.reduceAdd, Nat.reduceSub]) | refine aa.ah ?_ | refine aa.af ?_ | (refine aa.az ?_; simp only [nm, nz, Nat.reduceAdd]) | intro _ | refine aa.au ?_)
  refine ⟨rfl, ?_⟩
  simp [tk1, hp]
 ·have e : (pk1 s p).2 = 0 := by simp [pk1, hp]
  repeat' (first | refine aa.aD ?_ | refine aa.aY true ?_ | (refine aa.ae [0] ( Bz s p h0 hs h1) ?_; simp only [ny, nh, Nat.reduceAdd, Nat.reduceSub]) | refine aa.ah ?_ | refine aa.af ?_ | (refine aa.az ?_; simp only [nm, nz, Nat.reduceAdd]) | intro _ | refine aa.au ?_)
  refine ⟨rfl, ?_⟩
  simp [tk1, hp]
theorem qG (s : List UInt8) (p : Int) : ACalls (cxg gl) 14 [.ptr 0 0] [Rd s p] (fun r H => r = I p ∧ H = [Rd s p]) := by
 refine ACalls.enter Tryz.func14 rfl Tryz.ntmps14 (by kernel_rfl) rfl ?_; simp only [aB, nm, Nat.reduceAdd]
 repeat' (first | refine aa.aD ?_ | refine aa.aY true ?_ | refine aa.ai ?_ | intro _ | refine aa.au ?_)
 exact ⟨rfl, rfl⟩
theorem EG (s : List UInt8) (p q : Int) (hs : s.length < 1000000000000000) : ACalls (cxg gl) 8 [.ptr 0 0, I q] [Rd s p] (fun r H => r = I (if q < 0 ∨ 8 * (s.length : Int) < q then 1 else 0) ∧ H = [Rd s (if q < 0 ∨ 8 * (s.length : Int) < q then p else q)]) := by
 refine ACalls.enter Tryz.func8 rfl Tryz.ntmps8 (by kernel_rfl) rfl ?_; simp only [aB, nm, Nat.reduceAdd]
 by_cases hq : q < 0 ∨ 8 * (s.length : Int) < q
 ·rw [if_pos hq, if_pos hq]
  repeat' (first | refine aa.aD ?_ | refine aa.aY true ?_ | refine aa.ah ?_ | refine aa.af ?_ | refine aa.av ?_ | (refine aa.az ?_; simp only [nm, nz, Nat.reduceAdd]) | refine aa.aj ?_ | refine aa.bh ?_ | refine aa.aA ?_ | intro _ | (apply aa.gD; rfl; rfl; rfl) | refine aa.au ?_)
  all_goals first | omega | exact ⟨rfl, rfl⟩
 ·rw [if_neg hq, if_neg hq]
  repeat' (first | refine aa.aD ?_ | refine aa.aY true ?_ | refine aa.ah ?_ | refine aa.af ?_ | refine aa.av ?_ | (refine aa.az ?_; simp only [nm, nz, Nat.reduceAdd]) | refine aa.aj ?_ | refine aa.bh ?_ | refine aa.aA ?_ | intro _ | (apply aa.gD; rfl; rfl; rfl) | refine aa.au ?_)
  all_goals first | omega | exact ⟨rfl, rfl⟩
theorem fM (s : List UInt8) (p q : Int) (hs : s.length < 1000000000000000) (h : 0 ≤ q ∧ q ≤ 8 * (s.length : Int)) : ACalls (cxg gl) 8 [.ptr 0 0, I q] [Rd s p] (fun r H => r = I 0 ∧ H = [Rd s q]) := by
 have := EG (gl := gl) s p q hs
 rwa [if_neg (by omega), if_neg (by omega)] at this
theorem EH (s : List UInt8) (p q : Int) (hs : s.length < 1000000000000000) (h : q < 0 ∨ 8 * (s.length : Int) < q) : ACalls (cxg gl) 8 [.ptr 0 0, I q] [Rd s p] (fun r H => r = I 1 ∧ H = [Rd s p]) := by
 have := EG (gl := gl) s p q hs
 rwa [if_pos h, if_pos h] at this
end Bt
namespace Bt
open Go
attribute [local irreducible] aa ACalls
variable {gl : List (Nat × List D)}
attribute [local irreducible] iY
end Bt
namespace Bt
open Go
attribute [local irreducible] aa ACalls
variable {gl : List (Nat × List D)}
def jQ (w : List UInt8) : List (List UInt8) → Nat → Option Nat
 | [], _ => none
 | r :: rs, i => if r = w then some i else jQ w rs (i + 1)
attribute [local irreducible] jf
end Bt
namespace Bt
open Go
inductive RR where
 | done (i : Nat) (c : Nat) | fail | next (w : List UInt8)
def jo (rows : List (List UInt8)) (w : List UInt8) (x : UInt8) : RR :=
 match jQ (w ++ [x]) rows 0 with
 | some i => .done i (w.length + 1)
 | none => if rows.any (fun r => (w ++ [x]).isPrefixOf r) then .next (w ++ [x]) else .fail
def cV (rows : List (List UInt8)) : List UInt8 → List UInt8 → Int × Int × Nat
 | [], _ => (0, 2, 0)
 | x :: r, w => match jo rows w x with
  | .done i c => ((i : Int), 0, c)
  | .fail => (0, 3, 0)
  | .next w' => cV rows r w'
end Bt
end Go.Proofs.YtbfojhfiemcnpaaGreatDoor.Av
