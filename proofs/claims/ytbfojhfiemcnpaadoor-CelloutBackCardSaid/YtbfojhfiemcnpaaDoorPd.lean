/- Contracts that hold over any tables: names; bytes. Contracts: rows of digits (outbits). Rows of texts, as cells. The reference's rows of bits: Row; the digits that Show tells are the reader's bits. The reference's packing of rows: Plain, Number, Pack; what is packed shows the row again. The reference's Pack; what is packed shows the row again. What is packed shows the row again. -/
import Derived.Test.YtbfojhfiemcnpaaDoorCx
import Derived.Test.YtbfojhfiemcnpaaDoorPc
/- Contracts that hold over any tables: names; bytes. -/
set_option linter.unusedSimpArgs false
set_option linter.unusedVariables false
set_option maxRecDepth 100000
namespace Go.Proofs.YtbfojhfiemcnpaaDoor.Av.Bt
open Go
attribute [local irreducible] AGo ACalls
variable {gl : List (Nat × List D)}
abbrev I (n : Int) : AV := .d (.int .i64 n)
abbrev B (b : Bool) : AV := .d (.bool b)
abbrev S (s : List UInt8) : AV := .d (.str s)
theorem bt_bd (s : List UInt8) (i : Nat) : 0 ≤ bt s i ∧ bt s i ≤ 255 := by
  have := (s.getD i 0).toNat_lt
  unfold bt; omega
theorem bt_sh (s : List UInt8) (i n : Nat) : 0 ≤ bt s i / 2 ^ n ∧ bt s i / 2 ^ n ≤ 255 := by
  have := bt_bd s i
  have hp : (0 : Int) < 2 ^ n := Int.pow_pos (by decide)
  exact ⟨Int.ediv_nonneg this.1 (by omega), Int.le_trans (Int.ediv_le_self _ this.1) this.2⟩
def bitS (s : List UInt8) (p : Int) : Int := bt s (p / 8).toNat / 2 ^ (7 - p % 8).toNat % 2
theorem bitS_bd (s : List UInt8) (p : Int) : 0 ≤ bitS s p ∧ bitS s p ≤ 1 := by
  unfold bitS; omega
end Go.Proofs.YtbfojhfiemcnpaaDoor.Av.Bt

/- Contracts: rows of digits (outbits). -/
set_option linter.unusedSimpArgs false
set_option linter.unusedVariables false
set_option maxRecDepth 100000
namespace Go.Proofs.YtbfojhfiemcnpaaDoor.Av.Bt
open Go
attribute [local irreducible] AGo ACalls
variable {gl : List (Nat × List D)}
theorem pow_le32 {n : Nat} (h : n ≤ 32) : (2 : Int) ^ n ≤ 4294967296 := by
  have : (2 : Nat) ^ n ≤ 2 ^ 32 := Nat.pow_le_pow_right (by omega) h
  have h2 : ((2 ^ n : Nat) : Int) = (2 : Int) ^ n := by simp
  omega
theorem pow_pos2 (n : Nat) : (0 : Int) < 2 ^ n := Int.pow_pos (by decide)
set_option maxHeartbeats 2000000 in
theorem fits_c (v : Int) (n : Nat) (hn : n ≤ 32) (hv : 0 ≤ v ∧ v < 2 ^ n) : ACalls (cxg gl) 67 [I v, I n] [] (fun r H => r = B true ∧ H = []) := by
  have h1 := pow_le32 hn
  have h2 := pow_pos2 n
  refine ACalls.enter Tryd.func67 rfl Tryd.ntmps67 (by kernel_rfl) rfl ?_; simp only [argEnv, Nat.reduceAdd, List.length_nil, List.length_cons]
  repeat' (first | apply AGo.seq | apply AGo.nil | (apply AGo.region; rfl) | (apply AGo.q true; rfl; rfl; rfl; rfl; first | exact True.intro | omega | (simp only [Int.toNat_natCast, Int.reduceToNat, IntKind.bits]; omega) | (simp only [Int.toNat_natCast]; omega)) | (apply AGo.unguard; rfl; rfl) | (apply AGo.gT; rfl; rfl; rfl; first | omega | rfl) | intro _ | (apply AGo.retN; rfl; rfl; rfl; rfl))
  refine ⟨?_, rfl⟩
  rw [Int.toNat_natCast, Int.one_mul, decide_eq_true hv.2]; rfl
/-- a digit -/
def dg (v : Int) : UInt8 := UInt8.ofNat (48 + (v % 2).toNat)
theorem dg_val (x : Int) (h : 0 ≤ x) : (48 + (((x.toNat &&& Int.toNat 1 : Nat) : Int) % 256)) % 256 = ((dg x).toNat : Int) := by
  have e : Int.toNat 1 = 1 := rfl
  rw [e, Nat.and_one_is_mod]
  have hm : x % 2 = 0 ∨ x % 2 = 1 := by omega
  have hn : x.toNat % 2 = (x % 2).toNat := by omega
  unfold dg
  rw [hn]
  rcases hm with h | h <;> rw [h] <;> rfl
/-- the first k of n digits -/
def digs (v : Int) (n k : Nat) : List UInt8 := (List.range k).map fun j => dg (v / 2 ^ (n - 1 - j))
theorem digs_succ (v : Int) (n k : Nat) : digs v n (k + 1) = digs v n k ++ [dg (v / 2 ^ (n - 1 - k))] := by
  simp [digs, List.range_succ]
theorem digs_len (v : Int) (n k : Nat) : (digs v n k).length = k := by simp [digs]
attribute [local irreducible] dg digs
set_option maxHeartbeats 2000000 in
theorem orow_c (v : Int) (n : Nat) (hn : n ≤ 32) (hv : 0 ≤ v ∧ v < 2 ^ n) : ACalls (cxg gl) 51 [I v, I n] [] (fun r H => r = .tup [S (digs v n n), I 0] ∧ H = []) := by
  have p1 := pow_le32 hn
  refine ACalls.enter Tryd.func51 rfl Tryd.ntmps51 (by kernel_rfl) rfl ?_; simp only [argEnv, Nat.reduceAdd, List.length_nil, List.length_cons]
  repeat (first | (apply AGo.makeF; (iterate 9 rfl); (first | decide | (dsimp only; omega)); simp only [Int.reduceToNat, List.replicate_zero, List.length_nil, List.length_cons, Nat.reduceAdd, List.nil_append, List.cons_append]) | (apply AGo.append; (iterate 11 rfl); (first | rfl | (simp only [List.length_append, List.length_map, List.length_cons, List.length_nil]; omega)); ((simp only [List.length_append, List.length_map, List.length_cons, List.length_nil]; omega)); simp only [List.set_cons_zero, List.set_cons_succ]) | (apply AGo.strB; (iterate 12 rfl)) | apply AGo.seq | apply AGo.block | apply AGo.blk | apply AGo.skip | apply AGo.nil | (apply AGo.region; rfl) | (apply AGo.q true; rfl; rfl; rfl; rfl; first | exact True.intro | omega | (simp only [Int.toNat_natCast, Int.reduceToNat, IntKind.bits]; omega)) | (apply AGo.callP (fits_c v n hn hv); (iterate 6 rfl)) | (apply AGo.condDT; rfl; first | omega | rfl) | (apply AGo.condDF; rfl; omega) | (apply AGo.condF; rfl) | (apply AGo.buildSlice; (iterate 11 rfl)))
  have e0 : digs v n 0 = [] := by unfold digs; rfl
  refine AGo.weak (env' := [(7, I ((n : Int) - 1)), (6, .own 1 [] 0), (0, I v)]) ⟨rfl, rfl, rfl, trivial⟩ ?_
  refine AGo.loop (fun m env H => ∃ k : Nat, m = n - k ∧ k ≤ n ∧ env = [(7, I ((n : Int) - 1 - k)), (6, .own 1 (octets (digs v n k)) 0), (0, I v)] ∧ H = [.front 5 1 (octets (digs v n k)).length]) n
    ⟨0, by simp, Nat.zero_le _, by rw [e0]; simp [octets], by rw [e0]; simp [octets]⟩ ?_
  rintro m env H ⟨k, rfl, hk, rfl, rfl⟩
  have hl := digs_len v n k
  have q0 : ∀ j : Nat, 0 ≤ v / 2 ^ j ∧ v / 2 ^ j ≤ 9223372036854775807 := fun j => by
    have h2 := pow_pos2 j
    exact ⟨Int.ediv_nonneg hv.1 (by omega), Int.le_trans (Int.ediv_le_self _ hv.1) (by omega)⟩
  rcases Nat.lt_or_ge k n with hlt | hge
  · repeat (first | (apply AGo.makeF; (iterate 9 rfl); (first | decide | (dsimp only; omega) | (exact ⟨q0 _, by decide⟩) | (simp only [IntKind.bits]; omega) | (simp only [octets_length, hl, List.length_cons, List.length_nil]; omega)); simp only [Int.reduceToNat, List.replicate_zero, List.length_nil, List.length_cons, Nat.reduceAdd, List.nil_append, List.cons_append]) | (apply AGo.append; (iterate 11 rfl); (first | rfl | (simp only [List.length_append, List.length_map, List.length_cons, List.length_nil]; omega)); (first | (simp only [List.length_append, List.length_map, List.length_cons, List.length_nil]; omega) | (exact ⟨q0 _, by decide⟩) | (simp only [IntKind.bits]; omega) | (simp only [octets_length, hl, List.length_cons, List.length_nil]; omega)); simp only [List.set_cons_zero, List.set_cons_succ]) | (apply AGo.strB; (iterate 12 rfl)) | apply AGo.seq | apply AGo.block | apply AGo.blk | apply AGo.skip | apply AGo.nil | (apply AGo.region; rfl) | (apply AGo.q true; rfl; rfl; rfl; rfl; first | exact True.intro | omega | (simp only [Int.toNat_natCast, Int.reduceToNat, IntKind.bits]; omega) | (exact ⟨q0 _, by decide⟩) | (simp only [IntKind.bits]; omega) | (simp only [octets_length, hl, List.length_cons, List.length_nil]; omega)) | (apply AGo.condDT; rfl; first | omega | rfl) | (apply AGo.condDF; rfl; omega) | (apply AGo.condF; rfl) | (apply AGo.buildSlice; (iterate 11 rfl)))
    have ej : ((n : Int) - 1 - k).toNat = n - 1 - k := by omega
    have ed := dg_val (v / 2 ^ (n - 1 - k)) (q0 _).1
    refine AGo.done ⟨[(7, I ((n : Int) - 1 - ((k + 1 : Nat) : Int))), (6, .own 1 (octets (digs v n (k + 1))) 0), (0, I v)], n - (k + 1), by omega, ⟨?_, ?_, rfl, trivial⟩, k + 1, rfl, hlt, rfl, ?_⟩
    · exact congrArg I (by omega)
    · show AV.own 1 _ 0 = AV.own 1 _ 0
      rw [digs_succ, octets_append, ej, ed]; rfl
    · rw [digs_succ, octets_append, ej, ed]; rfl
  · repeat (first | apply AGo.seq | apply AGo.block | apply AGo.blk | apply AGo.skip | apply AGo.nil | (apply AGo.region; rfl) | (apply AGo.q true; rfl; rfl; rfl; rfl; first | exact True.intro | omega | (simp only [Int.toNat_natCast, Int.reduceToNat, IntKind.bits]; omega)) | (apply AGo.condDT; rfl; first | omega | rfl) | (apply AGo.condDF; rfl; omega) | (apply AGo.condF; rfl) | (apply AGo.buildSlice; (iterate 11 rfl)))
    refine AGo.out rfl ⟨_, rfl, ?_⟩
    repeat (first | (apply AGo.makeF; (iterate 9 rfl); (first | decide | (dsimp only; omega)); simp only [Int.reduceToNat, List.replicate_zero, List.length_nil, List.length_cons, Nat.reduceAdd, List.nil_append, List.cons_append]) | (apply AGo.append; (iterate 11 rfl); (first | rfl | (simp only [List.length_append, List.length_map, List.length_cons, List.length_nil]; omega)); ((simp only [List.length_append, List.length_map, List.length_cons, List.length_nil]; omega)); simp only [List.set_cons_zero, List.set_cons_succ]) | (apply AGo.strB; (iterate 12 rfl)) | apply AGo.seq | apply AGo.block | apply AGo.blk | apply AGo.skip | apply AGo.nil | (apply AGo.region; rfl) | (apply AGo.q true; rfl; rfl; rfl; rfl; first | exact True.intro | omega | (simp only [Int.toNat_natCast, Int.reduceToNat, IntKind.bits]; omega)) | (apply AGo.condDT; rfl; first | omega | rfl) | (apply AGo.condDF; rfl; omega) | (apply AGo.condF; rfl) | (apply AGo.buildSlice; (iterate 11 rfl)))
    (apply AGo.retN; rfl; rfl; rfl; rfl)
    obtain rfl : k = n := by omega
    exact ⟨rfl, rfl⟩
theorem orow_i (v n : Int) (hn : 0 ≤ n ∧ n ≤ 32) (hv : 0 ≤ v ∧ v < 2 ^ n.toNat) : ACalls (cxg gl) 51 [I v, I n] [] (fun r H => r = .tup [S (digs v n.toNat n.toNat), I 0] ∧ H = []) := by
  have := orow_c (gl := gl) v n.toNat (by omega) hv
  rwa [Int.toNat_of_nonneg hn.1] at this
end Go.Proofs.YtbfojhfiemcnpaaDoor.Av.Bt

/- Rows of texts, as cells. -/
set_option linter.unusedSimpArgs false
set_option linter.unusedVariables false
set_option maxRecDepth 100000
namespace Go.Proofs.YtbfojhfiemcnpaaDoor.Av.Bt
open Go
/-- rows, as a slice of strings -/
def rowsD (rows : List (List UInt8)) : List D := rows.map .str
theorem rowsD_get (rows : List (List UInt8)) (i : Nat) (h : i < rows.length) : ((rowsD rows).getD i .top).cells[0]? = some (.str (rows.getD i [])) := by
  simp [rowsD, List.getD, h, D.cells]
theorem rowsD_len (rows : List (List UInt8)) : (rowsD rows).length = rows.length := by simp [rowsD]
theorem drop_cut {α : Type} (l : List α) (i : Nat) (x : α) (h : l[i]? = some x) : l.drop i = x :: l.drop (i + 1) := by
  have hl := getElem?_lt h
  rw [List.drop_eq_getElem_cons hl]
  congr 1
  simpa [hl] using h
end Go.Proofs.YtbfojhfiemcnpaaDoor.Av.Bt

/- The reference's rows of bits: Row; the digits that Show tells are the reader's bits. -/
set_option linter.unusedSimpArgs false
set_option linter.unusedVariables false
set_option maxRecDepth 100000
namespace Go.Proofs.YtbfojhfiemcnpaaDoor.Av.Bt
open Go
attribute [local irreducible] AGo ACalls
variable {gl : List (Nat × List D)}
/-- a digit's byte -/
def digB (x : Int) : UInt8 := UInt8.ofNat (48 + x.toNat)
theorem dg_digB (v : Int) : dg v = digB (v % 2) := rfl
theorem digs_get (v : Int) (n k j : Nat) (hj : j < k) : (digs v n k)[j]? = some (dg (v / 2 ^ (n - 1 - j))) := by
  simp [digs, hj]
attribute [local irreducible] dg digs
def showN (s : List UInt8) : List UInt8 := s.flatMap fun b => digs (b.toNat : Int) 8 8
theorem showN_len (s : List UInt8) : (showN s).length = 8 * s.length := by
  induction s with
  | nil => rfl
  | cons b s ih => simp only [showN, List.flatMap_cons, List.length_append, digs_len, List.length_cons] at ih ⊢; omega
theorem bt_succ (a : UInt8) (l : List UInt8) (i : Nat) : bt (a :: l) (i + 1) = bt l i := by simp [bt]
theorem showN_get (s : List UInt8) : ∀ (i j : Nat), i < s.length → j < 8 → (showN s)[8 * i + j]? = (digs (bt s i) 8 8)[j]? := by
  induction s with
  | nil => intro i j h; simp at h
  | cons b s ih =>
    intro i j hi hj
    have e : showN (b :: s) = digs (b.toNat : Int) 8 8 ++ showN s := by simp [showN]
    rw [e]
    cases i with
    | zero => rw [List.getElem?_append_left (by rw [digs_len]; omega)]; simp [bt]
    | succ i =>
      rw [List.getElem?_append_right (by rw [digs_len]; omega), digs_len, show 8 * (i + 1) + j - 8 = 8 * i + j by omega, ih i j (by simpa using hi) hj, bt_succ]
attribute [local irreducible] showN
/-! ### The digits are the reader's bits -/
theorem showN_bit (s : List UInt8) (p : Int) (h0 : 0 ≤ p) (h1 : p < 8 * (s.length : Int)) : (showN s)[p.toNat]? = some (digB (bitS s p)) := by
  have e : p.toNat = 8 * (p / 8).toNat + (p % 8).toNat := by omega
  rw [e, showN_get s _ _ (by omega) (by omega), digs_get _ _ _ _ (by omega), dg_digB]
  unfold bitS
  have : 8 - 1 - (p % 8).toNat = (7 - p % 8).toNat := by omega
  rw [this]
/-- the bits from a place on -/
def bitsF (s : List UInt8) (p : Nat) : List Int := (List.range (8 * s.length - p)).map fun j => bitS s ((p + j : Nat) : Int)
theorem bitsF_nil (s : List UInt8) (p : Nat) (h : 8 * s.length ≤ p) : bitsF s p = [] := by
  unfold bitsF; rw [show 8 * s.length - p = 0 by omega]; rfl
theorem bitsF_cons (s : List UInt8) (p : Nat) (h : p < 8 * s.length) : bitsF s p = bitS s p :: bitsF s (p + 1) := by
  unfold bitsF
  rw [show 8 * s.length - p = (8 * s.length - (p + 1)) + 1 by omega, List.range_succ_eq_map, List.map_cons, List.map_map]
  congr 1
  apply List.map_congr_left
  intro j _
  simp only [Function.comp]
  congr 2
  omega
theorem bitsF_len (s : List UInt8) (p : Nat) : (bitsF s p).length = 8 * s.length - p := by simp [bitsF]
theorem showN_drop (s : List UInt8) (p : Nat) : (showN s).drop p = (bitsF s p).map digB := by
  apply List.ext_getElem?
  intro j
  rw [List.getElem?_drop, List.getElem?_map]
  by_cases h : p + j < 8 * s.length
  · have := showN_bit s ((p + j : Nat) : Int) (by omega) (by omega)
    rw [Int.toNat_natCast] at this
    rw [this]
    simp [bitsF, show j < 8 * s.length - p by omega]
  · rw [List.getElem?_eq_none (by rw [showN_len]; omega), List.getElem?_eq_none (by rw [bitsF_len]; omega)]; rfl
theorem bitsF_01 (s : List UInt8) (p : Nat) : ∀ b ∈ bitsF s p, b = 0 ∨ b = 1 := by
  intro b hb
  obtain ⟨j, _, rfl⟩ := List.mem_map.1 hb
  have := bitS_bd s ((p + j : Nat) : Int)
  omega
end Go.Proofs.YtbfojhfiemcnpaaDoor.Av.Bt

/- The reference's packing of rows: Plain, Number, Pack; what is packed shows the row again. -/
set_option linter.unusedSimpArgs false
set_option linter.unusedVariables false
set_option maxRecDepth 100000
namespace Go.Proofs.YtbfojhfiemcnpaaDoor.Av.Bt
open Go
attribute [local irreducible] AGo ACalls
variable {gl : List (Nat × List D)}
def isDig (c : UInt8) : Bool := decide (c = 48) || decide (c = 49)
theorem bt_get (s : List UInt8) (i : Nat) (c : UInt8) (h : s[i]? = some c) : bt s i = (c.toNat : Int) := by simp [bt, List.getD, h]
theorem toNat_eq {c : UInt8} {n : Nat} (hn : n < 256) : ((c.toNat : Int) = (n : Int)) ↔ c = UInt8.ofNat n := by
  constructor
  · intro h
    have h' : c.toNat = n := by omega
    rw [← h']; simp
  · rintro rfl
    simp; omega
theorem isDig_cases {c : UInt8} (h : isDig c = true) : c = 48 ∨ c = 49 := by simpa [isDig] using h
def numS (w : List UInt8) : Int := w.foldl (fun n c => 2 * n + ((c.toNat : Int) - 48)) 0
theorem numS_snoc (w : List UInt8) (c : UInt8) : numS (w ++ [c]) = 2 * numS w + ((c.toNat : Int) - 48) := by simp [numS]
theorem snoc_ind {α : Type} {P : List α → Prop} (h0 : P []) (h1 : ∀ l x, P l → P (l ++ [x])) : ∀ l, P l := by
  intro l
  rw [← List.reverse_reverse l]
  induction l.reverse with
  | nil => exact h0
  | cons x r ih => rw [List.reverse_cons]; exact h1 _ _ ih
theorem numS_bd (w : List UInt8) : w.all isDig = true → 0 ≤ numS w ∧ numS w < 2 ^ w.length := by
  refine snoc_ind (P := fun w => w.all isDig = true → 0 ≤ numS w ∧ numS w < 2 ^ w.length) (fun _ => by simp [numS]) (fun w c ih h => ?_) w
  rw [List.all_append, Bool.and_eq_true] at h
  obtain ⟨i1, i2⟩ := ih h.1
  have hc : c = 48 ∨ c = 49 := isDig_cases (by simpa using h.2)
  rw [numS_snoc, List.length_append, List.length_singleton, Int.pow_succ]
  rcases hc with rfl | rfl
  · have e : (((48 : UInt8).toNat : Nat) : Int) = 48 := rfl
    rw [e]; omega
  · have e : (((49 : UInt8).toNat : Nat) : Int) = 49 := rfl
    rw [e]; omega
end Go.Proofs.YtbfojhfiemcnpaaDoor.Av.Bt

/- The reference's Pack; what is packed shows the row again. -/
set_option linter.unusedSimpArgs false
set_option linter.unusedVariables false
set_option maxRecDepth 100000
namespace Go.Proofs.YtbfojhfiemcnpaaDoor.Av.Bt
open Go
attribute [local irreducible] AGo ACalls
variable {gl : List (Nat × List D)}
def padN (n : Nat) : Nat := (8 - n % 8) % 8
def padS (w : List UInt8) : List UInt8 := w ++ List.replicate (padN w.length) 48
theorem padN_ok (n : Nat) : (n + padN n) % 8 = 0 ∧ padN n < 8 := by unfold padN; omega
def packB (L : List UInt8) (j : Nat) : List UInt8 := (List.range j).map fun t => UInt8.ofNat (numS ((L.drop (8 * t)).take 8)).toNat
theorem packB_len (L : List UInt8) (j : Nat) : (packB L j).length = j := by simp [packB]
def packN (w : List UInt8) : List UInt8 := packB (padS w) ((padS w).length / 8)
theorem padS_dig (w : List UInt8) (h : w.all isDig = true) : (padS w).all isDig = true := by
  unfold padS
  rw [List.all_append, h, Bool.true_and, List.all_eq_true]
  intro x hx
  rw [List.eq_of_mem_replicate hx]; rfl
theorem padS_len (w : List UInt8) : (padS w).length = w.length + padN w.length := by simp [padS]
attribute [local irreducible] packB numS
end Go.Proofs.YtbfojhfiemcnpaaDoor.Av.Bt

/- What is packed shows the row again. -/
set_option linter.unusedSimpArgs false
set_option linter.unusedVariables false
set_option maxRecDepth 100000
namespace Go.Proofs.YtbfojhfiemcnpaaDoor.Av.Bt
open Go
theorem digs_snoc (v : Int) (n : Nat) : digs v (n + 1) (n + 1) = digs (v / 2) n n ++ [dg v] := by
  rw [digs_succ]
  congr 1
  · unfold digs
    apply List.map_congr_left
    intro j hj
    have hj' : j < n := by simpa using hj
    have e : n + 1 - 1 - j = (n - 1 - j) + 1 := by omega
    rw [e, Int.ediv_ediv_of_nonneg (by decide), Int.pow_succ, Int.mul_comm (2 ^ (n - 1 - j))]
  · simp
theorem digs_num (w : List UInt8) : w.all isDig = true → digs (numS w) w.length w.length = w := by
  refine snoc_ind (P := fun w => w.all isDig = true → digs (numS w) w.length w.length = w) (fun _ => rfl) (fun w c ih h => ?_) w
  rw [List.all_append, Bool.and_eq_true] at h
  have hc : c = 48 ∨ c = 49 := isDig_cases (by simpa using h.2)
  rw [List.length_append, List.length_singleton, digs_snoc, numS_snoc]
  have e1 : (2 * numS w + ((c.toNat : Int) - 48)) / 2 = numS w := by
    rcases hc with rfl | rfl
    · have e : (((48 : UInt8).toNat : Nat) : Int) = 48 := rfl
      rw [e]; omega
    · have e : (((49 : UInt8).toNat : Nat) : Int) = 49 := rfl
      rw [e]; omega
  have e2 : dg (2 * numS w + ((c.toNat : Int) - 48)) = c := by
    unfold dg
    rcases hc with rfl | rfl
    · have e : (((48 : UInt8).toNat : Nat) : Int) = 48 := rfl
      rw [e, show (2 * numS w + (48 - 48)) % 2 = 0 by omega]; rfl
    · have e : (((49 : UInt8).toNat : Nat) : Int) = 49 := rfl
      rw [e, show (2 * numS w + (49 - 48)) % 2 = 1 by omega]; rfl
  rw [e1, e2, ih h.1]
theorem packB_get (L : List UInt8) (q i : Nat) (h : i < q) : bt (packB L q) i = ((UInt8.ofNat (numS ((L.drop (8 * i)).take 8)).toNat).toNat : Int) := bt_get _ _ _ (by simp [packB, h])
theorem showN_pack (w : List UInt8) (h : w.all isDig = true) : showN (packN w) = padS w := by
  obtain ⟨p1, _⟩ := padN_ok w.length
  have hl := padS_len w
  have hd := padS_dig w h
  unfold packN
  generalize padS w = L at *
  generalize hq : L.length / 8 = q
  have hlen : L.length = 8 * q := by omega
  apply List.ext_getElem?
  intro p
  by_cases hp : p < 8 * q
  · have e : p = 8 * (p / 8) + p % 8 := by omega
    have hcl : ((L.drop (8 * (p / 8))).take 8).length = 8 := by rw [List.length_take, List.length_drop]; omega
    have hcd : ((L.drop (8 * (p / 8))).take 8).all isDig = true := by
      rw [List.all_eq_true] at hd ⊢
      exact fun x hx => hd x (List.mem_of_mem_drop (List.mem_of_mem_take hx))
    obtain ⟨n1, n2⟩ := numS_bd _ hcd
    rw [hcl] at n2
    have hdn := digs_num _ hcd
    rw [hcl] at hdn
    have hb : bt (packB L q) (p / 8) = numS ((L.drop (8 * (p / 8))).take 8) := by
      rw [packB_get L q _ (by omega)]
      have : ∀ m : Nat, (UInt8.ofNat m).toNat = m % 256 := fun m => by simp
      rw [this]; omega
    have h1 := showN_get (packB L q) (p / 8) (p % 8) (by rw [packB_len]; omega) (by omega)
    rw [hb, hdn, ← e, List.getElem?_take, List.getElem?_drop, if_pos (by omega)] at h1
    rw [h1]
    congr 1
    omega
  · rw [List.getElem?_eq_none (by rw [showN_len, packB_len]; omega), List.getElem?_eq_none (by omega)]
/-- a digit's number -/
def und (c : UInt8) : Int := (c.toNat : Int) - 48
theorem und_digB (b : Int) (h : b = 0 ∨ b = 1) : und (digB b) = b := by rcases h with rfl | rfl <;> rfl
theorem bitsF_pack (w : List UInt8) (h : w.all isDig = true) : bitsF (packN w) 0 = (padS w).map und := by
  have h1 := showN_drop (packN w) 0
  rw [List.drop_zero, showN_pack w h] at h1
  rw [h1, List.map_map]
  have : ∀ b ∈ bitsF (packN w) 0, (und ∘ digB) b = b := fun b hb => und_digB b (bitsF_01 _ _ b hb)
  rw [List.map_congr_left this, List.map_id']
end Go.Proofs.YtbfojhfiemcnpaaDoor.Av.Bt
