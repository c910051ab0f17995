/- mcbpc: the reference's Row; the rows. -/
import Derived.Test.YtdihjnifoikbeaaDoorMb2
import Derived.Test.YtdihjnifoikbeaaDoorPn
set_option linter.unusedSimpArgs false
set_option linter.unusedVariables false
set_option maxRecDepth 100000
namespace Go.Proofs.YtdihjnifoikbeaaDoor.Av
open Go
/-- an array of two numbers -/
theorem arr2_of (l : D) (h : TyV tys 9 40 l) : ∃ x y : Int, l = .agg [.int .i64 x, .int .i64 y] ∧ (-9223372036854775808 ≤ x ∧ x ≤ 9223372036854775807) ∧ (-9223372036854775808 ≤ y ∧ y ≤ 9223372036854775807) := by
  obtain ⟨hc, ha⟩ := h
  obtain ⟨l, rfl⟩ := ha rfl
  change l.length = 2 ∧ ∀ i, i < 2 → TyC tys 8 3 ((l.drop (i * szT tys 3)).take (szT tys 3)) at hc
  obtain ⟨hl, hf⟩ := hc
  have h0 := hf 0 (by decide)
  have h1 := hf 1 (by decide)
  change ∃ n, (l.drop 0).take 1 = [.int .i64 n] ∧ (Lit.int .i64 n).wf = true at h0
  change ∃ n, (l.drop 1).take 1 = [.int .i64 n] ∧ (Lit.int .i64 n).wf = true at h1
  obtain ⟨x, e0, w0⟩ := h0
  obtain ⟨y, e1, w1⟩ := h1
  match l, hl with
  | [a, b], _ =>
    simp at e0 e1
    subst e0; subst e1
    exact ⟨x, y, rfl, bd_i64 w0, bd_i64 w1⟩
end Go.Proofs.YtdihjnifoikbeaaDoor.Av
namespace Go.Proofs.YtdihjnifoikbeaaDoor.Av.Mb
open Go Bt
attribute [local irreducible] AGo ACalls
variable {gl : List (Nat × List D)}
def mbFull (b : Bool) : List (List UInt8) := if b = true then wdI.flatten else List.replicate 12 [] ++ wdJ.flatten
theorem mbFull_len (b : Bool) : (mbFull b).length = 21 := by cases b <;> rfl
theorem rmrows_c (b : Bool) : ACalls (cxg gl) 127 [B b] [] (fun r H => r = .d (.sl 1 (rowsD (mbFull b))) ∧ H = []) := by
  cases b
  all_goals
    unfold rowsD mbFull
    refine ACalls.enter Tryd.func127 rfl Tryd.ntmps127 (by kernel_rfl) rfl ?_; simp only [argEnv, Nat.reduceAdd, List.length_nil, List.length_cons]
    repeat' (first | apply AGo.seq | apply AGo.skip | apply AGo.nil | (apply AGo.region; rfl) | (apply AGo.q true; rfl; rfl; rfl; rfl; first | exact True.intro | omega | (simp only [Int.toNat_natCast, Int.reduceToNat, IntKind.bits]; omega)) | (apply AGo.condT; rfl) | (apply AGo.condF; rfl) | (apply AGo.buildSlice; (iterate 11 rfl)) | intro _ | (apply AGo.retN; rfl; rfl; rfl; rfl))
    all_goals first | exact ⟨rfl, rfl⟩ | trace_state
theorem mbFull_get : ∀ b : Bool, ∀ k : _root_.Fin 6, ∀ c : _root_.Fin 4, ¬ (k.val = 5 ∧ c.val > 0) → (mbFull b).getD (4 * k.val + c.val) [] = mbRow b k.val c.val := by
  unfold mbFull mbRow mbWords
  decide +kernel
theorem mbWords_len : ∀ b : Bool, ∀ k : _root_.Fin 6, (mbWords b k.val).length ≤ 4 ∧ (k.val = 5 → (mbWords b k.val).length ≤ 1) := by unfold mbWords; decide +kernel
theorem mbRow_no (b : Bool) (k c : Int) (h : k < 0 ∨ 5 < k ∨ c < 0 ∨ 3 < c ∨ (k = 5 ∧ 0 < c)) : mbRow b k c = [] := by
  unfold mbRow
  by_cases hk : k < 0 ∨ 5 < k
  · have : mbWords b k = [] := by unfold mbWords; rw [if_pos hk]
    rw [this, if_neg (by simp only [List.length_nil]; omega)]
  · obtain ⟨h1, h2⟩ := mbWords_len b ⟨k.toNat, by omega⟩
    simp only at h1 h2
    rw [show ((k.toNat : Nat) : Int) = k by omega] at h1 h2
    rw [if_neg (by omega)]
theorem mbIs_bd (b : Bool) (k c : Int) (h : mbIs b k c = true) : (0 ≤ k ∧ k ≤ 5) ∧ 0 ≤ c ∧ c ≤ 3 := by
  unfold mbIs at h
  rw [decide_eq_true_eq] at h
  by_cases hk : k < 0 ∨ 5 < k
  · have : mbWords b k = [] := by unfold mbWords; rw [if_pos hk]
    rw [this] at h; simp at h; omega
  · obtain ⟨h1, h2⟩ := mbWords_len b ⟨k.toNat, by omega⟩
    simp only at h1
    rw [show ((k.toNat : Nat) : Int) = k by omega] at h1
    omega
theorem mbRow_ok : ∀ b : Bool, ∀ k : _root_.Fin 6, ∀ c : _root_.Fin 4, mbIs b k.val c.val = true → mbRow b k.val c.val ≠ [] ∧ (mbRow b k.val c.val).length ≤ 9 ∧ (mbRow b k.val c.val).all isDig = true := by decide +kernel
theorem mbRow_in (b : Bool) (k c : Int) (h : mbIs b k c = true) : mbRow b k c ≠ [] ∧ (mbRow b k c).length ≤ 9 ∧ (mbRow b k c).all isDig = true := by
  obtain ⟨hk, hc⟩ := mbIs_bd b k c h
  have := mbRow_ok b ⟨k.toNat, by omega⟩ ⟨c.toNat, by omega⟩
  simp only at this
  rw [show ((k.toNat : Nat) : Int) = k by omega, show ((c.toNat : Nat) : Int) = c by omega] at this
  exact this h
theorem mbRow_out (b : Bool) (k c : Int) (h : mbIs b k c = false) : mbRow b k c = [] := by
  unfold mbIs at h
  rw [decide_eq_false_iff_not] at h
  unfold mbRow; rw [if_neg h]
attribute [local irreducible] rowsD mbFull mbRow
end Go.Proofs.YtdihjnifoikbeaaDoor.Av.Mb
