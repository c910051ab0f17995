/- mcbpc: the reference's Row; the rows. -/
import Derived.Test.YtbfojhfiemcnpaaDoorMb2
import Derived.Test.YtbfojhfiemcnpaaDoorPn
set_option linter.unusedSimpArgs false
set_option linter.unusedVariables false
set_option maxRecDepth 100000
namespace Go.Proofs.YtbfojhfiemcnpaaDoor.Av
open Go
/-- an array of two numbers -/
theorem arr2_of (l : D) (h : TyV tys 9 22 l) : ∃ x y : Int, l = .agg [.int .i64 x, .int .i64 y] ∧ (-9223372036854775808 ≤ x ∧ x ≤ 9223372036854775807) ∧ (-9223372036854775808 ≤ y ∧ y ≤ 9223372036854775807) := by
  obtain ⟨hc, ha⟩ := h
  obtain ⟨l, rfl⟩ := ha rfl
  change l.length = 2 ∧ ∀ i, i < 2 → TyC tys 8 3 ((l.drop (i * szT tys 3)).take (szT tys 3)) at hc
  obtain ⟨hl, hf⟩ := hc
  have h0 := hf 0 (by decide)
  have h1 := hf 1 (by decide)
  change ∃ n, (l.drop 0).take 1 = [.int .i64 n] ∧ (Lit.int .i64 n).wf = true at h0
  change ∃ n, (l.drop 1).take 1 = [.int .i64 n] ∧ (Lit.int .i64 n).wf = true at h1
  obtain ⟨x, e0, w0⟩ := h0
  obtain ⟨y, e1, w1⟩ := h1
  match l, hl with
  | [a, b], _ =>
    simp at e0 e1
    subst e0; subst e1
    exact ⟨x, y, rfl, bd_i64 w0, bd_i64 w1⟩
end Go.Proofs.YtbfojhfiemcnpaaDoor.Av
namespace Go.Proofs.YtbfojhfiemcnpaaDoor.Av.Mb
open Go Bt
attribute [local irreducible] AGo ACalls
variable {gl : List (Nat × List D)}
theorem mbWords_len : ∀ b : Bool, ∀ k : _root_.Fin 6, (mbWords b k.val).length ≤ 4 ∧ (k.val = 5 → (mbWords b k.val).length ≤ 1) := by unfold mbWords; decide +kernel
theorem mbIs_bd (b : Bool) (k c : Int) (h : mbIs b k c = true) : (0 ≤ k ∧ k ≤ 5) ∧ 0 ≤ c ∧ c ≤ 3 := by
  unfold mbIs at h
  rw [decide_eq_true_eq] at h
  by_cases hk : k < 0 ∨ 5 < k
  · have : mbWords b k = [] := by unfold mbWords; rw [if_pos hk]
    rw [this] at h; simp at h; omega
  · obtain ⟨h1, h2⟩ := mbWords_len b ⟨k.toNat, by omega⟩
    simp only at h1
    rw [show ((k.toNat : Nat) : Int) = k by omega] at h1
    omega
theorem mbRow_ok : ∀ b : Bool, ∀ k : _root_.Fin 6, ∀ c : _root_.Fin 4, mbIs b k.val c.val = true → mbRow b k.val c.val ≠ [] ∧ (mbRow b k.val c.val).length ≤ 9 ∧ (mbRow b k.val c.val).all isDig = true := by decide +kernel
theorem mbRow_in (b : Bool) (k c : Int) (h : mbIs b k c = true) : mbRow b k c ≠ [] ∧ (mbRow b k c).length ≤ 9 ∧ (mbRow b k c).all isDig = true := by
  obtain ⟨hk, hc⟩ := mbIs_bd b k c h
  have := mbRow_ok b ⟨k.toNat, by omega⟩ ⟨c.toNat, by omega⟩
  simp only at this
  rw [show ((k.toNat : Nat) : Int) = k by omega, show ((c.toNat : Nat) : Int) = c by omega] at this
  exact this h
attribute [local irreducible] rowsD mbRow
end Go.Proofs.YtbfojhfiemcnpaaDoor.Av.Mb
