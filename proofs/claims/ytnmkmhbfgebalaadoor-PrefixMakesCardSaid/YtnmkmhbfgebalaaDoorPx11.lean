/- The law PrefixTakes. -/
import Derived.Test.YtnmkmhbfgebalaaDoorPx10
set_option linter.unusedSimpArgs false
set_option linter.unusedVariables false
set_option maxRecDepth 100000
namespace Go.Proofs.YtnmkmhbfgebalaaDoor.Av
open Go Go.WideShapes
theorem one_slice {P : Program} {w : World} {r : Reach} {b0 t e : Nat} {v : Value} {x : D} {imm : Nat → List Value} (hu : P.underlying t = some (.slice e)) (hv : Value.okWide P w r b0 t v) (h : DRel imm v x) : x.one = true := by
  obtain ⟨a, n, m, rfl⟩ := okWide_slice hu hv
  cases h <;> rfl
end Go.Proofs.YtnmkmhbfgebalaaDoor.Av
namespace Go.Proofs.YtnmkmhbfgebalaaDoor.Av.Px
open Go Bt
attribute [local irreducible] AGo ACalls
theorem pair_of (x : D) (h : TyC tys 8 58 x.cells ∧ (agT tys 58 = true → ∃ l, x = .agg l)) : ∃ p : List UInt8 × Int, x = codeD p ∧ p.1.length ≤ 9223372036854775807 := by
  obtain ⟨hc, ha⟩ := h
  obtain ⟨l, rfl⟩ := ha rfl
  change l.length = 2 ∧ ∀ o t', (o, t') ∈ [((0 : Nat), (9 : Nat)), (1, 3)] → TyC tys 7 t' ((l.drop o).take (szT tys t')) at hc
  obtain ⟨hl, hf⟩ := hc
  have h0 := hf 0 9 (by simp)
  have h1 := hf 1 3 (by simp)
  change ∃ s, (l.drop 0).take 1 = [.str s] ∧ s.length ≤ 9223372036854775807 at h0
  change ∃ n, (l.drop 1).take 1 = [.int .i64 n] ∧ _ at h1
  obtain ⟨s, e0, hs⟩ := h0
  obtain ⟨n, e1, _⟩ := h1
  match l, hl with
  | [a, b], _ =>
    simp at e0 e1
    subst e0; subst e1
    exact ⟨(s, n), rfl, hs⟩
theorem pairs_list : ∀ es : List D, (∀ x ∈ es, TyC tys 8 58 x.cells ∧ (agT tys 58 = true → ∃ l, x = .agg l)) → ∃ cs : List (List UInt8 × Int), es = codesD cs ∧ ∀ p ∈ cs, p.1.length ≤ 9223372036854775807
  | [], _ => ⟨[], rfl, by simp⟩
  | x :: r, h => by
    obtain ⟨p, rfl, hp⟩ := pair_of x (h x (by simp))
    obtain ⟨cs, rfl, hcs⟩ := pairs_list r (fun y hy => h y (by simp [hy]))
    exact ⟨p :: cs, rfl, fun q hq => by
      rcases List.mem_cons.1 hq with rfl | hq
      · exact hp
      · exact hcs q hq⟩
theorem pairs_of (l : D) (ho : l.one = true) (h : TyV tys 9 47 l) : l = .nils ∨ ∃ cs : List (List UInt8 × Int), l = .sl 2 (codesD cs) ∧ cs.length ≤ 9223372036854775807 ∧ ∀ p ∈ cs, p.1.length ≤ 9223372036854775807 := by
  obtain ⟨hc, _⟩ := h
  have hcc : l.cells = [l] := by cases l <;> first | rfl | (simp [D.one] at ho)
  rw [hcc] at hc
  change [l] = [.nils] ∨ ∃ es, [l] = [.sl 2 es] ∧ es.length ≤ 9223372036854775807 ∧ ∀ x ∈ es, TyC tys 8 58 x.cells ∧ (agT tys 58 = true → ∃ l, x = .agg l) at hc
  rcases hc with h | ⟨es, h1, h2, h3⟩
  · left; simpa using h
  · right
    obtain ⟨cs, rfl, hcs⟩ := pairs_list es h3
    rw [codesD_len] at h2
    exact ⟨cs, by simpa using h1, h2, hcs⟩
theorem prefixTakes_law (l : D) (s : List UInt8) (q : Int) (h : TyV tys 9 47 l) (ho : l.one = true) (hs : s.length ≤ 140737488351232) (hq : -9223372036854775808 ≤ q ∧ q ≤ 9223372036854775807) :
    ACalls cx 9 [.d l, S s, I q] [] (fun r H => r = B true ∧ H = []) := by
  rcases pairs_of l ho h with rfl | ⟨cs, rfl, h1, h2⟩
  · have := prefixTakes_in (gl := []) [] s q (by decide) (by simp) hs hq
    rw [show codesD [] = [] from rfl] at this
    exact this.weak ⟨weak_nils 2, Weak.refl _, Weak.refl _, trivial⟩
  · exact prefixTakes_in cs s q h1 h2 hs hq
end Go.Proofs.YtnmkmhbfgebalaaDoor.Av.Px
