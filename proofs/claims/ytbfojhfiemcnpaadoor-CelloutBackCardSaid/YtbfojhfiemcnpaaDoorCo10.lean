/- Cells as arguments. -/
import Derived.Test.YtbfojhfiemcnpaaDoorCo3
set_option linter.unusedSimpArgs false
set_option linter.unusedVariables false
set_option maxRecDepth 100000
namespace Go.Proofs.YtbfojhfiemcnpaaDoor.Av
open Go
theorem DWeak.agg {cs ds : List D} (hl : ds.length = cs.length) (hone : ∀ d ∈ ds, d.one = true) (h : ∀ (i : Nat) (c d : D), cs[i]? = some c → ds[i]? = some d → DWeak c d) : DWeak (.agg cs) (.agg ds) := fun imm v hv => by
  cases hv with
  | agg vs _ h1 h2 h3 =>
    refine .agg vs ds (by omega) hone fun i d hd => ?_
    have hi : i < cs.length := by have := getElem?_lt hd; omega
    exact h i _ d (List.getElem?_eq_getElem hi) hd imm _ (h3 i _ (List.getElem?_eq_getElem hi))
end Go.Proofs.YtbfojhfiemcnpaaDoor.Av
namespace Go.Proofs.YtbfojhfiemcnpaaDoor.Av.Co
open Go Bt Tc
theorem int_of {d : D} (h : ∃ n, [d] = [.int .i64 n] ∧ (Lit.int .i64 n).wf = true) : ∃ n, d = In n ∧ I64 n := by
  obtain ⟨n, h1, h2⟩ := h
  exact ⟨n, by simpa using h1, bd_i64 h2⟩
theorem bool_of {d : D} (h : ∃ b, [d] = [.bool b]) : ∃ b, d = .bool b := by
  obtain ⟨b, h1⟩ := h
  exact ⟨b, by simpa using h1⟩
theorem ev_of (x : D) (h : TyC tys 6 51 x.cells ∧ (agT tys 51 = true → ∃ l, x = .agg l)) : ∃ e : Ev, x = evD e ∧ EvOk e := by
  obtain ⟨hc, ha⟩ := h
  obtain ⟨l, rfl⟩ := ha rfl
  change l.length = 3 ∧ ∀ o t', (o, t') ∈ [((0 : Nat), (4 : Nat)), (1, 3), (2, 3)] → TyC tys 5 t' ((l.drop o).take (szT tys t')) at hc
  obtain ⟨hl, hf⟩ := hc
  have h0 := hf 0 4 (by simp)
  have h1 := hf 1 3 (by simp)
  have h2 := hf 2 3 (by simp)
  match l, hl with
  | [a, b, c], _ =>
    obtain ⟨la, rfl⟩ := bool_of h0
    obtain ⟨ru, rfl, r1⟩ := int_of h1
    obtain ⟨le, rfl, r2⟩ := int_of h2
    exact ⟨⟨la, ru, le⟩, rfl, r1, r2⟩
theorem evs_list : ∀ es : List D, (∀ x ∈ es, TyC tys 6 51 x.cells ∧ (agT tys 51 = true → ∃ l, x = .agg l)) → ∃ l : List Ev, es = evsD l ∧ ∀ e ∈ l, EvOk e
  | [], _ => ⟨[], rfl, by simp⟩
  | x :: r, h => by
    obtain ⟨e, rfl, he⟩ := ev_of x (h x (by simp))
    obtain ⟨l, rfl, hl⟩ := evs_list r fun y hy => h y (by simp [hy])
    exact ⟨e :: l, rfl, fun q hq => by
      rcases List.mem_cons.1 hq with rfl | hq
      · exact he
      · exact hl q hq⟩
def EvsI (l : List Ev) : Prop := l.length ≤ 9223372036854775807 ∧ ∀ e ∈ l, EvOk e
theorem evsl_of {d : D} (h : [d] = [.nils] ∨ ∃ es, [d] = [.sl 3 es] ∧ es.length ≤ 9223372036854775807 ∧ ∀ x ∈ es, TyC tys 6 51 x.cells ∧ (agT tys 51 = true → ∃ l, x = .agg l)) : ∃ l, DWeak d (evS l) ∧ EvsI l := by
  rcases h with h | ⟨es, h1, h2, h3⟩
  · obtain rfl : d = .nils := by simpa using h
    exact ⟨[], DWeak.nils 3, by decide, by simp⟩
  · obtain rfl : d = .sl 3 es := by simpa using h1
    obtain ⟨l, rfl, hl⟩ := evs_list es h3
    rw [evsD_len] at h2
    exact ⟨l, DWeak.refl _, h2, hl⟩
structure CelI (c : Cel) : Prop where
  stuff : I64 c.stuff
  kind : I64 c.kind
  step : I64 c.step
  x : I64 c.mx
  y : I64 c.my
  e0 : EvsI c.e0
  e1 : EvsI c.e1
  e2 : EvsI c.e2
  e3 : EvsI c.e3
  e4 : EvsI c.e4
  e5 : EvsI c.e5
theorem cel_of (x : D) (h : TyV tys 9 27 x) : ∃ c : Cel, DWeak x (celD c) ∧ CelI c := by
  obtain ⟨hc, ha⟩ := h
  obtain ⟨l, rfl⟩ := ha rfl
  change l.length = 18 ∧ ∀ o t', (o, t') ∈ [((0 : Nat), (3 : Nat)), (1, 4), (2, 3), (3, 3), (4, 22), (6, 23), (12, 25)] → TyC tys 8 t' ((l.drop o).take (szT tys t')) at hc
  obtain ⟨hl, hf⟩ := hc
  have h0 := hf 0 3 (by simp)
  have h1 := hf 1 4 (by simp)
  have h2 := hf 2 3 (by simp)
  have h3 := hf 3 3 (by simp)
  have h4 := hf 4 22 (by simp)
  have h6 := hf 6 23 (by simp)
  have h12 := hf 12 25 (by simp)
  clear hf
  match l, hl with
  | [a0, a1, a2, a3, a4, a5, a6, a7, a8, a9, a10, a11, a12, a13, a14, a15, a16, a17], _ =>
    obtain ⟨st, rfl, q0⟩ := int_of h0
    obtain ⟨sk, rfl⟩ := bool_of h1
    obtain ⟨ki, rfl, q2⟩ := int_of h2
    obtain ⟨sp, rfl, q3⟩ := int_of h3
    obtain ⟨mx, rfl, q4⟩ := int_of (h4.2 0 (by decide))
    obtain ⟨my, rfl, q5⟩ := int_of (h4.2 1 (by decide))
    obtain ⟨d0, rfl, _⟩ := int_of (h6.2 0 (by decide))
    obtain ⟨d1, rfl, _⟩ := int_of (h6.2 1 (by decide))
    obtain ⟨d2, rfl, _⟩ := int_of (h6.2 2 (by decide))
    obtain ⟨d3, rfl, _⟩ := int_of (h6.2 3 (by decide))
    obtain ⟨d4, rfl, _⟩ := int_of (h6.2 4 (by decide))
    obtain ⟨d5, rfl, _⟩ := int_of (h6.2 5 (by decide))
    obtain ⟨e0, w0, v0⟩ := evsl_of (h12.2 0 (by decide))
    obtain ⟨e1, w1, v1⟩ := evsl_of (h12.2 1 (by decide))
    obtain ⟨e2, w2, v2⟩ := evsl_of (h12.2 2 (by decide))
    obtain ⟨e3, w3, v3⟩ := evsl_of (h12.2 3 (by decide))
    obtain ⟨e4, w4, v4⟩ := evsl_of (h12.2 4 (by decide))
    obtain ⟨e5, w5, v5⟩ := evsl_of (h12.2 5 (by decide))
    refine ⟨⟨st, sk, ki, sp, mx, my, d0, d1, d2, d3, d4, d5, e0, e1, e2, e3, e4, e5⟩, DWeak.agg rfl (by simp [D.one]) (fun i c d hc hd => ?_), q0, q2, q3, q4, q5, v0, v1, v2, v3, v4, v5⟩
    match i, hc, hd with
    | 0, hc, hd => cases hc; cases hd; exact DWeak.refl _
    | 1, hc, hd => cases hc; cases hd; exact DWeak.refl _
    | 2, hc, hd => cases hc; cases hd; exact DWeak.refl _
    | 3, hc, hd => cases hc; cases hd; exact DWeak.refl _
    | 4, hc, hd => cases hc; cases hd; exact DWeak.refl _
    | 5, hc, hd => cases hc; cases hd; exact DWeak.refl _
    | 6, hc, hd => cases hc; cases hd; exact DWeak.refl _
    | 7, hc, hd => cases hc; cases hd; exact DWeak.refl _
    | 8, hc, hd => cases hc; cases hd; exact DWeak.refl _
    | 9, hc, hd => cases hc; cases hd; exact DWeak.refl _
    | 10, hc, hd => cases hc; cases hd; exact DWeak.refl _
    | 11, hc, hd => cases hc; cases hd; exact DWeak.refl _
    | 12, hc, hd => cases hc; cases hd; exact w0
    | 13, hc, hd => cases hc; cases hd; exact w1
    | 14, hc, hd => cases hc; cases hd; exact w2
    | 15, hc, hd => cases hc; cases hd; exact w3
    | 16, hc, hd => cases hc; cases hd; exact w4
    | 17, hc, hd => cases hc; cases hd; exact w5
    | i + 18, hc, hd => simp at hc
end Go.Proofs.YtbfojhfiemcnpaaDoor.Av.Co
