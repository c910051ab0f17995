/- Sheets as arguments: whatever a sheet is by its type, it reads as rows of cells. -/
import Derived.Test.YtdihjnifoikbeaaDoorCo10
import Derived.Test.YtdihjnifoikbeaaDoorPs3
import Derived.Test.YtdihjnifoikbeaaDoorPs1
set_option linter.unusedSimpArgs false
set_option linter.unusedVariables false
set_option maxRecDepth 100000
namespace Go.Proofs.YtdihjnifoikbeaaDoor.Av
open Go
/-- cell by cell weaker -/
def CW (e f : D) : Prop := e.cells.length = f.cells.length ∧ (∀ c ∈ f.cells, c.one = true) ∧ ∀ (j : Nat) (c d : D), e.cells[j]? = some c → f.cells[j]? = some d → DWeak c d
theorem DWeak.sl {sz : Nat} {es fs : List D} (hl : es.length = fs.length) (h : ∀ (i : Nat) (e f : D), es[i]? = some e → fs[i]? = some f → CW e f) : DWeak (.sl sz es) (.sl sz fs) := fun imm v hv => by
  have at_ : ∀ {i : Nat} {f : D}, fs[i]? = some f → ∃ e, es[i]? = some e ∧ CW e f := fun {i f} hf => by
    have hi : i < es.length := by have := getElem?_lt hf; omega
    exact ⟨_, List.getElem?_eq_getElem hi, h i _ f (List.getElem?_eq_getElem hi) hf⟩
  cases hv with
  | sl0 a cap sz =>
    have : fs = [] := List.eq_nil_of_length_eq_zero (by simpa using hl.symm)
    subst this
    exact .sl0 _ _ _
  | sl b o cap sz es hne hcap hsz hone hin hh =>
    rw [hl] at hcap hin ⊢
    refine .sl b o cap sz fs (fun e => hne (List.eq_nil_of_length_eq_zero (by rw [hl, e]; rfl))) hcap (fun f hf => ?_) (fun f hf => ?_) hin fun i f j d hf hd => ?_
    · obtain ⟨i, hi⟩ := List.getElem?_of_mem hf
      obtain ⟨e, he, hc⟩ := at_ hi
      rw [← hc.1]; exact hsz e (List.mem_of_getElem? he)
    · obtain ⟨i, hi⟩ := List.getElem?_of_mem hf
      obtain ⟨e, he, hc⟩ := at_ hi
      exact hc.2.1
    · obtain ⟨e, he, hc⟩ := at_ hf
      have hj : j < e.cells.length := by have := getElem?_lt hd; rw [hc.1]; exact this
      exact hc.2.2 j _ d (List.getElem?_eq_getElem hj) hd imm _ (hh i e j _ he (List.getElem?_eq_getElem hj))
theorem CW.dweak {l : List D} {cs : List D} (h : CW (.agg l) (.agg cs)) : DWeak (.agg l) (.agg cs) :=
  DWeak.agg h.1.symm h.2.1 fun i c d hc hd => h.2.2 i c d hc hd
end Go.Proofs.YtdihjnifoikbeaaDoor.Av
namespace Go.Proofs.YtdihjnifoikbeaaDoor.Av.Sh
open Go Bt Tc Co
abbrev TyE (f t : Nat) (x : D) : Prop := TyC tys f t x.cells ∧ (agT tys t = true → ∃ l, x = .agg l)
theorem ev_ofF (f : Nat) (x : D) (h : TyE (f + 2) 106 x) : ∃ e : Ev, x = evD e ∧ EvOk e := by
  obtain ⟨hc, ha⟩ := h
  obtain ⟨l, rfl⟩ := ha rfl
  change l.length = 3 ∧ ∀ o t', (o, t') ∈ [((0 : Nat), (4 : Nat)), (1, 3), (2, 3)] → TyC tys (f + 1) t' ((l.drop o).take (szT tys t')) at hc
  obtain ⟨hl, hf⟩ := hc
  have h0 := hf 0 4 (by simp)
  have h1 := hf 1 3 (by simp)
  have h2 := hf 2 3 (by simp)
  match l, hl with
  | [a, b, c], _ =>
    obtain ⟨la, rfl⟩ := bool_of h0
    obtain ⟨ru, rfl, r1⟩ := int_of h1
    obtain ⟨le, rfl, r2⟩ := int_of h2
    exact ⟨⟨la, ru, le⟩, rfl, r1, r2⟩
theorem evs_listF (f : Nat) : ∀ es : List D, (∀ x ∈ es, TyE (f + 2) 106 x) → ∃ l : List Ev, es = evsD l ∧ ∀ e ∈ l, EvOk e
  | [], _ => ⟨[], rfl, by simp⟩
  | x :: r, h => by
    obtain ⟨e, rfl, he⟩ := ev_ofF f x (h x (by simp))
    obtain ⟨l, rfl, hl⟩ := evs_listF f r fun y hy => h y (by simp [hy])
    exact ⟨e :: l, rfl, fun q hq => by
      rcases List.mem_cons.1 hq with rfl | hq
      · exact he
      · exact hl q hq⟩
theorem evsl_ofF (f : Nat) {d : D} (h : [d] = [.nils] ∨ ∃ es, [d] = [.sl 3 es] ∧ es.length ≤ 9223372036854775807 ∧ ∀ x ∈ es, TyE (f + 2) 106 x) : ∃ l, DWeak d (evS l) ∧ EvsI l := by
  rcases h with h | ⟨es, h1, h2, h3⟩
  · obtain rfl : d = .nils := by simpa using h
    exact ⟨[], DWeak.nils 3, by decide, by simp⟩
  · obtain rfl : d = .sl 3 es := by simpa using h1
    obtain ⟨l, rfl, hl⟩ := evs_listF f es h3
    rw [evsD_len] at h2
    exact ⟨l, DWeak.refl _, h2, hl⟩
theorem cel_ofF (f : Nat) (x : D) (h : TyE (f + 5) 48 x) : ∃ c : Cel, (∃ l, x = .agg l) ∧ CW x (celD c) ∧ CelI c := by
  obtain ⟨hc, ha⟩ := h
  obtain ⟨l, rfl⟩ := ha rfl
  change l.length = 18 ∧ ∀ o t', (o, t') ∈ [((0 : Nat), (3 : Nat)), (1, 4), (2, 3), (3, 3), (4, 40), (6, 44), (12, 46)] → TyC tys (f + 4) t' ((l.drop o).take (szT tys t')) at hc
  obtain ⟨hl, hf⟩ := hc
  have h0 := hf 0 3 (by simp)
  have h1 := hf 1 4 (by simp)
  have h2 := hf 2 3 (by simp)
  have h3 := hf 3 3 (by simp)
  have h4 := hf 4 40 (by simp)
  have h6 := hf 6 44 (by simp)
  have h12 := hf 12 46 (by simp)
  clear hf
  match l, hl with
  | [a0, a1, a2, a3, a4, a5, a6, a7, a8, a9, a10, a11, a12, a13, a14, a15, a16, a17], _ =>
    obtain ⟨st, rfl, q0⟩ := int_of h0
    obtain ⟨sk, rfl⟩ := bool_of h1
    obtain ⟨ki, rfl, q2⟩ := int_of h2
    obtain ⟨sp, rfl, q3⟩ := int_of h3
    obtain ⟨mx, rfl, q4⟩ := int_of (h4.2 0 (by decide))
    obtain ⟨my, rfl, q5⟩ := int_of (h4.2 1 (by decide))
    obtain ⟨d0, rfl, _⟩ := int_of (h6.2 0 (by decide))
    obtain ⟨d1, rfl, _⟩ := int_of (h6.2 1 (by decide))
    obtain ⟨d2, rfl, _⟩ := int_of (h6.2 2 (by decide))
    obtain ⟨d3, rfl, _⟩ := int_of (h6.2 3 (by decide))
    obtain ⟨d4, rfl, _⟩ := int_of (h6.2 4 (by decide))
    obtain ⟨d5, rfl, _⟩ := int_of (h6.2 5 (by decide))
    obtain ⟨e0, w0, v0⟩ := evsl_ofF f (h12.2 0 (by decide))
    obtain ⟨e1, w1, v1⟩ := evsl_ofF f (h12.2 1 (by decide))
    obtain ⟨e2, w2, v2⟩ := evsl_ofF f (h12.2 2 (by decide))
    obtain ⟨e3, w3, v3⟩ := evsl_ofF f (h12.2 3 (by decide))
    obtain ⟨e4, w4, v4⟩ := evsl_ofF f (h12.2 4 (by decide))
    obtain ⟨e5, w5, v5⟩ := evsl_ofF f (h12.2 5 (by decide))
    refine ⟨⟨st, sk, ki, sp, mx, my, d0, d1, d2, d3, d4, d5, e0, e1, e2, e3, e4, e5⟩, ⟨_, rfl⟩, ⟨rfl, by simp [D.cells, D.one], fun i c d hc hd => ?_⟩, q0, q2, q3, q4, q5, v0, v1, v2, v3, v4, v5⟩
    match i, hc, hd with
    | 0, hc, hd | 1, hc, hd | 2, hc, hd | 3, hc, hd | 4, hc, hd | 5, hc, hd | 6, hc, hd | 7, hc, hd | 8, hc, hd | 9, hc, hd | 10, hc, hd | 11, hc, hd => cases hc; cases hd; exact DWeak.refl _
    | 12, hc, hd => cases hc; cases hd; exact w0
    | 13, hc, hd => cases hc; cases hd; exact w1
    | 14, hc, hd => cases hc; cases hd; exact w2
    | 15, hc, hd => cases hc; cases hd; exact w3
    | 16, hc, hd => cases hc; cases hd; exact w4
    | 17, hc, hd => cases hc; cases hd; exact w5
    | i + 18, hc, hd => simp [D.cells] at hc
/-- lists, element by element -/
theorem list_of {α : Type} {P : D → Prop} {R : D → α → Prop} {I : α → Prop} (mk : ∀ x, P x → ∃ a, R x a ∧ I a) : ∀ es : List D, (∀ x ∈ es, P x) → ∃ l : List α, es.length = l.length ∧ (∀ (i : Nat) (x : D) (a : α), es[i]? = some x → l[i]? = some a → R x a) ∧ ∀ a ∈ l, I a
  | [], _ => ⟨[], rfl, by simp, by simp⟩
  | x :: r, h => by
    obtain ⟨a, h1, h2⟩ := mk x (h x (by simp))
    obtain ⟨l, g1, g2, g3⟩ := list_of mk r fun y hy => h y (by simp [hy])
    refine ⟨a :: l, by simp [g1], fun i y b hy hb => ?_, fun b hb => ?_⟩
    · cases i with
      | zero => simp at hy hb; subst hy; subst hb; exact h1
      | succ i => exact g2 i y b (by simpa using hy) (by simpa using hb)
    · rcases List.mem_cons.1 hb with rfl | hb
      · exact h2
      · exact g3 b hb
def Big (n : Nat) : Prop := n ≤ 9223372036854775807
structure RwI (r : Rw) : Prop where
  id : I64 r.id
  quant : I64 r.quant
  len : Big r.cells.length
  cells : ∀ c ∈ r.cells, CelI c
theorem cells_ofF (f : Nat) {d : D} (h : [d] = [.nils] ∨ ∃ es, [d] = [.sl 18 es] ∧ es.length ≤ 9223372036854775807 ∧ ∀ x ∈ es, TyE (f + 5) 48 x) : ∃ l, DWeak d (.sl 18 (celsD l)) ∧ Big l.length ∧ ∀ c ∈ l, CelI c := by
  rcases h with h | ⟨es, h1, h2, h3⟩
  · obtain rfl : d = .nils := by simpa using h
    exact ⟨[], DWeak.nils 18, by unfold Big; decide, by simp⟩
  · obtain rfl : d = .sl 18 es := by simpa using h1
    obtain ⟨l, g1, g2, g3⟩ := list_of (R := fun x c => CW x (celD c)) (I := CelI) (fun x hx => by
      obtain ⟨c, _, h1, h2⟩ := cel_ofF f x hx
      exact ⟨c, h1, h2⟩) es h3
    refine ⟨l, DWeak.sl (by rw [celsD_len]; exact g1) (fun i e c he hc => ?_), by unfold Big; omega, g3⟩
    have hi : i < l.length := by have := getElem?_lt he; omega
    have : (celsD l)[i]? = some (celD l[i]) := by simp [celsD, hi]
    rw [this] at hc; cases hc
    exact g2 i e _ he (List.getElem?_eq_getElem hi)
theorem row_ofF (f : Nat) (x : D) (h : TyE (f + 7) 70 x) : ∃ r : Rw, CW x (rwD r) ∧ RwI r := by
  obtain ⟨hc, ha⟩ := h
  obtain ⟨l, rfl⟩ := ha rfl
  change l.length = 4 ∧ ∀ o t', (o, t') ∈ [((0 : Nat), (4 : Nat)), (1, 3), (2, 3), (3, 68)] → TyC tys (f + 6) t' ((l.drop o).take (szT tys t')) at hc
  obtain ⟨hl, hf⟩ := hc
  have h0 := hf 0 4 (by simp)
  have h1 := hf 1 3 (by simp)
  have h2 := hf 2 3 (by simp)
  have h3 := hf 3 68 (by simp)
  match l, hl with
  | [a, b, c, d], _ =>
    obtain ⟨hd, rfl⟩ := bool_of h0
    obtain ⟨id, rfl, r1⟩ := int_of h1
    obtain ⟨q, rfl, r2⟩ := int_of h2
    obtain ⟨cs, w, k1, k2⟩ := cells_ofF f h3
    refine ⟨⟨hd, id, q, cs⟩, ⟨rfl, by simp [D.cells, D.one], fun i c d hc hd => ?_⟩, r1, r2, k1, k2⟩
    match i, hc, hd with
    | 0, hc, hd | 1, hc, hd | 2, hc, hd => cases hc; cases hd; exact DWeak.refl _
    | 3, hc, hd => cases hc; cases hd; exact w
    | i + 4, hc, hd => simp [D.cells] at hc
theorem rows_ofF (f : Nat) {d : D} (h : [d] = [.nils] ∨ ∃ es, [d] = [.sl 4 es] ∧ es.length ≤ 9223372036854775807 ∧ ∀ x ∈ es, TyE (f + 7) 70 x) : ∃ l, DWeak d (.sl 4 (rsD l)) ∧ Big l.length ∧ ∀ r ∈ l, RwI r := by
  rcases h with h | ⟨es, h1, h2, h3⟩
  · obtain rfl : d = .nils := by simpa using h
    exact ⟨[], DWeak.nils 4, by unfold Big; decide, by simp⟩
  · obtain rfl : d = .sl 4 es := by simpa using h1
    obtain ⟨l, g1, g2, g3⟩ := list_of (R := fun x c => CW x (rwD c)) (I := RwI) (fun x hx => row_ofF f x hx) es h3
    refine ⟨l, DWeak.sl (by rw [rsD_len]; exact g1) (fun i e c he hc => ?_), by unfold Big; omega, g3⟩
    have hi : i < l.length := by have := getElem?_lt he; omega
    have : (rsD l)[i]? = some (rwD l[i]) := by simp [rsD, hi]
    rw [this] at hc; cases hc
    exact g2 i e _ he (List.getElem?_eq_getElem hi)
theorem supp_ofF (f : Nat) {d : D} (h : [d] = [.nils] ∨ ∃ es, [d] = [.sl 1 es] ∧ es.length ≤ 9223372036854775807 ∧ ∀ x ∈ es, TyE (f + 1) 3 x) : ∃ l, DWeak d (.sl 1 (suD l)) ∧ Big l.length ∧ ∀ n ∈ l, I64 n := by
  rcases h with h | ⟨es, h1, h2, h3⟩
  · obtain rfl : d = .nils := by simpa using h
    exact ⟨[], DWeak.nils 1, by unfold Big; decide, by simp⟩
  · obtain rfl : d = .sl 1 es := by simpa using h1
    obtain ⟨l, g1, g2, g3⟩ := list_of (R := fun x (n : Int) => x.cells = [In n]) (I := I64) (fun x hx => by
      obtain ⟨n, e1, e2⟩ := hx.1
      exact ⟨n, e1, bd_i64 e2⟩) es h3
    refine ⟨l, DWeak.sl (by rw [suD_len]; exact g1) (fun i e c he hc => ?_), by unfold Big; omega, g3⟩
    have hi : i < l.length := by have := getElem?_lt he; omega
    have : (suD l)[i]? = some (In l[i]) := by simp [suD, hi]
    rw [this] at hc; cases hc
    have hcell := g2 i e _ he (List.getElem?_eq_getElem hi)
    refine ⟨by rw [hcell]; rfl, by simp [D.cells, D.one], fun j c d hc hd => ?_⟩
    rw [hcell] at hc
    cases j with
    | zero => cases hc; cases hd; exact DWeak.refl _
    | succ j => simp at hc
structure StI (h : Hd) (rs : List Rw) (z : Int) : Prop where
  ref : I64 h.ref
  flags : I64 h.flags
  fmt : I64 h.fmt
  quant : I64 h.quant
  zeros : I64 z
  supl : Big h.supp.length
  supp : ∀ n ∈ h.supp, I64 n
  len : Big rs.length
  rows : ∀ r ∈ rs, RwI r
theorem sheet_ofF (f : Nat) (x : D) (h : TyE (f + 9) 25 x) : ∃ (hd : Hd) (rs : List Rw) (z : Int), (∃ l, x = .agg l) ∧ CW x (shD hd (rsD rs) z) ∧ StI hd rs z := by
  obtain ⟨hc, ha⟩ := h
  obtain ⟨l, rfl⟩ := ha rfl
  change l.length = 8 ∧ ∀ o t', (o, t') ∈ [((0 : Nat), (3 : Nat)), (1, 3), (2, 3), (3, 4), (4, 3), (5, 22), (6, 23), (7, 3)] → TyC tys (f + 8) t' ((l.drop o).take (szT tys t')) at hc
  obtain ⟨hl, hf⟩ := hc
  have h0 := hf 0 3 (by simp)
  have h1 := hf 1 3 (by simp)
  have h2 := hf 2 3 (by simp)
  have h3 := hf 3 4 (by simp)
  have h4 := hf 4 3 (by simp)
  have h5 := hf 5 22 (by simp)
  have h6 := hf 6 23 (by simp)
  have h7 := hf 7 3 (by simp)
  clear hf
  match l, hl with
  | [a0, a1, a2, a3, a4, a5, a6, a7], _ =>
    obtain ⟨ref, rfl, q0⟩ := int_of h0
    obtain ⟨fl, rfl, q1⟩ := int_of h1
    obtain ⟨fm, rfl, q2⟩ := int_of h2
    obtain ⟨it, rfl⟩ := bool_of h3
    obtain ⟨qu, rfl, q4⟩ := int_of h4
    obtain ⟨su, w5, q5, q5'⟩ := supp_ofF (f + 6) h5
    obtain ⟨rs, w6, q6, q6'⟩ := rows_ofF f h6
    obtain ⟨z, rfl, q7⟩ := int_of h7
    refine ⟨⟨ref, fl, fm, it, qu, su⟩, rs, z, ⟨_, rfl⟩, ⟨rfl, by simp [D.cells, D.one], fun i c d hc hd => ?_⟩, q0, q1, q2, q4, q7, q5, q5', q6, q6'⟩
    match i, hc, hd with
    | 0, hc, hd | 1, hc, hd | 2, hc, hd | 3, hc, hd | 4, hc, hd | 7, hc, hd => cases hc; cases hd; exact DWeak.refl _
    | 5, hc, hd => cases hc; cases hd; exact w5
    | 6, hc, hd => cases hc; cases hd; exact w6
    | i + 8, hc, hd => simp [D.cells] at hc
end Go.Proofs.YtdihjnifoikbeaaDoor.Av.Sh
