/- An argument that reads as data is told by a data tree of its type. -/
import Derived.Test.YtammpekpmjboiaaDoorAv16
import Derived.OpenShut
import Derived.ChangeArms
import Derived.Carry
set_option linter.unusedVariables false
set_option linter.unusedSimpArgs false
namespace Go.Proofs.YtammpekpmjboiaaDoor.Av
open Go Go.RowKit Go.WideShapes

def szT (T : List (Nat × TI)) (t : Nat) : Nat := match lookT T t with | some ti => ti.size | none => 0
def agT (T : List (Nat × TI)) (t : Nat) : Bool := match lookT T t with | some ti => ti.agg | none => false

/-- Cells of some type. -/
def TyC (T : List (Nat × TI)) : Nat → Nat → List D → Prop
  | 0, _, _ => False
  | f + 1, t, cs => match lookT T t with
    | some ti => match ti.sh with
      | .bool => ∃ b, cs = [.bool b]
      | .int k => ∃ n, cs = [.int k n] ∧ (Lit.int k n).wf = true
      | .str => ∃ s, cs = [.str s] ∧ s.length ≤ 9223372036854775807
      | .slice e => cs = [.nils] ∨ ∃ es, cs = [.sl (szT T e) es] ∧ es.length ≤ 9223372036854775807 ∧ ∀ x ∈ es, TyC T f e x.cells ∧ (agT T e = true → ∃ l, x = .agg l)
      | .struct fs => cs.length = ti.size ∧ ∀ o t', (o, t') ∈ fs → TyC T f t' ((cs.drop o).take (szT T t'))
      | .array n e => cs.length = ti.size ∧ ∀ i, i < n → TyC T f e ((cs.drop (i * szT T e)).take (szT T e))
      | _ => False
    | none => False
/-- A value of some type. -/
def TyV (T : List (Nat × TI)) (f t : Nat) (x : D) : Prop := TyC T f t x.cells ∧ (agT T t = true → ∃ l, x = .agg l)

def contig (T : List (Nat × TI)) : Nat → List (Nat × Nat) → Option Nat
  | o, [] => some o
  | o, (o', t) :: r => bif Nat.beq o o' then contig T (o + szT T t) r else none
def goodT (T : List (Nat × TI)) : Nat → Nat → Bool
  | 0, _ => false
  | f + 1, t => match lookT T t with
    | some ti => match ti.sh with
      | .bool | .int _ | .str => true
      | .slice e => (goodT T f e && (agT T e || Nat.beq (szT T e) 1)) && Nat.ble 1 (szT T e)
      | .struct fs => ti.agg && (match contig T 0 fs with | some n => Nat.beq n ti.size | none => false) && fs.all fun x => goodT T f x.2
      | .array n e => ti.agg && Nat.beq (n * szT T e) ti.size && goodT T f e
      | _ => false
    | none => false

section
variable {Γ : Ctx} {W : World} {H : Type} {enc : TypeId × Value → H} {base : Nat} {spare : Nat → Bool} {held : Bool}

structure Told (T : List (Nat × TI)) (imm : Nat → List Value) (f t : Nat) (vs : List Value) (cs : List D) : Prop where
  len : cs.length = vs.length
  one : ∀ c ∈ cs, c.one = true
  rel : ∀ (i : Nat) (c : D), cs[i]? = some c → DRel imm (gv vs i) c
  ty : TyC T f t cs

theorem szT_eq {t : Nat} {ti : TI} (h : lookT Γ.T t = some ti) : szT Γ.T t = ti.size := by simp [szT, h]
theorem cellsOf_eq {t : Nat} {ti : TI} (f : TyFacts Γ.P t ti) : Γ.P.cellsOf t = ti.size := by simp [Program.cellsOf, f.info, f.size]

theorem told_list {T : List (Nat × TI)} {imm : Nat → List Value} {f e sz : Nat} {vs : List Value} (n : Nat) (hv : n * sz ≤ vs.length) (h : ∀ i, i < n → ∃ cs, Told T imm f e ((vs.drop (i * sz)).take sz) cs) :
    ∃ cs : List D, cs.length = n * sz ∧ (∀ c ∈ cs, c.one = true) ∧ (∀ (i : Nat) (c : D), cs[i]? = some c → DRel imm (gv vs i) c) ∧ ∀ i, i < n → TyC T f e ((cs.drop (i * sz)).take sz) := by
  induction n with
  | zero => exact ⟨[], by simp, by simp, by simp, fun i hi => absurd hi (by omega)⟩
  | succ n ih =>
    have hm : n * sz + sz ≤ vs.length := by rw [← Nat.succ_mul]; exact hv
    obtain ⟨cs, c1, c2, c3, c4⟩ := ih (by omega) (fun i hi => h i (by omega))
    obtain ⟨ds, d1, d2, d3, d4⟩ := h n (by omega)
    have hds : ds.length = sz := by rw [d1]; simp; omega
    refine ⟨cs ++ ds, by simp [c1, hds, Nat.succ_mul], fun c hc => by rcases List.mem_append.1 hc with h | h; exact c2 c h; exact d2 c h, fun i c hc => ?_, fun i hi => ?_⟩
    · rcases Nat.lt_or_ge i cs.length with hl | hl
      · rw [List.getElem?_append_left hl] at hc; exact c3 i c hc
      · rw [List.getElem?_append_right hl] at hc
        have := d3 _ c hc
        have hlt := getElem?_lt hc
        have e : gv ((vs.drop (n * sz)).take sz) (i - cs.length) = gv vs i := by
          simp only [gv, List.getD, drop_take_get, c1]
          rw [if_pos (by omega)]
          congr 3
          omega
        rwa [e] at this
    · rcases Nat.lt_or_ge i n with hl | hl
      · have hb : i * sz + sz ≤ n * sz := by rw [← Nat.succ_mul]; exact Nat.mul_le_mul_right _ hl
        have e : ((cs ++ ds).drop (i * sz)).take sz = (cs.drop (i * sz)).take sz := by
          rw [List.drop_append_of_le_length (by omega), List.take_append_of_le_length (by simp; omega)]
        rw [e]; exact c4 i hl
      · obtain rfl : i = n := by omega
        have e : ((cs ++ ds).drop (i * sz)).take sz = ds := by
          rw [← c1, List.drop_left, List.take_of_length_le (by omega)]
        rw [e]; exact d4

theorem told_fields {f : Nat} {vs : List Value} (IH : ∀ t, goodT Γ.T f t = true → ∀ (fuel : Nat) (us : List Value) x, DataW.trod enc Γ.P W base spare held fuel t us = some x → ∃ cs, Told Γ.T (immOf W) f t us cs) (m : Nat) :
    ∀ (gs : List Field) (fs : List (Nat × Nat)) (o n : Nat), fieldsOk Γ.P gs fs = true → contig Γ.T o fs = some n → (∀ x ∈ fs, goodT Γ.T f x.2 = true) → n ≤ vs.length →
      (∀ g ∈ gs, ∃ x, DataW.trod enc Γ.P W base spare held m g.type ((vs.drop g.offset).take (Γ.P.cellsOf g.type)) = some x) →
      ∃ cs : List D, o + cs.length = n ∧ (∀ c ∈ cs, c.one = true) ∧ (∀ (i : Nat) (c : D), cs[i]? = some c → DRel (immOf W) (gv vs (o + i)) c) ∧
        ∀ o' t', (o', t') ∈ fs → o ≤ o' ∧ TyC Γ.T f t' ((cs.drop (o' - o)).take (szT Γ.T t'))
  | [], [], o, n, _, hc, _, _, _ => by
    simp [contig] at hc; subst hc
    exact ⟨[], by simp, by simp, by simp, fun o' t' h => by simp at h⟩
  | [], _ :: _, _, _, h, _, _, _, _ => by simp [fieldsOk] at h
  | _ :: _, [], _, _, h, _, _, _, _ => by simp [fieldsOk] at h
  | g :: gs, (o1, t1) :: fs, o, n, hf, hc, hg, hn, ht => by
    simp only [fieldsOk, Bool.and_eq_true, beq_iff_eq] at hf
    obtain ⟨⟨⟨h1, h2⟩, h3⟩, h4⟩ := hf
    simp only [contig] at hc
    cases hb : Nat.beq o o1 with
    | false => rw [hb] at hc; cases hc
    | true =>
      rw [hb, cond_true] at hc
      have := Nat.eq_of_beq_eq_true hb
      subst this
      obtain ⟨cs, c1, c2, c3, c4⟩ := told_fields IH m gs fs _ n h4 hc (fun x hx => hg x (by simp [hx])) hn (fun g' hg' => ht g' (by simp [hg']))
      obtain ⟨x, hx⟩ := ht g (by simp)
      rw [h1, h2] at hx
      have hgt := hg (o, t1) (by simp)
      obtain ⟨ds, d1, d2, d3, d4⟩ := IH t1 hgt m _ x hx
      have hcell : Γ.P.cellsOf t1 = szT Γ.T t1 := by
        cases hl : lookT Γ.T t1 with
        | none => cases f <;> simp [goodT, hl] at hgt
        | some ti => obtain ⟨fa⟩ := Γ.ty hl; rw [cellsOf_eq fa, szT_eq hl]
      rw [hcell] at d1 d3
      have hds : ds.length = szT Γ.T t1 := by rw [d1]; simp; omega
      refine ⟨ds ++ cs, by simp [hds]; omega, fun c hc => by rcases List.mem_append.1 hc with h | h; exact d2 c h; exact c2 c h, fun i c hc => ?_, fun o' t' hm => ?_⟩
      · rcases Nat.lt_or_ge i ds.length with hl | hl
        · rw [List.getElem?_append_left hl] at hc
          have := d3 i c hc
          have e : gv ((vs.drop o).take (szT Γ.T t1)) i = gv vs (o + i) := by
            simp only [gv, List.getD, drop_take_get]; rw [if_pos (by omega)]
          rwa [e] at this
        · rw [List.getElem?_append_right hl] at hc
          have := c3 _ c hc
          have e : o + szT Γ.T t1 + (i - ds.length) = o + i := by omega
          rwa [e] at this
      · rcases List.mem_cons.1 hm with h | h
        · cases h
          refine ⟨Nat.le_refl _, ?_⟩
          rw [Nat.sub_self, List.drop_zero, ← hds, List.take_left]; exact d4
        · obtain ⟨e1, e2⟩ := c4 o' t' h
          refine ⟨by omega, ?_⟩
          have e : (ds ++ cs).drop (o' - o) = cs.drop (o' - (o + szT Γ.T t1)) := by
            rw [List.drop_append, List.drop_eq_nil_of_le (by omega), List.nil_append]; congr 1; omega
          rw [e]; exact e2

theorem told_elems {f e sz : Nat} {b o : Nat} {T : List (Nat × TI)} {imm : Nat → List Value} (hag : agT T e = true ∨ sz = 1) (n : Nat) (h : ∀ i, i < n → ∃ us cs, us.length = sz ∧ o + i * sz + sz ≤ (imm b).length ∧ (∀ j, j < sz → gv (imm b) (o + i * sz + j) = gv us j) ∧ Told T imm f e us cs) :
    ∃ es : List D, es.length = n ∧ ∀ (i : Nat) (x : D), es[i]? = some x → o + i * sz + sz ≤ (imm b).length ∧ x.cells.length = sz ∧ (∀ c ∈ x.cells, c.one = true) ∧ (∀ (j : Nat) (c : D), x.cells[j]? = some c → DRel imm (gv (imm b) (o + i * sz + j)) c) ∧
      TyC T f e x.cells ∧ (agT T e = true → ∃ l, x = .agg l) := by
  induction n with
  | zero => exact ⟨[], rfl, fun i x h => by simp at h⟩
  | succ n ih =>
    obtain ⟨es, e1, e2⟩ := ih (fun i hi => h i (by omega))
    obtain ⟨us, cs, u1, u2, u3, t1, t2, t3, t4⟩ := h n (by omega)
    have key : ∃ x : D, x.cells = cs ∧ (agT T e = true → ∃ l, x = .agg l) := by
      rcases hag with ha | ha
      · exact ⟨.agg cs, rfl, fun _ => ⟨_, rfl⟩⟩
      · cases hq : agT T e with
        | true => exact ⟨.agg cs, rfl, fun _ => ⟨_, rfl⟩⟩
        | false =>
          match cs, t1, t2 with
          | [c], _, t2 =>
            refine ⟨c, ?_, fun h => by cases h⟩
            have := t2 c (by simp)
            cases c <;> first | rfl | (simp [D.one] at this)
          | [], t1, _ => simp [u1, ha] at t1
          | _ :: _ :: _, t1, _ => simp [u1, ha] at t1
    obtain ⟨x, hx, hxa⟩ := key
    refine ⟨es ++ [x], by simp [e1], fun i y hy => ?_⟩
    rcases Nat.lt_or_ge i es.length with hl | hl
    · rw [List.getElem?_append_left hl] at hy; exact e2 i y hy
    · rw [List.getElem?_append_right hl] at hy
      have hi : i = n := by have := getElem?_lt hy; simp at this; omega
      subst hi
      rw [e1, Nat.sub_self] at hy
      simp at hy; subst hy
      rw [hx]
      refine ⟨u2, by omega, t2, fun j c hc => ?_, t4, hxa⟩
      rw [u3 j (by have := getElem?_lt hc; omega)]
      exact t3 j c hc

theorem trod_told : ∀ (f t : Nat), goodT Γ.T f t = true → ∀ (fuel : Nat) (us : List Value) x, DataW.trod enc Γ.P W base spare held fuel t us = some x → ∃ cs, Told Γ.T (immOf W) f t us cs
  | 0, _, h, _, _, _, _ => by simp [goodT] at h
  | f + 1, t, hg, fuel, us, x, hx => by
    simp only [goodT] at hg
    cases hl : lookT Γ.T t with
    | none => simp [hl] at hg
    | some ti =>
      rw [hl] at hg
      simp only at hg
      obtain ⟨fa⟩ := Γ.ty hl
      cases hs : ti.sh with
      | other => simp [hs] at hg
      | map _ _ => simp [hs] at hg
      | ptr _ => simp [hs] at hg
      | bool =>
        obtain ⟨b, rfl, _⟩ := DataW.trod_bool (und_bool fa hs) hx
        exact ⟨[.bool b], rfl, by simp [D.one], fun i c hc => by
          match i, hc with
          | 0, hc => simp at hc; subst hc; exact .bool b
          | n + 1, hc => simp at hc, by simp only [TyC, hl, hs]; exact ⟨b, rfl⟩⟩
      | int k =>
        obtain ⟨n, rfl, _, hw⟩ := DataW.trod_int (und_int fa hs) hx
        exact ⟨[.int k n], rfl, by simp [D.one], fun i c hc => by
          match i, hc with
          | 0, hc => simp at hc; subst hc; exact .int k n
          | n + 1, hc => simp at hc, by simp only [TyC, hl, hs]; exact ⟨n, rfl, hw⟩⟩
      | str =>
        obtain ⟨s, rfl, _, hw⟩ := DataW.trod_string (und_str fa hs) hx
        exact ⟨[.str s.data.toList], rfl, by simp [D.one], fun i c hc => by
          match i, hc with
          | 0, hc => simp at hc; subst hc; exact .str s
          | n + 1, hc => simp at hc, by simp only [TyC, hl, hs]; exact ⟨_, rfl, by rw [Array.length_toList]; exact hw⟩⟩
      | struct fs =>
        rw [hs] at hg
        simp only [Bool.and_eq_true, List.all_eq_true] at hg
        obtain ⟨⟨h0, h1⟩, h2⟩ := hg
        obtain ⟨gs, g1, g2⟩ := und_struct fa hs
        obtain ⟨xs, m, rfl, rfl, hlen, hxl, hxs⟩ := DataW.trod_struct g1 hx
        rw [cellsOf_eq fa] at hlen
        cases hc : contig Γ.T 0 fs with
        | none => rw [hc] at h1; cases h1
        | some n =>
          rw [hc] at h1
          have hn := Nat.eq_of_beq_eq_true h1
          obtain ⟨cs, c1, c2, c3, c4⟩ := told_fields (vs := us) (fun t' ht' fuel' us' x' hx' => trod_told f t' ht' fuel' us' x' hx') m gs.toList fs 0 n g2 hc h2 (by omega) (fun g hg => by
            obtain ⟨i, hi⟩ := List.getElem?_of_mem hg
            have := hxs i g (by simpa using hi)
            have hlt := getElem?_lt hi
            rw [this]
            exact ⟨xs[i]'(by simp at hlt; omega), by simp⟩)
          refine ⟨cs, by omega, c2, fun i c hc => by simpa using c3 i c hc, ?_⟩
          simp only [TyC, hl, hs]
          exact ⟨by omega, fun o' t' hm => by simpa using (c4 o' t' hm).2⟩
      | array n e =>
        rw [hs] at hg
        simp only [Bool.and_eq_true] at hg
        obtain ⟨⟨h0, h1⟩, h2⟩ := hg
        have hn := Nat.eq_of_beq_eq_true h1
        obtain ⟨xs, m, rfl, rfl, hlen, hxl, hxs⟩ := DataW.trod_array (und_array fa hs) hx
        rw [cellsOf_eq fa] at hlen
        have hcell : Γ.P.cellsOf e = szT Γ.T e := by
          cases hl' : lookT Γ.T e with
          | none => cases f <;> simp [goodT, hl'] at h2
          | some te => obtain ⟨fe⟩ := Γ.ty hl'; rw [cellsOf_eq fe, szT_eq hl']
        rw [hcell] at hxs
        obtain ⟨cs, c1, c2, c3, c4⟩ := told_list (T := Γ.T) (imm := immOf W) (f := f) (e := e) (sz := szT Γ.T e) (vs := us) n (by omega) (fun i hi => by
          have := hxs i hi
          have : DataW.trod enc Γ.P W base spare held m e ((us.drop (i * szT Γ.T e)).take (szT Γ.T e)) = some (xs[i]'(by omega)) := by rw [this]; simp [hxl, hi]
          exact trod_told f e h2 m _ _ this)
        refine ⟨cs, by omega, c2, c3, ?_⟩
        simp only [TyC, hl, hs]
        exact ⟨by omega, c4⟩
      | slice e =>
        rw [hs] at hg
        simp only [Bool.and_eq_true, Bool.or_eq_true] at hg
        obtain ⟨⟨h2, h3⟩, h4⟩ := hg
        have hsz := Nat.le_of_ble_eq_true h4
        have hcell : Γ.P.cellsOf e = szT Γ.T e := by
          cases hl' : lookT Γ.T e with
          | none => cases f <;> simp [goodT, hl'] at h2
          | some te => obtain ⟨fe⟩ := Γ.ty hl'; rw [cellsOf_eq fe, szT_eq hl']
        rcases DataW.trod_slice (und_slice fa hs) hx with ⟨rfl, _⟩ | ⟨a, len, cap, elems, rest, m, rfl, rfl, rfl, hb, hlc, hcm, hlen, hel, _⟩
        · exact ⟨[.nils], rfl, by simp [D.one], fun i c hc => by
            match i, hc with
            | 0, hc => simp at hc; subst hc; exact .nils
            | n + 1, hc => simp at hc, by simp only [TyC, hl, hs]; exact .inl trivial⟩
        · rw [hcell] at hel
          have tel : ∀ i, i < len → ∃ us, W.cells? base (a.add (i * szT Γ.T e)) (szT Γ.T e) = some us ∧ ∃ y, DataW.trod enc Γ.P W base spare held m e us = some y := fun i hi => by
            have := hel i hi
            rw [List.getElem?_eq_getElem (by omega)] at this
            obtain ⟨us, h1, h2⟩ := Option.bind_eq_some_iff.1 this
            exact ⟨us, h1, _, h2⟩
          have mk1 : ∀ (d : D), d.one = true → DRel (immOf W) (.slice (some a) len cap) d → TyC Γ.T (f + 1) t [d] → ∃ cs, Told Γ.T (immOf W) (f + 1) t [.slice (some a) len cap] cs := fun d h1 h2 h3 =>
            ⟨[d], rfl, by simpa using h1, fun i c hc => by
              match i, hc with
              | 0, hc => simp at hc; subst hc; exact h2
              | n + 1, hc => simp at hc, h3⟩
          rcases Nat.eq_zero_or_pos len with h0 | hpos
          · subst h0
            exact mk1 (.sl (szT Γ.T e) []) rfl (.sl0 (some a) cap _) (by simp only [TyC, hl, hs]; exact .inr ⟨[], rfl, by simp, by simp⟩)
          · obtain ⟨u0, c0, y0, ty0⟩ := tel 0 hpos
            obtain ⟨blk, off, spot⟩ := a
            have hspot : spot = none := by
              have h := (World.cells?_some c0).2.2 0 hsz
              have hl0 := (World.cells?_some c0).2.1
              rw [List.getElem?_eq_getElem (by omega)] at h
              have := World.cell?_spot h
              simpa [Addr.add] using this
            subst hspot
            have hc3 : agT Γ.T e = true ∨ szT Γ.T e = 1 := by
              rcases h3 with h | h
              · exact .inl h
              · exact .inr (Nat.eq_of_beq_eq_true h)
            obtain ⟨es, e1, e2⟩ := told_elems (T := Γ.T) (imm := immOf W) (f := f) (e := e) (sz := szT Γ.T e) (b := blk) (o := off) hc3 len (fun i hi => by
              obtain ⟨us, h1, y, hy⟩ := tel i hi
              obtain ⟨_, hul, hcl⟩ := World.cells?_some h1
              obtain ⟨cs, hcs⟩ := trod_told f e h2 m _ _ hy
              have cell : ∀ j, j < szT Γ.T e → off + i * szT Γ.T e + j < (immOf W blk).length ∧ gv (immOf W blk) (off + i * szT Γ.T e + j) = gv us j := fun j hj => by
                have := hcl j hj
                rw [Addr.add_lit, Addr.add_lit, List.getElem?_eq_getElem (by omega)] at this
                have h := imm_of_cell this
                exact ⟨h.1, by rw [h.2]; simp [gv, List.getD, hul, hj]⟩
              refine ⟨us, cs, hul, ?_, fun j hj => (cell j hj).2, hcs⟩
              have := (cell (szT Γ.T e - 1) (by omega)).1
              omega)
            have hin : off + es.length * szT Γ.T e ≤ (immOf W blk).length := by
              have hlt : len - 1 < es.length := by omega
              have := (e2 (len - 1) es[len - 1] (by simp [hlt])).1
              rw [e1]
              have e3 : len * szT Γ.T e = (len - 1) * szT Γ.T e + szT Γ.T e := by rw [← Nat.succ_mul]; congr 1; omega
              omega
            have el : ∀ x ∈ es, x.cells.length = szT Γ.T e ∧ (∀ c ∈ x.cells, c.one = true) ∧ TyC Γ.T f e x.cells ∧ (agT Γ.T e = true → ∃ l, x = .agg l) := fun x hx => by
              obtain ⟨i, hi⟩ := List.getElem?_of_mem hx
              have := e2 i x hi
              exact ⟨this.2.1, this.2.2.1, this.2.2.2.2⟩
            refine mk1 (.sl (szT Γ.T e) es) rfl ?_ ?_
            · subst e1
              exact .sl blk off cap (szT Γ.T e) es (by intro h; simp [h] at hpos) hlc (fun x hx => (el x hx).1) (fun x hx => (el x hx).2.1) hin (fun i x j c hx hc => (e2 i x hx).2.2.2.1 j c hc)
            · simp only [TyC, hl, hs]
              exact .inr ⟨es, rfl, by rw [e1]; exact Nat.le_trans hlc hcm, fun x hx => (el x hx).2.2⟩
theorem okWide_array {P : Program} {w : World} {r : Reach} {b0 t n e : Nat} {v : Value} (ht : P.underlying t = some (.array n e)) (h : Value.okWide P w r b0 t v) : ∃ cs, v = .agg cs := by
  simp only [Value.okWide, ht] at h
  obtain ⟨cs, h1, _⟩ := h
  exact ⟨cs, h1⟩
/-- AN ARGUMENT THAT READS AS DATA. -/
theorem trod_val {f t : Nat} {b0 : Nat} {r : Reach} (hg : goodT Γ.T f t = true) {v : Value} {d : DataW H} {ps : List MemPlace} (hv : Value.okWide Γ.P W r b0 t v) (h : DataW.Trod enc Γ.P W base spare held t v d ps) :
    ∃ x : D, DRel (immOf W) v x ∧ TyV Γ.T f t x := by
  obtain ⟨fuel, h⟩ := h
  obtain ⟨cs, c1, c2, c3, c4⟩ := trod_told f t hg fuel _ _ h
  cases f with
  | zero => simp [goodT] at hg
  | succ f =>
    simp only [goodT] at hg
    cases hl : lookT Γ.T t with
    | none => simp [hl] at hg
    | some ti =>
      rw [hl] at hg
      simp only at hg
      obtain ⟨fa⟩ := Γ.ty hl
      have agg : (∃ vs, v = .agg vs) → ∃ x : D, DRel (immOf W) v x ∧ TyV Γ.T (f + 1) t x := by
        rintro ⟨vs, rfl⟩
        exact ⟨.agg cs, .agg vs cs (by simpa [Value.cells] using c1.symm) c2 c3, c4, fun _ => ⟨cs, rfl⟩⟩
      have one : v.cells = #[v] → ti.agg = false → (∃ c, cs = [c]) → ∃ x : D, DRel (immOf W) v x ∧ TyV Γ.T (f + 1) t x := by
        rintro hv1 ha ⟨c, rfl⟩
        have h1 := c2 c (by simp)
        have hr := c3 0 c rfl
        rw [hv1] at hr
        have hcc : c.cells = [c] := by cases c <;> first | rfl | (simp [D.one] at h1)
        exact ⟨c, by simpa [gv] using hr, by rw [hcc]; exact c4, fun h => by simp [agT, hl, ha] at h⟩
      have nag : isRowB (Γ.P.underlying t) = false → ti.agg = false := fun h => by
        have := fa.agg; rw [← fa.und, h] at this; exact this.symm
      cases hs : ti.sh with
      | other => simp [hs] at hg
      | map _ _ => simp [hs] at hg
      | ptr _ => simp [hs] at hg
      | bool =>
        obtain ⟨b, rfl⟩ := okWide_bool (und_bool fa hs) hv
        simp only [TyC, hl, hs] at c4
        obtain ⟨b', rfl⟩ := c4
        exact one rfl (nag (by rw [und_bool fa hs]; rfl)) ⟨_, rfl⟩
      | int k =>
        obtain ⟨n, rfl⟩ := okWide_int (und_int fa hs) hv
        have c4' := c4
        simp only [TyC, hl, hs] at c4'
        obtain ⟨n', rfl, _⟩ := c4'
        exact one rfl (nag (by rw [und_int fa hs]; rfl)) ⟨_, rfl⟩
      | str =>
        obtain ⟨n, rfl⟩ := okWide_string (und_str fa hs) hv
        have c4' := c4
        simp only [TyC, hl, hs] at c4'
        obtain ⟨n', rfl, _⟩ := c4'
        exact one rfl (nag (by rw [und_str fa hs]; rfl)) ⟨_, rfl⟩
      | slice e =>
        obtain ⟨a, n, m, rfl⟩ := okWide_slice (und_slice fa hs) hv
        have c4' := c4
        simp only [TyC, hl, hs] at c4'
        rcases c4' with rfl | ⟨es, rfl, _⟩
        · exact one rfl (nag (by rw [und_slice fa hs]; rfl)) ⟨_, rfl⟩
        · exact one rfl (nag (by rw [und_slice fa hs]; rfl)) ⟨_, rfl⟩
      | struct fs =>
        obtain ⟨gs, g1, g2⟩ := und_struct fa hs
        obtain ⟨vs, rfl, _⟩ := okWide_struct g1 hv
        exact agg ⟨vs, rfl⟩
      | array n e =>
        have hf := hv
        have hu := und_array fa hs
        exact agg (okWide_array hu hv)
end
end Go.Proofs.YtammpekpmjboiaaDoor.Av
