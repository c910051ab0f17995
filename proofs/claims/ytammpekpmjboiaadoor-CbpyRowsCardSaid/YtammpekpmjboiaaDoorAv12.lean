/- Structs and arrays built. -/
import Derived.Test.YtammpekpmjboiaaDoorAv11
import Derived.DataShut
set_option linter.unusedVariables false
set_option linter.unusedSimpArgs false
namespace Go.Proofs.YtammpekpmjboiaaDoor.Av
open Go Go.RowKit

def placeS (T : List (Nat × TI)) (fs : List (Nat × Nat)) (i : Nat) : Option (Nat × Nat) :=
  match fs[i]? with
  | some (o, ft) => match lookT T ft with | some ti => some (o, ti.size) | none => none
  | none => none
def placeR (n : Nat) (i : Nat) : Option (Nat × Nat) := some (i * n, n)
def placesA (T : List (Nat × TI)) : Sh → Option (Nat → Option (Nat × Nat))
  | .struct fs => some (placeS T fs)
  | .array _ e => match lookT T e with | some ti => some (placeR ti.size) | none => none
  | _ => none
def fillA (pl : Nat → Option (Nat × Nat)) : List (Nat × AV) → List AV → Option (List AV)
  | [], cs => some cs
  | (i, u) :: r, cs => match u.frc with
    | some (_, v) => match pl i with
      | some (o, n) => bif Nat.beq v.cells.length n && Nat.ble (o + n) cs.length && allOne v.cells then fillA pl r (spliceA cs o v.cells) else none
      | none => none
    | none => none
def buildA (Γ : Ctx) (env : Env) (t : Nat) (parts : Array (Nat × Operand)) : Option AV :=
  match lookT Γ.T t with
  | some ti => match placesA Γ.T ti.sh with
    | some pl => match fillA pl (parts.toList.map fun p => (p.1, ev Γ env p.2)) (ti.zero.map .d) with
      | some cs => some (mkAgg cs)
      | none => none
    | none => none
  | none => none

theorem places_struct {P : Program} : ∀ {fields : List Field} {fs : List (Nat × Nat)}, fieldsOk P fields fs = true →
    ∃ places, fields.mapM (fun f => (P.info? f.type).map fun i => (f.offset, i.size)) = some places ∧ ∀ (i o t : Nat) (inf : TypeInfo), fs[i]? = some (o, t) → P.info? t = some inf → places[i]? = some (o, inf.size)
  | [], [], _ => ⟨[], by simp, by simp⟩
  | [], _ :: _, h => by simp [fieldsOk] at h
  | _ :: _, [], h => by simp [fieldsOk] at h
  | f :: fields, (o, t) :: fs, h => by
    simp only [fieldsOk, Bool.and_eq_true, beq_iff_eq] at h
    obtain ⟨⟨⟨h1, h2⟩, h3⟩, h4⟩ := h
    obtain ⟨places, p1, p2⟩ := places_struct h4
    cases hi : P.info? f.type with
    | none => rw [hi] at h3; cases h3
    | some inf =>
      refine ⟨(f.offset, inf.size) :: places, by simp [List.mapM_cons, hi, p1], fun i o' t' inf' hg hi' => ?_⟩
      cases i with
      | zero =>
        simp only [List.getElem?_cons_zero, Option.some.injEq, Prod.mk.injEq] at hg ⊢
        obtain ⟨rfl, rfl⟩ := hg
        rw [← h2, hi] at hi'; cases hi'
        exact ⟨h1, rfl⟩
      | succ i => simpa using p2 i o' t' inf' (by simpa using hg) hi'

section
variable {Γ : Ctx} {nt n0 : Nat} {k : List It} {Q : Post} {env : Env} {H : List AObj} {G : Ghost} {w w' : World} {a : Act}

theorem fillA_ok (hW : WRel Γ.gl G H w) (hF : FRel G nt a.tmps env) {pl pl' : Nat → Option (Nat × Nat)} (hpl : ∀ i x, pl i = some x → pl' i = some x) : ∀ (l : List (Nat × Operand)) {cs cs' : List AV} {cur : Array Value},
    cur.size = cs.length → (∀ c ∈ cs, c.one = true) → (∀ (i : Nat) (c : AV), cs[i]? = some c → VRel G (gv cur.toList i) c) → fillA pl (l.map fun p => (p.1, ev Γ env p.2)) cs = some cs' →
    ∃ r, Instr.fill pl' cur (l.map fun p => (p.1, a.eval p.2)) = some r ∧ r.size = cs'.length ∧ (∀ c ∈ cs', c.one = true) ∧ ∀ (i : Nat) (c : AV), cs'[i]? = some c → VRel G (gv r.toList i) c
  | [], cs, cs', cur, h1, h2, h3, h => by
    simp only [List.map_nil, fillA, Option.some.injEq] at h
    subst h
    exact ⟨cur, rfl, h1, h2, h3⟩
  | p :: l, cs, cs', cur, h1, h2, h3, h => by
    simp only [List.map_cons, fillA, frc_eq] at h
    split at h
    case h_2 => cases h
    rename_i o n hp
    cases hb : (Nat.beq (ev Γ env p.2).cells.length n && Nat.ble (o + n) cs.length && allOne (ev Γ env p.2).cells) with
    | false => rw [hb] at h; cases h
    | true =>
      rw [hb, cond_true] at h
      simp only [Bool.and_eq_true] at hb
      obtain ⟨⟨b1, b2⟩, b3⟩ := hb
      have b1 := Nat.eq_of_beq_eq_true b1
      have b2 := Nat.le_of_ble_eq_true b2
      obtain ⟨c1, c2⟩ := cells_rel (ev_ok hW hF p.2) b3
      have hput := put_at o (a.eval p.2).cells cur (by omega)
      have hle : o + (ev Γ env p.2).cells.length ≤ cs.length := by omega
      have hgetc : ∀ i, (((a.eval p.2).cells.zipIdx.foldl (fun cs (x : Value × Nat) => cs.setIfInBounds (o + x.2) x.1) cur).toList)[i]? = if o ≤ i ∧ i < o + (a.eval p.2).cells.size then (a.eval p.2).cells[i - o]? else cur[i]? := fun i => by
        rw [Array.getElem?_toList]; exact hput.2 i
      obtain ⟨r, r1, r2⟩ := fillA_ok hW hF hpl l (cs := spliceA cs o (ev Γ env p.2).cells) (cur := (a.eval p.2).cells.zipIdx.foldl (fun cs (x : Value × Nat) => cs.setIfInBounds (o + x.2) x.1) cur)
        (by rw [hput.1, h1]; simp [spliceA]; omega)
        (fun c hc => by
          unfold spliceA at hc
          simp only [List.mem_append] at hc
          rcases hc with (hc | hc) | hc
          · exact h2 c (List.mem_of_mem_take hc)
          · exact allOne_mem b3 c hc
          · exact h2 c (List.mem_of_mem_drop hc))
        (fun i c hc => by
          unfold spliceA at hc
          rw [splice_get hle] at hc
          simp only [gv, List.getD]
          rw [hgetc]
          split at hc
          · rw [if_neg (by omega), ← Array.getElem?_toList]; exact h3 i c hc
          · split at hc
            · rw [if_pos (by omega), ← Array.getElem?_toList]; exact c2 _ c hc
            · rw [if_neg (by omega), ← Array.getElem?_toList]; exact h3 i c hc) h
      refine ⟨r, ?_, r2⟩
      simp only [List.map_cons, Instr.fill]
      rw [hpl _ _ hp]
      simp only
      rw [if_neg (by simp; omega)]
      exact r1

theorem buildA_ok (hW : WRel Γ.gl G H w) (hF : FRel G nt a.tmps env) {o : Oper} {t : Nat} {parts : Array (Nat × Operand)} {v : AV} (hop : o.op = .build t parts) (h : buildA Γ env t parts = some v) :
    ∃ u, VRel G u v ∧ ∀ w' : World, (execOp a.eval o).run Γ.P w' = .ok (.value u) w' := by
  unfold buildA at h
  split at h
  case h_2 => cases h
  rename_i ti hT
  split at h
  case h_2 => cases h
  rename_i pl hpl
  split at h
  case h_2 => cases h
  rename_i cs hf
  cases h
  obtain ⟨f⟩ := Γ.ty hT
  obtain ⟨z1, z2, z3⟩ := zeroOk_rel (imm := G.imm) f.zok
  have hfill : ∀ pl' : Nat → Option (Nat × Nat), (∀ i x, pl i = some x → pl' i = some x) → ∃ r, Instr.fill pl' f.z.cells (parts.toList.map fun p => (p.1, a.eval p.2)) = some r ∧ VRel G (.agg r) (mkAgg cs) := fun pl' hpl' => by
    obtain ⟨r, r1, r2, r3, r4⟩ := fillA_ok hW hF hpl' parts.toList (cs := ti.zero.map .d) (cur := f.z.cells) (by simp at z1 ⊢; omega)
      (fun c hc => by obtain ⟨y, hy, rfl⟩ := List.mem_map.1 hc; exact z2 y hy)
      (fun i c hc => by
        rw [List.getElem?_map] at hc
        cases hq : ti.zero[i]? with
        | none => simp [hq] at hc
        | some y => simp [hq] at hc; subst hc; exact .d _ _ (z3 i y hq)) hf
    exact ⟨r, r1, mkAgg_ok r2 r3 r4⟩
  have hb : ∃ r, Γ.P.built t (parts.toList.map fun p => (p.1, a.eval p.2)) = some r ∧ VRel G (.agg r) (mkAgg cs) := by
    have hsh := f.sh
    have hund := f.und
    have hinf := f.info
    have hz := f.hz
    revert hpl hsh
    generalize ti.sh = sh
    intro hpl hsh
    unfold placesA at hpl
    split at hpl
    · cases hpl
      rename_i fs
      cases hd : f.d <;> rw [hd] at hsh <;> simp only [shOk] at hsh <;> try (cases hsh; done)
      rename_i fields
      obtain ⟨places, p1, p2⟩ := places_struct hsh
      obtain ⟨r, r1, r2⟩ := hfill (places.toArray[·]?) (fun i x hx => by
        unfold placeS at hx
        split at hx
        case h_2 => cases hx
        rename_i o' ft hfs
        split at hx
        case h_2 => cases hx
        rename_i ti' hft
        cases hx
        obtain ⟨f'⟩ := Γ.ty hft
        have := p2 i o' ft f'.i hfs f'.info
        rw [f'.size] at this
        simpa using this)
      refine ⟨r, ?_, r2⟩
      unfold Program.built
      rw [hinf, hund, hd]
      simp only [hz, p1]
      exact r1
    · split at hpl
      case h_2 => cases hpl
      rename_i te hte
      cases hpl
      rename_i n e
      cases hd : f.d <;> rw [hd] at hsh <;> simp only [shOk] at hsh <;> try (cases hsh; done)
      rename_i n' e'
      simp only [Bool.and_eq_true, beq_iff_eq] at hsh
      obtain ⟨rfl, rfl⟩ := hsh
      obtain ⟨f'⟩ := Γ.ty hte
      obtain ⟨r, r1, r2⟩ := hfill (fun i => some (i * f'.i.size, f'.i.size)) (fun i x hx => by rw [f'.size]; exact hx)
      refine ⟨r, ?_, r2⟩
      unfold Program.built
      rw [hinf, hund, hd]
      simp only [hz, f'.info]
      exact r1
    · cases hpl
  obtain ⟨r, r1, r2⟩ := hb
  refine ⟨.agg r, r2, fun w' => ?_⟩
  unfold execOp
  rw [hop]
  have : (parts.map fun (i, x) => (i, a.eval x)).toList = parts.toList.map fun p => (p.1, a.eval p.2) := by simp
  have hr := run_build (P := Γ.P) w' t (parts.map fun (i, x) => (i, a.eval x)) r (by rw [this]; exact r1)
  simp [hr]

theorem AGo.build {all : Array Oper} {o : Oper} {l : List Oper} {t T : Nat} {parts : Array (Nat × Operand)} {v : AV} (hop : o.op = .build T parts) (hg : o.guard = none) (hd : o.dst = some t) (ht : Nat.ble (t + 1) nt = true)
    (hb : buildA Γ env T parts = some v) (h : AGo Γ nt n0 (.ops all l :: k) Q ((t, v) :: env) H) : AGo Γ nt n0 (.ops all (o :: l) :: k) Q env H :=
  fun G0 G a w h0 hl hF hdf hW => by
    obtain ⟨u, hu, hr⟩ := buildA_ok hW hF hop hb
    have hn := h G0 G (a.put (some t) u) w h0 hl (hF.put ht hu) (by simp [Act.put, hdf]) hW
    simp only [resm] at hn ⊢
    unfold wpList
    rw [if_pos (wanted_none hg)]
    refine .inl ?_
    unfold Oper.wp
    rw [hr w]
    simp only [Oper.upon, hd]
    exact hn
theorem AGo.qbuild {all : Array Oper} {o : Oper} {l : List Oper} {t T : Nat} {parts : Array (Nat × Operand)} {v : AV} (hop : o.op = .build T parts) (hg : o.guard = none) (hd : o.dst = some t) (ht : Nat.ble (t + 1) nt = true)
    (hb : buildA Γ env T parts = some v) (h : AGo Γ nt n0 (.qops all l :: k) Q ((t, v) :: env) H) : AGo Γ nt n0 (.qops all (o :: l) :: k) Q env H :=
  fun G0 G a w h0 hl hF hdf hW => by
    obtain ⟨u, hu, hr⟩ := buildA_ok hW hF hop hb
    have hn := h G0 G (a.put (some t) u) w h0 hl (hF.put ht hu) (by simp [Act.put, hdf]) hW
    simp only [resm] at hn ⊢
    unfold wpQuiet
    rw [if_pos (wanted_none hg)]
    refine ⟨u, fun w' hb => ?_, by rw [hd]; exact hn⟩
    unfold Oper.quietAt
    rw [hr w']
    exact ⟨rfl, rfl⟩
theorem AGo.retK (m : Nat) {fn : Func} {R : AV → List AObj → Prop} {r : AV} (hr : aresults Γ env H fn.results.toList = some r) (hm : Nat.ble n0 m = true) (hl : Nat.ble m H.length = true) (hb : r.bnd m = true)
    (ho : objsBnd m (H.take m) = true) (h : R r (H.take m)) : AGo Γ nt n0 (.code .ret :: k) (FinQ Γ fn n0 R) env H :=
  AGo.ret ⟨r, r, m, hr, Weak.refl _, Nat.le_of_ble_eq_true hm, Nat.le_of_ble_eq_true hl, hb, objsBnd_mem ho, h⟩
theorem bd_i64 {n : Int} (h : (Lit.int .i64 n).wf = true) : -9223372036854775808 ≤ n ∧ n ≤ 9223372036854775807 := (Lit.wf_int_iff .i64 n).1 h
theorem bd_u8 {n : Int} (h : (Lit.int .u8 n).wf = true) : 0 ≤ n ∧ n ≤ 255 := (Lit.wf_int_iff .u8 n).1 h
theorem bd_u32 {n : Int} (h : (Lit.int .u32 n).wf = true) : 0 ≤ n ∧ n ≤ 4294967295 := (Lit.wf_int_iff .u32 n).1 h
theorem bd_u64 {n : Int} (h : (Lit.int .u64 n).wf = true) : 0 ≤ n ∧ n ≤ 18446744073709551615 := (Lit.wf_int_iff .u64 n).1 h
theorem bd_u16 {n : Int} (h : (Lit.int .u16 n).wf = true) : 0 ≤ n ∧ n ≤ 65535 := (Lit.wf_int_iff .u16 n).1 h
theorem imm_of_cell {W : World} {g j : Nat} {v : Value} (h : W.cell? ⟨g, j, none⟩ = some v) : j < (immOf W g).length ∧ gv (immOf W g) j = v := by
  cases hb : W.heap[g]? with
  | none => simp [World.cell?, hb] at h
  | some x =>
    cases x <;> simp only [immOf, hb, World.cell?] at h ⊢ <;> try (simp at h; done)
    rename_i cs e fr
    have h' : cs[j]? = some v := by simpa using h
    have hj := getElem?_lt (l := cs.toList) (i := j) (x := v) (by simpa using h')
    exact ⟨hj, by simp [gv, List.getD, h']⟩
theorem glob_of_tab {W : World} {g : Nat} {k : IntKind} {zs : List Int} (h : ∀ i, i < zs.length → W.cell? ⟨g, i, none⟩ = some (.int k (zs.getD i 0))) :
    DRel (immOf W) (.pointer (some ⟨g, 0, none⟩)) (.iptr (zs.map fun z => D.int k z)) := by
  refine .iptr g 0 _ ?_ (fun c hc => by obtain ⟨z, _, rfl⟩ := List.mem_map.1 hc; rfl) fun j c hc => ?_
  · simp only [Nat.zero_add, List.length_map]
    rcases Nat.eq_zero_or_pos zs.length with h0 | h0
    · omega
    · have := (imm_of_cell (h (zs.length - 1) (by omega))).1
      omega
  · rw [List.getElem?_map] at hc
    cases hz : zs[j]? with
    | none => simp [hz] at hc
    | some z =>
      simp [hz] at hc
      subst hc
      have hj := getElem?_lt hz
      have := (imm_of_cell (h j hj)).2
      rw [Nat.zero_add, this]
      have e : zs.getD j 0 = z := by simp [List.getD, hz]
      rw [e]
      exact .int k z
end
end Go.Proofs.YtammpekpmjboiaaDoor.Av
