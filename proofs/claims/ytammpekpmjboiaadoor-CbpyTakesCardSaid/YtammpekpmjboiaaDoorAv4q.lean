/- Quiet operations are sound. -/
import Derived.Test.YtammpekpmjboiaaDoorAv4
set_option linter.unusedVariables false
set_option linter.unusedSimpArgs false
namespace Go.Proofs.YtammpekpmjboiaaDoor.Av
open Go Go.RowKit
section
variable {Γ : Ctx} {G : Ghost} {H : List AObj} {w w' : World} {nn : Bool} {env : Env} {nt : Nat} {a : Act} {c : Prop} {v : AV}

theorem below_cell (hb : Below w.heap.size w w') {b o : Nat} {u : Value} (h : w.cell? ⟨b, o, none⟩ = some u) : w'.cell? ⟨b, o, none⟩ = some u := by
  rw [hb.cell (p := ⟨b, o, none⟩) (World.block_lt_of_cell? w _ h)]; exact h

theorem bool?_ok {x : Value} {ax : AV} {b : Bool} (hx : VRel G x ax) (h : ax.bool? = some b) : x = .bool b := by
  unfold AV.bool? at h
  split at h
  · cases h; exact hx.bool_inv
  · cases h
theorem pick_ok {x y : Value} {ax ay : AV} (l : Option Bool) (b : Bool) (hf : l = some false → y = .bool false) (ht : l = some true → x = .bool true) (hx : VRel G x ax) (hy : VRel G y ay) : VRel G (if b then x else y) (pickAV l b ax ay) := by
  have dflt : VRel G (if b then x else y) (bif b then ax else ay) := by cases b <;> assumption
  match l, hf, ht with
  | some false, hf, _ =>
    simp only [pickAV]
    cases h1 : ax.bool? with
    | some p => rw [bool?_ok hx h1, hf rfl]; cases b <;> exact .d _ _ (.bool _)
    | none => exact dflt
  | some true, _, ht =>
    simp only [pickAV]
    cases h1 : ay.bool? with
    | some p => rw [bool?_ok hy h1, ht rfl]; cases b <;> exact .d _ _ (.bool _)
    | none => exact dflt
  | none, _, _ => exact dflt
theorem pickLit_f {a : Act} {x y : Operand} (h : pickLit x y = some false) : a.eval y = .bool false := by
  unfold pickLit at h
  split at h
  · rfl
  · cases h
  · cases h
theorem pickLit_t {a : Act} {x y : Operand} (h : pickLit x y = some true) : a.eval x = .bool true := by
  unfold pickLit at h
  split at h
  · cases h
  · rfl
  · cases h

theorem q_pick {x y z : Operand} (hW : WRel Γ.gl G H w) (hF : FRel G nt a.tmps env) (hq : qop Γ nn (.pick x y z) env H = some (c, v)) :
    ∃ u, VRel G u v ∧ ∀ w', (do pure (.value (if ← asBool (a.eval x) then a.eval y else a.eval z)) : Sem Next).run Γ.P w' = .ok (.value u) w' := by
  have h1 := ev_ok hW hF x
  simp only [qop] at hq
  split at hq
  · rename_i b hb
    rw [hb] at h1
    rw [frc_eq] at hq
    cases hq
    exact ⟨_, pick_ok (pickLit y z) b pickLit_f pickLit_t (ev_ok hW hF y) (ev_ok hW hF z), fun w' => by rw [h1.bool_inv]; cases b <;> simp [asBool]⟩
  · cases hq

theorem nilR_ok {x y : Value} {ax ay : AV} {r : Bool} (hx : VRel G x ax) (hy : VRel G y ay) (h : nilR ax ay = some r) :
    ∃ p q, x = .pointer p ∧ y = .pointer q ∧ (p = none ∨ q = none) ∧ r = (p.isNone && q.isNone) := by
  have i1 : ∀ {v : Value}, VRel G v (.d .nilp) → v = .pointer none := fun h => by cases h with | d _ _ h => cases h; rfl
  have i2 : ∀ {v : Value} {i o}, VRel G v (.ptr i o) → ∃ a, v = .pointer (some a) := fun h => by cases h; exact ⟨_, rfl⟩
  have i3 : ∀ {v : Value} {cs}, VRel G v (.d (.iptr cs)) → ∃ a, v = .pointer (some a) := fun h => by cases h with | d _ _ h => cases h; exact ⟨_, rfl⟩
  unfold nilR at h
  split at h
  · cases h; exact ⟨none, none, i1 hx, i1 hy, .inl rfl, rfl⟩
  · cases h; obtain ⟨q, hq⟩ := i2 hy; exact ⟨none, some q, i1 hx, hq, .inl rfl, rfl⟩
  · cases h; obtain ⟨q, hq⟩ := i2 hx; exact ⟨some q, none, hq, i1 hy, .inr rfl, rfl⟩
  · cases h; obtain ⟨q, hq⟩ := i3 hy; exact ⟨none, some q, i1 hx, hq, .inl rfl, rfl⟩
  · cases h; obtain ⟨q, hq⟩ := i3 hx; exact ⟨some q, none, hq, i1 hy, .inr rfl, rfl⟩
  · cases h

theorem eqNil_ok {op : BinOp} {x y : Value} {ax ay : AV} {b : Bool} (hx : VRel G x ax) (hy : VRel G y ay) (h : eqNil op ax ay = some b) (t : TypeId) (ht : ∃ e, Γ.P.underlying t = some (.pointer e)) (xo yo : Operand) :
    ∀ w', (do eqGuard op t xo yo x y; binOp op t x y : Sem Value).run Γ.P w' = .ok (.bool b) w' := by
  obtain ⟨e, he⟩ := ht
  intro w'
  unfold eqNil at h
  cases hr : nilR ax ay with
  | none => rw [hr] at h; cases op <;> cases h
  | some r =>
    rw [hr] at h
    obtain ⟨p, q, rfl, rfl, hpq, rfl⟩ := nilR_ok hx hy hr
    have hu := run_underlying he w'
    have e1 : (Op.equal t (.pointer p) (.pointer q)).run Γ.P w' = .ok (p.isNone && q.isNone) w' := by
      unfold Op.equal Op.maxDepth
      rw [show (10000 : Nat) = 9999 + 1 from rfl, Op.equalIn, Sem.run_bind, hu]
      rcases p with _ | p
      · simp
      · rcases q with _ | q
        · simp
        · simp at hpq
    have hg : ∀ op, (eqGuard op t xo yo (.pointer p) (.pointer q)).run Γ.P w' = .ok () w' := fun op => by unfold eqGuard; cases op <;> simp
    rw [Sem.run_bind, hg]
    cases op <;> cases h
    · simp [binOp, e1]
    · simp [binOp, e1]

theorem q_load {t : TypeId} {x : Operand} (hW : WRel Γ.gl G H w) (hF : FRel G nt a.tmps env) (hq : qop Γ nn (.load t x) env H = some (c, v)) :
    ∃ u, VRel G u v ∧ ∀ w', Below w.heap.size w w' → (Instr.loadAt t (a.eval x)).run Γ.P w' = .ok u w' := by
  have hx := ev_ok hW hF x
  simp only [qop] at hq
  split at hq
  · rename_i ti id off ht he
    rw [he] at hx
    obtain ⟨f⟩ := Γ.ty ht
    split at hq
    · rename_i cs hh
      split at hq
      · rename_i v' hv
        rw [frc_eq] at hq
        cases hq
        rw [hget_eq] at hh
        obtain ⟨b, cur, t', h1, h2, h3, h4, h5, h6⟩ := hW.obj id _ hh
        generalize hxe : a.eval x = xv at hx
        cases hx with
        | ptr b' _ _ hb =>
          rw [h1] at hb; cases hb
          obtain ⟨r, hr1, hr2⟩ := loadA_ok (G := G) (b := b) (o := 0) (us := cur.toList) f h4 h5 hv
          refine ⟨r, hr1, fun w' hb => ?_⟩
          have hlt : b < w.heap.size := (Array.getElem?_eq_some_iff.1 h2).1
          have hrow := (hb.block b hlt).trans h2
          have := hr2 w' (fun i hi => by rw [cell_of_row w' b (0 + i) cur t' _ hrow]; simp [gv, List.getD, show i < cur.size by omega])
          simpa using this
      · cases hq
    · cases hq
  · rename_i ti cs ht he
    rw [he] at hx
    obtain ⟨f⟩ := Γ.ty ht
    split at hq
    · rename_i x' hv
      cases hq
      generalize hxe : a.eval x = xv at hx
      cases hx with
      | d _ _ hd =>
        cases hd with
        | iptr b o _ hin hone h =>
          obtain ⟨r, hr1, hr2⟩ := loadD_ok (G := G) (b := b) (o := o) (us := (G.imm b).drop o) f hone (fun i c hc => by
            have := h i c hc
            simpa [gv, List.getD] using this) hv
          refine ⟨r, hr1, fun w' hb => ?_⟩
          have := hr2 w' (fun i hi => below_cell hb (by
            rw [hW.imm b (o + i) (by omega)]; simp [gv, List.getD]))
          simpa using this
    · cases hq
  · cases hq

theorem und_ptr {t e : Nat} {ti : TI} (f : TyFacts Γ.P t ti) (h : ti.sh = .ptr e) : Γ.P.underlying t = some (.pointer e) := by
  have := f.sh; rw [h] at this
  cases hd : f.d <;> rw [hd] at this <;> simp [shOk] at this
  rw [f.und, hd, this]
theorem und_bool {t : Nat} {ti : TI} (f : TyFacts Γ.P t ti) (h : ti.sh = .bool) : Γ.P.underlying t = some .bool := by
  have := f.sh; rw [h] at this
  cases hd : f.d <;> rw [hd] at this <;> simp [shOk] at this
  rw [f.und, hd]
theorem eqBool_ok {op : BinOp} {x y : Value} {ax ay : AV} {c : Prop} {v : AV} (hx : VRel G x ax) (hy : VRel G y ay) (h : eqBool op ax ay = some (c, v)) (t : TypeId) (ht : Γ.P.underlying t = some .bool) (xo yo : Operand) :
    ∃ u, VRel G u v ∧ ∀ w', (do eqGuard op t xo yo x y; binOp op t x y : Sem Value).run Γ.P w' = .ok u w' := by
  have key : ∀ p q : Bool, x = .bool p → y = .bool q → ∀ w', (Op.equal t x y).run Γ.P w' = .ok (decide (p = q)) w' := by
    rintro p q rfl rfl w'
    have hu := run_underlying ht w'
    unfold Op.equal Op.maxDepth
    rw [show (10000 : Nat) = 9999 + 1 from rfl, Op.equalIn, Sem.run_bind, hu]
    cases p <;> cases q <;> simp
  unfold eqBool at h
  split at h
  · rename_i p q
    cases h
    have e1 := key p q hx.bool_inv hy.bool_inv
    obtain rfl := hx.bool_inv
    obtain rfl := hy.bool_inv
    refine ⟨_, .d _ _ (.bool _), fun w' => ?_⟩
    have hg : (eqGuard .eql t xo yo (.bool p) (.bool q)).run Γ.P w' = .ok () w' := by unfold eqGuard; simp
    rw [Sem.run_bind, hg]
    simp [binOp, e1]
  · rename_i p q
    cases h
    have e1 := key p q hx.bool_inv hy.bool_inv
    obtain rfl := hx.bool_inv
    obtain rfl := hy.bool_inv
    refine ⟨_, .d _ _ (.bool _), fun w' => ?_⟩
    have hg : (eqGuard .neq t xo yo (.bool p) (.bool q)).run Γ.P w' = .ok () w' := by unfold eqGuard; simp
    rw [Sem.run_bind, hg]
    simp [binOp, e1]
  · cases h
theorem und_struct {t : Nat} {fs : List (Nat × Nat)} {ti : TI} (f : TyFacts Γ.P t ti) (h : ti.sh = .struct fs) : ∃ gs, Γ.P.underlying t = some (.struct gs) ∧ fieldsOk Γ.P gs.toList fs = true := by
  have := f.sh; rw [h] at this
  cases hd : f.d <;> rw [hd] at this <;> simp [shOk] at this
  exact ⟨_, by rw [f.und, hd], this⟩
theorem und_array {t n e : Nat} {ti : TI} (f : TyFacts Γ.P t ti) (h : ti.sh = .array n e) : Γ.P.underlying t = some (.array n e) := by
  have := f.sh; rw [h] at this
  cases hd : f.d <;> rw [hd] at this <;> simp [shOk] at this
  rw [f.und, hd, this.1, this.2]
theorem und_slice {t e : Nat} {ti : TI} (f : TyFacts Γ.P t ti) (h : ti.sh = .slice e) : Γ.P.underlying t = some (.slice e) := by
  have := f.sh; rw [h] at this
  cases hd : f.d <;> rw [hd] at this <;> simp [shOk] at this
  rw [f.und, hd, this]
theorem und_str {t : Nat} {ti : TI} (f : TyFacts Γ.P t ti) (h : ti.sh = .str) : Γ.P.underlying t = some .string := by
  have := f.sh; rw [h] at this
  cases hd : f.d <;> rw [hd] at this <;> simp [shOk] at this
  rw [f.und, hd]
theorem und_int {t : Nat} {k : IntKind} {ti : TI} (f : TyFacts Γ.P t ti) (h : ti.sh = .int k) : Γ.P.underlying t = some (.int k) := by
  have := f.sh; rw [h] at this
  cases hd : f.d <;> rw [hd] at this <;> simp [shOk] at this
  rw [f.und, hd, this]
theorem fieldsOk_get {P : Program} : ∀ {gs : List Field} {fs : List (Nat × Nat)}, fieldsOk P gs fs = true → ∀ {n o t : Nat}, fs[n]? = some (o, t) → ∃ g, gs[n]? = some g ∧ g.offset = o ∧ g.type = t ∧ ∃ i, P.info? t = some i ∧ i.size ≠ 0
  | [], [], _, n, o, t, h => by simp at h
  | [], _ :: _, h, _, _, _, _ => by simp [fieldsOk] at h
  | _ :: _, [], h, _, _, _, _ => by simp [fieldsOk] at h
  | g :: gs, (o', t') :: fs, h, n, o, t, hn => by
    simp only [fieldsOk, Bool.and_eq_true, beq_iff_eq] at h
    obtain ⟨⟨⟨h1, h2⟩, h3⟩, h4⟩ := h
    cases n with
    | zero =>
      simp at hn; obtain ⟨rfl, rfl⟩ := hn
      split at h3
      · rename_i i hi; rw [h2] at hi; exact ⟨g, rfl, h1, h2, i, hi, by simpa using h3⟩
      · cases h3
    | succ n => simpa using fieldsOk_get h4 (by simpa using hn)

theorem fieldO_ok {s fl o t : Nat} (h : fieldO Γ s fl = some (o, t)) : ∃ gs : Array Field, Γ.P.underlying s = some (.struct gs) ∧ ∃ g, gs[fl]? = some g ∧ g.offset = o ∧ g.type = t ∧ ∃ i, Γ.P.info? t = some i ∧ i.size ≠ 0 := by
  unfold fieldO at h
  split at h
  · rename_i ti fs hs
    obtain ⟨f⟩ := Γ.ty hs
    obtain ⟨gs, h1, h2⟩ := und_struct f rfl
    obtain ⟨g, g1, g2⟩ := fieldsOk_get h2 h
    exact ⟨gs, h1, g, by simpa using g1, g2⟩
  · cases h

theorem run_fieldAt {s fl o t b off : Nat} (h : fieldO Γ s fl = some (o, t)) (w : World) : (Instr.fieldAt s (.pointer (some ⟨b, off, none⟩)) fl).run Γ.P w = .ok (.pointer (some ⟨b, off + o, none⟩)) w := by
  obtain ⟨gs, h1, g, g1, g2, g3, i, hi, hn⟩ := fieldO_ok h
  simp only [Instr.fieldAt, Sem.run_bind, run_underlying h1, Result.andThen_ok, g1, Instr.sureAddr, Sem.run_pure, fieldPlace, Go.sizeOf, typeInfo, run_program, g3, hi, hn, if_false, g2, addr_add]

theorem q_fieldAddr {s fl : Nat} {x : Operand} (hW : WRel Γ.gl G H w) (hF : FRel G nt a.tmps env) (hq : qop Γ nn (.fieldAddr s x fl) env H = some (c, v)) :
    ∃ u, VRel G u v ∧ ∀ w', (Instr.fieldAt s (a.eval x) fl).run Γ.P w' = .ok u w' := by
  have hx := ev_ok hW hF x
  simp only [qop] at hq
  split at hq
  · rename_i fo t id off h1 h2
    cases hq
    rw [h2] at hx
    generalize a.eval x = xv at hx
    cases hx with
    | ptr b _ _ hb => exact ⟨_, .ptr b id _ hb, fun w' => run_fieldAt h1 w'⟩
  · rename_i fo t id n sz i off h1 h2
    cases hq
    rw [h2] at hx
    generalize a.eval x = xv at hx
    cases hx with
    | eptr b cap _ _ _ _ _ hb => exact ⟨_, .eptr b cap id n sz i _ hb, fun w' => by rw [run_fieldAt h1 w', Nat.add_assoc]⟩
  · rename_i fo t cs h1 h2
    cases hb : Nat.ble fo cs.length with
    | false => rw [hb] at hq; cases hq
    | true =>
      rw [hb] at hq; cases hq
      have hle := Nat.le_of_ble_eq_true hb
      rw [h2] at hx
      generalize a.eval x = xv at hx
      cases hx with
      | d _ _ hd =>
        cases hd with
        | iptr b o _ hin hone h =>
          refine ⟨_, .d _ _ (.iptr b (o + fo) (cs.drop fo) (by simp; omega) (fun c hc => hone c (List.mem_of_mem_drop hc)) (fun j c hc => ?_)), fun w' => run_fieldAt h1 w'⟩
          rw [List.getElem?_drop] at hc
          rw [Nat.add_assoc]; exact h _ c hc
  · cases hq

theorem run_part {t : Nat} {ti : TI} (f : TyFacts Γ.P t ti) (vs : Array Value) (off : Nat) (w : World) :
    (part t vs off).run Γ.P w = if ti.agg then .ok (.agg (vs.extract off (off + ti.size))) w else match vs[off]? with | some v => .ok v w | none => .halt (.stuck "part: no such cell") w := by
  simp only [part, Sem.run_bind, f.isAgg, Result.andThen_ok, Sem.run_ite, f.sizeOf, Sem.run_pure]
  split
  · rfl
  · cases vs[off]? <;> simp

theorem part_ok {t : Nat} {ti : TI} (f : TyFacts Γ.P t ti) {vs : Array Value} {cs : List D} {off : Nat} {x : D} (hl : vs.size = cs.length) (hone : ∀ c ∈ cs, c.one = true)
    (h : ∀ (i : Nat) (c : D), cs[i]? = some c → DRel G.imm (gv vs.toList i) c) (hv : loadD ti cs off = some x) :
    ∃ u, VRel G u (.d x) ∧ ∀ w', (part t vs off).run Γ.P w' = .ok u w' := by
  unfold loadD at hv
  cases hag : ti.agg with
  | true =>
    rw [hag, cond_true] at hv
    cases hb : Nat.ble (off + ti.size) cs.length with
    | false => rw [hb] at hv; cases hv
    | true =>
      rw [hb, cond_true] at hv; cases hv
      have hle := Nat.le_of_ble_eq_true hb
      refine ⟨_, .d _ _ (.agg (vs.extract off (off + ti.size)) _ (by simp; omega) (fun c hc => hone c (List.mem_of_mem_drop (List.mem_of_mem_take hc))) fun i c hc => ?_), fun w' => by rw [run_part f, hag]; rfl⟩
      rw [drop_take_get] at hc
      split at hc
      · rename_i hi
        have := h _ c hc
        have e : (vs.extract off (off + ti.size)).toList[i]? = vs.toList[off + i]? := by
          simp only [Array.getElem?_toList, Array.getElem?_extract]; rw [if_pos (by omega)]
        simp only [gv, List.getD, e] at this ⊢
        exact this
      · cases hc
  | false =>
    rw [hag, cond_false] at hv
    have hlt := getElem?_lt hv
    refine ⟨gv vs.toList off, .d _ _ (h off x hv), fun w' => ?_⟩
    rw [run_part f, hag]
    have : vs[off]? = some (gv vs.toList off) := by simp [gv, List.getD, show off < vs.size by omega]
    simp [this]

theorem q_field {s fl : Nat} {x : Operand} (hW : WRel Γ.gl G H w) (hF : FRel G nt a.tmps env) (hq : qop Γ nn (.field s x fl) env H = some (c, v)) :
    ∃ u, VRel G u v ∧ ∀ w', (Instr.field s (a.eval x) fl).run Γ.P w' = .ok u w' := by
  have hx := ev_ok hW hF x
  simp only [qop] at hq
  split at hq
  · rename_i fo t cs h1 h2
    split at hq
    · rename_i ti ht
      split at hq
      · rename_i x' hv
        cases hq
        obtain ⟨f⟩ := Γ.ty ht
        rw [h2] at hx
        generalize a.eval x = xv at hx
        cases hx with
        | d _ _ hd =>
          cases hd with
          | agg vs _ hl hone h =>
            obtain ⟨u, u1, u2⟩ := part_ok f hl hone h hv
            obtain ⟨gs, g1, g, g2, g3, g4, _⟩ := fieldO_ok h1
            exact ⟨u, u1, fun w' => by simp [Instr.field, run_underlying g1, g2, asAgg, g3, g4, u2]⟩
      · cases hq
    · cases hq
  · cases hq

theorem getD_get {es : List D} {i : Nat} (h : i < es.length) : es[i]? = some (es.getD i .top) := by simp [List.getD, List.getElem?_eq_getElem h]

theorem sl_read {sz : Nat} {es : List D} {u : Value} (h : DRel G.imm u (.sl sz es)) {i : Nat} (hi : i < es.length) :
    ∃ b o cap, u = .slice (some ⟨b, o, none⟩) es.length cap ∧ (∀ e ∈ es, e.cells.length = sz) ∧ DRel G.imm (.pointer (some ⟨b, o + i * sz, none⟩)) (.iptr (es.getD i .top).cells) := by
  cases h with
  | sl0 => simp at hi
  | sl b o cap sz _ hne hcap hsz hone hin h =>
    have hm := getElem?_mem' (getD_get hi)
    refine ⟨b, o, cap, rfl, hsz, .iptr b _ _ ?_ (hone _ hm) fun j c hc => ?_⟩
    · rw [hsz _ hm]
      have : (i + 1) * sz ≤ es.length * sz := Nat.mul_le_mul_right _ hi
      rw [Nat.add_mul] at this
      omega
    · exact h i _ j c (getD_get hi) hc

theorem run_indexAt_slice {t e : Nat} {ti : TI} (fe : TyFacts Γ.P e ti) (hu : Γ.P.underlying t = some (.slice e)) {b o n cap : Nat} {k : IntKind} {i : Int} (h0 : 0 ≤ i) (h1 : i < n) (w : World) :
    (Instr.indexAt t (.slice (some ⟨b, o, none⟩) n cap) (.int k i)).run Γ.P w = .ok (.pointer (some ⟨b, o + i.toNat * ti.size, none⟩)) w := by
  simp [Instr.indexAt, asIntOf, run_underlying hu, h0, h1, fe.sizeOf, addr_add]
theorem run_indexAt_array {t e len : Nat} {ti : TI} (fe : TyFacts Γ.P e ti) (hu : Γ.P.underlying t = some (.array len e)) {b o : Nat} {k : IntKind} {i : Int} (h0 : 0 ≤ i) (h1 : i < len) (w : World) :
    (Instr.indexAt t (.pointer (some ⟨b, o, none⟩)) (.int k i)).run Γ.P w = .ok (.pointer (some ⟨b, o + i.toNat * ti.size, none⟩)) w := by
  simp [Instr.indexAt, asIntOf, run_underlying hu, h0, h1, fe.sizeOf, addr_add, Instr.sureAddr]


theorem own_sl {sz id : Nat} {es : List D} {u : Value} (h : VRel G u (.own sz es id)) : DRel G.imm u (.sl sz es) := by cases h; assumption

theorem q_sl_index {t e : Nat} {te : TI} (hu : Γ.P.underlying t = some (.slice e)) (he : lookT Γ.T e = some te) {sz : Nat} {es : List D} {u : Value} (h : DRel G.imm u (.sl sz es)) {k : IntKind} {i : Int}
    (hs : Nat.beq sz te.size = true) (hc : 0 ≤ i ∧ i < (es.length : Int)) :
    ∃ r, VRel G r (.d (.iptr (es.getD i.toNat .top).cells)) ∧ ∀ w', (Instr.indexAt t u (.int k i)).run Γ.P w' = .ok r w' := by
  obtain ⟨fe⟩ := Γ.ty he
  obtain ⟨b, o, cap, rfl, hsz, hp⟩ := sl_read h (show i.toNat < es.length by omega)
  have := Nat.eq_of_beq_eq_true hs; subst this
  exact ⟨_, .d _ _ hp, fun w' => run_indexAt_slice fe hu hc.1 hc.2 w'⟩

theorem q_indexAddr {t : Nat} {x y : Operand} (hW : WRel Γ.gl G H w) (hF : FRel G nt a.tmps env) (hq : qop Γ nn (.indexAddr t x y) env H = some (c, v)) (hc : c) :
    ∃ u, VRel G u v ∧ ∀ w', (Instr.indexAt t (a.eval x) (a.eval y)).run Γ.P w' = .ok u w' := by
  have hx := ev_ok hW hF x
  have hy := ev_ok hW hF y
  generalize a.eval x = xv at hx
  generalize a.eval y = yv at hy
  simp only [qop] at hq
  split at hq
  · rename_i len e id off k i h1 h2 h3
    rw [h2] at hx; rw [h3] at hy
    obtain rfl := hy.int_inv
    obtain ⟨f⟩ := Γ.ty h1
    split at hq
    · rename_i te he
      cases hq
      obtain ⟨fe⟩ := Γ.ty he
      cases hx with
      | ptr b _ _ hb => exact ⟨_, .ptr b id _ hb, fun w' => run_indexAt_array fe (und_array f rfl) hc.1 hc.2 w'⟩
    · cases hq
  · rename_i len e cs k i h1 h2 h3
    rw [h2] at hx; rw [h3] at hy
    obtain rfl := hy.int_inv
    obtain ⟨f⟩ := Γ.ty h1
    split at hq
    · rename_i te he
      cases hq
      obtain ⟨fe⟩ := Γ.ty he
      cases hx with
      | d _ _ hd => cases hd with
        | iptr b o _ hin hone h =>
          have hlt : (i.toNat + 1) * te.size ≤ len * te.size := Nat.mul_le_mul_right _ (by omega)
          rw [Nat.add_mul] at hlt
          refine ⟨_, .d _ _ (.iptr b (o + i.toNat * te.size) _ (by simp; omega) (fun c hc => hone c (List.mem_of_mem_drop hc)) fun j c hcj => ?_), fun w' => run_indexAt_array fe (und_array f rfl) hc.1.1 hc.1.2 w'⟩
          rw [List.getElem?_drop] at hcj
          rw [Nat.add_assoc]; exact h _ c hcj
    · cases hq
  · rename_i e sz es k i h1 h2 h3
    rw [h2] at hx; rw [h3] at hy
    obtain rfl := hy.int_inv
    obtain ⟨f⟩ := Γ.ty h1
    split at hq
    · rename_i te he
      cases hs : Nat.beq sz te.size with
      | false => rw [hs] at hq; cases hq
      | true =>
        rw [hs] at hq; cases hq
        cases hx with
        | d _ _ hd => exact q_sl_index (und_slice f rfl) he hd hs hc
    · cases hq
  · rename_i e sz es id k i h1 h2 h3
    rw [h2] at hx; rw [h3] at hy
    obtain rfl := hy.int_inv
    obtain ⟨f⟩ := Γ.ty h1
    split at hq
    · rename_i te he
      cases hs : Nat.beq sz te.size with
      | false => rw [hs] at hq; cases hq
      | true =>
        rw [hs] at hq; cases hq
        exact q_sl_index (und_slice f rfl) he (own_sl hx) hs hc
    · cases hq
  · cases hq

theorem q_index {t : Nat} {x y : Operand} (hW : WRel Γ.gl G H w) (hF : FRel G nt a.tmps env) (hq : qop Γ nn (.index t x y) env H = some (c, v)) (hc : c) :
    ∃ u, VRel G u v ∧ ∀ w', (Instr.index t (a.eval x) (a.eval y)).run Γ.P w' = .ok u w' := by
  have hx := ev_ok hW hF x
  have hy := ev_ok hW hF y
  generalize a.eval x = xv at hx
  generalize a.eval y = yv at hy
  simp only [qop] at hq
  split at hq
  · rename_i len e cs k i h1 h2 h3
    rw [h2] at hx; rw [h3] at hy
    obtain rfl := hy.int_inv
    obtain ⟨f⟩ := Γ.ty h1
    split at hq
    · rename_i te he
      obtain ⟨fe⟩ := Γ.ty he
      cases hx with
      | d _ _ hd => cases hd with
        | agg vs _ hl hone h =>
          have run : ∀ {w' u}, 0 ≤ i → i < len → (part e vs (i.toNat * te.size)).run Γ.P w' = .ok u w' → (Instr.index t (.agg vs) (.int k i)).run Γ.P w' = .ok u w' := fun h0 h1 hr => by
            simp [Instr.index, asIntOf, run_underlying (und_array f rfl), h0, h1, fe.sizeOf, hr]
          cases hag : te.agg with
          | true =>
            rw [hag] at hq; cases hq
            have hlt : (i.toNat + 1) * te.size ≤ len * te.size := Nat.mul_le_mul_right _ (by omega)
            rw [Nat.add_mul] at hlt
            obtain ⟨u, u1, u2⟩ := part_ok (G := G) fe (off := i.toNat * te.size) (x := .agg ((cs.drop (i.toNat * te.size)).take te.size)) hl hone h (by
              simp only [loadD, hag, cond_true]; rw [show Nat.ble (i.toNat * te.size + te.size) cs.length = true from Nat.ble_eq_true_of_le (by omega)]; rfl)
            exact ⟨u, u1, fun w' => run hc.1.1 hc.1.2 (u2 w')⟩
          | false =>
            rw [hag] at hq; cases hq
            have h1' := fe.one hag
            obtain ⟨u, u1, u2⟩ := part_ok (G := G) fe (off := i.toNat * te.size) (x := cs.getD i.toNat .top) hl hone h (by
              simp only [loadD, hag, cond_false, h1', Nat.mul_one]; exact getD_get (by omega))
            exact ⟨u, u1, fun w' => run hc.1.1 hc.1.2 (u2 w')⟩
    · cases hq
  · rename_i s k i h1 h2 h3
    cases hq
    rw [h2] at hx; rw [h3] at hy
    obtain rfl := hy.int_inv
    obtain rfl := hx.str_inv
    obtain ⟨f⟩ := Γ.ty h1
    have hlt : i.toNat < s.length := by omega
    refine ⟨_, .d _ _ (.int .u8 (bt s i.toNat)), fun w' => ?_⟩
    have e : ((⟨s.toArray⟩ : ByteArray)[i.toNat]?) = some s[i.toNat] := by
      rw [getElem?_pos _ i.toNat (by simpa [ByteArray.size] using hlt)]; rfl
    simp [Instr.index, asIntOf, run_underlying (und_str f rfl), hc.1, e, bt, List.getD, List.getElem?_eq_getElem hlt]
  · cases hq
end
end Go.Proofs.YtammpekpmjboiaaDoor.Av
