/- Regions whose order is open; new objects, stores, slices made and appended to. -/
import Derived.Test.YtammpekpmjboiaaDoorAv7
set_option linter.unusedVariables false
set_option linter.unusedSimpArgs false
namespace Go.Proofs.YtammpekpmjboiaaDoor.Av
open Go Go.RowKit
section
variable {Γ : Ctx} {nt n0 : Nat} {k : List It} {Q : Post} {env : Env} {H : List AObj} {G : Ghost} {w w' : World}

theorem WRel.below (hW : WRel Γ.gl G H w) (hb : Below w.heap.size w w') : WRel Γ.gl G H w' := by
  refine ⟨hb.os.trans hW.os, hb.tape.trans hW.tape, hb.output.trans hW.output, Nat.le_trans hW.size hb.size, fun b h1 h2 => ?_, fun b i hi => ?_, fun id o ho => ?_, hW.own, hW.inj, hW.lim, hW.glob⟩
  · obtain ⟨e1, e2⟩ := hW.old b h1 h2
    exact ⟨(hb.block b (Nat.lt_of_lt_of_le h1 hW.size)).trans e1, e2⟩
  · have := hW.imm b i hi
    rw [hb.cell (p := ⟨b, i, none⟩) (World.block_lt_of_cell? w _ this)]; exact this
  · exact ORel.keep (GLe.refl H.length G) (getElem?_lt ho) hW.lim (hW.obj id o ho) (fun b hob => ⟨hb.block b ((hW.obj id o ho).lt hob), rfl⟩) (fun _ => rfl)

theorem AGo.draw {id : Nat} {all : Array Oper} (l : List Oper) (hl : all = l.toArray) (hB : Region.lexB .any l.toArray = true) (h : AGo Γ nt n0 (.qops all l :: k) Q env H) :
    AGo Γ nt n0 (.code (.region id all true) :: k) Q env H :=
  fun G0 G a w h0 hln hF hd hW => by
    subst hl
    have hdrew : Below w.heap.size w { w with drawn := w.drawn + 1 } := ⟨rfl, rfl, rfl, Nat.le_refl _, fun _ _ => rfl⟩
    have hd1 : ∀ w', Below w.heap.size w w' ↔ Below ({ w with drawn := w.drawn + 1 } : World).heap.size { w with drawn := w.drawn + 1 } w' := fun w' =>
      ⟨fun h => ⟨h.os, h.tape, h.output, h.size, h.block⟩, fun h => ⟨h.os, h.tape, h.output, h.size, h.block⟩⟩
    have := h G0 G a w h0 hln hF hd hW
    simp only [resm] at this ⊢
    exact wp_region_quiet (C := fun w' => Below w.heap.size w w') Γ.mixed hB hdrew (by simpa using this)

theorem AGo.qnil {all : Array Oper} (h : AGo Γ nt n0 k Q env H) : AGo Γ nt n0 (.qops all [] :: k) Q env H :=
  fun G0 G a w h0 hl hF hd hW => by
    simp only [resm]
    exact wpQuiet_nil fun w' hb => h G0 G a w' h0 hl hF hd (hW.below hb)

theorem AGo.qq {all : Array Oper} {o : Oper} {l : List Oper} (nn : Bool) {t : Nat} {c : Prop} {v : AV} (hg : o.guard = none) (hd : o.dst = some t) (ht : Nat.ble (t + 1) nt = true)
    (hq : qop Γ nn o.op env H = some (c, v)) (hc : c) (h : AGo Γ nt n0 (.qops all l :: k) Q ((t, v) :: env) H) : AGo Γ nt n0 (.qops all (o :: l) :: k) Q env H :=
  fun G0 G a w h0 hl hF hdf hW => by
    obtain ⟨u, hu, hr⟩ := qop_ok hW hF hq hc
    have hn := h G0 G (a.put (some t) u) w h0 hl (hF.put ht hu) (by simp [Act.put, hdf]) hW
    simp only [resm] at hn ⊢
    unfold wpQuiet
    rw [if_pos (wanted_none hg)]
    refine ⟨u, fun w' hb => ?_, by rw [hd]; exact hn⟩
    unfold Oper.quietAt
    rw [hr w' hb]
    exact ⟨rfl, rfl⟩

/-! ### Regions that draw their order and end in effects: a still head, then the tail in order -/
def loudOp : Op → Bool
  | .store .. | .makeSlice .. | .makeMap .. | .alloc .. | .box .. | .mapUpdate .. | .mapEntry .. | .entryStore .. | .buildSlice .. => true
  | .call c => match c.callee with | .builtin .len | .builtin .max | .builtin .min => false | _ => true
  | _ => false
def effOp : Op → Bool
  | .call c => match c.callee with | .builtin .len | .builtin .max | .builtin .min => false | .builtin _ => true | _ => false
  | op => loudOp op
def splitLoud : List Oper → Option (List Oper × List Oper)
  | [] => none
  | o :: l => bif loudOp o.op then some ([], o :: l) else match splitLoud l with | some (x, y) => some (o :: x, y) | none => none
theorem splitLoud_eq : ∀ {l x y : List Oper}, splitLoud l = some (x, y) → l = x ++ y
  | [], _, _, h => by simp [splitLoud] at h
  | o :: l, x, y, h => by
    simp only [splitLoud] at h
    cases hb : loudOp o.op with
    | true => rw [hb] at h; cases h; rfl
    | false =>
      rw [hb, cond_false] at h
      split at h
      · rename_i x' y' hx
        cases h
        rw [splitLoud_eq hx]; rfl
      · cases h
theorem AGo.drawT {id : Nat} {all : Array Oper} (l : List Oper) {l1 l2 : List Oper} (hl : all = l.toArray) (_he : l.any (fun o => effOp o.op) = true) (hs : splitLoud l = some (l1, l2)) (hB : Region.lexTailB .any l.toArray l1.length = true) (h : AGo Γ nt n0 (.sops all l1 :: .ops all l2 :: k) Q env H) :
    AGo Γ nt n0 (.code (.region id all true) :: k) Q env H :=
  fun G0 G a w h0 hln hF hd hW => by
    subst hl
    have hW' : WRel Γ.gl G H { w with drawn := w.drawn + 1 } := hW.same rfl rfl rfl rfl
    have := h G0 G a { w with drawn := w.drawn + 1 } h0 hln hF hd hW'
    simp only [resm] at this ⊢
    have e := splitLoud_eq hs
    refine wp_region_still_tail l1.length Γ.mixed hB ?_
    have e1 : l.take l1.length = l1 := by rw [e]; exact List.take_left
    have e2 : l.drop l1.length = l2 := by rw [e]; exact List.drop_left
    rw [e1, e2]
    exact this
theorem AGo.snil {all : Array Oper} (h : AGo Γ nt n0 k Q env H) : AGo Γ nt n0 (.sops all [] :: k) Q env H :=
  fun G0 G a w h0 hl hF hd hW => by
    simp only [resm]
    exact wpStill_nil (h G0 G a w h0 hl hF hd hW)
theorem AGo.sq {all : Array Oper} {o : Oper} {l : List Oper} (nn : Bool) {t : Nat} {c : Prop} {v : AV} (hg : o.guard = none) (hd : o.dst = some t) (ht : Nat.ble (t + 1) nt = true)
    (hq : qop Γ nn o.op env H = some (c, v)) (hc : c) (h : AGo Γ nt n0 (.sops all l :: k) Q ((t, v) :: env) H) : AGo Γ nt n0 (.sops all (o :: l) :: k) Q env H :=
  fun G0 G a w h0 hl hF hdf hW => by
    obtain ⟨u, hu, hr⟩ := qop_ok hW hF hq hc
    have hn := h G0 G (a.put (some t) u) w h0 hl (hF.put ht hu) (by simp [Act.put, hdf]) hW
    simp only [resm] at hn ⊢
    unfold wpStill
    rw [if_pos (wanted_none hg)]
    unfold Oper.still
    rw [hr w (Below.refl _ _), Oper.stillUpon_value, hd]
    exact hn

/-! ### Guards -/
def wantedA (all : Array Oper) (env : Env) (o : Oper) : Option Bool :=
  match o.guard with
  | none => some true
  | some (j, want) => match (all[j]?).bind (·.dst) with
    | some t => match env.get t with
      | .d (.bool b) => some (b == want)
      | .tup [] => some false
      | _ => none
    | none => none
theorem wantedA_ok {all : Array Oper} {o : Oper} {b : Bool} {tmps : Array Value} (hF : FRel G nt tmps env) (h : wantedA all env o = some b) : Region.wanted o (yielded all tmps) = b := by
  unfold wantedA at h
  split at h
  · rename_i hg; cases h; exact wanted_none hg
  · rename_i j want hg
    split at h
    · rename_i t ht
      split at h
      · rename_i b' hb
        cases h
        have := hF.rel t
        rw [hb] at this
        have hv := this.bool_inv
        have hlt : t < tmps.size := by
          rcases Nat.lt_or_ge t tmps.size with h | h
          · exact h
          · simp [Array.getD, Nat.not_lt.2 h, undef] at hv
        have e : tmps[t]? = some (.bool b') := by simpa [Array.getD, hlt] using hv
        simp [Region.wanted, hg, yielded, ht, e]
      · rename_i hb
        cases h
        have := hF.rel t
        rw [hb] at this
        have hv : tmps.getD t undef = .tuple #[] := by
          generalize tmps.getD t undef = v at this
          cases this with
          | tup vs _ hl _ =>
            have : vs = #[] := Array.eq_empty_of_size_eq_zero (by simpa using hl)
            rw [this]
        rcases Nat.lt_or_ge t tmps.size with hlt | hlt
        · have e : tmps[t]? = some (.tuple #[]) := by simpa [Array.getD, hlt] using hv
          simp [Region.wanted, hg, yielded, ht, e]
        · have e : tmps[t]? = none := by simp [hlt]
          simp [Region.wanted, hg, yielded, ht, e]
      · cases h
    · cases h

theorem undef_rel {G : Ghost} : VRel G undef (.tup []) := .tup #[] [] rfl fun i c h => by simp at h
/-- a guarded operation that is left out -/
theorem AGo.skipOp {all : Array Oper} {o : Oper} {l : List Oper} {t : Nat} (hw : wantedA all env o = some false) (hd : o.dst = some t) (ht : Nat.ble (t + 1) nt = true)
    (h : AGo Γ nt n0 (.ops all l :: k) Q ((t, .tup []) :: env) H) : AGo Γ nt n0 (.ops all (o :: l) :: k) Q env H :=
  fun G0 G a w h0 hl hF hdf hW => by
    have hn := h G0 G (a.put (some t) undef) w h0 hl (hF.put ht undef_rel) (by simp [Act.put, hdf]) hW
    simp only [resm] at hn ⊢
    unfold wpList
    rw [wantedA_ok hF hw, hd]
    exact hn
theorem AGo.qskipOp {all : Array Oper} {o : Oper} {l : List Oper} {t : Nat} (hw : wantedA all env o = some false) (hd : o.dst = some t) (ht : Nat.ble (t + 1) nt = true)
    (h : AGo Γ nt n0 (.qops all l :: k) Q ((t, .tup []) :: env) H) : AGo Γ nt n0 (.qops all (o :: l) :: k) Q env H :=
  fun G0 G a w h0 hl hF hdf hW => by
    have hn := h G0 G (a.put (some t) undef) w h0 hl (hF.put ht undef_rel) (by simp [Act.put, hdf]) hW
    simp only [resm] at hn ⊢
    unfold wpQuiet
    rw [wantedA_ok hF hw, hd]
    exact hn
theorem AGo.sskipOp {all : Array Oper} {o : Oper} {l : List Oper} {t : Nat} (hw : wantedA all env o = some false) (hd : o.dst = some t) (ht : Nat.ble (t + 1) nt = true)
    (h : AGo Γ nt n0 (.sops all l :: k) Q ((t, .tup []) :: env) H) : AGo Γ nt n0 (.sops all (o :: l) :: k) Q env H :=
  fun G0 G a w h0 hl hF hdf hW => by
    have hn := h G0 G (a.put (some t) undef) w h0 hl (hF.put ht undef_rel) (by simp [Act.put, hdf]) hW
    simp only [resm] at hn ⊢
    unfold wpStill
    rw [wantedA_ok hF hw, hd]
    exact hn
theorem AGo.sunguard {all : Array Oper} {o : Oper} {l : List Oper} (hsome : o.guard.isSome = true) (hw : wantedA all env o = some true) (h : AGo Γ nt n0 (.sops all ({ o with guard := none } :: l) :: k) Q env H) :
    AGo Γ nt n0 (.sops all (o :: l) :: k) Q env H :=
  fun G0 G a w h0 hl hF hdf hW => by
    have hn := h G0 G a w h0 hl hF hdf hW
    simp only [resm] at hn ⊢
    unfold wpStill at hn ⊢
    rw [if_pos (wanted_none rfl)] at hn
    rw [if_pos (wantedA_ok hF hw)]
    exact hn
/-- a guarded operation that is carried out -/
theorem AGo.unguard {all : Array Oper} {o : Oper} {l : List Oper} (hsome : o.guard.isSome = true) (hw : wantedA all env o = some true) (h : AGo Γ nt n0 (.ops all ({ o with guard := none } :: l) :: k) Q env H) :
    AGo Γ nt n0 (.ops all (o :: l) :: k) Q env H :=
  fun G0 G a w h0 hl hF hdf hW => by
    have hn := h G0 G a w h0 hl hF hdf hW
    simp only [resm] at hn ⊢
    unfold wpList at hn ⊢
    rw [if_pos (wanted_none rfl)] at hn
    rw [if_pos (wantedA_ok hF hw)]
    exact hn
theorem AGo.qunguard {all : Array Oper} {o : Oper} {l : List Oper} (hsome : o.guard.isSome = true) (hw : wantedA all env o = some true) (h : AGo Γ nt n0 (.qops all ({ o with guard := none } :: l) :: k) Q env H) :
    AGo Γ nt n0 (.qops all (o :: l) :: k) Q env H :=
  fun G0 G a w h0 hl hF hdf hW => by
    have hn := h G0 G a w h0 hl hF hdf hW
    simp only [resm] at hn ⊢
    unfold wpQuiet at hn ⊢
    rw [if_pos (wanted_none rfl)] at hn
    rw [if_pos (wantedA_ok hF hw)]
    exact hn

/-! ### A call beside reads: its answer is plain -/
def D.val? : D → Option Value
  | .bool b => some (.bool b)
  | .int k n => some (.int k n)
  | .str s => some (.string ⟨s.toArray⟩)
  | .nilp => some (.pointer none)
  | _ => none
def vals? : List D → Option (List Value)
  | [] => some []
  | x :: r => match x.val?, vals? r with | some v, some l => some (v :: l) | _, _ => none
def AV.val? : AV → Option Value
  | .d (.agg cs) => match vals? cs with | some l => some (.agg l.toArray) | none => none
  | .d x => x.val?
  | .tup vs => tv vs
  | _ => none
where
  tv (vs : List AV) : Option Value := match go vs with | some l => some (.tuple l.toArray) | none => none
  go : List AV → Option (List Value)
  | [] => some []
  | .d (.agg cs) :: r => match vals? cs, go r with | some l, some m => some (.agg l.toArray :: m) | _, _ => none
  | .d x :: r => match x.val?, go r with | some v, some m => some (v :: m) | _, _ => none
  | _ :: _ => none

theorem D.val_ok {imm : Nat → List Value} {x : D} {u v : Value} (h : DRel imm u x) (hv : x.val? = some v) : u = v := by
  cases h <;> simp [D.val?] at hv <;> try exact hv
theorem vals_ok {imm : Nat → List Value} : ∀ {l : List D} {us vs : List Value}, us.length = l.length → (∀ (i : Nat) (c : D), l[i]? = some c → DRel imm (gv us i) c) → vals? l = some vs → us = vs
  | [], us, vs, hl, _, hv => by
    simp [vals?] at hv; subst hv
    exact List.eq_nil_of_length_eq_zero (by simpa using hl)
  | x :: r, us, vs, hl, h, hv => by
    simp only [vals?] at hv
    split at hv
    · rename_i v l h1 h2
      cases hv
      cases us with
      | nil => simp at hl
      | cons u us =>
        have := D.val_ok (h 0 x rfl) h1
        simp [gv] at this; subst this
        rw [vals_ok (us := us) (by simpa using hl) (fun i c hc => by simpa [gv] using h (i + 1) c (by simpa using hc)) h2]
    · cases hv
theorem aggv_ok {cs : List D} {u : Value} {l : List Value} (h : VRel G u (.d (.agg cs))) (hv : vals? cs = some l) : u = .agg l.toArray := by
  cases h with
  | d _ _ hd => cases hd with
    | agg vs _ hl hone h =>
      have := vals_ok (us := vs.toList) (by simpa using hl) h hv
      rw [← this]
theorem dv_ok {x : D} {u v : Value} (h : VRel G u (.d x)) (hv : x.val? = some v) : u = v := by
  cases h with | d _ _ hd => exact D.val_ok hd hv
theorem go_ok : ∀ {l : List AV} {us vs : List Value}, us.length = l.length → (∀ (i : Nat) (c : AV), l[i]? = some c → VRel G (gv us i) c) → AV.val?.go l = some vs → us = vs := by
  intro l
  induction l with
  | nil =>
    intro us vs hl _ hv
    simp [AV.val?.go] at hv; subst hv
    exact List.eq_nil_of_length_eq_zero (by simpa using hl)
  | cons a r ih =>
    intro us vs hl h hv
    cases us with
    | nil => simp at hl
    | cons u us =>
      have h0 := h 0 a rfl
      simp [gv] at h0
      have ih' := fun m (hm : AV.val?.go r = some m) => ih (us := us) (by simpa using hl) (fun i c hc => by simpa [gv] using h (i + 1) c (by simpa using hc)) hm
      unfold AV.val?.go at hv
      split at hv
      · rename_i he; cases he
      · rename_i cs r' he
        cases he
        split at hv
        · rename_i l' m h1 h2
          cases hv
          rw [aggv_ok h0 h1, ih' m h2]
        · cases hv
      · rename_i x r' hne he
        cases he
        split at hv
        · rename_i v m h1 h2
          cases hv
          rw [dv_ok h0 h1, ih' m h2]
        · cases hv
      · cases hv
theorem AV.val_ok {x : AV} {u v : Value} (h : VRel G u x) (hv : x.val? = some v) : u = v := by
  unfold AV.val? at hv
  split at hv
  · split at hv
    · cases hv; exact aggv_ok h ‹_›
    · cases hv
  · exact dv_ok h hv
  · unfold AV.val?.tv at hv
    split at hv
    · rename_i l hl
      cases hv
      cases h with
      | tup vs _ hl' h =>
        have := go_ok (us := vs.toList) (by simpa using hl') h hl
        rw [← this]
    · cases hv
  · cases hv

theorem D.val_mk {imm : Nat → List Value} {x : D} {v : Value} (hv : x.val? = some v) : DRel imm v x ∧ x.one = true := by
  cases x <;> simp [D.val?] at hv <;> subst hv <;> refine ⟨?_, rfl⟩
  · exact .bool _
  · exact .int _ _
  · exact .str _
  · exact .nilp
theorem vals_mk {imm : Nat → List Value} : ∀ {l : List D} {vs : List Value}, vals? l = some vs → vs.length = l.length ∧ (∀ c ∈ l, c.one = true) ∧ ∀ (i : Nat) (c : D), l[i]? = some c → DRel imm (gv vs i) c
  | [], vs, hv => by simp [vals?] at hv; subst hv; simp
  | x :: r, vs, hv => by
    simp only [vals?] at hv
    split at hv
    · rename_i v l h1 h2
      cases hv
      obtain ⟨e1, e2, e3⟩ := vals_mk (imm := imm) h2
      obtain ⟨d1, d2⟩ := D.val_mk (imm := imm) h1
      refine ⟨by simp [e1], fun c hc => ?_, fun i c hc => ?_⟩
      · rcases List.mem_cons.1 hc with rfl | hc
        · exact d2
        · exact e2 c hc
      · cases i with
        | zero => simp at hc; subst hc; simpa [gv] using d1
        | succ i => simpa [gv] using e3 i c (by simpa using hc)
    · cases hv
theorem aggv_mk {cs : List D} {l : List Value} (hv : vals? cs = some l) : VRel G (.agg l.toArray) (.d (.agg cs)) := by
  obtain ⟨e1, e2, e3⟩ := vals_mk (imm := G.imm) hv
  exact .d _ _ (.agg _ _ (by simpa using e1) e2 (by simpa using e3))
theorem go_mk : ∀ {l : List AV} {vs : List Value}, AV.val?.go l = some vs → vs.length = l.length ∧ ∀ (i : Nat) (c : AV), l[i]? = some c → VRel G (gv vs i) c := by
  intro l
  induction l with
  | nil => intro vs hv; simp [AV.val?.go] at hv; subst hv; simp
  | cons a r ih =>
    intro vs hv
    have fin : ∀ {v m}, VRel G v a → AV.val?.go r = some m → vs = v :: m → vs.length = (a :: r).length ∧ ∀ (i : Nat) (c : AV), (a :: r)[i]? = some c → VRel G (gv vs i) c := fun {v m} h0 h2 he => by
      subst he
      obtain ⟨e1, e2⟩ := ih h2
      refine ⟨by simp [e1], fun i c hc => ?_⟩
      cases i with
      | zero => simp at hc; subst hc; simpa [gv] using h0
      | succ i => simpa [gv] using e2 i c (by simpa using hc)
    unfold AV.val?.go at hv
    split at hv
    · rename_i he; cases he
    · rename_i cs r' he
      cases he
      split at hv
      · rename_i l' m h1 h2
        cases hv
        exact fin (aggv_mk h1) h2 rfl
      · cases hv
    · rename_i x r' hne he
      cases he
      split at hv
      · rename_i v m h1 h2
        cases hv
        exact fin (.d _ _ (D.val_mk h1).1) h2 rfl
      · cases hv
    · cases hv
theorem AV.val_mk {x : AV} {v : Value} (hv : x.val? = some v) : VRel G v x := by
  unfold AV.val? at hv
  split at hv
  · split at hv
    · cases hv; exact aggv_mk ‹_›
    · cases hv
  · exact .d _ _ (D.val_mk hv).1
  · unfold AV.val?.tv at hv
    split at hv
    · rename_i l hl
      cases hv
      obtain ⟨e1, e2⟩ := go_mk (G := G) hl
      exact .tup _ _ (by simpa using e1) (by simpa using e2)
    · cases hv
  · cases hv

theorem AGo.qcall {all : Array Oper} {o : Oper} {l : List Oper} {t f : Nat} {args : List AV} {R : AV → List AObj → Prop} (r : AV)
    (hR : ACalls Γ f args [] R) (hg : o.guard = none) (hd : o.dst = some t) (ht : Nat.ble (t + 1) nt = true)
    (hcall : calleeA Γ env o.op = some (f, args)) (hab : AV.bnds 0 args = true) (hr : ∀ r' H', R r' H' → r' = r) {v : Value} (hv : r.val? = some v) (hb : r.bnd 0 = true)
    (h : AGo Γ nt n0 (.qops all l :: k) Q ((t, r) :: env) H) : AGo Γ nt n0 (.qops all (o :: l) :: k) Q env H :=
  fun G0 G a w h0 hl hF hdf hW => by
    obtain ⟨vs, hA, hrun⟩ := run_call hW hF hcall hR.1
    have calls : ∀ w1, Below w.heap.size w w1 → Calls Γ.P f vs w1 fun e w' => ∃ u G', e = .returned u ∧ VRel G' u r ∧ Below w1.heap.size w1 w' := fun w1 hb1 => by
      have hW1 := hW.below hb1
      have hWc := hW1.callee (ρ := []) (Hc := []) List.nodup_nil rfl rfl
      have hAc : ARels (G.callee w1 H []) vs args := ⟨hA.1, fun i c hc => (hA.2 i c hc).mono' (k := 0) (G' := G.callee w1 H []) (ImmLe.refl G.imm) (fun id b h _ => by omega) (fun id n v h _ => by omega) (bnds_mem hab hc)⟩
      refine (hR.2 _ w1 vs hWc hAc).mono ?_
      rintro e w' ⟨u, r', H', G', rfl, hRr, _, hle, hu, hW'⟩
      obtain rfl := hr r' H' hRr
      refine ⟨u, G', rfl, hu, ?_⟩
      have b0 : G'.base = w1 := hle.base
      have o0 : ∀ b, ¬ G'.own0 b := fun b h => by rw [hle.own0] at h; obtain ⟨id, o, hm, _⟩ := h; simp at hm
      exact ⟨by rw [hW'.os, b0], by rw [hW'.tape, b0], by rw [hW'.output, b0], by have := hW'.size; rwa [b0] at this, fun b hb => by have := (hW'.old b (by rw [b0]; exact hb) (o0 b)).1; rwa [b0] at this⟩
    have hvr : VRel G v r := by
      obtain ⟨e, w', fr, ⟨u, G', rfl, hu, _⟩, _⟩ := calls w (Below.refl _ _) []
      have := AV.val_ok hu hv
      subst this
      clear hrun calls
      exact AV.val_mk hv
    have hn := h G0 G (a.put (some t) v) w h0 hl (hF.put ht hvr) (by simp [Act.put, hdf]) hW
    simp only [resm] at hn ⊢
    unfold wpQuiet
    rw [if_pos (wanted_none hg)]
    refine ⟨v, fun w1 hb1 => ?_, by rw [hd]; exact hn⟩
    unfold Oper.quietAt
    rw [hrun w1]
    refine ⟨rfl, (calls w1 hb1).mono ?_⟩
    rintro e w' ⟨u, G', rfl, hu, hb'⟩
    refine ⟨by rw [AV.val_ok hu hv], ?_⟩
    exact hb1.trans (hb'.mono hb1.size)
end
end Go.Proofs.YtammpekpmjboiaaDoor.Av
