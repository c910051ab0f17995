/- append, as a step. -/
import Derived.Test.YtammpekpmjboiaaDoorAv13
set_option linter.unusedVariables false
set_option linter.unusedSimpArgs false
namespace Go.Proofs.YtammpekpmjboiaaDoor.Av
open Go Go.RowKit

structure RowsRel (imm : Nat → List Value) (sz : Nat) (es : List D) (xs : List Value) : Prop where
  len : xs.length = es.length * sz
  hsz : ∀ e ∈ es, e.cells.length = sz
  one : ∀ e ∈ es, ∀ c ∈ e.cells, c.one = true
  rel : ∀ (i : Nat) (e : D) (j : Nat) (c : D), es[i]? = some e → e.cells[j]? = some c → DRel imm (gv xs (i * sz + j)) c
theorem RowsRel.nil (imm : Nat → List Value) (sz : Nat) : RowsRel imm sz [] [] := ⟨by simp, by simp, by simp, by simp⟩
theorem RowsRel.mono {imm imm' : Nat → List Value} {sz : Nat} {es : List D} {xs : List Value} (h : RowsRel imm sz es xs) (hle : ImmLe imm imm') : RowsRel imm' sz es xs :=
  ⟨h.len, h.hsz, h.one, fun i e j c h1 h2 => (h.rel i e j c h1 h2).mono hle⟩
theorem RowsRel.append {imm : Nat → List Value} {sz : Nat} {es fs : List D} {xs ys : List Value} (h : RowsRel imm sz es xs) (h' : RowsRel imm sz fs ys) : RowsRel imm sz (es ++ fs) (xs ++ ys) := by
  refine ⟨by simp [h.len, h'.len, Nat.add_mul], fun e he => ?_, fun e he => ?_, fun i e j c hi hj => ?_⟩
  · rcases List.mem_append.1 he with he | he
    · exact h.hsz e he
    · exact h'.hsz e he
  · rcases List.mem_append.1 he with he | he
    · exact h.one e he
    · exact h'.one e he
  · rcases Nat.lt_or_ge i es.length with hlt | hge
    · rw [List.getElem?_append_left hlt] at hi
      have hjl : j < sz := by rw [← h.hsz e (List.mem_of_getElem? hi)]; exact getElem?_lt hj
      have hk := idx_lt hlt hjl
      have := h.rel i e j c hi hj
      have e1 : gv (xs ++ ys) (i * sz + j) = gv xs (i * sz + j) := by simp [gv, List.getD, List.getElem?_append_left (show i * sz + j < xs.length by rw [h.len]; exact hk)]
      rwa [e1]
    · rw [List.getElem?_append_right hge] at hi
      have := h'.rel (i - es.length) e j c hi hj
      have e0 : i * sz + j = xs.length + ((i - es.length) * sz + j) := by
        rw [h.len]
        have : i * sz = es.length * sz + (i - es.length) * sz := by rw [← Nat.add_mul]; congr 1; omega
        omega
      have e1 : gv (xs ++ ys) (i * sz + j) = gv ys ((i - es.length) * sz + j) := by
        rw [e0]
        simp only [gv, List.getD]
        rw [List.getElem?_append_right (by omega), Nat.add_sub_cancel_left]
      rwa [e1]
theorem RowsRel.drel {imm : Nat → List Value} {sz : Nat} {es : List D} {xs : List Value} (h : RowsRel imm sz es xs) {b cap : Nat} (hb : imm b = xs) (hcap : es.length ≤ cap) : DRel imm (.slice (some ⟨b, 0, none⟩) es.length cap) (.sl sz es) := by
  cases es with
  | nil => exact .sl0 _ _ _
  | cons e r =>
    refine .sl b 0 cap sz (e :: r) (by simp) hcap h.hsz h.one (by rw [hb, h.len]; simp) fun i x j c hi hj => ?_
    rw [hb, Nat.zero_add]
    exact h.rel i x j c hi hj

/-- the bytes that a list of numbers tells -/
def octets (l : List UInt8) : List D := l.map fun b => D.int .u8 (b.toNat : Int)
def srcA (Γ : Ctx) (t2 sz : Nat) (v : AV) : Option (List D) :=
  match lookT Γ.T t2 with
  | some { sh := .str, .. } => match v with
    | .d (.str s) => bif Nat.beq sz 1 then some (octets s) else none
    | _ => none
  | some { sh := .slice _, .. } => match v.unD with
    | some (.sl sz' es) => bif Nat.beq sz' sz then some es else none
    | _ => none
  | _ => none

section
variable {Γ : Ctx} {nt n0 : Nat} {k : List It} {Q : Post} {env : Env} {H : List AObj} {G : Ghost} {w w' : World} {a : Act}

theorem oneCell_of_rows {imm : Nat → List Value} {sz : Nat} (hpos : 0 < sz) {es : List D} {xs : List Value} (h : RowsRel imm sz es xs) : ∀ u ∈ xs, u.oneCell' = true := fun u hu => by
  obtain ⟨q, hq⟩ := List.getElem?_of_mem hu
  have hlt := getElem?_lt hq
  rw [h.len] at hlt
  have hi : q / sz < es.length := Nat.div_lt_of_lt_mul (by rw [Nat.mul_comm]; exact hlt)
  have hj : q % sz < sz := Nat.mod_lt _ hpos
  have he := List.getElem?_eq_getElem hi
  have hm := List.getElem_mem hi
  have hc := List.getElem?_eq_getElem (l := es[q / sz].cells) (i := q % sz) (by rw [h.hsz _ hm]; exact hj)
  have hr := h.rel _ _ _ _ he hc
  have hd : q / sz * sz + q % sz = q := by rw [Nat.mul_comm]; exact Nat.div_add_mod q sz
  rw [hd] at hr
  have := hr.oneCell (h.one _ hm _ (List.mem_of_getElem? hc))
  simpa [gv, List.getD, hq] using this

theorem src_ok (hW : WRel Γ.gl G H w) {t2 sz : Nat} (hpos : 0 < sz) {u : Value} {x : AV} {es : List D} (hu : VRel G u x) (hs : srcA Γ t2 sz x = some es) :
    ∃ news, Src Γ.P sz t2 u w es.length news ∧ RowsRel G.imm sz es news := by
  unfold srcA at hs
  split at hs
  · rename_i hT
    obtain ⟨f⟩ := Γ.ty hT
    split at hs
    · rename_i s
      cases hb : Nat.beq sz 1 with
      | false => rw [hb] at hs; cases hs
      | true =>
        rw [hb, cond_true] at hs; cases hs
        have := Nat.eq_of_beq_eq_true hb
        subst this
        obtain rfl := hu.str_inv
        have hr : RowsRel G.imm 1 (octets s) (s.map fun b => Value.int .u8 (b.toNat : Int)) := by
          refine ⟨by simp [octets], fun e he => ?_, fun e he c hc => ?_, fun i e j c hi hj => ?_⟩
          · obtain ⟨b, _, rfl⟩ := List.mem_map.1 he; rfl
          · obtain ⟨b, _, rfl⟩ := List.mem_map.1 he; simp [D.cells] at hc; subst hc; rfl
          · rw [octets, List.getElem?_map] at hi
            cases hq : s[i]? with
            | none => simp [hq] at hi
            | some b =>
              simp [hq] at hi; subst hi
              cases j with
              | zero => simp [D.cells] at hj; subst hj; simp [gv, List.getD, hq]; exact .int _ _
              | succ j => simp [D.cells] at hj
        have hcells : ∀ w', (Builtin.firstCells 1 (octets s).length (.string ⟨s.toArray⟩)).run Γ.P w' = .ok (s.map fun b => Value.int .u8 (b.toNat : Int)).toArray w' := fun w' => by
          simp only [Builtin.firstCells, Sem.run_pure, octets, List.length_map]
          congr 1
          apply Array.ext'
          have : (⟨s.toArray⟩ : ByteArray).extract 0 s.length = ⟨s.toArray⟩ := by
            have : s.length = (⟨s.toArray⟩ : ByteArray).size := by simp [ByteArray.size]
            rw [this, ByteArray.extract_zero_size]
          rw [this]
          simp
        exact ⟨_, ⟨.inl (und_str f rfl), fun w' => by simp [Builtin.lenOf, ByteArray.size, octets], hcells w, hcells w.drew, by simp [octets], oneCell_of_rows hpos hr⟩, hr⟩
    · cases hs
  · rename_i e' hT
    obtain ⟨f⟩ := Γ.ty hT
    have hund := und_slice f rfl
    split at hs
    · rename_i sz' es' hx
      cases hb : Nat.beq sz' sz with
      | false => rw [hb] at hs; cases hs
      | true =>
        rw [hb, cond_true] at hs; cases hs
        have := Nat.eq_of_beq_eq_true hb
        subst this
        have hd := unD_ok hu hx
        cases hd with
        | sl0 ad cap _ =>
          refine ⟨[], ⟨.inr ⟨_, hund⟩, fun w' => by simp [Builtin.lenOf], ?_, ?_, by simp, by simp⟩, RowsRel.nil _ _⟩
          all_goals cases ad <;> simp [Builtin.firstCells, loadCells, loadCellsFrom]
        | sl b o cap _ _ hne hcap hsz hone hin h =>
          have hr : RowsRel G.imm sz' es ((List.range (es.length * sz')).map fun q => gv (G.imm b) (o + q)) := by
            refine ⟨by simp, hsz, hone, fun i e j c hi hj => ?_⟩
            have hjl : j < sz' := by rw [← hsz e (List.mem_of_getElem? hi)]; exact getElem?_lt hj
            have hk := idx_lt (getElem?_lt hi) hjl
            have := h i e j c hi hj
            simp only [gv, List.getD, List.getElem?_map, List.getElem?_range hk] at this ⊢
            simpa [Nat.add_assoc] using this
          have hcell : ∀ j v, ((List.range (es.length * sz')).map fun q => gv (G.imm b) (o + q))[j]? = some v → w.cell? ((⟨b, o, none⟩ : Addr).add j) = some v := fun j v hj => by
            have hjl := getElem?_lt hj
            simp only [List.length_map, List.length_range] at hjl
            simp only [List.getElem?_map, List.getElem?_range hjl, Option.map_some, Option.some.injEq] at hj
            subst hj
            rw [addr_add]
            exact hW.imm b (o + j) (by omega)
          refine ⟨_, ⟨.inr ⟨_, hund⟩, fun w' => by simp [Builtin.lenOf], ?_, ?_, by simp, oneCell_of_rows hpos hr⟩, hr⟩
          · exact run_firstCells_some (P := Γ.P) w _ _ _ _ _ _ (by simp) hcell
          · exact run_firstCells_some (P := Γ.P) w.drew _ _ _ _ _ _ (by simp) (by simpa using hcell)
    · cases hs
  · cases hs

theorem run_appendOp {P : Program} {o : Oper} {s x : Operand} {T T2 : Nat} (hop : o.op = .call { callee := .builtin .append, args := #[s, x], argTypes := #[T, T2] }) (a : Act) {w w' : World} {v' : Value}
    (h : (Builtin.append_ #[T, T2] o.type #[a.eval s, a.eval x]).run P w = .ok v' w') : (execOp a.eval o).run P w = .ok (.value v') w' := by
  unfold execOp
  simp only [hop, resolve, invoke, builtin, Sem.run_bind, Sem.run_pure, Result.andThen_ok, List.map_toArray, List.map_cons, List.map_nil, h]

theorem Apd.val {w w' : World} {e : TypeId} {sz : Nat} {z v v' : Value} {n m : Nat} {xs news : List Value} (hn0 : v = .slice none 0 0 → n = 0) (h : Apd w e sz z v n xs m news v' w') :
    (v' = .slice none 0 0 ∧ n + m = 0) ∨ ∃ b c, v' = .slice (some ⟨b, 0, none⟩) (n + m) c ∧ n + m ≤ c := by
  cases h with
  | inPlace g cap cur hv hg h1 => exact .inr ⟨g, cap, rfl, h1⟩
  | grown c h0 h1 => exact .inr ⟨_, c, rfl, h1⟩
  | nil hv hn hm => exact .inl ⟨hv, by omega⟩

theorem app_step {all : Array Oper} {o : Oper} {l : List Oper} {t T T2 e id : Nat} {es es2 : List D} {te ti : TI} {s x : Operand} {H' : List AObj} {xs : List Value} {v : Value} {G0 : Ghost}
    (hop : o.op = .call { callee := .builtin .append, args := #[s, x], argTypes := #[T, T2] }) (hg : o.guard = none) (hd : o.dst = some t) (ht : Nat.ble (t + 1) nt = true)
    (hT : lookT Γ.T T = some ti) (hsh : ti.sh = .slice e) (hE : lookT Γ.T e = some te) (hx : srcA Γ T2 te.size (ev Γ env x) = some es2) (hlim : es.length + es2.length ≤ 140737488355328 ∧ (es.length + es2.length) * te.bytes ≤ 140737488355328) (hpos : Nat.ble 1 te.size = true)
    (h0 : GLe n0 G0 G) (hl : n0 ≤ H.length) (hF : FRel G nt a.tmps env) (hdf : a.defers = []) (hW : WRel Γ.gl G H w)
    (hev : a.eval s = v) (hown : w.ownsRow 0 e te.size v es.length xs) (himm : ∀ b, v.ownBlock = some b → G.imm b = xs) (hlast : ∀ q, es.length < q → G.fl id q = none)
    (hold : (H[id]? = some (.front e te.size es.length) ∧ G.fl id es.length = some v) ∨ (id = H.length ∧ v = .slice none 0 0))
    (hrr : RowsRel G.imm te.size es xs) (hlen : H.length ≤ H'.length) (hH1 : H'[id]? = some (.front e te.size (es ++ es2).length)) (hH2 : ∀ i, i ≠ id → H'[i]? = H[i]?)
    (h : AGo Γ nt n0 (.ops all l :: k) Q ((t, .own te.size (es ++ es2) id) :: env) H') : wpList Γ.P all (resm Γ.P (Conc Γ nt n0 G0 Q) k) (o :: l) a w := by
  obtain ⟨f⟩ := Γ.ty hT
  obtain ⟨fe⟩ := Γ.ty hE
  have hp : 0 < te.size := Nat.le_of_ble_eq_true hpos
  have hund := und_slice f hsh
  have hzs : fe.z.cells.size = te.size := by
    have := (zeroOk_rel (imm := G.imm) fe.zok).1
    rw [fe.zlen] at this; simpa using this
  obtain ⟨news, hsrc, hrn⟩ := src_ok hW hp (ev_ok hW hF x) hx
  obtain ⟨v', w', hr, hapd⟩ := run_app (P := Γ.P) w T T2 o.type e fe.i fe.z te.size te.bytes hund fe.info fe.hz fe.size fe.bytes v es.length xs hown (a.eval x) es2.length news hsrc
    (by simp only [maxLen]; omega) hlim.2
  obtain ⟨g1, g2⟩ := hW.app hzs hown himm id hlast hold hsrc.hl hapd H' hlen (by simpa using hH1) hH2
  have hv : VRel (G.app id (es.length + es2.length) v' (xs ++ news)) v' (.own te.size (es ++ es2) id) := by
    refine .own _ _ _ _ (by simp [Ghost.app]) ?_
    have hrr' := (hrr.append hrn).mono g1.imm
    rcases hapd.val (fun hv => by
      rcases hown.2 with ⟨_, h2⟩ | ⟨g, cap, cur, h2, _⟩
      · exact h2
      · rw [hv] at h2; cases h2) with ⟨rfl, hn⟩ | ⟨b, c, rfl, hc⟩
    · have : es ++ es2 = [] := List.eq_nil_of_length_eq_zero (by simpa using hn)
      rw [this]; exact .sl0 _ _ _
    · have := hrr'.drel (b := b) (cap := c) (by simp [Ghost.app, Value.ownBlock]) (by simpa using hc)
      rwa [List.length_append] at this
  have hn := h G0 _ (a.put (some t) v') w' (h0.trans (g1.weaken hl)) (by omega) ((hF.up g1 hW.lim).put ht hv) (by simp [Act.put, hdf]) g2
  simp only [resm] at hn
  unfold wpList
  rw [if_pos (wanted_none hg)]
  refine .inl ?_
  have hr' := run_appendOp (P := Γ.P) hop a (by rw [hev]; exact hr)
  unfold Oper.wp
  rw [hr']
  simp only [Oper.upon, hd]
  exact hn

/-- append on a row of one's own -/
theorem AGo.append {all : Array Oper} {o : Oper} {l : List Oper} {t T T2 e id n : Nat} {es es2 : List D} {te ti : TI} {s x : Operand}
    (hop : o.op = .call { callee := .builtin .append, args := #[s, x], argTypes := #[T, T2] }) (hg : o.guard = none) (hd : o.dst = some t) (ht : Nat.ble (t + 1) nt = true)
    (hT : lookT Γ.T T = some ti) (hsh : ti.sh = .slice e) (hE : lookT Γ.T e = some te) (hs : ev Γ env s = .own te.size es id) (hh : hget H id = some (.front e te.size n)) (hx : srcA Γ T2 te.size (ev Γ env x) = some es2)
    (hpos : Nat.ble 1 te.size = true) (hn : n = es.length) (hlim : es.length + es2.length ≤ 140737488355328 ∧ (es.length + es2.length) * te.bytes ≤ 140737488355328)
    (h : AGo Γ nt n0 (.ops all l :: k) Q ((t, .own te.size (es ++ es2) id) :: env) (H.set id (.front e te.size (es ++ es2).length))) : AGo Γ nt n0 (.ops all (o :: l) :: k) Q env H :=
  fun G0 G a w h0 hl hF hdf hW => by
    subst hn
    rw [hget_eq] at hh
    have hlt := getElem?_lt hh
    obtain ⟨v, xs, o1, o2, o3, o4⟩ := hW.obj id _ hh
    have hsv := ev_ok hW hF s
    rw [hs] at hsv
    generalize hve : a.eval s = sv at hsv
    cases hsv with
    | own _ _ _ _ hfl hdr =>
      have hfl' := hfl
      rw [o1] at hfl'; cases hfl'
      have hrr : RowsRel G.imm te.size es xs := by
        rcases o2.2 with ⟨rfl, h2⟩ | ⟨g, cap, cur, rfl, _, _, hnc, _⟩
        · have e1 := List.eq_nil_of_length_eq_zero h2
          subst e1
          have : xs = [] := List.eq_nil_of_length_eq_zero (by simpa using o2.1)
          subst this; exact .nil _ _
        · have hg := o3 g rfl
          generalize hes : es.length = len at hdr o2 hnc
          cases hdr with
          | sl0 => 
            have : xs = [] := List.eq_nil_of_length_eq_zero (by simpa using o2.1)
            subst this; exact .nil _ _
          | sl b o cap sz es hne hcap hsz hone hin hr =>
            refine ⟨o2.1, hsz, hone, fun i e j c hi hj => ?_⟩
            have := hr i e j c hi hj
            rwa [hg, Nat.zero_add] at this
      simp only [resm]
      exact app_step hop hg hd ht hT hsh hE hx hlim hpos h0 hl hF hdf hW hve o2 o3 o4 (.inl ⟨hh, o1⟩) hrr (by simp) (by simp [hlt]) (fun i hi => by simp [List.getElem?_set, Ne.symm hi]) h
/-- append on nil -/
theorem AGo.appendN {all : Array Oper} {o : Oper} {l : List Oper} {t T T2 e : Nat} {es2 : List D} {te ti : TI} {s x : Operand}
    (hop : o.op = .call { callee := .builtin .append, args := #[s, x], argTypes := #[T, T2] }) (hg : o.guard = none) (hd : o.dst = some t) (ht : Nat.ble (t + 1) nt = true)
    (hT : lookT Γ.T T = some ti) (hsh : ti.sh = .slice e) (hE : lookT Γ.T e = some te) (hs : ev Γ env s = .d .nils) (hx : srcA Γ T2 te.size (ev Γ env x) = some es2)
    (hpos : Nat.ble 1 te.size = true) (hlim : es2.length ≤ 140737488355328 ∧ es2.length * te.bytes ≤ 140737488355328)
    (h : AGo Γ nt n0 (.ops all l :: k) Q ((t, .own te.size es2 H.length) :: env) (H ++ [.front e te.size es2.length])) : AGo Γ nt n0 (.ops all (o :: l) :: k) Q env H :=
  fun G0 G a w h0 hl hF hdf hW => by
    have hsv := ev_ok hW hF s
    rw [hs] at hsv
    generalize hve : a.eval s = sv at hsv
    cases hsv with
    | d _ _ hdr =>
      cases hdr
      simp only [resm]
      exact app_step (H' := H ++ [.front e te.size es2.length]) (es := []) (xs := []) hop hg hd ht hT hsh hE hx (by simpa using hlim) hpos h0 hl hF hdf hW hve (World.ownsRow_nil _ _ _ _) (fun b hb => by cases hb) (fun q _ => (hW.lim _ (Nat.le_refl _)).2 q)
        (.inr ⟨rfl, rfl⟩) (.nil _ _) (by simp) (by simp) (fun i hi => by
          rcases Nat.lt_or_ge i H.length with h1 | h1
          · simp [List.getElem?_append_left h1]
          · rw [List.getElem?_append_right h1, List.getElem?_eq_none h1]
            have : i - H.length = (i - H.length - 1) + 1 := by omega
            rw [this]; simp) (by simpa using h)
end
end Go.Proofs.YtammpekpmjboiaaDoor.Av
