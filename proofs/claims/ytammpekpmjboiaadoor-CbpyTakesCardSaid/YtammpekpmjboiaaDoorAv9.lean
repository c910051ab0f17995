/- New objects, stores, slices made and appended to. -/
import Derived.Test.YtammpekpmjboiaaDoorAv8
set_option linter.unusedVariables false
set_option linter.unusedSimpArgs false
namespace Go.Proofs.YtammpekpmjboiaaDoor.Av
open Go Go.RowKit
section
variable {Γ : Ctx} {nt n0 : Nat} {k : List It} {Q : Post} {env : Env} {H : List AObj} {G : Ghost} {w w' : World}

theorem zeroOk_rel {imm : Nat → List Value} : ∀ {vs : List Value} {ds : List D}, zeroOk vs ds = true → vs.length = ds.length ∧ (∀ c ∈ ds, c.one = true) ∧ ∀ (i : Nat) (c : D), ds[i]? = some c → DRel imm (gv vs i) c := by
  intro vs
  induction vs with
  | nil => intro ds h; cases ds <;> simp_all [zeroOk]
  | cons v vs ih =>
    intro ds h
    cases ds with
    | nil => cases v <;> simp [zeroOk] at h
    | cons d ds =>
      have key : DRel imm v d ∧ d.one = true ∧ zeroOk vs ds = true := by
        unfold zeroOk at h
        split at h
        · rename_i he _; cases he
        · rename_i h1 h2; cases h1; cases h2; simp at h; obtain ⟨rfl, h⟩ := h; exact ⟨.bool _, rfl, h⟩
        · rename_i h1 h2; cases h1; cases h2; simp at h; obtain ⟨⟨rfl, rfl⟩, h⟩ := h; exact ⟨.int _ _, rfl, h⟩
        · rename_i s r s' h1 h2; cases h1; cases h2
          simp at h
          have e : s.data = #[] := h.1
          have := DRel.str (imm := imm) s
          rw [e] at this
          exact ⟨this, rfl, h.2⟩
        · rename_i h1 h2; cases h1; cases h2; exact ⟨.nilp, rfl, h⟩
        · rename_i h1 h2; cases h1; cases h2; exact ⟨.nils, rfl, h⟩
        · rename_i h1 h2; cases h1; cases h2; exact ⟨.nilm, rfl, h⟩
        · rename_i h1 h2; cases h1; cases h2; exact ⟨.top _ rfl, rfl, h⟩
        · rename_i h1 h2; cases h1; cases h2; exact ⟨.top _ rfl, rfl, h⟩
        · cases h
      obtain ⟨e1, e2, e3⟩ := ih key.2.2
      refine ⟨by simp [e1], fun c hc => ?_, fun i c hc => ?_⟩
      · rcases List.mem_cons.1 hc with rfl | hc
        · exact key.2.1
        · exact e2 c hc
      · cases i with
        | zero => simp at hc; subst hc; simpa [gv] using key.1
        | succ i => simpa [gv] using e3 i c (by simpa using hc)

/-- the ghost with a new object's place -/
def Ghost.bind (G : Ghost) (id b : Nat) : Ghost := { G with loc := fun i => if i = id then some b else G.loc i }

theorem WRel.new (hW : WRel Γ.gl G H w) {cur : Array Value} {t : TypeId} {cs : List AV} (hl : cs.length ≤ cur.size) (h1 : ∀ c ∈ cs, c.one = true)
    (h : ∀ (i : Nat) (c : AV), cs[i]? = some c → VRel G (gv cur.toList i) c) :
    GLe H.length G (G.bind H.length w.heap.size) ∧ WRel Γ.gl (G.bind H.length w.heap.size) (H ++ [.cells cs]) (w.alloc (.cells cur t)) := by
  have hle : GLe H.length G (G.bind H.length w.heap.size) := ⟨rfl, rfl, rfl, .refl _, fun id b hid hb => by simp [Ghost.bind, Nat.ne_of_lt hid, hb], fun id n v _ hb => hb⟩
  have immz : G.imm w.heap.size = [] := by
    cases hi : G.imm w.heap.size with
    | nil => rfl
    | cons v r =>
      have := hW.imm w.heap.size 0 (by simp [hi])
      have := World.block_lt_of_cell? w _ this
      simp at this
  refine ⟨hle, hW.step (w' := w.alloc (.cells cur t)) (H' := H ++ [.cells cs]) hle rfl rfl rfl (by simp) H.length (.cells cs) (by simp) (by simp) (fun id hne => ?_) (fun id _ _ k => rfl) (fun b hb _ => ⟨?_, rfl⟩) (fun b hb i hi => ?_) ?_ (fun b hb => ?_) (fun id hid => ?_)⟩
  · rcases Nat.lt_or_ge id H.length with h | h
    · exact List.getElem?_append_left h
    · rw [List.getElem?_eq_none (by simp; omega), List.getElem?_eq_none h]
  · exact Below.heap_alloc _ _ _ hb
  · rcases hb with hb | ⟨oj, hj, _⟩
    · rcases Nat.lt_or_ge w.heap.size b with h' | h'
      · have := hW.imm b i hi
        have := World.block_lt_of_cell? w _ this
        simp at this; omega
      · have : b = w.heap.size := by omega
        subst this
        have hi' : i < (G.imm w.heap.size).length := hi
        rw [immz] at hi'; simp at hi'
    · simp at hj
  · refine ⟨w.heap.size, cur, t, by simp [Ghost.bind], heap_alloc_new w _, hl, h1, fun i c hc => (hW.up hle (h i c hc)), immz⟩
  · simp only [OB, Ghost.bind, if_true] at hb
    cases hb; exact .inl (Nat.le_refl _)
  · simp only [List.length_append, List.length_singleton] at hid
    refine ⟨?_, (hW.lim id (by omega)).2⟩
    simp only [Ghost.bind, if_neg (show ¬ id = H.length by omega)]
    exact (hW.lim id (by omega)).1

def allOne : List AV → Bool
  | [] => true
  | a :: r => a.one && allOne r
theorem allOne_mem : ∀ {l : List AV}, allOne l = true → ∀ c ∈ l, c.one = true
  | [], _, c, h => by simp at h
  | a :: r, hb, c, h => by
    simp only [allOne, Bool.and_eq_true] at hb
    rcases List.mem_cons.1 h with rfl | h
    · exact hb.1
    · exact allOne_mem hb.2 c h

theorem cells_rel {v : Value} {a : AV} (h : VRel G v a) (h1 : allOne a.cells = true) : v.cells.size = a.cells.length ∧ ∀ (i : Nat) (c : AV), a.cells[i]? = some c → VRel G (gv v.cells.toList i) c := by
  have single : ∀ {a : AV}, a.cells = [a] → a.one = true → VRel G v a → v.cells.size = a.cells.length ∧ ∀ (i : Nat) (c : AV), a.cells[i]? = some c → VRel G (gv v.cells.toList i) c := fun {a} ha ho h => by
    have hv := h.oneCell ho
    have hc : v.cells = #[v] := by cases v <;> first | rfl | simp [Value.oneCell'] at hv
    rw [ha, hc]
    refine ⟨rfl, fun i c hc => ?_⟩
    cases i with
    | zero => simp at hc; subst hc; simpa [gv] using h
    | succ i => simp at hc
  cases h with
  | d _ x hd =>
    by_cases ho : x.one = true
    · refine single ?_ ho (.d _ _ hd)
      cases x <;> first | rfl | simp [D.one] at ho
    · cases hd <;> simp [D.one] at ho
      rename_i vs cs hl hone h
      refine ⟨by simp [AV.cells, D.cells, Value.cells, hl], fun i c hc => ?_⟩
      simp only [AV.cells, D.cells, List.getElem?_map] at hc
      cases hq : cs[i]? with
      | none => simp [hq] at hc
      | some y => simp [hq] at hc; subst hc; exact .d _ _ (h i y hq)
  | ag vs cs hl hone h => exact ⟨hl, h⟩
  | top => simp [AV.cells, allOne, AV.one] at h1
  | tup => simp [AV.cells, allOne, AV.one] at h1
  | ptr b id off h => exact single rfl rfl (.ptr b id off h)
  | eptr b cap id n sz i off h => exact single rfl rfl (.eptr b cap id n sz i off h)
  | own _ sz es id h hd => exact single rfl rfl (.own _ sz es id h hd)
  | ms _ id n h h2 => exact single rfl rfl (.ms _ id n h h2)
  | fn f vs ws as bs a1 a2 a3 a4 => exact single rfl rfl (.fn f vs ws as bs a1 a2 a3 a4)
  | mp b id h => exact single rfl rfl (.mp b id h)
  | it b id h => exact single rfl rfl (.it b id h)

/-- A NEW VARIABLE of some type, nought. -/
theorem AGo.alloc {all : Array Oper} {o : Oper} {l : List Oper} {t T : Nat} {ti : TI} (hop : o.op = .alloc T) (hg : o.guard = none) (hd : o.dst = some t) (ht : Nat.ble (t + 1) nt = true)
    (hT : lookT Γ.T T = some ti) (h : AGo Γ nt n0 (.ops all l :: k) Q ((t, .ptr H.length 0) :: env) (H ++ [.cells (ti.zero.map .d)])) : AGo Γ nt n0 (.ops all (o :: l) :: k) Q env H :=
  fun G0 G a w h0 hl hF hdf hW => by
    obtain ⟨f⟩ := Γ.ty hT
    obtain ⟨z1, z2, z3⟩ := zeroOk_rel (imm := G.imm) f.zok
    obtain ⟨g1, g2⟩ := hW.new (cur := f.z.cells) (t := T) (cs := ti.zero.map .d) (by simp at z1 ⊢; omega) (fun c hc => by obtain ⟨y, hy, rfl⟩ := List.mem_map.1 hc; exact z2 y hy)
      (fun i c hc => by
        rw [List.getElem?_map] at hc
        cases hq : ti.zero[i]? with
        | none => simp [hq] at hc
        | some y => simp [hq] at hc; subst hc; exact .d _ _ (z3 i y hq))
    have hv : VRel (G.bind H.length w.heap.size) (.pointer (some ⟨w.heap.size, 0, none⟩)) (.ptr H.length 0) := .ptr _ _ _ (by simp [Ghost.bind])
    have hn := h G0 _ (a.put (some t) (.pointer (some ⟨w.heap.size, 0, none⟩))) _ (h0.trans (g1.weaken hl)) (by simp; omega) ((hF.up g1 hW.lim).put ht hv) (by simp [Act.put, hdf]) g2
    simp only [resm] at hn ⊢
    unfold wpList
    rw [if_pos (wanted_none hg)]
    refine .inl ?_
    have hr : (execOp a.eval o).run Γ.P w = .ok (.value (.pointer (some ⟨w.heap.size, 0, none⟩))) (w.alloc (.cells f.z.cells T)) := by
      unfold execOp
      simp [hop, Instr.alloc, zeroValue, typeInfo, f.info, f.hz, newVar, newRow]
    unfold Oper.wp
    rw [hr]
    simp only [Oper.upon, hd]
    exact hn

theorem AGo.box {all : Array Oper} {o : Oper} {l : List Oper} {t T : Nat} {x : Operand} (hop : o.op = .box T x) (hg : o.guard = none) (hd : o.dst = some t) (ht : Nat.ble (t + 1) nt = true)
    {v : AV} (hx' : (ev Γ env x).frc = some (True, v)) (ho : allOne v.cells = true) (h : AGo Γ nt n0 (.ops all l :: k) Q ((t, .ptr H.length 0) :: env) (H ++ [.cells v.cells])) : AGo Γ nt n0 (.ops all (o :: l) :: k) Q env H :=
  fun G0 G a w h0 hl hF hdf hW => by
    have hx : ev Γ env x = v := by rw [frc_eq] at hx'; exact (Prod.mk.inj (Option.some.inj hx')).2
    have hxv := ev_ok hW hF x
    rw [hx] at hxv
    obtain ⟨c1, c2⟩ := cells_rel hxv ho
    obtain ⟨g1, g2⟩ := hW.new (cur := (a.eval x).cells) (t := T) (cs := v.cells) (by omega) (allOne_mem ho) c2
    have hv : VRel (G.bind H.length w.heap.size) (.pointer (some ⟨w.heap.size, 0, none⟩)) (.ptr H.length 0) := .ptr _ _ _ (by simp [Ghost.bind])
    have hn := h G0 _ (a.put (some t) (.pointer (some ⟨w.heap.size, 0, none⟩))) _ (h0.trans (g1.weaken hl)) (by simp; omega) ((hF.up g1 hW.lim).put ht hv) (by simp [Act.put, hdf]) g2
    simp only [resm] at hn ⊢
    unfold wpList
    rw [if_pos (wanted_none hg)]
    refine .inl ?_
    have hr : (execOp a.eval o).run Γ.P w = .ok (.value (.pointer (some ⟨w.heap.size, 0, none⟩))) (w.alloc (.cells (a.eval x).cells T)) := by
      unfold execOp
      simp [hop, Instr.box, newVar, newRow]
    unfold Oper.wp
    rw [hr]
    simp only [Oper.upon, hd]
    exact hn

theorem set_get {α : Type} {l : List α} {i : Nat} {x : α} (h : i < l.length) : (l.set i x)[i]? = some x := by simp [h]

/-- an object's cells are written -/
theorem WRel.write (hW : WRel Γ.gl G H w) {id b : Nat} {cs cs' : List AV} (hid : H[id]? = some (.cells cs)) (hb : G.loc id = some b) {cur cur' : Array Value} {t : TypeId} (hc : w.heap[b]? = some (.cells cur t (0, 0)))
    (hl : cs'.length ≤ cur'.size) (h1 : ∀ c ∈ cs', c.one = true) (h : ∀ (i : Nat) (c : AV), cs'[i]? = some c → VRel G (gv cur'.toList i) c) :
    WRel Γ.gl G (H.set id (.cells cs')) (w.setRow b cur') := by
  obtain ⟨b0, cur0, t0, a1, a2, a3, a4, a5, a6⟩ := hW.obj id _ hid
  rw [hb] at a1; cases a1
  have hlt := getElem?_lt hid
  refine hW.step (w' := w.setRow b cur') (H' := H.set id (.cells cs')) (GLe.refl _ _) rfl rfl rfl (by simp) id (.cells cs') (by simp) (set_get hlt) (fun id' hne => List.getElem?_set_ne (fun e => hne e.symm)) (fun _ _ _ _ => rfl)
    (fun b' hb' hno => ⟨setRow_other w b b' cur' (fun e => hno _ hid (by subst e; exact hb)), rfl⟩) (fun b' hb' i hi => ?_) ⟨b, cur', t, hb, setRow_heap w b cur cur' t _ hc, hl, h1, h, a6⟩
    (fun b' hob => .inr ⟨_, hid, hob⟩) (fun id' hid' => hW.lim id' (by simpa using hid'))
  rcases hb' with hb' | ⟨oj, hj, hob⟩
  · have := hW.imm b' i hi
    have := World.block_lt_of_cell? w _ this
    simp at this; omega
  · rw [hid] at hj; cases hj
    simp only [OB] at hob
    rw [hb] at hob; cases hob
    rw [a6] at hi; simp at hi

def spliceA (cs : List AV) (off : Nat) (vs : List AV) : List AV := cs.take off ++ vs ++ cs.drop (off + vs.length)

theorem splice_get {α : Type} {l vs : List α} {off : Nat} (h : off + vs.length ≤ l.length) (i : Nat) :
    (l.take off ++ vs ++ l.drop (off + vs.length))[i]? = if i < off then l[i]? else if i < off + vs.length then vs[i - off]? else l[i]? := by
  have e1 : (l.take off).length = off := by simp; omega
  rw [List.append_assoc]
  by_cases h1 : i < off
  · rw [if_pos h1, List.getElem?_append_left (by omega), List.getElem?_take, if_pos h1]
  · rw [if_neg h1, List.getElem?_append_right (by omega), e1]
    by_cases h2 : i < off + vs.length
    · rw [if_pos h2, List.getElem?_append_left (by omega)]
    · rw [if_neg h2, List.getElem?_append_right (by omega), List.getElem?_drop]
      congr 1; omega

/-- A STORE. -/
theorem AGo.store {all : Array Oper} {o : Oper} {l : List Oper} {T id off : Nat} {x y : Operand} {ti : TI} {v : AV} {cs : List AV} (hop : o.op = .store T x y) (hg : o.guard = none) (hd : o.dst = none)
    (hT : lookT Γ.T T = some ti) (hx : ev Γ env x = .ptr id off) (hy' : (ev Γ env y).frc = some (True, v)) (hh : hget H id = some (.cells cs)) (hs : Nat.beq v.cells.length ti.size = true) (ho : allOne v.cells = true)
    (hle : off + ti.size ≤ cs.length) (h : AGo Γ nt n0 (.ops all l :: k) Q env (H.set id (.cells (spliceA cs off v.cells)))) : AGo Γ nt n0 (.ops all (o :: l) :: k) Q env H :=
  fun G0 G a w h0 hl hF hdf hW => by
    have hy : ev Γ env y = v := by rw [frc_eq] at hy'; exact (Prod.mk.inj (Option.some.inj hy')).2
    obtain ⟨f⟩ := Γ.ty hT
    have hxv := ev_ok hW hF x
    rw [hx] at hxv
    have hyv := ev_ok hW hF y
    rw [hy] at hyv
    have hsz := Nat.eq_of_beq_eq_true hs
    rw [hget_eq] at hh
    obtain ⟨c1, c2⟩ := cells_rel hyv ho
    obtain ⟨b, cur, t, a1, a2, a3, a4, a5, a6⟩ := hW.obj id _ hh
    have hle' : off + v.cells.length ≤ cs.length := by omega
    have ho' : ∀ u ∈ (a.eval y).cells.toList, u.oneCell' = true := fun u hu => by
      obtain ⟨i, hi⟩ := List.getElem?_of_mem hu
      have hlt : i < v.cells.length := by have := getElem?_lt hi; simp at this; omega
      have := c2 i _ (List.getElem?_eq_getElem hlt)
      have h3 := this.oneCell (allOne_mem ho _ (List.getElem_mem hlt))
      simpa [gv, List.getD, hi] using h3
    have hstore := run_storeCells_at Γ.P b off t (a.eval y).cells.toList 0 cur w a2 (by simp; omega) ho'
    simp only [Nat.add_zero] at hstore
    have hW' := hW.write hh a1 a2 (cs' := spliceA cs off v.cells) (cur' := (cur.toList.take off ++ (a.eval y).cells.toList ++ cur.toList.drop (off + (a.eval y).cells.toList.length)).toArray)
      (by simp [spliceA]; omega) (fun c hc => by
        unfold spliceA at hc
        simp only [List.mem_append] at hc
        rcases hc with (hc | hc) | hc
        · exact a4 c (List.mem_of_mem_take hc)
        · exact allOne_mem ho c hc
        · exact a4 c (List.mem_of_mem_drop hc)) (fun i c hc => by
        unfold spliceA at hc
        rw [splice_get hle'] at hc
        have e : ((cur.toList.take off ++ (a.eval y).cells.toList ++ cur.toList.drop (off + (a.eval y).cells.toList.length)).toArray.toList)[i]? = if i < off then cur.toList[i]? else if i < off + (a.eval y).cells.toList.length then (a.eval y).cells.toList[i - off]? else cur.toList[i]? := by
          rw [List.toList_toArray]; exact splice_get (by simp; omega) i
        have hlen : (a.eval y).cells.toList.length = v.cells.length := by simpa using c1
        rw [hlen] at e
        simp only [gv, List.getD, hlen]
        rw [e]
        split at hc
        · rw [if_pos ‹_›]; exact a5 i c hc
        · rw [if_neg ‹_›]
          split at hc
          · rw [if_pos ‹_›]; exact c2 _ c hc
          · rw [if_neg ‹_›]; exact a5 i c hc)
    have hn := h G0 G a _ h0 (by simpa using hl) hF hdf hW'
    simp only [resm] at hn ⊢
    unfold wpList
    rw [if_pos (wanted_none hg)]
    refine .inl ?_
    generalize hxe : a.eval x = xv at hxv
    cases hxv with
    | ptr b' _ _ hb' =>
      rw [a1] at hb'; cases hb'
      have hr : (execOp a.eval o).run Γ.P w = .ok .skip (w.setRow b (cur.toList.take off ++ (a.eval y).cells.toList ++ cur.toList.drop (off + (a.eval y).cells.toList.length)).toArray) := by
        unfold execOp
        have hne : ¬ (a.eval y).cells.size ≠ ti.size := by simp [c1, hsz]
        simp only [hop, hxe, Instr.storeAt, Instr.sureAddr, storeVar, Sem.run_bind, Sem.run_pure, Result.andThen_ok, f.sizeOf, Sem.run_ite, if_neg hne, hstore]
      unfold Oper.wp
      rw [hr]
      simp only [Oper.upon, hd, Act.put]
      exact hn
end
end Go.Proofs.YtammpekpmjboiaaDoor.Av
