/- Slices that are written out. -/
import Derived.Test.YtammpekpmjboiaaDoorAv9
set_option linter.unusedVariables false
set_option linter.unusedSimpArgs false
namespace Go.Proofs.YtammpekpmjboiaaDoor.Av
open Go Go.RowKit
section
variable {Γ : Ctx} {nt n0 : Nat} {k : List It} {Q : Post} {env : Env} {H : List AObj} {G : Ghost} {w w' : World}

def Ghost.know (G : Ghost) (b : Nat) (xs : List Value) : Ghost := { G with imm := fun i => if i = b then xs else G.imm i }

theorem imm_new (hW : WRel Γ.gl G H w) : G.imm w.heap.size = [] := by
  cases hi : G.imm w.heap.size with
  | nil => rfl
  | cons v r =>
    have := hW.imm w.heap.size 0 (by simp [hi])
    have := World.block_lt_of_cell? w _ this
    simp at this

theorem WRel.newImm (hW : WRel Γ.gl G H w) (cur : Array Value) (t : TypeId) :
    GLe H.length G (G.know w.heap.size cur.toList) ∧ WRel Γ.gl (G.know w.heap.size cur.toList) H (w.alloc (.cells cur t)) := by
  have himm : ImmLe G.imm (G.know w.heap.size cur.toList).imm := fun b => by
    by_cases h : b = w.heap.size
    · subst h; simp [Ghost.know, imm_new hW]
    · simp [Ghost.know, h]
  have hle : GLe H.length G (G.know w.heap.size cur.toList) := ⟨rfl, rfl, rfl, himm, fun _ _ _ h => h, fun _ _ _ _ h => h⟩
  refine ⟨hle, hW.os, hW.tape, hW.output, Nat.le_trans hW.size (by simp), fun b hb hn => ?_, fun b i hi => ?_, fun id o ho => ?_, fun id o b ho hob => ?_, fun id o id' o' b h1 h2 b1 b2 => ?_, hW.lim, fun g cs hg => (hW.glob g cs hg).mono himm⟩
  · have hlt : b < w.heap.size := Nat.lt_of_lt_of_le hb hW.size
    obtain ⟨o1, o2⟩ := hW.old b hb hn
    exact ⟨(Below.heap_alloc _ _ _ hlt).trans o1, by simp [Ghost.know, Nat.ne_of_lt hlt]; exact o2⟩
  · by_cases h : b = w.heap.size
    · subst h
      simp only [Ghost.know, if_true] at hi ⊢
      simp at hi
      simp [gv, List.getD, hi]
    · simp only [Ghost.know, if_neg h] at hi ⊢
      have := hW.imm b i hi
      rw [World.cell?_alloc_old _ _ _ h]; exact this
  · refine ORel.keep hle (getElem?_lt ho) hW.lim (hW.obj id o ho) (fun b hob => ?_) (fun _ => rfl)
    have hlt := (hW.obj id o ho).lt hob
    exact ⟨Below.heap_alloc _ _ _ hlt, by simp [Ghost.know, Nat.ne_of_lt hlt]⟩
  · have : OB G id o b := by cases o <;> exact hob
    exact hW.own id o b ho this
  · have e1 : OB G id o b := by cases o <;> exact b1
    have e2 : OB G id' o' b := by cases o' <;> exact b2
    exact hW.inj id o id' o' b h1 h2 e1 e2

theorem put_list (off : Nat) : ∀ (vs : List Value) (n : Nat) (cells : Array Value), off + n + vs.length ≤ cells.size →
    ((vs.zipIdx n).foldl (fun cs (x : Value × Nat) => cs.setIfInBounds (off + x.2) x.1) cells).size = cells.size ∧
    ∀ k, ((vs.zipIdx n).foldl (fun cs (x : Value × Nat) => cs.setIfInBounds (off + x.2) x.1) cells)[k]? = if off + n ≤ k ∧ k < off + n + vs.length then vs[k - (off + n)]? else cells[k]?
  | [], n, cells, _ => by
    refine ⟨by simp, fun k => ?_⟩
    simp only [List.zipIdx_nil, List.foldl_nil, List.length_nil, Nat.add_zero]
    rw [if_neg (by omega)]
  | v :: vs, n, cells, h => by
    simp only [List.length_cons] at h
    obtain ⟨i1, i2⟩ := put_list off vs (n + 1) (cells.setIfInBounds (off + n) v) (by simp; omega)
    simp only [List.zipIdx_cons, List.foldl_cons]
    refine ⟨by rw [i1]; simp, fun k => ?_⟩
    rw [i2 k]
    simp only [List.length_cons]
    by_cases hk : k = off + n
    · subst hk
      rw [if_neg (by omega), if_pos (by omega)]
      simp [show off + n < cells.size by omega]
    · by_cases hk2 : off + (n + 1) ≤ k ∧ k < off + (n + 1) + vs.length
      · rw [if_pos hk2, if_pos (by omega)]
        have : k - (off + n) = (k - (off + (n + 1))) + 1 := by omega
        rw [this, List.getElem?_cons_succ]
      · rw [if_neg hk2, if_neg (by omega), Array.getElem?_setIfInBounds_ne (fun e => hk e.symm)]

theorem put_at (off : Nat) (vs cells : Array Value) (h : off + vs.size ≤ cells.size) :
    (vs.zipIdx.foldl (fun cs (x : Value × Nat) => cs.setIfInBounds (off + x.2) x.1) cells).size = cells.size ∧
    ∀ k, (vs.zipIdx.foldl (fun cs (x : Value × Nat) => cs.setIfInBounds (off + x.2) x.1) cells)[k]? = if off ≤ k ∧ k < off + vs.size then vs[k - off]? else cells[k]? := by
  have := put_list off vs.toList 0 cells (by simpa using h)
  rw [← Array.foldl_toList, Array.toList_zipIdx]
  simpa using this

/-- the parts in order fill the row -/
theorem fill_row (size : Nat) : ∀ (parts : List Value) (j : Nat) (cells : Array Value), (∀ v ∈ parts, v.cells.size = size) → (j + parts.length) * size ≤ cells.size →
    ∃ r, Instr.fill (fun i => some (i * size, size)) cells ((parts.zipIdx j).map fun x => (x.2, x.1)) = some r ∧ r.size = cells.size ∧
      ∀ k, r[k]? = if j * size ≤ k ∧ k < (j + parts.length) * size then ((parts[k / size - j]?).bind fun v => v.cells[k % size]?) else cells[k]?
  | [], j, cells, _, _ => by
    refine ⟨cells, rfl, rfl, fun k => ?_⟩
    simp only [List.length_nil, Nat.add_zero]
    rw [if_neg (by omega)]
  | v :: parts, j, cells, hs, hl => by
    simp only [List.length_cons] at hl
    have h1 : v.cells.size = size := hs v List.mem_cons_self
    have e1 : (j + (parts.length + 1)) * size = j * size + size + parts.length * size := by rw [Nat.add_mul, Nat.add_mul]; omega
    have hput := put_at (j * size) v.cells cells (by omega)
    obtain ⟨r, r1, r2, r3⟩ := fill_row size parts (j + 1) (v.cells.zipIdx.foldl (fun cs (x : Value × Nat) => cs.setIfInBounds (j * size + x.2) x.1) cells) (fun u hu => hs u (List.mem_cons_of_mem _ hu))
      (by rw [hput.1]; have : (j + 1 + parts.length) * size = (j + (parts.length + 1)) * size := by congr 1; omega
          omega)
    refine ⟨r, ?_, by rw [r2, hput.1], fun k => ?_⟩
    · simp only [List.zipIdx_cons, List.map_cons, Instr.fill]
      rw [if_neg (by simp [h1]; omega)]
      exact r1
    · rw [r3 k, hput.2 k]
      simp only [List.length_cons]
      have e2 : (j + 1) * size = j * size + size := by rw [Nat.add_mul]; omega
      have e3 : (j + 1 + parts.length) * size = j * size + size + parts.length * size := by rw [Nat.add_mul, Nat.add_mul]; omega
      by_cases c1 : (j + 1) * size ≤ k ∧ k < (j + 1 + parts.length) * size
      · rw [if_pos c1, if_pos (by omega)]
        have hpos : 0 < size := by
          rcases Nat.eq_zero_or_pos size with h | h
          · subst h; simp at c1
          · exact h
        have hge : j + 1 ≤ k / size := (Nat.le_div_iff_mul_le hpos).2 c1.1
        have : k / size - j = (k / size - (j + 1)) + 1 := by omega
        rw [this, List.getElem?_cons_succ]
      · rw [if_neg c1]
        by_cases c2 : j * size ≤ k ∧ k < j * size + v.cells.size
        · rw [if_pos c2, if_pos (by omega)]
          have hpos : 0 < size := by omega
          have hdiv : k / size = j := Nat.div_eq_of_lt_le (by omega) (by omega)
          have hmod : k % size = k - j * size := by
            have := Nat.div_add_mod k size
            rw [hdiv, Nat.mul_comm] at this
            omega
          rw [hdiv, hmod]
          simp
        · rw [if_neg c2, if_neg (by omega)]

def partsD (Γ : Ctx) (env : Env) (sz : Nat) : Nat → List (Nat × Operand) → Option (List D)
  | _, [] => some []
  | j, (i, x) :: r => bif Nat.beq i j then (match (ev Γ env x).unD, partsD Γ env sz (j + 1) r with
      | some d, some l => bif Nat.beq d.cells.length sz then some (d :: l) else none
      | _, _ => none) else none

theorem unD_cells {v : Value} {x : D} {sz : Nat} (h : DRel G.imm v x) (hs : x.cells.length = sz) (hone : ∀ c ∈ x.cells, c.one = true) :
    v.cells.size = sz ∧ ∀ (i : Nat) (c : D), x.cells[i]? = some c → DRel G.imm (gv v.cells.toList i) c := by
  have hx : VRel G v (.d x) := .d _ _ h
  have hall : allOne (AV.d x).cells = true := by
    have : ∀ l : List D, (∀ c ∈ l, c.one = true) → allOne (l.map .d) = true := fun l => by
      induction l with
      | nil => intro _; rfl
      | cons c l ih => intro h; simp only [List.map_cons, allOne, Bool.and_eq_true]; exact ⟨h c List.mem_cons_self, ih fun c hc => h c (List.mem_cons_of_mem _ hc)⟩
    exact this _ hone
  obtain ⟨c1, c2⟩ := cells_rel hx hall
  refine ⟨by simpa [AV.cells, hs] using c1, fun i c hc => ?_⟩
  have h3 := c2 i (.d c) (by simp [AV.cells, hc])
  generalize gv v.cells.toList i = u at h3
  cases h3; assumption

theorem cells_one {v : Value} {x : D} (h : DRel G.imm v x) : ∀ c ∈ x.cells, c.one = true := by
  cases h <;> intro c hc <;> first
    | (simp [D.cells] at hc; subst hc; rfl)
    | (rename_i hone _; exact hone c hc)

theorem partsD_ok {sz : Nat} {a : Act} (hW : WRel Γ.gl G H w) (hF : FRel G nt a.tmps env) : ∀ {j : Nat} {parts : List (Nat × Operand)} {es : List D}, partsD Γ env sz j parts = some es →
    ∃ vs : List Value, parts.map (fun p => (p.1, a.eval p.2)) = (vs.zipIdx j).map (fun x => (x.2, x.1)) ∧ vs.length = es.length ∧ (∀ v ∈ vs, v.cells.size = sz) ∧
      (∀ e ∈ es, e.cells.length = sz ∧ ∀ c ∈ e.cells, c.one = true) ∧ ∀ (i : Nat) (e : D), es[i]? = some e → ∀ (m : Nat) (c : D), e.cells[m]? = some c → DRel G.imm (gv (gv vs i).cells.toList m) c
  | j, [], es, h => by
    simp [partsD] at h; subst h
    exact ⟨[], by simp, rfl, by simp, by simp, fun i e h => by simp at h⟩
  | j, (i, x) :: r, es, h => by
    simp only [partsD] at h
    cases hb : Nat.beq i j with
    | false => rw [hb] at h; cases h
    | true =>
      have := Nat.eq_of_beq_eq_true hb; subst this
      rw [hb, cond_true] at h
      split at h
      · rename_i d l hd hl
        cases hs : Nat.beq d.cells.length sz with
        | false => rw [hs] at h; cases h
        | true =>
          rw [hs] at h; cases h
          have hs' := Nat.eq_of_beq_eq_true hs
          obtain ⟨vs, v1, v2, v3, v4, v5⟩ := partsD_ok hW hF hl
          have hx := unD_ok (ev_ok hW hF x) hd
          have hone := cells_one hx
          obtain ⟨u1, u2⟩ := unD_cells hx hs' hone
          refine ⟨a.eval x :: vs, by simp [v1], by simp [v2], fun v hv => ?_, fun e he => ?_, fun i' e he m c hc => ?_⟩
          · rcases List.mem_cons.1 hv with rfl | hv
            · exact u1
            · exact v3 v hv
          · rcases List.mem_cons.1 he with rfl | he
            · exact ⟨hs', hone⟩
            · exact v4 e he
          · cases i' with
            | zero => simp at he; subst he; simpa [gv] using u2 m c hc
            | succ i' => simpa [gv] using v5 i' e (by simpa using he) m c hc
      · cases h

/-- A SLICE WRITTEN OUT. -/
theorem AGo.buildSlice {all : Array Oper} {o : Oper} {l : List Oper} {t T e n : Nat} {parts : Array (Nat × Operand)} {ti te : TI} {es : List D} (hop : o.op = .buildSlice T n parts) (hg : o.guard = none) (hd : o.dst = some t) (ht : Nat.ble (t + 1) nt = true)
    (hT : lookT Γ.T T = some ti) (hsh : ti.sh = .slice e) (he : lookT Γ.T e = some te) (hes : partsD Γ env te.size 0 parts.toList = some es) (hn : Nat.beq es.length n = true) (hsz : Nat.ble (n * te.size) 16777216 = true) (hpos : Nat.ble 1 (n * te.size) = true)
    (h : AGo Γ nt n0 (.ops all l :: k) Q ((t, .d (.sl te.size es)) :: env) H) : AGo Γ nt n0 (.ops all (o :: l) :: k) Q env H :=
  fun G0 G a w h0 hl hF hdf hW => by
    obtain ⟨f⟩ := Γ.ty hT
    obtain ⟨fe⟩ := Γ.ty he
    have hnn := Nat.eq_of_beq_eq_true hn; subst hnn
    have hsz' := Nat.le_of_ble_eq_true hsz
    have hpos' := Nat.le_of_ble_eq_true hpos
    obtain ⟨vs, v1, v2, v3, v4, v5⟩ := partsD_ok hW hF hes
    have hz : fe.z.cells.size = te.size := by
      have := (zeroOk_rel (imm := G.imm) fe.zok).1
      rw [fe.zlen] at this; simpa using this
    obtain ⟨r, r1, r2, r3⟩ := fill_row te.size vs 0 ((Array.range (es.length * te.size)).map (fe.z.cells[· % fe.z.cells.size]!)) v3 (by simp [v2])
    obtain ⟨g1, g2⟩ := hW.newImm r e
    have hrl : r.toList.length = es.length * te.size := by simp [r2]
    have hne : es ≠ [] := fun e => by subst e; simp at hpos'
    have hvr : DRel (G.know w.heap.size r.toList).imm (.slice (some ⟨w.heap.size, 0, none⟩) es.length es.length) (.sl te.size es) := by
      refine .sl _ 0 _ te.size es hne (Nat.le_refl _) (fun e he => (v4 e he).1) (fun e he => (v4 e he).2) (by simp [Ghost.know, r2]) fun i e j c hei hc => ?_
      have hi := getElem?_lt hei
      have hj : j < te.size := by have := getElem?_lt hc; rw [(v4 e (List.mem_of_getElem? hei)).1] at this; exact this
      have hk := idx_lt hi hj
      have hget := r3 (i * te.size + j)
      rw [if_pos ⟨by rw [Nat.zero_mul]; exact Nat.zero_le _, by rw [Nat.zero_add, v2]; exact hk⟩] at hget
      have hdiv : (i * te.size + j) / te.size = i := Nat.div_eq_of_lt_le (by omega) (by rw [Nat.add_mul]; omega)
      have hmod : (i * te.size + j) % te.size = j := by
        have := Nat.div_add_mod (i * te.size + j) te.size
        rw [hdiv, Nat.mul_comm] at this; omega
      rw [hdiv, hmod, Nat.sub_zero] at hget
      have hvi : vs[i]? = some (gv vs i) := gv_of_get (by omega)
      rw [hvi, Option.bind_some] at hget
      have hvj : (gv vs i).cells[j]? = some (gv (gv vs i).cells.toList j) := by
        have : (gv vs i).cells.size = te.size := v3 _ (List.mem_of_getElem? hvi)
        have hlt : j < (gv vs i).cells.toList.length := by rw [Array.length_toList, this]; exact hj
        have := gv_of_get hlt
        rwa [Array.getElem?_toList] at this
      rw [hvj] at hget
      have : gv ((G.know w.heap.size r.toList).imm w.heap.size) (0 + i * te.size + j) = gv (gv vs i).cells.toList j := by
        simp only [Ghost.know, if_true, Nat.zero_add]
        simp [gv, List.getD] at hget ⊢
        rw [hget]; rfl
      rw [this]
      exact (v5 i e hei j c hc).mono g1.imm
    have hn := h G0 _ (a.put (some t) (.slice (some ⟨w.heap.size, 0, none⟩) es.length es.length)) _ (h0.trans (g1.weaken hl)) hl ((hF.up g1 hW.lim).put ht (.d _ _ hvr)) (by simp [Act.put, hdf]) g2
    simp only [resm] at hn ⊢
    unfold wpList
    rw [if_pos (wanted_none hg)]
    refine .inl ?_
    have hr : (execOp a.eval o).run Γ.P w = .ok (.value (.slice (some ⟨w.heap.size, 0, none⟩) es.length es.length)) (w.alloc (.cells r e)) := by
      unfold execOp
      have hpl : (parts.map fun (p : Nat × Operand) => (p.1, a.eval p.2)).toList = (vs.zipIdx 0).map (fun x => (x.2, x.1)) := by rw [Array.toList_map]; exact v1
      have h24 : ¬ es.length * te.size > 2 ^ 24 := by omega
      have h00 : ¬ es.length * te.size = 0 := by omega
      have hfill : Instr.fill (fun i => some (i * te.size, te.size)) ((Array.range (es.length * te.size)).map (fe.z.cells[· % fe.z.cells.size]!)) (parts.map fun (p : Nat × Operand) => (p.1, a.eval p.2)).toList = some r := by rw [hpl]; exact r1
      simp only [hop, Instr.buildSlice, Sem.run_bind, run_underlying (und_slice f hsh), Result.andThen_ok, fe.sizeOf, if_neg h24, Sem.run_pure, if_neg h00, zeroValue, typeInfo, run_program, fe.info, fe.hz]
      simp only [hfill]
      simp [newRow]
    unfold Oper.wp
    rw [hr]
    simp only [Oper.upon, hd]
    exact hn
end
end Go.Proofs.YtammpekpmjboiaaDoor.Av
