/- Regions that draw their order: reads, a new block, effects behind. -/
import Derived.Test.YtammpekpmjboiaaDoorAv23
set_option linter.unusedVariables false
set_option linter.unusedSimpArgs false
namespace Go.Proofs.YtammpekpmjboiaaDoor.Av
open Go Go.RowKit
section
variable {P : Program} {ops : Array Oper} {Q' : Exit → Act → World → Prop} {S : World → Prop} {m : Nat}
def Yet (m : Nat) (listed : Array Bool) : Prop := ∀ j, m ≤ j → listed.getD j false = false
theorem Yet.set {listed : Array Bool} {i : Nat} (h : Yet m listed) (hi : i < m) : Yet m (listed.setIfInBounds i true) := fun j hj => by rw [getD_set_ne false (by omega)]; exact h j hj
theorem Yet.unset {listed : Array Bool} {i : Nat} (h : Yet m (listed.setIfInBounds i true)) (hi : i < m) : Yet m listed := fun j hj => by have := h j hj; rwa [getD_set_ne false (by omega)] at this
/-- all orders; S is shown behind those below m, as long as none from m on has come up -/
def wpAnyE (P : Program) (ops : Array Oper) (Q' : Exit → Act → World → Prop) (S : World → Prop) (m : Nat) : Nat → Array Bool → Act → World → Prop
  | 0, listed, a, w => Region.ready .any ops listed = [] ∧ Q' .normal a w
  | f + 1, listed, a, w => (Region.ready .any ops listed = [] → Q' .normal a w) ∧
    ∀ i ∈ Region.ready .any ops listed, wpOp P ops Q' i (fun a' w' => (Yet m listed → i < m → S w') ∧ wpAnyE P ops Q' S m f (listed.setIfInBounds i true) a' w') a w
theorem wpAny_of_E : ∀ (f : Nat) (listed : Array Bool) (a : Act) (w : World), wpAnyE P ops Q' S m f listed a w → wpAny P .any ops Q' f listed a w
  | 0, _, _, _, h => h
  | f + 1, listed, a, w, h => ⟨h.1, fun i hi => wpOp_mono (fun a' w' h' => wpAny_of_E f _ a' w' h'.2) (h.2 i hi)⟩
def Closed (ops : Array Oper) (listed : Array Bool) : Prop := ∀ j oj, ops[j]? = some oj → listed.getD j false = true → ∀ e ∈ oj.after, Region.binds .any e = true → listed.getD e.on false = true
def reachB (ops : Array Oper) : Nat → Nat → Nat → Bool
  | 0, _, _ => false
  | f + 1, j, i => match ops[j]? with
    | some oj => oj.after.any fun e => Region.binds .any e && (e.on == i || reachB ops f e.on i)
    | none => false
theorem getD_set_self {listed : Array Bool} {i : Nat} (h : i < listed.size) : (listed.setIfInBounds i true).getD i false = true := by simp [h]
theorem Closed.set {listed : Array Bool} {i : Nat} (h : Closed ops listed) (hi : i ∈ Region.ready .any ops listed) : Closed ops (listed.setIfInBounds i true) := by
  obtain ⟨_, oi, hoi, hall⟩ := mem_ready.1 hi
  intro j oj hj hl e he hb
  by_cases hij : i = j
  · subst hij
    have : oj = oi := Option.some.inj (hj.symm.trans hoi)
    subst this
    exact getD_set_true (hall e he hb)
  · rw [getD_set_ne false hij] at hl
    exact getD_set_true (h j oj hj hl e he hb)
theorem reach_ok {listed : Array Bool} (h : Closed ops listed) {i : Nat} : ∀ (f j : Nat), reachB ops f j i = true → (∀ oj, ops[j]? = some oj → ∀ e ∈ oj.after, Region.binds .any e = true → listed.getD e.on false = true) → listed.getD i false = true
  | 0, _, hr, _ => by simp [reachB] at hr
  | f + 1, j, hr, hall => by
    simp only [reachB] at hr
    split at hr
    · rename_i oj hoj
      obtain ⟨e, he, hb⟩ := Array.any_eq_true'.1 hr
      simp only [Bool.and_eq_true, Bool.or_eq_true, beq_iff_eq] at hb
      obtain ⟨hb, h2⟩ := hb
      have h1 := hall oj hoj e he hb
      rcases h2 with h2 | h2
      · rw [← h2]; exact h1
      · exact reach_ok h f e.on h2 fun ok hok e' he' hb' => h e.on ok hok h1 e' he' hb'
    · cases hr
theorem getD_contra {listed : Array Bool} {i : Nat} (h0 : listed.getD i true = false) (h1 : listed.getD i false = true) : False := by
  rcases Nat.lt_or_ge i listed.size with h' | h'
  · simp [h'] at h0 h1; rw [h0] at h1; cases h1
  · simp [Array.getElem?_eq_none h'] at h1
theorem wpAnyE_first {i : Nat} {oi : Oper} {v : Value} {Si : World → Prop} (hi : ops[i]? = some oi) (him : i < m) (hms : m ≤ ops.size) (hsel : ∀ (j : Nat) (o : Oper) cs b, ops[j]? = some o → o.op ≠ .select cs b)
    (hQ : ∀ c a w, ¬ Q' (.panic c) a w) (hSi : ∀ w, S w → Si w) (hlate : (∀ w, Si w) ∨ ∀ j, m ≤ j → j < ops.size → reachB ops 8 j i = true) :
    ∀ (fuel : Nat) (listed : Array Bool) (a : Act) (w : World), listed.size = ops.size → Closed ops listed →
      (∀ j oj, ops[j]? = some oj → j ≠ i → listed.getD j true = false → (∀ e ∈ oj.after, Region.binds .any e = true → e.on ≠ i) → oi.apart ops oj = true) →
      i ∈ Region.ready .any ops listed → YieldsIf P ops Si oi v a → Si w → (Yet m listed → S w) →
      wpAnyE P ops Q' S m fuel (listed.setIfInBounds i true) (a.put oi.dst v) w → wpAnyE P ops Q' S m (fuel + 1) listed a w := by
  intro fuel
  induction fuel with
  | zero =>
    intro listed a w hsz hcl _ hr hy hS hS0 H
    refine ⟨fun h => (by rw [h] at hr; cases hr), fun j hj => ?_⟩
    by_cases hji : j = i
    · subst hji; exact hy.wpOp hi hS ⟨fun h _ => hS0 h, H⟩
    · have := ready_mono hj hji
      rw [H.1] at this
      cases this
  | succ fuel ih =>
    intro listed a w hsz hcl hfree hr hy hS hS0 H
    refine ⟨fun h => (by rw [h] at hr; cases hr), fun j hj => ?_⟩
    by_cases hji : j = i
    · subst hji; exact hy.wpOp hi hS ⟨fun h _ => hS0 h, H⟩
    · have h1 := H.2 j (ready_mono hj hji)
      obtain ⟨hjun, oj, hoj, hall⟩ := mem_ready.1 hj
      have hjs : j < ops.size := (Array.getElem?_eq_some_iff.1 hoj).1
      have hnot : ∀ e ∈ oj.after, Region.binds .any e = true → e.on ≠ i := fun e he hb heq =>
        getD_contra (mem_ready.1 hr).1 (by rw [← heq]; exact hall e he hb)
      have h2 := wpOp_putIf hoj (hfree j oj hoj hji hjun hnot) (fun cs b => hsel i oi cs b hi) (fun cs b => hsel j oj cs b hoj) (fun c a w hq => absurd hq (hQ c _ w)) hy h1
      have hfree' : ∀ k ok, ops[k]? = some ok → k ≠ i → (listed.setIfInBounds j true).getD k true = false →
          (∀ e ∈ ok.after, Region.binds .any e = true → e.on ≠ i) → oi.apart ops ok = true := fun k ok hk hki hun hno => by
        refine hfree k ok hk hki ?_ hno
        by_cases hjk : j = k
        · subst hjk; exact hjun
        · rw [getD_set_ne true hjk] at hun; exact hun
      refine wpOp_mono (fun a' w' h3 => ?_) h2
      have got : Yet m listed → j < m → S w' := fun hy' hjm => h3.2.1 (hy'.set him) hjm
      have hSi' : Si w' := by
        rcases hlate with hl | hl
        · exact hl w'
        · have late : ∀ q, m ≤ q → q < ops.size → (∀ ok, ops[q]? = some ok → ∀ e ∈ ok.after, Region.binds .any e = true → listed.getD e.on false = true) → False := fun q hq hqs h =>
            getD_contra (mem_ready.1 hr).1 (reach_ok hcl 8 q (hl q hq hqs) h)
          have yet : Yet m listed := fun q hq => by
            cases hc : listed.getD q false with
            | false => rfl
            | true =>
              rcases Nat.lt_or_ge q ops.size with hqs | hqs
              · exact (late q hq hqs fun ok hok e he hb => hcl q ok hok hc e he hb).elim
              · simp [Nat.not_lt.2 (by omega : listed.size ≤ q)] at hc
          rcases Nat.lt_or_ge j m with hjm | hjm
          · exact hSi w' (got yet hjm)
          · exact (late j hjm hjs fun ok hok e he hb => by
              have : ok = oj := Option.some.inj (hok.symm.trans hoj)
              subst this; exact hall e he hb).elim
      have hS0' : Yet m (listed.setIfInBounds j true) → S w' := fun hyt => by
        rcases Nat.lt_or_ge j m with hjm | hjm
        · exact got (hyt.unset hjm) hjm
        · have := hyt j hjm
          rw [getD_set_self (by omega)] at this
          cases this
      refine ⟨fun hy' hjm => got hy' hjm, ih (listed.setIfInBounds j true) a' w' (by simp [hsz]) (hcl.set hj) hfree' (ready_mono hr (Ne.symm hji)) h3.1 hSi' hS0' ?_⟩
      rw [Array.setIfInBounds_comm _ _ hji]
      exact h3.2.2
theorem wpAnyE_seq : ∀ (l : List Oper) (k : Nat) (listed : Array Bool) (a : Act) (w : World), m ≤ k → (∀ j, l[j]? = ops[k + j]?) → Region.seqB .any ops l.length k listed = true → wpList P ops Q' l a w → wpAnyE P ops Q' S m l.length listed a w
  | [], _, _, _, _, _, _, hB, h => ⟨by simpa [Region.seqB] using hB, h⟩
  | o :: l, k, listed, a, w, hk, hl, hB, h => by
    have h0 : ops[k]? = some o := by simpa using (hl 0).symm
    simp only [List.length_cons, Region.seqB, Bool.and_eq_true, decide_eq_true_eq] at hB
    have rc : ∀ a' w', wpList P ops Q' l a' w' → wpAnyE P ops Q' S m l.length (listed.setIfInBounds k true) a' w' := fun a' w' h' =>
      wpAnyE_seq l (k + 1) _ a' w' (by omega) (fun j => by have := hl (j + 1); simpa [Nat.add_assoc, Nat.add_comm 1 j] using this) hB.2 h'
    refine ⟨fun h1 => (by rw [hB.1] at h1; cases h1), fun i hi => ?_⟩
    have : i = k := by rw [hB.1] at hi; simpa using hi
    subst this
    unfold wpOp
    simp only [h0]
    unfold wpList at h
    split
    · rename_i hw
      rw [if_pos hw] at h
      rcases h with h | h
      · exact .inl (Oper.wp_mono (fun a' w' h' => ⟨fun _ him => absurd him (by omega), rc a' w' h'⟩) h)
      · exact .inr h
    · rename_i hw
      rw [if_neg hw] at h
      exact ⟨fun _ him => absurd him (by omega), rc _ _ h⟩
def isMove : Op → Bool | .move _ => true | _ => false
def lateB (ops : Array Oper) (m i : Nat) : Bool := (match ops[i]? with | some o => isMove o.op | none => false) || (List.range ops.size).all fun j => decide (j < m) || reachB ops 8 j i
def allocTailB (ops : Array Oper) (n : Nat) : Bool := Region.noSelect ops && decide (n < ops.size) && ((List.range n).all fun i => lateB ops (n + 1) i) && Region.lexHead .any ops (ops.size - n) n 0 (Array.replicate ops.size false)
end
section
variable {Γ : Ctx} {G : Ghost} {H : List AObj} {w : World} {nt n0 : Nat} {k : List It} {Q : Post} {env : Env}
theorem PureTo.build {o : Oper} {T : Nat} {parts : Array (Nat × Operand)} {v : AV} (hop : o.op = .build T parts) (hb : buildA Γ env T parts = some v) : PureTo Γ nt env H o v := by
  intro G a w hW hF
  exact buildA_ok hW hF hop hb
/-- a step that lays a new block -/
def StepB (Γ : Ctx) (nt : Nat) (env : Env) (H : List AObj) (o : Oper) (env' : Env) (H' : List AObj) : Prop :=
  o.guard = none ∧ ∀ (G : Ghost) (a : Act) (w : World), WRel Γ.gl G H w → FRel G nt a.tmps env → ∃ u w' G', (execOp a.eval o).run Γ.P w = .ok (.value u) w' ∧ GLe H.length G G' ∧ WRel Γ.gl G' H' w' ∧ FRel G' nt (a.put o.dst u).tmps env' ∧ KB G [] w w'
theorem StepB.buildSlice {o : Oper} {t T e n : Nat} {parts : Array (Nat × Operand)} {ti te : TI} {es : List D} (hop : o.op = .buildSlice T n parts) (hg : o.guard = none) (hd : o.dst = some t) (ht : Nat.ble (t + 1) nt = true)
    (hT : lookT Γ.T T = some ti) (hsh : ti.sh = .slice e) (he : lookT Γ.T e = some te) (hes : partsD Γ env te.size 0 parts.toList = some es) (hn : Nat.beq es.length n = true) (hsz : Nat.ble (n * te.size) 16777216 = true) (hpos : Nat.ble 1 (n * te.size) = true)
    : StepB Γ nt env H o ((t, .d (.sl te.size es)) :: env) H := by
    refine ⟨hg, fun G a w hW hF => ?_⟩
    obtain ⟨f⟩ := Γ.ty hT
    obtain ⟨fe⟩ := Γ.ty he
    have hnn := Nat.eq_of_beq_eq_true hn; subst hnn
    have hsz' := Nat.le_of_ble_eq_true hsz
    have hpos' := Nat.le_of_ble_eq_true hpos
    obtain ⟨vs, v1, v2, v3, v4, v5⟩ := partsD_ok hW hF hes
    have hz : fe.z.cells.size = te.size := by
      have := (zeroOk_rel (imm := G.imm) fe.zok).1
      rw [fe.zlen] at this; simpa using this
    obtain ⟨r, r1, r2, r3⟩ := fill_row te.size vs 0 ((Array.range (es.length * te.size)).map (fe.z.cells[· % fe.z.cells.size]!)) v3 (by simp [v2])
    obtain ⟨g1, g2⟩ := hW.newImm r e
    have hrl : r.toList.length = es.length * te.size := by simp [r2]
    have hne : es ≠ [] := fun e => by subst e; simp at hpos'
    have hvr : DRel (G.know w.heap.size r.toList).imm (.slice (some ⟨w.heap.size, 0, none⟩) es.length es.length) (.sl te.size es) := by
      refine .sl _ 0 _ te.size es hne (Nat.le_refl _) (fun e he => (v4 e he).1) (fun e he => (v4 e he).2) (by simp [Ghost.know, r2]) fun i e j c hei hc => ?_
      have hi := getElem?_lt hei
      have hj : j < te.size := by have := getElem?_lt hc; rw [(v4 e (List.mem_of_getElem? hei)).1] at this; exact this
      have hk := idx_lt hi hj
      have hget := r3 (i * te.size + j)
      rw [if_pos ⟨by rw [Nat.zero_mul]; exact Nat.zero_le _, by rw [Nat.zero_add, v2]; exact hk⟩] at hget
      have hdiv : (i * te.size + j) / te.size = i := Nat.div_eq_of_lt_le (by omega) (by rw [Nat.add_mul]; omega)
      have hmod : (i * te.size + j) % te.size = j := by
        have := Nat.div_add_mod (i * te.size + j) te.size
        rw [hdiv, Nat.mul_comm] at this; omega
      rw [hdiv, hmod, Nat.sub_zero] at hget
      have hvi : vs[i]? = some (gv vs i) := gv_of_get (by omega)
      rw [hvi, Option.bind_some] at hget
      have hvj : (gv vs i).cells[j]? = some (gv (gv vs i).cells.toList j) := by
        have : (gv vs i).cells.size = te.size := v3 _ (List.mem_of_getElem? hvi)
        have hlt : j < (gv vs i).cells.toList.length := by rw [Array.length_toList, this]; exact hj
        have := gv_of_get hlt
        rwa [Array.getElem?_toList] at this
      rw [hvj] at hget
      have : gv ((G.know w.heap.size r.toList).imm w.heap.size) (0 + i * te.size + j) = gv (gv vs i).cells.toList j := by
        simp only [Ghost.know, if_true, Nat.zero_add]
        simp [gv, List.getD] at hget ⊢
        rw [hget]; rfl
      rw [this]
      exact (v5 i e hei j c hc).mono g1.imm
    have hr : (execOp a.eval o).run Γ.P w = .ok (.value (.slice (some ⟨w.heap.size, 0, none⟩) es.length es.length)) (w.alloc (.cells r e)) := by
      unfold execOp
      have hpl : (parts.map fun (p : Nat × Operand) => (p.1, a.eval p.2)).toList = (vs.zipIdx 0).map (fun x => (x.2, x.1)) := by rw [Array.toList_map]; exact v1
      have h24 : ¬ es.length * te.size > 2 ^ 24 := by omega
      have h00 : ¬ es.length * te.size = 0 := by omega
      have hfill : Instr.fill (fun i => some (i * te.size, te.size)) ((Array.range (es.length * te.size)).map (fe.z.cells[· % fe.z.cells.size]!)) (parts.map fun (p : Nat × Operand) => (p.1, a.eval p.2)).toList = some r := by rw [hpl]; exact r1
      simp only [hop, Instr.buildSlice, Sem.run_bind, run_underlying (und_slice f hsh), Result.andThen_ok, fe.sizeOf, if_neg h24, Sem.run_pure, if_neg h00, zeroValue, typeInfo, run_program, fe.info, fe.hz]
      simp only [hfill]
      simp [newRow]
    exact ⟨_, _, _, hr, g1, g2, by rw [hd]; exact (hF.up g1 hW.lim).put ht (.d _ _ hvr), fun b hb _ => Below.heap_alloc _ _ _ hb⟩
theorem heads_E {all : Array Oper} {Q' : Exit → Act → World → Prop} {g n : Nat} (hn : n + 1 ≤ all.size) (hsel : Region.noSelect all = true) (hQ : ∀ c a w, ¬ Q' (.panic c) a w) {w : World} (hW : WRel Γ.gl G H w) {env' : Env} {ds : List Deferred}
    (hlate : ∀ i, i < n → lateB all (n + 1) i = true)
    (hK : ∀ listed a, Region.seqB .any all g n listed = true → listed.size = all.size → FRel G nt a.tmps env' → a.defers = ds → wpAnyE Γ.P all Q' (fun w' => KB G [] w w') (n + 1) g listed a w) :
    ∀ (l : List Oper) (k : Nat) (listed : Array Bool) (a : Act) (env : Env), Heads Γ nt H [] env l env' → (∀ j, j < l.length → l[j]? = all[k + j]?) → k + l.length = n → listed.size = all.size → Closed all listed →
      Region.lexHead .any all g l.length k listed = true → FRel G nt a.tmps env → a.defers = ds → wpAnyE Γ.P all Q' (fun w' => KB G [] w w') (n + 1) (l.length + g) listed a w
  | [], k, listed, a, env, hh, _, hk, hsz, hcl, hB, hF, hd => by
    have : k = n := by simpa using hk
    subst this
    cases hh
    rw [List.length_nil, Nat.zero_add]
    exact hK listed a (by simpa [Region.lexHead] using hB) hsz hF hd
  | o :: l, k, listed, a, env, hh, hl, hk, hsz, hcl, hB, hF, hd => by
    have h0 : all[k]? = some o := by simpa using (hl 0 (by simp)).symm
    simp only [List.length_cons, Region.lexHead, Bool.and_eq_true] at hB
    obtain ⟨⟨hr, hf⟩, hB'⟩ := hB
    have hr' : k ∈ Region.ready .any all listed := by simpa using hr
    have hkn : k < n := by simp only [List.length_cons] at hk; omega
    cases hh with
    | cons nn hg hdst ht hfree hq hc hh =>
      obtain ⟨u, hu, hrun⟩ := qop_okS (ws := []) rfl hfree hW hF hq hc
      have rc := heads_E hn hsel hQ hW hlate hK l (k + 1) (listed.setIfInBounds k true) (a.put o.dst u) _ hh (fun j hj => by have := hl (j + 1) (by simp; omega); simpa [Nat.add_assoc, Nat.add_comm 1 j] using this) (by simp only [List.length_cons] at hk; omega)
        (by simp [hsz]) (hcl.set hr') hB' (by rw [hdst]; exact hF.put ht hu) (put_defers' a _ u hd)
      rw [show (o :: l).length + g = (l.length + g) + 1 by simp; omega]
      have hla := hlate k hkn
      simp only [lateB, h0, Bool.or_eq_true] at hla
      rcases hla with hm | hla
      · have hval : ∃ x, o.op = .move x := by
          cases ho : o.op <;> rw [ho] at hm <;> simp [isMove] at hm
          exact ⟨_, rfl⟩
        obtain ⟨x, hx⟩ := hval
        have hmv : ∀ w', (execOp a.eval o).run Γ.P w' = .ok (.value (a.eval x)) w' := fun w' => by unfold execOp; simp [hx]
        have heq : u = a.eval x := by
          have := hrun w (fun b _ _ => rfl)
          rw [hmv] at this
          simpa using this.symm
        exact wpAnyE_first (Si := fun _ => True) h0 (by omega) hn (Region.noSelect_spec hsel) hQ (fun _ _ => trivial) (.inl fun _ => trivial) _ listed a w hsz hcl (Region.free_spec h0 hf) hr'
          (.inl ⟨wanted_none hg, fun w' _ => by rw [heq]; exact hmv w'⟩) trivial (fun _ b _ _ => rfl) rc
      · refine wpAnyE_first (Si := fun w' => KB G [] w w') h0 (by omega) hn (Region.noSelect_spec hsel) hQ (fun _ h => h) (.inr fun j hj hjs => ?_) _ listed a w hsz hcl (Region.free_spec h0 hf) hr'
          (.inl ⟨wanted_none hg, fun w' hb => hrun w' hb⟩) (fun b _ _ => rfl) (fun _ b _ _ => rfl) rc
        have := List.all_eq_true.1 hla j (by simpa using hjs)
        simp only [Bool.or_eq_true, decide_eq_true_eq] at this
        rcases this with h | h
        · omega
        · exact h
    | consX hg hdst ht hx hh =>
      obtain ⟨u, hu, hrun⟩ := hx G a w hW hF
      have rc := heads_E hn hsel hQ hW hlate hK l (k + 1) (listed.setIfInBounds k true) (a.put o.dst u) _ hh (fun j hj => by have := hl (j + 1) (by simp; omega); simpa [Nat.add_assoc, Nat.add_comm 1 j] using this) (by simp only [List.length_cons] at hk; omega)
        (by simp [hsz]) (hcl.set hr') hB' (by rw [hdst]; exact hF.put ht hu) (put_defers' a _ u hd)
      rw [show (o :: l).length + g = (l.length + g) + 1 by simp; omega]
      exact wpAnyE_first (Si := fun _ => True) h0 (by omega) hn (Region.noSelect_spec hsel) hQ (fun _ _ => trivial) (.inl fun _ => trivial) _ listed a w hsz hcl (Region.free_spec h0 hf) hr'
        (.inl ⟨wanted_none hg, fun w' _ => hrun w'⟩) trivial (fun _ b _ _ => rfl) rc
theorem AGo.drawA {id : Nat} {all : Array Oper} (l : List Oper) {l1 l3 : List Oper} {ob : Oper} {env1 env2 : Env} {H' : List AObj} (hnp : NoPan Q) (hl : all = l.toArray) (hs : splitLoud l = some (l1, ob :: l3)) (hB : allocTailB l.toArray l1.length = true)
    (hh : Heads Γ nt H [] env l1 env1) (hb : StepB Γ nt env1 H ob env2 H') (hlen : H.length ≤ H'.length) (h : AGo Γ nt n0 (.ops all l3 :: k) Q env2 H') : AGo Γ nt n0 (.code (.region id all true) :: k) Q env H :=
  fun G0 G a w h0 hln hF hd hW => by
    subst hl
    have hW' : WRel Γ.gl G H { w with drawn := w.drawn + 1 } := hW.same rfl rfl rfl rfl
    have e := splitLoud_eq hs
    simp only [allocTailB, Bool.and_eq_true, decide_eq_true_eq] at hB
    obtain ⟨⟨⟨hsel, hn⟩, hlt⟩, hlex⟩ := hB
    have hsz : l.toArray.size = l1.length + (l3.length + 1) := by rw [e]; simp
    have hpan : ∀ c a w, ¬ resm Γ.P (Conc Γ nt n0 G0 Q) k (.panic c) a w := fun c a w hq => by
      rw [resm_panic] at hq; obtain ⟨_, env, H, _, _, _, _, _, hq⟩ := hq; exact hnp c env H hq
    simp only [resm]
    refine wp_region_any Γ.mixed (wpAny_of_E (S := fun w' => KB G [] { w with drawn := w.drawn + 1 } w') (m := l1.length + 1) _ _ _ _ ?_)
    have tail : ∀ listed a', Region.seqB .any l.toArray (l3.length + 1) l1.length listed = true → listed.size = l.toArray.size → FRel G nt a'.tmps env1 → a'.defers = [] →
        wpAnyE Γ.P l.toArray (resm Γ.P (Conc Γ nt n0 G0 Q) k) (fun w' => KB G [] { w with drawn := w.drawn + 1 } w') (l1.length + 1) (l3.length + 1) listed a' { w with drawn := w.drawn + 1 } := fun listed a' hB _ hF' hd' => by
      have h0b : l.toArray[l1.length]? = some ob := by rw [e]; simp
      simp only [Region.seqB, Bool.and_eq_true, decide_eq_true_eq] at hB
      refine ⟨fun h1 => (by rw [hB.1] at h1; cases h1), fun i hi => ?_⟩
      have : i = l1.length := by rw [hB.1] at hi; simpa using hi
      subst this
      obtain ⟨hg, hst⟩ := hb
      obtain ⟨u, w', G', hr, g1, g2, g3, g4⟩ := hst G a' _ hW' hF'
      have hn' := h G0 G' (a'.put ob.dst u) w' (h0.trans (g1.weaken hln)) (by omega) g3 (put_defers' a' _ u hd') g2
      simp only [resm] at hn'
      unfold wpOp
      simp only [h0b]
      rw [if_pos (wanted_none hg)]
      refine .inl ?_
      unfold Oper.wp
      rw [hr]
      exact ⟨fun _ _ => g4, wpAnyE_seq l3 (l1.length + 1) _ _ w' (Nat.le_refl _) (fun j => by rw [e]; simp [List.getElem?_append_right, Nat.add_assoc, Nat.add_comm 1 j]) hB.2 hn'⟩
    have := heads_E (Γ := Γ) (g := l3.length + 1) (n := l1.length) (by omega) hsel hpan hW' (fun i hi => List.all_eq_true.1 hlt i (by simpa using hi)) tail l1 0 (Array.replicate l.toArray.size false) a env hh (fun j hj => by rw [e]; simp [List.getElem?_append_left hj]) (by simp) (by simp)
      (fun j oj _ hl2 => by rw [getD_replicate_false] at hl2; cases hl2) (by rw [hsz, Nat.add_sub_cancel_left] at hlex; rw [hsz]; exact hlex) hF hd
    rw [hsz]
    rw [hsz] at this
    exact this
end
end Go.Proofs.YtammpekpmjboiaaDoor.Av
