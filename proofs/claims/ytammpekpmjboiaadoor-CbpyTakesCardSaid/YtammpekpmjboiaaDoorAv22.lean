/- Regions that draw their order, where reads may come behind effects that they do not see. -/
import Derived.Test.YtammpekpmjboiaaDoorAv21
import Derived.OrdersHeld
import Derived.StillTail
set_option linter.unusedVariables false
set_option linter.unusedSimpArgs false
namespace Go.Proofs.YtammpekpmjboiaaDoor.Av
open Go Go.RowKit

/-- But for these objects' blocks all is as it was. -/
def KB (G : Ghost) (ws : List Nat) (w w' : World) : Prop := ∀ b, b < w.heap.size → (∀ id ∈ ws, G.loc id ≠ some b) → w'.heap[b]? = w.heap[b]?
def wsOk (H : List AObj) : List Nat → Bool
  | [] => true
  | id :: r => (match hget H id with | some (.map _) => true | some (.cells _) => true | _ => false) && wsOk H r
def loadFree (Γ : Ctx) (env : Env) (ws : List Nat) : Op → Bool
  | .load _ x => match ev Γ env x with | .ptr id _ => !ws.contains id | _ => true
  | _ => true
theorem wsOk_get {H : List AObj} : ∀ {ws : List Nat}, wsOk H ws = true → ∀ {id : Nat}, id ∈ ws → ∀ {G : Ghost} (b : Nat), G.loc id = some b → ∃ o, H[id]? = some o ∧ ∀ G' : Ghost, G'.loc id = some b → OB G' id o b
  | [], _, id, hm, _, _, _ => by simp at hm
  | i :: r, h, id, hm, G, b, hb => by
    simp only [wsOk, Bool.and_eq_true] at h
    rcases List.mem_cons.1 hm with rfl | hm
    · have h1 := h.1
      split at h1
      · rename_i es he; exact ⟨.map es, by rw [← hget_eq]; exact he, fun G' h => h⟩
      · rename_i cs he; exact ⟨.cells cs, by rw [← hget_eq]; exact he, fun G' h => h⟩
      · cases h1
    · exact wsOk_get h.2 hm b hb
section
variable {Γ : Ctx} {G : Ghost} {H : List AObj} {w : World} {nn : Bool} {nt n0 : Nat} {a : Act} {k : List It} {Q : Post} {env : Env} {c : Prop} {v : AV}
theorem wsOk_imm (hW : WRel Γ.gl G H w) : ∀ {ws : List Nat}, wsOk H ws = true → ∀ {id b : Nat}, id ∈ ws → G.loc id = some b → G.imm b = []
  | [], _, id, b, hm, _ => by simp at hm
  | i :: r, h, id, b, hm, hb => by
    simp only [wsOk, Bool.and_eq_true] at h
    rcases List.mem_cons.1 hm with rfl | hm
    · have h1 := h.1
      split at h1
      · rename_i es he
        rw [hget_eq] at he
        obtain ⟨b', ents, clock, e1, e2, e3, _⟩ := hW.obj _ _ he
        rw [hb] at e1; cases e1; exact e3
      · rename_i cs he
        rw [hget_eq] at he
        obtain ⟨b', cur, t, e1, e2, e3, e4, e5, e6⟩ := hW.obj _ _ he
        rw [hb] at e1; cases e1; exact e6
      · cases h1
    · exact wsOk_imm hW h.2 hm hb
theorem q_loadS {t : TypeId} {x : Operand} {ws : List Nat} (hws : wsOk H ws = true) (hld : loadFree Γ env ws (.load t x) = true) (hW : WRel Γ.gl G H w) (hF : FRel G nt a.tmps env) (hq : qop Γ nn (.load t x) env H = some (c, v)) :
    ∃ u, VRel G u v ∧ ∀ w', KB G ws w w' → (Instr.loadAt t (a.eval x)).run Γ.P w' = .ok u w' := by
  have hx := ev_ok hW hF x
  simp only [qop] at hq
  split at hq
  · rename_i ti id off ht he
    rw [he] at hx
    obtain ⟨f⟩ := Γ.ty ht
    split at hq
    · rename_i cs hh
      split at hq
      · rename_i v' hv
        rw [frc_eq] at hq
        cases hq
        rw [hget_eq] at hh
        obtain ⟨b, cur, t', h1, h2, h3, h4, h5, h6⟩ := hW.obj id _ hh
        generalize hxe : a.eval x = xv at hx
        cases hx with
        | ptr b' _ _ hb =>
          rw [h1] at hb; cases hb
          obtain ⟨r, hr1, hr2⟩ := loadA_ok (G := G) (b := b) (o := 0) (us := cur.toList) f h4 h5 hv
          refine ⟨r, hr1, fun w' hb => ?_⟩
          have hlt : b < w.heap.size := (Array.getElem?_eq_some_iff.1 h2).1
          have hid : ∀ id' ∈ ws, G.loc id' ≠ some b := fun id' hm hb' => by
            obtain ⟨o', e1, e2⟩ := wsOk_get hws hm b hb'
            have := hW.inj id (.cells cs) id' o' b hh e1 h1 (e2 G hb')
            subst this
            simp only [loadFree, he] at hld
            simp [hm] at hld
          have hrow := (hb b hlt hid).trans h2
          have := hr2 w' (fun i hi => by rw [cell_of_row w' b (0 + i) cur t' _ hrow]; simp [gv, List.getD, show i < cur.size by omega])
          simpa using this
      · cases hq
    · cases hq
  · rename_i ti cs ht he
    rw [he] at hx
    obtain ⟨f⟩ := Γ.ty ht
    split at hq
    · rename_i x' hv
      cases hq
      generalize hxe : a.eval x = xv at hx
      cases hx with
      | d _ _ hd =>
        cases hd with
        | iptr b o _ hin hone h =>
          obtain ⟨r, hr1, hr2⟩ := loadD_ok (G := G) (b := b) (o := o) (us := (G.imm b).drop o) f hone (fun i c hc => by
            have := h i c hc
            simpa [gv, List.getD] using this) hv
          refine ⟨r, hr1, fun w' hb => ?_⟩
          have := hr2 w' (fun i hi => by
            have hcell := hW.imm b (o + i) (by omega)
            have hlt : b < w.heap.size := by have := World.block_lt_of_cell? w _ hcell; simpa using this
            have hid : ∀ id' ∈ ws, G.loc id' ≠ some b := fun id' hm hb' => by
              obtain ⟨o', e1, e2⟩ := wsOk_get hws hm b hb'
              have := wsOk_imm hW hws hm hb'
              rw [this] at hin
              simp only [List.length_nil] at hin; omega
            rw [World.cell?_of_block (hb b hlt hid), hcell]; simp [gv, List.getD])
          simpa using this
    · cases hq
  · cases hq
theorem qop_okS {o : Oper} {ws : List Nat} (hws : wsOk H ws = true) (hld : loadFree Γ env ws o.op = true) (hW : WRel Γ.gl G H w) (hF : FRel G nt a.tmps env) (hq : qop Γ nn o.op env H = some (c, v)) (hc : c) :
    ∃ u, VRel G u v ∧ ∀ w', KB G ws w w' → (execOp a.eval o).run Γ.P w' = .ok (.value u) w' := by
  unfold execOp
  generalize hop : o.op = op at hq hld
  cases op <;> try (simp [qop] at hq; done)
  case move x => simp only [qop, frc_eq, Option.some.injEq, Prod.mk.injEq] at hq; obtain ⟨rfl, rfl⟩ := hq; exact ⟨_, ev_ok hW hF x, fun w' _ => rfl⟩
  case assign x => simp only [qop, frc_eq, Option.some.injEq, Prod.mk.injEq] at hq; obtain ⟨rfl, rfl⟩ := hq; exact ⟨_, ev_ok hW hF x, fun w' _ => rfl⟩
  case pick x y z =>
    obtain ⟨u, h1, h2⟩ := q_pick hW hF hq
    exact ⟨u, h1, fun w' _ => h2 w'⟩
  case load t x =>
    obtain ⟨u, h1, h2⟩ := q_loadS hws hld hW hF hq
    exact ⟨u, h1, fun w' hb => by simp [h2 w' hb]⟩
  case fieldAddr s x f =>
    obtain ⟨u, h1, h2⟩ := q_fieldAddr hW hF hq
    exact ⟨u, h1, fun w' hb => by simp [h2 w']⟩
  case field s x f =>
    obtain ⟨u, h1, h2⟩ := q_field hW hF hq
    exact ⟨u, h1, fun w' hb => by simp [h2 w']⟩
  case indexAddr t x y =>
    obtain ⟨u, h1, h2⟩ := q_indexAddr hW hF hq hc
    exact ⟨u, h1, fun w' hb => by simp [h2 w']⟩
  case index t x y =>
    obtain ⟨u, h1, h2⟩ := q_index hW hF hq hc
    exact ⟨u, h1, fun w' hb => by simp [h2 w']⟩
  case slice t x lo hi mx =>
    cases mx with
    | some m => simp [qop] at hq
    | none =>
      obtain ⟨u, h1, h2⟩ := q_slice hW hF hq hc
      exact ⟨u, h1, fun w' hb => by simp [h2 w']⟩
  case binOp op t x y t' =>
    obtain ⟨u, h1, h2⟩ := q_binOp hW hF hq hc
    exact ⟨u, h1, fun w' hb => by have := h2 w'; simp only [Sem.run_bind] at this ⊢; simp [this]⟩
  case makeFunc f first cap =>
    simp only [qop, Option.some.injEq, Prod.mk.injEq] at hq; obtain ⟨rfl, rfl⟩ := hq
    obtain ⟨a1, a2⟩ := avs_ok (Γ := Γ) hW hF first
    obtain ⟨b1, b2⟩ := avs_ok (Γ := Γ) hW hF cap
    exact ⟨_, .fn f _ _ _ _ a1 b1 a2 b2, fun w' _ => by simp [Instr.makeFunc]⟩
  case unOp op t x =>
    have hx := ev_ok hW hF x
    cases op <;> try (simp [qop] at hq; done)
    case neg =>
      simp only [qop] at hq
      split at hq
      · rename_i k n he
        rw [he] at hx
        exact ⟨_, kres_ok hq hc, fun w' _ => by simp [hx.int_inv, Op.unary, Op.intArith]⟩
      · cases hq
    case not =>
      simp only [qop] at hq
      split at hq
      · rename_i b he
        rw [he] at hx
        cases hq
        exact ⟨_, .d _ _ (.bool _), fun w' _ => by simp [hx.bool_inv, Op.unary]⟩
      · cases hq
  case nilCheck x =>
    have hx := ev_ok hW hF x
    simp only [qop] at hq
    split at hq
    · rename_i i o he; cases hq; rw [he] at hx
      generalize hxv : a.eval x = xv at hx
      cases hx with | ptr b _ _ hb => exact ⟨_, .ptr b _ _ hb, fun w' _ => by simp [hxv]⟩
    · rename_i i n sz j o he; cases hq; rw [he] at hx
      generalize hxv : a.eval x = xv at hx
      cases hx with | eptr b cap _ _ _ _ _ hb => exact ⟨_, .eptr b cap _ _ _ _ _ hb, fun w' _ => by simp [hxv]⟩
    · rename_i cs he; cases hq; rw [he] at hx
      generalize hxv : a.eval x = xv at hx
      cases hx with | d _ _ hd => cases hd with | iptr b o _ h1 h2 h3 => exact ⟨_, .d _ _ (.iptr b o _ h1 h2 h3), fun w' _ => by simp [hxv]⟩
    · rename_i i he; cases hq; rw [he] at hx
      generalize hxv : a.eval x = xv at hx
      cases hx with | it b _ hb => exact ⟨_, .it b _ hb, fun w' _ => by simp [hxv]⟩
    · cases hq
  case extract x i =>
    have hx := ev_ok hW hF x
    simp only [qop] at hq
    split at hq
    · rename_i vs he
      split at hq
      · rename_i v' hv
        cases hq; rw [he] at hx
        generalize hxv : a.eval x = xv at hx
        cases hx with
        | tup us _ hl h =>
          refine ⟨_, h i v hv, fun w' _ => ?_⟩
          have hlt := getElem?_lt hv
          have : us[i]? = some (gv us.toList i) := by simp [gv, List.getD, show i < us.size by omega]
          simp [hxv, Instr.extract, this]
      · cases hq
    · cases hq
  case convert s d x =>
    have hx := ev_ok hW hF x
    simp only [qop] at hq
    split at hq
    · rename_i tis k k' n h1 h2 h3
      rw [h3] at hx
      obtain ⟨fs⟩ := Γ.ty h1
      obtain ⟨fd⟩ := Γ.ty h2
      refine ⟨_, kconv_ok hq hc, fun w' _ => ?_⟩
      simp [hx.int_inv, convert, run_underlying fs.und, run_underlying (und_int fd rfl), Conv.intToInt]
    · rename_i s' h1 h2 h3
      cases hq
      rw [h3] at hx
      obtain ⟨fs⟩ := Γ.ty h1
      obtain ⟨fd⟩ := Γ.ty h2
      refine ⟨_, hx, fun w' _ => ?_⟩
      simp [hx.str_inv, convert, run_underlying (und_str fs rfl), run_underlying (und_str fd rfl)]
    · cases hq
  case call cl =>
    obtain ⟨u, h1, h2⟩ := q_call hW hF (by simpa only [qop] using hq) o.type
    exact ⟨u, h1, fun w' _ => h2 w'⟩

/-! ### The orders -/
/-- the head: each yields its value in every world that meets S -/
def HeldL (P : Program) (ops : Array Oper) (S : World → Prop) (K : Act → Prop) : List Oper → Act → Prop
  | [], a => K a
  | o :: r, a => ∃ u, YieldsIf P ops S o u a ∧ HeldL P ops S K r (a.put o.dst u)
/-- the tail, S shown anew behind each -/
def wpListH (P : Program) (ops : Array Oper) (Q : Exit → Act → World → Prop) (S : World → Prop) : List Oper → Act → World → Prop
  | [], a, w => Q .normal a w
  | o :: r, a, w => if Region.wanted o (yielded ops a.tmps) then o.wp P a w (fun a' w' => S w' ∧ wpListH P ops Q S r a' w') Q else S w ∧ wpListH P ops Q S r (a.put o.dst undef) w
theorem wpAnyH_seq {P : Program} {ops : Array Oper} {Q : Exit → Act → World → Prop} {S : World → Prop} : ∀ (l : List Oper) (k : Nat) (listed : Array Bool) (a : Act) (w : World), (∀ j, l[j]? = ops[k + j]?) →
    Region.seqB .any ops l.length k listed = true → wpListH P ops Q S l a w → wpAnyH P .any ops Q S l.length listed a w
  | [], _, _, _, _, _, hB, h => ⟨by simpa [Region.seqB] using hB, h⟩
  | o :: l, k, listed, a, w, hl, hB, h => by
    have h0 : ops[k]? = some o := by simpa using (hl 0).symm
    simp only [List.length_cons, Region.seqB, Bool.and_eq_true, decide_eq_true_eq] at hB
    refine wpAnyH_all hB.1 (by simp) fun i hi => ?_
    have : i = k := by simpa using hi
    subst this
    unfold wpOp
    simp only [h0]
    unfold wpListH at h
    have rc : ∀ a' w', wpListH P ops Q S l a' w' → wpAnyH P .any ops Q S l.length (listed.setIfInBounds i true) a' w' := fun a' w' h' =>
      wpAnyH_seq l (i + 1) _ a' w' (fun j => by have := hl (j + 1); simpa [Nat.add_assoc, Nat.add_comm 1 j] using this) hB.2 h'
    split
    · rename_i hw
      rw [if_pos hw] at h
      exact .inl (Oper.wp_mono (fun a' w' h' => ⟨h'.1, rc a' w' h'.2⟩) h)
    · rename_i hw
      rw [if_neg hw] at h
      exact ⟨h.1, rc _ _ h.2⟩
theorem wpAnyH_head {P : Program} {ops : Array Oper} {Q : Exit → Act → World → Prop} {S : World → Prop} {g n : Nat} (hsel : Region.noSelect ops = true) (hQ : ∀ c a w, ¬ Q (.panic c) a w) {w : World} (hS : S w) {K : Act → Prop}
    (hK : ∀ listed a, Region.seqB .any ops g n listed = true → K a → wpAnyH P .any ops Q S g listed a w) :
    ∀ (l : List Oper) (k : Nat) (listed : Array Bool) (a : Act), (∀ j, j < l.length → l[j]? = ops[k + j]?) → k + l.length = n → Region.lexHead .any ops g l.length k listed = true → HeldL P ops S K l a →
    wpAnyH P .any ops Q S (l.length + g) listed a w
  | [], k, listed, a, _, hk, hB, h => by
    have : k = n := by simpa using hk
    subst this
    rw [List.length_nil, Nat.zero_add]
    exact hK listed a (by simpa [Region.lexHead] using hB) h
  | o :: l, k, listed, a, hl, hk, hB, h => by
    have h0 : ops[k]? = some o := by simpa using (hl 0 (by simp)).symm
    simp only [List.length_cons, Region.lexHead, Bool.and_eq_true] at hB
    obtain ⟨⟨hr, hf⟩, hB'⟩ := hB
    obtain ⟨u, hy, hr'⟩ := h
    rw [show (o :: l).length + g = (l.length + g) + 1 by simp; omega]
    refine wpAnyH_take h0 hsel hf hr (fun c a w hq => absurd hq (hQ c _ w)) hy hS ?_
    exact wpAnyH_head hsel hQ hS hK l (k + 1) _ _ (fun j hj => by have := hl (j + 1) (by simp; omega); simpa [Nat.add_assoc, Nat.add_comm 1 j] using this) (by simp only [List.length_cons] at hk; omega) hB' hr'
def heldTailB (ops : Array Oper) (n : Nat) : Bool := Region.noSelect ops && decide (n ≤ ops.size) && Region.lexHead .any ops (ops.size - n) n 0 (Array.replicate ops.size false)

/-- an operation that looks at no memory -/
def PureTo (Γ : Ctx) (nt : Nat) (env : Env) (H : List AObj) (o : Oper) (v : AV) : Prop :=
  ∀ (G : Ghost) (a : Act) (w : World), WRel Γ.gl G H w → FRel G nt a.tmps env → ∃ u, VRel G u v ∧ ∀ w', (execOp a.eval o).run Γ.P w' = .ok (.value u) w'
/-- the head, abstractly -/
inductive Heads (Γ : Ctx) (nt : Nat) (H : List AObj) (ws : List Nat) : Env → List Oper → Env → Prop
  | nil (env : Env) : Heads Γ nt H ws env [] env
  | cons {env env' : Env} {o : Oper} {l : List Oper} {t : Nat} {c : Prop} {v : AV} (nn : Bool) (hg : o.guard = none) (hd : o.dst = some t) (ht : Nat.ble (t + 1) nt = true) (hf : loadFree Γ env ws o.op = true) (hq : qop Γ nn o.op env H = some (c, v)) (hc : c)
      (h : Heads Γ nt H ws ((t, v) :: env) l env') : Heads Γ nt H ws env (o :: l) env'
  | consX {env env' : Env} {o : Oper} {l : List Oper} {t : Nat} {v : AV} (hg : o.guard = none) (hd : o.dst = some t) (ht : Nat.ble (t + 1) nt = true) (hx : PureTo Γ nt env H o v) (h : Heads Γ nt H ws ((t, v) :: env) l env') : Heads Γ nt H ws env (o :: l) env'
/-- one step of the tail -/
def StepR (Γ : Ctx) (nt : Nat) (ws : List Nat) (env : Env) (H : List AObj) (o : Oper) (env' : Env) (H' : List AObj) : Prop :=
  o.guard = none ∧ H'.length = H.length ∧ ∀ (G : Ghost) (a : Act) (w : World), WRel Γ.gl G H w → FRel G nt a.tmps env → ∃ u w', ((execOp a.eval o).run Γ.P w = .ok (.value u) w' ∨ (u = undef ∧ (execOp a.eval o).run Γ.P w = .ok .skip w')) ∧
    WRel Γ.gl G H' w' ∧ FRel G nt (a.put o.dst u).tmps env' ∧ KB G ws w w' ∧ w'.heap.size = w.heap.size
inductive Tails (Γ : Ctx) (nt : Nat) (ws : List Nat) : Env → List AObj → List Oper → Env → List AObj → Prop
  | nil (env : Env) (H : List AObj) : Tails Γ nt ws env H [] env H
  | cons {env env1 env' : Env} {H H1 H' : List AObj} {o : Oper} {l : List Oper} (hs : StepR Γ nt ws env H o env1 H1) (h : Tails Γ nt ws env1 H1 l env' H') : Tails Γ nt ws env H (o :: l) env' H'

theorem KB.trans {w1 w2 : World} {ws : List Nat} (h : KB G ws w w1) (h' : KB G ws w1 w2) (hs : w1.heap.size = w.heap.size) : KB G ws w w2 := fun b hb hn => (h' b (by omega) hn).trans (h b hb hn)
theorem heads_ok {all : Array Oper} {ws : List Nat} {H : List AObj} (hws : wsOk H ws = true) {env' : Env} {l : List Oper} {w : World} {G : Ghost} (hW : WRel Γ.gl G H w) {K : Act → Prop} {ds : List Deferred} (hK : ∀ a, FRel G nt a.tmps env' → a.defers = ds → K a) :
    ∀ {env : Env}, Heads Γ nt H ws env l env' → ∀ a, FRel G nt a.tmps env → a.defers = ds → HeldL Γ.P all (fun w' => KB G ws w w') K l a := by
  intro env h
  induction h with
  | nil env => exact fun a hF hd => hK a hF hd
  | cons nn hg hd ht hf hq hc h ih =>
    intro a hF hdf
    obtain ⟨u, hu, hr⟩ := qop_okS hws hf hW hF hq hc
    refine ⟨u, .inl ⟨wanted_none hg, fun w' hb => hr w' hb⟩, ?_⟩
    rw [hd]
    exact ih hK (a.put _ u) (hF.put ht hu) (by simp [Act.put, hdf])
  | consX hg hd ht hx h ih =>
    intro a hF hdf
    obtain ⟨u, hu, hr⟩ := hx G a w hW hF
    refine ⟨u, .inl ⟨wanted_none hg, fun w' _ => hr w'⟩, ?_⟩
    rw [hd]
    exact ih hK (a.put _ u) (hF.put ht hu) (by simp [Act.put, hdf])
theorem put_defers' (a : Act) (d : Option Nat) (u : Value) {ds : List Deferred} (h : a.defers = ds) : (a.put d u).defers = ds := by
  cases d <;> simpa [Act.put] using h
theorem tails_ok {all : Array Oper} {ws : List Nat} {w0 : World} {G : Ghost} {Q' : Exit → Act → World → Prop} {ds : List Deferred} {H' : List AObj} {env' : Env} (hQ : ∀ a w, FRel G nt a.tmps env' → a.defers = ds → WRel Γ.gl G H' w → Q' .normal a w) :
    ∀ {env : Env} {H : List AObj} {l : List Oper}, Tails Γ nt ws env H l env' H' → ∀ a w, FRel G nt a.tmps env → a.defers = ds → WRel Γ.gl G H w → KB G ws w0 w → w.heap.size = w0.heap.size → wpListH Γ.P all Q' (fun w' => KB G ws w0 w') l a w := by
  intro env H l h
  induction h with
  | nil env H => exact fun a w hF hd hW _ _ => hQ a w hF hd hW
  | cons hs h ih =>
    intro a w hF hd hW hkb hsz
    obtain ⟨hg, hlen, hs⟩ := hs
    obtain ⟨u, w', hr, hW', hF', hk', hsz'⟩ := hs G a w hW hF
    have hn := ih hQ (a.put _ u) w' hF' (put_defers' a _ u hd) hW' (hkb.trans hk' hsz) (by omega)
    have hk2 := hkb.trans hk' hsz
    unfold wpListH
    rw [if_pos (wanted_none hg)]
    unfold Oper.wp
    rcases hr with hr | ⟨rfl, hr⟩
    · rw [hr]; exact ⟨hk2, hn⟩
    · rw [hr]; exact ⟨hk2, hn⟩
def NoPan (Q : Post) : Prop := ∀ c env H, ¬ Q (.panic c) env H
theorem resm_panic {P : Program} {Q' : Exit → Act → World → Prop} {c : List PanicEntry} : ∀ (k : List It) (a : Act) (w : World), resm P Q' k (.panic c) a w = Q' (.panic c) a w
  | [], _, _ => rfl
  | .blk j :: k, a, w => by simp only [resm]; exact resm_panic k a w
  | .code _ :: k, a, w => by simp only [resm]; exact resm_panic k a w
  | .ops _ _ :: k, a, w => by simp only [resm]; exact resm_panic k a w
  | .qops _ _ :: k, a, w => by simp only [resm]; exact resm_panic k a w
  | .sops _ _ :: k, a, w => by simp only [resm]; exact resm_panic k a w
  | .lp _ :: k, a, w => by simp only [resm]; exact resm_panic k a w
theorem AGo.drawH {id : Nat} {all : Array Oper} (ws : List Nat) (l : List Oper) {l1 l2 : List Oper} {env1 env' : Env} {H' : List AObj} (hnp : NoPan Q) (hl : all = l.toArray) (hs : splitLoud l = some (l1, l2)) (hB : heldTailB l.toArray l1.length = true) (hws : wsOk H ws = true)
    (hh : Heads Γ nt H ws env l1 env1) (htl : Tails Γ nt ws env1 H l2 env' H') (hlen : H.length ≤ H'.length) (h : AGo Γ nt n0 k Q env' H') : AGo Γ nt n0 (.code (.region id all true) :: k) Q env H :=
  fun G0 G a w h0 hln hF hd hW => by
    subst hl
    have hW' : WRel Γ.gl G H { w with drawn := w.drawn + 1 } := hW.same rfl rfl rfl rfl
    simp only [resm]
    have e := splitLoud_eq hs
    simp only [heldTailB, Bool.and_eq_true, decide_eq_true_eq] at hB
    obtain ⟨⟨hsel, hn⟩, hlex⟩ := hB
    have hsz : l.toArray.size = l1.length + l2.length := by rw [e]; simp
    refine wp_region_held (S := fun w' => KB G ws { w with drawn := w.drawn + 1 } w') Γ.mixed ?_
    have tail : ∀ listed a', Region.seqB .any l.toArray l2.length l1.length listed = true → (FRel G nt a'.tmps env1 ∧ a'.defers = []) → wpAnyH Γ.P .any l.toArray (resm Γ.P (Conc Γ nt n0 G0 Q) k) (fun w' => KB G ws { w with drawn := w.drawn + 1 } w') l2.length listed a' { w with drawn := w.drawn + 1 } := fun listed a' hB hK =>
      wpAnyH_seq l2 l1.length listed a' _ (fun j => by rw [e]; simp [List.getElem?_append_right]) hB
        (tails_ok (Γ := Γ) (fun a w hF hd hW => h G0 G a w h0 (by omega) hF hd hW) htl a' _ hK.1 hK.2 hW' (fun b _ _ => rfl) rfl)
    have := wpAnyH_head (P := Γ.P) (ops := l.toArray) (Q := resm Γ.P (Conc Γ nt n0 G0 Q) k) (S := fun w' => KB G ws { w with drawn := w.drawn + 1 } w') (g := l2.length) (n := l1.length) hsel
      (fun c a w hq => by rw [resm_panic] at hq; obtain ⟨_, env, H, _, _, _, _, _, hq⟩ := hq; exact hnp c env H hq) (w := { w with drawn := w.drawn + 1 }) (fun b _ _ => rfl) (K := fun a' => FRel G nt a'.tmps env1 ∧ a'.defers = []) tail l1 0 (Array.replicate l.toArray.size false) a
      (fun j hj => by rw [e]; simp [List.getElem?_append_left hj]) (by simp) (by rw [hsz, Nat.add_sub_cancel_left] at hlex; rw [hsz]; exact hlex)
      (heads_ok hws hW' (fun a hF hd => ⟨hF, hd⟩) hh a hF hd)
    rw [hsz]
    rw [hsz] at this
    exact this
end
end Go.Proofs.YtammpekpmjboiaaDoor.Av
