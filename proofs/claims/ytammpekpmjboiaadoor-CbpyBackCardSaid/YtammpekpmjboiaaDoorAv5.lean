/- The driver: stacks of code, one step at a time. -/
import Derived.Test.YtammpekpmjboiaaDoorAv4r
import Derived.StillTail
set_option linter.unusedVariables false
set_option linter.unusedSimpArgs false
namespace Go.Proofs.YtammpekpmjboiaaDoor.Av
open Go Go.RowKit

inductive It where
  | code (c : Code)
  | ops (all : Array Oper) (l : List Oper)
  | qops (all : Array Oper) (l : List Oper)
  | sops (all : Array Oper) (l : List Oper)
  | blk (id : Nat)
  | lp (body : Code)

/-- At a loop's head. -/
def wpIn (P : Program) (c : Code) (Q : Exit → Act → World → Prop) (a : Act) (w : World) : Prop :=
  ∀ (b : Frame) (k : List Item) (cs : List Frame), ∃ e a' w', Q e a' w' ∧ Arrives P (lone (b.at a (.code c :: .inLoop c :: k)) cs w) b k cs e a' w'
theorem wpIn_round {P : Program} {c : Code} {Q : Exit → Act → World → Prop} {a : Act} {w : World} (h : c.wp P (Exit.then (wpIn P c Q) Q) a w) : wpIn P c Q a w := by
  intro b k cs
  obtain ⟨e, a₁, w₁, hq, harr⟩ := h b (.inLoop c :: k) cs
  cases e with
  | normal =>
    obtain ⟨e₂, a₂, w₂, hq₂, harr₂⟩ := hq b k cs
    exact ⟨e₂, a₂, w₂, hq₂, .of_steps (Steps.trans harr (.one step_inLoop)) harr₂⟩
  | exit id => exact ⟨_, a₁, w₁, hq, .pass (x := .inLoop c) rfl (fun _ _ => .inl (by simp)) harr⟩
  | goto l => exact ⟨_, a₁, w₁, hq, .pass (x := .inLoop c) rfl (fun _ _ => .inl (by simp)) harr⟩
  | ret => exact ⟨_, a₁, w₁, hq, .pass (x := .inLoop c) rfl (fun _ _ => .inl (by simp)) harr⟩
  | panic ch => exact ⟨_, a₁, w₁, hq, .pass (x := .inLoop c) rfl (fun _ _ => .inl (by simp)) harr⟩
  | outgrown => exact ⟨_, a₁, w₁, hq, .pass (x := .inLoop c) rfl (fun _ _ => .inl (by simp)) harr⟩
theorem wp_loop_in {P : Program} {c : Code} {Q : Exit → Act → World → Prop} {a : Act} {w : World} (h : wpIn P c Q a w) : (Code.loop c).wp P Q a w := by
  intro b k cs
  obtain ⟨e, a', w', hq, harr⟩ := h b k cs
  exact ⟨e, a', w', hq, .of_steps (.one step_loop) harr⟩

/-- What a stack of code comes to, entered by some exit. -/
def resm (P : Program) (Q : Exit → Act → World → Prop) : List It → Exit → Act → World → Prop
  | [], e, a, w => Q e a w
  | .code c :: k, .normal, a, w => c.wp P (resm P Q k) a w
  | .ops all l :: k, .normal, a, w => wpList P all (resm P Q k) l a w
  | .qops all l :: k, .normal, a, w => wpQuiet P all (fun w' => Below w.heap.size w w') (fun a' => ∀ w', Below w.heap.size w w' → resm P Q k .normal a' w') l a
  | .sops all l :: k, .normal, a, w => wpStill P all w (fun a' => resm P Q k .normal a' w) l a
  | .lp c :: k, .normal, a, w => wpIn P c (resm P Q k) a w
  | .blk id :: k, .normal, a, w => resm P Q k .normal a w
  | .blk id :: k, .exit j, a, w => if j = id then resm P Q k .normal a w else resm P Q k (.exit j) a w
  | _ :: k, e, a, w => resm P Q k e a w

theorem resm_inBlock (P : Program) (Q : Exit → Act → World → Prop) (id : Nat) (k : List It) : resm P Q (.blk id :: k) = Exit.inBlock id (resm P Q k) := by
  funext e a w
  cases e <;> simp [resm, Exit.inBlock]
theorem resm_then (P : Program) (Q : Exit → Act → World → Prop) (c : Code) (k : List It) : resm P Q (.code c :: k) = Exit.then (c.wp P (resm P Q k)) (resm P Q k) := by
  funext e a w
  cases e <;> simp [resm, Exit.then]
theorem resm_lp (P : Program) (Q : Exit → Act → World → Prop) (c : Code) (k : List It) : resm P Q (.lp c :: k) = Exit.then (wpIn P c (resm P Q k)) (resm P Q k) := by
  funext e a w
  cases e <;> simp [resm, Exit.then]
theorem resm_ops (P : Program) (Q : Exit → Act → World → Prop) (all : Array Oper) (l : List Oper) (k : List It) :
    resm P Q (.ops all l :: k) = Exit.then (wpList P all (resm P Q k) l) (resm P Q k) := by
  funext e a w
  cases e <;> simp [resm, Exit.then]

/-- leaving a block -/
def unwind (id : Nat) : List It → Option (List It)
  | [] => none
  | .blk j :: k => bif Nat.beq id j then some k else unwind id k
  | _ :: k => unwind id k
theorem resm_exit {P : Program} {Q : Exit → Act → World → Prop} {id : Nat} : ∀ {k k' : List It}, unwind id k = some k' → ∀ a w, resm P Q k (.exit id) a w = resm P Q k' .normal a w
  | [], _, h, _, _ => by cases h
  | .blk j :: k, k', h, a, w => by
    simp only [unwind] at h
    cases hb : Nat.beq id j with
    | true => rw [hb] at h; cases h; have := Nat.eq_of_beq_eq_true hb; simp [resm, this]
    | false =>
      rw [hb] at h
      have := Nat.ne_of_beq_eq_false hb
      simp only [resm, if_neg this]
      exact resm_exit h a w
  | .code c :: k, k', h, a, w => by simp only [resm]; exact resm_exit (by simpa [unwind] using h) a w
  | .ops _ _ :: k, k', h, a, w => by simp only [resm]; exact resm_exit (by simpa [unwind] using h) a w
  | .qops _ _ :: k, k', h, a, w => by simp only [resm]; exact resm_exit (by simpa [unwind] using h) a w
  | .sops _ _ :: k, k', h, a, w => by simp only [resm]; exact resm_exit (by simpa [unwind] using h) a w
  | .lp _ :: k, k', h, a, w => by simp only [resm]; exact resm_exit (by simpa [unwind] using h) a w
theorem resm_ret {P : Program} {Q : Exit → Act → World → Prop} : ∀ (k : List It) (a : Act) (w : World), resm P Q k .ret a w = Q .ret a w
  | [], _, _ => rfl
  | .blk j :: k, a, w => by simp only [resm]; exact resm_ret k a w
  | .code c :: k, a, w => by simp only [resm]; exact resm_ret k a w
  | .ops _ _ :: k, a, w => by simp only [resm]; exact resm_ret k a w
  | .qops _ _ :: k, a, w => by simp only [resm]; exact resm_ret k a w
  | .sops _ _ :: k, a, w => by simp only [resm]; exact resm_ret k a w
  | .lp _ :: k, a, w => by simp only [resm]; exact resm_ret k a w

abbrev Post := Exit → Env → List AObj → Prop

def Conc (Γ : Ctx) (nt n0 : Nat) (G0 : Ghost) (Q : Post) (e : Exit) (a : Act) (w : World) : Prop :=
  ∃ G env H, GLe n0 G0 G ∧ n0 ≤ H.length ∧ FRel G nt a.tmps env ∧ a.defers = [] ∧ WRel Γ.gl G H w ∧ Q e env H

/-- From this state on the stack's code ends in Q. -/
def AGo (Γ : Ctx) (nt n0 : Nat) (k : List It) (Q : Post) (env : Env) (H : List AObj) : Prop :=
  ∀ G0 G a w, GLe n0 G0 G → n0 ≤ H.length → FRel G nt a.tmps env → a.defers = [] → WRel Γ.gl G H w → resm Γ.P (Conc Γ nt n0 G0 Q) k .normal a w

/-- inside a region whose order is open: the world must be fixed -/

def callable (P : Program) (f : FuncId) : Bool :=
  match P.funcs[f]? with
  | some fn => fn.body.isSome && !(fn.name == "runtime.NumGoroutine")
  | none => false

def ARels (G : Ghost) (vs : Array Value) (as : List AV) : Prop := vs.size = as.length ∧ ∀ (i : Nat) (c : AV), as[i]? = some c → VRel G (gv vs.toList i) c

/-- THE CONTRACT of a function. -/
def ACalls (Γ : Ctx) (f : FuncId) (args : List AV) (H : List AObj) (R : AV → List AObj → Prop) : Prop :=
  callable Γ.P f = true ∧ ∀ G w vs, WRel Γ.gl G H w → ARels G vs args →
    Calls Γ.P f vs w fun e w' => ∃ v r H' G', e = .returned v ∧ R r H' ∧ H.length ≤ H'.length ∧ GLe H.length G G' ∧ VRel G' v r ∧ WRel Γ.gl G' H' w'

theorem ACalls.mono {Γ : Ctx} {f : FuncId} {args : List AV} {H : List AObj} {R R' : AV → List AObj → Prop} (h : ACalls Γ f args H R) (hr : ∀ r H', R r H' → R' r H') : ACalls Γ f args H R' :=
  ⟨h.1, fun G w vs hW hA => (h.2 G w vs hW hA).mono fun e w' ⟨v, r, H', G', h1, h2, h3⟩ => ⟨v, r, H', G', h1, hr r H' h2, h3⟩⟩

section
variable {Γ : Ctx} {nt n0 : Nat} {k : List It} {Q : Post} {env : Env} {H : List AObj} {nn : Bool}

theorem AGo.seq {x y : Code} (h : AGo Γ nt n0 (.code x :: .code y :: k) Q env H) : AGo Γ nt n0 (.code (.seq x y) :: k) Q env H :=
  fun G0 G a w h0 hl hF hd hW => by
    have := h G0 G a w h0 hl hF hd hW
    simp only [resm] at this ⊢
    refine wp_seq ?_
    rwa [resm_then] at this
theorem AGo.block {id : Nat} {x : Code} (h : AGo Γ nt n0 (.code x :: .blk id :: k) Q env H) : AGo Γ nt n0 (.code (.block id x) :: k) Q env H :=
  fun G0 G a w h0 hl hF hd hW => by
    have := h G0 G a w h0 hl hF hd hW
    simp only [resm] at this ⊢
    refine wp_block ?_
    rwa [resm_inBlock] at this
/-- a loop, unrolled -/
theorem AGo.loopU {x : Code} (h : AGo Γ nt n0 (.code x :: .lp x :: k) Q env H) : AGo Γ nt n0 (.code (.loop x) :: k) Q env H :=
  fun G0 G a w h0 hl hF hd hW => by
    have := h G0 G a w h0 hl hF hd hW
    simp only [resm] at this ⊢
    refine wp_loop_in (wpIn_round ?_)
    rwa [resm_lp] at this
theorem AGo.lpU {x : Code} (h : AGo Γ nt n0 (.code x :: .lp x :: k) Q env H) : AGo Γ nt n0 (.lp x :: k) Q env H :=
  fun G0 G a w h0 hl hF hd hW => by
    have := h G0 G a w h0 hl hF hd hW
    simp only [resm] at this ⊢
    refine wpIn_round ?_
    rwa [resm_lp] at this
theorem AGo.blk {id : Nat} (h : AGo Γ nt n0 k Q env H) : AGo Γ nt n0 (.blk id :: k) Q env H :=
  fun G0 G a w h0 hl hF hd hW => by simpa [resm] using h G0 G a w h0 hl hF hd hW
theorem AGo.skip (h : AGo Γ nt n0 k Q env H) : AGo Γ nt n0 (.code .skip :: k) Q env H :=
  fun G0 G a w h0 hl hF hd hW => by simp only [resm]; exact wp_skip (h G0 G a w h0 hl hF hd hW)
theorem AGo.exit {id : Nat} {k' : List It} (hu : unwind id k = some k') (h : AGo Γ nt n0 k' Q env H) : AGo Γ nt n0 (.code (.exit id) :: k) Q env H :=
  fun G0 G a w h0 hl hF hd hW => by simp only [resm]; refine wp_exit ?_; rw [resm_exit hu]; exact h G0 G a w h0 hl hF hd hW
theorem AGo.region {id : Nat} {all : Array Oper} (l : List Oper) (hl : all = l.toArray) (h : AGo Γ nt n0 (.ops all l :: k) Q env H) : AGo Γ nt n0 (.code (.region id all false) :: k) Q env H :=
  fun G0 G a w h0 hln hF hd hW => by
    subst hl
    have := h G0 G a w h0 hln hF hd hW
    simp only [resm] at this ⊢
    exact wp_region_lit this
theorem AGo.nil {all : Array Oper} (h : AGo Γ nt n0 k Q env H) : AGo Γ nt n0 (.ops all [] :: k) Q env H :=
  fun G0 G a w h0 hl hF hd hW => by simp only [resm]; exact wpList_nil (h G0 G a w h0 hl hF hd hW)
/-- the end, or a return -/
theorem AGo.done (h : Q .normal env H) : AGo Γ nt n0 [] Q env H :=
  fun G0 G a w h0 hl hF hd hW => ⟨G, env, H, h0, hl, hF, hd, hW, h⟩
theorem AGo.ret (h : Q .ret env H) : AGo Γ nt n0 (.code .ret :: k) Q env H :=
  fun G0 G a w h0 hl hF hd hW => by
    simp only [resm]; refine wp_ret ?_; rw [resm_ret]; exact ⟨G, env, H, h0, hl, hF, hd, hW, h⟩

theorem cond_aux {c : Operand} {x y : Code} {b : Bool} (hb : ev Γ env c = .d (.bool b)) (h : AGo Γ nt n0 (.code (if b then x else y) :: k) Q env H) : AGo Γ nt n0 (.code (.cond c x y) :: k) Q env H :=
  fun G0 G a w h0 hl hF hd hW => by
    have h1 := ev_ok hW hF c
    rw [hb] at h1
    have := h G0 G a w h0 hl hF hd hW
    simp only [resm] at this ⊢
    exact wp_cond h1.bool_inv this
theorem AGo.cond {c : Operand} {x y : Code} (b : Bool) (hb : ev Γ env c = .d (.bool b)) (ht : b = true → AGo Γ nt n0 (.code x :: k) Q env H) (hf : b = false → AGo Γ nt n0 (.code y :: k) Q env H) :
    AGo Γ nt n0 (.code (.cond c x y) :: k) Q env H :=
  cond_aux hb (by cases b <;> simp_all)
theorem AGo.condT {c : Operand} {x y : Code} (hb : ev Γ env c = .d (.bool true)) (ht : AGo Γ nt n0 (.code x :: k) Q env H) : AGo Γ nt n0 (.code (.cond c x y) :: k) Q env H := cond_aux hb ht
theorem AGo.condF {c : Operand} {x y : Code} (hb : ev Γ env c = .d (.bool false)) (ht : AGo Γ nt n0 (.code y :: k) Q env H) : AGo Γ nt n0 (.code (.cond c x y) :: k) Q env H := cond_aux hb ht
theorem AGo.condD {c : Operand} {x y : Code} {p : Prop} [Decidable p] (hb : ev Γ env c = .d (.bool (decide p))) (ht : p → AGo Γ nt n0 (.code x :: k) Q env H) (hf : ¬ p → AGo Γ nt n0 (.code y :: k) Q env H) :
    AGo Γ nt n0 (.code (.cond c x y) :: k) Q env H :=
  AGo.cond _ hb (fun h => ht (of_decide_eq_true h)) (fun h => hf (of_decide_eq_false h))
theorem AGo.condDT {c : Operand} {x y : Code} {p : Prop} {inst : Decidable p} (hb : ev Γ env c = .d (.bool (decide p))) (hp : p) (ht : AGo Γ nt n0 (.code x :: k) Q env H) : AGo Γ nt n0 (.code (.cond c x y) :: k) Q env H :=
  AGo.condD hb (fun _ => ht) (fun h => (h hp).elim)
theorem AGo.condDF {c : Operand} {x y : Code} {p : Prop} {inst : Decidable p} (hb : ev Γ env c = .d (.bool (decide p))) (hp : ¬ p) (ht : AGo Γ nt n0 (.code y :: k) Q env H) : AGo Γ nt n0 (.code (.cond c x y) :: k) Q env H :=
  AGo.condD hb (fun h => (hp h).elim) (fun _ => ht)

/-- weaker frames -/
def EnvLe (env : Env) : Env → Prop
  | [] => True
  | (i, v) :: r => env.get i = v ∧ EnvLe env r
theorem EnvLe.get : ∀ {env' : Env}, EnvLe env env' → ∀ i, env'.get i = .top ∨ env'.get i = env.get i
  | [], _, i => .inl rfl
  | (j, v) :: r, h, i => by
    simp only [Env.get]
    cases hb : Nat.beq j i with
    | true => have := Nat.eq_of_beq_eq_true hb; subst this; exact .inr h.1.symm
    | false => exact EnvLe.get h.2 i
theorem FRel.weak {G : Ghost} {tmps : Array Value} {env' : Env} (hF : FRel G nt tmps env) (h : EnvLe env env') : FRel G nt tmps env' :=
  ⟨hF.size, fun i => by
    rcases h.get i with e | e
    · rw [e]; exact .top _
    · rw [e]; exact hF.rel i⟩
theorem AGo.weak {env' : Env} (he : EnvLe env env') (h : AGo Γ nt n0 k Q env' H) : AGo Γ nt n0 k Q env H :=
  fun G0 G a w h0 hl hF hd hW => h G0 G a w h0 hl (hF.weak he) hd hW

theorem FRel.put {G : Ghost} {a : Act} (hF : FRel G nt a.tmps env) {t : Nat} (ht : Nat.ble (t + 1) nt = true) {v : Value} {r : AV} (hv : VRel G v r) : FRel G nt (a.put (some t) v).tmps ((t, r) :: env) := by
  have hlt := Nat.le_of_ble_eq_true ht
  refine ⟨by simp [Act.put, hF.size], fun i => ?_⟩
  simp only [Env.get, Act.put]
  cases hb : Nat.beq t i with
  | true =>
    have := Nat.eq_of_beq_eq_true hb; subst this
    have : t < a.tmps.size := by rw [hF.size]; omega
    simpa [this] using hv
  | false =>
    have hne := Nat.ne_of_beq_eq_false hb
    have := hF.rel i
    simpa [Array.getElem?_setIfInBounds, hne] using this
theorem FRel.up {G G' : Ghost} {m : Nat} (hle : GLe m G G') (hl : ∀ id, m ≤ id → G.loc id = none ∧ ∀ n, G.fl id n = none) {tmps : Array Value} (hF : FRel G nt tmps env) : FRel G' nt tmps env :=
  ⟨hF.size, fun i => (hF.rel i).mono hle ((hF.rel i).bnd hl)⟩

theorem wanted_none {o : Oper} {f : Nat → Option Bool} (hg : o.guard = none) : Region.wanted o f = true := by simp [Region.wanted, hg]

/-- A quiet operation. -/
theorem AGo.q {all : Array Oper} {o : Oper} {l : List Oper} (nn : Bool) {t : Nat} {c : Prop} {v : AV} (hg : o.guard = none) (hd : o.dst = some t) (ht : Nat.ble (t + 1) nt = true)
    (hq : qop Γ nn o.op env H = some (c, v)) (hc : c) (h : AGo Γ nt n0 (.ops all l :: k) Q ((t, v) :: env) H) : AGo Γ nt n0 (.ops all (o :: l) :: k) Q env H :=
  fun G0 G a w h0 hl hF hdf hW => by
    obtain ⟨u, hu, hr⟩ := qop_ok hW hF hq hc
    have hF' := hF.put ht hu
    have hn := h G0 G (a.put (some t) u) w h0 hl hF' (by simp [Act.put, hdf]) hW
    simp only [resm] at hn ⊢
    unfold wpList
    rw [if_pos (wanted_none hg)]
    refine .inl ?_
    unfold Oper.wp
    rw [hr w (Below.refl _ _)]
    simp only [Oper.upon, hd]
    exact hn
end
end Go.Proofs.YtammpekpmjboiaaDoor.Av
