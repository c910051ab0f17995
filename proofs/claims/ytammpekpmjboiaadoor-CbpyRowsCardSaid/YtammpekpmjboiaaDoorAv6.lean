/- Names turned; entering functions; calls; loops; what may be forgotten. -/
import Derived.Test.YtammpekpmjboiaaDoorAv5
set_option linter.unusedVariables false
set_option linter.unusedSimpArgs false
namespace Go.Proofs.YtammpekpmjboiaaDoor.Av
open Go Go.RowKit

/-! ### Names turned -/
mutual
def AV.ren (ρ : List Nat) : AV → AV
  | .ptr id off => .ptr (ρ.getD id 0) off
  | .eptr id n sz i off => .eptr (ρ.getD id 0) n sz i off
  | .own sz es id => .own sz es (ρ.getD id 0)
  | .ms id n => .ms (ρ.getD id 0) n
  | .ag cs => .ag (AV.renL ρ cs)
  | .tup cs => .tup (AV.renL ρ cs)
  | .fn f as bs => .fn f (AV.renL ρ as) (AV.renL ρ bs)
  | .mp id => .mp (ρ.getD id 0)
  | .it id => .it (ρ.getD id 0)
  | .d x => .d x
  | .top => .top
def AV.renL (ρ : List Nat) : List AV → List AV
  | [] => []
  | a :: r => AV.ren ρ a :: AV.renL ρ r
end
theorem renL_map (ρ : List Nat) : ∀ l, AV.renL ρ l = l.map (AV.ren ρ)
  | [] => by simp [AV.renL]
  | a :: r => by simp [AV.renL, renL_map ρ r]
theorem ren_one (ρ : List Nat) (a : AV) : (AV.ren ρ a).one = a.one := by cases a <;> simp [AV.ren, AV.one]

def AObj.ren (ρ : List Nat) : AObj → AObj
  | .cells cs => .cells (AV.renL ρ cs)
  | o => o

theorem VRel.ren {G G' : Ghost} {ρ : List Nat} (himm : ImmLe G.imm G'.imm) (hloc : ∀ i b, G.loc i = some b → G'.loc (ρ.getD i 0) = some b)
    (hfl : ∀ i n v, G.fl i n = some v → G'.fl (ρ.getD i 0) n = some v) {v : Value} {a : AV} (h : VRel G v a) : VRel G' v (a.ren ρ) := by
  have getm : ∀ {l : List AV} {i : Nat} {c : AV}, (l.map (AV.ren ρ))[i]? = some c → ∃ c', l[i]? = some c' ∧ c = AV.ren ρ c' := fun {l i c} h => by
    rw [List.getElem?_map] at h
    cases hl : l[i]? with
    | none => simp [hl] at h
    | some c' => simp [hl] at h; exact ⟨c', rfl, h.symm⟩
  induction h with
  | d v x h => simp only [AV.ren]; exact .d v x (h.mono himm)
  | ptr b id off h => simp only [AV.ren]; exact .ptr b _ off (hloc id b h)
  | eptr b cap id n sz i off h => simp only [AV.ren]; exact .eptr b cap _ n sz i off (hfl id n _ h)
  | own v sz es id h hd => simp only [AV.ren]; exact .own v sz es _ (hfl id _ _ h) (hd.mono himm)
  | ms v id n h h1 => simp only [AV.ren]; exact .ms v _ n (hfl id _ _ h) h1
  | ag vs cs hl hone h ih =>
    simp only [AV.ren, renL_map]
    refine .ag vs _ (by simpa using hl) (fun c hc => ?_) fun i c hc => ?_
    · obtain ⟨c', h1, rfl⟩ := List.mem_map.1 hc; rw [ren_one]; exact hone c' h1
    · obtain ⟨c', h1, rfl⟩ := getm hc; exact ih i c' h1
  | tup vs cs hl h ih =>
    simp only [AV.ren, renL_map]
    refine .tup vs _ (by simpa using hl) fun i c hc => ?_
    obtain ⟨c', h1, rfl⟩ := getm hc; exact ih i c' h1
  | fn f vs ws as bs hv hw h h' ih ih' =>
    simp only [AV.ren, renL_map]
    refine .fn f vs ws _ _ (by simpa using hv) (by simpa using hw) (fun i c hc => ?_) fun i c hc => ?_
    · obtain ⟨c', h1, rfl⟩ := getm hc; exact ih i c' h1
    · obtain ⟨c', h1, rfl⟩ := getm hc; exact ih' i c' h1
  | mp b id h => simp only [AV.ren]; exact .mp b _ (hloc id b h)
  | it b id h => simp only [AV.ren]; exact .it b _ (hloc id b h)
  | top v => simp only [AV.ren]; exact .top v

theorem VRel.unren {G G' : Ghost} {ρ : List Nat} (himm : ImmLe G.imm G'.imm) (hloc : ∀ i b, G.loc (ρ.getD i 0) = some b → G'.loc i = some b)
    (hfl : ∀ i n v, G.fl (ρ.getD i 0) n = some v → G'.fl i n = some v) : ∀ (a : AV) (v : Value), VRel G v (a.ren ρ) → VRel G' v a
  | .d x, v, h => by simp only [AV.ren] at h; cases h with | d _ _ h => exact .d _ _ (h.mono himm)
  | .ptr id off, v, h => by simp only [AV.ren] at h; cases h with | ptr b _ _ h => exact .ptr b _ _ (hloc _ _ h)
  | .eptr id n sz i off, v, h => by simp only [AV.ren] at h; cases h with | eptr b cap _ _ _ _ _ h => exact .eptr b cap _ _ _ _ _ (hfl _ _ _ h)
  | .own sz es id, v, h => by simp only [AV.ren] at h; cases h with | own _ _ _ _ h hd => exact .own _ _ _ _ (hfl _ _ _ h) (hd.mono himm)
  | .ms id n, v, h => by simp only [AV.ren] at h; cases h with | ms _ _ _ h h1 => exact .ms _ _ _ (hfl _ _ _ h) h1
  | .ag cs, v, h => by
    simp only [AV.ren, renL_map] at h
    cases h with
    | ag vs _ hl hone h =>
      exact .ag vs _ (by simpa using hl) (fun c hc => by have := hone _ (List.mem_map_of_mem hc); rwa [ren_one] at this) fun i c hc =>
        have := List.mem_of_getElem? hc
        VRel.unren himm hloc hfl c _ (h i _ (by rw [List.getElem?_map, hc]; rfl))
  | .tup cs, v, h => by
    simp only [AV.ren, renL_map] at h
    cases h with
    | tup vs _ hl h =>
      exact .tup vs _ (by simpa using hl) fun i c hc =>
        have := List.mem_of_getElem? hc
        VRel.unren himm hloc hfl c _ (h i _ (by rw [List.getElem?_map, hc]; rfl))
  | .fn f as bs, v, h => by
    simp only [AV.ren, renL_map] at h
    cases h with
    | fn _ vs ws _ _ h1 h2 h3 h4 =>
      exact .fn f vs ws _ _ (by simpa using h1) (by simpa using h2)
        (fun i c hc =>
          have := List.mem_of_getElem? hc
          VRel.unren himm hloc hfl c _ (h3 i _ (by rw [List.getElem?_map, hc]; rfl)))
        (fun i c hc =>
          have := List.mem_of_getElem? hc
          VRel.unren himm hloc hfl c _ (h4 i _ (by rw [List.getElem?_map, hc]; rfl)))
  | .mp id, v, h => by simp only [AV.ren] at h; cases h with | mp b _ h => exact .mp b _ (hloc _ _ h)
  | .it id, v, h => by simp only [AV.ren] at h; cases h with | it b _ h => exact .it b _ (hloc _ _ h)
  | .top, v, h => .top v
termination_by a => SizeOf.sizeOf a
decreasing_by
  all_goals simp_wf
  all_goals (have := List.sizeOf_lt_of_mem ‹_ ∈ _›; omega)

/-! ### Results -/
def ares (Γ : Ctx) (env : Env) (H : List AObj) : List ResultVar → Option (List AV)
  | [] => some []
  | .tmp t :: r => match (env.get t).frc, ares Γ env H r with | some (_, v), some l => some (v :: l) | _, _ => none
  | .cell p t :: r => match ares Γ env H r, lookT Γ.T t, env.get p with
    | some l, some ti, .ptr id off => match hget H id with
      | some (.cells cs) => match loadA ti cs off with | some v => some (v :: l) | none => none
      | _ => none
    | _, _, _ => none
def aresults (Γ : Ctx) (env : Env) (H : List AObj) (l : List ResultVar) : Option AV :=
  match ares Γ env H l with
  | some [v] => some v
  | some l => some (.tup l)
  | none => none

section
variable {Γ : Ctx} {nt n0 : Nat} {k : List It} {Q : Post} {env : Env} {H : List AObj} {G : Ghost} {w : World}

theorem load_ok {t p : Nat} {ti : TI} {v : AV} {id off : Nat} {cs : List AV} (ht : lookT Γ.T t = some ti) (hW : WRel Γ.gl G H w) {u : Value} (hu : VRel G u (.ptr id off))
    (hh : hget H id = some (.cells cs)) (hv : loadA ti cs off = some v) : ∃ b r, u = .pointer (some ⟨b, off, none⟩) ∧ VRel G r v ∧ (loadVar t ⟨b, off, none⟩).run Γ.P w = .ok r w := by
  obtain ⟨f⟩ := Γ.ty ht
  rw [hget_eq] at hh
  obtain ⟨b, cur, t', h1, h2, h3, h4, h5, h6⟩ := hW.obj id _ hh
  cases hu with
  | ptr b' _ _ hb =>
    rw [h1] at hb; cases hb
    obtain ⟨r, hr1, hr2⟩ := loadA_ok (G := G) (b := b) (o := 0) (us := cur.toList) f h4 h5 hv
    have := hr2 w (fun i hi => by rw [cell_of_row w b (0 + i) cur t' _ h2]; simp [gv, List.getD, show i < cur.size by omega])
    refine ⟨b, r, rfl, hr1, ?_⟩
    simpa [Instr.loadAt, Instr.sureAddr] using this

def rv (tmps : Array Value) : ResultVar → Sem Value
  | .tmp t => pure (tmps.getD t undef)
  | .cell a t => do loadVar t (← asAddr (tmps.getD a undef))

theorem ares_ok {tmps : Array Value} (hW : WRel Γ.gl G H w) (hF : FRel G nt tmps env) : ∀ {l : List ResultVar} {vs : List AV}, ares Γ env H l = some vs →
    ∃ us : List Value, us.length = vs.length ∧ (∀ (i : Nat) (c : AV), vs[i]? = some c → VRel G (gv us i) c) ∧ (l.mapM (rv tmps)).run Γ.P w = .ok us w
  | [], vs, h => by
    simp [ares] at h; subst h
    exact ⟨[], rfl, fun i c h => by simp at h, by simp⟩
  | .tmp t :: r, vs, h => by
    simp only [ares, frc_eq] at h
    split at h
    · rename_i c v l hv hl
      cases hv
      cases h
      obtain ⟨us, h1, h2, h3⟩ := ares_ok hW hF hl
      refine ⟨tmps.getD t undef :: us, by simp [h1], fun i c hc => ?_, ?_⟩
      · cases i with
        | zero => simp at hc; subst hc; simpa [gv] using hF.rel t
        | succ i => simpa [gv] using h2 i c (by simpa using hc)
      · simp only [List.mapM_cons, rv, Sem.run_bind, Sem.run_pure, Result.andThen_ok]
        rw [h3]; rfl
    · cases h
  | .cell p t :: r, vs, h => by
    simp only [ares] at h
    split at h
    · rename_i l ti id off hl ht hp
      split at h
      · rename_i cs hh
        split at h
        · rename_i v hv
          cases h
          obtain ⟨us, h1, h2, h3⟩ := ares_ok hW hF hl
          have hpr := hF.rel p
          rw [hp] at hpr
          obtain ⟨b, x, hu, hx, hrun⟩ := load_ok (p := p) ht hW hpr hh hv
          refine ⟨x :: us, by simp [h1], fun i c hc => ?_, ?_⟩
          · cases i with
            | zero => simp at hc; subst hc; simpa [gv] using hx
            | succ i => simpa [gv] using h2 i c (by simpa using hc)
          · have hr : (rv tmps (.cell p t)).run Γ.P w = .ok x w := by simp only [rv, hu, asAddr, Sem.run_bind, Sem.run_pure, Result.andThen_ok, hrun]
            simp only [List.mapM_cons, Sem.run_bind, hr, Result.andThen_ok]
            rw [h3]; rfl
        · cases h
      · cases h
    · cases h

theorem results_rv (fn : Func) (tmps : Array Value) : results fn tmps = (do let vs ← fn.results.mapM (rv tmps); pure (if h : vs.size = 1 then vs[0] else .tuple vs)) := by
  unfold results
  congr 1

theorem aresults_ok {fn : Func} {tmps : Array Value} {r : AV} (hW : WRel Γ.gl G H w) (hF : FRel G nt tmps env) (h : aresults Γ env H fn.results.toList = some r) :
    ∃ u, VRel G u r ∧ (results fn tmps).run Γ.P w = .ok u w := by
  unfold aresults at h
  have key : ∀ vs, ares Γ env H fn.results.toList = some vs → ∃ us : List Value, us.length = vs.length ∧ (∀ (i : Nat) (c : AV), vs[i]? = some c → VRel G (gv us i) c) ∧
      (results fn tmps).run Γ.P w = .ok (if h : us.toArray.size = 1 then us.toArray[0] else .tuple us.toArray) w := fun vs hvs => by
    obtain ⟨us, h1, h2, h3⟩ := ares_ok hW hF hvs
    refine ⟨us, h1, h2, ?_⟩
    rw [results_rv, Array.mapM_eq_mapM_toList]
    simp only [Sem.run_bind, Sem.run_map, h3, Result.andThen_ok, Sem.run_pure]
  split at h
  · rename_i v hv
    cases h
    obtain ⟨us, h1, h2, h3⟩ := key _ hv
    cases us with
    | nil => simp at h1
    | cons u us =>
      have : us = [] := List.eq_nil_of_length_eq_zero (by simpa using h1)
      subst this
      refine ⟨u, by simpa [gv] using h2 0 _ rfl, by simpa using h3⟩
  · rename_i l hne hl
    cases h
    obtain ⟨us, h1, h2, h3⟩ := key _ hl
    refine ⟨.tuple us.toArray, .tup _ _ (by simpa using h1) (by simpa using h2), ?_⟩
    rw [h3, dif_neg]
    intro e
    have e' : l.length = 1 := by simpa [h1] using e
    obtain ⟨v, rfl⟩ := List.length_eq_one_iff.1 e'
    exact hne v rfl
  · cases h

/-! ### What may be forgotten -/
def Weak (a b : AV) : Prop := ∀ G v, VRel G v a → VRel G v b
theorem Weak.refl (a : AV) : Weak a a := fun _ _ h => h
def DWeak (a b : D) : Prop := ∀ imm v, DRel imm v a → DRel imm v b
theorem DWeak.refl (a : D) : DWeak a a := fun _ _ h => h
theorem DWeak.nils (sz : Nat) : DWeak .nils (.sl sz []) := fun imm v h => by cases h; exact .sl0 _ _ _
theorem Weak.own (sz : Nat) (es : List D) (id : Nat) : Weak (.own sz es id) (.d (.sl sz es)) := fun G v h => .d _ _ (own_sl h)
theorem Weak.d {a b : D} (h : DWeak a b) : Weak (.d a) (.d b) := fun G v hv => by cases hv with | d _ _ hd => exact .d _ _ (h _ _ hd)
def WeakL : List AV → List AV → Prop
  | [], [] => True
  | a :: r, b :: s => Weak a b ∧ WeakL r s
  | _, _ => False
theorem WeakL.get : ∀ {l m : List AV}, WeakL l m → l.length = m.length ∧ ∀ (i : Nat) (c : AV), m[i]? = some c → ∃ c', l[i]? = some c' ∧ Weak c' c
  | [], [], _ => ⟨rfl, fun i c h => by simp at h⟩
  | a :: r, b :: s, h => by
    obtain ⟨h1, h2⟩ := WeakL.get h.2
    refine ⟨by simp [h1], fun i c hc => ?_⟩
    cases i with
    | zero => simp at hc; subst hc; exact ⟨a, rfl, h.1⟩
    | succ i => simpa using h2 i c (by simpa using hc)
  | [], _ :: _, h => h.elim
  | _ :: _, [], h => h.elim
theorem Weak.tup {l m : List AV} (h : WeakL l m) : Weak (.tup l) (.tup m) := fun G v hv => by
  cases hv with
  | tup vs _ hl hg =>
    obtain ⟨h1, h2⟩ := h.get
    exact .tup _ _ (by omega) fun i c hc => by
      obtain ⟨c', e1, e2⟩ := h2 i c hc
      exact e2 _ _ (hg i c' e1)

def AObj.bnd (m : Nat) : AObj → Bool
  | .cells cs => AV.bnds m cs
  | _ => true

def Ghost.cut (G : Ghost) (m : Nat) : Ghost :=
  { G with loc := fun id => if id < m then G.loc id else none, fl := fun id n => if id < m then G.fl id n else none }
theorem cut_le (G : Ghost) (m : Nat) : GLe m G (G.cut m) :=
  ⟨rfl, rfl, rfl, .refl _, fun id b h hb => by simp [Ghost.cut, h, hb], fun id n v h hb => by simp [Ghost.cut, h, hb]⟩
theorem GLe.cut {n : Nat} {G0 G : Ghost} {m : Nat} (h : GLe n G0 G) (hm : n ≤ m) : GLe n G0 (G.cut m) :=
  h.trans ((cut_le G m).weaken hm)

theorem WRel.cut (hW : WRel Γ.gl G H w) {m : Nat} (hm : m ≤ H.length) (hb : ∀ o ∈ H.take m, o.bnd m = true) : WRel Γ.gl (G.cut m) (H.take m) w := by
  have get : ∀ {id o}, (H.take m)[id]? = some o → id < m ∧ H[id]? = some o := fun {id o} h => by
    rw [List.getElem?_take] at h
    split at h
    · exact ⟨‹_›, h⟩
    · cases h
  have hob : ∀ {id o b}, id < m → OB (G.cut m) id o b → OB G id o b := fun {id o b} hi h => by
    cases o <;> simp_all [OB, Ghost.cut]
  refine ⟨hW.os, hW.tape, hW.output, hW.size, hW.old, hW.imm, ?_, ?_, ?_, ?_, hW.glob⟩
  · intro id o ho
    obtain ⟨hi, ho'⟩ := get ho
    have hbo := hb o (List.mem_of_getElem? ho)
    have h := hW.obj id o ho'
    have l1 : ∀ b, G.loc id = some b → (G.cut m).loc id = some b := fun b h => by simp [Ghost.cut, hi, h]
    have l2 : ∀ n, (G.cut m).fl id n = G.fl id n := fun n => by simp [Ghost.cut, hi]
    cases o with
    | cells cs =>
      obtain ⟨b, cur, t, h1, h2, h3, h4, h5, h6⟩ := h
      exact ⟨b, cur, t, l1 b h1, h2, h3, h4, fun i c hc => (h5 i c hc).mono (cut_le G m) (bnds_mem hbo hc), h6⟩
    | front e sz n =>
      obtain ⟨v, xs, h1, h2, h3, h4⟩ := h
      exact ⟨v, xs, by rw [l2]; exact h1, h2, h3, fun k hk => by rw [l2]; exact h4 k hk⟩
    | arr e sz es =>
      obtain ⟨v, xs, h1, h2, h3, h3', h4, h5, h6⟩ := h
      exact ⟨v, xs, by rw [l2]; exact h1, h2, h3, h3', h4, h5, fun k hk => by rw [l2]; exact h6 k hk⟩
    | map es =>
      obtain ⟨b, ents, clock, h1, h2⟩ := h
      exact ⟨b, ents, clock, l1 b h1, h2⟩
    | siter s pos =>
      obtain ⟨b, h1, h2⟩ := h
      exact ⟨b, l1 b h1, h2⟩
    | gone => trivial
  · intro id o b ho hb
    obtain ⟨hi, ho'⟩ := get ho
    exact hW.own id o b ho' (hob hi hb)
  · intro id o id' o' b h1 h2 b1 b2
    obtain ⟨hi, h1'⟩ := get h1
    obtain ⟨hi', h2'⟩ := get h2
    exact hW.inj id o id' o' b h1' h2' (hob hi b1) (hob hi' b2)
  · intro id hid
    have : m ≤ id := by simpa [Nat.min_eq_left hm] using hid
    simp [Ghost.cut, Nat.not_lt.2 this]

/-- What a function's end must show. -/
def Fin (Γ : Ctx) (fn : Func) (n0 : Nat) (R : AV → List AObj → Prop) (env : Env) (H : List AObj) : Prop :=
  ∃ r r' m, aresults Γ env H fn.results.toList = some r ∧ Weak r r' ∧ n0 ≤ m ∧ m ≤ H.length ∧ r'.bnd m = true ∧ (∀ o ∈ H.take m, o.bnd m = true) ∧ R r' (H.take m)

def FinQ (Γ : Ctx) (fn : Func) (n0 : Nat) (R : AV → List AObj → Prop) : Post
  | .normal, env, H => Fin Γ fn n0 R env H
  | .ret, env, H => Fin Γ fn n0 R env H
  | _, _, _ => False

def argEnv : Nat → List AV → Env
  | _, [] => []
  | i, a :: r => (i, a) :: argEnv (i + 1) r
theorem argEnv_get : ∀ (l : List AV) (j i : Nat), (argEnv j l).get i = if j ≤ i then (l[i - j]?).getD .top else .top
  | [], j, i => by simp [argEnv, Env.get]
  | a :: r, j, i => by
    simp only [argEnv, Env.get]
    cases hb : Nat.beq j i with
    | true => have := Nat.eq_of_beq_eq_true hb; subst this; simp
    | false =>
      have hne := Nat.ne_of_beq_eq_false hb
      rw [cond_false, argEnv_get r (j + 1) i]
      by_cases h : j ≤ i
      · have h' : j + 1 ≤ i := by omega
        rw [if_pos h, if_pos h']
        have : i - j = (i - (j + 1)) + 1 := by omega
        rw [this, List.getElem?_cons_succ]
      · rw [if_neg h, if_neg (by omega)]

theorem ACalls.enter {f : FuncId} {fn : Func} {body : Code} {n : Nat} {args : List AV} {R : AV → List AObj → Prop} (hf : Γ.P.funcs[f]? = some fn) (hb : fn.body = some body) (hn : fn.ntmps = n)
    (hname : callable Γ.P f = true) (hle : Nat.ble args.length n = true) (h : AGo Γ n H.length [.code body] (FinQ Γ fn H.length R) (argEnv 0 args) H) : ACalls Γ f args H R := by
  refine ⟨hname, fun G w vs hW hA => ?_⟩
  refine calls_of_wp hf hb ?_
  have hle' := Nat.le_of_ble_eq_true hle
  have hF : FRel G n (vs ++ Array.replicate (fn.ntmps - vs.size) undef) (argEnv 0 args) := by
    refine ⟨by simp [hn, hA.1]; omega, fun i => ?_⟩
    rw [argEnv_get]
    simp only [Nat.zero_le, if_true, Nat.sub_zero]
    cases hi : args[i]? with
    | none => exact .top _
    | some c =>
      have hlt := getElem?_lt hi
      have := hA.2 i c hi
      have hvs : i < vs.size := by rw [hA.1]; exact hlt
      simpa [gv, List.getD, Array.getElem?_append_left hvs] using this
  have := h G G { tmps := vs ++ Array.replicate (fn.ntmps - vs.size) undef, defers := [] } w (GLe.refl _ _) (Nat.le_refl _) hF rfl hW
  simp only [resm] at this
  refine wp_mono this fun e a w' hq => ?_
  obtain ⟨G', env', H', hle1, hlen, hF', hd, hW', hQ⟩ := hq
  have fin : Fin Γ fn H.length R env' H' → a.defers = [] ∧ ∃ v, (results fn a.tmps).run Γ.P w' = .ok v w' ∧
      ∃ v' r H'' G'', Ending.returned v = .returned v' ∧ R r H'' ∧ H.length ≤ H''.length ∧ GLe H.length G G'' ∧ VRel G'' v' r ∧ WRel Γ.gl G'' H'' w' := fun hfin => by
    obtain ⟨r, r', m, h1, h2, h3, h4, h5, h6, h7⟩ := hfin
    obtain ⟨u, u1, u2⟩ := aresults_ok hW' hF' h1
    exact ⟨hd, u, u2, u, r', H'.take m, G'.cut m, rfl, h7, by simp; omega, hle1.cut h3, (h2 _ _ u1).mono (cut_le G' m) h5, hW'.cut h4 h6⟩
  cases e with
  | normal => exact fin hQ
  | ret => exact fin hQ
  | _ => exact hQ.elim

/-- A loop. -/
def LoopPost (Γ : Ctx) (nt n0 : Nat) (I : Nat → Env → List AObj → Prop) (n : Nat) (k : List It) (Q : Post) : Post
  | .normal, env, H => ∃ env' m, m < n ∧ EnvLe env env' ∧ I m env' H
  | .exit id, env, H => ∃ k', unwind id k = some k' ∧ AGo Γ nt n0 k' Q env H
  | .ret, env, H => Q .ret env H
  | _, _, _ => False

theorem AGo.loop {body : Code} (I : Nat → Env → List AObj → Prop) (m : Nat) (h0 : I m env H) (round : ∀ n env H, I n env H → AGo Γ nt n0 [.code body] (LoopPost Γ nt n0 I n k Q) env H) :
    AGo Γ nt n0 (.code (.loop body) :: k) Q env H :=
  fun G0 G a w h1 hl hF hd hW => by
    simp only [resm]
    refine wp_loop_ghost (fun n a w => Conc Γ nt n0 G0 (fun _ => I n) .normal a w) m ⟨G, env, H, h1, hl, hF, hd, hW, h0⟩ ?_
    rintro n a w ⟨G, env, H, h1, hl, hF, hd, hW, hI⟩
    have := round n env H hI G0 G a w h1 hl hF hd hW
    simp only [resm] at this
    refine wp_mono this ?_
    rintro e a' w' ⟨G', env', H', h1', hl', hF', hd', hW', hQ⟩
    cases e with
    | normal =>
      obtain ⟨env'', m', hlt, hle, hI'⟩ := hQ
      exact ⟨m', hlt, G', env'', H', h1', hl', hF'.weak hle, hd', hW', hI'⟩
    | exit id =>
      obtain ⟨k', hu, hgo⟩ := hQ
      show resm _ _ _ _ _ _
      rw [resm_exit hu]
      exact hgo G0 G' a' w' h1' hl' hF' hd' hW'
    | ret =>
      show resm _ _ _ _ _ _
      rw [resm_ret]
      exact ⟨G', env', H', h1', hl', hF', hd', hW', hQ⟩
    | _ => exact hQ.elim

theorem resm_exit_none {P : Program} {Q : Exit → Act → World → Prop} {id : Nat} : ∀ {k : List It}, unwind id k = none → ∀ a w, resm P Q k (.exit id) a w = Q (.exit id) a w
  | [], _, _, _ => rfl
  | .blk j :: k, h, a, w => by
    simp only [unwind] at h
    cases hb : Nat.beq id j with
    | true => rw [hb] at h; cases h
    | false =>
      rw [hb] at h
      have := Nat.ne_of_beq_eq_false hb
      simp only [resm, if_neg this]
      exact resm_exit_none h a w
  | .code c :: k, h, a, w => by simp only [resm]; exact resm_exit_none (by simpa [unwind] using h) a w
  | .ops _ _ :: k, h, a, w => by simp only [resm]; exact resm_exit_none (by simpa [unwind] using h) a w
  | .qops _ _ :: k, h, a, w => by simp only [resm]; exact resm_exit_none (by simpa [unwind] using h) a w
  | .sops _ _ :: k, h, a, w => by simp only [resm]; exact resm_exit_none (by simpa [unwind] using h) a w
  | .lp _ :: k, h, a, w => by simp only [resm]; exact resm_exit_none (by simpa [unwind] using h) a w
/-- leaving a loop's body -/
theorem AGo.out {id : Nat} (hu : unwind id k = none) (h : Q (.exit id) env H) : AGo Γ nt n0 (.code (.exit id) :: k) Q env H :=
  fun G0 G a w h0 hl hF hd hW => by
    simp only [resm]; refine wp_exit ?_; rw [resm_exit_none hu]; exact ⟨G, env, H, h0, hl, hF, hd, hW, h⟩

/-- late objects are forgotten -/
theorem AGo.drop (m : Nat) {env' : Env} (h1 : n0 ≤ m) (h2 : m ≤ H.length) (hb : ∀ o ∈ H.take m, o.bnd m = true) (he : EnvLe env env') (hbe : ∀ i, (env'.get i).bnd m = true)
    (h : AGo Γ nt n0 k Q env' (H.take m)) : AGo Γ nt n0 k Q env H :=
  fun G0 G a w h0 hl hF hd hW =>
    h G0 (G.cut m) a w (h0.cut h1) (by simp; omega) ⟨hF.size, fun i => ((hF.weak he).rel i).mono (cut_le G m) (hbe i)⟩ hd (hW.cut h2 hb)
end
end Go.Proofs.YtammpekpmjboiaaDoor.Av
