/- Leaving loops: returns out of a loop's round, and out of the loop. -/
import Derived.Test.YtammpekpmjboiaaDoorAv18
set_option linter.unusedVariables false
set_option linter.unusedSimpArgs false
namespace Go.Proofs.YtammpekpmjboiaaDoor.Av
open Go Go.RowKit
section
variable {Γ : Ctx} {nt n0 : Nat} {k : List It} {Q : Post} {env : Env} {H : List AObj} {G : Ghost} {w : World}
theorem AGo.drawQ {id : Nat} {all : Array Oper} (l : List Oper) (hl : all = l.toArray) (_he : l.any (fun o => effOp o.op) = false) (hB : Region.lexB .any l.toArray = true) (h : AGo Γ nt n0 (.qops all l :: k) Q env H) :
    AGo Γ nt n0 (.code (.region id all true) :: k) Q env H := AGo.draw l hl hB h
theorem AGo.retL {fn : Func} {R : AV → List AObj → Prop} {r : AV} {I : Nat → Env → List AObj → Prop} {n : Nat} {K : List It} (hr : aresults Γ env H fn.results.toList = some r) (hl : Nat.ble n0 H.length = true) (hb : r.bnd n0 = true)
    (ho : objsBnd n0 (H.take n0) = true) (h : R r (H.take n0)) : AGo Γ nt n0 (.code .ret :: k) (LoopPost Γ nt n0 I n K (FinQ Γ fn n0 R)) env H := AGo.ret (Q := LoopPost Γ nt n0 I n K (FinQ Γ fn n0 R)) (Fin.mk' hr (Weak.refl _) hl hb ho h)
theorem AGo.retL2 {fn : Func} {R : AV → List AObj → Prop} {r : AV} {I I' : Nat → Env → List AObj → Prop} {n n' : Nat} {K K' : List It} (hr : aresults Γ env H fn.results.toList = some r) (hl : Nat.ble n0 H.length = true) (hb : r.bnd n0 = true)
    (ho : objsBnd n0 (H.take n0) = true) (h : R r (H.take n0)) : AGo Γ nt n0 (.code .ret :: k) (LoopPost Γ nt n0 I n K (LoopPost Γ nt n0 I' n' K' (FinQ Γ fn n0 R))) env H :=
  AGo.ret (Q := LoopPost Γ nt n0 I n K (LoopPost Γ nt n0 I' n' K' (FinQ Γ fn n0 R))) (Fin.mk' hr (Weak.refl _) hl hb ho h)
theorem AGo.outL {I : Nat → Env → List AObj → Prop} {n id : Nat} {K K' : List It} (hu : unwind id k = none) (hK : unwind id K = some K') (h : AGo Γ nt n0 K' Q env H) : AGo Γ nt n0 (.code (.exit id) :: k) (LoopPost Γ nt n0 I n K Q) env H :=
  AGo.out hu ⟨_, hK, h⟩
/-- the end of a round -/
theorem AGo.round {I : Nat → Env → List AObj → Prop} {n : Nat} {K : List It} (env' : Env) (m' : Nat) (hlt : m' < n) (he : EnvLe env env') (hI : I m' env' H) : AGo Γ nt n0 [] (LoopPost Γ nt n0 I n K Q) env H :=
  AGo.done (Q := LoopPost Γ nt n0 I n K Q) ⟨env', m', hlt, he, hI⟩
/-! ### Cells at places that are not told by literals -/
theorem quiet_loadO {o : Oper} {T id off : Nat} {ti : TI} {x : Operand} {cs : List AV} {v : AV} (hop : o.op = .load T x) (hT : lookT Γ.T T = some ti) (ha : ti.agg = false) (hx : ev Γ env x = .ptr id off) (hh : hget H id = some (.cells cs)) (hv : cs[off]? = some v) :
    QuietTo Γ nt env H o v := by
  intro G a w hW hF
  have hq : qop Γ true (.load T x) env H = some (True, v) := by
    simp only [qop, hT, hx, hh, loadA, ha, cond_false, hv, frc_eq]
  exact qop_ok (o := o) hW hF (nn := true) (c := True) (v := v) (by rw [hop]; exact hq) trivial
theorem AGo.loadO {all : Array Oper} {o : Oper} {l : List Oper} {t T id off : Nat} {ti : TI} {x : Operand} {cs : List AV} {v : AV} (hop : o.op = .load T x) (hg : o.guard = none) (hd : o.dst = some t) (ht : Nat.ble (t + 1) nt = true)
    (hT : lookT Γ.T T = some ti) (ha : ti.agg = false) (hx : ev Γ env x = .ptr id off) (hh : hget H id = some (.cells cs)) (hv : cs[off]? = some v)
    (h : AGo Γ nt n0 (.ops all l :: k) Q ((t, v) :: env) H) : AGo Γ nt n0 (.ops all (o :: l) :: k) Q env H :=
  AGo.opx (quiet_loadO hop hT ha hx hh hv) hg hd ht h
theorem AGo.qloadO {all : Array Oper} {o : Oper} {l : List Oper} {t T id off : Nat} {ti : TI} {x : Operand} {cs : List AV} {v : AV} (hop : o.op = .load T x) (hg : o.guard = none) (hd : o.dst = some t) (ht : Nat.ble (t + 1) nt = true)
    (hT : lookT Γ.T T = some ti) (ha : ti.agg = false) (hx : ev Γ env x = .ptr id off) (hh : hget H id = some (.cells cs)) (hv : cs[off]? = some v)
    (h : AGo Γ nt n0 (.qops all l :: k) Q ((t, v) :: env) H) : AGo Γ nt n0 (.qops all (o :: l) :: k) Q env H :=
  AGo.qopx (quiet_loadO hop hT ha hx hh hv) hg hd ht h
theorem AGo.sloadO {all : Array Oper} {o : Oper} {l : List Oper} {t T id off : Nat} {ti : TI} {x : Operand} {cs : List AV} {v : AV} (hop : o.op = .load T x) (hg : o.guard = none) (hd : o.dst = some t) (ht : Nat.ble (t + 1) nt = true)
    (hT : lookT Γ.T T = some ti) (ha : ti.agg = false) (hx : ev Γ env x = .ptr id off) (hh : hget H id = some (.cells cs)) (hv : cs[off]? = some v)
    (h : AGo Γ nt n0 (.sops all l :: k) Q ((t, v) :: env) H) : AGo Γ nt n0 (.sops all (o :: l) :: k) Q env H :=
  AGo.sopx (quiet_loadO hop hT ha hx hh hv) hg hd ht h
/-- reading a table at a place that is not told by a literal -/
theorem quiet_load {o : Oper} {t : Nat} {ti : TI} {x : Operand} {cs : List D} {v : D} (hop : o.op = .load t x) (hT : lookT Γ.T t = some ti) (ha : ti.agg = false) (hx : ev Γ env x = .d (.iptr cs)) (hv : cs[0]? = some v) : QuietTo Γ nt env H o (.d v) := by
  intro G a w hW hF
  have hq : qop Γ true (.load t x) env H = some (True, .d v) := by
    simp only [qop, hT, hx, loadD, ha, cond_false, hv]
  have := qop_ok (o := o) hW hF (nn := true) (c := True) (v := .d v) (by rw [hop]; exact hq) trivial
  exact this
theorem AGo.loadG {all : Array Oper} {o : Oper} {l : List Oper} {t T : Nat} {ti : TI} {x : Operand} {cs : List D} {v : D} (hop : o.op = .load T x) (hg : o.guard = none) (hd : o.dst = some t) (ht : Nat.ble (t + 1) nt = true)
    (hT : lookT Γ.T T = some ti) (ha : ti.agg = false) (hx : ev Γ env x = .d (.iptr cs)) (hv : cs[0]? = some v)
    (h : AGo Γ nt n0 (.ops all l :: k) Q ((t, .d v) :: env) H) : AGo Γ nt n0 (.ops all (o :: l) :: k) Q env H :=
  AGo.opx (quiet_load hop hT ha hx hv) hg hd ht h
theorem AGo.qloadG {all : Array Oper} {o : Oper} {l : List Oper} {t T : Nat} {ti : TI} {x : Operand} {cs : List D} {v : D} (hop : o.op = .load T x) (hg : o.guard = none) (hd : o.dst = some t) (ht : Nat.ble (t + 1) nt = true)
    (hT : lookT Γ.T T = some ti) (ha : ti.agg = false) (hx : ev Γ env x = .d (.iptr cs)) (hv : cs[0]? = some v)
    (h : AGo Γ nt n0 (.qops all l :: k) Q ((t, .d v) :: env) H) : AGo Γ nt n0 (.qops all (o :: l) :: k) Q env H :=
  AGo.qopx (quiet_load hop hT ha hx hv) hg hd ht h
theorem AGo.sloadG {all : Array Oper} {o : Oper} {l : List Oper} {t T : Nat} {ti : TI} {x : Operand} {cs : List D} {v : D} (hop : o.op = .load T x) (hg : o.guard = none) (hd : o.dst = some t) (ht : Nat.ble (t + 1) nt = true)
    (hT : lookT Γ.T T = some ti) (ha : ti.agg = false) (hx : ev Γ env x = .d (.iptr cs)) (hv : cs[0]? = some v)
    (h : AGo Γ nt n0 (.sops all l :: k) Q ((t, .d v) :: env) H) : AGo Γ nt n0 (.sops all (o :: l) :: k) Q env H :=
  AGo.sopx (quiet_load hop hT ha hx hv) hg hd ht h
theorem AGo.storeO {all : Array Oper} {o : Oper} {l : List Oper} {T id off : Nat} {x y : Operand} {ti : TI} {v : AV} {cs : List AV} (hop : o.op = .store T x y) (hg : o.guard = none) (hd : o.dst = none)
    (hT : lookT Γ.T T = some ti) (hx : ev Γ env x = .ptr id off) (hy' : (ev Γ env y).frc = some (True, v)) (hh : hget H id = some (.cells cs)) (hs : ti.size = 1) (hv : v.cells = [v]) (ho : v.one = true)
    (hle : off < cs.length) (h : AGo Γ nt n0 (.ops all l :: k) Q env (H.set id (.cells (cs.set off v)))) : AGo Γ nt n0 (.ops all (o :: l) :: k) Q env H := by
  refine AGo.store hop hg hd hT hx hy' hh (by rw [hv, hs]; rfl) (by rw [hv]; simp [allOne, ho]) (by omega) ?_
  have e : spliceA cs off v.cells = cs.set off v := by
    rw [hv, spliceA, List.set_eq_take_append_cons_drop, if_pos hle]; simp
  rw [e]; exact h
/-- a whole variable is read -/
theorem quiet_loadW {o : Oper} {T id : Nat} {ti : TI} {x : Operand} {cs : List AV} {v : AV} (hop : o.op = .load T x) (hT : lookT Γ.T T = some ti) (ha : ti.agg = true) (hx : ev Γ env x = .ptr id 0) (hh : hget H id = some (.cells cs)) (hc : cs.length = ti.size) (hv : mkAgg cs = v) :
    QuietTo Γ nt env H o v := by
  intro G a w hW hF
  have hq : qop Γ true (.load T x) env H = some (True, v) := by
    have hb : Nat.ble (0 + ti.size) cs.length = true := by rw [hc, Nat.zero_add]; simp
    have ht : (cs.drop 0).take ti.size = cs := by rw [List.drop_zero, ← hc, List.take_length]
    simp only [qop, hT, hx, hh, loadA, ha, cond_true, hb, ht, hv, frc_eq]
  exact qop_ok (o := o) hW hF (nn := true) (c := True) (v := v) (by rw [hop]; exact hq) trivial
theorem AGo.loadW {all : Array Oper} {o : Oper} {l : List Oper} {t T id : Nat} {ti : TI} {x : Operand} {cs : List AV} {v : AV} (hop : o.op = .load T x) (hg : o.guard = none) (hd : o.dst = some t) (ht : Nat.ble (t + 1) nt = true)
    (hT : lookT Γ.T T = some ti) (ha : ti.agg = true) (hx : ev Γ env x = .ptr id 0) (hh : hget H id = some (.cells cs)) (hc : cs.length = ti.size) (hv : mkAgg cs = v)
    (h : AGo Γ nt n0 (.ops all l :: k) Q ((t, v) :: env) H) : AGo Γ nt n0 (.ops all (o :: l) :: k) Q env H :=
  AGo.opx (quiet_loadW hop hT ha hx hh hc hv) hg hd ht h
theorem AGo.qloadW {all : Array Oper} {o : Oper} {l : List Oper} {t T id : Nat} {ti : TI} {x : Operand} {cs : List AV} {v : AV} (hop : o.op = .load T x) (hg : o.guard = none) (hd : o.dst = some t) (ht : Nat.ble (t + 1) nt = true)
    (hT : lookT Γ.T T = some ti) (ha : ti.agg = true) (hx : ev Γ env x = .ptr id 0) (hh : hget H id = some (.cells cs)) (hc : cs.length = ti.size) (hv : mkAgg cs = v)
    (h : AGo Γ nt n0 (.qops all l :: k) Q ((t, v) :: env) H) : AGo Γ nt n0 (.qops all (o :: l) :: k) Q env H :=
  AGo.qopx (quiet_loadW hop hT ha hx hh hc hv) hg hd ht h
theorem AGo.sloadW {all : Array Oper} {o : Oper} {l : List Oper} {t T id : Nat} {ti : TI} {x : Operand} {cs : List AV} {v : AV} (hop : o.op = .load T x) (hg : o.guard = none) (hd : o.dst = some t) (ht : Nat.ble (t + 1) nt = true)
    (hT : lookT Γ.T T = some ti) (ha : ti.agg = true) (hx : ev Γ env x = .ptr id 0) (hh : hget H id = some (.cells cs)) (hc : cs.length = ti.size) (hv : mkAgg cs = v)
    (h : AGo Γ nt n0 (.sops all l :: k) Q ((t, v) :: env) H) : AGo Γ nt n0 (.sops all (o :: l) :: k) Q env H :=
  AGo.sopx (quiet_loadW hop hT ha hx hh hc hv) hg hd ht h
/-- a whole variable is written -/
theorem AGo.storeW {all : Array Oper} {o : Oper} {l : List Oper} {T id : Nat} {x y : Operand} {ti : TI} {v : AV} {cs vs : List AV} (hop : o.op = .store T x y) (hg : o.guard = none) (hd : o.dst = none)
    (hT : lookT Γ.T T = some ti) (hx : ev Γ env x = .ptr id 0) (hy' : (ev Γ env y).frc = some (True, v)) (hh : hget H id = some (.cells cs)) (hv : v.cells = vs) (ho : allOne vs = true) (hs : vs.length = ti.size) (hc : cs.length = ti.size)
    (h : AGo Γ nt n0 (.ops all l :: k) Q env (H.set id (.cells vs))) : AGo Γ nt n0 (.ops all (o :: l) :: k) Q env H := by
  subst hv
  refine AGo.store hop hg hd hT hx hy' hh (by rw [hs]; exact Nat.beq_refl _) ho (by omega) ?_
  have e : spliceA cs 0 v.cells = v.cells := by
    rw [spliceA, Nat.zero_add, List.take_zero, List.nil_append, List.drop_eq_nil_of_le (by omega), List.append_nil]
  rw [e]; exact h
theorem ndF {p : Prop} {inst : Decidable p} (h : p) : (!decide p) = false := by rw [decide_eq_true h]; rfl
/-! ### Guards and tests on a bool that is not a plain test -/
theorem AGo.gBT {all : Array Oper} {o : Oper} {l : List Oper} {t j : Nat} {want b : Bool} (hg : o.guard = some (j, want)) (hj : (all[j]?).bind (·.dst) = some t) (hb : env.get t = .d (.bool b)) (hp : b = true)
    (h : AGo Γ nt n0 (.ops all (o :: l) :: k) Q ((t, .d (.bool true)) :: env) H) : AGo Γ nt n0 (.ops all (o :: l) :: k) Q env H := AGo.fixB true hb hp h
theorem AGo.gBF {all : Array Oper} {o : Oper} {l : List Oper} {t j : Nat} {want b : Bool} (hg : o.guard = some (j, want)) (hj : (all[j]?).bind (·.dst) = some t) (hb : env.get t = .d (.bool b)) (hp : b = false)
    (h : AGo Γ nt n0 (.ops all (o :: l) :: k) Q ((t, .d (.bool false)) :: env) H) : AGo Γ nt n0 (.ops all (o :: l) :: k) Q env H := AGo.fixB false hb hp h
theorem AGo.qgBT {all : Array Oper} {o : Oper} {l : List Oper} {t j : Nat} {want b : Bool} (hg : o.guard = some (j, want)) (hj : (all[j]?).bind (·.dst) = some t) (hb : env.get t = .d (.bool b)) (hp : b = true)
    (h : AGo Γ nt n0 (.qops all (o :: l) :: k) Q ((t, .d (.bool true)) :: env) H) : AGo Γ nt n0 (.qops all (o :: l) :: k) Q env H := AGo.fixB true hb hp h
theorem AGo.qgBF {all : Array Oper} {o : Oper} {l : List Oper} {t j : Nat} {want b : Bool} (hg : o.guard = some (j, want)) (hj : (all[j]?).bind (·.dst) = some t) (hb : env.get t = .d (.bool b)) (hp : b = false)
    (h : AGo Γ nt n0 (.qops all (o :: l) :: k) Q ((t, .d (.bool false)) :: env) H) : AGo Γ nt n0 (.qops all (o :: l) :: k) Q env H := AGo.fixB false hb hp h
theorem AGo.sgBT {all : Array Oper} {o : Oper} {l : List Oper} {t j : Nat} {want b : Bool} (hg : o.guard = some (j, want)) (hj : (all[j]?).bind (·.dst) = some t) (hb : env.get t = .d (.bool b)) (hp : b = true)
    (h : AGo Γ nt n0 (.sops all (o :: l) :: k) Q ((t, .d (.bool true)) :: env) H) : AGo Γ nt n0 (.sops all (o :: l) :: k) Q env H := AGo.fixB true hb hp h
theorem AGo.sgBF {all : Array Oper} {o : Oper} {l : List Oper} {t j : Nat} {want b : Bool} (hg : o.guard = some (j, want)) (hj : (all[j]?).bind (·.dst) = some t) (hb : env.get t = .d (.bool b)) (hp : b = false)
    (h : AGo Γ nt n0 (.sops all (o :: l) :: k) Q ((t, .d (.bool false)) :: env) H) : AGo Γ nt n0 (.sops all (o :: l) :: k) Q env H := AGo.fixB false hb hp h
theorem AGo.condB {c : Operand} {x y : Code} {b : Bool} (hb : ev Γ env c = .d (.bool b)) (ht : b = true → AGo Γ nt n0 (.code x :: k) Q env H) (hf : b = false → AGo Γ nt n0 (.code y :: k) Q env H) :
    AGo Γ nt n0 (.code (.cond c x y) :: k) Q env H := AGo.cond b hb ht hf
/-- what is owned is handed on as it reads -/
def fgt : AV → AV
  | .own sz es _ => .d (.sl sz es)
  | a => a
theorem fgt_weak (a : AV) : Weak a (fgt a) := by
  cases a <;> first | exact Weak.refl _ | exact Weak.own _ _ _
/-- A CALL, the callee's names turned into the caller's by ρ; owned slices are handed on as they read. -/
theorem AGo.callW {all : Array Oper} {o : Oper} {l : List Oper} {t f : Nat} {args0 args cargs : List AV} {Hc : List AObj} {R : AV → List AObj → Prop} (ρ : List Nat)
    (hR : ACalls Γ f cargs Hc R) (hg : o.guard = none) (hd : o.dst = some t) (ht : Nat.ble (t + 1) nt = true)
    (hcall : calleeA Γ env o.op = some (f, args0)) (hweak : args0.map fgt = args) (hargs : args = AV.renL ρ cargs) (hab : AV.bnds ρ.length cargs = true) (hn : ρ.Nodup) (hp : pickH ρ H = some (Hc.map (AObj.ren ρ))) (hb : objsBnd ρ.length Hc = true)
    (h : ∀ r Hc', R r Hc' → Hc.length ≤ Hc'.length → ∃ r' H', r' = AV.ren (names ρ H.length Hc'.length) r ∧ H' = putH ρ (Hc'.map (AObj.ren (names ρ H.length Hc'.length))) H ∧
      AGo Γ nt n0 (.ops all l :: k) Q ((t, r') :: env) H') : AGo Γ nt n0 (.ops all (o :: l) :: k) Q env H :=
  fun G0 G a w h0 hl hF hdf hW => by
    obtain ⟨vs, hA0, hrun⟩ := run_call hW hF hcall hR.1
    have hA : ARels G vs args := by
      rw [← hweak]
      refine ⟨by simpa using hA0.1, fun i c hc => ?_⟩
      rw [List.getElem?_map] at hc
      cases hq : args0[i]? with
      | none => simp [hq] at hc
      | some c0 =>
        simp [hq] at hc; subst hc
        exact fgt_weak c0 _ _ (hA0.2 i c0 hq)
    obtain ⟨p1, p2⟩ := pickH_get hp
    have hlen : Hc.length = ρ.length := by simpa using p1
    have hlt : ∀ id ∈ ρ, id < H.length := fun id hm => by
      obtain ⟨i, hi⟩ := List.getElem?_of_mem hm
      obtain ⟨o, _, h2⟩ := p2 i id hi
      exact getElem?_lt h2
    have hWc := hW.callee hn hp hb
    have hAc : ARels (G.callee w H ρ) vs cargs := by
      subst hargs
      rw [renL_map] at hA
      refine ⟨by simpa using hA.1, fun i c hc => ?_⟩
      exact VRel.unren' (G := G) (G' := G.callee w H ρ) (ImmLe.refl G.imm) (fun i id h => callee_loc h) (fun i id n h => callee_fl h) c _ (bnds_mem hab hc) (hA.2 i _ (by rw [List.getElem?_map, hc]; rfl))
    have hcalls := hR.2 _ w vs hWc hAc
    simp only [resm]
    unfold wpList
    rw [if_pos (wanted_none hg)]
    refine .inl ?_
    unfold Oper.wp
    rw [hrun w]
    refine hcalls.mono ?_
    rintro e w' ⟨v, r, Hc', Gc', rfl, hRr, hlen', hle, hv, hWc'⟩
    obtain ⟨b1, b2, b3, b4, b5⟩ := hW.back hn hlt hlen hlen' hle hWc'
    obtain ⟨r', H', rfl, rfl, hgo⟩ := h r Hc' hRr hlen'
    have hF' : FRel (G.back Gc' (names ρ H.length Hc'.length)) nt (a.put (some t) v).tmps ((t, AV.ren (names ρ H.length Hc'.length) r) :: env) :=
      (hF.up b1 hW.lim).put ht (hv.ren b3 b4 b5)
    have := hgo G0 _ (a.put (some t) v) w' (h0.trans (b1.weaken hl)) (by rw [putH_length (by simp; omega)]; omega) hF' (by simp [Act.put, hdf]) b2
    simp only [resm] at this
    simp only [hd]
    exact this
theorem AGo.callPF {all : Array Oper} {o : Oper} {l : List Oper} {t f : Nat} {args0 args : List AV} {X : AV} (hR : ACalls Γ f args [] (fun r H => r = X ∧ H = [])) (hg : o.guard = none) (hd : o.dst = some t) (ht : Nat.ble (t + 1) nt = true)
    (hcall : calleeA Γ env o.op = some (f, args0)) (hw : args0.map fgt = args) (hab : AV.bnds 0 args = true) (hb : X.bnd 0 = true) (h : AGo Γ nt n0 (.ops all l :: k) Q ((t, X) :: env) H) : AGo Γ nt n0 (.ops all (o :: l) :: k) Q env H := by
  refine AGo.callW [] hR hg hd ht hcall hw (renL_bnd0 _ hab).symm (by simpa using hab) List.nodup_nil rfl rfl ?_
  rintro r Hc' ⟨rfl, rfl⟩ _
  exact ⟨r, H, (ren_bnd0 _ _ hb).symm, by simp [putH], h⟩
end
end Go.Proofs.YtammpekpmjboiaaDoor.Av
