/- Leaving loops: returns out of a loop's round, and out of the loop. -/
import Derived.Test.YtnmkmhbfgebalaaDoorAv18
set_option linter.unusedVariables false
set_option linter.unusedSimpArgs false
namespace Go.Proofs.YtnmkmhbfgebalaaDoor.Av
open Go Go.RowKit
section
variable {Γ : Ctx} {nt n0 : Nat} {k : List It} {Q : Post} {env : Env} {H : List AObj}
theorem AGo.retL {fn : Func} {R : AV → List AObj → Prop} {r : AV} {I : Nat → Env → List AObj → Prop} {n : Nat} {K : List It} (hr : aresults Γ env H fn.results.toList = some r) (hl : Nat.ble n0 H.length = true) (hb : r.bnd n0 = true)
    (ho : objsBnd n0 (H.take n0) = true) (h : R r (H.take n0)) : AGo Γ nt n0 (.code .ret :: k) (LoopPost Γ nt n0 I n K (FinQ Γ fn n0 R)) env H := AGo.ret (Q := LoopPost Γ nt n0 I n K (FinQ Γ fn n0 R)) (Fin.mk' hr (Weak.refl _) hl hb ho h)
theorem AGo.retL2 {fn : Func} {R : AV → List AObj → Prop} {r : AV} {I I' : Nat → Env → List AObj → Prop} {n n' : Nat} {K K' : List It} (hr : aresults Γ env H fn.results.toList = some r) (hl : Nat.ble n0 H.length = true) (hb : r.bnd n0 = true)
    (ho : objsBnd n0 (H.take n0) = true) (h : R r (H.take n0)) : AGo Γ nt n0 (.code .ret :: k) (LoopPost Γ nt n0 I n K (LoopPost Γ nt n0 I' n' K' (FinQ Γ fn n0 R))) env H :=
  AGo.ret (Q := LoopPost Γ nt n0 I n K (LoopPost Γ nt n0 I' n' K' (FinQ Γ fn n0 R))) (Fin.mk' hr (Weak.refl _) hl hb ho h)
theorem AGo.outL {I : Nat → Env → List AObj → Prop} {n id : Nat} {K K' : List It} (hu : unwind id k = none) (hK : unwind id K = some K') (h : AGo Γ nt n0 K' Q env H) : AGo Γ nt n0 (.code (.exit id) :: k) (LoopPost Γ nt n0 I n K Q) env H :=
  AGo.out hu ⟨_, hK, h⟩
/-- the end of a round -/
theorem AGo.round {I : Nat → Env → List AObj → Prop} {n : Nat} {K : List It} (env' : Env) (m' : Nat) (hlt : m' < n) (he : EnvLe env env') (hI : I m' env' H) : AGo Γ nt n0 [] (LoopPost Γ nt n0 I n K Q) env H :=
  AGo.done (Q := LoopPost Γ nt n0 I n K Q) ⟨env', m', hlt, he, hI⟩
/-! ### Cells at places that are not told by literals -/
theorem quiet_loadO {o : Oper} {T id off : Nat} {ti : TI} {x : Operand} {cs : List AV} {v : AV} (hop : o.op = .load T x) (hT : lookT Γ.T T = some ti) (ha : ti.agg = false) (hx : ev Γ env x = .ptr id off) (hh : hget H id = some (.cells cs)) (hv : cs[off]? = some v) :
    QuietTo Γ nt env H o v := by
  intro G a w hW hF
  have hq : qop Γ true (.load T x) env H = some (True, v) := by
    simp only [qop, hT, hx, hh, loadA, ha, cond_false, hv, frc_eq]
  exact qop_ok (o := o) hW hF (nn := true) (c := True) (v := v) (by rw [hop]; exact hq) trivial
theorem AGo.loadO {all : Array Oper} {o : Oper} {l : List Oper} {t T id off : Nat} {ti : TI} {x : Operand} {cs : List AV} {v : AV} (hop : o.op = .load T x) (hg : o.guard = none) (hd : o.dst = some t) (ht : Nat.ble (t + 1) nt = true)
    (hT : lookT Γ.T T = some ti) (ha : ti.agg = false) (hx : ev Γ env x = .ptr id off) (hh : hget H id = some (.cells cs)) (hv : cs[off]? = some v)
    (h : AGo Γ nt n0 (.ops all l :: k) Q ((t, v) :: env) H) : AGo Γ nt n0 (.ops all (o :: l) :: k) Q env H :=
  AGo.opx (quiet_loadO hop hT ha hx hh hv) hg hd ht h
theorem AGo.qloadO {all : Array Oper} {o : Oper} {l : List Oper} {t T id off : Nat} {ti : TI} {x : Operand} {cs : List AV} {v : AV} (hop : o.op = .load T x) (hg : o.guard = none) (hd : o.dst = some t) (ht : Nat.ble (t + 1) nt = true)
    (hT : lookT Γ.T T = some ti) (ha : ti.agg = false) (hx : ev Γ env x = .ptr id off) (hh : hget H id = some (.cells cs)) (hv : cs[off]? = some v)
    (h : AGo Γ nt n0 (.qops all l :: k) Q ((t, v) :: env) H) : AGo Γ nt n0 (.qops all (o :: l) :: k) Q env H :=
  AGo.qopx (quiet_loadO hop hT ha hx hh hv) hg hd ht h
theorem AGo.sloadO {all : Array Oper} {o : Oper} {l : List Oper} {t T id off : Nat} {ti : TI} {x : Operand} {cs : List AV} {v : AV} (hop : o.op = .load T x) (hg : o.guard = none) (hd : o.dst = some t) (ht : Nat.ble (t + 1) nt = true)
    (hT : lookT Γ.T T = some ti) (ha : ti.agg = false) (hx : ev Γ env x = .ptr id off) (hh : hget H id = some (.cells cs)) (hv : cs[off]? = some v)
    (h : AGo Γ nt n0 (.sops all l :: k) Q ((t, v) :: env) H) : AGo Γ nt n0 (.sops all (o :: l) :: k) Q env H :=
  AGo.sopx (quiet_loadO hop hT ha hx hh hv) hg hd ht h
/-- reading a table at a place that is not told by a literal -/
theorem quiet_load {o : Oper} {t : Nat} {ti : TI} {x : Operand} {cs : List D} {v : D} (hop : o.op = .load t x) (hT : lookT Γ.T t = some ti) (ha : ti.agg = false) (hx : ev Γ env x = .d (.iptr cs)) (hv : cs[0]? = some v) : QuietTo Γ nt env H o (.d v) := by
  intro G a w hW hF
  have hq : qop Γ true (.load t x) env H = some (True, .d v) := by
    simp only [qop, hT, hx, loadD, ha, cond_false, hv]
  have := qop_ok (o := o) hW hF (nn := true) (c := True) (v := .d v) (by rw [hop]; exact hq) trivial
  exact this
theorem AGo.loadG {all : Array Oper} {o : Oper} {l : List Oper} {t T : Nat} {ti : TI} {x : Operand} {cs : List D} {v : D} (hop : o.op = .load T x) (hg : o.guard = none) (hd : o.dst = some t) (ht : Nat.ble (t + 1) nt = true)
    (hT : lookT Γ.T T = some ti) (ha : ti.agg = false) (hx : ev Γ env x = .d (.iptr cs)) (hv : cs[0]? = some v)
    (h : AGo Γ nt n0 (.ops all l :: k) Q ((t, .d v) :: env) H) : AGo Γ nt n0 (.ops all (o :: l) :: k) Q env H :=
  AGo.opx (quiet_load hop hT ha hx hv) hg hd ht h
theorem AGo.qloadG {all : Array Oper} {o : Oper} {l : List Oper} {t T : Nat} {ti : TI} {x : Operand} {cs : List D} {v : D} (hop : o.op = .load T x) (hg : o.guard = none) (hd : o.dst = some t) (ht : Nat.ble (t + 1) nt = true)
    (hT : lookT Γ.T T = some ti) (ha : ti.agg = false) (hx : ev Γ env x = .d (.iptr cs)) (hv : cs[0]? = some v)
    (h : AGo Γ nt n0 (.qops all l :: k) Q ((t, .d v) :: env) H) : AGo Γ nt n0 (.qops all (o :: l) :: k) Q env H :=
  AGo.qopx (quiet_load hop hT ha hx hv) hg hd ht h
theorem AGo.sloadG {all : Array Oper} {o : Oper} {l : List Oper} {t T : Nat} {ti : TI} {x : Operand} {cs : List D} {v : D} (hop : o.op = .load T x) (hg : o.guard = none) (hd : o.dst = some t) (ht : Nat.ble (t + 1) nt = true)
    (hT : lookT Γ.T T = some ti) (ha : ti.agg = false) (hx : ev Γ env x = .d (.iptr cs)) (hv : cs[0]? = some v)
    (h : AGo Γ nt n0 (.sops all l :: k) Q ((t, .d v) :: env) H) : AGo Γ nt n0 (.sops all (o :: l) :: k) Q env H :=
  AGo.sopx (quiet_load hop hT ha hx hv) hg hd ht h
theorem AGo.storeO {all : Array Oper} {o : Oper} {l : List Oper} {T id off : Nat} {x y : Operand} {ti : TI} {v : AV} {cs : List AV} (hop : o.op = .store T x y) (hg : o.guard = none) (hd : o.dst = none)
    (hT : lookT Γ.T T = some ti) (hx : ev Γ env x = .ptr id off) (hy' : (ev Γ env y).frc = some (True, v)) (hh : hget H id = some (.cells cs)) (hs : ti.size = 1) (hv : v.cells = [v]) (ho : v.one = true)
    (hle : off < cs.length) (h : AGo Γ nt n0 (.ops all l :: k) Q env (H.set id (.cells (cs.set off v)))) : AGo Γ nt n0 (.ops all (o :: l) :: k) Q env H := by
  refine AGo.store hop hg hd hT hx hy' hh (by rw [hv, hs]; rfl) (by rw [hv]; simp [allOne, ho]) (by omega) ?_
  have e : spliceA cs off v.cells = cs.set off v := by
    rw [hv, spliceA, List.set_eq_take_append_cons_drop, if_pos hle]; simp
  rw [e]; exact h
/-- a whole variable is read -/
theorem quiet_loadW {o : Oper} {T id : Nat} {ti : TI} {x : Operand} {cs : List AV} {v : AV} (hop : o.op = .load T x) (hT : lookT Γ.T T = some ti) (ha : ti.agg = true) (hx : ev Γ env x = .ptr id 0) (hh : hget H id = some (.cells cs)) (hc : cs.length = ti.size) (hv : mkAgg cs = v) :
    QuietTo Γ nt env H o v := by
  intro G a w hW hF
  have hq : qop Γ true (.load T x) env H = some (True, v) := by
    have hb : Nat.ble (0 + ti.size) cs.length = true := by rw [hc, Nat.zero_add]; simp
    have ht : (cs.drop 0).take ti.size = cs := by rw [List.drop_zero, ← hc, List.take_length]
    simp only [qop, hT, hx, hh, loadA, ha, cond_true, hb, ht, hv, frc_eq]
  exact qop_ok (o := o) hW hF (nn := true) (c := True) (v := v) (by rw [hop]; exact hq) trivial
theorem AGo.loadW {all : Array Oper} {o : Oper} {l : List Oper} {t T id : Nat} {ti : TI} {x : Operand} {cs : List AV} {v : AV} (hop : o.op = .load T x) (hg : o.guard = none) (hd : o.dst = some t) (ht : Nat.ble (t + 1) nt = true)
    (hT : lookT Γ.T T = some ti) (ha : ti.agg = true) (hx : ev Γ env x = .ptr id 0) (hh : hget H id = some (.cells cs)) (hc : cs.length = ti.size) (hv : mkAgg cs = v)
    (h : AGo Γ nt n0 (.ops all l :: k) Q ((t, v) :: env) H) : AGo Γ nt n0 (.ops all (o :: l) :: k) Q env H :=
  AGo.opx (quiet_loadW hop hT ha hx hh hc hv) hg hd ht h
theorem AGo.qloadW {all : Array Oper} {o : Oper} {l : List Oper} {t T id : Nat} {ti : TI} {x : Operand} {cs : List AV} {v : AV} (hop : o.op = .load T x) (hg : o.guard = none) (hd : o.dst = some t) (ht : Nat.ble (t + 1) nt = true)
    (hT : lookT Γ.T T = some ti) (ha : ti.agg = true) (hx : ev Γ env x = .ptr id 0) (hh : hget H id = some (.cells cs)) (hc : cs.length = ti.size) (hv : mkAgg cs = v)
    (h : AGo Γ nt n0 (.qops all l :: k) Q ((t, v) :: env) H) : AGo Γ nt n0 (.qops all (o :: l) :: k) Q env H :=
  AGo.qopx (quiet_loadW hop hT ha hx hh hc hv) hg hd ht h
theorem AGo.sloadW {all : Array Oper} {o : Oper} {l : List Oper} {t T id : Nat} {ti : TI} {x : Operand} {cs : List AV} {v : AV} (hop : o.op = .load T x) (hg : o.guard = none) (hd : o.dst = some t) (ht : Nat.ble (t + 1) nt = true)
    (hT : lookT Γ.T T = some ti) (ha : ti.agg = true) (hx : ev Γ env x = .ptr id 0) (hh : hget H id = some (.cells cs)) (hc : cs.length = ti.size) (hv : mkAgg cs = v)
    (h : AGo Γ nt n0 (.sops all l :: k) Q ((t, v) :: env) H) : AGo Γ nt n0 (.sops all (o :: l) :: k) Q env H :=
  AGo.sopx (quiet_loadW hop hT ha hx hh hc hv) hg hd ht h
/-- a whole variable is written -/
theorem AGo.storeW {all : Array Oper} {o : Oper} {l : List Oper} {T id : Nat} {x y : Operand} {ti : TI} {v : AV} {cs vs : List AV} (hop : o.op = .store T x y) (hg : o.guard = none) (hd : o.dst = none)
    (hT : lookT Γ.T T = some ti) (hx : ev Γ env x = .ptr id 0) (hy' : (ev Γ env y).frc = some (True, v)) (hh : hget H id = some (.cells cs)) (hv : v.cells = vs) (ho : allOne vs = true) (hs : vs.length = ti.size) (hc : cs.length = ti.size)
    (h : AGo Γ nt n0 (.ops all l :: k) Q env (H.set id (.cells vs))) : AGo Γ nt n0 (.ops all (o :: l) :: k) Q env H := by
  subst hv
  refine AGo.store hop hg hd hT hx hy' hh (by rw [hs]; exact Nat.beq_refl _) ho (by omega) ?_
  have e : spliceA cs 0 v.cells = v.cells := by
    rw [spliceA, Nat.zero_add, List.take_zero, List.nil_append, List.drop_eq_nil_of_le (by omega), List.append_nil]
  rw [e]; exact h
end
end Go.Proofs.YtnmkmhbfgebalaaDoor.Av
