/- Calls that hand on owned slices and work on objects; weaker arguments. -/
import Derived.Test.YtammpekpmjboiaaDoorAv24
set_option linter.unusedVariables false
set_option linter.unusedSimpArgs false
namespace Go.Proofs.YtammpekpmjboiaaDoor.Av
open Go Go.RowKit
section
variable {Γ : Ctx} {G : Ghost} {H : List AObj} {w : World} {nt n0 : Nat} {k : List It} {Q : Post} {env : Env}
theorem AGo.callHF {all : Array Oper} {o : Oper} {l : List Oper} {t f : Nat} {args0 args cargs : List AV} {X : AV} {Hc Y : List AObj} (ρ : List Nat) (hR : ACalls Γ f cargs Hc (fun r H => r = X ∧ H = Y)) (hg : o.guard = none) (hd : o.dst = some t) (ht : Nat.ble (t + 1) nt = true)
    (hcall : calleeA Γ env o.op = some (f, args0)) (hw : args0.map fgt = args) (hargs : args = AV.renL ρ cargs) (hab : AV.bnds ρ.length cargs = true) (hn : ρ.Nodup) (hp : pickH ρ H = some (Hc.map (AObj.ren ρ))) (hb : objsBnd ρ.length Hc = true)
    (h : AGo Γ nt n0 (.ops all l :: k) Q ((t, AV.ren (names ρ H.length Y.length) X) :: env) (putH ρ (Y.map (AObj.ren (names ρ H.length Y.length))) H)) : AGo Γ nt n0 (.ops all (o :: l) :: k) Q env H := by
  refine AGo.callW ρ hR hg hd ht hcall hw hargs hab hn hp hb ?_
  rintro r Hc' ⟨rfl, rfl⟩ _
  exact ⟨_, _, rfl, rfl, h⟩
theorem ACalls.weak {f : FuncId} {args args' : List AV} {R : AV → List AObj → Prop} (h : ACalls Γ f args' H R) (hw : WeakL args args') : ACalls Γ f args H R :=
  ⟨h.1, fun G w vs hW hA => h.2 G w vs hW (by
    obtain ⟨h1, h2⟩ := hw.get
    refine ⟨hA.1.trans h1, fun i c hc => ?_⟩
    obtain ⟨c', hc', hww⟩ := h2 i c hc
    exact hww _ _ (hA.2 i c' hc'))⟩
theorem weak_nils (sz : Nat) : Weak (.d .nils) (.d (.sl sz [])) := Weak.d (DWeak.nils sz)
theorem quiet_lookupN {o : Oper} {T kt et : Nat} {ti tk te : TI} {x y : Operand} {ok : Bool} {kd : D} {zv : Value} {v : AV} (hop : o.op = .lookup T x y ok) (hT : lookT Γ.T T = some ti) (hsh : ti.sh = .map kt et)
    (hK : lookT Γ.T kt = some tk) (hE : lookT Γ.T et = some te) (hx : ev Γ env x = .d .nilm) (hy : ev Γ env y = .d kd) (hfit : keyFits tk.sh kd = true) (hz : zeroV Γ.P et = some zv) (hzd : (zD te).val? = some zv)
    (hv : lookR ok (zD te) none = v) : QuietTo Γ nt env H o v := by
  subst hv
  intro G a w hW hF
  obtain ⟨f⟩ := Γ.ty hT
  obtain ⟨fk⟩ := Γ.ty hK
  have hu := und_map f hsh
  have hxv := ev_ok hW hF x
  rw [hx] at hxv
  have hyv := ev_ok hW hF y
  rw [hy] at hyv
  generalize hxe : a.eval x = xv at hxv
  generalize hye : a.eval y = yv at hyv
  cases hxv with
  | d _ _ hxd =>
    cases hxd
    cases hyv with
    | d _ _ hyd =>
      have hkey := keyFits_ok fk hfit hyd
      obtain ⟨r', r1, r2⟩ := mfind_ok hkey hyd [] [] 0 none rfl (fun i k v hi => by simp at hi) rfl
      have run : ∀ w', Below w.heap.size w w' → (Instr.lookup T (.map none) yv ok).run Γ.P w' = .ok (if ok then .tuple #[zv, .bool false] else zv) w' := fun w' hb => by
        subst r2
        have hfk := MapKept.run_findKey (P := Γ.P) (w := w') fk.und r1
        have hck := MapKept.run_checkKey (P := Γ.P) (w := w') fk.und hkey true 9999
        simp [Instr.lookup, run_underlying hu, hck, hfk, run_zeroV hz, Result.andThen]
      have hzr := (D.val_mk (imm := G.imm) hzd).1
      cases ok with
      | true => exact ⟨_, tup2_rel (.d _ _ hzr) (.d _ _ (.bool _)), fun w' hb => by unfold execOp; simp [hop, hxe, hye, run w' hb]⟩
      | false => exact ⟨_, .d _ _ hzr, fun w' hb => by unfold execOp; simp [hop, hxe, hye, run w' hb]⟩
theorem AGo.lookupN {all : Array Oper} {o : Oper} {l : List Oper} {t T kt et : Nat} {ti tk te : TI} {x y : Operand} {ok : Bool} {kd : D} {zv : Value} {v : AV} (hop : o.op = .lookup T x y ok) (hg : o.guard = none) (hd : o.dst = some t) (ht : Nat.ble (t + 1) nt = true)
    (hT : lookT Γ.T T = some ti) (hsh : ti.sh = .map kt et) (hK : lookT Γ.T kt = some tk) (hE : lookT Γ.T et = some te) (hx : ev Γ env x = .d .nilm) (hy : ev Γ env y = .d kd) (hfit : keyFits tk.sh kd = true)
    (hzd : (zD te).val? = some zv) (hz : zeroV Γ.P et = some zv) (hv : lookR ok (zD te) none = v)
    (h : AGo Γ nt n0 (.ops all l :: k) Q ((t, v) :: env) H) : AGo Γ nt n0 (.ops all (o :: l) :: k) Q env H :=
  AGo.opx (quiet_lookupN hop hT hsh hK hE hx hy hfit hz hzd hv) hg hd ht h
theorem AGo.qlookupN {all : Array Oper} {o : Oper} {l : List Oper} {t T kt et : Nat} {ti tk te : TI} {x y : Operand} {ok : Bool} {kd : D} {zv : Value} {v : AV} (hop : o.op = .lookup T x y ok) (hg : o.guard = none) (hd : o.dst = some t) (ht : Nat.ble (t + 1) nt = true)
    (hT : lookT Γ.T T = some ti) (hsh : ti.sh = .map kt et) (hK : lookT Γ.T kt = some tk) (hE : lookT Γ.T et = some te) (hx : ev Γ env x = .d .nilm) (hy : ev Γ env y = .d kd) (hfit : keyFits tk.sh kd = true)
    (hzd : (zD te).val? = some zv) (hz : zeroV Γ.P et = some zv) (hv : lookR ok (zD te) none = v)
    (h : AGo Γ nt n0 (.qops all l :: k) Q ((t, v) :: env) H) : AGo Γ nt n0 (.qops all (o :: l) :: k) Q env H :=
  AGo.qopx (quiet_lookupN hop hT hsh hK hE hx hy hfit hz hzd hv) hg hd ht h
theorem AGo.slookupN {all : Array Oper} {o : Oper} {l : List Oper} {t T kt et : Nat} {ti tk te : TI} {x y : Operand} {ok : Bool} {kd : D} {zv : Value} {v : AV} (hop : o.op = .lookup T x y ok) (hg : o.guard = none) (hd : o.dst = some t) (ht : Nat.ble (t + 1) nt = true)
    (hT : lookT Γ.T T = some ti) (hsh : ti.sh = .map kt et) (hK : lookT Γ.T kt = some tk) (hE : lookT Γ.T et = some te) (hx : ev Γ env x = .d .nilm) (hy : ev Γ env y = .d kd) (hfit : keyFits tk.sh kd = true)
    (hzd : (zD te).val? = some zv) (hz : zeroV Γ.P et = some zv) (hv : lookR ok (zD te) none = v)
    (h : AGo Γ nt n0 (.sops all l :: k) Q ((t, v) :: env) H) : AGo Γ nt n0 (.sops all (o :: l) :: k) Q env H :=
  AGo.sopx (quiet_lookupN hop hT hsh hK hE hx hy hfit hz hzd hv) hg hd ht h
end
end Go.Proofs.YtammpekpmjboiaaDoor.Av
