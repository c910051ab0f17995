/- Calls that hand on owned slices and work on objects; weaker arguments. -/
import Derived.Test.YtnmkmhbfgebalaaDoorAv24
set_option linter.unusedVariables false
set_option linter.unusedSimpArgs false
namespace Go.Proofs.YtnmkmhbfgebalaaDoor.Av
open Go Go.RowKit
section
variable {Γ : Ctx} {G : Ghost} {H : List AObj} {w : World} {nt n0 : Nat} {k : List It} {Q : Post} {env : Env}
theorem AGo.callHF {all : Array Oper} {o : Oper} {l : List Oper} {t f : Nat} {args0 args cargs : List AV} {X : AV} {Hc Y : List AObj} (ρ : List Nat) (hR : ACalls Γ f cargs Hc (fun r H => r = X ∧ H = Y)) (hg : o.guard = none) (hd : o.dst = some t) (ht : Nat.ble (t + 1) nt = true)
    (hcall : calleeA Γ env o.op = some (f, args0)) (hw : args0.map fgt = args) (hargs : args = AV.renL ρ cargs) (hab : AV.bnds ρ.length cargs = true) (hn : ρ.Nodup) (hp : pickH ρ H = some (Hc.map (AObj.ren ρ))) (hb : objsBnd ρ.length Hc = true)
    (h : AGo Γ nt n0 (.ops all l :: k) Q ((t, AV.ren (names ρ H.length Y.length) X) :: env) (putH ρ (Y.map (AObj.ren (names ρ H.length Y.length))) H)) : AGo Γ nt n0 (.ops all (o :: l) :: k) Q env H := by
  refine AGo.callW ρ hR hg hd ht hcall hw hargs hab hn hp hb ?_
  rintro r Hc' ⟨rfl, rfl⟩ _
  exact ⟨_, _, rfl, rfl, h⟩
theorem ACalls.weak {f : FuncId} {args args' : List AV} {R : AV → List AObj → Prop} (h : ACalls Γ f args' H R) (hw : WeakL args args') : ACalls Γ f args H R :=
  ⟨h.1, fun G w vs hW hA => h.2 G w vs hW (by
    obtain ⟨h1, h2⟩ := hw.get
    refine ⟨hA.1.trans h1, fun i c hc => ?_⟩
    obtain ⟨c', hc', hww⟩ := h2 i c hc
    exact hww _ _ (hA.2 i c' hc'))⟩
theorem weak_nils (sz : Nat) : Weak (.d .nils) (.d (.sl sz [])) := Weak.d (DWeak.nils sz)
end
end Go.Proofs.YtnmkmhbfgebalaaDoor.Av
