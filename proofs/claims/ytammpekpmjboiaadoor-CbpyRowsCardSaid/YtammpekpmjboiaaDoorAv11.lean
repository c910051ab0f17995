/- Calls with plain contracts; from a contract to the row's walk. -/
import Derived.Test.YtammpekpmjboiaaDoorAv10
set_option linter.unusedVariables false
set_option linter.unusedSimpArgs false
namespace Go.Proofs.YtammpekpmjboiaaDoor.Av
open Go Go.RowKit

theorem ren_bnd0 (ρ : List Nat) : ∀ (a : AV), a.bnd 0 = true → a.ren ρ = a
  | .d x, _ => by simp [AV.ren]
  | .ptr .., h => by simp [AV.bnd] at h
  | .eptr .., h => by simp [AV.bnd] at h
  | .own .., h => by simp [AV.bnd] at h
  | .ms .., h => by simp [AV.bnd] at h
  | .ag cs, h => by
    simp only [AV.bnd] at h
    simp only [AV.ren, renL_map]
    congr 1
    conv => rhs; rw [← List.map_id cs]
    exact List.map_congr_left fun c hc => by
      obtain ⟨i, hi⟩ := List.getElem?_of_mem hc
      exact ren_bnd0 ρ c (bnds_mem h hi)
  | .tup cs, h => by
    simp only [AV.bnd] at h
    simp only [AV.ren, renL_map]
    congr 1
    conv => rhs; rw [← List.map_id cs]
    exact List.map_congr_left fun c hc => by
      obtain ⟨i, hi⟩ := List.getElem?_of_mem hc
      exact ren_bnd0 ρ c (bnds_mem h hi)
  | .fn f as bs, h => by
    simp only [AV.bnd, Bool.and_eq_true] at h
    simp only [AV.ren, renL_map]
    congr 1
    · conv => rhs; rw [← List.map_id as]
      exact List.map_congr_left fun c hc => by
        obtain ⟨i, hi⟩ := List.getElem?_of_mem hc
        exact ren_bnd0 ρ c (bnds_mem h.1 hi)
    · conv => rhs; rw [← List.map_id bs]
      exact List.map_congr_left fun c hc => by
        obtain ⟨i, hi⟩ := List.getElem?_of_mem hc
        exact ren_bnd0 ρ c (bnds_mem h.2 hi)
  | .mp .., h => by simp [AV.bnd] at h
  | .it .., h => by simp [AV.bnd] at h
  | .top, _ => by simp [AV.ren]
termination_by a => SizeOf.sizeOf a
decreasing_by
  all_goals simp_wf
  all_goals (have := List.sizeOf_lt_of_mem ‹_ ∈ _›; omega)

theorem renL_bnd0 (ρ : List Nat) {l : List AV} (h : AV.bnds 0 l = true) : AV.renL ρ l = l := by
  rw [renL_map]
  conv => rhs; rw [← List.map_id l]
  exact List.map_congr_left fun c hc => by
    obtain ⟨i, hi⟩ := List.getElem?_of_mem hc
    exact ren_bnd0 ρ c (bnds_mem h hi)

section
variable {Γ : Ctx} {nt n0 : Nat} {k : List It} {Q : Post} {env : Env} {H : List AObj} {G : Ghost} {w w' : World}

/-- a bool's value that is known -/
theorem AGo.fixB {t : Nat} {b : Bool} (c : Bool) (hb : env.get t = .d (.bool b)) (hp : b = c) (h : AGo Γ nt n0 k Q ((t, .d (.bool c)) :: env) H) : AGo Γ nt n0 k Q env H :=
  fun G0 G a w h0 hl hF hd hW => h G0 G a w h0 hl ⟨hF.size, fun i => by
    simp only [Env.get]
    cases hi : Nat.beq t i with
    | false => exact hF.rel i
    | true =>
      have := Nat.eq_of_beq_eq_true hi; subst this; subst hp
      have := hF.rel t
      rwa [hb] at this⟩ hd hW
theorem AGo.gT {all : Array Oper} {o : Oper} {l : List Oper} {t j : Nat} {want : Bool} {p : Prop} {inst : Decidable p} (hg : o.guard = some (j, want)) (hj : (all[j]?).bind (·.dst) = some t) (hb : env.get t = .d (.bool (decide p))) (hp : p)
    (h : AGo Γ nt n0 (.ops all (o :: l) :: k) Q ((t, .d (.bool true)) :: env) H) : AGo Γ nt n0 (.ops all (o :: l) :: k) Q env H := AGo.fixB true hb (decide_eq_true hp) h
theorem AGo.gF {all : Array Oper} {o : Oper} {l : List Oper} {t j : Nat} {want : Bool} {p : Prop} {inst : Decidable p} (hg : o.guard = some (j, want)) (hj : (all[j]?).bind (·.dst) = some t) (hb : env.get t = .d (.bool (decide p))) (hp : ¬ p)
    (h : AGo Γ nt n0 (.ops all (o :: l) :: k) Q ((t, .d (.bool false)) :: env) H) : AGo Γ nt n0 (.ops all (o :: l) :: k) Q env H := AGo.fixB false hb (decide_eq_false hp) h
theorem AGo.qgT {all : Array Oper} {o : Oper} {l : List Oper} {t j : Nat} {want : Bool} {p : Prop} {inst : Decidable p} (hg : o.guard = some (j, want)) (hj : (all[j]?).bind (·.dst) = some t) (hb : env.get t = .d (.bool (decide p))) (hp : p)
    (h : AGo Γ nt n0 (.qops all (o :: l) :: k) Q ((t, .d (.bool true)) :: env) H) : AGo Γ nt n0 (.qops all (o :: l) :: k) Q env H := AGo.fixB true hb (decide_eq_true hp) h
theorem AGo.qgF {all : Array Oper} {o : Oper} {l : List Oper} {t j : Nat} {want : Bool} {p : Prop} {inst : Decidable p} (hg : o.guard = some (j, want)) (hj : (all[j]?).bind (·.dst) = some t) (hb : env.get t = .d (.bool (decide p))) (hp : ¬ p)
    (h : AGo Γ nt n0 (.qops all (o :: l) :: k) Q ((t, .d (.bool false)) :: env) H) : AGo Γ nt n0 (.qops all (o :: l) :: k) Q env H := AGo.fixB false hb (decide_eq_false hp) h
/-- a guard that is not known yet: both ways, its value laid -/
theorem AGo.gS {all : Array Oper} {o : Oper} {l : List Oper} {t j : Nat} {want b : Bool} (hg : o.guard = some (j, want)) (hj : (all[j]?).bind (·.dst) = some t) (hb : env.get t = .d (.bool b))
    (h1 : b = true → AGo Γ nt n0 (.ops all (o :: l) :: k) Q ((t, .d (.bool true)) :: env) H) (h2 : b = false → AGo Γ nt n0 (.ops all (o :: l) :: k) Q ((t, .d (.bool false)) :: env) H) : AGo Γ nt n0 (.ops all (o :: l) :: k) Q env H := by
  cases hc : b with
  | true => exact AGo.fixB true hb hc (h1 hc)
  | false => exact AGo.fixB false hb hc (h2 hc)
theorem AGo.qgS {all : Array Oper} {o : Oper} {l : List Oper} {t j : Nat} {want b : Bool} (hg : o.guard = some (j, want)) (hj : (all[j]?).bind (·.dst) = some t) (hb : env.get t = .d (.bool b))
    (h1 : b = true → AGo Γ nt n0 (.qops all (o :: l) :: k) Q ((t, .d (.bool true)) :: env) H) (h2 : b = false → AGo Γ nt n0 (.qops all (o :: l) :: k) Q ((t, .d (.bool false)) :: env) H) : AGo Γ nt n0 (.qops all (o :: l) :: k) Q env H := by
  cases hc : b with
  | true => exact AGo.fixB true hb hc (h1 hc)
  | false => exact AGo.fixB false hb hc (h2 hc)
theorem AGo.sgT {all : Array Oper} {o : Oper} {l : List Oper} {t j : Nat} {want : Bool} {p : Prop} {inst : Decidable p} (hg : o.guard = some (j, want)) (hj : (all[j]?).bind (·.dst) = some t) (hb : env.get t = .d (.bool (decide p))) (hp : p)
    (h : AGo Γ nt n0 (.sops all (o :: l) :: k) Q ((t, .d (.bool true)) :: env) H) : AGo Γ nt n0 (.sops all (o :: l) :: k) Q env H := AGo.fixB true hb (decide_eq_true hp) h
theorem AGo.sgF {all : Array Oper} {o : Oper} {l : List Oper} {t j : Nat} {want : Bool} {p : Prop} {inst : Decidable p} (hg : o.guard = some (j, want)) (hj : (all[j]?).bind (·.dst) = some t) (hb : env.get t = .d (.bool (decide p))) (hp : ¬ p)
    (h : AGo Γ nt n0 (.sops all (o :: l) :: k) Q ((t, .d (.bool false)) :: env) H) : AGo Γ nt n0 (.sops all (o :: l) :: k) Q env H := AGo.fixB false hb (decide_eq_false hp) h
theorem AGo.sgS {all : Array Oper} {o : Oper} {l : List Oper} {t j : Nat} {want b : Bool} (hg : o.guard = some (j, want)) (hj : (all[j]?).bind (·.dst) = some t) (hb : env.get t = .d (.bool b))
    (h1 : b = true → AGo Γ nt n0 (.sops all (o :: l) :: k) Q ((t, .d (.bool true)) :: env) H) (h2 : b = false → AGo Γ nt n0 (.sops all (o :: l) :: k) Q ((t, .d (.bool false)) :: env) H) : AGo Γ nt n0 (.sops all (o :: l) :: k) Q env H := by
  cases hc : b with
  | true => exact AGo.fixB true hb hc (h1 hc)
  | false => exact AGo.fixB false hb hc (h2 hc)
theorem AGo.cBT {c : Operand} {x y : Code} {b : Bool} (hb : ev Γ env c = .d (.bool b)) (hp : b = true) (ht : AGo Γ nt n0 (.code x :: k) Q env H) : AGo Γ nt n0 (.code (.cond c x y) :: k) Q env H :=
  AGo.cond b hb (fun _ => ht) (fun h => by rw [hp] at h; cases h)
theorem AGo.cBF {c : Operand} {x y : Code} {b : Bool} (hb : ev Γ env c = .d (.bool b)) (hp : b = false) (ht : AGo Γ nt n0 (.code y :: k) Q env H) : AGo Γ nt n0 (.code (.cond c x y) :: k) Q env H :=
  AGo.cond b hb (fun h => by rw [hp] at h; cases h) (fun _ => ht)

theorem AGo.gD {all : Array Oper} {o : Oper} {l : List Oper} {t j : Nat} {want : Bool} {p : Prop} {inst : Decidable p} (hg : o.guard = some (j, want)) (hj : (all[j]?).bind (·.dst) = some t) (hb : env.get t = .d (.bool (decide p)))
    (h1 : p → AGo Γ nt n0 (.ops all (o :: l) :: k) Q ((t, .d (.bool true)) :: env) H) (h2 : ¬ p → AGo Γ nt n0 (.ops all (o :: l) :: k) Q ((t, .d (.bool false)) :: env) H) : AGo Γ nt n0 (.ops all (o :: l) :: k) Q env H :=
  AGo.gS hg hj hb (fun h => h1 (of_decide_eq_true h)) (fun h => h2 (of_decide_eq_false h))
theorem AGo.qgD {all : Array Oper} {o : Oper} {l : List Oper} {t j : Nat} {want : Bool} {p : Prop} {inst : Decidable p} (hg : o.guard = some (j, want)) (hj : (all[j]?).bind (·.dst) = some t) (hb : env.get t = .d (.bool (decide p)))
    (h1 : p → AGo Γ nt n0 (.qops all (o :: l) :: k) Q ((t, .d (.bool true)) :: env) H) (h2 : ¬ p → AGo Γ nt n0 (.qops all (o :: l) :: k) Q ((t, .d (.bool false)) :: env) H) : AGo Γ nt n0 (.qops all (o :: l) :: k) Q env H :=
  AGo.qgS hg hj hb (fun h => h1 (of_decide_eq_true h)) (fun h => h2 (of_decide_eq_false h))
theorem AGo.sgD {all : Array Oper} {o : Oper} {l : List Oper} {t j : Nat} {want : Bool} {p : Prop} {inst : Decidable p} (hg : o.guard = some (j, want)) (hj : (all[j]?).bind (·.dst) = some t) (hb : env.get t = .d (.bool (decide p)))
    (h1 : p → AGo Γ nt n0 (.sops all (o :: l) :: k) Q ((t, .d (.bool true)) :: env) H) (h2 : ¬ p → AGo Γ nt n0 (.sops all (o :: l) :: k) Q ((t, .d (.bool false)) :: env) H) : AGo Γ nt n0 (.sops all (o :: l) :: k) Q env H :=
  AGo.sgS hg hj hb (fun h => h1 (of_decide_eq_true h)) (fun h => h2 (of_decide_eq_false h))
theorem AGo.condD' {c : Operand} {x y : Code} {p : Prop} {inst : Decidable p} (hb : ev Γ env c = .d (.bool (decide p))) (ht : p → AGo Γ nt n0 (.code x :: k) Q env H) (hf : ¬ p → AGo Γ nt n0 (.code y :: k) Q env H) :
    AGo Γ nt n0 (.code (.cond c x y) :: k) Q env H := AGo.condD hb ht hf
/-- a call of a function that keeps nothing and turns nothing -/
theorem AGo.callP {all : Array Oper} {o : Oper} {l : List Oper} {t f : Nat} {args : List AV} {X : AV} (hR : ACalls Γ f args [] (fun r H => r = X ∧ H = [])) (hg : o.guard = none) (hd : o.dst = some t) (ht : Nat.ble (t + 1) nt = true)
    (hcall : calleeA Γ env o.op = some (f, args)) (hab : AV.bnds 0 args = true) (hb : X.bnd 0 = true) (h : AGo Γ nt n0 (.ops all l :: k) Q ((t, X) :: env) H) : AGo Γ nt n0 (.ops all (o :: l) :: k) Q env H := by
  refine AGo.call [] hR hg hd ht hcall (renL_bnd0 _ hab).symm (by simpa using hab) List.nodup_nil rfl rfl ?_
  rintro r Hc' ⟨rfl, rfl⟩ _
  exact ⟨r, H, (ren_bnd0 _ _ hb).symm, by simp [putH], h⟩

theorem AGo.qcallP {all : Array Oper} {o : Oper} {l : List Oper} {t f : Nat} {args : List AV} {X : AV} {v : Value} (hR : ACalls Γ f args [] (fun r H => r = X ∧ H = [])) (hg : o.guard = none) (hd : o.dst = some t) (ht : Nat.ble (t + 1) nt = true)
    (hcall : calleeA Γ env o.op = some (f, args)) (hab : AV.bnds 0 args = true) (hb : X.bnd 0 = true) (hv : X.val? = some v) (h : AGo Γ nt n0 (.qops all l :: k) Q ((t, X) :: env) H) : AGo Γ nt n0 (.qops all (o :: l) :: k) Q env H :=
  AGo.qcall X hR hg hd ht hcall hab (fun r' H' h => h.1) hv hb h

/-- a call of a function that works on some of the objects -/
theorem AGo.callH {all : Array Oper} {o : Oper} {l : List Oper} {t f : Nat} {args cargs : List AV} {X : AV} {Hc Y : List AObj} (ρ : List Nat) (hR : ACalls Γ f cargs Hc (fun r H => r = X ∧ H = Y)) (hg : o.guard = none) (hd : o.dst = some t) (ht : Nat.ble (t + 1) nt = true)
    (hcall : calleeA Γ env o.op = some (f, args)) (hargs : args = AV.renL ρ cargs) (hab : AV.bnds ρ.length cargs = true) (hn : ρ.Nodup) (hp : pickH ρ H = some (Hc.map (AObj.ren ρ))) (hb : objsBnd ρ.length Hc = true)
    (h : AGo Γ nt n0 (.ops all l :: k) Q ((t, AV.ren (names ρ H.length Y.length) X) :: env) (putH ρ (Y.map (AObj.ren (names ρ H.length Y.length))) H)) : AGo Γ nt n0 (.ops all (o :: l) :: k) Q env H := by
  refine AGo.call ρ hR hg hd ht hcall hargs hab hn hp hb ?_
  rintro r Hc' ⟨rfl, rfl⟩ _
  exact ⟨_, _, rfl, rfl, h⟩

/-! ### The row -/
def immOf (W : World) (b : Nat) : List Value := match W.heap[b]? with | some (.cells cs _ _) => cs.toList | _ => []
def Ghost.start (W : World) : Ghost := { base := W, imm0 := immOf W, own0 := fun _ => False, imm := immOf W, loc := fun _ => none, fl := fun _ _ => none }
theorem WRel.start {gl : List (Nat × List D)} (W : World) (hgl : ∀ g cs, (g, cs) ∈ gl → DRel (immOf W) (.pointer (some ⟨g, 0, none⟩)) (.iptr cs)) : WRel gl (Ghost.start W) [] W := by
  refine ⟨rfl, rfl, rfl, Nat.le_refl _, fun b _ _ => ⟨rfl, rfl⟩, fun b i hi => ?_, fun id o h => by simp at h, fun id o b h => by simp at h, fun id o id' o' b h => by simp at h, fun id _ => ⟨rfl, fun _ => rfl⟩, hgl⟩
  have hi' : i < (immOf W b).length := hi
  show W.cell? ⟨b, i, none⟩ = some (gv (immOf W b) i)
  cases hb : W.heap[b]? with
  | none => simp [immOf, hb] at hi'
  | some x =>
    cases x <;> simp only [immOf, hb] at hi' ⊢ <;> try (simp at hi'; done)
    rename_i cs e fr
    have : i < cs.size := by simpa using hi'
    simp [World.cell?, hb, gv, List.getD, this]

theorem ACalls.top {f : FuncId} {args : List D} (h : ACalls Γ f (args.map .d) [] (fun r H => r = .d (.bool true) ∧ H = [])) (W : World) (vs : Array Value) (hl : vs.size = args.length)
    (hA : ∀ (i : Nat) (c : D), args[i]? = some c → DRel (immOf W) (gv vs.toList i) c) (hgl : ∀ g cs, (g, cs) ∈ Γ.gl → DRel (immOf W) (.pointer (some ⟨g, 0, none⟩)) (.iptr cs)) :
    Calls Γ.P f vs W fun e w' => e = .returned (.bool true) ∧ Below W.heap.size W w' := by
  refine (h.2 (Ghost.start W) W vs (WRel.start W hgl) ⟨by simpa using hl, fun i c hc => ?_⟩).mono ?_
  · rw [List.getElem?_map] at hc
    cases hq : args[i]? with
    | none => simp [hq] at hc
    | some x => simp [hq] at hc; subst hc; exact .d _ _ (hA i x hq)
  · rintro e w' ⟨v, r, H', G', rfl, ⟨rfl, rfl⟩, _, hle, hv, hW'⟩
    refine ⟨by rw [hv.bool_inv], ?_⟩
    have b0 : G'.base = W := hle.base
    have o0 : ∀ b, ¬ G'.own0 b := fun b h => by rw [hle.own0] at h; exact h
    exact ⟨by rw [hW'.os, b0], by rw [hW'.tape, b0], by rw [hW'.output, b0], by have := hW'.size; rwa [b0] at this, fun b hb => by have := (hW'.old b (by rw [b0]; exact hb) (o0 b)).1; rwa [b0] at this⟩
end
end Go.Proofs.YtammpekpmjboiaaDoor.Av
