/- Equality of aggregates of plain cells. Regions that draw their order: a step that comes up among others is passed, or reads. Regions that draw their order: once a step has come up that writes, the rest is as in any region. Regions that draw their order: four steps at once; a test that is known. -/
import Derived.Laws.StructEq
import Derived.Test.YtbfojhfiemcnpaaGreatDoorPn4
set_option linter.unusedVariables false
set_option linter.unusedSimpArgs false
set_option maxRecDepth 100000
set_option maxHeartbeats 64000000
namespace Go.Proofs.YtbfojhfiemcnpaaGreatDoor.Av
section
open Go Go.RowKit
section
variable {Γ : Ctx} {nt n0 : Nat} {k : List It} {Q : Post} {env : Env} {H : List aH}
end
end
section
open Go Go.RowKit
section
variable {Γ : Ctx} {nt n0 : Nat} {k : List It} {Q : Post} {env : Env} {H : List aH}
theorem cQ.quiet {all : Array Oper} {ix : List Nat} {m f : Nat} {done : List Nat} {i : Nat} {o : Oper} {t : Nat} {v : AV} (ho : all[i]? = some o) (hx : eU Γ nt env H o v) (hw : bB all env o = some true) (hd : o.dst = some t) (ht : Nat.ble (t + 1) nt = true)
  (him : Nat.ble (i + 1) m = true) (h : aT Γ nt n0 all ix m f (i :: done) k Q ((t, v) :: env) H) : cQ Γ nt n0 all ix m f i done k Q env H :=
 fun hmem G0 G a w w0 GK h0 hl hF hdf hW hS hcl => by
  have hcl' := hcl.set (i := i) hmem
  obtain ⟨u, hu, hrun⟩ := hx G a w hW hF
  refine YieldsIf.wpOp (S := fun w' => w' = w) ho (.inl ⟨bA hF hw, fun w' hw' => by subst hw'; exact hrun _ (Below.refl _ _)⟩) rfl ⟨fun hy _ => (hS hy).2, ?_⟩
  exact h G0 G _ w w0 GK h0 hl (by rw [hd]; exact hF.put ht hu) (bC a _ u hdf) hW (fun hy => hS (hy.kx (Nat.le_of_ble_eq_true him))) hcl'
theorem cQ.pass {all : Array Oper} {ix : List Nat} {m f : Nat} {done : List Nat} {i : Nat} {o : Oper} {t : Nat} (ho : all[i]? = some o) (hw : bB all env o = some false) (hd : o.dst = some t) (ht : Nat.ble (t + 1) nt = true)
  (him : Nat.ble (i + 1) m = true) (h : aT Γ nt n0 all ix m f (i :: done) k Q ((t, .bW []) :: env) H) : cQ Γ nt n0 all ix m f i done k Q env H :=
 fun hmem G0 G a w w0 GK h0 hl hF hdf hW hS hcl => by
  have hcl' := hcl.set (i := i) hmem
  refine YieldsIf.wpOp (S := fun w' => w' = w) ho (.inr ⟨bA hF hw, rfl⟩) rfl ⟨fun hy _ => (hS hy).2, ?_⟩
  exact h G0 G _ w w0 GK h0 hl (by rw [hd]; exact hF.put ht iw) (bC a _ _ hdf) hW (fun hy => hS (hy.kx (Nat.le_of_ble_eq_true him))) hcl'
end
end
section
open Go Go.RowKit
section
variable {Γ : Ctx} {nt n0 : Nat} {k : List It} {Q : Post} {env : Env} {H : List aH}
theorem getD_set_true {l : Array Bool} {i j : Nat} (h : l.getD j false = true) : (l.setIfInBounds i true).getD j false = true := by
 rw [Array.getD_eq_getD_getElem?] at h ⊢
 rw [Array.getElem?_setIfInBounds]
 by_cases hij : i = j
 ·subst hij
  rw [if_pos rfl]
  by_cases hl : i < l.size
  ·rw [if_pos hl]; rfl
  ·rw [Array.getElem?_eq_none (by omega)] at h; cases h
 ·rw [if_neg hij]; exact h
theorem rM {P : Program} {ops : Array Oper} {Q' : Exit → Act → World → Prop} {S : World → Prop} {m j : Nat} (hj : m ≤ j) : ∀ (f : Nat) (listed : Array Bool) (a : Act) (w : World), listed.getD j false = true → wpAny P .any ops Q' f listed a w → dN P ops Q' S m f listed a w
 | 0, _, _, _, _, h => h
 | f + 1, listed, a, w, hl, h => ⟨h.1, fun i hi => wpOp_mono (fun a' w' h' => ⟨fun hy _ => (by have := hy j hj; rw [hl] at this; cases this), rM hj f _ a' w' (getD_set_true hl) h'⟩) (h.2 i hi)⟩
theorem sJ (n : Nat) : ∀ (done : List Nat) (j : Nat), j ∈ done → j < n → (cz n done).getD j false = true
 | [], j, h, _ => by simp at h
 | i :: r, j, h, hn => by
  rw [cz]
  rcases List.mem_cons.1 h with rfl | h
  ·exact gH (by rw [ia]; exact hn)
  ·exact getD_set_true (sJ n r j h hn)
theorem aT.late {all : Array Oper} {ix : List Nat} {m f : Nat} {done : List Nat} (hl : (done.any fun j => Nat.ble m j && Nat.ble (j + 1) all.size) = true) (h : aM Γ nt n0 all ix f done k Q env H) : aT Γ nt n0 all ix m f done k Q env H :=
 fun G0 G a w w0 GK h0 hln hF hdf hW hS hcl => by
  obtain ⟨j, hj, hb⟩ := List.any_eq_true.1 hl
  rw [Bool.and_eq_true] at hb
  exact rM (Nat.le_of_ble_eq_true hb.1) f _ a w (sJ _ _ _ hj (Nat.le_of_ble_eq_true hb.2)) (h G0 G a w h0 hln hF hdf hW hcl)
theorem rL {P : Program} {ops : Array Oper} {Q' : Exit → Act → World → Prop} {S : World → Prop} {m : Nat} : ∀ (f : Nat) (listed : Array Bool) (a : Act) (w : World), (∀ j, j < m → listed.getD j false = true) → wpAny P .any ops Q' f listed a w → dN P ops Q' S m f listed a w
 | 0, _, _, _, _, h => h
 | f + 1, listed, a, w, hl, h => ⟨h.1, fun i hi => wpOp_mono (fun a' w' h' => ⟨fun _ him => (by
   have h1 := hl i him
   have h2 := (mem_ready.1 hi).1
   rw [Array.getD_eq_getD_getElem?] at h1 h2
   cases hx : listed[i]? with
   | none => rw [hx] at h1; cases h1
   | some b => rw [hx] at h1 h2; simp only [Option.getD_some] at h1 h2; rw [h1] at h2; cases h2), rL f _ a' w' (fun j hj => getD_set_true (hl j hj)) h'⟩) (h.2 i hi)⟩
theorem aT.over {all : Array Oper} {ix : List Nat} {m f : Nat} {done : List Nat} (hl : ((List.range m).all fun j => done.contains j && Nat.ble (j + 1) all.size) = true) (h : aM Γ nt n0 all ix f done k Q env H) : aT Γ nt n0 all ix m f done k Q env H :=
 fun G0 G a w w0 GK h0 hln hF hdf hW hS hcl => by
  refine rL f _ a w (fun j hj => ?_) (h G0 G a w h0 hln hF hdf hW hcl)
  have := List.all_eq_true.1 hl j (List.mem_range.2 hj)
  rw [Bool.and_eq_true] at this
  exact sJ _ _ _ (by simpa using this.1) (Nat.le_of_ble_eq_true this.2)
end
end
section
open Go Go.RowKit
section
variable {Γ : Ctx} {nt n0 : Nat} {k : List It} {Q : Post} {env : Env} {H : List aH}
theorem I3 {G : aJ} {nt' : Nat} {tmps : Array Value} {t : Nat} {c : Prop} {inst : Decidable c} (hF : cf G nt' tmps env) (hv : env.get t = .d (.bool (decide c))) (hc : c) : cf G nt' tmps ((t, .d (.bool true)) :: env) := by
 have e : decide c = true := decide_eq_true hc
 rw [e] at hv
 refine ⟨hF.size, fun i => ?_⟩
 have hr := hF.rel i
 rw [Env.get]
 by_cases h : t = i
 ·subst h
  rw [show Nat.beq t t = true from Nat.beq_refl t, cond_true]
  rwa [hv] at hr
 ·have hb : Nat.beq t i = false := by
   cases hx : Nat.beq t i with
   | false => rfl
   | true => exact absurd (Nat.eq_of_beq_eq_true hx) h
  rw [hb, cond_false]
  exact hr
theorem aM.lit (t : Nat) {all : Array Oper} {ix : List Nat} {f : Nat} {done : List Nat} {c : Prop} {inst : Decidable c} (hv : env.get t = .d (.bool (decide c))) (hc : c) (h : aM Γ nt n0 all ix f done k Q ((t, .d (.bool true)) :: env) H) : aM Γ nt n0 all ix f done k Q env H :=
 fun G0 G a w h0 hl hF hdf hW hcl => h G0 G a w h0 hl (I3 hF hv hc) hdf hW hcl
theorem aa.wF (idc i : Nat) {id sz : Nat} {es : List D} {cs : List AV} (hc : hget H idc = some (.cells cs)) (hi : cs[i]? = some (.own sz es id))
  (h : aa Γ nt n0 k Q env (H.set idc (.cells (cs.set i (.d (.sl sz es)))))) : aa Γ nt n0 k Q env H :=
 fun G0 G a w h0 hl hF hdf hW => by
  rw [cG] at hc
  obtain ⟨b, cur, t, a1, a2, a3, a4, a5, a6⟩ := hW.obj idc _ hc
  have g4 := hW.turn (id := idc) (cs := cs) (cs' := cs.set i (.d (.sl sz es))) hc (by simp) (fun c hc' => by
   rcases List.mem_or_eq_of_mem_set hc' with h1 | h1
   ·exact a4 c h1
   ·subst h1; rfl) (fun j c c' h1 h2 v hv => by
   by_cases hij : i = j
   ·subst hij
    rw [List.getElem?_set_self (aF h1)] at h2
    cases h2
    rw [hi] at h1; cases h1
    exact (cn.own _ _ _) G v hv
   ·rw [List.getElem?_set_ne hij, h1] at h2
    cases h2; exact hv)
  exact h G0 G a w h0 (by simp; omega) hF hdf g4
theorem aa.E9 (idc : Nat) (i : Nat) {id sz : Nat} {es : List D} {cs : List AV} (h : aa Γ nt n0 k Q env (H.set idc (.cells (cs.set i (.d (.sl sz es)))))) (hc : hget H idc = some (.cells cs) := by rfl) (hi : cs[i]? = some (.own sz es id) := by rfl) : aa Γ nt n0 k Q env H := aa.wF idc i hc hi h
end
end
end Go.Proofs.YtbfojhfiemcnpaaGreatDoor.Av
