/- Equality of aggregates of plain cells. Regions that draw their order: a step that comes up among others is passed, or reads. Regions that draw their order: once a step has come up that writes, the rest is as in any region. Regions that draw their order: four steps at once; a test that is known. -/
import Derived.Laws.StructEq
import Derived.Test.YtbfojhfiemcnpaaGreatDoorPn4
set_option linter.unusedVariables false
set_option linter.unusedSimpArgs false
set_option maxRecDepth 100000
set_option maxHeartbeats 64000000
namespace Go.Proofs.YtbfojhfiemcnpaaGreatDoor.Av
section
open Go Go.RowKit
section
variable {Γ : Ctx} {nt n0 : Nat} {k : List It} {Q : Post} {env : Env} {H : List aF}
end
end
section
open Go Go.RowKit
section
variable {Γ : Ctx} {nt n0 : Nat} {k : List It} {Q : Post} {env : Env} {H : List aF}
theorem cz.quiet {all : Array Oper} {ix : List Nat} {m f : Nat} {done : List Nat} {i : Nat} {o : Oper} {t : Nat} {v : AV} (ho : all[i]? = some o) (hx : dJ Γ nt env H o v) (hw : bI all env o = some true) (hd : o.dst = some t) (ht : Nat.ble (t + 1) nt = true)
  (him : Nat.ble (i + 1) m = true) (h : aL Γ nt n0 all ix m f (i :: done) k Q ((t, v) :: env) H) : cz Γ nt n0 all ix m f i done k Q env H :=
 fun hmem G0 G a w w0 GK h0 hl hF hdf hW hS hcl => by
  have hcl' := hcl.set (i := i) hmem
  obtain ⟨u, hu, hrun⟩ := hx G a w hW hF
  refine YieldsIf.wpOp (S := fun w' => w' = w) ho (.inl ⟨aW hF hw, fun w' hw' => by subst hw'; exact hrun _ (Below.refl _ _)⟩) rfl ⟨fun hy _ => (hS hy).2, ?_⟩
  exact h G0 G _ w w0 GK h0 hl (by rw [hd]; exact hF.put ht hu) (aV a _ u hdf) hW (fun hy => hS (hy.iW (Nat.le_of_ble_eq_true him))) hcl'
theorem cz.pass {all : Array Oper} {ix : List Nat} {m f : Nat} {done : List Nat} {i : Nat} {o : Oper} {t : Nat} (ho : all[i]? = some o) (hw : bI all env o = some false) (hd : o.dst = some t) (ht : Nat.ble (t + 1) nt = true)
  (him : Nat.ble (i + 1) m = true) (h : aL Γ nt n0 all ix m f (i :: done) k Q ((t, .bG []) :: env) H) : cz Γ nt n0 all ix m f i done k Q env H :=
 fun hmem G0 G a w w0 GK h0 hl hF hdf hW hS hcl => by
  have hcl' := hcl.set (i := i) hmem
  refine YieldsIf.wpOp (S := fun w' => w' = w) ho (.inr ⟨aW hF hw, rfl⟩) rfl ⟨fun hy _ => (hS hy).2, ?_⟩
  exact h G0 G _ w w0 GK h0 hl (by rw [hd]; exact hF.put ht gy) (aV a _ _ hdf) hW (fun hy => hS (hy.iW (Nat.le_of_ble_eq_true him))) hcl'
end
end
section
open Go Go.RowKit
section
variable {Γ : Ctx} {nt n0 : Nat} {k : List It} {Q : Post} {env : Env} {H : List aF}
theorem getD_set_true {l : Array Bool} {i j : Nat} (h : l.getD j false = true) : (l.setIfInBounds i true).getD j false = true := by
 rw [Array.getD_eq_getD_getElem?] at h ⊢
 rw [Array.getElem?_setIfInBounds]
 by_cases hij : i = j
 ·subst hij
  rw [if_pos rfl]
  by_cases hl : i < l.size
  ·rw [if_pos hl]; rfl
  ·rw [Array.getElem?_eq_none (by omega)] at h; cases h
 ·rw [if_neg hij]; exact h
theorem pq {P : Program} {ops : Array Oper} {Q' : Exit → Act → World → Prop} {S : World → Prop} {m j : Nat} (hj : m ≤ j) : ∀ (f : Nat) (listed : Array Bool) (a : Act) (w : World), listed.getD j false = true → wpAny P .any ops Q' f listed a w → cK P ops Q' S m f listed a w
 | 0, _, _, _, _, h => h
 | f + 1, listed, a, w, hl, h => ⟨h.1, fun i hi => wpOp_mono (fun a' w' h' => ⟨fun hy _ => (by have := hy j hj; rw [hl] at this; cases this), pq hj f _ a' w' (getD_set_true hl) h'⟩) (h.2 i hi)⟩
theorem qc (n : Nat) : ∀ (done : List Nat) (j : Nat), j ∈ done → j < n → (mkL n done).getD j false = true
 | [], j, h, _ => by simp at h
 | i :: r, j, h, hn => by
  rw [mkL]
  rcases List.mem_cons.1 h with rfl | h
  ·exact eF (by rw [eZ]; exact hn)
  ·exact getD_set_true (qc n r j h hn)
theorem aL.late {all : Array Oper} {ix : List Nat} {m f : Nat} {done : List Nat} (hl : (done.any fun j => Nat.ble m j && Nat.ble (j + 1) all.size) = true) (h : aG Γ nt n0 all ix f done k Q env H) : aL Γ nt n0 all ix m f done k Q env H :=
 fun G0 G a w w0 GK h0 hln hF hdf hW hS hcl => by
  obtain ⟨j, hj, hb⟩ := List.any_eq_true.1 hl
  rw [Bool.and_eq_true] at hb
  exact pq (Nat.le_of_ble_eq_true hb.1) f _ a w (qc _ _ _ hj (Nat.le_of_ble_eq_true hb.2)) (h G0 G a w h0 hln hF hdf hW hcl)
theorem pg {P : Program} {ops : Array Oper} {Q' : Exit → Act → World → Prop} {S : World → Prop} {m : Nat} : ∀ (f : Nat) (listed : Array Bool) (a : Act) (w : World), (∀ j, j < m → listed.getD j false = true) → wpAny P .any ops Q' f listed a w → cK P ops Q' S m f listed a w
 | 0, _, _, _, _, h => h
 | f + 1, listed, a, w, hl, h => ⟨h.1, fun i hi => wpOp_mono (fun a' w' h' => ⟨fun _ him => (by
   have h1 := hl i him
   have h2 := (mem_ready.1 hi).1
   rw [Array.getD_eq_getD_getElem?] at h1 h2
   cases hx : listed[i]? with
   | none => rw [hx] at h1; cases h1
   | some b => rw [hx] at h1 h2; simp only [Option.getD_some] at h1 h2; rw [h1] at h2; cases h2), pg f _ a' w' (fun j hj => getD_set_true (hl j hj)) h'⟩) (h.2 i hi)⟩
theorem aL.over {all : Array Oper} {ix : List Nat} {m f : Nat} {done : List Nat} (hl : ((List.range m).all fun j => done.contains j && Nat.ble (j + 1) all.size) = true) (h : aG Γ nt n0 all ix f done k Q env H) : aL Γ nt n0 all ix m f done k Q env H :=
 fun G0 G a w w0 GK h0 hln hF hdf hW hS hcl => by
  refine pg f _ a w (fun j hj => ?_) (h G0 G a w h0 hln hF hdf hW hcl)
  have := List.all_eq_true.1 hl j (List.mem_range.2 hj)
  rw [Bool.and_eq_true] at this
  exact qc _ _ _ (by simpa using this.1) (Nat.le_of_ble_eq_true this.2)
end
end
section
open Go Go.RowKit
section
variable {Γ : Ctx} {nt n0 : Nat} {k : List It} {Q : Post} {env : Env} {H : List aF}
theorem F4 {G : aD} {nt' : Nat} {tmps : Array Value} {t : Nat} {c : Prop} {inst : Decidable c} (hF : bE G nt' tmps env) (hv : env.get t = .d (.bool (decide c))) (hc : c) : bE G nt' tmps ((t, .d (.bool true)) :: env) := by
 have e : decide c = true := decide_eq_true hc
 rw [e] at hv
 refine ⟨hF.size, fun i => ?_⟩
 have hr := hF.rel i
 rw [Env.get]
 by_cases h : t = i
 ·subst h
  rw [show Nat.beq t t = true from Nat.beq_refl t, cond_true]
  rwa [hv] at hr
 ·have hb : Nat.beq t i = false := by
   cases hx : Nat.beq t i with
   | false => rfl
   | true => exact absurd (Nat.eq_of_beq_eq_true hx) h
  rw [hb, cond_false]
  exact hr
theorem aG.lit (t : Nat) {all : Array Oper} {ix : List Nat} {f : Nat} {done : List Nat} {c : Prop} {inst : Decidable c} (hv : env.get t = .d (.bool (decide c))) (hc : c) (h : aG Γ nt n0 all ix f done k Q ((t, .d (.bool true)) :: env) H) : aG Γ nt n0 all ix f done k Q env H :=
 fun G0 G a w h0 hl hF hdf hW hcl => h G0 G a w h0 hl (F4 hF hv hc) hdf hW hcl
theorem aa.uk (idc i : Nat) {id sz : Nat} {es : List D} {cs : List AV} (hc : hget H idc = some (.cells cs)) (hi : cs[i]? = some (.own sz es id))
  (h : aa Γ nt n0 k Q env (H.set idc (.cells (cs.set i (.d (.sl sz es)))))) : aa Γ nt n0 k Q env H :=
 fun G0 G a w h0 hl hF hdf hW => by
  rw [bN] at hc
  obtain ⟨b, cur, t, a1, a2, a3, a4, a5, a6⟩ := hW.obj idc _ hc
  have g4 := hW.turn (id := idc) (cs := cs) (cs' := cs.set i (.d (.sl sz es))) hc (by simp) (fun c hc' => by
   rcases List.mem_or_eq_of_mem_set hc' with h1 | h1
   ·exact a4 c h1
   ·subst h1; rfl) (fun j c c' h1 h2 v hv => by
   by_cases hij : i = j
   ·subst hij
    rw [List.getElem?_set_self (av h1)] at h2
    cases h2
    rw [hi] at h1; cases h1
    exact (bK.own _ _ _) G v hv
   ·rw [List.getElem?_set_ne hij, h1] at h2
    cases h2; exact hv)
  exact h G0 G a w h0 (by simp; omega) hF hdf g4
end
end
end Go.Proofs.YtbfojhfiemcnpaaGreatDoor.Av
