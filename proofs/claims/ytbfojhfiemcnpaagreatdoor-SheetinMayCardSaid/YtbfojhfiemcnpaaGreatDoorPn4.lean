/- Labels that nothing jumps to. Regions that draw their order: an empty slice written out among the steps that keep what there was. Regions that draw their order: two or three steps that may come up in any order behind the reads. Regions that draw their order: what nobody writes is read ahead of all; then all orders. Arrays of whole numbers: unlike. -/
import Derived.Test.YtbfojhfiemcnpaaGreatDoorPn3
import Derived.Scope
set_option linter.unusedVariables false
set_option linter.unusedSimpArgs false
set_option maxRecDepth 100000
set_option maxHeartbeats 64000000
namespace Go.Proofs.YtbfojhfiemcnpaaGreatDoor.Av
section
open Go Go.RowKit
theorem ik {P : Program} {Q' : Exit → Act → World → Prop} {l : Nat} : ∀ (k : List It) (a : Act) (w : World), aI P Q' k (.goto l) a w = Q' (.goto l) a w
 | [], _, _ => rfl
 | .blk j :: k, a, w => by simp only [aI]; exact ik k a w
 | .code _ :: k, a, w => by simp only [aI]; exact ik k a w
 | .ops _ _ :: k, a, w => by simp only [aI]; exact ik k a w
 | .qops _ _ :: k, a, w => by simp only [aI]; exact ik k a w
 | .sops _ _ :: k, a, w => by simp only [aI]; exact ik k a w
 | .lp _ :: k, a, w => by simp only [aI]; exact ik k a w
section
variable {Γ : Ctx} {nt n0 : Nat} {k : List It} {Q : Post} {env : Env} {H : List aF}
theorem aa.label {l : Nat} (h : aa Γ nt n0 k Q env H) : aa Γ nt n0 (.code (.label l) :: k) Q env H :=
 fun G0 G a w h0 hl hF hdf hW => by
  simp only [aI]
  exact wp_label (h G0 G a w h0 hl hF hdf hW)
theorem aa.scope {c : Code} (hng : ∀ l env H, ¬ Q (.goto l) env H) (h : aa Γ nt n0 (.code c :: k) Q env H) : aa Γ nt n0 (.code (.scope c) :: k) Q env H :=
 fun G0 G a w h0 hl hF hdf hW => by
  have hn := h G0 G a w h0 hl hF hdf hW
  simp only [aI] at hn ⊢
  refine wp_scope_straight (wp_mono hn fun e a' w' hq => ?_)
  cases e with
  | goto l =>
   rw [ik] at hq
   obtain ⟨_, env', H', _, _, _, _, _, hq⟩ := hq
   exact (hng l env' H' hq).elim
  | _ => exact hq
theorem aa.GD {fn : Func} {R : AV → List aF → Prop} {r : AV} {I : Nat → Env → List aF → Prop} {n : Nat} {K : List It} (r' : AV) (hr : fT Γ env H fn.results.toList = some r) (hw : bK r r') (hl : Nat.ble n0 H.length = true) (hb : r'.bnd n0 = true)
  (ho : dI n0 (H.take n0) = true) (h : R r' (H.take n0)) : aa Γ nt n0 (.code .ret :: k) (gW Γ nt n0 I n K (uZ Γ fn n0 R)) env H := aa.ret (Q := gW Γ nt n0 I n K (uZ Γ fn n0 R)) (Fin.mk' hr hw hl hb ho h)
end
end
section
open Go Go.RowKit
section
variable {Γ : Ctx} {nt n0 : Nat} {k : List It} {Q : Post} {env : Env} {H : List aF}
theorem aL.Eo {all : Array Oper} {ix : List Nat} {m f : Nat} {done : List Nat} {i : Nat} {o : Oper} {t T e : Nat} {ti te : TI} (hL : gN all.toList ix done = [(i, o)]) (hop : o.op = .buildSlice T 0 #[]) (ho : all[i]? = some o) (hw : bI all env o = some true) (hd : o.dst = some t) (ht : Nat.ble (t + 1) nt = true)
  (hT : aM Γ.T T = some ti) (hsh : ti.sh = .slice e) (he : aM Γ.T e = some te)
  (hr : decide (Region.ready .any all (mkL all.size done) = [i]) = true) (him : Nat.ble (i + 1) m = true)
  (h : aL Γ nt n0 all ix m f (i :: done) k Q ((t, .ms H.length 0) :: env) (H ++ [.arr e te.size []])) : aL Γ nt n0 all ix m (f + 1) done k Q env H :=
 fun G0 G a w w0 GK h0 hl hF hdf hW hS hcl => by
  have hr' := of_decide_eq_true hr
  have hcl' := hcl.set (i := i) (by rw [hr']; simp)
  obtain ⟨ff⟩ := Γ.ty hT
  obtain ⟨fe⟩ := Γ.ty he
  have hrr : bZ G.imm te.size [] ([] : List Value) := .nil _ _
  have hlit := World.ownsRow_lit (base := 0) (e := e) (size := te.size) w #[] 0 (Nat.zero_le _) (by simp only [maxLen]; omega) (by simp)
  obtain ⟨g1, g2⟩ := hW.l5 (w' := w.alloc (.cells #[] e)) (e := e) (sz := te.size) (n := 0) (v := .slice none 0 0) (v' := .slice (some ⟨w.heap.size, 0, none⟩) 0 0) (es' := []) (ys := []) H.length (.inr ⟨rfl, rfl, rfl⟩) (Nat.zero_le _) (fun h _ => by omega) rfl rfl rfl (by simp)
   (fun b hb => .inr (by simp [Value.ownBlock] at hb; omega)) (fun b hb _ => heap_alloc_old w _ hb)
   hlit hrr (H ++ [.arr e te.size []]) (by simp) (by simp) (fun i hi => by
    rcases Nat.lt_or_ge i H.length with h1 | h1
    ·simp [List.getElem?_append_left h1]
    ·rw [List.getElem?_append_right h1, List.getElem?_eq_none h1]
     have : i - H.length = (i - H.length - 1) + 1 := by omega
     rw [this]; simp)
  have hk2 : Yet m (mkL all.size done) → w0.heap.size ≤ (w.alloc (.cells #[] e)).heap.size ∧ KB GK [] w0 (w.alloc (.cells #[] e)) := fun hy => by
   obtain ⟨s1, s2⟩ := hS hy
   exact ⟨(by show w0.heap.size ≤ (w.heap.push _).size; rw [Array.size_push]; omega), fun b hb hid => (heap_alloc_old w _ (by omega)).trans (s2 b hb hid)⟩
  have hn := h G0 _ (a.put (some t) (.slice (some ⟨w.heap.size, 0, none⟩) 0 0)) _ w0 GK (h0.trans (g1.weaken hl)) (by simp; omega) ((hF.up g1 hW.lim).put ht (.ms _ _ _ (by simp [aD.mL]) rfl)) (by simp [Act.put, hdf]) g2 (fun hy => hk2 (hy.iW (Nat.le_of_ble_eq_true him))) hcl'
  have hrun : (execOp a.eval o).run Γ.P w = .ok (.value (.slice (some ⟨w.heap.size, 0, none⟩) 0 0)) (w.alloc (.cells #[] e)) := by
   unfold execOp
   have e0 : Array.range 0 = #[] := Array.eq_empty_of_size_eq_zero (by simp)
   simp [hop, Instr.buildSlice, run_underlying (bC ff hsh), fe.sizeOf, Instr.fill, newRow, e0]
  refine ⟨fun h1 => (by rw [hr'] at h1; cases h1), fun j hj => ?_⟩
  have hji : j = i := by rw [hr'] at hj; simpa using hj
  subst hji
  unfold wpOp
  simp only [ho]
  rw [if_pos (aW hF hw)]
  refine .inl ?_
  unfold Oper.wp
  rw [hrun]
  simp only [Oper.upon, hd]
  exact ⟨fun hy _ => (hk2 hy).2, hn⟩
end
end
section
open Go Go.RowKit
section
variable {Γ : Ctx} {nt n0 : Nat} {k : List It} {Q : Post} {env : Env} {H : List aF}
def cz (Γ : Ctx) (nt n0 : Nat) (all : Array Oper) (ix : List Nat) (m f i : Nat) (done : List Nat) (k : List It) (Q : Post) (env : Env) (H : List aF) : Prop :=
 i ∈ Region.ready .any all (mkL all.size done) → ∀ G0 G a w (w0 : World) (GK : aD), GLe n0 G0 G → n0 ≤ H.length → bE G nt a.tmps env → a.defers = [] → aQ Γ.gl G H w → (Yet m (mkL all.size done) → w0.heap.size ≤ w.heap.size ∧ KB GK [] w0 w) → Closed all (mkL all.size done) →
  wpOp Γ.P all (aI Γ.P (Conc Γ nt n0 G0 Q) k) i (fun a' w' => (Yet m (mkL all.size done) → i < m → KB GK [] w0 w') ∧ cK Γ.P all (aI Γ.P (Conc Γ nt n0 G0 Q) k) (fun w' => KB GK [] w0 w') m f ((mkL all.size done).setIfInBounds i true) a' w') a w
theorem aL.kP {all : Array Oper} {ix : List Nat} {m f : Nat} {done : List Nat} {i j : Nat} {o p : Oper} (hL : gN all.toList ix done = [(i, o), (j, p)]) (hr : decide (Region.ready .any all (mkL all.size done) = [i, j]) = true)
  (h1 : cz Γ nt n0 all ix m f i done k Q env H) (h2 : cz Γ nt n0 all ix m f j done k Q env H) : aL Γ nt n0 all ix m (f + 1) done k Q env H :=
 fun G0 G a w w0 GK h0 hl hF hdf hW hS hcl => by
  have hr' := of_decide_eq_true hr
  refine ⟨fun h => (by rw [hr'] at h; cases h), fun x hx => ?_⟩
  have hx' := hx
  rw [hr'] at hx'
  simp only [List.mem_cons, List.not_mem_nil, or_false] at hx'
  rcases hx' with rfl | rfl
  ·exact h1 hx G0 G a w w0 GK h0 hl hF hdf hW hS hcl
  ·exact h2 hx G0 G a w w0 GK h0 hl hF hdf hW hS hcl
theorem cz.call {all : Array Oper} {ix : List Nat} {m f fn : Nat} {done : List Nat} {i : Nat} {o : Oper} {t : Nat} {args0 args : List AV} {X r' : AV} {Y H' : List aF} (hR : ACalls Γ fn args [] (fun r H => r = X ∧ H = Y)) (ho : all[i]? = some o) (hcall : eC Γ env o.op = some (fn, args0)) (hwk : args0.map fgt = args) (hw : bI all env o = some true) (hd : o.dst = some t) (ht : Nat.ble (t + 1) nt = true)
  (hab : AV.cg 0 args = true) (him : Nat.ble (i + 1) m = true) (hrr : r' = AV.ren (names [] H.length Y.length) X) (hH : H' = eU [] (Y.map (aF.ren (names [] H.length Y.length))) H)
  (h : aL Γ nt n0 all ix m f (i :: done) k Q ((t, r') :: env) H') : cz Γ nt n0 all ix m f i done k Q env H :=
 fun hmem G0 G a w w0 GK h0 hl hF hdf hW hS hcl => by
  have hcl' := hcl.set (i := i) hmem
  obtain ⟨vs, hA0, hrun⟩ := iB hW hF hcall hR.1
  have hA : gJ G vs args := by
   rw [← hwk]
   refine ⟨by simpa using hA0.1, fun i c hc => ?_⟩
   rw [List.getElem?_map] at hc
   cases hq : args0[i]? with
   | none => simp [hq] at hc
   | some c0 =>
    simp [hq] at hc; subst hc
    exact nK c0 _ _ (hA0.2 i c0 hq)
  have hp : jT [] H = some (([] : List aF).map (aF.ren [])) := rfl
  have hWc := hW.callee (ρ := []) (Hc := []) (by simp) hp rfl
  have hAc : gJ (G.callee w H []) vs args := by
   refine ⟨hA.1, fun i c hc => ?_⟩
   have e : args = AV.gK [] args := (jS _ hab).symm
   have hc2 : (AV.gK [] args)[i]? = some (AV.ren [] c) := by rw [bY, List.getElem?_map, hc]; rfl
   rw [e] at hA
   exact aK.mr (G := G) (G' := G.callee w H []) (bV.refl G.imm) (fun i id h => dP h) (fun i id n h => eG h) c _ (cG hab hc) (hA.2 i _ hc2)
  have hcalls := hR.2 _ w vs hWc hAc
  unfold wpOp
  simp only [ho]
  rw [if_pos (aW hF hw)]
  refine .inl ?_
  unfold Oper.wp
  rw [hrun w]
  refine hcalls.mono ?_
  rintro e w' ⟨v, r, Hc', Gc', rfl, ⟨rfl, rfl⟩, hlen', hle, hv, hWc'⟩
  obtain ⟨b1, b2, b3, b4, b5⟩ := hW.back (by simp) (by simp) rfl hlen' hle hWc'
  have hbase : Gc'.base = w := hle.base
  have hkb' : ∀ b, b < w.heap.size → w'.heap[b]? = w.heap[b]? := fun b hb => by
   have := (hWc'.old b (by rw [hbase]; exact hb) (fun hn => by
    rw [hle.own0] at hn
    obtain ⟨id, o', hm, _⟩ := hn
    simp at hm)).1
   rwa [hbase] at this
  have hsz' : w.heap.size ≤ w'.heap.size := by have := hWc'.size; rwa [hbase] at this
  have hk2 : Yet m (mkL all.size done) → w0.heap.size ≤ w'.heap.size ∧ KB GK [] w0 w' := fun hy => by
   obtain ⟨s1, s2⟩ := hS hy
   exact ⟨by omega, fun b hb hid => (hkb' b (by omega)).trans (s2 b hb hid)⟩
  have hF' : bE (G.back Gc' (names [] H.length Hc'.length)) nt (a.put (some t) v).tmps ((t, r') :: env) := by
   rw [hrr]
   exact (hF.up b1 hW.lim).put ht (hv.ren b3 b4 b5)
  rw [← hH] at b2
  have hlH : H.length ≤ H'.length := by
   rw [hH, dX (by simp)]; simp
  simp only [hd]
  exact ⟨fun hy _ => (hk2 hy).2, h G0 _ (a.put (some t) v) w' w0 GK (h0.trans (b1.weaken hl)) (by omega) hF' (by simp [Act.put, hdf]) b2 (fun hy => hk2 (hy.iW (Nat.le_of_ble_eq_true him))) hcl'⟩
theorem cz.step {all : Array Oper} {ix : List Nat} {m f : Nat} {done : List Nat} {i : Nat} {o : Oper} (ho : all[i]? = some o) (him : Nat.ble m i = true)
  (h : aa Γ nt n0 [.ops all [o]] (uX Γ nt n0 all ix m f (i :: done) k Q) env H) : cz Γ nt n0 all ix m f i done k Q env H :=
 fun hmem G0 G a w w0 GK h0 hl hF hdf hW hS hcl => by
  have hmi := Nat.le_of_ble_eq_true him
  have hcl' := hcl.set (i := i) hmem
  have his : i < all.size := (Array.getElem?_eq_some_iff.1 ho).1
  have hny : ¬ Yet m (mkL all.size (i :: done)) := fun hy => by
   have := hy i hmi
   rw [mkL, eF (by rw [eZ]; exact his)] at this
   cases this
  have hn := h G0 G a w h0 hl hF hdf hW
  simp only [aI] at hn
  unfold wpOp
  simp only [ho]
  unfold wpList at hn
  have fin : ∀ a' w', Conc Γ nt n0 G0 (uX Γ nt n0 all ix m f (i :: done) k Q) .normal a' w' → cK Γ.P all (aI Γ.P (Conc Γ nt n0 G0 Q) k) (fun w' => KB GK [] w0 w') m f ((mkL all.size done).setIfInBounds i true) a' w' := fun a' w' hc => by
   obtain ⟨G', env', H', c1, c2, c3, c4, c5, c6⟩ := hc
   exact c6 G0 G' a' w' w0 GK c1 c2 c3 c4 c5 (fun hy => absurd hy hny) hcl'
  have pan : ∀ c a w, aI Γ.P (Conc Γ nt n0 G0 (uX Γ nt n0 all ix m f (i :: done) k Q)) [] (.panic c) a w → aI Γ.P (Conc Γ nt n0 G0 Q) k (.panic c) a w := fun c a w h => by
   rw [bS]; exact h
  have out : ∀ a w, aI Γ.P (Conc Γ nt n0 G0 (uX Γ nt n0 all ix m f (i :: done) k Q)) [] .outgrown a w → aI Γ.P (Conc Γ nt n0 G0 Q) k .outgrown a w := fun a w h => by
   rw [bX]; exact h
  split
  ·rename_i hw
   rw [if_pos hw] at hn
   rcases hn with hn | ⟨hn, a', w', ho⟩
   ·exact .inl (kT (fun a' w' h' => ⟨fun _ hjm => absurd hjm (by omega), fin a' w' (by simpa only [wpList, aI] using h')⟩) pan out hn)
   ·exact .inr ⟨hn, a', w', out a' w' ho⟩
  ·rename_i hw
   rw [if_neg hw] at hn
   exact ⟨fun _ hjm => absurd hjm (by omega), fin _ _ (by simpa only [wpList, aI] using hn)⟩
end
end
section
open Go Go.RowKit
def SI (G : aD) (w : World) : Prop := ∀ b i, i < (G.imm b).length → w.cell? ⟨b, i, none⟩ = some (gv (G.imm b) i)
theorem aQ.si {gl : List (Nat × List D)} {G GK : aD} {H : List aF} {w : World} (hW : aQ gl G H w) (h : bV GK.imm G.imm) : SI GK w := fun b i hi => by
 rw [hW.imm b i (Nat.lt_of_lt_of_le hi (h.len b)), h.gv hi]
section
variable {Γ : Ctx} {nt n0 : Nat} {k : List It} {Q : Post} {env : Env} {H : List aF}
def pM (Γ : Ctx) (nt n0 : Nat) (all : Array Oper) (ix : List Nat) (f : Nat) (done : List Nat) (k : List It) (Q : Post) (env : Env) (H : List aF) : Prop :=
 ∀ G0 G a w, GLe n0 G0 G → n0 ≤ H.length → bE G nt a.tmps env → a.defers = [] → aQ Γ.gl G H w → Closed all (mkL all.size done) → cK Γ.P all (aI Γ.P (Conc Γ nt n0 G0 Q) k) (SI G) all.size f (mkL all.size done) a w
def kv (Γ : Ctx) (nt n0 : Nat) (all : Array Oper) (ix : List Nat) (f : Nat) (done : List Nat) (k : List It) (Q : Post) (env : Env) (H : List aF) : Prop :=
 ∀ G0 G a w (GK : aD), GLe n0 G0 G → n0 ≤ H.length → bE G nt a.tmps env → a.defers = [] → aQ Γ.gl G H w → bV GK.imm G.imm → Closed all (mkL all.size done) → cK Γ.P all (aI Γ.P (Conc Γ nt n0 G0 Q) k) (SI GK) all.size f (mkL all.size done) a w
def rZ (Γ : Ctx) (nt n0 : Nat) (all : Array Oper) (ix : List Nat) (f i : Nat) (done : List Nat) (k : List It) (Q : Post) (env : Env) (H : List aF) : Prop :=
 i ∈ Region.ready .any all (mkL all.size done) → ∀ G0 G a w (GK : aD), GLe n0 G0 G → n0 ≤ H.length → bE G nt a.tmps env → a.defers = [] → aQ Γ.gl G H w → bV GK.imm G.imm → Closed all (mkL all.size done) →
  wpOp Γ.P all (aI Γ.P (Conc Γ nt n0 G0 Q) k) i (fun a' w' => (Yet all.size (mkL all.size done) → i < all.size → SI GK w') ∧ cK Γ.P all (aI Γ.P (Conc Γ nt n0 G0 Q) k) (SI GK) all.size f ((mkL all.size done).setIfInBounds i true) a' w') a w
theorem pM.go {all : Array Oper} {ix : List Nat} {f : Nat} {done : List Nat} (h : kv Γ nt n0 all ix f done k Q env H) : pM Γ nt n0 all ix f done k Q env H :=
 fun G0 G a w h0 hl hF hdf hW hcl => h G0 G a w G h0 hl hF hdf hW (bV.refl _) hcl
theorem pM.dL {all : Array Oper} {ix : List Nat} {f : Nat} {done : List Nat} {i : Nat} {o : Oper} {t : Nat} {v : AV} (hi : jA all.toList ix done = some (i, o)) (hx : bL Γ nt env H o v) (hnp : fB Q) (ho : all[i]? = some o) (hw : bI all env o = some true) (hd : o.dst = some t) (ht : Nat.ble (t + 1) nt = true) (him : Nat.ble (i + 1) all.size = true)
  (hr : (Region.ready .any all (mkL all.size done)).contains i = true) (hfree : (Region.free .any all (mkL all.size done) i && Region.noSelect all) = true)
  (h : pM Γ nt n0 all ix f (i :: done) k Q ((t, v) :: env) H) : pM Γ nt n0 all ix (f + 1) done k Q env H :=
 fun G0 G a w h0 hl hF hdf hW hcl => by
  rw [Bool.and_eq_true] at hfree
  have hr' : i ∈ Region.ready .any all (mkL all.size done) := by simpa using hr
  have hcl' := hcl.set hr'
  obtain ⟨u, hu, hall⟩ := hx G a w hW hF
  exact bq.jd (G := G) i hnp ho him (Nat.ble_eq_true_of_le (Nat.le_refl _)) hr hfree.1 hfree.2 hcl (fun _ => hW.si (bV.refl _)) (.inl ⟨aW hF hw, fun w' _ => hall w'⟩) (h G0 G _ w h0 hl (by rw [hd]; exact hF.put ht hu) (aV a _ u hdf) hW hcl')
theorem pM.load {all : Array Oper} {ix : List Nat} {f : Nat} {done : List Nat} {i : Nat} {o : Oper} {t T : Nat} {y : Operand} {ti : TI} {cs : List D} {x : D} (hi : yZ all.toList ix done = some (i, o)) (hop : o.op = .load T y) (hT : aM Γ.T T = some ti) (hy : ev Γ env y = .d (.iptr cs)) (hv : gZ ti cs 0 = some x)
  (hnp : fB Q) (ho : all[i]? = some o) (hw : bI all env o = some true) (hd : o.dst = some t) (ht : Nat.ble (t + 1) nt = true) (him : Nat.ble (i + 1) all.size = true)
  (hr : (Region.ready .any all (mkL all.size done)).contains i = true) (hfree : (Region.free .any all (mkL all.size done) i && Region.noSelect all) = true)
  (h : pM Γ nt n0 all ix f (i :: done) k Q ((t, .d x) :: env) H) : pM Γ nt n0 all ix (f + 1) done k Q env H :=
 fun G0 G a w h0 hl hF hdf hW hcl => by
  rw [Bool.and_eq_true] at hfree
  have hr' : i ∈ Region.ready .any all (mkL all.size done) := by simpa using hr
  have hcl' := hcl.set hr'
  have hval : ∃ u, aK G u (.d x) ∧ ∀ w', SI G w' → (execOp a.eval o).run Γ.P w' = .ok (.value u) w' := by
   have hx := aR hW hF y
   rw [hy] at hx
   obtain ⟨ff⟩ := Γ.ty hT
   generalize hxe : a.eval y = yv at hx
   cases hx with
   | d _ _ hd' =>
    cases hd' with
    | iptr b o' _ hin hone hcell =>
     obtain ⟨r, hr1, hr2⟩ := nA (G := G) (b := b) (o := o') (us := (G.imm b).drop o') ff hone (fun i c hc => by
      have := hcell i c hc
      simpa [gv, List.getD] using this) hv
     refine ⟨r, hr1, fun w' hb => ?_⟩
     have := hr2 w' (fun i hi => by rw [hb b (o' + i) (by omega)]; simp [gv, List.getD])
     unfold execOp
     simp only [hop, hxe]
     simp only [Nat.add_zero] at this
     simp [this]
  obtain ⟨u, hu, hall⟩ := hval
  refine cO (Si := SI G) ho (Nat.le_of_ble_eq_true him) (Nat.le_refl _) (Region.noSelect_spec hfree.2) (Cs hnp) (fun _ h => h) (.inr fun j hj hjs => absurd hjs (by omega)) f _ a w (eZ _ _) hcl (Region.free_spec ho hfree.1) hr'
   (.inl ⟨aW hF hw, fun w' hb => hall w' hb⟩) (hW.si (bV.refl _)) (fun _ => hW.si (bV.refl _)) (h G0 G _ w h0 hl (by rw [hd]; exact hF.put ht hu) (aV a _ u hdf) hW hcl')
theorem kv.fin {all : Array Oper} {ix : List Nat} {done : List Nat} (hr : (Region.ready .any all (mkL all.size done)).isEmpty = true) (h : aa Γ nt n0 k Q env H) : kv Γ nt n0 all ix 0 done k Q env H :=
 fun G0 G a w GK h0 hl hF hdf hW _ _ => ⟨by simpa using hr, h G0 G a w h0 hl hF hdf hW⟩
theorem kv.dL {all : Array Oper} {ix : List Nat} {f : Nat} {done : List Nat} {i : Nat} {o : Oper} {t : Nat} {v : AV} (hi : jA all.toList ix done = some (i, o)) (hx : bL Γ nt env H o v) (hnp : fB Q) (ho : all[i]? = some o) (hw : bI all env o = some true) (hd : o.dst = some t) (ht : Nat.ble (t + 1) nt = true) (him : Nat.ble (i + 1) all.size = true)
  (hr : (Region.ready .any all (mkL all.size done)).contains i = true) (hfree : (Region.free .any all (mkL all.size done) i && Region.noSelect all) = true)
  (h : kv Γ nt n0 all ix f (i :: done) k Q ((t, v) :: env) H) : kv Γ nt n0 all ix (f + 1) done k Q env H :=
 fun G0 G a w GK h0 hl hF hdf hW hS hcl => by
  rw [Bool.and_eq_true] at hfree
  have hr' : i ∈ Region.ready .any all (mkL all.size done) := by simpa using hr
  have hcl' := hcl.set hr'
  obtain ⟨u, hu, hall⟩ := hx G a w hW hF
  exact bq.jd (G := G) i hnp ho him (Nat.ble_eq_true_of_le (Nat.le_refl _)) hr hfree.1 hfree.2 hcl (fun _ => hW.si hS) (.inl ⟨aW hF hw, fun w' _ => hall w'⟩) (h G0 G _ w GK h0 hl (by rw [hd]; exact hF.put ht hu) (aV a _ u hdf) hW hS hcl')
theorem kv.GN {all : Array Oper} {ix : List Nat} {f : Nat} {done : List Nat} {i : Nat} {o : Oper} (hL : gN all.toList ix done = [(i, o)]) (hr : decide (Region.ready .any all (mkL all.size done) = [i]) = true)
  (h1 : rZ Γ nt n0 all ix f i done k Q env H) : kv Γ nt n0 all ix (f + 1) done k Q env H :=
 fun G0 G a w GK h0 hl hF hdf hW hS hcl => by
  have hr' := of_decide_eq_true hr
  refine ⟨fun h => (by rw [hr'] at h; cases h), fun x hx => ?_⟩
  have hx' := hx
  rw [hr'] at hx'
  simp only [List.mem_cons, List.not_mem_nil, or_false] at hx'
  subst hx'
  exact h1 hx G0 G a w GK h0 hl hF hdf hW hS hcl
theorem kv.kP {all : Array Oper} {ix : List Nat} {f : Nat} {done : List Nat} {i j : Nat} {o p : Oper} (hL : gN all.toList ix done = [(i, o), (j, p)]) (hr : decide (Region.ready .any all (mkL all.size done) = [i, j]) = true)
  (h1 : rZ Γ nt n0 all ix f i done k Q env H) (h2 : rZ Γ nt n0 all ix f j done k Q env H) : kv Γ nt n0 all ix (f + 1) done k Q env H :=
 fun G0 G a w GK h0 hl hF hdf hW hS hcl => by
  have hr' := of_decide_eq_true hr
  refine ⟨fun h => (by rw [hr'] at h; cases h), fun x hx => ?_⟩
  have hx' := hx
  rw [hr'] at hx'
  simp only [List.mem_cons, List.not_mem_nil, or_false] at hx'
  rcases hx' with rfl | rfl
  ·exact h1 hx G0 G a w GK h0 hl hF hdf hW hS hcl
  ·exact h2 hx G0 G a w GK h0 hl hF hdf hW hS hcl
def ED (Γ : Ctx) (nt n0 : Nat) (all : Array Oper) (ix : List Nat) (f : Nat) (done : List Nat) (k : List It) (Q : Post) : Post
 | .normal, env, H => kv Γ nt n0 all ix f done k Q env H
 | .panic c, env, H => Q (.panic c) env H
 | .outgrown, env, H => Q .outgrown env H
 | _, _, _ => False
theorem kv.back {all : Array Oper} {ix : List Nat} {f : Nat} {done : List Nat} (h : kv Γ nt n0 all ix f done k Q env H) : aa Γ nt n0 [] (ED Γ nt n0 all ix f done k Q) env H := aa.done h
theorem rZ.step {all : Array Oper} {ix : List Nat} {f : Nat} {done : List Nat} {i : Nat} {o : Oper} (ho : all[i]? = some o)
  (h : aa Γ nt n0 [.ops all [o]] (ED Γ nt n0 all ix f (i :: done) k Q) env H) : rZ Γ nt n0 all ix f i done k Q env H :=
 fun hmem G0 G a w GK h0 hl hF hdf hW hS hcl => by
  have hcl' := hcl.set (i := i) hmem
  have his : i < all.size := (Array.getElem?_eq_some_iff.1 ho).1
  have hn := h G G a w (GLe.refl _ _) hl hF hdf hW
  simp only [aI] at hn
  unfold wpOp
  simp only [ho]
  unfold wpList at hn
  have fin : ∀ a' w', Conc Γ nt n0 G (ED Γ nt n0 all ix f (i :: done) k Q) .normal a' w' → SI GK w' ∧ cK Γ.P all (aI Γ.P (Conc Γ nt n0 G0 Q) k) (SI GK) all.size f ((mkL all.size done).setIfInBounds i true) a' w' := fun a' w' hc => by
   obtain ⟨G', env', H', c1, c2, c3, c4, c5, c6⟩ := hc
   exact ⟨c5.si (hS.trans c1.imm), c6 G0 G' a' w' GK (h0.trans c1) c2 c3 c4 c5 (hS.trans c1.imm) hcl'⟩
  have pan : ∀ c a w, aI Γ.P (Conc Γ nt n0 G (ED Γ nt n0 all ix f (i :: done) k Q)) [] (.panic c) a w → aI Γ.P (Conc Γ nt n0 G0 Q) k (.panic c) a w := fun c a w h => by
   rw [bS]
   obtain ⟨G', env', H', c1, c2, c3, c4, c5, c6⟩ := h
   exact ⟨G', env', H', h0.trans c1, c2, c3, c4, c5, c6⟩
  have out : ∀ a w, aI Γ.P (Conc Γ nt n0 G (ED Γ nt n0 all ix f (i :: done) k Q)) [] .outgrown a w → aI Γ.P (Conc Γ nt n0 G0 Q) k .outgrown a w := fun a w h => by
   rw [bX]
   obtain ⟨G', env', H', c1, c2, c3, c4, c5, c6⟩ := h
   exact ⟨G', env', H', h0.trans c1, c2, c3, c4, c5, c6⟩
  split
  ·rename_i hw
   rw [if_pos hw] at hn
   rcases hn with hn | ⟨hn, a', w', ho⟩
   ·exact .inl (kT (fun a' w' h' => by
     have := fin a' w' (by simpa only [wpList, aI] using h')
     exact ⟨fun _ _ => this.1, this.2⟩) pan out hn)
   ·exact .inr ⟨hn, a', w', out a' w' ho⟩
  ·rename_i hw
   rw [if_neg hw] at hn
   have := fin _ _ (by simpa only [wpList, aI] using hn)
   exact ⟨fun _ _ => this.1, this.2⟩
end
end
section
open Go Go.RowKit
section
variable {Γ : Ctx} {nt n0 : Nat} {k : List It} {Q : Post} {env : Env} {H : List aF}
end
end
end Go.Proofs.YtbfojhfiemcnpaaGreatDoor.Av
