/- Labels that nothing jumps to. Regions that draw their order: an empty slice written out among the steps that keep what there was. Regions that draw their order: two or three steps that may come up in any order behind the reads. Regions that draw their order: what nobody writes is read ahead of all; then all orders. Arrays of whole numbers: unlike. -/
import Derived.Test.YtbfojhfiemcnpaaGreatDoorPn3
import Derived.Scope
set_option linter.unusedVariables false
set_option linter.unusedSimpArgs false
set_option maxRecDepth 100000
set_option maxHeartbeats 64000000
namespace Go.Proofs.YtbfojhfiemcnpaaGreatDoor.Av
section
open Go Go.RowKit
theorem jA {P : Program} {Q' : Exit → Act → World → Prop} {l : Nat} : ∀ (k : List It) (a : Act) (w : World), aN P Q' k (.goto l) a w = Q' (.goto l) a w
 | [], _, _ => rfl
 | .blk j :: k, a, w => by simp only [aN]; exact jA k a w
 | .code _ :: k, a, w => by simp only [aN]; exact jA k a w
 | .ops _ _ :: k, a, w => by simp only [aN]; exact jA k a w
 | .qops _ _ :: k, a, w => by simp only [aN]; exact jA k a w
 | .sops _ _ :: k, a, w => by simp only [aN]; exact jA k a w
 | .lp _ :: k, a, w => by simp only [aN]; exact jA k a w
section
variable {Γ : Ctx} {nt n0 : Nat} {k : List It} {Q : Post} {env : Env} {H : List aH}
theorem aa.label {l : Nat} (h : aa Γ nt n0 k Q env H) : aa Γ nt n0 (.code (.label l) :: k) Q env H :=
 fun G0 G a w h0 hl hF hdf hW => by
  simp only [aN]
  exact wp_label (h G0 G a w h0 hl hF hdf hW)
theorem aa.scope {c : Code} (hng : ∀ l env H, ¬ Q (.goto l) env H) (h : aa Γ nt n0 (.code c :: k) Q env H) : aa Γ nt n0 (.code (.scope c) :: k) Q env H :=
 fun G0 G a w h0 hl hF hdf hW => by
  have hn := h G0 G a w h0 hl hF hdf hW
  simp only [aN] at hn ⊢
  refine wp_scope_straight (wp_mono hn fun e a' w' hq => ?_)
  cases e with
  | goto l =>
   rw [jA] at hq
   obtain ⟨_, env', H', _, _, _, _, _, hq⟩ := hq
   exact (hng l env' H' hq).elim
  | _ => exact hq
theorem aa.H4 {c : Code} (h : aa Γ nt n0 (.code c :: k) Q env H) (hng : ∀ l env H, ¬ Q (.goto l) env H := by exact fun _ _ _ h => h) : aa Γ nt n0 (.code (.scope c) :: k) Q env H := aa.scope hng h
theorem aa.Jw {fn : Func} {R : AV → List aH → Prop} {r : AV} {I : Nat → Env → List aH → Prop} {n : Nat} {K : List It} (r' : AV) (hr : fF Γ env H fn.results.toList = some r) (hw : cn r r') (hl : Nat.ble n0 H.length = true) (hb : r'.bnd n0 = true)
  (ho : dB n0 (H.take n0) = true) (h : R r' (H.take n0)) : aa Γ nt n0 (.code .ret :: k) (dV Γ nt n0 I n K (pu Γ fn n0 R)) env H := aa.ret (Q := dV Γ nt n0 I n K (pu Γ fn n0 R)) (Fin.mk' hr hw hl hb ho h)
end
end
section
open Go Go.RowKit
section
variable {Γ : Ctx} {nt n0 : Nat} {k : List It} {Q : Post} {env : Env} {H : List aH}
theorem aT.G5 {all : Array Oper} {ix : List Nat} {m f : Nat} {done : List Nat} {i : Nat} {o : Oper} {t T e : Nat} {ti te : TI} (hL : gJ all.toList ix done = [(i, o)]) (hop : o.op = .buildSlice T 0 #[]) (ho : all[i]? = some o) (hw : bB all env o = some true) (hd : o.dst = some t) (ht : Nat.ble (t + 1) nt = true)
  (hT : aS Γ.T T = some ti) (hsh : ti.sh = .slice e) (he : aS Γ.T e = some te)
  (hr : decide (Region.ready .any all (cz all.size done) = [i]) = true) (him : Nat.ble (i + 1) m = true)
  (h : aT Γ nt n0 all ix m f (i :: done) k Q ((t, .ms H.length 0) :: env) (H ++ [.arr e te.size []])) : aT Γ nt n0 all ix m (f + 1) done k Q env H :=
 fun G0 G a w w0 GK h0 hl hF hdf hW hS hcl => by
  have hr' := of_decide_eq_true hr
  have hcl' := hcl.set (i := i) (by rw [hr']; simp)
  obtain ⟨ff⟩ := Γ.ty hT
  obtain ⟨fe⟩ := Γ.ty he
  have hrr : dC G.imm te.size [] ([] : List Value) := .nil _ _
  have hlit := World.ownsRow_lit (base := 0) (e := e) (size := te.size) w #[] 0 (Nat.zero_le _) (by simp only [maxLen]; omega) (by simp)
  obtain ⟨g1, g2⟩ := hW.ol (w' := w.alloc (.cells #[] e)) (e := e) (sz := te.size) (n := 0) (v := .slice none 0 0) (v' := .slice (some ⟨w.heap.size, 0, none⟩) 0 0) (es' := []) (ys := []) H.length (.inr ⟨rfl, rfl, rfl⟩) (Nat.zero_le _) (fun h _ => by omega) rfl rfl rfl (by simp)
   (fun b hb => .inr (by simp [Value.ownBlock] at hb; omega)) (fun b hb _ => heap_alloc_old w _ hb)
   hlit hrr (H ++ [.arr e te.size []]) (by simp) (by simp) (fun i hi => by
    rcases Nat.lt_or_ge i H.length with h1 | h1
    ·simp [List.getElem?_append_left h1]
    ·rw [List.getElem?_append_right h1, List.getElem?_eq_none h1]
     have : i - H.length = (i - H.length - 1) + 1 := by omega
     rw [this]; simp)
  have hk2 : Yet m (cz all.size done) → w0.heap.size ≤ (w.alloc (.cells #[] e)).heap.size ∧ KB GK [] w0 (w.alloc (.cells #[] e)) := fun hy => by
   obtain ⟨s1, s2⟩ := hS hy
   exact ⟨(by show w0.heap.size ≤ (w.heap.push _).size; rw [Array.size_push]; omega), fun b hb hid => (heap_alloc_old w _ (by omega)).trans (s2 b hb hid)⟩
  have hn := h G0 _ (a.put (some t) (.slice (some ⟨w.heap.size, 0, none⟩) 0 0)) _ w0 GK (h0.trans (g1.weaken hl)) (by simp; omega) ((hF.up g1 hW.lim).put ht (.ms _ _ _ (by simp [aJ.pq]) rfl)) (by simp [Act.put, hdf]) g2 (fun hy => hk2 (hy.kx (Nat.le_of_ble_eq_true him))) hcl'
  have hrun : (execOp a.eval o).run Γ.P w = .ok (.value (.slice (some ⟨w.heap.size, 0, none⟩) 0 0)) (w.alloc (.cells #[] e)) := by
   unfold execOp
   have e0 : Array.range 0 = #[] := Array.eq_empty_of_size_eq_zero (by simp)
   simp [hop, Instr.buildSlice, run_underlying (bV ff hsh), fe.sizeOf, Instr.fill, newRow, e0]
  refine ⟨fun h1 => (by rw [hr'] at h1; cases h1), fun j hj => ?_⟩
  have hji : j = i := by rw [hr'] at hj; simpa using hj
  subst hji
  unfold wpOp
  simp only [ho]
  rw [if_pos (bA hF hw)]
  refine .inl ?_
  unfold Oper.wp
  rw [hrun]
  simp only [Oper.upon, hd]
  exact ⟨fun hy _ => (hk2 hy).2, hn⟩
end
end
section
open Go Go.RowKit
section
variable {Γ : Ctx} {nt n0 : Nat} {k : List It} {Q : Post} {env : Env} {H : List aH}
def cQ (Γ : Ctx) (nt n0 : Nat) (all : Array Oper) (ix : List Nat) (m f i : Nat) (done : List Nat) (k : List It) (Q : Post) (env : Env) (H : List aH) : Prop :=
 i ∈ Region.ready .any all (cz all.size done) → ∀ G0 G a w (w0 : World) (GK : aJ), GLe n0 G0 G → n0 ≤ H.length → cf G nt a.tmps env → a.defers = [] → bi Γ.gl G H w → (Yet m (cz all.size done) → w0.heap.size ≤ w.heap.size ∧ KB GK [] w0 w) → Closed all (cz all.size done) →
  wpOp Γ.P all (aN Γ.P (Conc Γ nt n0 G0 Q) k) i (fun a' w' => (Yet m (cz all.size done) → i < m → KB GK [] w0 w') ∧ dN Γ.P all (aN Γ.P (Conc Γ nt n0 G0 Q) k) (fun w' => KB GK [] w0 w') m f ((cz all.size done).setIfInBounds i true) a' w') a w
theorem aT.mP {all : Array Oper} {ix : List Nat} {m f : Nat} {done : List Nat} {i j : Nat} {o p : Oper} (hL : gJ all.toList ix done = [(i, o), (j, p)]) (hr : decide (Region.ready .any all (cz all.size done) = [i, j]) = true)
  (h1 : cQ Γ nt n0 all ix m f i done k Q env H) (h2 : cQ Γ nt n0 all ix m f j done k Q env H) : aT Γ nt n0 all ix m (f + 1) done k Q env H :=
 fun G0 G a w w0 GK h0 hl hF hdf hW hS hcl => by
  have hr' := of_decide_eq_true hr
  refine ⟨fun h => (by rw [hr'] at h; cases h), fun x hx => ?_⟩
  have hx' := hx
  rw [hr'] at hx'
  simp only [List.mem_cons, List.not_mem_nil, or_false] at hx'
  rcases hx' with rfl | rfl
  ·exact h1 hx G0 G a w w0 GK h0 hl hF hdf hW hS hcl
  ·exact h2 hx G0 G a w w0 GK h0 hl hF hdf hW hS hcl
theorem cQ.call {all : Array Oper} {ix : List Nat} {m f fn : Nat} {done : List Nat} {i : Nat} {o : Oper} {t : Nat} {args0 args : List AV} {X r' : AV} {Y H' : List aH} (hR : ACalls Γ fn args [] (fun r H => r = X ∧ H = Y)) (ho : all[i]? = some o) (hcall : dH Γ env o.op = some (fn, args0)) (hwk : args0.map fgt = args) (hw : bB all env o = some true) (hd : o.dst = some t) (ht : Nat.ble (t + 1) nt = true)
  (hab : AV.cK 0 args = true) (him : Nat.ble (i + 1) m = true) (hrr : r' = AV.ren (names [] H.length Y.length) X) (hH : H' = gq [] (Y.map (aH.ren (names [] H.length Y.length))) H)
  (h : aT Γ nt n0 all ix m f (i :: done) k Q ((t, r') :: env) H') : cQ Γ nt n0 all ix m f i done k Q env H :=
 fun hmem G0 G a w w0 GK h0 hl hF hdf hW hS hcl => by
  have hcl' := hcl.set (i := i) hmem
  obtain ⟨vs, hA0, hrun⟩ := jI hW hF hcall hR.1
  have hA : jd G vs args := by
   rw [← hwk]
   refine ⟨by simpa using hA0.1, fun i c hc => ?_⟩
   rw [List.getElem?_map] at hc
   cases hq : args0[i]? with
   | none => simp [hq] at hc
   | some c0 =>
    simp [hq] at hc; subst hc
    exact qp c0 _ _ (hA0.2 i c0 hq)
  have hp : kF [] H = some (([] : List aH).map (aH.ren [])) := rfl
  have hWc := hW.callee (ρ := []) (Hc := []) (by simp) hp rfl
  have hAc : jd (G.callee w H []) vs args := by
   refine ⟨hA.1, fun i c hc => ?_⟩
   have e : args = AV.iB [] args := (lQ _ hab).symm
   have hc2 : (AV.iB [] args)[i]? = some (AV.ren [] c) := by rw [dz, List.getElem?_map, hc]; rfl
   rw [e] at hA
   exact aW.oK (G := G) (G' := G.callee w H []) (di.refl G.imm) (fun i id h => fP h) (fun i id n h => gI h) c _ (dJ hab hc) (hA.2 i _ hc2)
  have hcalls := hR.2 _ w vs hWc hAc
  unfold wpOp
  simp only [ho]
  rw [if_pos (bA hF hw)]
  refine .inl ?_
  unfold Oper.wp
  rw [hrun w]
  refine hcalls.mono ?_
  rintro e w' ⟨v, r, Hc', Gc', rfl, ⟨rfl, rfl⟩, hlen', hle, hv, hWc'⟩
  obtain ⟨b1, b2, b3, b4, b5⟩ := hW.back (by simp) (by simp) rfl hlen' hle hWc'
  have hbase : Gc'.base = w := hle.base
  have hkb' : ∀ b, b < w.heap.size → w'.heap[b]? = w.heap[b]? := fun b hb => by
   have := (hWc'.old b (by rw [hbase]; exact hb) (fun hn => by
    rw [hle.own0] at hn
    obtain ⟨id, o', hm, _⟩ := hn
    simp at hm)).1
   rwa [hbase] at this
  have hsz' : w.heap.size ≤ w'.heap.size := by have := hWc'.size; rwa [hbase] at this
  have hk2 : Yet m (cz all.size done) → w0.heap.size ≤ w'.heap.size ∧ KB GK [] w0 w' := fun hy => by
   obtain ⟨s1, s2⟩ := hS hy
   exact ⟨by omega, fun b hb hid => (hkb' b (by omega)).trans (s2 b hb hid)⟩
  have hF' : cf (G.back Gc' (names [] H.length Hc'.length)) nt (a.put (some t) v).tmps ((t, r') :: env) := by
   rw [hrr]
   exact (hF.up b1 hW.lim).put ht (hv.ren b3 b4 b5)
  rw [← hH] at b2
  have hlH : H.length ≤ H'.length := by
   rw [hH, gm (by simp)]; simp
  simp only [hd]
  exact ⟨fun hy _ => (hk2 hy).2, h G0 _ (a.put (some t) v) w' w0 GK (h0.trans (b1.weaken hl)) (by omega) hF' (by simp [Act.put, hdf]) b2 (fun hy => hk2 (hy.kx (Nat.le_of_ble_eq_true him))) hcl'⟩
theorem cQ.step {all : Array Oper} {ix : List Nat} {m f : Nat} {done : List Nat} {i : Nat} {o : Oper} (ho : all[i]? = some o) (him : Nat.ble m i = true)
  (h : aa Γ nt n0 [.ops all [o]] (uP Γ nt n0 all ix m f (i :: done) k Q) env H) : cQ Γ nt n0 all ix m f i done k Q env H :=
 fun hmem G0 G a w w0 GK h0 hl hF hdf hW hS hcl => by
  have hmi := Nat.le_of_ble_eq_true him
  have hcl' := hcl.set (i := i) hmem
  have his : i < all.size := (Array.getElem?_eq_some_iff.1 ho).1
  have hny : ¬ Yet m (cz all.size (i :: done)) := fun hy => by
   have := hy i hmi
   rw [cz, gH (by rw [ia]; exact his)] at this
   cases this
  have hn := h G0 G a w h0 hl hF hdf hW
  simp only [aN] at hn
  unfold wpOp
  simp only [ho]
  unfold wpList at hn
  have fin : ∀ a' w', Conc Γ nt n0 G0 (uP Γ nt n0 all ix m f (i :: done) k Q) .normal a' w' → dN Γ.P all (aN Γ.P (Conc Γ nt n0 G0 Q) k) (fun w' => KB GK [] w0 w') m f ((cz all.size done).setIfInBounds i true) a' w' := fun a' w' hc => by
   obtain ⟨G', env', H', c1, c2, c3, c4, c5, c6⟩ := hc
   exact c6 G0 G' a' w' w0 GK c1 c2 c3 c4 c5 (fun hy => absurd hy hny) hcl'
  have pan : ∀ c a w, aN Γ.P (Conc Γ nt n0 G0 (uP Γ nt n0 all ix m f (i :: done) k Q)) [] (.panic c) a w → aN Γ.P (Conc Γ nt n0 G0 Q) k (.panic c) a w := fun c a w h => by
   rw [cW]; exact h
  have out : ∀ a w, aN Γ.P (Conc Γ nt n0 G0 (uP Γ nt n0 all ix m f (i :: done) k Q)) [] .outgrown a w → aN Γ.P (Conc Γ nt n0 G0 Q) k .outgrown a w := fun a w h => by
   rw [dx]; exact h
  split
  ·rename_i hw
   rw [if_pos hw] at hn
   rcases hn with hn | ⟨hn, a', w', ho⟩
   ·exact .inl (mV (fun a' w' h' => ⟨fun _ hjm => absurd hjm (by omega), fin a' w' (by simpa only [wpList, aN] using h')⟩) pan out hn)
   ·exact .inr ⟨hn, a', w', out a' w' ho⟩
  ·rename_i hw
   rw [if_neg hw] at hn
   exact ⟨fun _ hjm => absurd hjm (by omega), fin _ _ (by simpa only [wpList, aN] using hn)⟩
theorem cQ.fK {all : Array Oper} {ix : List Nat} {m f : Nat} {done : List Nat} {i : Nat} {o : Oper} (h : aa Γ nt n0 [.ops all [o]] (uP Γ nt n0 all ix m f (i :: done) k Q) env H) (ho : all[i]? = some o := by rfl) (him : Nat.ble m i = true := by rfl) : cQ Γ nt n0 all ix m f i done k Q env H := cQ.step ho him h
end
end
section
open Go Go.RowKit
def SI (G : aJ) (w : World) : Prop := ∀ b i, i < (G.imm b).length → w.cell? ⟨b, i, none⟩ = some (gv (G.imm b) i)
theorem bi.si {gl : List (Nat × List D)} {G GK : aJ} {H : List aH} {w : World} (hW : bi gl G H w) (h : di GK.imm G.imm) : SI GK w := fun b i hi => by
 rw [hW.imm b i (Nat.lt_of_lt_of_le hi (h.len b)), h.gv hi]
section
variable {Γ : Ctx} {nt n0 : Nat} {k : List It} {Q : Post} {env : Env} {H : List aH}
def rX (Γ : Ctx) (nt n0 : Nat) (all : Array Oper) (ix : List Nat) (f : Nat) (done : List Nat) (k : List It) (Q : Post) (env : Env) (H : List aH) : Prop :=
 ∀ G0 G a w, GLe n0 G0 G → n0 ≤ H.length → cf G nt a.tmps env → a.defers = [] → bi Γ.gl G H w → Closed all (cz all.size done) → dN Γ.P all (aN Γ.P (Conc Γ nt n0 G0 Q) k) (SI G) all.size f (cz all.size done) a w
def l9 (Γ : Ctx) (nt n0 : Nat) (all : Array Oper) (ix : List Nat) (f : Nat) (done : List Nat) (k : List It) (Q : Post) (env : Env) (H : List aH) : Prop :=
 ∀ G0 G a w (GK : aJ), GLe n0 G0 G → n0 ≤ H.length → cf G nt a.tmps env → a.defers = [] → bi Γ.gl G H w → di GK.imm G.imm → Closed all (cz all.size done) → dN Γ.P all (aN Γ.P (Conc Γ nt n0 G0 Q) k) (SI GK) all.size f (cz all.size done) a w
def uQ (Γ : Ctx) (nt n0 : Nat) (all : Array Oper) (ix : List Nat) (f i : Nat) (done : List Nat) (k : List It) (Q : Post) (env : Env) (H : List aH) : Prop :=
 i ∈ Region.ready .any all (cz all.size done) → ∀ G0 G a w (GK : aJ), GLe n0 G0 G → n0 ≤ H.length → cf G nt a.tmps env → a.defers = [] → bi Γ.gl G H w → di GK.imm G.imm → Closed all (cz all.size done) →
  wpOp Γ.P all (aN Γ.P (Conc Γ nt n0 G0 Q) k) i (fun a' w' => (Yet all.size (cz all.size done) → i < all.size → SI GK w') ∧ dN Γ.P all (aN Γ.P (Conc Γ nt n0 G0 Q) k) (SI GK) all.size f ((cz all.size done).setIfInBounds i true) a' w') a w
theorem rX.go {all : Array Oper} {ix : List Nat} {f : Nat} {done : List Nat} (h : l9 Γ nt n0 all ix f done k Q env H) : rX Γ nt n0 all ix f done k Q env H :=
 fun G0 G a w h0 hl hF hdf hW hcl => h G0 G a w G h0 hl hF hdf hW (di.refl _) hcl
theorem rX.fq {all : Array Oper} {ix : List Nat} {f : Nat} {done : List Nat} {i : Nat} {o : Oper} {t : Nat} {v : AV} (hi : jp all.toList ix done = some (i, o)) (hx : cE Γ nt env H o v) (hnp : fO Q) (ho : all[i]? = some o) (hw : bB all env o = some true) (hd : o.dst = some t) (ht : Nat.ble (t + 1) nt = true) (him : Nat.ble (i + 1) all.size = true)
  (hr : (Region.ready .any all (cz all.size done)).contains i = true) (hfree : (Region.free .any all (cz all.size done) i && Region.noSelect all) = true)
  (h : rX Γ nt n0 all ix f (i :: done) k Q ((t, v) :: env) H) : rX Γ nt n0 all ix (f + 1) done k Q env H :=
 fun G0 G a w h0 hl hF hdf hW hcl => by
  rw [Bool.and_eq_true] at hfree
  have hr' : i ∈ Region.ready .any all (cz all.size done) := by simpa using hr
  have hcl' := hcl.set hr'
  obtain ⟨u, hu, hall⟩ := hx G a w hW hF
  exact bE.kL (G := G) i hnp ho him (Nat.ble_eq_true_of_le (Nat.le_refl _)) hr hfree.1 hfree.2 hcl (fun _ => hW.si (di.refl _)) (.inl ⟨bA hF hw, fun w' _ => hall w'⟩) (h G0 G _ w h0 hl (by rw [hd]; exact hF.put ht hu) (bC a _ u hdf) hW hcl')
theorem rX.load {all : Array Oper} {ix : List Nat} {f : Nat} {done : List Nat} {i : Nat} {o : Oper} {t T : Nat} {y : Operand} {ti : TI} {cs : List D} {x : D} (hi : vw all.toList ix done = some (i, o)) (hop : o.op = .load T y) (hT : aS Γ.T T = some ti) (hy : ev Γ env y = .d (.iptr cs)) (hv : jq ti cs 0 = some x)
  (hnp : fO Q) (ho : all[i]? = some o) (hw : bB all env o = some true) (hd : o.dst = some t) (ht : Nat.ble (t + 1) nt = true) (him : Nat.ble (i + 1) all.size = true)
  (hr : (Region.ready .any all (cz all.size done)).contains i = true) (hfree : (Region.free .any all (cz all.size done) i && Region.noSelect all) = true)
  (h : rX Γ nt n0 all ix f (i :: done) k Q ((t, .d x) :: env) H) : rX Γ nt n0 all ix (f + 1) done k Q env H :=
 fun G0 G a w h0 hl hF hdf hW hcl => by
  rw [Bool.and_eq_true] at hfree
  have hr' : i ∈ Region.ready .any all (cz all.size done) := by simpa using hr
  have hcl' := hcl.set hr'
  have hval : ∃ u, aW G u (.d x) ∧ ∀ w', SI G w' → (execOp a.eval o).run Γ.P w' = .ok (.value u) w' := by
   have hx := bv hW hF y
   rw [hy] at hx
   obtain ⟨ff⟩ := Γ.ty hT
   generalize hxe : a.eval y = yv at hx
   cases hx with
   | d _ _ hd' =>
    cases hd' with
    | iptr b o' _ hin hone hcell =>
     obtain ⟨r, hr1, hr2⟩ := qf (G := G) (b := b) (o := o') (us := (G.imm b).drop o') ff hone (fun i c hc => by
      have := hcell i c hc
      simpa [gv, List.getD] using this) hv
     refine ⟨r, hr1, fun w' hb => ?_⟩
     have := hr2 w' (fun i hi => by rw [hb b (o' + i) (by omega)]; simp [gv, List.getD])
     unfold execOp
     simp only [hop, hxe]
     simp only [Nat.add_zero] at this
     simp [this]
  obtain ⟨u, hu, hall⟩ := hval
  refine dR (Si := SI G) ho (Nat.le_of_ble_eq_true him) (Nat.le_refl _) (Region.noSelect_spec hfree.2) (Fa hnp) (fun _ h => h) (.inr fun j hj hjs => absurd hjs (by omega)) f _ a w (ia _ _) hcl (Region.free_spec ho hfree.1) hr'
   (.inl ⟨bA hF hw, fun w' hb => hall w' hb⟩) (hW.si (di.refl _)) (fun _ => hW.si (di.refl _)) (h G0 G _ w h0 hl (by rw [hd]; exact hF.put ht hu) (bC a _ u hdf) hW hcl')
theorem l9.fin {all : Array Oper} {ix : List Nat} {done : List Nat} (hr : (Region.ready .any all (cz all.size done)).isEmpty = true) (h : aa Γ nt n0 k Q env H) : l9 Γ nt n0 all ix 0 done k Q env H :=
 fun G0 G a w GK h0 hl hF hdf hW _ _ => ⟨by simpa using hr, h G0 G a w h0 hl hF hdf hW⟩
theorem l9.fq {all : Array Oper} {ix : List Nat} {f : Nat} {done : List Nat} {i : Nat} {o : Oper} {t : Nat} {v : AV} (hi : jp all.toList ix done = some (i, o)) (hx : cE Γ nt env H o v) (hnp : fO Q) (ho : all[i]? = some o) (hw : bB all env o = some true) (hd : o.dst = some t) (ht : Nat.ble (t + 1) nt = true) (him : Nat.ble (i + 1) all.size = true)
  (hr : (Region.ready .any all (cz all.size done)).contains i = true) (hfree : (Region.free .any all (cz all.size done) i && Region.noSelect all) = true)
  (h : l9 Γ nt n0 all ix f (i :: done) k Q ((t, v) :: env) H) : l9 Γ nt n0 all ix (f + 1) done k Q env H :=
 fun G0 G a w GK h0 hl hF hdf hW hS hcl => by
  rw [Bool.and_eq_true] at hfree
  have hr' : i ∈ Region.ready .any all (cz all.size done) := by simpa using hr
  have hcl' := hcl.set hr'
  obtain ⟨u, hu, hall⟩ := hx G a w hW hF
  exact bE.kL (G := G) i hnp ho him (Nat.ble_eq_true_of_le (Nat.le_refl _)) hr hfree.1 hfree.2 hcl (fun _ => hW.si hS) (.inl ⟨bA hF hw, fun w' _ => hall w'⟩) (h G0 G _ w GK h0 hl (by rw [hd]; exact hF.put ht hu) (bC a _ u hdf) hW hS hcl')
theorem l9.JE {all : Array Oper} {ix : List Nat} {f : Nat} {done : List Nat} {i : Nat} {o : Oper} (hL : gJ all.toList ix done = [(i, o)]) (hr : decide (Region.ready .any all (cz all.size done) = [i]) = true)
  (h1 : uQ Γ nt n0 all ix f i done k Q env H) : l9 Γ nt n0 all ix (f + 1) done k Q env H :=
 fun G0 G a w GK h0 hl hF hdf hW hS hcl => by
  have hr' := of_decide_eq_true hr
  refine ⟨fun h => (by rw [hr'] at h; cases h), fun x hx => ?_⟩
  have hx' := hx
  rw [hr'] at hx'
  simp only [List.mem_cons, List.not_mem_nil, or_false] at hx'
  subst hx'
  exact h1 hx G0 G a w GK h0 hl hF hdf hW hS hcl
theorem l9.mP {all : Array Oper} {ix : List Nat} {f : Nat} {done : List Nat} {i j : Nat} {o p : Oper} (hL : gJ all.toList ix done = [(i, o), (j, p)]) (hr : decide (Region.ready .any all (cz all.size done) = [i, j]) = true)
  (h1 : uQ Γ nt n0 all ix f i done k Q env H) (h2 : uQ Γ nt n0 all ix f j done k Q env H) : l9 Γ nt n0 all ix (f + 1) done k Q env H :=
 fun G0 G a w GK h0 hl hF hdf hW hS hcl => by
  have hr' := of_decide_eq_true hr
  refine ⟨fun h => (by rw [hr'] at h; cases h), fun x hx => ?_⟩
  have hx' := hx
  rw [hr'] at hx'
  simp only [List.mem_cons, List.not_mem_nil, or_false] at hx'
  rcases hx' with rfl | rfl
  ·exact h1 hx G0 G a w GK h0 hl hF hdf hW hS hcl
  ·exact h2 hx G0 G a w GK h0 hl hF hdf hW hS hcl
def Ho (Γ : Ctx) (nt n0 : Nat) (all : Array Oper) (ix : List Nat) (f : Nat) (done : List Nat) (k : List It) (Q : Post) : Post
 | .normal, env, H => l9 Γ nt n0 all ix f done k Q env H
 | .panic c, env, H => Q (.panic c) env H
 | .outgrown, env, H => Q .outgrown env H
 | _, _, _ => False
theorem l9.back {all : Array Oper} {ix : List Nat} {f : Nat} {done : List Nat} (h : l9 Γ nt n0 all ix f done k Q env H) : aa Γ nt n0 [] (Ho Γ nt n0 all ix f done k Q) env H := aa.done h
theorem uQ.step {all : Array Oper} {ix : List Nat} {f : Nat} {done : List Nat} {i : Nat} {o : Oper} (ho : all[i]? = some o)
  (h : aa Γ nt n0 [.ops all [o]] (Ho Γ nt n0 all ix f (i :: done) k Q) env H) : uQ Γ nt n0 all ix f i done k Q env H :=
 fun hmem G0 G a w GK h0 hl hF hdf hW hS hcl => by
  have hcl' := hcl.set (i := i) hmem
  have his : i < all.size := (Array.getElem?_eq_some_iff.1 ho).1
  have hn := h G G a w (GLe.refl _ _) hl hF hdf hW
  simp only [aN] at hn
  unfold wpOp
  simp only [ho]
  unfold wpList at hn
  have fin : ∀ a' w', Conc Γ nt n0 G (Ho Γ nt n0 all ix f (i :: done) k Q) .normal a' w' → SI GK w' ∧ dN Γ.P all (aN Γ.P (Conc Γ nt n0 G0 Q) k) (SI GK) all.size f ((cz all.size done).setIfInBounds i true) a' w' := fun a' w' hc => by
   obtain ⟨G', env', H', c1, c2, c3, c4, c5, c6⟩ := hc
   exact ⟨c5.si (hS.trans c1.imm), c6 G0 G' a' w' GK (h0.trans c1) c2 c3 c4 c5 (hS.trans c1.imm) hcl'⟩
  have pan : ∀ c a w, aN Γ.P (Conc Γ nt n0 G (Ho Γ nt n0 all ix f (i :: done) k Q)) [] (.panic c) a w → aN Γ.P (Conc Γ nt n0 G0 Q) k (.panic c) a w := fun c a w h => by
   rw [cW]
   obtain ⟨G', env', H', c1, c2, c3, c4, c5, c6⟩ := h
   exact ⟨G', env', H', h0.trans c1, c2, c3, c4, c5, c6⟩
  have out : ∀ a w, aN Γ.P (Conc Γ nt n0 G (Ho Γ nt n0 all ix f (i :: done) k Q)) [] .outgrown a w → aN Γ.P (Conc Γ nt n0 G0 Q) k .outgrown a w := fun a w h => by
   rw [dx]
   obtain ⟨G', env', H', c1, c2, c3, c4, c5, c6⟩ := h
   exact ⟨G', env', H', h0.trans c1, c2, c3, c4, c5, c6⟩
  split
  ·rename_i hw
   rw [if_pos hw] at hn
   rcases hn with hn | ⟨hn, a', w', ho⟩
   ·exact .inl (mV (fun a' w' h' => by
     have := fin a' w' (by simpa only [wpList, aN] using h')
     exact ⟨fun _ _ => this.1, this.2⟩) pan out hn)
   ·exact .inr ⟨hn, a', w', out a' w' ho⟩
  ·rename_i hw
   rw [if_neg hw] at hn
   have := fin _ _ (by simpa only [wpList, aN] using hn)
   exact ⟨fun _ _ => this.1, this.2⟩
end
end
section
open Go Go.RowKit
section
variable {Γ : Ctx} {nt n0 : Nat} {k : List It} {Q : Post} {env : Env} {H : List aH}
end
end
end Go.Proofs.YtbfojhfiemcnpaaGreatDoor.Av
