/- Labels that nothing jumps to. Regions that draw their order: an empty slice written out among the steps that keep what there was. Regions that draw their order: two or three steps that may come up in any order behind the reads. Regions that draw their order: what nobody writes is read ahead of all; then all orders. Arrays of whole numbers: unlike. -/
import Derived.Test.YtbfojhfiemcnpaaDoorPn3
import Derived.Scope
/- Labels that nothing jumps to. -/
set_option linter.unusedVariables false
set_option linter.unusedSimpArgs false
namespace Go.Proofs.YtbfojhfiemcnpaaDoor.Av
open Go Go.RowKit
theorem resm_goto {P : Program} {Q' : Exit → Act → World → Prop} {l : Nat} : ∀ (k : List It) (a : Act) (w : World), resm P Q' k (.goto l) a w = Q' (.goto l) a w
  | [], _, _ => rfl
  | .blk j :: k, a, w => by simp only [resm]; exact resm_goto k a w
  | .code _ :: k, a, w => by simp only [resm]; exact resm_goto k a w
  | .ops _ _ :: k, a, w => by simp only [resm]; exact resm_goto k a w
  | .qops _ _ :: k, a, w => by simp only [resm]; exact resm_goto k a w
  | .sops _ _ :: k, a, w => by simp only [resm]; exact resm_goto k a w
  | .lp _ :: k, a, w => by simp only [resm]; exact resm_goto k a w
section
variable {Γ : Ctx} {nt n0 : Nat} {k : List It} {Q : Post} {env : Env} {H : List AObj}
theorem AGo.label {l : Nat} (h : AGo Γ nt n0 k Q env H) : AGo Γ nt n0 (.code (.label l) :: k) Q env H :=
  fun G0 G a w h0 hl hF hdf hW => by
    simp only [resm]
    exact wp_label (h G0 G a w h0 hl hF hdf hW)
theorem AGo.scope {c : Code} (hng : ∀ l env H, ¬ Q (.goto l) env H) (h : AGo Γ nt n0 (.code c :: k) Q env H) : AGo Γ nt n0 (.code (.scope c) :: k) Q env H :=
  fun G0 G a w h0 hl hF hdf hW => by
    have hn := h G0 G a w h0 hl hF hdf hW
    simp only [resm] at hn ⊢
    refine wp_scope_straight (wp_mono hn fun e a' w' hq => ?_)
    cases e with
    | goto l =>
      rw [resm_goto] at hq
      obtain ⟨_, env', H', _, _, _, _, _, hq⟩ := hq
      exact (hng l env' H' hq).elim
    | _ => exact hq
theorem AGo.retLW {fn : Func} {R : AV → List AObj → Prop} {r : AV} {I : Nat → Env → List AObj → Prop} {n : Nat} {K : List It} (r' : AV) (hr : aresults Γ env H fn.results.toList = some r) (hw : Weak r r') (hl : Nat.ble n0 H.length = true) (hb : r'.bnd n0 = true)
    (ho : objsBnd n0 (H.take n0) = true) (h : R r' (H.take n0)) : AGo Γ nt n0 (.code .ret :: k) (LoopPost Γ nt n0 I n K (FinQ Γ fn n0 R)) env H := AGo.ret (Q := LoopPost Γ nt n0 I n K (FinQ Γ fn n0 R)) (Fin.mk' hr hw hl hb ho h)
end
end Go.Proofs.YtbfojhfiemcnpaaDoor.Av

/- Regions that draw their order: an empty slice written out among the steps that keep what there was. -/
set_option linter.unusedVariables false
set_option linter.unusedSimpArgs false
namespace Go.Proofs.YtbfojhfiemcnpaaDoor.Av
open Go Go.RowKit
section
variable {Γ : Ctx} {nt n0 : Nat} {k : List It} {Q : Post} {env : Env} {H : List AObj}
end
end Go.Proofs.YtbfojhfiemcnpaaDoor.Av

/- Regions that draw their order: two or three steps that may come up in any order behind the reads. -/
set_option linter.unusedVariables false
set_option linter.unusedSimpArgs false
namespace Go.Proofs.YtbfojhfiemcnpaaDoor.Av
open Go Go.RowKit
section
variable {Γ : Ctx} {nt n0 : Nat} {k : List It} {Q : Post} {env : Env} {H : List AObj}
/-- step i comes up now -/
def ARegK1 (Γ : Ctx) (nt n0 : Nat) (all : Array Oper) (ix : List Nat) (m f i : Nat) (done : List Nat) (k : List It) (Q : Post) (env : Env) (H : List AObj) : Prop :=
  i ∈ Region.ready .any all (mkL all.size done) → ∀ G0 G a w (w0 : World) (GK : Ghost), GLe n0 G0 G → n0 ≤ H.length → FRel G nt a.tmps env → a.defers = [] → WRel Γ.gl G H w → (Yet m (mkL all.size done) → w0.heap.size ≤ w.heap.size ∧ KB GK [] w0 w) → Closed all (mkL all.size done) →
    wpOp Γ.P all (resm Γ.P (Conc Γ nt n0 G0 Q) k) i (fun a' w' => (Yet m (mkL all.size done) → i < m → KB GK [] w0 w') ∧ wpAnyE Γ.P all (resm Γ.P (Conc Γ nt n0 G0 Q) k) (fun w' => KB GK [] w0 w') m f ((mkL all.size done).setIfInBounds i true) a' w') a w
theorem ARegK.fork2 {all : Array Oper} {ix : List Nat} {m f : Nat} {done : List Nat} {i j : Nat} {o p : Oper} (hL : readyN all.toList ix done = [(i, o), (j, p)]) (hr : decide (Region.ready .any all (mkL all.size done) = [i, j]) = true)
    (h1 : ARegK1 Γ nt n0 all ix m f i done k Q env H) (h2 : ARegK1 Γ nt n0 all ix m f j done k Q env H) : ARegK Γ nt n0 all ix m (f + 1) done k Q env H :=
  fun G0 G a w w0 GK h0 hl hF hdf hW hS hcl => by
    have hr' := of_decide_eq_true hr
    refine ⟨fun h => (by rw [hr'] at h; cases h), fun x hx => ?_⟩
    have hx' := hx
    rw [hr'] at hx'
    simp only [List.mem_cons, List.not_mem_nil, or_false] at hx'
    rcases hx' with rfl | rfl
    · exact h1 hx G0 G a w w0 GK h0 hl hF hdf hW hS hcl
    · exact h2 hx G0 G a w w0 GK h0 hl hF hdf hW hS hcl
theorem ARegK1.call {all : Array Oper} {ix : List Nat} {m f fn : Nat} {done : List Nat} {i : Nat} {o : Oper} {t : Nat} {args0 args : List AV} {X r' : AV} {Y H' : List AObj} (hR : ACalls Γ fn args [] (fun r H => r = X ∧ H = Y)) (ho : all[i]? = some o) (hcall : calleeA Γ env o.op = some (fn, args0)) (hwk : args0.map fgt = args) (hw : wantedA all env o = some true) (hd : o.dst = some t) (ht : Nat.ble (t + 1) nt = true)
    (hab : AV.bnds 0 args = true) (him : Nat.ble (i + 1) m = true) (hrr : r' = AV.ren (names [] H.length Y.length) X) (hH : H' = putH [] (Y.map (AObj.ren (names [] H.length Y.length))) H)
    (h : ARegK Γ nt n0 all ix m f (i :: done) k Q ((t, r') :: env) H') : ARegK1 Γ nt n0 all ix m f i done k Q env H :=
  fun hmem G0 G a w w0 GK h0 hl hF hdf hW hS hcl => by
    have hcl' := hcl.set (i := i) hmem
    obtain ⟨vs, hA0, hrun⟩ := run_call hW hF hcall hR.1
    have hA : ARels G vs args := by
      rw [← hwk]
      refine ⟨by simpa using hA0.1, fun i c hc => ?_⟩
      rw [List.getElem?_map] at hc
      cases hq : args0[i]? with
      | none => simp [hq] at hc
      | some c0 =>
        simp [hq] at hc; subst hc
        exact fgt_weak c0 _ _ (hA0.2 i c0 hq)
    have hp : pickH [] H = some (([] : List AObj).map (AObj.ren [])) := rfl
    have hWc := hW.callee (ρ := []) (Hc := []) (by simp) hp rfl
    have hAc : ARels (G.callee w H []) vs args := by
      refine ⟨hA.1, fun i c hc => ?_⟩
      have e : args = AV.renL [] args := (renL_bnd0 _ hab).symm
      have hc2 : (AV.renL [] args)[i]? = some (AV.ren [] c) := by rw [renL_map, List.getElem?_map, hc]; rfl
      rw [e] at hA
      exact VRel.unren' (G := G) (G' := G.callee w H []) (ImmLe.refl G.imm) (fun i id h => callee_loc h) (fun i id n h => callee_fl h) c _ (bnds_mem hab hc) (hA.2 i _ hc2)
    have hcalls := hR.2 _ w vs hWc hAc
    unfold wpOp
    simp only [ho]
    rw [if_pos (wantedA_ok hF hw)]
    refine .inl ?_
    unfold Oper.wp
    rw [hrun w]
    refine hcalls.mono ?_
    rintro e w' ⟨v, r, Hc', Gc', rfl, ⟨rfl, rfl⟩, hlen', hle, hv, hWc'⟩
    obtain ⟨b1, b2, b3, b4, b5⟩ := hW.back (by simp) (by simp) rfl hlen' hle hWc'
    have hbase : Gc'.base = w := hle.base
    have hkb' : ∀ b, b < w.heap.size → w'.heap[b]? = w.heap[b]? := fun b hb => by
      have := (hWc'.old b (by rw [hbase]; exact hb) (fun hn => by
        rw [hle.own0] at hn
        obtain ⟨id, o', hm, _⟩ := hn
        simp at hm)).1
      rwa [hbase] at this
    have hsz' : w.heap.size ≤ w'.heap.size := by have := hWc'.size; rwa [hbase] at this
    have hk2 : Yet m (mkL all.size done) → w0.heap.size ≤ w'.heap.size ∧ KB GK [] w0 w' := fun hy => by
      obtain ⟨s1, s2⟩ := hS hy
      exact ⟨by omega, fun b hb hid => (hkb' b (by omega)).trans (s2 b hb hid)⟩
    have hF' : FRel (G.back Gc' (names [] H.length Hc'.length)) nt (a.put (some t) v).tmps ((t, r') :: env) := by
      rw [hrr]
      exact (hF.up b1 hW.lim).put ht (hv.ren b3 b4 b5)
    rw [← hH] at b2
    have hlH : H.length ≤ H'.length := by
      rw [hH, putH_length (by simp)]; simp
    simp only [hd]
    exact ⟨fun hy _ => (hk2 hy).2, h G0 _ (a.put (some t) v) w' w0 GK (h0.trans (b1.weaken hl)) (by omega) hF' (by simp [Act.put, hdf]) b2 (fun hy => hk2 (hy.unset (Nat.le_of_ble_eq_true him))) hcl'⟩
theorem ARegK1.step {all : Array Oper} {ix : List Nat} {m f : Nat} {done : List Nat} {i : Nat} {o : Oper} (ho : all[i]? = some o) (him : Nat.ble m i = true)
    (h : AGo Γ nt n0 [.ops all [o]] (RegK Γ nt n0 all ix m f (i :: done) k Q) env H) : ARegK1 Γ nt n0 all ix m f i done k Q env H :=
  fun hmem G0 G a w w0 GK h0 hl hF hdf hW hS hcl => by
    have hmi := Nat.le_of_ble_eq_true him
    have hcl' := hcl.set (i := i) hmem
    have his : i < all.size := (Array.getElem?_eq_some_iff.1 ho).1
    have hny : ¬ Yet m (mkL all.size (i :: done)) := fun hy => by
      have := hy i hmi
      rw [mkL, getD_set_self (by rw [mkL_size]; exact his)] at this
      cases this
    have hn := h G0 G a w h0 hl hF hdf hW
    simp only [resm] at hn
    unfold wpOp
    simp only [ho]
    unfold wpList at hn
    have fin : ∀ a' w', Conc Γ nt n0 G0 (RegK Γ nt n0 all ix m f (i :: done) k Q) .normal a' w' → wpAnyE Γ.P all (resm Γ.P (Conc Γ nt n0 G0 Q) k) (fun w' => KB GK [] w0 w') m f ((mkL all.size done).setIfInBounds i true) a' w' := fun a' w' hc => by
      obtain ⟨G', env', H', c1, c2, c3, c4, c5, c6⟩ := hc
      exact c6 G0 G' a' w' w0 GK c1 c2 c3 c4 c5 (fun hy => absurd hy hny) hcl'
    have pan : ∀ c a w, resm Γ.P (Conc Γ nt n0 G0 (RegK Γ nt n0 all ix m f (i :: done) k Q)) [] (.panic c) a w → resm Γ.P (Conc Γ nt n0 G0 Q) k (.panic c) a w := fun c a w h => by
      rw [resm_panic]; exact h
    have out : ∀ a w, resm Γ.P (Conc Γ nt n0 G0 (RegK Γ nt n0 all ix m f (i :: done) k Q)) [] .outgrown a w → resm Γ.P (Conc Γ nt n0 G0 Q) k .outgrown a w := fun a w h => by
      rw [resm_outgrown]; exact h
    split
    · rename_i hw
      rw [if_pos hw] at hn
      rcases hn with hn | ⟨hn, a', w', ho⟩
      · exact .inl (wp_mono2 (fun a' w' h' => ⟨fun _ hjm => absurd hjm (by omega), fin a' w' (by simpa only [wpList, resm] using h')⟩) pan out hn)
      · exact .inr ⟨hn, a', w', out a' w' ho⟩
    · rename_i hw
      rw [if_neg hw] at hn
      exact ⟨fun _ hjm => absurd hjm (by omega), fin _ _ (by simpa only [wpList, resm] using hn)⟩
end
end Go.Proofs.YtbfojhfiemcnpaaDoor.Av

/- Regions that draw their order: what nobody writes is read ahead of all; then all orders. -/
set_option linter.unusedVariables false
set_option linter.unusedSimpArgs false
namespace Go.Proofs.YtbfojhfiemcnpaaDoor.Av
open Go Go.RowKit
/-- memory that nobody writes is as it was -/
def SI (G : Ghost) (w : World) : Prop := ∀ b i, i < (G.imm b).length → w.cell? ⟨b, i, none⟩ = some (gv (G.imm b) i)
theorem WRel.si {gl : List (Nat × List D)} {G GK : Ghost} {H : List AObj} {w : World} (hW : WRel gl G H w) (h : ImmLe GK.imm G.imm) : SI GK w := fun b i hi => by
  rw [hW.imm b i (Nat.lt_of_lt_of_le hi (h.len b)), h.gv hi]
section
variable {Γ : Ctx} {nt n0 : Nat} {k : List It} {Q : Post} {env : Env} {H : List AObj}
/-- nothing is changed yet -/
def ARegI (Γ : Ctx) (nt n0 : Nat) (all : Array Oper) (ix : List Nat) (f : Nat) (done : List Nat) (k : List It) (Q : Post) (env : Env) (H : List AObj) : Prop :=
  ∀ G0 G a w, GLe n0 G0 G → n0 ≤ H.length → FRel G nt a.tmps env → a.defers = [] → WRel Γ.gl G H w → Closed all (mkL all.size done) → wpAnyE Γ.P all (resm Γ.P (Conc Γ nt n0 G0 Q) k) (SI G) all.size f (mkL all.size done) a w
/-- behind the reads: all orders -/
def ARegA (Γ : Ctx) (nt n0 : Nat) (all : Array Oper) (ix : List Nat) (f : Nat) (done : List Nat) (k : List It) (Q : Post) (env : Env) (H : List AObj) : Prop :=
  ∀ G0 G a w (GK : Ghost), GLe n0 G0 G → n0 ≤ H.length → FRel G nt a.tmps env → a.defers = [] → WRel Γ.gl G H w → ImmLe GK.imm G.imm → Closed all (mkL all.size done) → wpAnyE Γ.P all (resm Γ.P (Conc Γ nt n0 G0 Q) k) (SI GK) all.size f (mkL all.size done) a w
def ARegA1 (Γ : Ctx) (nt n0 : Nat) (all : Array Oper) (ix : List Nat) (f i : Nat) (done : List Nat) (k : List It) (Q : Post) (env : Env) (H : List AObj) : Prop :=
  i ∈ Region.ready .any all (mkL all.size done) → ∀ G0 G a w (GK : Ghost), GLe n0 G0 G → n0 ≤ H.length → FRel G nt a.tmps env → a.defers = [] → WRel Γ.gl G H w → ImmLe GK.imm G.imm → Closed all (mkL all.size done) →
    wpOp Γ.P all (resm Γ.P (Conc Γ nt n0 G0 Q) k) i (fun a' w' => (Yet all.size (mkL all.size done) → i < all.size → SI GK w') ∧ wpAnyE Γ.P all (resm Γ.P (Conc Γ nt n0 G0 Q) k) (SI GK) all.size f ((mkL all.size done).setIfInBounds i true) a' w') a w
theorem ARegI.go {all : Array Oper} {ix : List Nat} {f : Nat} {done : List Nat} (h : ARegA Γ nt n0 all ix f done k Q env H) : ARegI Γ nt n0 all ix f done k Q env H :=
  fun G0 G a w h0 hl hF hdf hW hcl => h G0 G a w G h0 hl hF hdf hW (ImmLe.refl _) hcl
theorem ARegI.pureX {all : Array Oper} {ix : List Nat} {f : Nat} {done : List Nat} {i : Nat} {o : Oper} {t : Nat} {v : AV} (hi : nextP all.toList ix done = some (i, o)) (hx : PureTo Γ nt env H o v) (hnp : NoPan Q) (ho : all[i]? = some o) (hw : wantedA all env o = some true) (hd : o.dst = some t) (ht : Nat.ble (t + 1) nt = true) (him : Nat.ble (i + 1) all.size = true)
    (hr : (Region.ready .any all (mkL all.size done)).contains i = true) (hfree : (Region.free .any all (mkL all.size done) i && Region.noSelect all) = true)
    (h : ARegI Γ nt n0 all ix f (i :: done) k Q ((t, v) :: env) H) : ARegI Γ nt n0 all ix (f + 1) done k Q env H :=
  fun G0 G a w h0 hl hF hdf hW hcl => by
    rw [Bool.and_eq_true] at hfree
    have hr' : i ∈ Region.ready .any all (mkL all.size done) := by simpa using hr
    have hcl' := hcl.set hr'
    obtain ⟨u, hu, hall⟩ := hx G a w hW hF
    exact ARegH.firstH (G := G) i hnp ho him (Nat.ble_eq_true_of_le (Nat.le_refl _)) hr hfree.1 hfree.2 hcl (fun _ => hW.si (ImmLe.refl _)) (.inl ⟨wantedA_ok hF hw, fun w' _ => hall w'⟩) (h G0 G _ w h0 hl (by rw [hd]; exact hF.put ht hu) (put_defers' a _ u hdf) hW hcl')
theorem ARegI.load {all : Array Oper} {ix : List Nat} {f : Nat} {done : List Nat} {i : Nat} {o : Oper} {t T : Nat} {y : Operand} {ti : TI} {cs : List D} {x : D} (hi : nextL all.toList ix done = some (i, o)) (hop : o.op = .load T y) (hT : lookT Γ.T T = some ti) (hy : ev Γ env y = .d (.iptr cs)) (hv : loadD ti cs 0 = some x)
    (hnp : NoPan Q) (ho : all[i]? = some o) (hw : wantedA all env o = some true) (hd : o.dst = some t) (ht : Nat.ble (t + 1) nt = true) (him : Nat.ble (i + 1) all.size = true)
    (hr : (Region.ready .any all (mkL all.size done)).contains i = true) (hfree : (Region.free .any all (mkL all.size done) i && Region.noSelect all) = true)
    (h : ARegI Γ nt n0 all ix f (i :: done) k Q ((t, .d x) :: env) H) : ARegI Γ nt n0 all ix (f + 1) done k Q env H :=
  fun G0 G a w h0 hl hF hdf hW hcl => by
    rw [Bool.and_eq_true] at hfree
    have hr' : i ∈ Region.ready .any all (mkL all.size done) := by simpa using hr
    have hcl' := hcl.set hr'
    have hval : ∃ u, VRel G u (.d x) ∧ ∀ w', SI G w' → (execOp a.eval o).run Γ.P w' = .ok (.value u) w' := by
      have hx := ev_ok hW hF y
      rw [hy] at hx
      obtain ⟨ff⟩ := Γ.ty hT
      generalize hxe : a.eval y = yv at hx
      cases hx with
      | d _ _ hd' =>
        cases hd' with
        | iptr b o' _ hin hone hcell =>
          obtain ⟨r, hr1, hr2⟩ := loadD_ok (G := G) (b := b) (o := o') (us := (G.imm b).drop o') ff hone (fun i c hc => by
            have := hcell i c hc
            simpa [gv, List.getD] using this) hv
          refine ⟨r, hr1, fun w' hb => ?_⟩
          have := hr2 w' (fun i hi => by rw [hb b (o' + i) (by omega)]; simp [gv, List.getD])
          unfold execOp
          simp only [hop, hxe]
          simp only [Nat.add_zero] at this
          simp [this]
    obtain ⟨u, hu, hall⟩ := hval
    refine wpAnyE_first (Si := SI G) ho (Nat.le_of_ble_eq_true him) (Nat.le_refl _) (Region.noSelect_spec hfree.2) (panM hnp) (fun _ h => h) (.inr fun j hj hjs => absurd hjs (by omega)) f _ a w (mkL_size _ _) hcl (Region.free_spec ho hfree.1) hr'
      (.inl ⟨wantedA_ok hF hw, fun w' hb => hall w' hb⟩) (hW.si (ImmLe.refl _)) (fun _ => hW.si (ImmLe.refl _)) (h G0 G _ w h0 hl (by rw [hd]; exact hF.put ht hu) (put_defers' a _ u hdf) hW hcl')
theorem ARegA.fin {all : Array Oper} {ix : List Nat} {done : List Nat} (hr : (Region.ready .any all (mkL all.size done)).isEmpty = true) (h : AGo Γ nt n0 k Q env H) : ARegA Γ nt n0 all ix 0 done k Q env H :=
  fun G0 G a w GK h0 hl hF hdf hW _ _ => ⟨by simpa using hr, h G0 G a w h0 hl hF hdf hW⟩
theorem ARegA.pureX {all : Array Oper} {ix : List Nat} {f : Nat} {done : List Nat} {i : Nat} {o : Oper} {t : Nat} {v : AV} (hi : nextP all.toList ix done = some (i, o)) (hx : PureTo Γ nt env H o v) (hnp : NoPan Q) (ho : all[i]? = some o) (hw : wantedA all env o = some true) (hd : o.dst = some t) (ht : Nat.ble (t + 1) nt = true) (him : Nat.ble (i + 1) all.size = true)
    (hr : (Region.ready .any all (mkL all.size done)).contains i = true) (hfree : (Region.free .any all (mkL all.size done) i && Region.noSelect all) = true)
    (h : ARegA Γ nt n0 all ix f (i :: done) k Q ((t, v) :: env) H) : ARegA Γ nt n0 all ix (f + 1) done k Q env H :=
  fun G0 G a w GK h0 hl hF hdf hW hS hcl => by
    rw [Bool.and_eq_true] at hfree
    have hr' : i ∈ Region.ready .any all (mkL all.size done) := by simpa using hr
    have hcl' := hcl.set hr'
    obtain ⟨u, hu, hall⟩ := hx G a w hW hF
    exact ARegH.firstH (G := G) i hnp ho him (Nat.ble_eq_true_of_le (Nat.le_refl _)) hr hfree.1 hfree.2 hcl (fun _ => hW.si hS) (.inl ⟨wantedA_ok hF hw, fun w' _ => hall w'⟩) (h G0 G _ w GK h0 hl (by rw [hd]; exact hF.put ht hu) (put_defers' a _ u hdf) hW hS hcl')
theorem ARegA.fork2 {all : Array Oper} {ix : List Nat} {f : Nat} {done : List Nat} {i j : Nat} {o p : Oper} (hL : readyN all.toList ix done = [(i, o), (j, p)]) (hr : decide (Region.ready .any all (mkL all.size done) = [i, j]) = true)
    (h1 : ARegA1 Γ nt n0 all ix f i done k Q env H) (h2 : ARegA1 Γ nt n0 all ix f j done k Q env H) : ARegA Γ nt n0 all ix (f + 1) done k Q env H :=
  fun G0 G a w GK h0 hl hF hdf hW hS hcl => by
    have hr' := of_decide_eq_true hr
    refine ⟨fun h => (by rw [hr'] at h; cases h), fun x hx => ?_⟩
    have hx' := hx
    rw [hr'] at hx'
    simp only [List.mem_cons, List.not_mem_nil, or_false] at hx'
    rcases hx' with rfl | rfl
    · exact h1 hx G0 G a w GK h0 hl hF hdf hW hS hcl
    · exact h2 hx G0 G a w GK h0 hl hF hdf hW hS hcl
/-- behind a step -/
def RegA (Γ : Ctx) (nt n0 : Nat) (all : Array Oper) (ix : List Nat) (f : Nat) (done : List Nat) (k : List It) (Q : Post) : Post
  | .normal, env, H => ARegA Γ nt n0 all ix f done k Q env H
  | .panic c, env, H => Q (.panic c) env H
  | .outgrown, env, H => Q .outgrown env H
  | _, _, _ => False
theorem ARegA.back {all : Array Oper} {ix : List Nat} {f : Nat} {done : List Nat} (h : ARegA Γ nt n0 all ix f done k Q env H) : AGo Γ nt n0 [] (RegA Γ nt n0 all ix f done k Q) env H := AGo.done h
theorem ARegA1.step {all : Array Oper} {ix : List Nat} {f : Nat} {done : List Nat} {i : Nat} {o : Oper} (ho : all[i]? = some o)
    (h : AGo Γ nt n0 [.ops all [o]] (RegA Γ nt n0 all ix f (i :: done) k Q) env H) : ARegA1 Γ nt n0 all ix f i done k Q env H :=
  fun hmem G0 G a w GK h0 hl hF hdf hW hS hcl => by
    have hcl' := hcl.set (i := i) hmem
    have his : i < all.size := (Array.getElem?_eq_some_iff.1 ho).1
    have hn := h G G a w (GLe.refl _ _) hl hF hdf hW
    simp only [resm] at hn
    unfold wpOp
    simp only [ho]
    unfold wpList at hn
    have fin : ∀ a' w', Conc Γ nt n0 G (RegA Γ nt n0 all ix f (i :: done) k Q) .normal a' w' → SI GK w' ∧ wpAnyE Γ.P all (resm Γ.P (Conc Γ nt n0 G0 Q) k) (SI GK) all.size f ((mkL all.size done).setIfInBounds i true) a' w' := fun a' w' hc => by
      obtain ⟨G', env', H', c1, c2, c3, c4, c5, c6⟩ := hc
      exact ⟨c5.si (hS.trans c1.imm), c6 G0 G' a' w' GK (h0.trans c1) c2 c3 c4 c5 (hS.trans c1.imm) hcl'⟩
    have pan : ∀ c a w, resm Γ.P (Conc Γ nt n0 G (RegA Γ nt n0 all ix f (i :: done) k Q)) [] (.panic c) a w → resm Γ.P (Conc Γ nt n0 G0 Q) k (.panic c) a w := fun c a w h => by
      rw [resm_panic]
      obtain ⟨G', env', H', c1, c2, c3, c4, c5, c6⟩ := h
      exact ⟨G', env', H', h0.trans c1, c2, c3, c4, c5, c6⟩
    have out : ∀ a w, resm Γ.P (Conc Γ nt n0 G (RegA Γ nt n0 all ix f (i :: done) k Q)) [] .outgrown a w → resm Γ.P (Conc Γ nt n0 G0 Q) k .outgrown a w := fun a w h => by
      rw [resm_outgrown]
      obtain ⟨G', env', H', c1, c2, c3, c4, c5, c6⟩ := h
      exact ⟨G', env', H', h0.trans c1, c2, c3, c4, c5, c6⟩
    split
    · rename_i hw
      rw [if_pos hw] at hn
      rcases hn with hn | ⟨hn, a', w', ho⟩
      · exact .inl (wp_mono2 (fun a' w' h' => by
          have := fin a' w' (by simpa only [wpList, resm] using h')
          exact ⟨fun _ _ => this.1, this.2⟩) pan out hn)
      · exact .inr ⟨hn, a', w', out a' w' ho⟩
    · rename_i hw
      rw [if_neg hw] at hn
      have := fin _ _ (by simpa only [wpList, resm] using hn)
      exact ⟨fun _ _ => this.1, this.2⟩
end
end Go.Proofs.YtbfojhfiemcnpaaDoor.Av

/- Arrays of whole numbers: unlike. -/
set_option linter.unusedVariables false
set_option linter.unusedSimpArgs false
namespace Go.Proofs.YtbfojhfiemcnpaaDoor.Av
open Go Go.RowKit
section
variable {Γ : Ctx} {nt n0 : Nat} {k : List It} {Q : Post} {env : Env} {H : List AObj}
end
end Go.Proofs.YtbfojhfiemcnpaaDoor.Av
