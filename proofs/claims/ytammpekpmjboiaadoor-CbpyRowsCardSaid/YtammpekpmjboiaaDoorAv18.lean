/- make of a slice that grows by append: a row of its own. -/
import Derived.Test.YtammpekpmjboiaaDoorAv16
import Derived.Laws.MakeOwn
set_option linter.unusedVariables false
set_option linter.unusedSimpArgs false
namespace Go.Proofs.YtammpekpmjboiaaDoor.Av
open Go Go.RowKit

theorem WRel.made {gl : List (Nat × List D)} {G : Ghost} {H : List AObj} {w : World} (hW : WRel gl G H w) {e sz cap n : Nat} {cur : Array Value} {xs : List Value} (hsz : cur.size = cap * sz) (hn : n ≤ cap) (hc : cap ≤ maxLen)
    (hx : cur.toList.take (n * sz) = xs) :
    GLe H.length G (G.app H.length n (.slice (some ⟨w.heap.size, 0, none⟩) n cap) xs) ∧ WRel gl (G.app H.length n (.slice (some ⟨w.heap.size, 0, none⟩) n cap) xs) (H ++ [.front e sz n]) (w.alloc (.cells cur e)) := by
  have hlen : xs.length = n * sz := by
    have : n * sz ≤ cap * sz := Nat.mul_le_mul_right _ hn
    rw [← hx, List.length_take, Array.length_toList, hsz]; omega
  have hown' : (w.alloc (.cells cur e)).ownsRow 0 e sz (.slice (some ⟨w.heap.size, 0, none⟩) n cap) n xs :=
    ⟨hlen, .inr ⟨_, _, _, rfl, Nat.zero_le _, heap_alloc_new w _, hn, hc, hsz, hx⟩⟩
  have hIm : ImmLe G.imm (G.app H.length n (.slice (some ⟨w.heap.size, 0, none⟩) n cap) xs).imm := fun b => by
    simp only [Ghost.app]
    split
    · rename_i hb
      simp only [Value.ownBlock, Option.some.injEq] at hb
      subst hb
      rw [imm_late hW (Nat.le_refl _)]; exact List.nil_prefix
    · exact List.prefix_refl _
  have hle : GLe H.length G (G.app H.length n (.slice (some ⟨w.heap.size, 0, none⟩) n cap) xs) := ⟨rfl, rfl, rfl, hIm, fun _ _ _ h => h, fun id k u hid hu => by
    simp only [Ghost.app]
    rw [if_neg (by omega)]; exact hu⟩
  have hcells : ∀ i, i < xs.length → (w.alloc (.cells cur e)).cell? ⟨w.heap.size, i, none⟩ = some (gv xs i) := fun i hi => by
    have := hown'.cells (g := w.heap.size) rfl i (gv xs i) (gv_of_get hi)
    rwa [addr_add, Nat.zero_add] at this
  refine ⟨hle, hW.step (w' := w.alloc (.cells cur e)) hle rfl rfl rfl (by simp) H.length (.front e sz n) (H ++ [.front e sz n]) (by simp) (by simp) (fun id hne => ?_) ?_ ?_ ?_ ?_ ?_ ?_⟩
  · rcases Nat.lt_or_ge id H.length with h | h
    · rw [List.getElem?_append_left h]
    · rw [List.getElem?_eq_none (by simp; omega), List.getElem?_eq_none h]
  · intro id _ hne k
    simp only [Ghost.app]
    rw [if_neg (fun h => hne h.1)]
  · intro b hb _
    refine ⟨heap_alloc_old w _ hb, ?_⟩
    simp only [Ghost.app]
    rw [if_neg (by simp [Value.ownBlock]; omega)]
  · intro b hb i hi
    simp only [Ghost.app] at hi ⊢
    by_cases hbs : b = w.heap.size
    · subst hbs
      rw [if_pos (by simp [Value.ownBlock])] at hi ⊢
      exact hcells i hi
    · rw [if_neg (by simp [Value.ownBlock]; omega)] at hi ⊢
      rcases hb with hb | ⟨oj, o1, o2⟩
      · rw [imm_late hW hb] at hi; simp at hi
      · rw [List.getElem?_eq_none (Nat.le_refl _)] at o1; cases o1
  · exact ⟨_, xs, by simp [Ghost.app], hown', fun b hb => by simp [Ghost.app, hb], fun k hk => by
      simp only [Ghost.app]
      rw [if_neg (by omega)]
      exact (hW.lim _ (Nat.le_refl _)).2 k⟩
  · rintro b ⟨u, u1, u2⟩
    simp only [Ghost.app, and_self, if_true, Option.some.injEq] at u1
    subst u1
    simp only [Value.ownBlock, Option.some.injEq] at u2
    exact .inl (by omega)
  · intro id hid
    obtain ⟨l1, l2⟩ := hW.lim id (by simp at hid; omega)
    refine ⟨l1, fun q => ?_⟩
    simp only [Ghost.app]
    rw [if_neg (by simp at hid; omega)]
    exact l2 q

/-- a nought of some type -/
def zD (te : TI) : D := bif te.agg then .agg te.zero else te.zero.headD .top
theorem madeCells_get (z : Array Value) (m i : Nat) (hi : i < m) : gv (madeCells z m).toList i = z[i % z.size]! := by
  simp [gv, madeCells, List.getD, hi]
theorem zD_cells {P : Program} {t : Nat} {te : TI} (f : TyFacts P t te) : (zD te).cells = te.zero := by
  unfold zD
  cases ha : te.agg with
  | true => rfl
  | false =>
    have h1 := f.zlen
    rw [f.one ha] at h1
    have hz := (zeroOk_rel (imm := fun _ => []) f.zok).2.1
    match hq : te.zero, h1 with
    | [c], _ =>
      have := hz c (by simp [hq])
      simp only [cond_false, List.headD_cons]
      cases c <;> first | rfl | (simp [D.one] at this)
theorem made_rel {P : Program} {imm : Nat → List Value} {t : Nat} {te : TI} (f : TyFacts P t te) (n cap : Nat) (hn : n ≤ cap) :
    RowsRel imm te.size (List.replicate n (zD te)) ((madeCells f.z.cells (cap * te.size)).toList.take (n * te.size)) := by
  obtain ⟨z1, z2, z3⟩ := zeroOk_rel (imm := imm) f.zok
  have hzs : f.z.cells.size = te.size := by rw [f.zlen] at z1; simpa using z1
  have hle : n * te.size ≤ cap * te.size := Nat.mul_le_mul_right _ hn
  have hc := zD_cells f
  refine ⟨by simp only [List.length_take, Array.length_toList, size_madeCells, List.length_replicate]; omega, fun e he => ?_, fun e he => ?_, fun i e j c hi hj => ?_⟩
  · rw [List.eq_of_mem_replicate he, hc, f.zlen]
  · rw [List.eq_of_mem_replicate he, hc]; exact z2
  · have hin := getElem?_lt hi
    rw [List.length_replicate] at hin
    have he := List.eq_of_mem_replicate (List.mem_of_getElem? hi)
    rw [he, hc] at hj
    have hjl : j < te.size := by rw [← f.zlen]; exact getElem?_lt hj
    have hk := idx_lt hin hjl
    have e1 : gv ((madeCells f.z.cells (cap * te.size)).toList.take (n * te.size)) (i * te.size + j) = gv f.z.cells.toList j := by
      have e2 : gv ((madeCells f.z.cells (cap * te.size)).toList.take (n * te.size)) (i * te.size + j) = gv (madeCells f.z.cells (cap * te.size)).toList (i * te.size + j) := by
        simp only [gv, List.getD, List.getElem?_take]; rw [if_pos hk]
      have hk2 : i * te.size + j < cap * te.size := Nat.lt_of_lt_of_le hk hle
      rw [e2, madeCells_get _ _ _ hk2, hzs, Nat.mul_comm, Nat.mul_add_mod, Nat.mod_eq_of_lt hjl]
      have : j < f.z.cells.size := by omega
      simp [gv, List.getD, this]
    rw [e1]; exact z3 j c hj

section
variable {Γ : Ctx} {nt n0 : Nat} {k : List It} {Q : Post} {env : Env} {H : List AObj}
theorem AGo.makeF {all : Array Oper} {o : Oper} {l : List Oper} {t T e : Nat} {te ti : TI} {x y : Operand} {kl kc : IntKind} {n c : Int} (hop : o.op = .makeSlice T x y) (hg : o.guard = none) (hd : o.dst = some t) (ht : Nat.ble (t + 1) nt = true)
    (hT : lookT Γ.T T = some ti) (hsh : ti.sh = .slice e) (hE : lookT Γ.T e = some te) (hx : ev Γ env x = .d (.int kl n)) (hy : ev Γ env y = .d (.int kc c)) (hlim : (0 ≤ n ∧ n ≤ c) ∧ (te.bytes : Int) * c ≤ 281474976710656 ∧ c ≤ 9223372036854775807)
    (h : AGo Γ nt n0 (.ops all l :: k) Q ((t, .own te.size (List.replicate n.toNat (zD te)) H.length) :: env) (H ++ [.front e te.size n.toNat])) : AGo Γ nt n0 (.ops all (o :: l) :: k) Q env H :=
  fun G0 G a w h0 hl hF hdf hW => by
    obtain ⟨f⟩ := Γ.ty hT
    obtain ⟨fe⟩ := Γ.ty hE
    have e1 := ev_ok hW hF x
    rw [hx] at e1
    have v1 := e1.int_inv
    have e2 := ev_ok hW hF y
    rw [hy] at e2
    have v2 := e2.int_inv
    have hr := run_make (P := Γ.P) w T e fe.i fe.z (und_slice f hsh) fe.info fe.hz kl kc n c hlim.1.1 hlim.1.2 (by rw [fe.bytes]; exact hlim.2.1) hlim.2.2
    rw [fe.size] at hr
    have hnc : n.toNat ≤ c.toNat := by omega
    obtain ⟨g1, g2⟩ := hW.made (e := e) (sz := te.size) (cap := c.toNat) (n := n.toNat) (cur := madeCells fe.z.cells (c.toNat * te.size)) (size_madeCells _ _) hnc (by simp only [maxLen]; omega) rfl
    have hrr := made_rel (imm := (G.app H.length n.toNat (.slice (some ⟨w.heap.size, 0, none⟩) n.toNat c.toNat) ((madeCells fe.z.cells (c.toNat * te.size)).toList.take (n.toNat * te.size))).imm) fe n.toNat c.toNat hnc
    have hv : VRel (G.app H.length n.toNat (.slice (some ⟨w.heap.size, 0, none⟩) n.toNat c.toNat) ((madeCells fe.z.cells (c.toNat * te.size)).toList.take (n.toNat * te.size))) (.slice (some ⟨w.heap.size, 0, none⟩) n.toNat c.toNat) (.own te.size (List.replicate n.toNat (zD te)) H.length) := by
      refine .own _ _ _ _ (by simp [Ghost.app]) ?_
      have := hrr.drel (b := w.heap.size) (cap := c.toNat) (by simp [Ghost.app, Value.ownBlock]) (by simpa using hnc)
      rwa [List.length_replicate] at this
    have hn := h G0 _ (a.put (some t) (.slice (some ⟨w.heap.size, 0, none⟩) n.toNat c.toNat)) _ (h0.trans (g1.weaken hl)) (by simp; omega) ((hF.up g1 hW.lim).put ht hv) (by simp [Act.put, hdf]) g2
    simp only [resm] at hn ⊢
    unfold wpList
    rw [if_pos (wanted_none hg)]
    refine .inl ?_
    have hr' : (execOp a.eval o).run Γ.P w = .ok (.value (.slice (some ⟨w.heap.size, 0, none⟩) n.toNat c.toNat)) (w.alloc (.cells (madeCells fe.z.cells (c.toNat * te.size)) e)) := by
      unfold execOp
      simp [hop, v1, v2, hr]
    unfold Oper.wp
    rw [hr']
    simp only [Oper.upon, hd]
    exact hn
end
end Go.Proofs.YtammpekpmjboiaaDoor.Av
