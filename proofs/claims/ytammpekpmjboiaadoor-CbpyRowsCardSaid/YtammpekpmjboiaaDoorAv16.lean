/- Further quiet steps: any operation that is shown quiet; equality of arrays of whole numbers. -/
import Derived.Test.YtammpekpmjboiaaDoorAv15
import Derived.ChangeKeysEq
set_option linter.unusedVariables false
set_option linter.unusedSimpArgs false
namespace Go.Proofs.YtammpekpmjboiaaDoor.Av
open Go Go.RowKit

/-- An operation that is quiet here, and what it yields. -/
def QuietTo (Γ : Ctx) (nt : Nat) (env : Env) (H : List AObj) (o : Oper) (v : AV) : Prop :=
  ∀ (G : Ghost) (a : Act) (w : World), WRel Γ.gl G H w → FRel G nt a.tmps env → ∃ u, VRel G u v ∧ ∀ w', Below w.heap.size w w' → (execOp a.eval o).run Γ.P w' = .ok (.value u) w'

section
variable {Γ : Ctx} {nt n0 : Nat} {k : List It} {Q : Post} {env : Env} {H : List AObj}

theorem AGo.opx {all : Array Oper} {o : Oper} {l : List Oper} {t : Nat} {v : AV} (hx : QuietTo Γ nt env H o v) (hg : o.guard = none) (hd : o.dst = some t) (ht : Nat.ble (t + 1) nt = true)
    (h : AGo Γ nt n0 (.ops all l :: k) Q ((t, v) :: env) H) : AGo Γ nt n0 (.ops all (o :: l) :: k) Q env H :=
  fun G0 G a w h0 hl hF hdf hW => by
    obtain ⟨u, hu, hr⟩ := hx G a w hW hF
    have hn := h G0 G (a.put (some t) u) w h0 hl (hF.put ht hu) (by simp [Act.put, hdf]) hW
    simp only [resm] at hn ⊢
    unfold wpList
    rw [if_pos (wanted_none hg)]
    refine .inl ?_
    unfold Oper.wp
    rw [hr w (Below.refl _ _)]
    simp only [Oper.upon, hd]
    exact hn
theorem AGo.qopx {all : Array Oper} {o : Oper} {l : List Oper} {t : Nat} {v : AV} (hx : QuietTo Γ nt env H o v) (hg : o.guard = none) (hd : o.dst = some t) (ht : Nat.ble (t + 1) nt = true)
    (h : AGo Γ nt n0 (.qops all l :: k) Q ((t, v) :: env) H) : AGo Γ nt n0 (.qops all (o :: l) :: k) Q env H :=
  fun G0 G a w h0 hl hF hdf hW => by
    obtain ⟨u, hu, hr⟩ := hx G a w hW hF
    have hn := h G0 G (a.put (some t) u) w h0 hl (hF.put ht hu) (by simp [Act.put, hdf]) hW
    simp only [resm] at hn ⊢
    unfold wpQuiet
    rw [if_pos (wanted_none hg)]
    refine ⟨u, fun w' hb => ?_, by rw [hd]; exact hn⟩
    unfold Oper.quietAt
    rw [hr w' hb]
    exact ⟨rfl, rfl⟩

theorem AGo.sopx {all : Array Oper} {o : Oper} {l : List Oper} {t : Nat} {v : AV} (hx : QuietTo Γ nt env H o v) (hg : o.guard = none) (hd : o.dst = some t) (ht : Nat.ble (t + 1) nt = true)
    (h : AGo Γ nt n0 (.sops all l :: k) Q ((t, v) :: env) H) : AGo Γ nt n0 (.sops all (o :: l) :: k) Q env H :=
  fun G0 G a w h0 hl hF hdf hW => by
    obtain ⟨u, hu, hr⟩ := hx G a w hW hF
    have hn := h G0 G (a.put (some t) u) w h0 hl (hF.put ht hu) (by simp [Act.put, hdf]) hW
    simp only [resm] at hn ⊢
    unfold wpStill
    rw [if_pos (wanted_none hg)]
    unfold Oper.still
    rw [hr w (Below.refl _ _), Oper.stillUpon_value, hd]
    exact hn

/-! ### Arrays of whole numbers -/
def intsOf (k : IntKind) : List D → Option (List Int)
  | [] => some []
  | .int k' n :: r => bif decide (k = k') then (match intsOf k r with | some l => some (n :: l) | none => none) else none
  | _ :: _ => none
theorem intsOf_eq {k : IntKind} : ∀ {cs : List D} {xs : List Int}, intsOf k cs = some xs → cs = xs.map (.int k)
  | [], xs, h => by simp [intsOf] at h; subst h; rfl
  | .int k' n :: r, xs, h => by
    simp only [intsOf] at h
    by_cases e : k = k'
    · subst e
      rw [decide_eq_true rfl, cond_true] at h
      split at h
      · rename_i l hl
        cases h
        rw [intsOf_eq hl]; rfl
      · cases h
    · rw [decide_eq_false e, cond_false] at h; cases h
  | .bool _ :: _, _, h => by simp [intsOf] at h
  | .str _ :: _, _, h => by simp [intsOf] at h
  | .nilp :: _, _, h => by simp [intsOf] at h
  | .nils :: _, _, h => by simp [intsOf] at h
  | .sl _ _ :: _, _, h => by simp [intsOf] at h
  | .agg _ :: _, _, h => by simp [intsOf] at h
  | .iptr _ :: _, _, h => by simp [intsOf] at h
  | .top :: _, _, h => by simp [intsOf] at h
theorem ints_val {G : Ghost} {u : Value} {k : IntKind} {cs : List D} {xs : List Int} (h : VRel G u (.d (.agg cs))) (hc : intsOf k cs = some xs) : u = .agg (xs.map (Value.int k)).toArray := by
  rw [intsOf_eq hc] at h
  cases h with
  | d _ _ h =>
    cases h with
    | agg vs _ hl hone h =>
      congr 1
      apply Array.ext'
      apply List.ext_getElem?
      intro i
      simp only [List.getElem?_map]
      rw [List.length_map] at hl
      by_cases hi : i < xs.length
      · have := h i (.int k xs[i]) (by simp [hi])
        have e : vs.toList[i]? = some (gv vs.toList i) := gv_of_get (by simp; omega)
        rw [e]
        generalize gv vs.toList i = z at this
        cases this
        simp [hi]
      · rw [List.getElem?_eq_none (by simp; omega), List.getElem?_eq_none (l := xs) (by omega)]; rfl
theorem eqItems_ints {P : Program} {e : TypeId} {k k' : IntKind} (d : Nat) (hu : P.underlying e = some (.int k')) (xs ys : List Int) (w : World) : ∀ (is : List Nat), (∀ i ∈ is, i < xs.length) → (∀ i ∈ is, i < ys.length) →
    (Op.eqItems (d + 1) e 1 (xs.map (Value.int k)).toArray (ys.map (Value.int k)).toArray is).run P w = .ok (is.all fun i => xs.getD i 0 == ys.getD i 0) w
  | [], _, _ => by simp [Op.eqItems]
  | i :: is, hx, hy => by
    have h1 := hx i (by simp)
    have h2 := hy i (by simp)
    have hp : P.plainKey e = true := by simp [Program.plainKey, hu]
    have p1 := run_part_plain (P := P) w hp (xs := (xs.map (Value.int k)).toArray) (off := i) (v := .int k (xs.getD i 0)) (by simp [List.getD, h1])
    have p2 := run_part_plain (P := P) w hp (xs := (ys.map (Value.int k)).toArray) (off := i) (v := .int k (ys.getD i 0)) (by simp [List.getD, h2])
    have ih := eqItems_ints (k := k) d hu xs ys w is (fun j hj => hx j (by simp [hj])) (fun j hj => hy j (by simp [hj]))
    simp only [Op.eqItems, Sem.run_bind, Nat.mul_one, p1, p2, Result.andThen_ok, run_equalIn_int w d e k k' _ _ hu, List.all_cons]
    cases hb : (xs.getD i 0 == ys.getD i 0) with
    | false => simp
    | true => simpa using ih
theorem all_range_iff (xs ys : List Int) (n : Nat) (hx : xs.length = n) (hy : ys.length = n) : (List.range n).all (fun i => xs.getD i 0 == ys.getD i 0) = decide (xs = ys) := by
  rw [Bool.eq_iff_iff, List.all_eq_true, decide_eq_true_iff]
  constructor
  · intro h
    apply List.ext_getElem (by omega)
    intro i h1 h2
    have := h i (by simp; omega)
    simpa [List.getD, h1, h2] using this
  · rintro rfl i _
    simp
theorem eqInts_run {op : BinOp} {T e n : Nat} {k : IntKind} {xs ys : List Int} {ti te : TI} {x y : Operand} (hT : lookT Γ.T T = some ti) (hsh : ti.sh = .array n e) (hE : lookT Γ.T e = some te)
    (hesh : te.sh = .int k) (hag : te.agg = false) (hn : xs.length = n) (hm : ys.length = n) (w : World) :
    (eqGuard op T x y (.agg (xs.map (Value.int k)).toArray) (.agg (ys.map (Value.int k)).toArray)).run Γ.P w = .ok () w ∧
    (binOp .eql T (.agg (xs.map (Value.int k)).toArray) (.agg (ys.map (Value.int k)).toArray)).run Γ.P w = .ok (.bool (decide (xs = ys))) w ∧
    (binOp .neq T (.agg (xs.map (Value.int k)).toArray) (.agg (ys.map (Value.int k)).toArray)).run Γ.P w = .ok (.bool (!decide (xs = ys))) w := by
  obtain ⟨f⟩ := Γ.ty hT
  obtain ⟨fe⟩ := Γ.ty hE
  have hu := und_array f hsh
  have hue := und_int fe hesh
  have hgt : Γ.P.eqGuardType Γ.P.depth T = false := by
    have : ∃ m, Γ.P.depth = m + 2 := ⟨_, rfl⟩
    obtain ⟨m, hm⟩ := this
    rw [hm]
    simp [Program.eqGuardType, hu, hue]
  have hg := run_eqGuard_agg (P := Γ.P) w op T x y (xs.map (Value.int k)).toArray (ys.map (Value.int k)).toArray hgt
  have hc : Γ.P.cellsOf e = 1 := by simp [Program.cellsOf, fe.info, fe.size, fe.one hag]
  have he : (Op.equalIn 10000 T (.agg (xs.map (Value.int k)).toArray) (.agg (ys.map (Value.int k)).toArray)).run Γ.P w = .ok (decide (xs = ys)) w := by
    rw [show (10000 : Nat) = 9998 + 1 + 1 from rfl, run_equalIn_array w (9998 + 1) _ _ hu fe.info, hc, eqItems_ints 9998 hue xs ys w (List.range n) (by simp; omega) (by simp; omega), all_range_iff xs ys n hn hm]
  exact ⟨hg, by simp only [run_eql_struct, he, Result.andThen_ok], by simp only [run_neq_struct, he, Result.andThen_ok]⟩
theorem quiet_eqInts {o : Oper} {T T' e n : Nat} {k : IntKind} {xs ys : List Int} {cs ds : List D} {ti te : TI} {x y : Operand} (hop : o.op = .binOp .eql T x y T') (hx : ev Γ env x = .d (.agg cs)) (hy : ev Γ env y = .d (.agg ds))
    (hT : lookT Γ.T T = some ti) (hsh : ti.sh = .array n e) (hE : lookT Γ.T e = some te) (hesh : te.sh = .int k) (hag : te.agg = false) (h1 : intsOf k cs = some xs) (h2 : intsOf k ds = some ys)
    (hn : xs.length = n) (hm : ys.length = n) : QuietTo Γ nt env H o (.d (.bool (decide (xs = ys)))) := by
  intro G a w hW hF
  refine ⟨_, .d _ _ (.bool _), fun w' hb => ?_⟩
  have e1 := ev_ok hW hF x
  have e2 := ev_ok hW hF y
  rw [hx] at e1
  rw [hy] at e2
  have v1 := ints_val e1 h1
  have v2 := ints_val e2 h2
  obtain ⟨g1, g2, _⟩ := eqInts_run (op := .eql) (x := x) (y := y) hT hsh hE hesh hag hn hm w'
  unfold execOp
  simp [hop, v1, v2, g1, g2]
theorem AGo.eqInts {all : Array Oper} {o : Oper} {l : List Oper} {t T T' e n : Nat} {k' : IntKind} {xs ys : List Int} {cs ds : List D} {ti te : TI} {x y : Operand} (hop : o.op = .binOp .eql T x y T') (hg : o.guard = none) (hd : o.dst = some t) (ht : Nat.ble (t + 1) nt = true)
    (hx : ev Γ env x = .d (.agg cs)) (hy : ev Γ env y = .d (.agg ds)) (hT : lookT Γ.T T = some ti) (hsh : ti.sh = .array n e) (hE : lookT Γ.T e = some te) (hesh : te.sh = .int k') (hag : te.agg = false)
    (h1 : intsOf k' cs = some xs) (h2 : intsOf k' ds = some ys) (hn : xs.length = n) (hm : ys.length = n)
    (h : AGo Γ nt n0 (.ops all l :: k) Q ((t, .d (.bool (decide (xs = ys)))) :: env) H) : AGo Γ nt n0 (.ops all (o :: l) :: k) Q env H :=
  AGo.opx (quiet_eqInts hop hx hy hT hsh hE hesh hag h1 h2 hn hm) hg hd ht h
theorem AGo.qeqInts {all : Array Oper} {o : Oper} {l : List Oper} {t T T' e n : Nat} {k' : IntKind} {xs ys : List Int} {cs ds : List D} {ti te : TI} {x y : Operand} (hop : o.op = .binOp .eql T x y T') (hg : o.guard = none) (hd : o.dst = some t) (ht : Nat.ble (t + 1) nt = true)
    (hx : ev Γ env x = .d (.agg cs)) (hy : ev Γ env y = .d (.agg ds)) (hT : lookT Γ.T T = some ti) (hsh : ti.sh = .array n e) (hE : lookT Γ.T e = some te) (hesh : te.sh = .int k') (hag : te.agg = false)
    (h1 : intsOf k' cs = some xs) (h2 : intsOf k' ds = some ys) (hn : xs.length = n) (hm : ys.length = n)
    (h : AGo Γ nt n0 (.qops all l :: k) Q ((t, .d (.bool (decide (xs = ys)))) :: env) H) : AGo Γ nt n0 (.qops all (o :: l) :: k) Q env H :=
  AGo.qopx (quiet_eqInts hop hx hy hT hsh hE hesh hag h1 h2 hn hm) hg hd ht h
end
end Go.Proofs.YtammpekpmjboiaaDoor.Av
