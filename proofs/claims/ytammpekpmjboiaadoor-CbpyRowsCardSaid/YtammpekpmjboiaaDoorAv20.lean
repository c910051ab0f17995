/- Maps with keys that are whole numbers, texts or bools. -/
import Derived.Test.YtammpekpmjboiaaDoorAv19
import Derived.MapKept
set_option linter.unusedVariables false
set_option linter.unusedSimpArgs false
namespace Go.Proofs.YtammpekpmjboiaaDoor.Av
open Go Go.RowKit

def kCmp : D → D → Option Bool
  | .int j a, .int k b => bif decide (j = k) then some (decide (a = b)) else none
  | .str a, .str b => some (decide (a = b))
  | .bool a, .bool b => some (decide (a = b))
  | _, _ => none
/-- the entry of a key -/
def mfind (k : D) : List (D × D) → Nat → Option (Option (Nat × D))
  | [], _ => some none
  | (k', v) :: r, i => match kCmp k k' with
    | some true => some (some (i, v))
    | some false => mfind k r (i + 1)
    | none => none
def keyFits : Sh → D → Bool
  | .int k, .int j _ => decide (j = k)
  | .str, .str _ => true
  | .bool, .bool _ => true
  | _, _ => false
def msetV (es : List (D × D)) (n : Nat) (v : D) : List (D × D) := es.modify n fun p => (p.1, v)

def zeroV (P : Program) (t : TypeId) : Option Value := (P.info? t).bind (·.zero)

section
variable {Γ : Ctx} {G : Ghost} {H : List AObj} {w : World} {nt n0 : Nat} {k : List It} {Q : Post} {env : Env}

theorem kCmp_ok {imm : Nat → List Value} {d : TypeDesc} {kd kd' : D} {u u' : Value} {b : Bool} (hk : MapKept.IsKey d u) (hu : DRel imm u kd) (hu' : DRel imm u' kd') (h : kCmp kd kd' = some b) : Instr.sameNow d u u' = some b := by
  unfold kCmp at h
  split at h
  · rename_i j a k c
    cases hu; cases hu'
    by_cases e : j = k
    · subst e
      rw [decide_eq_true rfl, cond_true] at h
      cases h
      cases d <;> simp [MapKept.IsKey] at hk
      subst hk
      simp only [Instr.sameNow, if_true]
      rw [Option.some.injEq, Bool.eq_iff_iff]; simp
    · rw [decide_eq_false e, cond_false] at h; cases h
  · rename_i a c
    cases h
    cases hu with | str s => cases hu' with | str s' =>
    cases d <;> simp [MapKept.IsKey] at hk
    simp only [Instr.sameNow, Option.some.injEq, beq_toListBytes, ByteArray.toList_eq, beqd]
  · rename_i a c
    cases h
    cases hu; cases hu'
    cases d <;> simp [MapKept.IsKey] at hk
    simp only [Instr.sameNow]
    rw [Option.some.injEq, Bool.eq_iff_iff]; simp
  · cases h
theorem keyFits_ok {imm : Nat → List Value} {P : Program} {t : Nat} {ti : TI} (f : TyFacts P t ti) {kd : D} {u : Value} (h : keyFits ti.sh kd = true) (hu : DRel imm u kd) : MapKept.IsKey f.d u := by
  have hs := f.sh
  unfold keyFits at h
  split at h
  · rename_i hsh
    cases hu
    rw [hsh] at hs
    cases hd : f.d <;> rw [hd] at hs <;> simp [shOk] at hs
    simp at h
    simp [MapKept.IsKey, h, hs]
  · rename_i hsh
    cases hu
    rw [hsh] at hs
    cases hd : f.d <;> rw [hd] at hs <;> simp [shOk] at hs
    simp [MapKept.IsKey]
  · rename_i hsh
    cases hu
    rw [hsh] at hs
    cases hd : f.d <;> rw [hd] at hs <;> simp [shOk] at hs
    simp [MapKept.IsKey]
  · cases h
theorem mfind_ok {imm : Nat → List Value} {d : TypeDesc} {kd : D} {u : Value} (hk : MapKept.IsKey d u) (hu : DRel imm u kd) : ∀ (es : List (D × D)) (ents : List MapEntry) (i : Nat) (r : Option (Nat × D)),
    ents.length = es.length → (∀ (i : Nat) (k v : D), es[i]? = some (k, v) → ∃ en, ents[i]? = some en ∧ DRel imm en.key k ∧ DRel imm en.val v) → mfind kd es i = some r →
    ∃ r', Instr.findNow d u ents i = some r' ∧ match r with
      | some (j, v) => i ≤ j ∧ ∃ v', r' = some (j, v') ∧ DRel imm v' v ∧ (∃ en, ents[j - i]? = some en ∧ en.val = v' ∧ Instr.sameNow d u en.key = some true) ∧ ∃ k', es[j - i]? = some (k', v)
      | none => r' = none
  | [], ents, i, r, hl, hr, h => by
    have : ents = [] := List.eq_nil_of_length_eq_zero (by simpa using hl)
    subst this
    simp only [mfind, Option.some.injEq] at h
    subst h
    exact ⟨none, rfl, rfl⟩
  | (k', v) :: es, [], i, r, hl, hr, h => by simp at hl
  | (k', v) :: es, en :: ents, i, r, hl, hr, h => by
    obtain ⟨en0, e1, e2, e3⟩ := hr 0 k' v rfl
    simp at e1; subst e1
    simp only [mfind] at h
    cases hc : kCmp kd k' with
    | none => rw [hc] at h; cases h
    | some b =>
      have hs := kCmp_ok hk hu e2 hc
      rw [hc] at h
      cases b with
      | true =>
        simp only [Option.some.injEq] at h
        subst h
        refine ⟨some (i, en.val), by simp [Instr.findNow, hs], Nat.le_refl _, en.val, rfl, e3, ⟨en, by simp, rfl, hs⟩, k', by simp⟩
      | false =>
        obtain ⟨r', r1, r2⟩ := mfind_ok hk hu es ents (i + 1) r (by simpa using hl) (fun j k v hj => hr (j + 1) k v (by simpa using hj)) h
        refine ⟨r', by simp [Instr.findNow, hs, r1], ?_⟩
        cases r with
        | none => exact r2
        | some jv =>
          obtain ⟨j, v2⟩ := jv
          obtain ⟨a1, v', a2, a3, ⟨en', a4, a5⟩, k2, a6⟩ := r2
          have e : j - i = (j - (i + 1)) + 1 := by omega
          exact ⟨by omega, v', a2, a3, ⟨en', by rw [e]; simpa using a4, a5⟩, k2, by rw [e]; simpa using a6⟩

theorem und_map {t kt et : Nat} {ti : TI} (f : TyFacts Γ.P t ti) (h : ti.sh = .map kt et) : Γ.P.underlying t = some (.map kt et) := by
  have := f.sh; rw [h] at this
  cases hd : f.d <;> rw [hd] at this <;> simp [shOk] at this
  rw [f.und, hd, this.1, this.2]
theorem run_zeroV {P : Program} {t : TypeId} {z : Value} (h : zeroV P t = some z) (w : World) : (zeroValue t).run P w = .ok z w := by
  unfold zeroV at h
  cases hi : P.info? t with
  | none => simp [hi] at h
  | some i =>
    simp [hi] at h
    simp [zeroValue, typeInfo, hi, h]
/-- what a lookup yields -/
def lookR (ok : Bool) (z : D) : Option (Nat × D) → AV
  | some (_, v) => bif ok then .tup [.d v, .d (.bool true)] else .d v
  | none => bif ok then .tup [.d z, .d (.bool false)] else .d z
theorem tup2_rel {G : Ghost} {u v : Value} {a b : AV} (h1 : VRel G u a) (h2 : VRel G v b) : VRel G (.tuple #[u, v]) (.tup [a, b]) :=
  .tup _ _ rfl fun i c hc => by
    match i, hc with
    | 0, hc => simp at hc; subst hc; exact h1
    | 1, hc => simp at hc; subst hc; exact h2
    | n + 2, hc => simp at hc
theorem quiet_lookup {o : Oper} {T kt et id : Nat} {ti tk te : TI} {x y : Operand} {ok : Bool} {es : List (D × D)} {kd : D} {r : Option (Nat × D)} {zv : Value} {v : AV} (hop : o.op = .lookup T x y ok) (hT : lookT Γ.T T = some ti) (hsh : ti.sh = .map kt et)
    (hK : lookT Γ.T kt = some tk) (hE : lookT Γ.T et = some te) (hx : ev Γ env x = .mp id) (hy : ev Γ env y = .d kd) (hh : hget H id = some (.map es)) (hfit : keyFits tk.sh kd = true) (hz : zeroV Γ.P et = some zv) (hzd : (zD te).val? = some zv)
    (hf : mfind kd es 0 = some r) (hv : lookR ok (zD te) r = v) : QuietTo Γ nt env H o v := by
  subst hv
  intro G a w hW hF
  obtain ⟨f⟩ := Γ.ty hT
  obtain ⟨fk⟩ := Γ.ty hK
  have hu := und_map f hsh
  have hxv := ev_ok hW hF x
  rw [hx] at hxv
  have hyv := ev_ok hW hF y
  rw [hy] at hyv
  rw [hget_eq] at hh
  obtain ⟨b, ents, clock, h1, h2, h3, h4, h6, h7, h5⟩ := hW.obj id _ hh
  generalize hxe : a.eval x = xv at hxv
  generalize hye : a.eval y = yv at hyv
  cases hxv with
  | mp b' _ hb' =>
    rw [h1] at hb'; cases hb'
    cases hyv with
    | d _ _ hyd =>
      have hkey := keyFits_ok fk hfit hyd
      obtain ⟨r', r1, r2⟩ := mfind_ok hkey hyd es ents.toList 0 r (by simpa using h4) (fun i k v hi => by
        obtain ⟨en, e1, e2⟩ := h5 i k v hi
        exact ⟨en, by simpa using e1, e2⟩) hf
      have hlt : b < w.heap.size := (Array.getElem?_eq_some_iff.1 h2).1
      have run : ∀ w', Below w.heap.size w w' → (Instr.lookup T (.map (some b)) yv ok).run Γ.P w' = .ok (let x := match r' with | some (_, v) => (v, true) | none => (zv, false); if ok then .tuple #[x.1, .bool x.2] else x.1) w' := fun w' hb => by
        have hrow := (hb.block b hlt).trans h2
        have hfk := MapKept.run_findKey (P := Γ.P) (w := w') fk.und r1
        have hck := MapKept.run_checkKey (P := Γ.P) (w := w') fk.und hkey ents.isEmpty 9999
        cases r' with
        | none => simp [Instr.lookup, run_underlying hu, MapKept.run_getObj_map hrow, hck, hfk, run_zeroV hz, Result.andThen]
        | some jv => simp [Instr.lookup, run_underlying hu, MapKept.run_getObj_map hrow, hck, hfk, Result.andThen]
      cases r with
      | none =>
        subst r2
        have hzr := (D.val_mk (imm := G.imm) hzd).1
        cases ok with
        | true => exact ⟨_, tup2_rel (.d _ _ hzr) (.d _ _ (.bool _)), fun w' hb => by unfold execOp; simp [hop, hxe, hye, run w' hb]⟩
        | false => exact ⟨_, .d _ _ hzr, fun w' hb => by unfold execOp; simp [hop, hxe, hye, run w' hb]⟩
      | some jv =>
        obtain ⟨j, v⟩ := jv
        obtain ⟨_, v', rfl, hvr, _⟩ := r2
        cases ok with
        | true => exact ⟨_, tup2_rel (.d _ _ hvr) (.d _ _ (.bool _)), fun w' hb => by unfold execOp; simp [hop, hxe, hye, run w' hb]⟩
        | false => exact ⟨_, .d _ _ hvr, fun w' hb => by unfold execOp; simp [hop, hxe, hye, run w' hb]⟩

/-- a map is turned -/
theorem WRel.putMap (hW : WRel Γ.gl G H w) {id b clock clock' : Nat} {es es' : List (D × D)} {ents ents' : Array MapEntry} (hid : H[id]? = some (.map es)) (hb : G.loc id = some b) (hc : w.heap[b]? = some (.map ents clock))
    (h4 : ents'.size = es'.length) (h6 : clock' = ents'.size) (h7 : ∀ (i : Nat) (en : MapEntry), ents'[i]? = some en → en.born = i)
    (h5 : ∀ (i : Nat) (k v : D), es'[i]? = some (k, v) → ∃ en, ents'[i]? = some en ∧ DRel G.imm en.key k ∧ DRel G.imm en.val v) :
    WRel Γ.gl G (H.set id (.map es')) { w with heap := w.heap.setIfInBounds b (.map ents' clock') } := by
  obtain ⟨b0, ents0, clock0, a1, a2, a3, _⟩ := hW.obj id _ hid
  rw [hb] at a1; cases a1
  have hlt := getElem?_lt hid
  obtain ⟨s1, s2⟩ := MapKept.heap_set (o' := .map ents' clock') hc
  refine hW.step (w' := { w with heap := w.heap.setIfInBounds b (.map ents' clock') }) (H' := H.set id (.map es')) (GLe.refl _ _) rfl rfl rfl (by simp) id (.map es') (by simp) (set_get hlt) (fun id' hne => List.getElem?_set_ne (fun e => hne e.symm)) (fun _ _ _ _ => rfl)
    (fun b' hb' hno => ⟨s2 b' (fun e => hno _ hid (by subst e; exact hb)), rfl⟩) (fun b' hb' i hi => ?_) ⟨b, ents', clock', hb, s1, a3, h4, h6, h7, h5⟩
    (fun b' hob => .inr ⟨_, hid, hob⟩) (fun id' hid' => hW.lim id' (by simpa using hid'))
  rcases hb' with hb' | ⟨oj, hj, hob⟩
  · have := hW.imm b' i hi
    have := World.block_lt_of_cell? w _ this
    simp at this; omega
  · rw [hid] at hj; cases hj
    simp only [OB] at hob
    rw [hb] at hob; cases hob
    rw [a3] at hi; simp at hi
theorem WRel.newMap (hW : WRel Γ.gl G H w) : GLe H.length G (G.bind H.length w.heap.size) ∧ WRel Γ.gl (G.bind H.length w.heap.size) (H ++ [.map []]) (w.alloc (.map #[] 0)) := by
  have hle : GLe H.length G (G.bind H.length w.heap.size) := ⟨rfl, rfl, rfl, .refl _, fun id b hid hb => by simp [Ghost.bind, Nat.ne_of_lt hid, hb], fun id n v _ hb => hb⟩
  have immz := imm_new hW
  refine ⟨hle, hW.step (w' := w.alloc (.map #[] 0)) (H' := H ++ [.map []]) hle rfl rfl rfl (by simp) H.length (.map []) (by simp) (by simp) (fun id hne => ?_) (fun id _ _ k => rfl) (fun b hb _ => ⟨(MapKept.heap_alloc w _).2 b hb, rfl⟩) (fun b hb i hi => ?_) ?_ (fun b hb => ?_) (fun id hid => ?_)⟩
  · rcases Nat.lt_or_ge id H.length with h | h
    · exact List.getElem?_append_left h
    · rw [List.getElem?_eq_none (by simp; omega), List.getElem?_eq_none h]
  · rcases hb with hb | ⟨oj, hj, _⟩
    · have e : G.imm b = [] := imm_late hW hb
      have hi' : i < (G.imm b).length := hi
      rw [e] at hi'; simp at hi'
    · simp at hj
  · exact ⟨w.heap.size, #[], 0, by simp [Ghost.bind], (MapKept.heap_alloc w _).1, immz, rfl, rfl, fun i en h => by simp at h, fun i k v h => by simp at h⟩
  · simp only [OB, Ghost.bind, if_true] at hb
    cases hb; exact .inl (Nat.le_refl _)
  · simp only [List.length_append, List.length_singleton] at hid
    refine ⟨?_, (hW.lim id (by omega)).2⟩
    simp only [Ghost.bind, if_neg (show ¬ id = H.length by omega)]
    exact (hW.lim id (by omega)).1
theorem AGo.makeMap {all : Array Oper} {o : Oper} {l : List Oper} {t T : Nat} (hop : o.op = .makeMap T none) (hg : o.guard = none) (hd : o.dst = some t) (ht : Nat.ble (t + 1) nt = true)
    (h : AGo Γ nt n0 (.ops all l :: k) Q ((t, .mp H.length) :: env) (H ++ [.map []])) : AGo Γ nt n0 (.ops all (o :: l) :: k) Q env H :=
  fun G0 G a w h0 hl hF hdf hW => by
    obtain ⟨g1, g2⟩ := hW.newMap
    have hv : VRel (G.bind H.length w.heap.size) (.map (some w.heap.size)) (.mp H.length) := .mp _ _ (by simp [Ghost.bind])
    have hn := h G0 _ (a.put (some t) (.map (some w.heap.size))) _ (h0.trans (g1.weaken hl)) (by simp; omega) ((hF.up g1 hW.lim).put ht hv) (by simp [Act.put, hdf]) g2
    simp only [resm] at hn ⊢
    unfold wpList
    rw [if_pos (wanted_none hg)]
    refine .inl ?_
    have hr : (execOp a.eval o).run Γ.P w = .ok (.value (.map (some w.heap.size))) (w.alloc (.map #[] 0)) := by
      unfold execOp
      simp [hop, run_makeMap]
    unfold Oper.wp
    rw [hr]
    simp only [Oper.upon, hd]
    exact hn
end
end Go.Proofs.YtammpekpmjboiaaDoor.Av
