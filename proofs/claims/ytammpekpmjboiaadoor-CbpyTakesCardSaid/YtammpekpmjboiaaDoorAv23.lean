/- The steps of a tail. -/
import Derived.Test.YtammpekpmjboiaaDoorAv22
set_option linter.unusedVariables false
set_option linter.unusedSimpArgs false
namespace Go.Proofs.YtammpekpmjboiaaDoor.Av
open Go Go.RowKit
section
variable {Γ : Ctx} {G : Ghost} {H : List AObj} {w : World} {nt n0 : Nat} {k : List It} {Q : Post} {env : Env}
theorem StepR.q {ws : List Nat} {o : Oper} (nn : Bool) {t : Nat} {c : Prop} {v : AV} (hg : o.guard = none) (hd : o.dst = some t) (ht : Nat.ble (t + 1) nt = true)
    (hq : qop Γ nn o.op env H = some (c, v)) (hc : c) : StepR Γ nt ws env H o ((t, v) :: env) H := by
  refine ⟨hg, rfl, fun G a w hW hF => ?_⟩
  obtain ⟨u, hu, hr⟩ := qop_ok hW hF hq hc
  exact ⟨u, w, .inl (hr w (Below.refl _ _)), hW, by rw [hd]; exact hF.put ht hu, fun b _ _ => rfl, rfl⟩
theorem StepR.mapEntry {ws : List Nat} {o : Oper} {t T kt et id : Nat} {ti tk te : TI} {x y : Operand} {es : List (D × D)} {kd : D} {r : Option (Nat × D)} {zv : Value} (hop : o.op = .mapEntry T x y) (hg : o.guard = none) (hd : o.dst = some t) (ht : Nat.ble (t + 1) nt = true)
    (hT : lookT Γ.T T = some ti) (hsh : ti.sh = .map kt et) (hK : lookT Γ.T kt = some tk) (hx : ev Γ env x = .mp id) (hy : ev Γ env y = .d kd) (hE : lookT Γ.T et = some te) (hzd : (zD te).val? = some zv) (hz : zeroV Γ.P et = some zv) (hh : hget H id = some (.map es)) (hfit : keyFits tk.sh kd = true) (hf : mfind kd es 0 = some r)
    (hid : ws.contains id = true) : StepR Γ nt ws env H o ((t, mentR es (zD te) r) :: env) (H.set id (.map (ment es kd (zD te) r))) := by
    refine ⟨hg, by simp, fun G a w hW hF => ?_⟩
    obtain ⟨f⟩ := Γ.ty hT
    obtain ⟨fk⟩ := Γ.ty hK
    have hu := und_map f hsh
    have hxv := ev_ok hW hF x
    rw [hx] at hxv
    have hyv := ev_ok hW hF y
    rw [hy] at hyv
    have hzr := (D.val_mk (imm := G.imm) hzd).1
    rw [hget_eq] at hh
    obtain ⟨b, ents, clock, h1, h2, h3, h4, h6, h7, h5⟩ := hW.obj id _ hh
    generalize hxe : a.eval x = xv at hxv
    generalize hye : a.eval y = yv at hyv
    cases hxv with
    | mp b' _ hb' =>
      rw [h1] at hb'; cases hb'
      cases hyv with
      | d _ _ hyd =>
        have hkey := keyFits_ok fk hfit hyd
        obtain ⟨r', r1, r2⟩ := mfind_ok hkey hyd es ents.toList 0 r (by simpa using h4) (fun i k v hi => by
          obtain ⟨en, e1, e2⟩ := h5 i k v hi
          exact ⟨en, by simpa using e1, e2⟩) hf
        have hfk := MapKept.run_findKey (P := Γ.P) (w := w) fk.und r1
        have hck := MapKept.run_checkKey (P := Γ.P) (w := w) fk.und hkey false 9999
        have fin : ∀ (ents' : Array MapEntry) (clock' : Nat) (rv : Value), VRel G rv (mentR es (zD te) r) → ents'.size = (ment es kd (zD te) r).length → clock' = ents'.size → (∀ (i : Nat) (en : MapEntry), ents'[i]? = some en → en.born = i) →
            (∀ (i : Nat) (k v : D), (ment es kd (zD te) r)[i]? = some (k, v) → ∃ en, ents'[i]? = some en ∧ DRel G.imm en.key k ∧ DRel G.imm en.val v) →
            (Instr.mapEntry T (.map (some b)) yv).run Γ.P w = .ok rv { w with heap := w.heap.setIfInBounds b (.map ents' clock') } → (∃ u w', ((execOp a.eval o).run Γ.P w = .ok (.value u) w' ∨ (u = undef ∧ (execOp a.eval o).run Γ.P w = .ok .skip w')) ∧ WRel Γ.gl G (H.set id (.map (ment es kd (zD te) r))) w' ∧ FRel G nt (a.put o.dst u).tmps ((t, mentR es (zD te) r) :: env) ∧ KB G ws w w' ∧ w'.heap.size = w.heap.size) := fun ents' clock' rv hrv p1 p2 p3 p4 hrun => by
          have hW' := hW.putMap hh h1 h2 p1 p2 p3 p4
          have hr : (execOp a.eval o).run Γ.P w = .ok (.value rv) { w with heap := w.heap.setIfInBounds b (.map ents' clock') } := by
            unfold execOp
            simp [hop, hxe, hye, hrun]
          refine ⟨rv, _, .inl hr, hW', ?_, fun b' hb' hn => (MapKept.heap_set h2).2 b' (fun e => hn id (by simpa using hid) (by rw [e]; exact h1)), by simp⟩
          rw [hd]; exact hF.put ht hrv
        cases r with
        | none =>
          subst r2
          obtain ⟨p1, p2, p3⟩ := ents_push h4 h7 h5 hyd hzr
          rw [← h6] at p1 p2 p3
          exact fin _ (clock + 1) (.tuple #[zv, goInt clock]) (by rw [h6, h4]; exact tup2_rel (.d _ _ hzr) (.d _ _ (.int ..))) p1 (by simp [h6]) p2 p3 (by simp [Instr.mapEntry, run_underlying hu, run_zeroV hz, MapKept.run_getObj_map h2, hck, hfk, MapKept.run_setObj_map _ h2, Result.andThen])
        | some jv =>
          obtain ⟨j, v⟩ := jv
          obtain ⟨_, v', rfl, hvr, ⟨en, e1, e2, e3⟩, k', e4⟩ := r2
          rw [Nat.sub_zero] at e4
          rw [Nat.sub_zero] at e1
          have e1' : ents[j]? = some en := by simpa using e1
          have ek := sameNow_eq hkey e3
          obtain ⟨p1, p2, p3⟩ := ents_mod h4 h7 h5 j (fun e => { e with key := yv }) v (fun _ => rfl) (fun en0 k0 hq hkd => by
            rw [e1'] at hq; cases hq
            rw [ek] at hkd
            exact ⟨hkd, by rw [e2]; exact hvr⟩)
          rw [msetV_self es j k' v e4] at p1 p3
          have hbn := h7 j en e1'
          exact fin _ clock (.tuple #[v', goInt en.born]) (by rw [hbn]; exact tup2_rel (.d _ _ hvr) (.d _ _ (.int ..))) p1 (by simp [h6]) p2 p3 (by
            simp [Instr.mapEntry, run_underlying hu, MapKept.run_getObj_map h2, hck, hfk, MapKept.run_setObj_map _ h2, Result.andThen, e1', Instr.keyThatStays, ek, sameBits_self hkey])
theorem StepR.entryStore {ws : List Nat} {o : Oper} {T id : Nat} {x y z : Operand} {es : List (D × D)} {n : Int} {ky : IntKind} {vd : D} (hop : o.op = .entryStore T x y z) (hg : o.guard = none) (hd : o.dst = none)
    (hx : ev Γ env x = .mp id) (hy : ev Γ env y = .d (.int ky n)) (hz : ev Γ env z = .d vd) (hh : hget H id = some (.map es)) (hn : 0 ≤ n ∧ n < (es.length : Int))
    (hid : ws.contains id = true) : StepR Γ nt ws env H o env (H.set id (.map (msetV es n.toNat vd))) := by
    refine ⟨hg, by simp, fun G a w hW hF => ?_⟩
    have hxv := ev_ok hW hF x
    rw [hx] at hxv
    have hyv := ev_ok hW hF y
    rw [hy] at hyv
    have hzv := ev_ok hW hF z
    rw [hz] at hzv
    rw [hget_eq] at hh
    obtain ⟨b, ents, clock, h1, h2, h3, h4, h6, h7, h5⟩ := hW.obj id _ hh
    generalize hxe : a.eval x = xv at hxv
    have hye := hyv.int_inv
    generalize hze : a.eval z = zv at hzv
    obtain ⟨m, rfl⟩ := Int.eq_ofNat_of_zero_le hn.1
    have hm : m < ents.size := by omega
    cases hxv with
    | mp b' _ hb' =>
      rw [h1] at hb'; cases hb'
      cases hzv with
      | d _ _ hzd =>
        obtain ⟨p1, p2, p3⟩ := ents_mod h4 h7 h5 m (fun e => { e with val := zv }) vd (fun _ => rfl) (fun en0 k0 hq hkd => ⟨hkd, hzd⟩)
        have hW' := hW.putMap hh h1 h2 p1 (clock' := clock) (by simp [h6]) p2 p3
        have hfb := findBorn h7 hm
        have hrun : (Instr.entryStore T (.map (some b)) (.int ky (m : Int)) zv).run Γ.P w = .ok () { w with heap := w.heap.setIfInBounds b (.map (ents.modify m fun e => { e with val := zv }) clock) } := by
          simp [Instr.entryStore, MapKept.run_getObj_map h2, asInt, asIntOf, hfb, MapKept.run_setObj_map _ h2, Result.andThen]
        have hr : (execOp a.eval o).run Γ.P w = .ok .skip { w with heap := w.heap.setIfInBounds b (.map (ents.modify m fun e => { e with val := zv }) clock) } := by
          unfold execOp
          simp [hop, hxe, hye, hze, hrun]
        refine ⟨undef, _, .inr ⟨rfl, hr⟩, hW', ?_, fun b' hb' hn' => (MapKept.heap_set h2).2 b' (fun e => hn' id (by simpa using hid) (by rw [e]; exact h1)), by simp⟩
        rw [hd]; exact hF
end
end Go.Proofs.YtammpekpmjboiaaDoor.Av
