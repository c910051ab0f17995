/- Calls: the callee sees its own names and nothing else. -/
import Derived.Test.YtammpekpmjboiaaDoorAv6
set_option linter.unusedVariables false
set_option linter.unusedSimpArgs false
namespace Go.Proofs.YtammpekpmjboiaaDoor.Av
open Go Go.RowKit

def objsBnd (m : Nat) : List AObj → Bool
  | [] => true
  | o :: r => o.bnd m && objsBnd m r
theorem objsBnd_mem {m : Nat} : ∀ {l : List AObj}, objsBnd m l = true → ∀ o ∈ l, o.bnd m = true
  | [], _, o, h => by simp at h
  | x :: r, hb, o, h => by
    simp only [objsBnd, Bool.and_eq_true] at hb
    rcases List.mem_cons.1 h with rfl | h
    · exact hb.1
    · exact objsBnd_mem hb.2 o h

section
variable {Γ : Ctx} {nt n0 : Nat} {k : List It} {Q : Post} {env : Env} {H : List AObj} {G : Ghost} {w : World}

theorem Fin.mk' {fn : Func} {R : AV → List AObj → Prop} {r r' : AV} (hr : aresults Γ env H fn.results.toList = some r) (hw : Weak r r') (hl : Nat.ble n0 H.length = true) (hb : r'.bnd n0 = true)
    (ho : objsBnd n0 (H.take n0) = true) (h : R r' (H.take n0)) : Fin Γ fn n0 R env H :=
  ⟨r, r', n0, hr, hw, Nat.le_refl _, Nat.le_of_ble_eq_true hl, hb, objsBnd_mem ho, h⟩
theorem AGo.retW {fn : Func} {R : AV → List AObj → Prop} {r : AV} (r' : AV) (hr : aresults Γ env H fn.results.toList = some r) (hw : Weak r r') (hl : Nat.ble n0 H.length = true) (hb : r'.bnd n0 = true)
    (ho : objsBnd n0 (H.take n0) = true) (h : R r' (H.take n0)) : AGo Γ nt n0 (.code .ret :: k) (FinQ Γ fn n0 R) env H := AGo.ret (Fin.mk' hr hw hl hb ho h)
theorem AGo.retN {fn : Func} {R : AV → List AObj → Prop} {r : AV} (hr : aresults Γ env H fn.results.toList = some r) (hl : Nat.ble n0 H.length = true) (hb : r.bnd n0 = true)
    (ho : objsBnd n0 (H.take n0) = true) (h : R r (H.take n0)) : AGo Γ nt n0 (.code .ret :: k) (FinQ Γ fn n0 R) env H := AGo.retW r hr (Weak.refl _) hl hb ho h
theorem AGo.endN {fn : Func} {R : AV → List AObj → Prop} {r : AV} (hr : aresults Γ env H fn.results.toList = some r) (hl : Nat.ble n0 H.length = true) (hb : r.bnd n0 = true)
    (ho : objsBnd n0 (H.take n0) = true) (h : R r (H.take n0)) : AGo Γ nt n0 [] (FinQ Γ fn n0 R) env H := AGo.done (Fin.mk' hr (Weak.refl _) hl hb ho h)

/-! ### Calls -/
def calleeA (Γ : Ctx) (env : Env) (op : Op) : Option (FuncId × List AV) :=
  match op with
  | .call c => match c.callee with
    | .value f => match ev Γ env f with
      | .fn (.func g) first cap => some (g, first ++ avs Γ env c.args ++ cap)
      | _ => none
    | _ => none
  | _ => none

theorem ARels.append {vs ws : Array Value} {as bs : List AV} (h : ARels G vs as) (h' : ARels G ws bs) : ARels G (vs ++ ws) (as ++ bs) := by
  refine ⟨by simp [h.1, h'.1], fun i c hc => ?_⟩
  rw [List.getElem?_append] at hc
  split at hc
  · rename_i hi
    have := h.2 i c hc
    have hlt : i < vs.size := by rw [h.1]; exact hi
    have e : (vs ++ ws).toList[i]? = vs.toList[i]? := by rw [Array.toList_append, List.getElem?_append_left (by simpa using hlt)]
    simp only [gv, List.getD, e] at this ⊢; exact this
  · rename_i hi
    have := h'.2 _ c hc
    have e1 : vs.size = as.length := h.1
    have hge : ¬ i < vs.size := by omega
    have e : (vs ++ ws).toList[i]? = ws.toList[i - as.length]? := by rw [Array.toList_append, List.getElem?_append_right (by simpa using hge), Array.length_toList, e1]
    simp only [gv, List.getD, e] at this ⊢; exact this

theorem run_call {a : Act} {o : Oper} {f : FuncId} {args : List AV} (hW : WRel Γ.gl G H w) (hF : FRel G nt a.tmps env) (h : calleeA Γ env o.op = some (f, args)) (hc : callable Γ.P f = true) :
    ∃ vs, ARels G vs args ∧ ∀ w', (execOp a.eval o).run Γ.P w' = .ok (.enter f vs) w' := by
  unfold calleeA at h
  split at h
  · rename_i c hop
    split at h
    · rename_i fo hcal
      split at h
      · rename_i g first cap he
        cases h
        have hx := ev_ok hW hF fo
        rw [he] at hx
        generalize hv : a.eval fo = fv at hx
        cases hx with
        | fn _ vs ws _ _ h1 h2 h3 h4 =>
          have hA := avs_ok (Γ := Γ) hW hF c.args
          refine ⟨vs ++ c.args.map a.eval ++ ws, ARels.append (ARels.append ⟨h1, h3⟩ ⟨hA.1, hA.2⟩) ⟨h2, h4⟩, fun w' => ?_⟩
          unfold callable at hc
          split at hc
          · rename_i fn hfn
            simp only [Bool.and_eq_true, Bool.not_eq_true', Option.isSome_iff_exists] at hc
            obtain ⟨⟨b, hb⟩, hn⟩ := hc
            unfold execOp
            simp only [hop, resolve, hcal, hv, Deferred.ofValue, Sem.run_bind, Sem.run_pure, Result.andThen_ok, invoke, callFunc, run_program, hfn, hn, Bool.false_eq_true, if_false, hb, Option.isNone_some]
          · cases hc
      · cases h
    · cases h
  · cases h

def idx (ρ : List Nat) (id : Nat) : Option Nat := ρ.findIdx? (fun j => j == id)
theorem idx_some {ρ : List Nat} {id i : Nat} (h : idx ρ id = some i) : ρ[i]? = some id := by
  unfold idx at h
  rw [List.findIdx?_eq_some_iff_getElem] at h
  obtain ⟨hi, h1, h2⟩ := h
  rw [List.getElem?_eq_getElem hi]
  simpa using h1
theorem nodup_inj : ∀ {ρ : List Nat}, ρ.Nodup → ∀ {i j id : Nat}, ρ[i]? = some id → ρ[j]? = some id → i = j
  | [], _, i, j, id, h, _ => by simp at h
  | x :: ρ, hn, i, j, id, h, h' => by
    obtain ⟨h1, h2⟩ := List.nodup_cons.1 hn
    cases i with
    | zero =>
      cases j with
      | zero => rfl
      | succ j => simp at h h'; subst h; exact (h1 (List.mem_of_getElem? h')).elim
    | succ i =>
      cases j with
      | zero => simp at h h'; subst h'; exact (h1 (List.mem_of_getElem? h)).elim
      | succ j => exact congrArg (· + 1) (nodup_inj h2 (id := id) (by simpa using h) (by simpa using h'))
theorem idx_get {ρ : List Nat} (hn : ρ.Nodup) {id i : Nat} (h : ρ[i]? = some id) : idx ρ id = some i := by
  unfold idx
  rw [List.findIdx?_eq_some_iff_getElem]
  have hi := getElem?_lt h
  rw [List.getElem?_eq_getElem hi] at h
  cases h
  refine ⟨hi, by simp, fun j hj hji => ?_⟩
  simp only [beq_iff_eq] at hji ⊢
  have := nodup_inj hn (i := j) (j := i) (id := ρ[i]) (by rw [List.getElem?_eq_getElem (by omega), hji]) (by rw [List.getElem?_eq_getElem hi])
  omega

def pickH (ρ : List Nat) (H : List AObj) : Option (List AObj) :=
  match ρ with
  | [] => some []
  | i :: r => match hget H i, pickH r H with
    | some o, some l => some (o :: l)
    | _, _ => none
theorem pickH_get : ∀ {ρ : List Nat} {l : List AObj}, pickH ρ H = some l → l.length = ρ.length ∧ ∀ (i id : Nat), ρ[i]? = some id → ∃ o, l[i]? = some o ∧ H[id]? = some o
  | [], l, h => by simp [pickH] at h; subst h; simp
  | j :: r, l, h => by
    simp only [pickH] at h
    split at h
    · rename_i o l' h1 h2
      cases h
      obtain ⟨e1, e2⟩ := pickH_get h2
      rw [hget_eq] at h1
      refine ⟨by simp [e1], fun i id hi => ?_⟩
      cases i with
      | zero => simp at hi; subst hi; exact ⟨o, rfl, h1⟩
      | succ i => simpa using e2 i id (by simpa using hi)
    · cases h

/-- the caller's objects behind a call -/
def putH : List Nat → List AObj → List AObj → List AObj
  | i :: ρ, o :: Hc, H => putH ρ Hc (H.set i o)
  | [], rest, H => H ++ rest
  | _, [], H => H

theorem putH_length : ∀ {ρ : List Nat} {Hc H : List AObj}, ρ.length ≤ Hc.length → (putH ρ Hc H).length = H.length + (Hc.length - ρ.length)
  | [], Hc, H, _ => by simp [putH]
  | i :: ρ, [], H, h => by simp at h
  | i :: ρ, o :: Hc, H, h => by
    rw [putH, putH_length (by simpa using h)]; simp
theorem putH_other : ∀ {ρ : List Nat} {Hc H : List AObj}, ρ.length ≤ Hc.length → ∀ id, id ∉ ρ → id < H.length → (putH ρ Hc H)[id]? = H[id]?
  | [], Hc, H, _, id, _, hl => by simp [putH, List.getElem?_append, hl]
  | i :: ρ, [], H, h, _, _, _ => by simp at h
  | i :: ρ, o :: Hc, H, h, id, hn, hl => by
    simp only [List.mem_cons, not_or] at hn
    rw [putH, putH_other (by simpa using h) id hn.2 (by simpa using hl), List.getElem?_set_ne (fun e => hn.1 e.symm)]
theorem putH_at : ∀ {ρ : List Nat} {Hc H : List AObj}, ρ.Nodup → ρ.length ≤ Hc.length → (∀ id ∈ ρ, id < H.length) → ∀ i id : Nat, ρ[i]? = some id → (putH ρ Hc H)[id]? = Hc[i]?
  | [], Hc, H, _, _, _, i, id, h => by simp at h
  | j :: ρ, [], H, _, h, _, _, _, _ => by simp at h
  | j :: ρ, o :: Hc, H, hn, h, hl, i, id, hi => by
    rw [putH]
    cases i with
    | zero =>
      simp at hi; subst hi
      rw [putH_other (by simpa using h) _ (List.nodup_cons.1 hn).1 (by simpa using hl _ List.mem_cons_self)]
      simp [hl _ List.mem_cons_self]
    | succ i =>
      exact putH_at (List.nodup_cons.1 hn).2 (by simpa using h) (fun id hid => by simpa using hl id (List.mem_cons_of_mem _ hid)) i id (by simpa using hi)
theorem putH_new : ∀ {ρ : List Nat} {Hc H : List AObj}, ρ.length ≤ Hc.length → ∀ j, (putH ρ Hc H)[H.length + j]? = Hc[ρ.length + j]?
  | [], Hc, H, _, j => by rw [putH, List.getElem?_append_right (by omega)]; simp
  | i :: ρ, [], H, h, _ => by simp at h
  | i :: ρ, o :: Hc, H, h, j => by
    rw [putH]
    have := putH_new (H := H.set i o) (show ρ.length ≤ Hc.length by simpa using h) j
    rw [List.length_set] at this
    rw [this]
    have e : (i :: ρ).length + j = (ρ.length + j) + 1 := by simp; omega
    rw [e, List.getElem?_cons_succ]

/-- the names of the callee's objects, in the caller -/
def names (ρ : List Nat) (h n : Nat) : List Nat := ρ ++ List.range' h (n - ρ.length)

def Ghost.callee (G : Ghost) (w : World) (H : List AObj) (ρ : List Nat) : Ghost :=
  { base := w, imm0 := G.imm, own0 := fun b => ∃ id o, id ∈ ρ ∧ H[id]? = some o ∧ OB G id o b, imm := G.imm
    loc := fun i => (ρ[i]?).bind G.loc, fl := fun i n => (ρ[i]?).bind fun id => G.fl id n }

theorem callee_loc {ρ : List Nat} {i id : Nat} (h : ρ[i]? = some id) : (G.callee w H ρ).loc i = G.loc id := by simp [Ghost.callee, h]
theorem callee_fl {ρ : List Nat} {i id n : Nat} (h : ρ[i]? = some id) : (G.callee w H ρ).fl i n = G.fl id n := by simp [Ghost.callee, h]

theorem VRel.unren' {G G' : Ghost} {ρ : List Nat} (himm : ImmLe G.imm G'.imm) (hloc : ∀ i id, ρ[i]? = some id → G'.loc i = G.loc id)
    (hfl : ∀ i id n, ρ[i]? = some id → G'.fl i n = G.fl id n) (a : AV) (v : Value) (hb : a.bnd ρ.length = true) (h : VRel G v (a.ren ρ)) : VRel G' v a := by
  have get : ∀ {i}, i < ρ.length → ρ[i]? = some (ρ.getD i 0) := fun {i} h => by simp [List.getD, List.getElem?_eq_getElem h]
  let G1 : Ghost := { G' with loc := fun i => G.loc (ρ.getD i 0), fl := fun i n => G.fl (ρ.getD i 0) n }
  have h1 : VRel G1 v a := VRel.unren (G := G) (G' := G1) (ρ := ρ) himm (fun i b h => h) (fun i n v h => h) a v h
  exact h1.mono' (G := G1) (G' := G') (k := ρ.length) (ImmLe.refl G'.imm) (fun id b hid hb => by rw [hloc id _ (get hid)]; exact hb) (fun id n v hid hb => by rw [hfl id _ n (get hid)]; exact hb) hb

theorem ORel.unren {ρ : List Nat} {i id : Nat} (hi : ρ[i]? = some id) {o : AObj} (hb : o.bnd ρ.length = true) (h : ORel G w id (o.ren ρ)) : ORel (G.callee w H ρ) w i o := by
  have l1 : ∀ b, G.loc id = some b → (G.callee w H ρ).loc i = some b := fun b hb => by rw [callee_loc hi]; exact hb
  have l2 : ∀ n, (G.callee w H ρ).fl i n = G.fl id n := fun n => callee_fl hi
  cases o with
  | cells cs =>
    obtain ⟨b, cur, t, h1, h2, h3, h4, h5, h6⟩ := h
    rw [renL_map] at h3 h4 h5
    refine ⟨b, cur, t, l1 b h1, h2, by simpa using h3, fun c hc => by have := h4 _ (List.mem_map_of_mem hc); rwa [ren_one] at this, fun j c hc => ?_, h6⟩
    exact VRel.unren' (G := G) (G' := G.callee w H ρ) (ImmLe.refl G.imm) (fun i id h => callee_loc h) (fun i id n h => callee_fl h) c _ (bnds_mem hb hc) (h5 j _ (by rw [List.getElem?_map, hc]; rfl))
  | front e sz n =>
    obtain ⟨v, xs, h1, h2, h3, h4⟩ := h
    exact ⟨v, xs, by rw [l2]; exact h1, h2, h3, fun k hk => by rw [l2]; exact h4 k hk⟩
  | arr e sz es =>
    obtain ⟨v, xs, h1, h2, h3, h3', h4, h5, h6⟩ := h
    exact ⟨v, xs, by rw [l2]; exact h1, h2, h3, h3', h4, h5, fun k hk => by rw [l2]; exact h6 k hk⟩
  | map es =>
    obtain ⟨b, ents, clock, h1, h2⟩ := h
    exact ⟨b, ents, clock, l1 b h1, h2⟩
  | siter s pos =>
    obtain ⟨b, h1, h2⟩ := h
    exact ⟨b, l1 b h1, h2⟩
  | gone => trivial

theorem OB_callee {ρ : List Nat} {i id : Nat} (hi : ρ[i]? = some id) (o : AObj) (b : Nat) : OB (G.callee w H ρ) i o b ↔ OB G id (o.ren ρ) b := by
  cases o <;> simp [OB, AObj.ren, callee_loc hi, callee_fl hi]

theorem WRel.callee (hW : WRel Γ.gl G H w) {ρ : List Nat} {Hc : List AObj} (hn : ρ.Nodup) (hp : pickH ρ H = some (Hc.map (AObj.ren ρ))) (hb : objsBnd ρ.length Hc = true) :
    WRel Γ.gl (G.callee w H ρ) Hc w := by
  obtain ⟨p1, p2⟩ := pickH_get hp
  have p1' : Hc.length = ρ.length := by simpa using p1
  have get : ∀ {i : Nat} {o : AObj}, Hc[i]? = some o → ∃ id : Nat, ρ[i]? = some id ∧ H[id]? = some (o.ren ρ) := fun {i o} h => by
    have hlt : i < ρ.length := by rw [← p1']; exact getElem?_lt h
    obtain ⟨o', h1, h2⟩ := p2 i _ (List.getElem?_eq_getElem hlt)
    rw [List.getElem?_map, h] at h1
    cases h1
    exact ⟨_, List.getElem?_eq_getElem hlt, h2⟩
  refine ⟨rfl, rfl, rfl, Nat.le_refl _, fun b _ _ => ⟨rfl, rfl⟩, hW.imm, ?_, ?_, ?_, ?_, hW.glob⟩
  · intro i o ho
    obtain ⟨id, h1, h2⟩ := get ho
    exact ORel.unren h1 (objsBnd_mem hb o (List.mem_of_getElem? ho)) (hW.obj id _ h2)
  · intro i o b ho hob
    obtain ⟨id, h1, h2⟩ := get ho
    exact .inl ⟨id, _, List.mem_of_getElem? h1, h2, (OB_callee h1 o b).1 hob⟩
  · intro i o i' o' b ho ho' hob hob'
    obtain ⟨id, h1, h2⟩ := get ho
    obtain ⟨id', h1', h2'⟩ := get ho'
    have := hW.inj id _ id' _ b h2 h2' ((OB_callee h1 o b).1 hob) ((OB_callee h1' o' b).1 hob')
    subst this
    exact nodup_inj hn h1 h1'
  · intro i hi
    have : ρ[i]? = none := List.getElem?_eq_none (by omega)
    simp [Ghost.callee, this]

/-- the caller's ghost behind the call -/
def Ghost.back (G Gc : Ghost) (ρ' : List Nat) : Ghost :=
  { G with imm := Gc.imm
           loc := fun id => match idx ρ' id with | some i => Gc.loc i | none => G.loc id
           fl := fun id n => match idx ρ' id with | some i => Gc.fl i n | none => G.fl id n }

theorem names_get (ρ : List Nat) (h n i : Nat) (hn : ρ.length ≤ n) : (names ρ h n)[i]? = if i < ρ.length then ρ[i]? else if i < n then some (h + (i - ρ.length)) else none := by
  unfold names
  by_cases hi : i < ρ.length
  · rw [if_pos hi, List.getElem?_append_left hi]
  · rw [if_neg hi, List.getElem?_append_right (by omega)]
    by_cases hi' : i < n
    · rw [if_pos hi', List.getElem?_eq_getElem (by simp; omega)]; simp
    · rw [if_neg hi', List.getElem?_eq_none (by simp; omega)]
theorem names_length (ρ : List Nat) (h n : Nat) (hn : ρ.length ≤ n) : (names ρ h n).length = n := by simp [names]; omega
theorem names_nodup {ρ : List Nat} {h : Nat} (n : Nat) (hn : ρ.Nodup) (hl : ∀ id ∈ ρ, id < h) : (names ρ h n).Nodup := by
  unfold names
  rw [List.nodup_append]
  refine ⟨hn, List.nodup_range', fun x hx y hy e => ?_⟩
  subst e
  have := hl x hx
  simp [List.mem_range'] at hy
  omega

theorem ORel.renUp {Gc : Ghost} {ρ' : List Nat} {i id : Nat} (himm : ImmLe Gc.imm G.imm) (himm' : ∀ b, G.imm b = Gc.imm b) (hloc : ∀ i b, Gc.loc i = some b → G.loc (ρ'.getD i 0) = some b) (hfl : ∀ i n v, Gc.fl i n = some v → G.fl (ρ'.getD i 0) n = some v)
    (hid : ρ'.getD i 0 = id) (hfl' : ∀ n, G.fl id n = Gc.fl i n) {o : AObj} (h : ORel Gc w i o) : ORel G w id (o.ren ρ') := by
  have l1 : ∀ b, Gc.loc i = some b → G.loc id = some b := fun b hb => by rw [← hid]; exact hloc i b hb
  cases o with
  | cells cs =>
    obtain ⟨b, cur, t, h1, h2, h3, h4, h5, h6⟩ := h
    refine ⟨b, cur, t, l1 b h1, h2, by rw [renL_map]; simpa using h3, fun c hc => ?_, fun j c hc => ?_, by rw [himm']; exact h6⟩
    · rw [renL_map] at hc; obtain ⟨c', hc', rfl⟩ := List.mem_map.1 hc; rw [ren_one]; exact h4 c' hc'
    · rw [renL_map, List.getElem?_map] at hc
      cases hq : cs[j]? with
      | none => simp [hq] at hc
      | some c' => simp [hq] at hc; subst hc; exact (h5 j c' hq).ren himm hloc hfl
  | front e sz n =>
    obtain ⟨v, xs, h1, h2, h3, h4⟩ := h
    exact ⟨v, xs, by rw [hfl']; exact h1, h2, fun b hb => by rw [himm']; exact h3 b hb, fun k hk => by rw [hfl']; exact h4 k hk⟩
  | arr e sz es =>
    obtain ⟨v, xs, h1, h2, h3, h3', h4, h5, h6⟩ := h
    exact ⟨v, xs, by rw [hfl']; exact h1, h2, h3, h3', fun i x j c hx hc => (h4 i x j c hx hc).mono himm, fun b hb => by rw [himm']; exact h5 b hb, fun k hk => by rw [hfl']; exact h6 k hk⟩
  | map es =>
    obtain ⟨b, ents, clock, h1, h2, h3, h4, h6, h7, h5⟩ := h
    exact ⟨b, ents, clock, l1 b h1, h2, by rw [himm']; exact h3, h4, h6, h7, fun i k v hi => by
      obtain ⟨en, e1, e2, e3⟩ := h5 i k v hi
      exact ⟨en, e1, e2.mono himm, e3.mono himm⟩⟩
  | siter s pos =>
    obtain ⟨b, h1, h2, h3⟩ := h
    exact ⟨b, l1 b h1, h2, by rw [himm']; exact h3⟩
  | gone => trivial

set_option maxHeartbeats 2000000 in
theorem WRel.back {w' : World} {Gc' : Ghost} {ρ : List Nat} {Hc Hc' : List AObj} (hW : WRel Γ.gl G H w) (hn : ρ.Nodup) (hlt : ∀ id ∈ ρ, id < H.length) (hlen : Hc.length = ρ.length) (hlen' : Hc.length ≤ Hc'.length)
    (hle : GLe Hc.length (G.callee w H ρ) Gc') (hc : WRel Γ.gl Gc' Hc' w') :
    GLe H.length G (G.back Gc' (names ρ H.length Hc'.length)) ∧ WRel Γ.gl (G.back Gc' (names ρ H.length Hc'.length)) (putH ρ (Hc'.map (AObj.ren (names ρ H.length Hc'.length))) H) w' ∧
    ImmLe Gc'.imm (G.back Gc' (names ρ H.length Hc'.length)).imm ∧ (∀ i b, Gc'.loc i = some b → (G.back Gc' (names ρ H.length Hc'.length)).loc ((names ρ H.length Hc'.length).getD i 0) = some b) ∧
    (∀ i n v, Gc'.fl i n = some v → (G.back Gc' (names ρ H.length Hc'.length)).fl ((names ρ H.length Hc'.length).getD i 0) n = some v) := by
  have hρn : ρ.length ≤ Hc'.length := by omega
  generalize hρ' : names ρ H.length Hc'.length = ρ'
  have ng : ∀ i, ρ'[i]? = if i < ρ.length then ρ[i]? else if i < Hc'.length then some (H.length + (i - ρ.length)) else none := fun i => by rw [← hρ']; exact names_get ρ H.length Hc'.length i hρn
  have nl : ρ'.length = Hc'.length := by rw [← hρ']; exact names_length _ _ _ hρn
  have nd : ρ'.Nodup := by rw [← hρ']; exact names_nodup _ hn hlt
  have at_ : ∀ {i id : Nat}, ρ'[i]? = some id → (G.back Gc' ρ').loc id = Gc'.loc i ∧ ∀ n, (G.back Gc' ρ').fl id n = Gc'.fl i n := fun {i id} h => by
    have := idx_get nd h
    simp [Ghost.back, this]
  have old : ∀ {i id : Nat}, ρ'[i]? = some id → id < H.length → ρ[i]? = some id := fun {i id} h hl => by
    rw [ng] at h
    split at h
    · exact h
    · split at h
      · cases h; omega
      · cases h
  have none_ : ∀ {id : Nat}, idx ρ' id = none → (∀ i : Nat, ρ'[i]? ≠ some id) := fun {id} h i hi => by rw [idx_get nd hi] at h; cases h
  have notin : ∀ {id : Nat}, idx ρ' id = none → id ∉ ρ := fun {id} h hm => by
    obtain ⟨i, hi⟩ := List.getElem?_of_mem hm
    exact none_ h i (by rw [ng, if_pos (getElem?_lt hi)]; exact hi)
  have other : ∀ {id : Nat}, idx ρ' id = none → (G.back Gc' ρ').loc id = G.loc id ∧ ∀ n, (G.back Gc' ρ').fl id n = G.fl id n := fun {id} h => by simp [Ghost.back, h]
  have himm : ImmLe G.imm Gc'.imm := hle.imm
  have hGG : GLe H.length G (G.back Gc' ρ') := by
    refine ⟨rfl, rfl, rfl, himm, fun id b hid hb => ?_, fun id n v hid hb => ?_⟩
    · cases hx : idx ρ' id with
      | none => rw [(other hx).1]; exact hb
      | some i =>
        have hi := idx_some hx
        have hi' := old hi hid
        rw [(at_ hi).1]
        exact hle.loc i b (by rw [hlen]; exact getElem?_lt hi') (by rw [callee_loc hi']; exact hb)
    · cases hx : idx ρ' id with
      | none => rw [(other hx).2]; exact hb
      | some i =>
        have hi := idx_some hx
        have hi' := old hi hid
        rw [(at_ hi).2]
        exact hle.fl i n v (by rw [hlen]; exact getElem?_lt hi') (by rw [callee_fl hi']; exact hb)
  have lenOf : ∀ {i : Nat}, i < Hc'.length → ρ'[i]? = some (ρ'.getD i 0) := fun {i} h => by simp [List.getD, List.getElem?_eq_getElem (show i < ρ'.length by omega)]
  have hloc : ∀ i b, Gc'.loc i = some b → (G.back Gc' ρ').loc (ρ'.getD i 0) = some b := fun i b h => by
    have hi : i < Hc'.length := by
      rcases Nat.lt_or_ge i Hc'.length with h' | h'
      · exact h'
      · rw [(hc.lim i h').1] at h; cases h
    rw [(at_ (lenOf hi)).1]; exact h
  have hfl : ∀ i n v, Gc'.fl i n = some v → (G.back Gc' ρ').fl (ρ'.getD i 0) n = some v := fun i n v h => by
    have hi : i < Hc'.length := by
      rcases Nat.lt_or_ge i Hc'.length with h' | h'
      · exact h'
      · rw [(hc.lim i h').2] at h; cases h
    rw [(at_ (lenOf hi)).2]; exact h
  have b0 : Gc'.base = w := hle.base
  have i0 : Gc'.imm0 = G.imm := hle.imm0
  have o0 : Gc'.own0 = fun b => ∃ id o, id ∈ ρ ∧ H[id]? = some o ∧ OB G id o b := hle.own0
  have same : ∀ b, b < w.heap.size → ¬ Gc'.own0 b → w'.heap[b]? = w.heap[b]? ∧ Gc'.imm b = G.imm b := fun b hb hno => by
    have := hc.old b (by rw [b0]; exact hb) hno
    rw [b0, i0] at this; exact this
  have plen : (putH ρ (Hc'.map (AObj.ren ρ')) H).length = H.length + (Hc'.length - ρ.length) := by rw [putH_length (by simpa using hρn)]; simp
  have pin : ∀ {i id : Nat}, ρ'[i]? = some id → (putH ρ (Hc'.map (AObj.ren ρ')) H)[id]? = (Hc'[i]?).map (AObj.ren ρ') := fun {i id} h => by
    rw [ng] at h
    split at h
    · rw [putH_at hn (by simpa using hρn) hlt i id h, List.getElem?_map]
    · split at h
      · cases h
        rw [putH_new (by simpa using hρn), List.getElem?_map]
        congr 2; omega
      · cases h
  have pout : ∀ {id : Nat} {o : AObj}, idx ρ' id = none → (putH ρ (Hc'.map (AObj.ren ρ')) H)[id]? = some o → H[id]? = some o := fun {id o} hx ho => by
    have hl := getElem?_lt ho
    rw [plen] at hl
    have : id < H.length := by
      rcases Nat.lt_or_ge id H.length with h | h
      · exact h
      · exact (none_ hx (ρ.length + (id - H.length)) (by rw [ng, if_neg (by omega), if_pos (by omega)]; congr 1; omega)).elim
    rwa [putH_other (by simpa using hρn) id (notin hx) this] at ho
  have obin : ∀ {i id b : Nat} {o : AObj}, ρ'[i]? = some id → OB (G.back Gc' ρ') id (o.ren ρ') b → OB Gc' i o b := fun {i id b o} hi hob => by
    obtain ⟨a1, a2⟩ := at_ hi
    cases o <;> simp_all [OB, AObj.ren]
  have obout : ∀ {id b : Nat} {o : AObj}, idx ρ' id = none → OB (G.back Gc' ρ') id o b → OB G id o b := fun {id b o} hx hob => by
    obtain ⟨a1, a2⟩ := other hx
    cases o <;> simp_all [OB]
  have keptO : ∀ {id b : Nat} {o : AObj}, idx ρ' id = none → H[id]? = some o → OB G id o b → b < w.heap.size ∧ ¬ Gc'.own0 b := fun {id b o} hx ho hob => by
    refine ⟨(hW.obj id o ho).lt hob, fun h => ?_⟩
    rw [o0] at h
    obtain ⟨id', o', hm, ho', hob'⟩ := h
    have := hW.inj id o id' o' b ho ho' hob hob'
    subst this
    exact notin hx hm
  refine ⟨hGG, ⟨?_, ?_, ?_, ?_, ?_, hc.imm, ?_, ?_, ?_, ?_, fun g cs hg => (hW.glob g cs hg).mono himm⟩, ImmLe.refl _, hloc, hfl⟩
  · rw [hc.os, b0]; exact hW.os
  · rw [hc.tape, b0]; exact hW.tape
  · rw [hc.output, b0]; exact hW.output
  · have := hc.size; rw [b0] at this; exact Nat.le_trans hW.size this
  · intro b hb hno
    have hno' : ¬ Gc'.own0 b := fun h => by
      rw [o0] at h
      obtain ⟨id, o, hm, ho, hob⟩ := h
      rcases hW.own id o b ho hob with h | h
      · exact hno h
      · exact absurd hb (Nat.not_lt.2 h)
    obtain ⟨s1, s2⟩ := same b (Nat.lt_of_lt_of_le hb hW.size) hno'
    obtain ⟨t1, t2⟩ := hW.old b hb hno
    exact ⟨s1.trans t1, s2.trans t2⟩
  · intro id o ho
    cases hx : idx ρ' id with
    | some i =>
      have hi := idx_some hx
      rw [pin hi] at ho
      cases hq : Hc'[i]? with
      | none => simp [hq] at ho
      | some oc =>
        simp [hq] at ho; subst ho
        have : ρ'.getD i 0 = id := by simp [List.getD, hi]
        exact ORel.renUp (G := G.back Gc' ρ') (Gc := Gc') (ImmLe.refl Gc'.imm) (fun _ => rfl) hloc hfl this (at_ hi).2 (hc.obj i oc hq)
    | none =>
      have ho' := pout hx ho
      refine ORel.keep hGG (getElem?_lt ho') hW.lim (hW.obj id o ho') (fun b hob => ?_) (other hx).2
      obtain ⟨k1, k2⟩ := keptO hx ho' hob
      exact same b k1 k2
  · intro id o b ho hob
    show G.own0 b ∨ G.base.heap.size ≤ b
    cases hx : idx ρ' id with
    | some i =>
      have hi := idx_some hx
      rw [pin hi] at ho
      cases hq : Hc'[i]? with
      | none => simp [hq] at ho
      | some oc =>
        simp [hq] at ho; subst ho
        rcases hc.own i oc b hq (obin hi hob) with h | h
        · rw [o0] at h
          obtain ⟨id', o', hm, ho', hob'⟩ := h
          exact hW.own id' o' b ho' hob'
        · rw [b0] at h; exact .inr (Nat.le_trans hW.size h)
    | none => exact hW.own id o b (pout hx ho) (obout hx hob)
  · intro id o id' o' b ho ho' hob hob'
    have mixed : ∀ {id id' : Nat} {o o' : AObj}, idx ρ' id = none → (∃ i, idx ρ' id' = some i) → (putH ρ (Hc'.map (AObj.ren ρ')) H)[id]? = some o → (putH ρ (Hc'.map (AObj.ren ρ')) H)[id']? = some o' →
        OB (G.back Gc' ρ') id o b → OB (G.back Gc' ρ') id' o' b → False := fun {id id' o o'} hx hx' ho ho' hob hob' => by
      obtain ⟨i, hx'⟩ := hx'
      have hi := idx_some hx'
      rw [pin hi] at ho'
      cases hq : Hc'[i]? with
      | none => simp [hq] at ho'
      | some oc =>
        simp [hq] at ho'; subst ho'
        obtain ⟨k1, k2⟩ := keptO hx (pout hx ho) (obout hx hob)
        rcases hc.own i oc b hq (obin hi hob') with h | h
        · exact k2 h
        · rw [b0] at h; exact absurd k1 (Nat.not_lt.2 h)
    cases hx : idx ρ' id with
    | some i =>
      cases hx' : idx ρ' id' with
      | some i' =>
        have hi := idx_some hx
        have hi' := idx_some hx'
        rw [pin hi] at ho
        rw [pin hi'] at ho'
        cases hq : Hc'[i]? with
        | none => simp [hq] at ho
        | some oc =>
          cases hq' : Hc'[i']? with
          | none => simp [hq'] at ho'
          | some oc' =>
            simp [hq] at ho; simp [hq'] at ho'; subst ho; subst ho'
            have := hc.inj i oc i' oc' b hq hq' (obin hi hob) (obin hi' hob')
            subst this
            rw [hi] at hi'; cases hi'; rfl
      | none => exact (mixed hx' ⟨i, hx⟩ ho' ho hob' hob).elim
    | none =>
      cases hx' : idx ρ' id' with
      | some i' => exact (mixed hx ⟨i', hx'⟩ ho ho' hob hob').elim
      | none => exact hW.inj id o id' o' b (pout hx ho) (pout hx' ho') (obout hx hob) (obout hx' hob')
  · intro id hid
    rw [plen] at hid
    have hx : idx ρ' id = none := by
      cases hx : idx ρ' id with
      | none => rfl
      | some i =>
        have hi := idx_some hx
        rw [ng] at hi
        split at hi
        · have := hlt id (List.mem_of_getElem? hi); omega
        · split at hi
          · cases hi; omega
          · cases hi
    rw [(other hx).1]
    exact ⟨(hW.lim id (by omega)).1, fun n => by rw [(other hx).2]; exact (hW.lim id (by omega)).2 n⟩

/-- A CALL, the callee's names turned into the caller's by ρ. -/
theorem AGo.call {all : Array Oper} {o : Oper} {l : List Oper} {t f : Nat} {args cargs : List AV} {Hc : List AObj} {R : AV → List AObj → Prop} (ρ : List Nat)
    (hR : ACalls Γ f cargs Hc R) (hg : o.guard = none) (hd : o.dst = some t) (ht : Nat.ble (t + 1) nt = true)
    (hcall : calleeA Γ env o.op = some (f, args)) (hargs : args = AV.renL ρ cargs) (hab : AV.bnds ρ.length cargs = true) (hn : ρ.Nodup) (hp : pickH ρ H = some (Hc.map (AObj.ren ρ))) (hb : objsBnd ρ.length Hc = true)
    (h : ∀ r Hc', R r Hc' → Hc.length ≤ Hc'.length → ∃ r' H', r' = AV.ren (names ρ H.length Hc'.length) r ∧ H' = putH ρ (Hc'.map (AObj.ren (names ρ H.length Hc'.length))) H ∧
      AGo Γ nt n0 (.ops all l :: k) Q ((t, r') :: env) H') : AGo Γ nt n0 (.ops all (o :: l) :: k) Q env H :=
  fun G0 G a w h0 hl hF hdf hW => by
    obtain ⟨vs, hA, hrun⟩ := run_call hW hF hcall hR.1
    obtain ⟨p1, p2⟩ := pickH_get hp
    have hlen : Hc.length = ρ.length := by simpa using p1
    have hlt : ∀ id ∈ ρ, id < H.length := fun id hm => by
      obtain ⟨i, hi⟩ := List.getElem?_of_mem hm
      obtain ⟨o, _, h2⟩ := p2 i id hi
      exact getElem?_lt h2
    have hWc := hW.callee hn hp hb
    have hAc : ARels (G.callee w H ρ) vs cargs := by
      subst hargs
      rw [renL_map] at hA
      refine ⟨by simpa using hA.1, fun i c hc => ?_⟩
      exact VRel.unren' (G := G) (G' := G.callee w H ρ) (ImmLe.refl G.imm) (fun i id h => callee_loc h) (fun i id n h => callee_fl h) c _ (bnds_mem hab hc) (hA.2 i _ (by rw [List.getElem?_map, hc]; rfl))
    have hcalls := hR.2 _ w vs hWc hAc
    simp only [resm]
    unfold wpList
    rw [if_pos (wanted_none hg)]
    refine .inl ?_
    unfold Oper.wp
    rw [hrun w]
    refine hcalls.mono ?_
    rintro e w' ⟨v, r, Hc', Gc', rfl, hRr, hlen', hle, hv, hWc'⟩
    obtain ⟨b1, b2, b3, b4, b5⟩ := hW.back hn hlt hlen hlen' hle hWc'
    obtain ⟨r', H', rfl, rfl, hgo⟩ := h r Hc' hRr hlen'
    have hF' : FRel (G.back Gc' (names ρ H.length Hc'.length)) nt (a.put (some t) v).tmps ((t, AV.ren (names ρ H.length Hc'.length) r) :: env) :=
      (hF.up b1 hW.lim).put ht (hv.ren b3 b4 b5)
    have := hgo G0 _ (a.put (some t) v) w' (h0.trans (b1.weaken hl)) (by rw [putH_length (by simp; omega)]; omega) hF' (by simp [Act.put, hdf]) b2
    simp only [resm] at this
    simp only [hd]
    exact this
end
end Go.Proofs.YtammpekpmjboiaaDoor.Av
