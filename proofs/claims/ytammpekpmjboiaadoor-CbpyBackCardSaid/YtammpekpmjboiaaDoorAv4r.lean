/- Quiet operations are sound: the rest, and all of them. -/
import Derived.Test.YtammpekpmjboiaaDoorAv4q
set_option linter.unusedVariables false
set_option linter.unusedSimpArgs false
namespace Go.Proofs.YtammpekpmjboiaaDoor.Av
open Go Go.RowKit
section
variable {Γ : Ctx} {G : Ghost} {H : List AObj} {w w' : World} {nn : Bool} {env : Env} {nt : Nat} {a : Act} {c : Prop} {v : AV}

theorem sl_part {sz : Nat} {es : List D} {b o cap : Nat} (hcap : es.length ≤ cap) (hsz : ∀ e ∈ es, e.cells.length = sz) (hone : ∀ e ∈ es, ∀ c ∈ e.cells, c.one = true)
    (hin : o + es.length * sz ≤ (G.imm b).length)
    (h : ∀ (i : Nat) (e : D) (j : Nat) (c : D), es[i]? = some e → e.cells[j]? = some c → DRel G.imm (gv (G.imm b) (o + i * sz + j)) c) (l n : Nat) (hln : l ≤ n) (hn : n ≤ es.length) :
    DRel G.imm (sliced (some ⟨b, o, none⟩) l n cap sz) (.sl sz ((es.take n).drop l)) := by
  have hlen : ((es.take n).drop l).length = n - l := by simp; omega
  by_cases hne : n = l
  · subst hne
    have : (es.take n).drop n = [] := List.drop_eq_nil_of_le (by simp; omega)
    rw [this]
    simp only [sliced, Nat.sub_self]
    split <;> exact .sl0 _ _ _
  · have hcl : cap ≠ l := by omega
    simp only [sliced, if_neg hcl, Option.map_some, addr_add]
    rw [← hlen]
    have hmul : n * sz ≤ es.length * sz := Nat.mul_le_mul_right _ hn
    have hmul2 : (n - l) * sz + l * sz = n * sz := by rw [← Nat.add_mul]; congr 1; omega
    refine .sl b (o + l * sz) _ sz _ (fun e => by rw [e] at hlen; simp at hlen; omega) (by omega) (fun e he => hsz e (List.mem_of_mem_take (List.mem_of_mem_drop he)))
      (fun e he => hone e (List.mem_of_mem_take (List.mem_of_mem_drop he))) (by rw [hlen]; omega) fun i e j c he hc => ?_
    rw [List.getElem?_drop, List.getElem?_take] at he
    split at he
    · have := h (l + i) e j c he hc
      rwa [Nat.add_mul, ← Nat.add_assoc] at this
    · cases he

theorem run_slice_sl {t e : Nat} {te : TI} (fe : TyFacts Γ.P e te) (hu : Γ.P.underlying t = some (.slice e)) (p : Option Addr) (len cap : Nat) (lo hi : Option (IntKind × Int)) (l h : Nat)
    (hlo : (lo = none ∧ l = 0) ∨ ∃ k, lo = some (k, (l : Int))) (hhi : (hi = none ∧ h = len) ∨ ∃ k, hi = some (k, (h : Int))) (hlh : l ≤ h) (hh : h ≤ cap) (w : World) :
    (Instr.sliceAt t (.slice p len cap) (lo.map fun x => .int x.1 x.2) (hi.map fun x => .int x.1 x.2) none).run Γ.P w = .ok (sliced p l h cap te.size) w := by
  have hs : (Instr.sliceBounds true len cap (lo.map fun x => .int x.1 x.2) (hi.map fun x => .int x.1 x.2) none).run Γ.P w = .ok (l, h, cap) w := by
    rcases hhi with ⟨rfl, rfl⟩ | ⟨kh, rfl⟩ <;> rcases hlo with ⟨rfl, rfl⟩ | ⟨kl, rfl⟩
    · simp [Instr.sliceBounds]
    · simp [Instr.sliceBounds, run_sliceBound (P := Γ.P) w kl (l : Int) h _ (by omega) (by omega)]
    · simp [Instr.sliceBounds, run_sliceBound (P := Γ.P) w kh (h : Int) cap _ (by omega) (by omega)]
    · simp [Instr.sliceBounds, run_sliceBound (P := Γ.P) w kh (h : Int) cap _ (by omega) (by omega), run_sliceBound (P := Γ.P) w kl (l : Int) h _ (by omega) (by omega)]
  simp only [Instr.sliceAt, Sem.run_bind, run_underlying hu, Result.andThen_ok, Instr.slice, hs, fe.sizeOf, Sem.run_pure, sliced]

theorem run_slice_str {t : Nat} (hu : Γ.P.underlying t = some .string) (s : List UInt8) (lo hi : Option (IntKind × Int)) (l h : Nat)
    (hlo : (lo = none ∧ l = 0) ∨ ∃ k, lo = some (k, (l : Int))) (hhi : (hi = none ∧ h = s.length) ∨ ∃ k, hi = some (k, (h : Int))) (hlh : l ≤ h) (hh : h ≤ s.length) (w : World) :
    (Instr.sliceAt t (.string ⟨s.toArray⟩) (lo.map fun x => .int x.1 x.2) (hi.map fun x => .int x.1 x.2) none).run Γ.P w = .ok (.string ⟨((s.take h).drop l).toArray⟩) w := by
  have hsz : (⟨s.toArray⟩ : ByteArray).size = s.length := by simp [ByteArray.size]
  have hs : (Instr.sliceBounds false s.length s.length (lo.map fun x => .int x.1 x.2) (hi.map fun x => .int x.1 x.2) none).run Γ.P w = .ok (l, h, s.length) w := by
    rcases hhi with ⟨rfl, rfl⟩ | ⟨kh, rfl⟩ <;> rcases hlo with ⟨rfl, rfl⟩ | ⟨kl, rfl⟩
    · simp [Instr.sliceBounds]
    · simp [Instr.sliceBounds, run_sliceBound (P := Γ.P) w kl (l : Int) s.length _ (by omega) (by omega)]
    · simp [Instr.sliceBounds, run_sliceBound (P := Γ.P) w kh (h : Int) s.length _ (by omega) (by omega)]
    · simp [Instr.sliceBounds, run_sliceBound (P := Γ.P) w kh (h : Int) s.length _ (by omega) (by omega), run_sliceBound (P := Γ.P) w kl (l : Int) h _ (by omega) (by omega)]
  have hex : (⟨s.toArray⟩ : ByteArray).extract l h = ⟨((s.take h).drop l).toArray⟩ := by
    apply ByteArray.ext
    simp [ByteArray.data_extract, List.extract_eq_drop_take']
  simp only [Instr.sliceAt, Sem.run_bind, run_underlying hu, Result.andThen_ok, Instr.slice, hsz, hs, Option.isSome_none, Bool.false_eq_true, if_false, Sem.run_pure, hex]

theorem DRel.sl_of {sz : Nat} {es : List D} {u : Value} (h : DRel G.imm u (.sl sz es)) (l n : Nat) (hln : l ≤ n) (hn : n ≤ es.length) :
    ∃ p cap, u = .slice p es.length cap ∧ es.length ≤ cap ∧ DRel G.imm (sliced p l n cap sz) (.sl sz ((es.take n).drop l)) := by
  cases h with
  | sl0 p cap =>
    have h0 : l = 0 := by simp at hn; omega
    have h1 : n = 0 := by simpa using hn
    subst h0; subst h1
    refine ⟨p, cap, rfl, by simp, ?_⟩
    simp only [sliced, List.take_nil, List.drop_nil]
    exact .sl0 _ _ _
  | sl b o cap _ _ hne hcap hsz hone hin h => exact ⟨_, cap, rfl, hcap, sl_part hcap hsz hone hin h l n hln hn⟩

theorem q_slice {t : Nat} {x : Operand} {lo hi : Option Operand} (hW : WRel Γ.gl G H w) (hF : FRel G nt a.tmps env) (hq : qop Γ nn (.slice t x lo hi none) env H = some (c, v)) (hc : c) :
    ∃ u, VRel G u v ∧ ∀ w', (Instr.sliceAt t (a.eval x) (lo.map a.eval) (hi.map a.eval) none).run Γ.P w' = .ok u w' := by
  have hx := ev_ok hW hF x
  have opt : ∀ (z : Option Operand) (k : IntKind) (n : Int), z.map (ev Γ env) = some (.d (.int k n)) → z.map a.eval = some (.int k n) := fun z k n h => by
    cases z with
    | none => cases h
    | some z =>
      have hz := ev_ok hW hF z
      simp only [Option.map_some, Option.some.injEq] at h ⊢
      rw [h] at hz; exact hz.int_inv
  have optn : ∀ (z : Option Operand), z.map (ev Γ env) = none → z.map a.eval = none := fun z h => by cases z <;> simp_all
  generalize a.eval x = xv at hx
  simp only [qop] at hq
  split at hq
  · rename_i s k l k' h h1 h2 h3 h4
    cases hq
    rw [h2] at hx; obtain rfl := hx.str_inv
    obtain ⟨f⟩ := Γ.ty h1
    have hr := run_slice_str (und_str f rfl) s (some (k, l)) (some (k', h)) l.toNat h.toNat (.inr ⟨k, by rw [Int.toNat_of_nonneg hc.1]⟩) (.inr ⟨k', by rw [Int.toNat_of_nonneg (by omega)]⟩) (by omega) (by omega)
    exact ⟨_, .d _ _ (.str _), fun w' => by rw [opt _ _ _ h3, opt _ _ _ h4]; exact hr w'⟩
  · rename_i s k l h1 h2 h3 h4
    cases hq
    rw [h2] at hx; obtain rfl := hx.str_inv
    obtain ⟨f⟩ := Γ.ty h1
    have hr := run_slice_str (und_str f rfl) s (some (k, l)) none l.toNat s.length (.inr ⟨k, by rw [Int.toNat_of_nonneg hc.1]⟩) (.inl ⟨rfl, rfl⟩) (by omega) (by omega)
    exact ⟨.string ⟨(s.drop l.toNat).toArray⟩, .d _ _ (.str _), fun w' => by rw [opt _ _ _ h3, optn _ h4]; simpa using hr w'⟩
  · rename_i s k h h1 h2 h3 h4
    cases hq
    rw [h2] at hx; obtain rfl := hx.str_inv
    obtain ⟨f⟩ := Γ.ty h1
    have hr := run_slice_str (und_str f rfl) s none (some (k, h)) 0 h.toNat (.inl ⟨rfl, rfl⟩) (.inr ⟨k, by rw [Int.toNat_of_nonneg hc.1]⟩) (by omega) (by omega)
    exact ⟨.string ⟨(s.take h.toNat).toArray⟩, .d _ _ (.str _), fun w' => by rw [optn _ h3, opt _ _ _ h4]; simpa using hr w'⟩
  · rename_i e sz es k l k' h h1 h2 h3 h4
    split at hq
    · rename_i te he
      cases hs : Nat.beq sz te.size with
      | false => rw [hs] at hq; cases hq
      | true =>
        rw [hs] at hq; cases hq
        have := Nat.eq_of_beq_eq_true hs; subst this
        obtain ⟨f⟩ := Γ.ty h1
        obtain ⟨fe⟩ := Γ.ty he
        rw [h2] at hx
        cases hx with
        | d _ _ hd =>
          obtain ⟨p, cap, rfl, hcap, hr⟩ := hd.sl_of l.toNat h.toNat (by omega) (by omega)
          refine ⟨_, .d _ _ hr, fun w' => ?_⟩
          rw [opt _ _ _ h3, opt _ _ _ h4]
          exact run_slice_sl fe (und_slice f rfl) p es.length cap (some (k, l)) (some (k', h)) l.toNat h.toNat (.inr ⟨k, by rw [Int.toNat_of_nonneg hc.1]⟩) (.inr ⟨k', by rw [Int.toNat_of_nonneg (by omega)]⟩) (by omega) (by omega) w'
    · cases hq
  · rename_i e sz es k l h1 h2 h3 h4
    split at hq
    · rename_i te he
      cases hs : Nat.beq sz te.size with
      | false => rw [hs] at hq; cases hq
      | true =>
        rw [hs] at hq; cases hq
        have := Nat.eq_of_beq_eq_true hs; subst this
        obtain ⟨f⟩ := Γ.ty h1
        obtain ⟨fe⟩ := Γ.ty he
        rw [h2] at hx
        cases hx with
        | d _ _ hd =>
          obtain ⟨p, cap, rfl, hcap, hr⟩ := hd.sl_of l.toNat es.length (by omega) (by omega)
          rw [List.take_length] at hr
          refine ⟨_, .d _ _ hr, fun w' => ?_⟩
          rw [opt _ _ _ h3, optn _ h4]
          exact run_slice_sl fe (und_slice f rfl) p es.length cap (some (k, l)) none l.toNat es.length (.inr ⟨k, by rw [Int.toNat_of_nonneg hc.1]⟩) (.inl ⟨rfl, rfl⟩) (by omega) (by omega) w'
    · cases hq
  · rename_i e sz es k h h1 h2 h3 h4
    split at hq
    · rename_i te he
      cases hs : Nat.beq sz te.size with
      | false => rw [hs] at hq; cases hq
      | true =>
        rw [hs] at hq; cases hq
        have := Nat.eq_of_beq_eq_true hs; subst this
        obtain ⟨f⟩ := Γ.ty h1
        obtain ⟨fe⟩ := Γ.ty he
        rw [h2] at hx
        cases hx with
        | d _ _ hd =>
          obtain ⟨p, cap, rfl, hcap, hr⟩ := hd.sl_of 0 h.toNat (by omega) (by omega)
          rw [List.drop_zero] at hr
          refine ⟨_, .d _ _ hr, fun w' => ?_⟩
          rw [optn _ h3, opt _ _ _ h4]
          exact run_slice_sl fe (und_slice f rfl) p es.length cap none (some (k, h)) 0 h.toNat (.inl ⟨rfl, rfl⟩) (.inr ⟨k, by rw [Int.toNat_of_nonneg (by omega)]⟩) (by omega) (by omega) w'
    · cases hq
  · cases hq

theorem lenA_ok {u : Value} {x : AV} {n : Int} (h : VRel G u x) (hn : lenA x = some n) {t ty : Nat} (hk : ∃ e, Γ.P.underlying t = some (.slice e)) :
    ∀ w', (Builtin.len_ #[t] ty #[u]).run Γ.P w' = .ok (.int .i64 n) w' := by
  intro w'
  obtain ⟨e, he⟩ := hk
  have sl : ∀ p (m : Nat) cap, u = .slice p m cap → n = m → (Builtin.len_ #[t] ty #[u]).run Γ.P w' = .ok (.int .i64 n) w' := fun p m cap hu hn => by
    subst hu; subst hn; simp [Builtin.len_, run_underlying he, goInt]
  unfold lenA at hn
  split at hn
  · cases hn
    cases h with | d _ _ hd => cases hd with
      | sl0 => exact sl _ _ _ rfl rfl
      | sl => exact sl _ _ _ rfl rfl
  · cases hn
    cases h with | d _ _ hd => cases hd; exact sl _ _ _ rfl rfl
  · cases hn
    have hd := own_sl h
    cases hd with
    | sl0 => exact sl _ _ _ rfl rfl
    | sl => exact sl _ _ _ rfl rfl
  · cases hn

theorem i64?_ok {u : Value} {x : AV} {n : Int} (h : VRel G u x) (hn : x.i64? = some n) : u = .int .i64 n := by
  unfold AV.i64? at hn
  split at hn
  · cases hn; exact h.int_inv
  · cases hn

theorem maxF_ok {l : List AV} : ∀ {x : Int} {vs : List Value} {r : AV}, vs.length = l.length → (∀ (i : Nat) (c : AV), l[i]? = some c → VRel G (gv vs i) c) → maxF x l = some r →
    ∃ n, r = .d (.int .i64 n) ∧ ∀ (P : Program) w', (vs.foldlM Builtin.max2 (.int .i64 x) : Sem Value).run P w' = .ok (.int .i64 n) w' := by
  induction l with
  | nil =>
    intro x vs r hl h hr
    cases vs with
    | nil => simp [maxF] at hr; exact ⟨x, hr.symm, fun P w' => by simp⟩
    | cons _ _ => simp at hl
  | cons a l ih =>
    intro x vs r hl h hr
    cases vs with
    | nil => simp at hl
    | cons u vs =>
      simp only [maxF] at hr
      split at hr
      · rename_i y he
        have h0 : u = .int .i64 y := i64?_ok (h 0 _ rfl) he
        obtain ⟨n, hn, hrun⟩ := ih (vs := vs) (by simpa using hl) (fun i c hc => by simpa [gv] using h (i + 1) c (by simpa using hc)) hr
        refine ⟨n, hn, fun P w' => ?_⟩
        have e : (if y > x then y else x) = max x y := by rw [Int.max_def]; split <;> split <;> omega
        simp only [List.foldlM_cons, h0, Builtin.max2, e, Sem.run_bind, Sem.run_pure, Result.andThen_ok, hrun]
      · cases hr
theorem minF_ok {l : List AV} : ∀ {x : Int} {vs : List Value} {r : AV}, vs.length = l.length → (∀ (i : Nat) (c : AV), l[i]? = some c → VRel G (gv vs i) c) → minF x l = some r →
    ∃ n, r = .d (.int .i64 n) ∧ ∀ (P : Program) w', (vs.foldlM Builtin.min2 (.int .i64 x) : Sem Value).run P w' = .ok (.int .i64 n) w' := by
  induction l with
  | nil =>
    intro x vs r hl h hr
    cases vs with
    | nil => simp [minF] at hr; exact ⟨x, hr.symm, fun P w' => by simp⟩
    | cons _ _ => simp at hl
  | cons a l ih =>
    intro x vs r hl h hr
    cases vs with
    | nil => simp at hl
    | cons u vs =>
      simp only [minF] at hr
      split at hr
      · rename_i y he
        have h0 : u = .int .i64 y := i64?_ok (h 0 _ rfl) he
        obtain ⟨n, hn, hrun⟩ := ih (vs := vs) (by simpa using hl) (fun i c hc => by simpa [gv] using h (i + 1) c (by simpa using hc)) hr
        refine ⟨n, hn, fun P w' => ?_⟩
        have e : (if y < x then y else x) = min x y := by rw [Int.min_def]; split <;> split <;> omega
        simp only [List.foldlM_cons, h0, Builtin.min2, e, Sem.run_bind, Sem.run_pure, Result.andThen_ok, hrun]
      · cases hr

theorem avs_ok (hW : WRel Γ.gl G H w) (hF : FRel G nt a.tmps env) (l : Array Operand) : (l.map a.eval).size = (avs Γ env l).length ∧ ∀ (i : Nat) (c : AV), (avs Γ env l)[i]? = some c → VRel G (gv (l.map a.eval).toList i) c := by
  refine ⟨by simp [avs], fun i c hc => ?_⟩
  simp only [avs, List.getElem?_map] at hc
  cases hl : l.toList[i]? with
  | none => simp [hl] at hc
  | some x =>
    simp [hl] at hc; subst hc
    have : (l.map a.eval).toList[i]? = some (a.eval x) := by simp at hl ⊢; exact ⟨x, hl, rfl⟩
    simp only [gv, List.getD, this, Option.getD_some]
    exact ev_ok hW hF x

theorem litN_ok {y : Operand} {n : Nat} (h : litN y = some n) : ∃ k, a.eval y = .int k (n : Int) := by
  unfold litN at h
  split at h
  · cases h; exact ⟨_, rfl⟩
  · cases h

theorem q_binOp {op : BinOp} {t t' : Nat} {x y : Operand} (hW : WRel Γ.gl G H w) (hF : FRel G nt a.tmps env) (hq : qop Γ nn (.binOp op t x y t') env H = some (c, v)) (hc : c) :
    ∃ u, VRel G u v ∧ ∀ w', (do eqGuard op t x y (a.eval x) (a.eval y); binOp op t (a.eval x) (a.eval y) : Sem Value).run Γ.P w' = .ok u w' := by
  have hx := ev_ok hW hF x
  have hy := ev_ok hW hF y
  simp only [qop, qbin] at hq
  split at hq
  · rename_i n h1 h2
    obtain ⟨ky, hky⟩ := litN_ok (a := a) h2
    rw [hky]
    generalize a.eval x = xv at hx
    unfold shX at hq
    split at hq
    · rename_i k z he
      rw [he] at hx; obtain rfl := hx.int_inv
      obtain ⟨r, r1, r2⟩ := shlA_ok (P := Γ.P) (G := G) (y := (n : Int)) (yk := ky) (by simpa using hq) hc (by omega) t
      exact ⟨r, r1, fun w' => by simp [eqGuard_int, r2]⟩
    · rename_i k z he
      rw [he] at hx; obtain rfl := hx.int_inv
      cases hq
      exact ⟨_, .d _ _ (.int ..), fun w' => by
        simp only [Sem.run_bind, eqGuard_int, Result.andThen_ok, binOp, Op.shift, if_neg (show ¬ (n : Int) < 0 by omega), Int.toNat_natCast, Nat.min_eq_left hc]
        rw [Int.fdiv_eq_ediv_of_nonneg _ (Int.le_of_lt (Int.pow_pos (by omega)))]; simp⟩
    · cases hq
  · cases hbt : isBoolT (lookT Γ.T t) with
    | true =>
      rw [hbt, cond_true] at hq
      unfold isBoolT at hbt
      split at hbt
      · rename_i h1
        obtain ⟨f⟩ := Γ.ty h1
        exact eqBool_ok hx hy hq t (und_bool f rfl) x y
      · cases hbt
    | false =>
    rw [hbt, cond_false] at hq
    cases hp : isPtr (lookT Γ.T t) with
    | true =>
      rw [hp, cond_true] at hq
      split at hq
      · rename_i b hb
        cases hq
        unfold isPtr at hp
        split at hp
        · rename_i e h1
          obtain ⟨f⟩ := Γ.ty h1
          exact ⟨_, .d _ _ (.bool b), eqNil_ok hx hy hb t ⟨_, und_ptr f rfl⟩ x y⟩
        · cases hp
      · cases hq
    | false =>
      rw [hp, cond_false] at hq
      exact binA_ok hx hy hq hc t x y

theorem run_builtin {cl : Call} {b : Builtin} (hcal : cl.callee = .builtin b) (ty : Nat) (w : World) :
    ∃ cs, (do let d ← resolve a.eval cl ty; invoke d.target d.args : Sem Next).run Γ.P w = (builtin b cl.argTypes ty cs (cl.args.map a.eval)).run Γ.P w := by
  simp only [resolve, hcal, Sem.run_bind, Sem.run_pure, Result.andThen_ok, invoke]
  exact ⟨_, rfl⟩

theorem q_call {cl : Call} (hW : WRel Γ.gl G H w) (hF : FRel G nt a.tmps env) (hq : qcall Γ env cl = some (c, v)) (ty : Nat) :
    ∃ u, VRel G u v ∧ ∀ w', (do let d ← resolve a.eval cl ty; invoke d.target d.args : Sem Next).run Γ.P w' = .ok (.value u) w' := by
  obtain ⟨a1, a2⟩ := avs_ok (Γ := Γ) hW hF cl.args
  unfold qcall at hq
  split at hq
  · rename_i hcal
    split at hq
    · rename_i x t hx ht
      have hxe := ev_ok hW hF x
      have e1 : cl.args = #[x] := by rw [← Array.toList_inj]; exact hx
      have e2 : cl.argTypes = #[t] := by rw [← Array.toList_inj]; exact ht
      unfold qlen at hq
      split at hq
      · rename_i s h1 h2
        cases hq
        rw [h2] at hxe
        obtain ⟨f⟩ := Γ.ty h1
        have hl : (Builtin.len_ #[t] ty #[.string ⟨s.toArray⟩]).run Γ.P = fun w' => .ok (.int .i64 s.length) w' := by
          funext w'
          have hsz : (⟨s.toArray⟩ : ByteArray).size = s.length := List.size_toArray
          simp [Builtin.len_, run_underlying (und_str f rfl), goInt, hsz]
        exact ⟨_, .d _ _ (.int ..), fun w' => by
          obtain ⟨cs, hcs⟩ := run_builtin (a := a) hcal ty w'
          rw [hcs]; simp only [builtin, e1, e2, List.map_toArray, List.map_cons, List.map_nil, hxe.str_inv, Sem.run_bind, hl, Result.andThen_ok, Sem.run_pure]⟩
      · rename_i x' e h1
        split at hq
        · rename_i n hn
          cases hq
          obtain ⟨f⟩ := Γ.ty h1
          have := lenA_ok (Γ := Γ) (ty := ty) hxe hn ⟨e, und_slice f rfl⟩
          exact ⟨_, .d _ _ (.int ..), fun w' => by
            obtain ⟨cs, hcs⟩ := run_builtin (a := a) hcal ty w'
            rw [hcs]; simp only [builtin, e1, e2, List.map_toArray, List.map_cons, List.map_nil, Sem.run_bind, this w', Result.andThen_ok, Sem.run_pure]⟩
        · cases hq
      · cases hq
    · cases hq
  · rename_i hcal
    split at hq
    · rename_i v' hv
      cases hq
      unfold maxA at hv
      split at hv
      · cases hv
      · rename_i b r hb
        split at hv
        · rename_i y hy
          rw [hb] at a1 a2
          have e : ∃ u us, (cl.args.map a.eval).toList = u :: us := by
            cases hl : (cl.args.map a.eval).toList with
            | nil => rw [← Array.length_toList, hl] at a1; simp at a1
            | cons u us => exact ⟨u, us, rfl⟩
          obtain ⟨u, us, he⟩ := e
          rw [← Array.length_toList, he] at a1
          rw [he] at a2
          have h0 : u = .int .i64 y := i64?_ok (a2 0 _ rfl) hy
          obtain ⟨n, rfl, hr⟩ := maxF_ok (vs := us) (by simpa using a1) (fun i c hc => by simpa [gv] using a2 (i + 1) c (by simpa using hc)) hv
          exact ⟨_, .d _ _ (.int ..), fun w' => by
            obtain ⟨cs, hcs⟩ := run_builtin (a := a) hcal ty w'
            rw [hcs]; simp only [builtin, Builtin.max_, he, h0, hr, Sem.run_bind, Result.andThen_ok, Sem.run_pure]⟩
        · cases hv
    · cases hq
  · rename_i hcal
    split at hq
    · rename_i v' hv
      cases hq
      unfold minA at hv
      split at hv
      · cases hv
      · rename_i b r hb
        split at hv
        · rename_i y hy
          rw [hb] at a1 a2
          have e : ∃ u us, (cl.args.map a.eval).toList = u :: us := by
            cases hl : (cl.args.map a.eval).toList with
            | nil => rw [← Array.length_toList, hl] at a1; simp at a1
            | cons u us => exact ⟨u, us, rfl⟩
          obtain ⟨u, us, he⟩ := e
          rw [← Array.length_toList, he] at a1
          rw [he] at a2
          have h0 : u = .int .i64 y := i64?_ok (a2 0 _ rfl) hy
          obtain ⟨n, rfl, hr⟩ := minF_ok (vs := us) (by simpa using a1) (fun i c hc => by simpa [gv] using a2 (i + 1) c (by simpa using hc)) hv
          exact ⟨_, .d _ _ (.int ..), fun w' => by
            obtain ⟨cs, hcs⟩ := run_builtin (a := a) hcal ty w'
            rw [hcs]; simp only [builtin, Builtin.min_, he, h0, hr, Sem.run_bind, Result.andThen_ok, Sem.run_pure]⟩
        · cases hv
    · cases hq
  · cases hq

theorem qop_ok {o : Oper} (hW : WRel Γ.gl G H w) (hF : FRel G nt a.tmps env) (hq : qop Γ nn o.op env H = some (c, v)) (hc : c) :
    ∃ u, VRel G u v ∧ ∀ w', Below w.heap.size w w' → (execOp a.eval o).run Γ.P w' = .ok (.value u) w' := by
  unfold execOp
  generalize hop : o.op = op at hq
  cases op <;> try (simp [qop] at hq; done)
  case move x => simp only [qop, frc_eq, Option.some.injEq, Prod.mk.injEq] at hq; obtain ⟨rfl, rfl⟩ := hq; exact ⟨_, ev_ok hW hF x, fun w' _ => rfl⟩
  case assign x => simp only [qop, frc_eq, Option.some.injEq, Prod.mk.injEq] at hq; obtain ⟨rfl, rfl⟩ := hq; exact ⟨_, ev_ok hW hF x, fun w' _ => rfl⟩
  case pick x y z =>
    obtain ⟨u, h1, h2⟩ := q_pick hW hF hq
    exact ⟨u, h1, fun w' _ => h2 w'⟩
  case load t x =>
    obtain ⟨u, h1, h2⟩ := q_load hW hF hq
    exact ⟨u, h1, fun w' hb => by simp [h2 w' hb]⟩
  case fieldAddr s x f =>
    obtain ⟨u, h1, h2⟩ := q_fieldAddr hW hF hq
    exact ⟨u, h1, fun w' hb => by simp [h2 w']⟩
  case field s x f =>
    obtain ⟨u, h1, h2⟩ := q_field hW hF hq
    exact ⟨u, h1, fun w' hb => by simp [h2 w']⟩
  case indexAddr t x y =>
    obtain ⟨u, h1, h2⟩ := q_indexAddr hW hF hq hc
    exact ⟨u, h1, fun w' hb => by simp [h2 w']⟩
  case index t x y =>
    obtain ⟨u, h1, h2⟩ := q_index hW hF hq hc
    exact ⟨u, h1, fun w' hb => by simp [h2 w']⟩
  case slice t x lo hi mx =>
    cases mx with
    | some m => simp [qop] at hq
    | none =>
      obtain ⟨u, h1, h2⟩ := q_slice hW hF hq hc
      exact ⟨u, h1, fun w' hb => by simp [h2 w']⟩
  case binOp op t x y t' =>
    obtain ⟨u, h1, h2⟩ := q_binOp hW hF hq hc
    exact ⟨u, h1, fun w' hb => by have := h2 w'; simp only [Sem.run_bind] at this ⊢; simp [this]⟩
  case makeFunc f first cap =>
    simp only [qop, Option.some.injEq, Prod.mk.injEq] at hq; obtain ⟨rfl, rfl⟩ := hq
    obtain ⟨a1, a2⟩ := avs_ok (Γ := Γ) hW hF first
    obtain ⟨b1, b2⟩ := avs_ok (Γ := Γ) hW hF cap
    exact ⟨_, .fn f _ _ _ _ a1 b1 a2 b2, fun w' _ => by simp [Instr.makeFunc]⟩
  case unOp op t x =>
    have hx := ev_ok hW hF x
    cases op <;> try (simp [qop] at hq; done)
    case neg =>
      simp only [qop] at hq
      split at hq
      · rename_i k n he
        rw [he] at hx
        exact ⟨_, kres_ok hq hc, fun w' _ => by simp [hx.int_inv, Op.unary, Op.intArith]⟩
      · cases hq
    case not =>
      simp only [qop] at hq
      split at hq
      · rename_i b he
        rw [he] at hx
        cases hq
        exact ⟨_, .d _ _ (.bool _), fun w' _ => by simp [hx.bool_inv, Op.unary]⟩
      · cases hq
  case nilCheck x =>
    have hx := ev_ok hW hF x
    simp only [qop] at hq
    split at hq
    · rename_i i o he; cases hq; rw [he] at hx
      generalize hxv : a.eval x = xv at hx
      cases hx with | ptr b _ _ hb => exact ⟨_, .ptr b _ _ hb, fun w' _ => by simp [hxv]⟩
    · rename_i i n sz j o he; cases hq; rw [he] at hx
      generalize hxv : a.eval x = xv at hx
      cases hx with | eptr b cap _ _ _ _ _ hb => exact ⟨_, .eptr b cap _ _ _ _ _ hb, fun w' _ => by simp [hxv]⟩
    · rename_i cs he; cases hq; rw [he] at hx
      generalize hxv : a.eval x = xv at hx
      cases hx with | d _ _ hd => cases hd with | iptr b o _ h1 h2 h3 => exact ⟨_, .d _ _ (.iptr b o _ h1 h2 h3), fun w' _ => by simp [hxv]⟩
    · rename_i i he; cases hq; rw [he] at hx
      generalize hxv : a.eval x = xv at hx
      cases hx with | it b _ hb => exact ⟨_, .it b _ hb, fun w' _ => by simp [hxv]⟩
    · cases hq
  case extract x i =>
    have hx := ev_ok hW hF x
    simp only [qop] at hq
    split at hq
    · rename_i vs he
      split at hq
      · rename_i v' hv
        cases hq; rw [he] at hx
        generalize hxv : a.eval x = xv at hx
        cases hx with
        | tup us _ hl h =>
          refine ⟨_, h i v hv, fun w' _ => ?_⟩
          have hlt := getElem?_lt hv
          have : us[i]? = some (gv us.toList i) := by simp [gv, List.getD, show i < us.size by omega]
          simp [hxv, Instr.extract, this]
      · cases hq
    · cases hq
  case convert s d x =>
    have hx := ev_ok hW hF x
    simp only [qop] at hq
    split at hq
    · rename_i tis k k' n h1 h2 h3
      rw [h3] at hx
      obtain ⟨fs⟩ := Γ.ty h1
      obtain ⟨fd⟩ := Γ.ty h2
      refine ⟨_, kconv_ok hq hc, fun w' _ => ?_⟩
      simp [hx.int_inv, convert, run_underlying fs.und, run_underlying (und_int fd rfl), Conv.intToInt]
    · rename_i s' h1 h2 h3
      cases hq
      rw [h3] at hx
      obtain ⟨fs⟩ := Γ.ty h1
      obtain ⟨fd⟩ := Γ.ty h2
      refine ⟨_, hx, fun w' _ => ?_⟩
      simp [hx.str_inv, convert, run_underlying (und_str fs rfl), run_underlying (und_str fd rfl)]
    · cases hq
  case call cl =>
    obtain ⟨u, h1, h2⟩ := q_call hW hF (by simpa only [qop] using hq) o.type
    exact ⟨u, h1, fun w' _ => h2 w'⟩
end
end Go.Proofs.YtammpekpmjboiaaDoor.Av
