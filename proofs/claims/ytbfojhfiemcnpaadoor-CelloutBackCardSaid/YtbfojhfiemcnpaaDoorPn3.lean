/- Empty slices written out. Regions that draw their order, step by step: pure steps are taken as soon as they may come up; the others in each order that is left. Regions that draw their order: reads ahead of all calls; calls that keep what there was; then the steps that write. A written row that a cell holds, frozen so far. -/
import Derived.Test.YtbfojhfiemcnpaaDoorPn
/- Empty slices written out. -/
set_option linter.unusedVariables false
set_option linter.unusedSimpArgs false
namespace Go.Proofs.YtbfojhfiemcnpaaDoor.Av
open Go Go.RowKit
section
variable {Γ : Ctx} {nt n0 : Nat} {k : List It} {Q : Post} {env : Env} {H : List AObj}
def enB (m : Nat) : Env → Bool
  | [] => true
  | (_, v) :: r => v.bnd m && enB m r
theorem enB_get (m : Nat) : ∀ (env : Env), enB m env = true → ∀ i, (env.get i).bnd m = true
  | [], _, i => rfl
  | (j, v) :: r, h, i => by
    simp only [enB, Bool.and_eq_true] at h
    simp only [Env.get]
    cases Nat.beq j i with
    | true => exact h.1
    | false => exact enB_get m r h.2 i
theorem EnvLe.at_ : ∀ {env' : Env}, EnvLe env env' → ∀ {i : Nat} {v : AV}, (i, v) ∈ env' → env'.get i = env.get i
  | (j, u) :: r, h, i, v, hm => by
    simp only [Env.get]
    cases hb : Nat.beq j i with
    | true => have := Nat.eq_of_beq_eq_true hb; subst this; exact h.1.symm
    | false =>
      rcases List.mem_cons.1 hm with e | e
      · cases e; rw [Nat.beq_refl] at hb; cases hb
      · exact EnvLe.at_ h.2 e
theorem EnvLe.of : ∀ {l : Env}, (∀ i v, (i, v) ∈ l → env.get i = v) → EnvLe env l
  | [], _ => True.intro
  | (j, u) :: r, h => ⟨h j u List.mem_cons_self, EnvLe.of fun i v hm => h i v (List.mem_cons_of_mem _ hm)⟩
theorem EnvLe.mem : ∀ {l : Env}, EnvLe env l → ∀ i v, (i, v) ∈ l → env.get i = v
  | (j, u) :: r, h, i, v, hm => by
    rcases List.mem_cons.1 hm with e | e
    · cases e; exact h.1
    · exact EnvLe.mem h.2 i v e
theorem EnvLe.self {env' : Env} (h : EnvLe env env') : EnvLe env' env' :=
  EnvLe.of fun i v hm => (h.at_ hm).trans (h.mem i v hm)
/-- the end of a round that made objects: the first m stay -/
theorem AGo.roundD {I : Nat → Env → List AObj → Prop} {n : Nat} {K : List It} (m : Nat) (env' : Env) (m' : Nat) (hlt : m' < n) (h1 : Nat.ble n0 m = true) (h2 : Nat.ble m H.length = true) (ho : objsBnd m (H.take m) = true) (hbe : enB m env' = true) (he : EnvLe env env')
    (hI : I m' env' (H.take m)) : AGo Γ nt n0 [] (LoopPost Γ nt n0 I n K Q) env H :=
  AGo.drop m (Nat.le_of_ble_eq_true h1) (Nat.le_of_ble_eq_true h2) (fun o h => objsBnd_mem ho o h) he (enB_get m _ hbe) (AGo.round env' m' hlt he.self hI)
end
end Go.Proofs.YtbfojhfiemcnpaaDoor.Av

/- Regions that draw their order, step by step: pure steps are taken as soon as they may come up; the others in each order that is left. -/
set_option linter.unusedVariables false
set_option linter.unusedSimpArgs false
namespace Go.Proofs.YtbfojhfiemcnpaaDoor.Av
open Go Go.RowKit
theorem resm_outgrown {P : Program} {Q' : Exit → Act → World → Prop} : ∀ (k : List It) (a : Act) (w : World), resm P Q' k .outgrown a w = Q' .outgrown a w
  | [], _, _ => rfl
  | .blk j :: k, a, w => by simp only [resm]; exact resm_outgrown k a w
  | .code _ :: k, a, w => by simp only [resm]; exact resm_outgrown k a w
  | .ops _ _ :: k, a, w => by simp only [resm]; exact resm_outgrown k a w
  | .qops _ _ :: k, a, w => by simp only [resm]; exact resm_outgrown k a w
  | .sops _ _ :: k, a, w => by simp only [resm]; exact resm_outgrown k a w
  | .lp _ :: k, a, w => by simp only [resm]; exact resm_outgrown k a w
theorem wp_mono2 {P : Program} {o : Oper} {a : Act} {w : World} {K K' : Act → World → Prop} {Q Q' : Exit → Act → World → Prop} (h : ∀ a w, K a w → K' a w) (hp : ∀ c a w, Q (.panic c) a w → Q' (.panic c) a w) (ho : ∀ a w, Q .outgrown a w → Q' .outgrown a w)
    (hh : o.wp P a w K Q) : o.wp P a w K' Q' := by
  have hl : LetsOut Q → LetsOut Q' := fun ⟨a, w, h⟩ => ⟨a, w, ho a w h⟩
  unfold Oper.wp at *
  generalize (execOp a.eval o).run P w = r at *
  cases r with
  | ok n w' =>
    cases n <;> simp only [Oper.upon] at hh ⊢ <;>
      first
        | exact h _ _ hh
        | exact Calls.mono hh (fun e w'' he => by cases e <;> first | exact h _ _ he | exact hp _ _ _ he | exact hl he)
        | exact Rows.mono hh (fun _ _ he => h _ _ he)
  | halt x w' => cases x <;> simp only [Oper.upon] at hh ⊢ <;> first | exact hh | exact hp _ _ _ hh
/-! which step is taken next: a guess alone, shown anew where it is used -/
def pureOp : Op → Bool
  | .move _ | .assign _ | .pick _ _ _ | .fieldAddr _ _ _ | .field _ _ _ | .indexAddr _ _ _ | .index _ _ _ | .slice _ _ _ _ _ | .binOp _ _ _ _ _ | .makeFunc _ _ _ | .unOp _ _ _ | .nilCheck _ | .extract _ _ | .convert _ _ _ => true
  | .call c => match c.callee with | .builtin .len | .builtin .max | .builtin .min => true | _ => false
  | _ => false
def mayUp (done : List Nat) (o : Oper) : Bool := o.after.toList.all fun e => !Region.binds .any e || done.contains e.on
def nextP : List Oper → List Nat → List Nat → Option (Nat × Oper)
  | o :: r, i :: ix, done => bif !done.contains i && pureOp o.op && mayUp done o then some (i, o) else nextP r ix done
  | _, _, _ => none
def readyN : List Oper → List Nat → List Nat → List (Nat × Oper)
  | o :: r, i :: ix, done => bif !done.contains i && mayUp done o then (i, o) :: readyN r ix done else readyN r ix done
  | _, _, _ => []
/-- which have come up, the last one first -/
def mkL (n : Nat) : List Nat → Array Bool
  | [] => Array.replicate n false
  | i :: r => (mkL n r).setIfInBounds i true
theorem mkL_size (n : Nat) : ∀ d, (mkL n d).size = n
  | [] => by simp [mkL]
  | i :: r => by simp [mkL, mkL_size n r]
section
variable {Γ : Ctx} {nt n0 : Nat} {k : List It} {Q : Post} {env : Env} {H : List AObj}
/-- a drawn region, from where these have come up -/
def AReg (Γ : Ctx) (nt n0 : Nat) (all : Array Oper) (ix : List Nat) (f : Nat) (done : List Nat) (k : List It) (Q : Post) (env : Env) (H : List AObj) : Prop :=
  ∀ G0 G a w, GLe n0 G0 G → n0 ≤ H.length → FRel G nt a.tmps env → a.defers = [] → WRel Γ.gl G H w → Closed all (mkL all.size done) → wpAny Γ.P .any all (resm Γ.P (Conc Γ nt n0 G0 Q) k) f (mkL all.size done) a w
def RegP (Γ : Ctx) (nt n0 : Nat) (all : Array Oper) (ix : List Nat) (f : Nat) (done : List Nat) (k : List It) (Q : Post) : Post
  | .normal, env, H => AReg Γ nt n0 all ix f done k Q env H
  | .panic c, env, H => Q (.panic c) env H
  | .outgrown, env, H => Q .outgrown env H
  | _, _, _ => False
theorem AGo.drawM {id : Nat} {all : Array Oper} (ix : List Nat) (f : Nat) (hf : all.size = f) (h : AReg Γ nt n0 all ix f [] k Q env H) : AGo Γ nt n0 (.code (.region id all true) :: k) Q env H :=
  fun G0 G a w h0 hl hF hdf hW => by
    have hW' : WRel Γ.gl G H { w with drawn := w.drawn + 1 } := hW.same rfl rfl rfl rfl
    simp only [resm]
    refine wp_region_any Γ.mixed ?_
    subst hf
    exact h G0 G a _ h0 hl hF hdf hW' (fun j oj _ hl2 => by rw [mkL, getD_replicate_false] at hl2; cases hl2)
/-- all that may come up now -/
def AEach (Γ : Ctx) (nt n0 : Nat) (all : Array Oper) (ix : List Nat) (f : Nat) (done : List Nat) (k : List It) (Q : Post) (env : Env) (H : List AObj) : List Nat → Prop
  | [] => True
  | i :: r => (∃ o, all[i]? = some o ∧ AGo Γ nt n0 [.ops all [o]] (RegP Γ nt n0 all ix f (i :: done) k Q) env H) ∧ AEach Γ nt n0 all ix f done k Q env H r
theorem AEach.mem {all : Array Oper} {ix : List Nat} {f : Nat} {done : List Nat} : ∀ {L : List Nat} {i : Nat}, AEach Γ nt n0 all ix f done k Q env H L → i ∈ L → ∃ o, all[i]? = some o ∧ AGo Γ nt n0 [.ops all [o]] (RegP Γ nt n0 all ix f (i :: done) k Q) env H
  | x :: r, i, h, hm => by
    rcases List.mem_cons.1 hm with rfl | hm
    · exact h.1
    · exact AEach.mem h.2 hm
theorem AReg.each {all : Array Oper} {ix : List Nat} {f : Nat} {done : List Nat} (L : List Nat) (hr : decide (Region.ready .any all (mkL all.size done) = L) = true) (hne : L.isEmpty = false) (h : AEach Γ nt n0 all ix f done k Q env H L) : AReg Γ nt n0 all ix (f + 1) done k Q env H :=
  fun G0 G a w h0 hl hF hdf hW hcl => by
    have hr' := of_decide_eq_true hr
    refine ⟨fun h1 => (by rw [hr'] at h1; subst h1; cases hne), fun j hj => ?_⟩
    have hcl' := hcl.set hj
    rw [hr'] at hj
    obtain ⟨o, ho, hg⟩ := h.mem hj
    have hn := hg G0 G a w h0 hl hF hdf hW
    simp only [resm] at hn
    unfold wpOp
    simp only [ho]
    unfold wpList at hn
    have fin : ∀ a' w', Conc Γ nt n0 G0 (RegP Γ nt n0 all ix f (j :: done) k Q) .normal a' w' → wpAny Γ.P .any all (resm Γ.P (Conc Γ nt n0 G0 Q) k) f ((mkL all.size done).setIfInBounds j true) a' w' := fun a' w' hc => by
      obtain ⟨G', env', H', c1, c2, c3, c4, c5, c6⟩ := hc
      exact c6 G0 G' a' w' c1 c2 c3 c4 c5 hcl'
    have pan : ∀ c a w, resm Γ.P (Conc Γ nt n0 G0 (RegP Γ nt n0 all ix f (j :: done) k Q)) [] (.panic c) a w → resm Γ.P (Conc Γ nt n0 G0 Q) k (.panic c) a w := fun c a w h => by
      rw [resm_panic]; exact h
    have out : ∀ a w, resm Γ.P (Conc Γ nt n0 G0 (RegP Γ nt n0 all ix f (j :: done) k Q)) [] .outgrown a w → resm Γ.P (Conc Γ nt n0 G0 Q) k .outgrown a w := fun a w h => by
      rw [resm_outgrown]; exact h
    split
    · rename_i hw
      rw [if_pos hw] at hn
      rcases hn with hn | ⟨hn, a', w', ho⟩
      · exact .inl (wp_mono2 (fun a' w' h' => fin a' w' (by simpa only [wpList, resm] using h')) pan out hn)
      · exact .inr ⟨hn, a', w', out a' w' ho⟩
    · rename_i hw
      rw [if_neg hw] at hn
      exact fin _ _ (by simpa only [wpList, resm] using hn)
theorem AReg.one {all : Array Oper} {ix : List Nat} {f : Nat} {done : List Nat} {i : Nat} {o : Oper} (hL : readyN all.toList ix done = [(i, o)]) (ho : all[i]? = some o) (hr : decide (Region.ready .any all (mkL all.size done) = [i]) = true)
    (h : AGo Γ nt n0 [.ops all [o]] (RegP Γ nt n0 all ix f (i :: done) k Q) env H) : AReg Γ nt n0 all ix (f + 1) done k Q env H :=
  AReg.each [i] hr rfl ⟨⟨o, ho, h⟩, trivial⟩
theorem AReg.two {all : Array Oper} {ix : List Nat} {f : Nat} {done : List Nat} {i j : Nat} {o o2 : Oper} (hL : readyN all.toList ix done = [(i, o), (j, o2)]) (ho : all[i]? = some o) (ho2 : all[j]? = some o2) (hr : decide (Region.ready .any all (mkL all.size done) = [i, j]) = true)
    (h : AGo Γ nt n0 [.ops all [o]] (RegP Γ nt n0 all ix f (i :: done) k Q) env H) (h2 : AGo Γ nt n0 [.ops all [o2]] (RegP Γ nt n0 all ix f (j :: done) k Q) env H) : AReg Γ nt n0 all ix (f + 1) done k Q env H :=
  AReg.each [i, j] hr rfl ⟨⟨o, ho, h⟩, ⟨o2, ho2, h2⟩, trivial⟩
theorem AReg.go {all : Array Oper} {ix : List Nat} {f : Nat} {done : List Nat} (h : AReg Γ nt n0 all ix f done k Q env H) : AGo Γ nt n0 [] (RegP Γ nt n0 all ix f done k Q) env H := AGo.done h
theorem AReg.fin {all : Array Oper} {ix : List Nat} {done : List Nat} (hr : (Region.ready .any all (mkL all.size done)).isEmpty = true) (h : AGo Γ nt n0 k Q env H) : AReg Γ nt n0 all ix 0 done k Q env H :=
  fun G0 G a w h0 hl hF hdf hW _ => ⟨by simpa using hr, h G0 G a w h0 hl hF hdf hW⟩
def isLoad : Op → Bool | .load _ _ => true | _ => false
section
variable {G : Ghost} {w : World} {nn : Bool} {a : Act} {c : Prop} {v : AV}
theorem qop_pure {o : Oper} (hnl : isLoad o.op = false) (hW : WRel Γ.gl G H w) (hF : FRel G nt a.tmps env) (hq : qop Γ nn o.op env H = some (c, v)) (hc : c) :
    ∃ u, VRel G u v ∧ ∀ w', (execOp a.eval o).run Γ.P w' = .ok (.value u) w' := by
  unfold execOp
  generalize hop : o.op = op at hq hnl
  cases op <;> try (simp [qop] at hq; done)
  case move x => simp only [qop, frc_eq, Option.some.injEq, Prod.mk.injEq] at hq; obtain ⟨rfl, rfl⟩ := hq; exact ⟨_, ev_ok hW hF x, fun w' => rfl⟩
  case assign x => simp only [qop, frc_eq, Option.some.injEq, Prod.mk.injEq] at hq; obtain ⟨rfl, rfl⟩ := hq; exact ⟨_, ev_ok hW hF x, fun w' => rfl⟩
  case pick x y z =>
    obtain ⟨u, h1, h2⟩ := q_pick hW hF hq
    exact ⟨u, h1, fun w' => h2 w'⟩
  case load t x => cases hnl
  case fieldAddr s x f =>
    obtain ⟨u, h1, h2⟩ := q_fieldAddr hW hF hq
    exact ⟨u, h1, fun w' => by simp [h2 w']⟩
  case field s x f =>
    obtain ⟨u, h1, h2⟩ := q_field hW hF hq
    exact ⟨u, h1, fun w' => by simp [h2 w']⟩
  case indexAddr t x y =>
    obtain ⟨u, h1, h2⟩ := q_indexAddr hW hF hq hc
    exact ⟨u, h1, fun w' => by simp [h2 w']⟩
  case index t x y =>
    obtain ⟨u, h1, h2⟩ := q_index hW hF hq hc
    exact ⟨u, h1, fun w' => by simp [h2 w']⟩
  case slice t x lo hi mx =>
    cases mx with
    | some m => simp [qop] at hq
    | none =>
      obtain ⟨u, h1, h2⟩ := q_slice hW hF hq hc
      exact ⟨u, h1, fun w' => by simp [h2 w']⟩
  case binOp op t x y t' =>
    obtain ⟨u, h1, h2⟩ := q_binOp hW hF hq hc
    exact ⟨u, h1, fun w' => by have := h2 w'; simp only [Sem.run_bind] at this ⊢; simp [this]⟩
  case makeFunc f first cap =>
    simp only [qop, Option.some.injEq, Prod.mk.injEq] at hq; obtain ⟨rfl, rfl⟩ := hq
    obtain ⟨a1, a2⟩ := avs_ok (Γ := Γ) hW hF first
    obtain ⟨b1, b2⟩ := avs_ok (Γ := Γ) hW hF cap
    exact ⟨_, .fn f _ _ _ _ a1 b1 a2 b2, fun w' => by simp [Instr.makeFunc]⟩
  case unOp op t x =>
    have hx := ev_ok hW hF x
    cases op <;> try (simp [qop] at hq; done)
    case neg =>
      simp only [qop] at hq
      split at hq
      · rename_i k n he
        rw [he] at hx
        exact ⟨_, kres_ok hq hc, fun w' => by simp [hx.int_inv, Op.unary, Op.intArith]⟩
      · cases hq
    case not =>
      simp only [qop] at hq
      split at hq
      · rename_i b he
        rw [he] at hx
        cases hq
        exact ⟨_, .d _ _ (.bool _), fun w' => by simp [hx.bool_inv, Op.unary]⟩
      · cases hq
  case nilCheck x =>
    have hx := ev_ok hW hF x
    simp only [qop] at hq
    split at hq
    · rename_i i o he; cases hq; rw [he] at hx
      generalize hxv : a.eval x = xv at hx
      cases hx with | ptr b _ _ hb => exact ⟨_, .ptr b _ _ hb, fun w' => by simp [hxv]⟩
    · rename_i i n sz j o he; cases hq; rw [he] at hx
      generalize hxv : a.eval x = xv at hx
      cases hx with | eptr b cap _ _ _ _ _ hb => exact ⟨_, .eptr b cap _ _ _ _ _ hb, fun w' => by simp [hxv]⟩
    · rename_i cs he; cases hq; rw [he] at hx
      generalize hxv : a.eval x = xv at hx
      cases hx with | d _ _ hd => cases hd with | iptr b o _ h1 h2 h3 => exact ⟨_, .d _ _ (.iptr b o _ h1 h2 h3), fun w' => by simp [hxv]⟩
    · rename_i i he; cases hq; rw [he] at hx
      generalize hxv : a.eval x = xv at hx
      cases hx with | it b _ hb => exact ⟨_, .it b _ hb, fun w' => by simp [hxv]⟩
    · cases hq
  case extract x i =>
    have hx := ev_ok hW hF x
    simp only [qop] at hq
    split at hq
    · rename_i vs he
      split at hq
      · rename_i v' hv
        cases hq; rw [he] at hx
        generalize hxv : a.eval x = xv at hx
        cases hx with
        | tup us _ hl h =>
          refine ⟨_, h i v hv, fun w' => ?_⟩
          have hlt := getElem?_lt hv
          have : us[i]? = some (gv us.toList i) := by simp [gv, List.getD, show i < us.size by omega]
          simp [hxv, Instr.extract, this]
      · cases hq
    · cases hq
  case convert s d x =>
    have hx := ev_ok hW hF x
    simp only [qop] at hq
    split at hq
    · rename_i tis k k' n h1 h2 h3
      rw [h3] at hx
      obtain ⟨fs⟩ := Γ.ty h1
      obtain ⟨fd⟩ := Γ.ty h2
      refine ⟨_, kconv_ok hq hc, fun w' => ?_⟩
      simp [hx.int_inv, convert, run_underlying fs.und, run_underlying (und_int fd rfl), Conv.intToInt]
    · rename_i s' h1 h2 h3
      cases hq
      rw [h3] at hx
      obtain ⟨fs⟩ := Γ.ty h1
      obtain ⟨fd⟩ := Γ.ty h2
      refine ⟨_, hx, fun w' => ?_⟩
      simp [hx.str_inv, convert, run_underlying (und_str fs rfl), run_underlying (und_str fd rfl)]
    · cases hq
  case call cl =>
    obtain ⟨u, h1, h2⟩ := q_call hW hF (by simpa only [qop] using hq) o.type
    exact ⟨u, h1, fun w' => h2 w'⟩

end
theorem wpAnyE_true {P : Program} {ops : Array Oper} {Q' : Exit → Act → World → Prop} {m : Nat} : ∀ (f : Nat) (listed : Array Bool) (a : Act) (w : World), wpAny P .any ops Q' f listed a w → wpAnyE P ops Q' (fun _ => True) m f listed a w
  | 0, _, _, _, h => h
  | f + 1, listed, a, w, h => ⟨h.1, fun i hi => wpOp_mono (fun a' w' h' => ⟨fun _ _ => trivial, wpAnyE_true f _ a' w' h'⟩) (h.2 i hi)⟩
theorem AReg.first {all : Array Oper} {f : Nat} {done : List Nat} {o : Oper} {u : Value} {G0 : Ghost} {a : Act} {w : World} (i : Nat) (hnp : NoPan Q) (ho : all[i]? = some o) (hr : (Region.ready .any all (mkL all.size done)).contains i = true) (hfree : Region.free .any all (mkL all.size done) i = true) (hsel : Region.noSelect all = true)
    (hcl : Closed all (mkL all.size done)) (hy : YieldsIf Γ.P all (fun _ => True) o u a) (h : wpAny Γ.P .any all (resm Γ.P (Conc Γ nt n0 G0 Q) k) f (mkL all.size (i :: done)) (a.put o.dst u) w) :
    wpAny Γ.P .any all (resm Γ.P (Conc Γ nt n0 G0 Q) k) (f + 1) (mkL all.size done) a w := by
  have him : i < all.size := (Array.getElem?_eq_some_iff.1 ho).1
  refine wpAny_of_E (S := fun _ => True) (m := all.size) _ _ _ _ ?_
  refine wpAnyE_first (Si := fun _ => True) ho him (Nat.le_refl _) (Region.noSelect_spec hsel) (fun c a w hq => ?_) (fun _ h => h) (.inl fun _ => trivial) f _ a w (mkL_size _ _) hcl (Region.free_spec ho hfree) (by simpa using hr) hy trivial (fun _ => trivial) (wpAnyE_true _ _ _ _ h)
  rw [resm_panic] at hq
  obtain ⟨_, env, H, _, _, _, _, _, hq⟩ := hq
  exact hnp c env H hq
/-- a pure step is taken now, wherever it comes up -/
theorem AReg.pure {all : Array Oper} {ix : List Nat} {f : Nat} {done : List Nat} {i : Nat} (nn : Bool) {o : Oper} {t : Nat} {c : Prop} {v : AV} (hi : nextP all.toList ix done = some (i, o)) (hnp : NoPan Q) (ho : all[i]? = some o) (hnl : isLoad o.op = false) (hw : wantedA all env o = some true) (hd : o.dst = some t) (ht : Nat.ble (t + 1) nt = true)
    (hq : qop Γ nn o.op env H = some (c, v)) (hr : (Region.ready .any all (mkL all.size done)).contains i = true) (hfree : (Region.free .any all (mkL all.size done) i && Region.noSelect all) = true) (hc : c)
    (h : AReg Γ nt n0 all ix f (i :: done) k Q ((t, v) :: env) H) : AReg Γ nt n0 all ix (f + 1) done k Q env H :=
  fun G0 G a w h0 hl hF hdf hW hcl => by
    rw [Bool.and_eq_true] at hfree
    have hr' : i ∈ Region.ready .any all (mkL all.size done) := by simpa using hr
    have hcl' := hcl.set hr'
    obtain ⟨u, hu, hall⟩ := qop_pure hnl hW hF hq hc
    exact AReg.first i hnp ho hr hfree.1 hfree.2 hcl (.inl ⟨wantedA_ok hF hw, fun w' _ => hall w'⟩) (h G0 G _ w h0 hl (by rw [hd]; exact hF.put ht hu) (put_defers' a _ u hdf) hW hcl')
theorem AReg.pureX {all : Array Oper} {ix : List Nat} {f : Nat} {done : List Nat} {i : Nat} {o : Oper} {t : Nat} {v : AV} (hi : nextP all.toList ix done = some (i, o)) (hx : PureTo Γ nt env H o v) (hnp : NoPan Q) (ho : all[i]? = some o) (hw : wantedA all env o = some true) (hd : o.dst = some t) (ht : Nat.ble (t + 1) nt = true)
    (hr : (Region.ready .any all (mkL all.size done)).contains i = true) (hfree : (Region.free .any all (mkL all.size done) i && Region.noSelect all) = true)
    (h : AReg Γ nt n0 all ix f (i :: done) k Q ((t, v) :: env) H) : AReg Γ nt n0 all ix (f + 1) done k Q env H :=
  fun G0 G a w h0 hl hF hdf hW hcl => by
    rw [Bool.and_eq_true] at hfree
    have hr' : i ∈ Region.ready .any all (mkL all.size done) := by simpa using hr
    have hcl' := hcl.set hr'
    obtain ⟨u, hu, hall⟩ := hx G a w hW hF
    exact AReg.first i hnp ho hr hfree.1 hfree.2 hcl (.inl ⟨wantedA_ok hF hw, fun w' _ => hall w'⟩) (h G0 G _ w h0 hl (by rw [hd]; exact hF.put ht hu) (put_defers' a _ u hdf) hW hcl')
/-- a step that is not wanted is passed now -/
theorem AReg.pass {all : Array Oper} {ix : List Nat} {f : Nat} {done : List Nat} {i : Nat} {o : Oper} {t : Nat} (hi : nextP all.toList ix done = some (i, o)) (hnp : NoPan Q) (ho : all[i]? = some o) (hw : wantedA all env o = some false) (hd : o.dst = some t) (ht : Nat.ble (t + 1) nt = true)
    (hr : (Region.ready .any all (mkL all.size done)).contains i = true) (hfree : (Region.free .any all (mkL all.size done) i && Region.noSelect all) = true)
    (h : AReg Γ nt n0 all ix f (i :: done) k Q ((t, .tup []) :: env) H) : AReg Γ nt n0 all ix (f + 1) done k Q env H :=
  fun G0 G a w h0 hl hF hdf hW hcl => by
    rw [Bool.and_eq_true] at hfree
    have hr' : i ∈ Region.ready .any all (mkL all.size done) := by simpa using hr
    have hcl' := hcl.set hr'
    exact AReg.first i hnp ho hr hfree.1 hfree.2 hcl (.inr ⟨wantedA_ok hF hw, rfl⟩) (h G0 G _ w h0 hl (by rw [hd]; exact hF.put ht undef_rel) (put_defers' a _ _ hdf) hW hcl')
/-! ### A cut: what stands behind a piece of code -/
def EnvEq (env env' : Env) : Env → Prop
  | [] => True
  | (i, _) :: r => env.get i = env'.get i ∧ EnvEq env env' r
theorem EnvEq.nil {env env' : Env} : EnvEq env env' [] := True.intro
theorem EnvEq.cons {env env' r : Env} {i : Nat} {v : AV} (h : env.get i = env'.get i) (hr : EnvEq env env' r) : EnvEq env env' ((i, v) :: r) := ⟨h, hr⟩
theorem EnvEq.refl (env : Env) : ∀ l, EnvEq env env l
  | [] => True.intro
  | (i, _) :: r => ⟨rfl, EnvEq.refl env r⟩
theorem EnvEq.at_ {env env' : Env} : ∀ {l : Env}, EnvEq env env' l → ∀ i, Env.get l i = .top ∨ env.get i = env'.get i
  | [], _, i => .inl rfl
  | (j, v) :: r, h, i => by
    simp only [Env.get]
    cases hb : Nat.beq j i with
    | true => have := Nat.eq_of_beq_eq_true hb; subst this; exact .inr h.1
    | false => exact EnvEq.at_ h.2 i
theorem EnvEq.frel {env env' : Env} {G : Ghost} {tmps : Array Value} (h : EnvEq env env' env') (hF : FRel G nt tmps env) : FRel G nt tmps env' :=
  ⟨hF.size, fun i => by
    rcases h.at_ i with e | e
    · rw [e]; exact .top _
    · rw [← e]; exact hF.rel i⟩
def MidP (env' : Env) (H' : List AObj) : Post
  | .normal, env, H => EnvEq env env' env' ∧ H = H'
  | _, _, _ => False
theorem AGo.mid0 : AGo Γ nt n0 [] (MidP env H) env H := AGo.done ⟨EnvEq.refl env env, rfl⟩
theorem AGo.midDone {env' : Env} {H' : List AObj} (he : EnvEq env env' env') (hH : H = H') : AGo Γ nt n0 [] (MidP env' H') env H := AGo.done ⟨he, hH⟩
theorem AGo.cut {c : Code} {env' : Env} {H' : List AObj} (h1 : AGo Γ nt n0 [.code c] (MidP env' H') env H) (h2 : AGo Γ nt n0 k Q env' H') : AGo Γ nt n0 (.code c :: k) Q env H :=
  fun G0 G a w h0 hl hF hdf hW => by
    have hn := h1 G0 G a w h0 hl hF hdf hW
    simp only [resm] at hn ⊢
    refine wp_mono hn fun e a' w' hq => ?_
    obtain ⟨G', env1, H1, c1, c2, c3, c4, c5, c6⟩ := hq
    cases e with
    | normal =>
      obtain ⟨c7, rfl⟩ := c6
      exact h2 G0 G' a' w' c1 c2 (c7.frel c3) c4 c5
    | _ => exact c6.elim
theorem AGo.drawX {id : Nat} {all : Array Oper} {env' : Env} {H' : List AObj} (ix : List Nat) (f : Nat) (hf : all.size = f) (h : AReg Γ nt n0 all ix f [] [] (MidP env' H') env H) (h2 : AGo Γ nt n0 k Q env' H') : AGo Γ nt n0 (.code (.region id all true) :: k) Q env H :=
  AGo.cut (AGo.drawM ix f hf h) h2
end
end Go.Proofs.YtbfojhfiemcnpaaDoor.Av

/- Regions that draw their order: reads ahead of all calls; calls that keep what there was; then the steps that write. -/
set_option linter.unusedVariables false
set_option linter.unusedSimpArgs false
namespace Go.Proofs.YtbfojhfiemcnpaaDoor.Av
open Go Go.RowKit
section
variable {Γ : Ctx} {nt n0 : Nat} {k : List It} {Q : Post} {env : Env} {H : List AObj}
/-- the reads and pure steps ahead: nothing is changed yet -/
def ARegH (Γ : Ctx) (nt n0 : Nat) (all : Array Oper) (ix : List Nat) (m f : Nat) (done : List Nat) (k : List It) (Q : Post) (env : Env) (H : List AObj) : Prop :=
  ∀ G0 G a w, GLe n0 G0 G → n0 ≤ H.length → FRel G nt a.tmps env → a.defers = [] → WRel Γ.gl G H w → Closed all (mkL all.size done) → wpAnyE Γ.P all (resm Γ.P (Conc Γ nt n0 G0 Q) k) (fun w' => KB G [] w w') m f (mkL all.size done) a w
/-- behind them: as long as none from m on has come up, what there was is kept -/
def ARegK (Γ : Ctx) (nt n0 : Nat) (all : Array Oper) (ix : List Nat) (m f : Nat) (done : List Nat) (k : List It) (Q : Post) (env : Env) (H : List AObj) : Prop :=
  ∀ G0 G a w (w0 : World) (GK : Ghost), GLe n0 G0 G → n0 ≤ H.length → FRel G nt a.tmps env → a.defers = [] → WRel Γ.gl G H w → (Yet m (mkL all.size done) → w0.heap.size ≤ w.heap.size ∧ KB GK [] w0 w) → Closed all (mkL all.size done) →
    wpAnyE Γ.P all (resm Γ.P (Conc Γ nt n0 G0 Q) k) (fun w' => KB GK [] w0 w') m f (mkL all.size done) a w
theorem ARegH.go {all : Array Oper} {ix : List Nat} {m f : Nat} {done : List Nat} (h : ARegK Γ nt n0 all ix m f done k Q env H) : ARegH Γ nt n0 all ix m f done k Q env H :=
  fun G0 G a w h0 hl hF hdf hW hcl => h G0 G a w w G h0 hl hF hdf hW (fun _ => ⟨Nat.le_refl _, fun _ _ _ => rfl⟩) hcl
theorem AGo.drawYM {id : Nat} {all : Array Oper} (ix : List Nat) (f m : Nat) (hf : all.size = f) (h : ARegH Γ nt n0 all ix m f [] k Q env H) : AGo Γ nt n0 (.code (.region id all true) :: k) Q env H :=
  fun G0 G a w h0 hl hF hdf hW => by
    have hW' : WRel Γ.gl G H { w with drawn := w.drawn + 1 } := hW.same rfl rfl rfl rfl
    simp only [resm]
    subst hf
    refine wp_region_any Γ.mixed (wpAny_of_E (S := fun w' => KB G [] { w with drawn := w.drawn + 1 } w') (m := m) _ _ _ _ ?_)
    exact h G0 G a _ h0 hl hF hdf hW' (fun j oj _ hl2 => by rw [mkL, getD_replicate_false] at hl2; cases hl2)
theorem AGo.drawY {id : Nat} {all : Array Oper} {env' : Env} {H' : List AObj} (ix : List Nat) (f m : Nat) (hf : all.size = f) (h : ARegH Γ nt n0 all ix m f [] [] (MidP env' H') env H) (h2 : AGo Γ nt n0 k Q env' H') : AGo Γ nt n0 (.code (.region id all true) :: k) Q env H :=
  AGo.cut (AGo.drawYM ix f m hf h) h2
theorem panM {P : Program} {nt n0 : Nat} {G0 : Ghost} (hnp : NoPan Q) : ∀ c a w, ¬ resm P (Conc Γ nt n0 G0 Q) k (.panic c) a w := fun c a w hq => by
  rw [resm_panic] at hq
  obtain ⟨_, env, H, _, _, _, _, _, hq⟩ := hq
  exact hnp c env H hq
theorem ARegH.firstH {all : Array Oper} {m f : Nat} {done : List Nat} {o : Oper} {u : Value} {G : Ghost} {G0 : Ghost} {a : Act} {w : World} (i : Nat) (hnp : NoPan Q) (ho : all[i]? = some o) (him : Nat.ble (i + 1) m = true) (hms : Nat.ble m all.size = true) (hr : (Region.ready .any all (mkL all.size done)).contains i = true) (hfree : Region.free .any all (mkL all.size done) i = true) (hsel : Region.noSelect all = true)
    (hcl : Closed all (mkL all.size done)) {S : World → Prop} (hS : Yet m (mkL all.size done) → S w) (hy : YieldsIf Γ.P all (fun _ => True) o u a) (h : wpAnyE Γ.P all (resm Γ.P (Conc Γ nt n0 G0 Q) k) S m f (mkL all.size (i :: done)) (a.put o.dst u) w) :
    wpAnyE Γ.P all (resm Γ.P (Conc Γ nt n0 G0 Q) k) S m (f + 1) (mkL all.size done) a w :=
  wpAnyE_first (Si := fun _ => True) ho (Nat.le_of_ble_eq_true him) (Nat.le_of_ble_eq_true hms) (Region.noSelect_spec hsel) (panM hnp) (fun _ _ => trivial) (.inl fun _ => trivial) f _ a w (mkL_size _ _) hcl (Region.free_spec ho hfree) (by simpa using hr) hy trivial hS h
/-- a pure step is taken now -/
theorem ARegH.pureX {all : Array Oper} {ix : List Nat} {m f : Nat} {done : List Nat} {i : Nat} {o : Oper} {t : Nat} {v : AV} (hi : nextP all.toList ix done = some (i, o)) (hx : PureTo Γ nt env H o v) (hnp : NoPan Q) (ho : all[i]? = some o) (hw : wantedA all env o = some true) (hd : o.dst = some t) (ht : Nat.ble (t + 1) nt = true) (him : Nat.ble (i + 1) m = true) (hms : Nat.ble m all.size = true)
    (hr : (Region.ready .any all (mkL all.size done)).contains i = true) (hfree : (Region.free .any all (mkL all.size done) i && Region.noSelect all) = true)
    (h : ARegH Γ nt n0 all ix m f (i :: done) k Q ((t, v) :: env) H) : ARegH Γ nt n0 all ix m (f + 1) done k Q env H :=
  fun G0 G a w h0 hl hF hdf hW hcl => by
    rw [Bool.and_eq_true] at hfree
    have hr' : i ∈ Region.ready .any all (mkL all.size done) := by simpa using hr
    have hcl' := hcl.set hr'
    obtain ⟨u, hu, hall⟩ := hx G a w hW hF
    exact ARegH.firstH (G := G) i hnp ho him hms hr hfree.1 hfree.2 hcl (fun _ _ _ _ => rfl) (.inl ⟨wantedA_ok hF hw, fun w' _ => hall w'⟩) (h G0 G _ w h0 hl (by rw [hd]; exact hF.put ht hu) (put_defers' a _ u hdf) hW hcl')
theorem ARegK.pureX {all : Array Oper} {ix : List Nat} {m f : Nat} {done : List Nat} {i : Nat} {o : Oper} {t : Nat} {v : AV} (hi : nextP all.toList ix done = some (i, o)) (hx : PureTo Γ nt env H o v) (hnp : NoPan Q) (ho : all[i]? = some o) (hw : wantedA all env o = some true) (hd : o.dst = some t) (ht : Nat.ble (t + 1) nt = true) (him : Nat.ble (i + 1) m = true) (hms : Nat.ble m all.size = true)
    (hr : (Region.ready .any all (mkL all.size done)).contains i = true) (hfree : (Region.free .any all (mkL all.size done) i && Region.noSelect all) = true)
    (h : ARegK Γ nt n0 all ix m f (i :: done) k Q ((t, v) :: env) H) : ARegK Γ nt n0 all ix m (f + 1) done k Q env H :=
  fun G0 G a w w0 GK h0 hl hF hdf hW hS hcl => by
    rw [Bool.and_eq_true] at hfree
    have hr' : i ∈ Region.ready .any all (mkL all.size done) := by simpa using hr
    have hcl' := hcl.set hr'
    obtain ⟨u, hu, hall⟩ := hx G a w hW hF
    exact ARegH.firstH (G := G) i hnp ho him hms hr hfree.1 hfree.2 hcl (fun hy => (hS hy).2) (.inl ⟨wantedA_ok hF hw, fun w' _ => hall w'⟩) (h G0 G _ w w0 GK h0 hl (by rw [hd]; exact hF.put ht hu) (put_defers' a _ u hdf) hW (fun hy => hS (hy.unset (Nat.le_of_ble_eq_true him))) hcl')
theorem PureTo.q {o : Oper} (nn : Bool) {c : Prop} {v : AV} (hnl : isLoad o.op = false) (hq : qop Γ nn o.op env H = some (c, v)) (hc : c) : PureTo Γ nt env H o v :=
  fun G a w hW hF => qop_pure hnl hW hF hq hc
theorem ARegH.pass {all : Array Oper} {ix : List Nat} {m f : Nat} {done : List Nat} {i : Nat} {o : Oper} {t : Nat} (hi : nextP all.toList ix done = some (i, o)) (hw : wantedA all env o = some false) (hnp : NoPan Q) (ho : all[i]? = some o) (hd : o.dst = some t) (ht : Nat.ble (t + 1) nt = true) (him : Nat.ble (i + 1) m = true) (hms : Nat.ble m all.size = true)
    (hr : (Region.ready .any all (mkL all.size done)).contains i = true) (hfree : (Region.free .any all (mkL all.size done) i && Region.noSelect all) = true)
    (h : ARegH Γ nt n0 all ix m f (i :: done) k Q ((t, .tup []) :: env) H) : ARegH Γ nt n0 all ix m (f + 1) done k Q env H :=
  fun G0 G a w h0 hl hF hdf hW hcl => by
    rw [Bool.and_eq_true] at hfree
    have hr' : i ∈ Region.ready .any all (mkL all.size done) := by simpa using hr
    have hcl' := hcl.set hr'
    exact ARegH.firstH (G := G) i hnp ho him hms hr hfree.1 hfree.2 hcl (fun _ _ _ _ => rfl) (.inr ⟨wantedA_ok hF hw, rfl⟩) (h G0 G _ w h0 hl (by rw [hd]; exact hF.put ht undef_rel) (put_defers' a _ _ hdf) hW hcl')
theorem ARegK.pass {all : Array Oper} {ix : List Nat} {m f : Nat} {done : List Nat} {i : Nat} {o : Oper} {t : Nat} (hi : nextP all.toList ix done = some (i, o)) (hw : wantedA all env o = some false) (hnp : NoPan Q) (ho : all[i]? = some o) (hd : o.dst = some t) (ht : Nat.ble (t + 1) nt = true) (him : Nat.ble (i + 1) m = true) (hms : Nat.ble m all.size = true)
    (hr : (Region.ready .any all (mkL all.size done)).contains i = true) (hfree : (Region.free .any all (mkL all.size done) i && Region.noSelect all) = true)
    (h : ARegK Γ nt n0 all ix m f (i :: done) k Q ((t, .tup []) :: env) H) : ARegK Γ nt n0 all ix m (f + 1) done k Q env H :=
  fun G0 G a w w0 GK h0 hl hF hdf hW hS hcl => by
    rw [Bool.and_eq_true] at hfree
    have hr' : i ∈ Region.ready .any all (mkL all.size done) := by simpa using hr
    have hcl' := hcl.set hr'
    exact ARegH.firstH (G := G) i hnp ho him hms hr hfree.1 hfree.2 hcl (fun hy => (hS hy).2) (.inr ⟨wantedA_ok hF hw, rfl⟩) (h G0 G _ w w0 GK h0 hl (by rw [hd]; exact hF.put ht undef_rel) (put_defers' a _ _ hdf) hW (fun hy => hS (hy.unset (Nat.le_of_ble_eq_true him))) hcl')
/-! a read that may come up -/
def nextL : List Oper → List Nat → List Nat → Option (Nat × Oper)
  | o :: r, i :: ix, done => bif !done.contains i && isLoad o.op && mayUp done o then some (i, o) else nextL r ix done
  | _, _, _ => none
theorem ARegH.load {all : Array Oper} {ix : List Nat} {m f : Nat} {done : List Nat} {i : Nat} {o : Oper} {t : Nat} {c : Prop} {v : AV} (hi : nextL all.toList ix done = some (i, o)) (hq : qop Γ true o.op env H = some (c, v)) (hc : c) (hnp : NoPan Q) (ho : all[i]? = some o) (hw : wantedA all env o = some true) (hd : o.dst = some t) (ht : Nat.ble (t + 1) nt = true) (him : Nat.ble (i + 1) m = true) (hms : Nat.ble m all.size = true)
    (hr : (Region.ready .any all (mkL all.size done)).contains i = true) (hfree : (Region.free .any all (mkL all.size done) i && Region.noSelect all && ((List.range all.size).all fun j => decide (j < m) || reachB all 8 j i)) = true)
    (h : ARegH Γ nt n0 all ix m f (i :: done) k Q ((t, v) :: env) H) : ARegH Γ nt n0 all ix m (f + 1) done k Q env H :=
  fun G0 G a w h0 hl hF hdf hW hcl => by
    simp only [Bool.and_eq_true] at hfree
    have hr' : i ∈ Region.ready .any all (mkL all.size done) := by simpa using hr
    have hcl' := hcl.set hr'
    obtain ⟨u, hu, hall⟩ := qop_okS (ws := []) rfl (by cases hop : o.op <;> first | rfl | (simp only [loadFree]; split <;> rfl)) hW hF hq hc
    refine wpAnyE_first (Si := fun w' => KB G [] w w') ho (Nat.le_of_ble_eq_true him) (Nat.le_of_ble_eq_true hms) (Region.noSelect_spec hfree.1.2) (panM hnp) (fun _ h => h) (.inr fun j hj hjs => ?_) f _ a w (mkL_size _ _) hcl (Region.free_spec ho hfree.1.1) hr'
      (.inl ⟨wantedA_ok hF hw, fun w' hb => hall w' hb⟩) (fun _ _ _ => rfl) (fun _ _ _ _ => rfl) (h G0 G _ w h0 hl (by rw [hd]; exact hF.put ht hu) (put_defers' a _ u hdf) hW hcl')
    have := List.all_eq_true.1 hfree.2 j (by simpa using hjs)
    simp only [Bool.or_eq_true, decide_eq_true_eq] at this
    rcases this with h | h
    · omega
    · exact h
theorem ARegK.fin {all : Array Oper} {ix : List Nat} {m : Nat} {done : List Nat} (hr : (Region.ready .any all (mkL all.size done)).isEmpty = true) (h : AGo Γ nt n0 k Q env H) : ARegK Γ nt n0 all ix m 0 done k Q env H :=
  fun G0 G a w w0 GK h0 hl hF hdf hW _ _ => ⟨by simpa using hr, h G0 G a w h0 hl hF hdf hW⟩
/-- a quiet step, alone -/
theorem ARegK.quiet {all : Array Oper} {ix : List Nat} {m f : Nat} {done : List Nat} {i : Nat} {o : Oper} {t : Nat} {v : AV} (hL : readyN all.toList ix done = [(i, o)]) (hx : QuietTo Γ nt env H o v) (ho : all[i]? = some o) (hw : wantedA all env o = some true) (hd : o.dst = some t) (ht : Nat.ble (t + 1) nt = true)
    (hr : decide (Region.ready .any all (mkL all.size done) = [i]) = true) (him : Nat.ble (i + 1) m = true) (h : ARegK Γ nt n0 all ix m f (i :: done) k Q ((t, v) :: env) H) : ARegK Γ nt n0 all ix m (f + 1) done k Q env H :=
  fun G0 G a w w0 GK h0 hl hF hdf hW hS hcl => by
    have hr' := of_decide_eq_true hr
    have hcl' := hcl.set (i := i) (by rw [hr']; simp)
    obtain ⟨u, hu, hrun⟩ := hx G a w hW hF
    refine ⟨fun h1 => (by rw [hr'] at h1; cases h1), fun j hj => ?_⟩
    have hji : j = i := by rw [hr'] at hj; simpa using hj
    subst hji
    refine YieldsIf.wpOp (S := fun w' => w' = w) ho (.inl ⟨wantedA_ok hF hw, fun w' hw' => by subst hw'; exact hrun _ (Below.refl _ _)⟩) rfl ⟨fun hy _ => (hS hy).2, ?_⟩
    exact h G0 G _ w w0 GK h0 hl (by rw [hd]; exact hF.put ht hu) (put_defers' a _ u hdf) hW (fun hy => hS (hy.unset (Nat.le_of_ble_eq_true him))) hcl'
theorem QuietTo.q {o : Oper} (nn : Bool) {c : Prop} {v : AV} (hq : qop Γ nn o.op env H = some (c, v)) (hc : c) : QuietTo Γ nt env H o v :=
  fun G a w hW hF => qop_ok hW hF hq hc
/-- a call that gets data alone -/
theorem ARegK.call {all : Array Oper} {ix : List Nat} {m f fn : Nat} {done : List Nat} {i : Nat} {o : Oper} {t : Nat} {args0 args : List AV} {X r' : AV} {Y H' : List AObj} (hR : ACalls Γ fn args [] (fun r H => r = X ∧ H = Y)) (hL : readyN all.toList ix done = [(i, o)]) (hcall : calleeA Γ env o.op = some (fn, args0)) (hwk : args0.map fgt = args) (ho : all[i]? = some o) (hw : wantedA all env o = some true) (hd : o.dst = some t) (ht : Nat.ble (t + 1) nt = true)
    (hab : AV.bnds 0 args = true) (hr : decide (Region.ready .any all (mkL all.size done) = [i]) = true) (him : Nat.ble (i + 1) m = true) (hrr : r' = AV.ren (names [] H.length Y.length) X) (hH : H' = putH [] (Y.map (AObj.ren (names [] H.length Y.length))) H)
    (h : ARegK Γ nt n0 all ix m f (i :: done) k Q ((t, r') :: env) H') : ARegK Γ nt n0 all ix m (f + 1) done k Q env H :=
  fun G0 G a w w0 GK h0 hl hF hdf hW hS hcl => by
    have hr' := of_decide_eq_true hr
    have hcl' := hcl.set (i := i) (by rw [hr']; simp)
    obtain ⟨vs, hA0, hrun⟩ := run_call hW hF hcall hR.1
    have hA : ARels G vs args := by
      rw [← hwk]
      refine ⟨by simpa using hA0.1, fun i c hc => ?_⟩
      rw [List.getElem?_map] at hc
      cases hq : args0[i]? with
      | none => simp [hq] at hc
      | some c0 =>
        simp [hq] at hc; subst hc
        exact fgt_weak c0 _ _ (hA0.2 i c0 hq)
    have hp : pickH [] H = some (([] : List AObj).map (AObj.ren [])) := rfl
    have hWc := hW.callee (ρ := []) (Hc := []) (by simp) hp rfl
    have hAc : ARels (G.callee w H []) vs args := by
      refine ⟨hA.1, fun i c hc => ?_⟩
      have e : args = AV.renL [] args := (renL_bnd0 _ hab).symm
      have hc2 : (AV.renL [] args)[i]? = some (AV.ren [] c) := by rw [renL_map, List.getElem?_map, hc]; rfl
      rw [e] at hA
      exact VRel.unren' (G := G) (G' := G.callee w H []) (ImmLe.refl G.imm) (fun i id h => callee_loc h) (fun i id n h => callee_fl h) c _ (bnds_mem hab hc) (hA.2 i _ hc2)
    have hcalls := hR.2 _ w vs hWc hAc
    refine ⟨fun h1 => (by rw [hr'] at h1; cases h1), fun j hj => ?_⟩
    have hji : j = i := by rw [hr'] at hj; simpa using hj
    subst hji
    unfold wpOp
    simp only [ho]
    rw [if_pos (wantedA_ok hF hw)]
    refine .inl ?_
    unfold Oper.wp
    rw [hrun w]
    refine hcalls.mono ?_
    rintro e w' ⟨v, r, Hc', Gc', rfl, ⟨rfl, rfl⟩, hlen', hle, hv, hWc'⟩
    obtain ⟨b1, b2, b3, b4, b5⟩ := hW.back (by simp) (by simp) rfl hlen' hle hWc'
    have hbase : Gc'.base = w := hle.base
    have hkb' : ∀ b, b < w.heap.size → w'.heap[b]? = w.heap[b]? := fun b hb => by
      have := (hWc'.old b (by rw [hbase]; exact hb) (fun hn => by
        rw [hle.own0] at hn
        obtain ⟨id, o', hm, _⟩ := hn
        simp at hm)).1
      rwa [hbase] at this
    have hsz' : w.heap.size ≤ w'.heap.size := by have := hWc'.size; rwa [hbase] at this
    have hk2 : Yet m (mkL all.size done) → w0.heap.size ≤ w'.heap.size ∧ KB GK [] w0 w' := fun hy => by
      obtain ⟨s1, s2⟩ := hS hy
      exact ⟨by omega, fun b hb hid => (hkb' b (by omega)).trans (s2 b hb hid)⟩
    have hF' : FRel (G.back Gc' (names [] H.length Hc'.length)) nt (a.put (some t) v).tmps ((t, r') :: env) := by
      rw [hrr]
      exact (hF.up b1 hW.lim).put ht (hv.ren b3 b4 b5)
    rw [← hH] at b2
    have hlH : H.length ≤ H'.length := by
      rw [hH, putH_length (by simp)]; simp
    simp only [hd]
    exact ⟨fun hy _ => (hk2 hy).2, h G0 _ (a.put (some t) v) w' w0 GK (h0.trans (b1.weaken hl)) (by omega) hF' (by simp [Act.put, hdf]) b2 (fun hy => hk2 (hy.unset (Nat.le_of_ble_eq_true him))) hcl'⟩
/-- behind a step from m on -/
def RegK (Γ : Ctx) (nt n0 : Nat) (all : Array Oper) (ix : List Nat) (m f : Nat) (done : List Nat) (k : List It) (Q : Post) : Post
  | .normal, env, H => ARegK Γ nt n0 all ix m f done k Q env H
  | .panic c, env, H => Q (.panic c) env H
  | .outgrown, env, H => Q .outgrown env H
  | _, _, _ => False
theorem ARegK.back {all : Array Oper} {ix : List Nat} {m f : Nat} {done : List Nat} (h : ARegK Γ nt n0 all ix m f done k Q env H) : AGo Γ nt n0 [] (RegK Γ nt n0 all ix m f done k Q) env H := AGo.done h
/-- a step from m on, alone -/
theorem ARegK.step {all : Array Oper} {ix : List Nat} {m f : Nat} {done : List Nat} {i : Nat} {o : Oper} (hL : readyN all.toList ix done = [(i, o)]) (ho : all[i]? = some o) (hr : decide (Region.ready .any all (mkL all.size done) = [i]) = true) (him : Nat.ble m i = true)
    (h : AGo Γ nt n0 [.ops all [o]] (RegK Γ nt n0 all ix m f (i :: done) k Q) env H) : ARegK Γ nt n0 all ix m (f + 1) done k Q env H :=
  fun G0 G a w w0 GK h0 hl hF hdf hW hS hcl => by
    have hr' := of_decide_eq_true hr
    have hmi := Nat.le_of_ble_eq_true him
    have hcl' := hcl.set (i := i) (by rw [hr']; simp)
    have his : i < all.size := (Array.getElem?_eq_some_iff.1 ho).1
    have hny : ¬ Yet m (mkL all.size (i :: done)) := fun hy => by
      have := hy i hmi
      rw [mkL, getD_set_self (by rw [mkL_size]; exact his)] at this
      cases this
    refine ⟨fun h1 => (by rw [hr'] at h1; cases h1), fun j hj => ?_⟩
    have hji : j = i := by rw [hr'] at hj; simpa using hj
    subst hji
    have hn := h G0 G a w h0 hl hF hdf hW
    simp only [resm] at hn
    unfold wpOp
    simp only [ho]
    unfold wpList at hn
    have fin : ∀ a' w', Conc Γ nt n0 G0 (RegK Γ nt n0 all ix m f (j :: done) k Q) .normal a' w' → wpAnyE Γ.P all (resm Γ.P (Conc Γ nt n0 G0 Q) k) (fun w' => KB GK [] w0 w') m f ((mkL all.size done).setIfInBounds j true) a' w' := fun a' w' hc => by
      obtain ⟨G', env', H', c1, c2, c3, c4, c5, c6⟩ := hc
      exact c6 G0 G' a' w' w0 GK c1 c2 c3 c4 c5 (fun hy => absurd hy hny) hcl'
    have pan : ∀ c a w, resm Γ.P (Conc Γ nt n0 G0 (RegK Γ nt n0 all ix m f (j :: done) k Q)) [] (.panic c) a w → resm Γ.P (Conc Γ nt n0 G0 Q) k (.panic c) a w := fun c a w h => by
      rw [resm_panic]; exact h
    have out : ∀ a w, resm Γ.P (Conc Γ nt n0 G0 (RegK Γ nt n0 all ix m f (j :: done) k Q)) [] .outgrown a w → resm Γ.P (Conc Γ nt n0 G0 Q) k .outgrown a w := fun a w h => by
      rw [resm_outgrown]; exact h
    split
    · rename_i hw
      rw [if_pos hw] at hn
      rcases hn with hn | ⟨hn, a', w', ho⟩
      · exact .inl (wp_mono2 (fun a' w' h' => ⟨fun _ hjm => absurd hjm (by omega), fin a' w' (by simpa only [wpList, resm] using h')⟩) pan out hn)
      · exact .inr ⟨hn, a', w', out a' w' ho⟩
    · rename_i hw
      rw [if_neg hw] at hn
      exact ⟨fun _ hjm => absurd hjm (by omega), fin _ _ (by simpa only [wpList, resm] using hn)⟩
end
end Go.Proofs.YtbfojhfiemcnpaaDoor.Av

/- A written row that a cell holds, frozen so far. -/
set_option linter.unusedVariables false
set_option linter.unusedSimpArgs false
namespace Go.Proofs.YtbfojhfiemcnpaaDoor.Av
open Go Go.RowKit
section
variable {Γ : Ctx} {nt n0 : Nat} {k : List It} {Q : Post} {env : Env} {H : List AObj} {G : Ghost} {w : World}
end
end Go.Proofs.YtbfojhfiemcnpaaDoor.Av
