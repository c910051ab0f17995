/- Quiet operations: reads of memory, addresses; all of them together. -/
import Derived.Test.YtammpekpmjboiaaDoorAv3
set_option linter.unusedVariables false
set_option linter.unusedSimpArgs false
namespace Go.Proofs.YtammpekpmjboiaaDoor.Av
open Go Go.RowKit

def AV.unD : AV → Option D
  | .d x => some x
  | .own sz es _ => some (.sl sz es)
  | _ => none
def unDs : List AV → Option (List D)
  | [] => some []
  | a :: r => match a.unD, unDs r with
    | some x, some l => some (x :: l)
    | _, _ => none
def mkAgg (cs : List AV) : AV := match unDs cs with | some l => .d (.agg l) | none => .ag cs

def AV.bool? : AV → Option Bool
  | .d (.bool b) => some b
  | _ => none
def pickLit : Operand → Operand → Option Bool
  | _, .const (.bool false) => some false
  | .const (.bool true), _ => some true
  | _, _ => none
def pickAV (l : Option Bool) (c : Bool) (a b : AV) : AV :=
  match l with
  | some false => match a.bool? with | some x => .d (.bool (c && x)) | none => bif c then a else b
  | some true => match b.bool? with | some x => .d (.bool (c || x)) | none => bif c then a else b
  | none => bif c then a else b

/-- loading a variable of some type out of cells. -/
def loadA (ti : TI) (cs : List AV) (off : Nat) : Option AV :=
  bif ti.agg then (bif Nat.ble (off + ti.size) cs.length then some (mkAgg ((cs.drop off).take ti.size)) else none) else cs[off]?
def loadD (ti : TI) (cs : List D) (off : Nat) : Option D :=
  bif ti.agg then (bif Nat.ble (off + ti.size) cs.length then some (.agg ((cs.drop off).take ti.size)) else none) else cs[off]?

def avs (Γ : Ctx) (env : Env) (l : Array Operand) : List AV := l.toList.map (ev Γ env)

def fieldO (Γ : Ctx) (s f : Nat) : Option (Nat × Nat) :=
  match lookT Γ.T s with
  | some { sh := .struct fs, .. } => fs[f]?
  | _ => none

def AV.i64? : AV → Option Int
  | .d (.int .i64 x) => some x
  | _ => none
def maxF : Int → List AV → Option AV
  | x, [] => some (.d (.int .i64 x))
  | x, a :: r => match a.i64? with | some y => maxF (max x y) r | none => none
def minF : Int → List AV → Option AV
  | x, [] => some (.d (.int .i64 x))
  | x, a :: r => match a.i64? with | some y => minF (min x y) r | none => none
def maxA : List AV → Option AV
  | [] => none
  | a :: r => match a.i64? with | some y => maxF y r | none => none
def minA : List AV → Option AV
  | [] => none
  | a :: r => match a.i64? with | some y => minF y r | none => none

def lenA (a : AV) : Option Int :=
  match a with
  | .d (.sl _ es) => some es.length
  | .d .nils => some 0
  | .own _ es _ => some es.length
  | _ => none

def bt (s : List UInt8) (i : Nat) : Int := ((s.getD i 0).toNat : Int)

def nilR (a b : AV) : Option Bool :=
  match a, b with
  | .d .nilp, .d .nilp => some true
  | .d .nilp, .ptr _ _ => some false
  | .ptr _ _, .d .nilp => some false
  | .d .nilp, .d (.iptr _) => some false
  | .d (.iptr _), .d .nilp => some false
  | _, _ => none
def eqNil (op : BinOp) (a b : AV) : Option Bool :=
  match op, nilR a b with
  | .eql, some b => some b
  | .neq, some b => some (!b)
  | _, _ => none

def litN : Operand → Option Nat
  | .const (.int _ (.ofNat n)) => some n
  | _ => none
def shX (op : BinOp) (n : Nat) (x : AV) : Option (Prop × AV) :=
  match op, x with
  | .shl, .d (.int k x) => shlA k x n
  | .shr, .d (.int k x) => some (n ≤ k.bits, .d (.int k (x / 2 ^ n)))
  | _, _ => none
def isSh : BinOp → Bool | .shl | .shr => true | _ => false
def isBoolT : Option TI → Bool | some { sh := .bool, .. } => true | _ => false
def eqBool (op : BinOp) (a b : AV) : Option (Prop × AV) :=
  match op, a, b with
  | .eql, .d (.bool x), .d (.bool y) => some (True, .d (.bool (decide (x = y))))
  | .neq, .d (.bool x), .d (.bool y) => some (True, .d (.bool (!decide (x = y))))
  | _, _, _ => none
def isPtr : Option TI → Bool | some { sh := .ptr _, .. } => true | _ => false

def qbin (Γ : Ctx) (nn : Bool) (op : BinOp) (t : Nat) (lit : Option Nat) (x y : AV) : Option (Prop × AV) :=
  match isSh op, lit with
  | true, some n => shX op n x
  | _, _ => bif isBoolT (lookT Γ.T t) then eqBool op x y else bif isPtr (lookT Γ.T t) then (match eqNil op x y with | some b => some (True, .d (.bool b)) | none => none) else binA nn op x y

def qlen (Γ : Ctx) (t : Nat) (x : AV) : Option (Prop × AV) :=
  match lookT Γ.T t, x with
  | some { sh := .str, .. }, .d (.str s) => some (True, .d (.int .i64 s.length))
  | some { sh := .slice _, .. }, x => match lenA x with | some n => some (True, .d (.int .i64 n)) | none => none
  | _, _ => none

def qcall (Γ : Ctx) (env : Env) (c : Call) : Option (Prop × AV) :=
  match c.callee with
  | .builtin .len => match c.args.toList, c.argTypes.toList with
    | [x], [t] => qlen Γ t (ev Γ env x)
    | _, _ => none
  | .builtin .max => match maxA (avs Γ env c.args) with | some v => some (True, v) | none => none
  | .builtin .min => match minA (avs Γ env c.args) with | some v => some (True, v) | none => none
  | _ => none

/-- brings a value to its head, so that nothing is reckoned twice -/
def AV.frc (a : AV) : Option (Prop × AV) :=
  match a with
  | .d x => some (True, .d x)
  | .ptr i o => some (True, .ptr i o)
  | .eptr i n s j o => some (True, .eptr i n s j o)
  | .own sz es i => some (True, .own sz es i)
  | .ms i n => some (True, .ms i n)
  | .ag cs => some (True, .ag cs)
  | .tup cs => some (True, .tup cs)
  | .fn f a b => some (True, .fn f a b)
  | .mp i => some (True, .mp i)
  | .it i => some (True, .it i)
  | .top => some (True, .top)
theorem frc_eq (a : AV) : a.frc = some (True, a) := by cases a <;> rfl

def qop (Γ : Ctx) (nn : Bool) (op : Op) (env : Env) (H : List AObj) : Option (Prop × AV) :=
  match op with
  | .move x => (ev Γ env x).frc
  | .assign x => (ev Γ env x).frc
  | .pick c a b => match ev Γ env c with
    | .d (.bool c) => (pickAV (pickLit a b) c (ev Γ env a) (ev Γ env b)).frc
    | _ => none
  | .binOp op t x y _ => qbin Γ nn op t (litN y) (ev Γ env x) (ev Γ env y)
  | .unOp .neg _ x => match ev Γ env x with | .d (.int k n) => kres k (-n) | _ => none
  | .unOp .not _ x => match ev Γ env x with | .d (.bool b) => some (True, .d (.bool !b)) | _ => none
  | .convert s d x => match lookT Γ.T s, lookT Γ.T d, ev Γ env x with
    | some _, some { sh := .int k, .. }, .d (.int _ n) => kconv k n
    | some { sh := .str, .. }, some { sh := .str, .. }, .d (.str s) => some (True, .d (.str s))
    | _, _, _ => none
  | .extract t i => match ev Γ env t with
    | .tup vs => match vs[i]? with | some v => some (True, v) | none => none
    | _ => none
  | .nilCheck x => match ev Γ env x with
    | .ptr i o => some (True, .ptr i o)
    | .eptr i a b c d => some (True, .eptr i a b c d)
    | .d (.iptr cs) => some (True, .d (.iptr cs))
    | .it i => some (True, .it i)
    | _ => none
  | .load t a => match lookT Γ.T t, ev Γ env a with
    | some ti, .ptr id off => match hget H id with
      | some (.cells cs) => match loadA ti cs off with | some v => v.frc | none => none
      | _ => none
    | some ti, .d (.iptr cs) => match loadD ti cs 0 with | some v => some (True, .d v) | none => none
    | _, _ => none
  | .fieldAddr s x f => match fieldO Γ s f, ev Γ env x with
    | some (fo, _), .ptr id off => some (True, .ptr id (off + fo))
    | some (fo, _), .eptr id n sz i off => some (True, .eptr id n sz i (off + fo))
    | some (fo, _), .d (.iptr cs) => bif Nat.ble fo cs.length then some (True, .d (.iptr (cs.drop fo))) else none
    | _, _ => none
  | .field s x f => match fieldO Γ s f, ev Γ env x with
    | some (fo, t), .d (.agg cs) => match lookT Γ.T t with
      | some ti => match loadD ti cs fo with | some v => some (True, .d v) | none => none
      | none => none
    | _, _ => none
  | .indexAddr t x i => match lookT Γ.T t, ev Γ env x, ev Γ env i with
    | some { sh := .array len e, .. }, .ptr id off, .d (.int _ i) => match lookT Γ.T e with
      | some ti => some (0 ≤ i ∧ i < (len : Int), .ptr id (off + i.toNat * ti.size))
      | none => none
    | some { sh := .array len e, .. }, .d (.iptr cs), .d (.int _ i) => match lookT Γ.T e with
      | some ti => some ((0 ≤ i ∧ i < (len : Int)) ∧ len * ti.size ≤ cs.length, .d (.iptr (cs.drop (i.toNat * ti.size))))
      | none => none
    | some { sh := .slice e, .. }, .d (.sl sz es), .d (.int _ i) => match lookT Γ.T e with
      | some ti => bif Nat.beq sz ti.size then some (0 ≤ i ∧ i < (es.length : Int), .d (.iptr (es.getD i.toNat .top).cells)) else none
      | none => none
    | some { sh := .slice e, .. }, .own sz es _, .d (.int _ i) => match lookT Γ.T e with
      | some ti => bif Nat.beq sz ti.size then some (0 ≤ i ∧ i < (es.length : Int), .d (.iptr (es.getD i.toNat .top).cells)) else none
      | none => none
    | _, _, _ => none
  | .index t x i => match lookT Γ.T t, ev Γ env x, ev Γ env i with
    | some { sh := .array len e, .. }, .d (.agg cs), .d (.int _ i) => match lookT Γ.T e with
      | some ti => bif ti.agg then some ((0 ≤ i ∧ i < (len : Int)) ∧ len * ti.size ≤ cs.length, .d (.agg ((cs.drop (i.toNat * ti.size)).take ti.size)))
          else some ((0 ≤ i ∧ i < (len : Int)) ∧ len ≤ cs.length, .d (cs.getD i.toNat .top))
      | none => none
    | some { sh := .str, .. }, .d (.str s), .d (.int _ i) => some (0 ≤ i ∧ i < (s.length : Int), .d (.int .u8 (bt s i.toNat)))
    | _, _, _ => none
  | .slice t x lo hi none => match lookT Γ.T t, ev Γ env x, lo.map (ev Γ env), hi.map (ev Γ env) with
    | some { sh := .str, .. }, .d (.str s), some (.d (.int _ l)), some (.d (.int _ h)) => some (0 ≤ l ∧ l ≤ h ∧ h ≤ (s.length : Int), .d (.str ((s.take h.toNat).drop l.toNat)))
    | some { sh := .str, .. }, .d (.str s), some (.d (.int _ l)), none => some (0 ≤ l ∧ l ≤ (s.length : Int), .d (.str (s.drop l.toNat)))
    | some { sh := .str, .. }, .d (.str s), none, some (.d (.int _ h)) => some (0 ≤ h ∧ h ≤ (s.length : Int), .d (.str (s.take h.toNat)))
    | some { sh := .slice e, .. }, .d (.sl sz es), some (.d (.int _ l)), some (.d (.int _ h)) => match lookT Γ.T e with
      | some ti => bif Nat.beq sz ti.size then some (0 ≤ l ∧ l ≤ h ∧ h ≤ (es.length : Int), .d (.sl sz ((es.take h.toNat).drop l.toNat))) else none
      | none => none
    | some { sh := .slice e, .. }, .d (.sl sz es), some (.d (.int _ l)), none => match lookT Γ.T e with
      | some ti => bif Nat.beq sz ti.size then some (0 ≤ l ∧ l ≤ (es.length : Int), .d (.sl sz (es.drop l.toNat))) else none
      | none => none
    | some { sh := .slice e, .. }, .d (.sl sz es), none, some (.d (.int _ h)) => match lookT Γ.T e with
      | some ti => bif Nat.beq sz ti.size then some (0 ≤ h ∧ h ≤ (es.length : Int), .d (.sl sz (es.take h.toNat))) else none
      | none => none
    | _, _, _, _ => none
  | .call c => qcall Γ env c
  | .makeFunc f first cap => some (True, .fn f (avs Γ env first) (avs Γ env cap))
  | _ => none

section
variable {Γ : Ctx} {G : Ghost} {H : List AObj} {w : World} {nn : Bool} {env : Env} {nt : Nat} {a : Act}

/-! ### Types -/
structure TyFacts (P : Program) (t : Nat) (ti : TI) where
  i : TypeInfo
  d : TypeDesc
  info : P.info? t = some i
  size : i.size = ti.size
  bytes : i.bytes = ti.bytes
  und : P.underlying t = some d
  sh : shOk P (some d) ti.sh = true
  agg : isRowB (some d) = ti.agg
  one : ti.agg = false → ti.size = 1
  zlen : ti.zero.length = ti.size
  z : Value
  hz : i.zero = some z
  zok : zeroOk z.cells.toList ti.zero = true

theorem tyFacts {P : Program} {t : Nat} {ti : TI} (h : tyOk P t ti = true) : Nonempty (TyFacts P t ti) := by
  unfold tyOk at h
  split at h
  · cases h
  · rename_i i hi
    simp only [Bool.and_eq_true, Bool.or_eq_true, beq_iff_eq] at h
    obtain ⟨⟨⟨⟨⟨⟨h1, h2⟩, h3⟩, h4⟩, h5⟩, h6⟩, h7⟩ := h
    cases hd : P.underlying t with
    | none => rw [hd] at h4; cases hs : ti.sh <;> simp [shOk, hs] at h4
    | some d =>
      rw [hd] at h4 h5
      split at h3
      · rename_i z hz
        exact ⟨⟨i, d, hi, h1, h2, hd, h4, h5, fun e => by simpa [e] using h7, h6, z, hz, h3⟩⟩
      · cases h3

theorem Ctx.ty (Γ : Ctx) {t : Nat} {ti : TI} (h : lookT Γ.T t = some ti) : Nonempty (TyFacts Γ.P t ti) := tyFacts (lookT_ok Γ.ok h)

theorem TyFacts.isAgg {P : Program} {t : Nat} {ti : TI} (f : TyFacts P t ti) (w : World) : (isAgg t).run P w = .ok ti.agg w := by
  unfold Go.isAgg
  rw [Sem.run_bind, run_underlying f.und w, ← f.agg]
  cases f.d <;> simp [isRowB]
theorem TyFacts.sizeOf {P : Program} {t : Nat} {ti : TI} (f : TyFacts P t ti) (w : World) : (sizeOf t).run P w = .ok ti.size w := by
  simp [Go.sizeOf, typeInfo, f.info, f.size]

/-! ### Memory that reads so -/
def RA (w : World) (b o : Nat) (vs : List Value) : Prop := ∀ j v, vs[j]? = some v → w.cell? ⟨b, o + j, none⟩ = some v

theorem addr_add (b o j : Nat) : (⟨b, o, none⟩ : Addr).add j = ⟨b, o + j, none⟩ := by unfold Addr.add; split <;> simp_all

theorem run_load_RA {P : Program} {t : Nat} {ti : TI} (f : TyFacts P t ti) {b o : Nat} {vs : List Value} (h : RA w b o vs) (hl : vs.length = ti.size) :
    (Instr.loadAt t (.pointer (some ⟨b, o, none⟩))).run P w = .ok (if ti.agg then .agg vs.toArray else gv vs 0) w := by
  have hc : (loadCells ⟨b, o, none⟩ vs.length).run P w = .ok vs.toArray w := run_loadCells_list (P := P) w ⟨b, o, none⟩ vs (fun j v hv => by rw [addr_add]; exact h j v hv)
  simp only [Instr.loadAt, Instr.sureAddr, loadVar, Sem.run_bind, Sem.run_pure, Result.andThen_ok, f.isAgg, Sem.run_ite, f.sizeOf]
  cases hag : ti.agg with
  | true => simp [← hl, hc]
  | false =>
    have h1 := f.one hag
    have : vs[0]? = some (gv vs 0) := by
      cases vs with
      | nil => simp [h1] at hl
      | cons v r => simp [gv]
    have := h 0 _ this
    simp at this
    simp [this]

theorem drop_take_get {α : Type} (l : List α) (o n i : Nat) : ((l.drop o).take n)[i]? = if i < n then l[o + i]? else none := by
  simp [List.getElem?_take, List.getElem?_drop]

theorem gv_of_get {l : List Value} {i : Nat} (hi : i < l.length) : l[i]? = some (gv l i) := by
  simp [gv, List.getD, List.getElem?_eq_getElem hi]

theorem unD_ok {v : Value} {c : AV} {x : D} (h : VRel G v c) (hx : c.unD = some x) : DRel G.imm v x := by
  cases h <;> simp [AV.unD] at hx
  case d h => subst hx; exact h
  case own hd => subst hx; exact hd
theorem unD_one {c : AV} {x : D} (hx : c.unD = some x) (h : c.one = true) : x.one = true := by
  cases c <;> simp [AV.unD] at hx
  case d => subst hx; exact h
  case own => subst hx; rfl
theorem unDs_get : ∀ {l : List AV} {ds : List D}, unDs l = some ds → ds.length = l.length ∧ ∀ (i : Nat) (x : D), ds[i]? = some x → ∃ c : AV, l[i]? = some c ∧ c.unD = some x
  | [], _, h => by simp [unDs] at h; subst h; simp
  | c :: r, ds, h => by
    simp only [unDs] at h
    split at h
    · rename_i x l h1 h2
      cases h
      obtain ⟨i1, i2⟩ := unDs_get h2
      refine ⟨by simp [i1], fun i y hy => ?_⟩
      cases i with
      | zero => simp at hy; subst hy; exact ⟨c, rfl, h1⟩
      | succ i => simpa using i2 i y (by simpa using hy)
    · cases h

theorem mkAgg_ok {vs : Array Value} {l : List AV} (hl : vs.size = l.length) (h1 : ∀ c ∈ l, c.one = true) (h : ∀ (i : Nat) (c : AV), l[i]? = some c → VRel G (gv vs.toList i) c) :
    VRel G (.agg vs) (mkAgg l) := by
  unfold mkAgg
  split
  · rename_i ds hd
    obtain ⟨e1, e2⟩ := unDs_get hd
    refine .d _ _ (.agg _ _ (by rw [hl, e1]) (fun x hx => ?_) fun i x hx => ?_)
    · obtain ⟨i, hi⟩ := List.getElem?_of_mem hx
      obtain ⟨c, hc, hcx⟩ := e2 i x hi
      exact unD_one hcx (h1 c (List.mem_of_getElem? hc))
    · obtain ⟨c, hc, hcx⟩ := e2 i x hx
      exact unD_ok (h i c hc) hcx
  · exact .ag _ _ hl h1 h

/-- The value of a load of cells that are known. -/
theorem loadA_ok {P : Program} {t : Nat} {ti : TI} (f : TyFacts P t ti) {b o : Nat} {us : List Value} {cs : List AV} {off : Nat} {v : AV}
    (h1 : ∀ c ∈ cs, c.one = true) (h : ∀ (i : Nat) (c : AV), cs[i]? = some c → VRel G (gv us i) c)
    (hv : loadA ti cs off = some v) : ∃ r, VRel G r v ∧ ∀ w : World, (∀ i, i < cs.length → w.cell? ⟨b, o + i, none⟩ = some (gv us i)) → (Instr.loadAt t (.pointer (some ⟨b, o + off, none⟩))).run P w = .ok r w := by
  unfold loadA at hv
  cases hag : ti.agg with
  | true =>
    rw [hag, cond_true] at hv
    cases hb : Nat.ble (off + ti.size) cs.length with
    | false => rw [hb] at hv; cases hv
    | true =>
      rw [hb, cond_true] at hv; cases hv
      have hle := Nat.le_of_ble_eq_true hb
      let vs := (List.range ti.size).map fun i => gv us (off + i)
      have hr : ∀ w : World, (∀ i, i < cs.length → w.cell? ⟨b, o + i, none⟩ = some (gv us i)) → RA w b (o + off) vs := fun w hm j v hj => by
        simp only [vs, List.getElem?_map] at hj
        have hjl : j < ti.size := by
          rcases Nat.lt_or_ge j ti.size with h | h
          · exact h
          · simp [List.getElem?_eq_none (l := List.range ti.size) (i := j) (by simpa using h)] at hj
        simp [hjl] at hj
        subst hj
        rw [Nat.add_assoc]; exact hm (off + j) (by omega)
      refine ⟨.agg vs.toArray, mkAgg_ok (by simp [vs]; omega) (fun c hc => h1 c (List.mem_of_mem_drop (List.mem_of_mem_take hc))) (fun i c hc => ?_), fun w hm => ?_⟩
      · rw [drop_take_get] at hc
        split at hc
        · rename_i hi
          have := h (off + i) c hc
          simpa [gv, vs, hi, List.getD] using this
        · cases hc
      · rw [run_load_RA f (hr w hm) (by simp [vs]), hag]; rfl
  | false =>
    rw [hag, cond_false] at hv
    have hlt := getElem?_lt hv
    refine ⟨gv us off, h off v hv, fun w hm => ?_⟩
    have hr : RA w b (o + off) [gv us off] := fun j v hj => by
      cases j with
      | zero => simp at hj; subst hj; simpa using hm off hlt
      | succ j => simp at hj
    rw [run_load_RA f hr (by simp [f.one hag]), hag]; simp [gv]

theorem loadA_map (ti : TI) (cs : List D) (off : Nat) (x : D) (h : loadD ti cs off = some x) : ∃ v, loadA ti (cs.map .d) off = some v ∧ (∀ r, VRel G r v → VRel G r (.d x)) := by
  unfold loadD at h
  unfold loadA
  cases hag : ti.agg with
  | true =>
    rw [hag, cond_true] at h
    cases hb : Nat.ble (off + ti.size) cs.length with
    | false => rw [hb] at h; cases h
    | true =>
      rw [hb, cond_true] at h; cases h
      simp only [cond_true, List.length_map, hb]
      refine ⟨_, rfl, fun r hr => ?_⟩
      have : unDs (List.take ti.size (List.drop off (cs.map AV.d))) = some (List.take ti.size (List.drop off cs)) := by
        rw [← List.map_drop, ← List.map_take]
        generalize List.take ti.size (List.drop off cs) = l
        induction l with
        | nil => rfl
        | cons x l ih => simp [unDs, AV.unD, ih]
      rw [mkAgg, this] at hr
      exact hr
  | false =>
    rw [hag, cond_false] at h
    exact ⟨.d x, by simp [h], fun r hr => hr⟩

theorem loadD_ok {P : Program} {t : Nat} {ti : TI} (f : TyFacts P t ti) {b o : Nat} {us : List Value} {cs : List D} {off : Nat} {x : D}
    (h1 : ∀ c ∈ cs, c.one = true) (h : ∀ (i : Nat) (c : D), cs[i]? = some c → DRel G.imm (gv us i) c)
    (hv : loadD ti cs off = some x) : ∃ r, VRel G r (.d x) ∧ ∀ w : World, (∀ i, i < cs.length → w.cell? ⟨b, o + i, none⟩ = some (gv us i)) → (Instr.loadAt t (.pointer (some ⟨b, o + off, none⟩))).run P w = .ok r w := by
  obtain ⟨v, e1, e2⟩ := loadA_map (G := G) ti cs off x hv
  obtain ⟨r, r1, r2⟩ := loadA_ok (G := G) f (b := b) (o := o) (us := us) (fun c hc => by obtain ⟨y, hy, rfl⟩ := List.mem_map.1 hc; exact h1 y hy)
    (fun i c hc => by
      rw [List.getElem?_map] at hc
      cases hq : cs[i]? with
      | none => simp [hq] at hc
      | some y => simp [hq] at hc; subst hc; exact .d _ _ (h i y hq)) e1
  exact ⟨r, e2 r r1, fun w hm => r2 w (by simpa using hm)⟩

theorem ev_ok (hW : WRel Γ.gl G H w) (hF : FRel G nt a.tmps env) (x : Operand) : VRel G (a.eval x) (ev Γ env x) := by
  cases x with
  | tmp t => exact hF.rel t
  | const v =>
    simp only [Act.eval, ev]
    unfold constAV
    split <;> first | exact .d _ _ (.bool _) | exact .d _ _ (.int _ _) | exact .d _ _ (.str _) | exact .d _ _ .nilp | exact .d _ _ .nils | exact .top _
  | global g =>
    simp only [Act.eval, ev]
    split
    · rename_i cs hg
      exact .d _ _ (hW.glob g cs (lookT_mem hg))
    · exact .top _
  | func f => exact .fn _ #[] #[] [] [] rfl rfl (fun i c h => by simp at h) (fun i c h => by simp at h)
end
end Go.Proofs.YtammpekpmjboiaaDoor.Av
