/- Abstract values: data trees and objects, what they say of a world. -/
import Derived.WalkKit
import Derived.KernelRfl
import Derived.Deep.LoopGhost
import Derived.Deep.Quiet
import Derived.Laws.AppendOwn
import Derived.Laws.Rows
import Derived.Deep.MidRow
import Derived.Laws.BytesString
set_option linter.unusedVariables false
set_option linter.unusedSimpArgs false
namespace Go.Proofs.YtammpekpmjboiaaDoor.Av
open Go Go.RowKit

/-- Data: trees without addresses. -/
inductive D where
  | bool (b : Bool) | int (k : IntKind) (n : Int) | str (s : List UInt8)
  | nilp | nilm | nils | sl (sz : Nat) (es : List D) | agg (cs : List D) | iptr (cs : List D) | top

def D.cells : D → List D | .agg cs => cs | d => [d]
def D.one : D → Bool | .agg _ => false | _ => true

def gv (l : List Value) (i : Nat) : Value := l.getD i undef

inductive DRel (imm : Nat → List Value) : Value → D → Prop
  | bool (b : Bool) : DRel imm (.bool b) (.bool b)
  | int (k : IntKind) (n : Int) : DRel imm (.int k n) (.int k n)
  | str (s : ByteArray) : DRel imm (.string s) (.str s.data.toList)
  | nilp : DRel imm (.pointer none) .nilp
  | nilm : DRel imm (.map none) .nilm
  | nils : DRel imm (.slice none 0 0) .nils
  | sl0 (a : Option Addr) (cap sz : Nat) : DRel imm (.slice a 0 cap) (.sl sz [])
  | sl (b o cap sz : Nat) (es : List D) (hne : es ≠ []) (hcap : es.length ≤ cap) (hsz : ∀ e ∈ es, e.cells.length = sz) (hone : ∀ e ∈ es, ∀ c ∈ e.cells, c.one = true)
      (hin : o + es.length * sz ≤ (imm b).length)
      (h : ∀ (i : Nat) (e : D) (j : Nat) (c : D), es[i]? = some e → e.cells[j]? = some c → DRel imm (gv (imm b) (o + i * sz + j)) c) :
      DRel imm (.slice (some ⟨b, o, none⟩) es.length cap) (.sl sz es)
  | agg (vs : Array Value) (cs : List D) (hl : vs.size = cs.length) (hone : ∀ c ∈ cs, c.one = true)
      (h : ∀ (i : Nat) (c : D), cs[i]? = some c → DRel imm (gv vs.toList i) c) : DRel imm (.agg vs) (.agg cs)
  | iptr (b o : Nat) (cs : List D) (hin : o + cs.length ≤ (imm b).length) (hone : ∀ c ∈ cs, c.one = true)
      (h : ∀ (j : Nat) (c : D), cs[j]? = some c → DRel imm (gv (imm b) (o + j)) c) : DRel imm (.pointer (some ⟨b, o, none⟩)) (.iptr cs)
  | top (v : Value) (h : v.oneCell' = true) : DRel imm v .top

theorem DRel.oneCell {imm : Nat → List Value} {v : Value} {x : D} (h : DRel imm v x) (h1 : x.one = true) : v.oneCell' = true := by
  cases h <;> first | rfl | assumption | (simp [D.one] at h1)

def ImmLe (a b : Nat → List Value) : Prop := ∀ k, a k <+: b k
theorem ImmLe.refl (a : Nat → List Value) : ImmLe a a := fun _ => List.prefix_refl _
theorem ImmLe.trans {a b c : Nat → List Value} (h : ImmLe a b) (k : ImmLe b c) : ImmLe a c := fun i => (h i).trans (k i)
theorem ImmLe.len {a b : Nat → List Value} (h : ImmLe a b) (k : Nat) : (a k).length ≤ (b k).length := (h k).length_le
theorem gv_prefix {l l' : List Value} (h : l <+: l') {i : Nat} (hi : i < l.length) : gv l' i = gv l i := by
  obtain ⟨t, rfl⟩ := h
  simp [gv, List.getD, List.getElem?_append_left hi]
theorem ImmLe.gv {a b : Nat → List Value} (h : ImmLe a b) {k i : Nat} (hi : i < (a k).length) : gv (b k) i = gv (a k) i := gv_prefix (h k) hi

theorem idx_lt {i n sz j : Nat} (hi : i < n) (hj : j < sz) : i * sz + j < n * sz := by
  have : (i + 1) * sz ≤ n * sz := Nat.mul_le_mul_right _ hi
  rw [Nat.add_mul] at this
  omega
theorem getElem?_lt {α : Type} {l : List α} {i : Nat} {x : α} (h : l[i]? = some x) : i < l.length := by
  rcases Nat.lt_or_ge i l.length with h' | h'
  · exact h'
  · rw [List.getElem?_eq_none h'] at h; cases h
theorem getElem?_mem' {α : Type} {l : List α} {i : Nat} {x : α} (h : l[i]? = some x) : x ∈ l := List.mem_of_getElem? h

theorem DRel.mono {imm imm' : Nat → List Value} (hle : ImmLe imm imm') {v : Value} {x : D} (h : DRel imm v x) : DRel imm' v x := by
  induction h with
  | bool b => exact .bool b
  | int k n => exact .int k n
  | str s => exact .str s
  | nilp => exact .nilp
  | nilm => exact .nilm
  | nils => exact .nils
  | sl0 a cap sz => exact .sl0 a cap sz
  | sl b o cap sz es hne hcap hsz hone hin h ih =>
    refine .sl b o cap sz es hne hcap hsz hone (Nat.le_trans hin (hle.len b)) fun i e j c he hc => ?_
    have := ih i e j c he hc
    have h1 : i * sz + j < es.length * sz := idx_lt (getElem?_lt he) (by rw [← hsz e (getElem?_mem' he)]; exact getElem?_lt hc)
    rwa [hle.gv (by omega)]
  | agg vs cs hl hone h ih => exact .agg vs cs hl hone ih
  | iptr b o cs hin hone h ih =>
    refine .iptr b o cs (Nat.le_trans hin (hle.len b)) hone fun j c hc => ?_
    have := ih j c hc
    rwa [hle.gv (by have := getElem?_lt hc; omega)]
  | top v h => exact .top v h

/-- Abstract values. -/
inductive AV where
  | d (x : D)
  | ptr (id off : Nat)
  | eptr (id n sz i off : Nat)
  | own (sz : Nat) (es : List D) (id : Nat)
  | ms (id n : Nat)
  | ag (cs : List AV)
  | tup (vs : List AV)
  | fn (f : Fn) (first cap : List AV)
  | mp (id : Nat)
  | it (id : Nat)
  | top

def AV.one : AV → Bool | .d x => x.one | .ag _ => false | .tup _ => false | .top => false | _ => true
def AV.cells : AV → List AV | .d x => x.cells.map .d | .ag cs => cs | v => [v]

/-- What the proof knows beside the memory. -/
structure Ghost where
  base : World
  imm0 : Nat → List Value
  own0 : Nat → Prop
  imm : Nat → List Value
  loc : Nat → Option Nat
  fl : Nat → Nat → Option Value

inductive VRel (G : Ghost) : Value → AV → Prop
  | d (v : Value) (x : D) (h : DRel G.imm v x) : VRel G v (.d x)
  | ptr (b id off : Nat) (h : G.loc id = some b) : VRel G (.pointer (some ⟨b, off, none⟩)) (.ptr id off)
  | eptr (b cap id n sz i off : Nat) (h : G.fl id n = some (.slice (some ⟨b, 0, none⟩) n cap)) : VRel G (.pointer (some ⟨b, i * sz + off, none⟩)) (.eptr id n sz i off)
  | own (v : Value) (sz : Nat) (es : List D) (id : Nat) (h : G.fl id es.length = some v) (hd : DRel G.imm v (.sl sz es)) : VRel G v (.own sz es id)
  | ms (v : Value) (id n : Nat) (h : G.fl id n = some v) (h1 : v.oneCell' = true) : VRel G v (.ms id n)
  | ag (vs : Array Value) (cs : List AV) (hl : vs.size = cs.length) (hone : ∀ c ∈ cs, c.one = true)
      (h : ∀ (i : Nat) (c : AV), cs[i]? = some c → VRel G (gv vs.toList i) c) : VRel G (.agg vs) (.ag cs)
  | tup (vs : Array Value) (cs : List AV) (hl : vs.size = cs.length)
      (h : ∀ (i : Nat) (c : AV), cs[i]? = some c → VRel G (gv vs.toList i) c) : VRel G (.tuple vs) (.tup cs)
  | fn (f : Fn) (vs ws : Array Value) (as bs : List AV) (hv : vs.size = as.length) (hw : ws.size = bs.length)
      (h : ∀ (i : Nat) (c : AV), as[i]? = some c → VRel G (gv vs.toList i) c) (h' : ∀ (i : Nat) (c : AV), bs[i]? = some c → VRel G (gv ws.toList i) c) :
      VRel G (.func f vs ws) (.fn f as bs)
  | mp (b id : Nat) (h : G.loc id = some b) : VRel G (.map (some b)) (.mp id)
  | it (b id : Nat) (h : G.loc id = some b) : VRel G (.pointer (some ⟨b, 0, none⟩)) (.it id)
  | top (v : Value) : VRel G v .top

/-- A later ghost, as far as names below 'k' go. -/
structure GLe (k : Nat) (G G' : Ghost) : Prop where
  base : G'.base = G.base
  imm0 : G'.imm0 = G.imm0
  own0 : G'.own0 = G.own0
  imm : ImmLe G.imm G'.imm
  loc : ∀ id b, id < k → G.loc id = some b → G'.loc id = some b
  fl : ∀ id n v, id < k → G.fl id n = some v → G'.fl id n = some v
theorem GLe.refl (k : Nat) (G : Ghost) : GLe k G G := ⟨rfl, rfl, rfl, .refl _, fun _ _ _ h => h, fun _ _ _ _ h => h⟩
theorem GLe.trans {k : Nat} {A B C : Ghost} (h : GLe k A B) (h' : GLe k B C) : GLe k A C :=
  ⟨h'.base.trans h.base, h'.imm0.trans h.imm0, h'.own0.trans h.own0, h.imm.trans h'.imm, fun i b hi hb => h'.loc i b hi (h.loc i b hi hb), fun i n v hi hb => h'.fl i n v hi (h.fl i n v hi hb)⟩
theorem GLe.weaken {k k' : Nat} {A B : Ghost} (h : GLe k A B) (hk : k' ≤ k) : GLe k' A B :=
  ⟨h.base, h.imm0, h.own0, h.imm, fun i b hi => h.loc i b (Nat.lt_of_lt_of_le hi hk), fun i n v hi => h.fl i n v (Nat.lt_of_lt_of_le hi hk)⟩

/-! All names in it are below k. -/
mutual
def AV.bnd (k : Nat) : AV → Bool
  | .d _ => true
  | .ptr id _ => decide (id < k)
  | .eptr id _ _ _ _ => decide (id < k)
  | .own _ _ id => decide (id < k)
  | .ms id _ => decide (id < k)
  | .ag cs => AV.bnds k cs
  | .tup cs => AV.bnds k cs
  | .fn _ as bs => AV.bnds k as && AV.bnds k bs
  | .mp id => decide (id < k)
  | .it id => decide (id < k)
  | .top => true
def AV.bnds (k : Nat) : List AV → Bool
  | [] => true
  | a :: r => AV.bnd k a && AV.bnds k r
end

theorem bnds_mem {k : Nat} : ∀ {l : List AV}, AV.bnds k l = true → ∀ {i : Nat} {c : AV}, l[i]? = some c → AV.bnd k c = true := by
  intro l
  induction l with
  | nil => intro _ i c h; simp at h
  | cons a l ih =>
    intro h i c hc
    simp only [AV.bnds, Bool.and_eq_true] at h
    cases i with
    | zero => simp at hc; subst hc; exact h.1
    | succ i => exact ih h.2 (by simpa using hc)

theorem VRel.mono' {k : Nat} {G G' : Ghost} (himm : ImmLe G.imm G'.imm) (hloc : ∀ id b, id < k → G.loc id = some b → G'.loc id = some b)
    (hfl : ∀ id n v, id < k → G.fl id n = some v → G'.fl id n = some v) {v : Value} {a : AV} (h : VRel G v a) : a.bnd k = true → VRel G' v a := by
  induction h with
  | d v x h => exact fun _ => .d v x (h.mono himm)
  | ptr b id off h => exact fun hb => .ptr b id off (hloc id b (by simpa [AV.bnd, AV.bnds] using hb) h)
  | eptr b cap id n sz i off h => exact fun hb => .eptr b cap id n sz i off (hfl id n _ (by simpa [AV.bnd, AV.bnds] using hb) h)
  | own v sz es id h hd => exact fun hb => .own v sz es id (hfl id _ _ (by simpa [AV.bnd, AV.bnds] using hb) h) (hd.mono himm)
  | ms v id n h h1 => exact fun hb => .ms v id n (hfl id _ _ (by simpa [AV.bnd, AV.bnds] using hb) h) h1
  | ag vs cs hl hone h ih => exact fun hb => .ag vs cs hl hone fun i c hc => ih i c hc (bnds_mem (by simpa [AV.bnd, AV.bnds] using hb) hc)
  | tup vs cs hl h ih => exact fun hb => .tup vs cs hl fun i c hc => ih i c hc (bnds_mem (by simpa [AV.bnd, AV.bnds] using hb) hc)
  | fn f vs ws as bs hv hw h h' ih ih' =>
    intro hb
    have hb' : AV.bnds k as = true ∧ AV.bnds k bs = true := by simpa [AV.bnd, AV.bnds] using hb
    exact .fn f vs ws as bs hv hw (fun i c hc => ih i c hc (bnds_mem hb'.1 hc)) (fun i c hc => ih' i c hc (bnds_mem hb'.2 hc))
  | mp b id h => exact fun hb => .mp b id (hloc id b (by simpa [AV.bnd, AV.bnds] using hb) h)
  | it b id h => exact fun hb => .it b id (hloc id b (by simpa [AV.bnd, AV.bnds] using hb) h)
  | top v => exact fun _ => .top v
theorem VRel.mono {k : Nat} {G G' : Ghost} (hle : GLe k G G') {v : Value} {a : AV} (h : VRel G v a) : a.bnd k = true → VRel G' v a :=
  VRel.mono' hle.imm hle.loc hle.fl h

theorem VRel.oneCell {G : Ghost} {v : Value} {a : AV} (h : VRel G v a) (h1 : a.one = true) : v.oneCell' = true := by
  cases h with
  | d v x h => exact h.oneCell h1
  | own v sz es id h hd => exact hd.oneCell rfl
  | ms v id n h h2 => exact h2
  | _ => first | rfl | (simp [AV.one] at h1)
end Go.Proofs.YtammpekpmjboiaaDoor.Av
