/- What abstract objects say of a world; how a step of the world carries that on. -/
import Derived.Test.YtammpekpmjboiaaDoorAv1
set_option linter.unusedVariables false
set_option linter.unusedSimpArgs false
namespace Go.Proofs.YtammpekpmjboiaaDoor.Av
open Go Go.RowKit

inductive AObj where
  | cells (cs : List AV)
  | front (e : TypeId) (sz n : Nat)
  | arr (e : TypeId) (sz : Nat) (es : List D)
  | map (es : List (D × D))
  | siter (s : ByteArray) (pos : Nat)
  | gone

/-- The object of this name has this block. -/
def OB (G : Ghost) (id : Nat) (o : AObj) (b : Nat) : Prop :=
  match o with
  | .cells _ | .map _ | .siter _ _ => G.loc id = some b
  | .front _ _ n => ∃ v, G.fl id n = some v ∧ v.ownBlock = some b
  | .arr _ _ es => ∃ v, G.fl id es.length = some v ∧ v.ownBlock = some b
  | .gone => False

def ORel (G : Ghost) (w : World) (id : Nat) : AObj → Prop
  | .cells cs => ∃ b cur t, G.loc id = some b ∧ w.heap[b]? = some (.cells cur t (0, 0)) ∧ cs.length ≤ cur.size ∧ (∀ c ∈ cs, c.one = true) ∧
      (∀ (i : Nat) (c : AV), cs[i]? = some c → VRel G (gv cur.toList i) c) ∧ G.imm b = []
  | .front e sz n => ∃ v xs, G.fl id n = some v ∧ w.ownsRow 0 e sz v n xs ∧ (∀ b, v.ownBlock = some b → G.imm b = xs) ∧ (∀ k, n < k → G.fl id k = none)
  | .arr e sz es => ∃ v xs, G.fl id es.length = some v ∧ w.ownsRow 0 e sz v es.length xs ∧ (∀ x ∈ es, x.cells.length = sz) ∧ (∀ x ∈ es, ∀ c ∈ x.cells, c.one = true) ∧
      (∀ (i : Nat) (x : D) (j : Nat) (c : D), es[i]? = some x → x.cells[j]? = some c → DRel G.imm (gv xs (i * sz + j)) c) ∧ (∀ b, v.ownBlock = some b → G.imm b = []) ∧ (∀ k, es.length < k → G.fl id k = none)
  | .map es => ∃ b ents clock, G.loc id = some b ∧ w.heap[b]? = some (.map ents clock) ∧ G.imm b = [] ∧ ents.size = es.length ∧ clock = ents.size ∧ (∀ (i : Nat) (en : MapEntry), ents[i]? = some en → en.born = i) ∧
      (∀ (i : Nat) (k v : D), es[i]? = some (k, v) → ∃ en, ents[i]? = some en ∧ DRel G.imm en.key k ∧ DRel G.imm en.val v)
  | .siter s pos => ∃ b, G.loc id = some b ∧ w.heap[b]? = some (.stringIter s pos) ∧ G.imm b = []
  | .gone => True

structure WRel (gl : List (Nat × List D)) (G : Ghost) (H : List AObj) (w : World) : Prop where
  os : w.os = G.base.os
  tape : w.tape = G.base.tape
  output : w.output = G.base.output
  size : G.base.heap.size ≤ w.heap.size
  old : ∀ b, b < G.base.heap.size → ¬ G.own0 b → w.heap[b]? = G.base.heap[b]? ∧ G.imm b = G.imm0 b
  imm : ∀ b i, i < (G.imm b).length → w.cell? ⟨b, i, none⟩ = some (gv (G.imm b) i)
  obj : ∀ id o, H[id]? = some o → ORel G w id o
  own : ∀ id o b, H[id]? = some o → OB G id o b → G.own0 b ∨ G.base.heap.size ≤ b
  inj : ∀ id o id' o' b, H[id]? = some o → H[id']? = some o' → OB G id o b → OB G id' o' b → id = id'
  lim : ∀ id, H.length ≤ id → G.loc id = none ∧ ∀ n, G.fl id n = none
  glob : ∀ g cs, (g, cs) ∈ gl → DRel G.imm (.pointer (some ⟨g, 0, none⟩)) (.iptr cs)

theorem bnds_of {k : Nat} : ∀ {l : List AV}, (∀ (i : Nat) (c : AV), l[i]? = some c → AV.bnd k c = true) → AV.bnds k l = true := by
  intro l
  induction l with
  | nil => intro _; simp [AV.bnds]
  | cons a l ih =>
    intro h
    have h0 := h 0 a rfl
    have h1 := ih fun i c hc => h (i + 1) c (by simpa using hc)
    simp [AV.bnds, h0, h1]

theorem VRel.bnd {k : Nat} {G : Ghost} (hl : ∀ id, k ≤ id → G.loc id = none ∧ ∀ n, G.fl id n = none) {v : Value} {a : AV} (h : VRel G v a) : a.bnd k = true := by
  have lt1 : ∀ {id b}, G.loc id = some b → id < k := fun {id b} h => by
    rcases Nat.lt_or_ge id k with h' | h'
    · exact h'
    · rw [(hl id h').1] at h; cases h
  have lt2 : ∀ {id n b}, G.fl id n = some b → id < k := fun {id n b} h => by
    rcases Nat.lt_or_ge id k with h' | h'
    · exact h'
    · rw [(hl id h').2] at h; cases h
  induction h with
  | d v x h => simp [AV.bnd, AV.bnds]
  | ptr b id off h => simp [AV.bnd, AV.bnds, lt1 h]
  | eptr b cap id n sz i off h => simp [AV.bnd, AV.bnds, lt2 h]
  | own v sz es id h hd => simp [AV.bnd, AV.bnds, lt2 h]
  | ms v id n h h1 => simp [AV.bnd, AV.bnds, lt2 h]
  | ag vs cs hl hone h ih => simpa [AV.bnd, AV.bnds] using bnds_of ih
  | tup vs cs hl h ih => simpa [AV.bnd, AV.bnds] using bnds_of ih
  | fn f vs ws as bs hv hw h h' ih ih' =>
    have h1 := bnds_of ih
    have h2 := bnds_of ih'
    simp [AV.bnd, AV.bnds, h1, h2]
  | mp b id h => simp [AV.bnd, AV.bnds, lt1 h]
  | it b id h => simp [AV.bnd, AV.bnds, lt1 h]
  | top v => simp [AV.bnd, AV.bnds]

section
variable {gl : List (Nat × List D)} {G G' : Ghost} {H : List AObj} {w w' : World}

theorem WRel.up (hW : WRel gl G H w) (hle : GLe H.length G G') {v : Value} {a : AV} (h : VRel G v a) : VRel G' v a :=
  h.mono hle (h.bnd hW.lim)

theorem ORel.lt {id : Nat} {o : AObj} {b : Nat} (h : ORel G w id o) (hb : OB G id o b) : b < w.heap.size := by
  have key : ∀ {x : Obj}, w.heap[b]? = some x → b < w.heap.size := fun {x} h => (Array.getElem?_eq_some_iff.1 h).1
  cases o with
  | cells cs =>
    obtain ⟨b', cur, t, h1, h2, _⟩ := h
    simp only [OB] at hb
    rw [h1] at hb; cases hb; exact key h2
  | front e sz n =>
    obtain ⟨v, xs, h1, h2, _⟩ := h
    obtain ⟨v', h1', hv⟩ := hb
    rw [h1] at h1'; cases h1'
    exact (h2.lt _ hv).2
  | arr e sz es =>
    obtain ⟨v, xs, h1, h2, _⟩ := h
    obtain ⟨v', h1', hv⟩ := hb
    rw [h1] at h1'; cases h1'
    exact (h2.lt _ hv).2
  | map es =>
    obtain ⟨b', ents, clock, h1, h2, _⟩ := h
    simp only [OB] at hb
    rw [h1] at hb; cases hb; exact key h2
  | siter s pos =>
    obtain ⟨b', h1, h2, _⟩ := h
    simp only [OB] at hb
    rw [h1] at hb; cases hb; exact key h2
  | gone => exact hb.elim

theorem OB.back {id : Nat} {o : AObj} {b k : Nat} (hle : GLe k G G') (hk : id < k) (h : ORel G w id o) (hb : OB G' id o b) : OB G id o b := by
  cases o with
  | cells cs =>
    obtain ⟨b', cur, t, h1, h2, _⟩ := h
    simp only [OB] at hb ⊢
    rw [hle.loc id _ hk h1] at hb; cases hb; exact h1
  | front e sz n =>
    obtain ⟨v, xs, h1, h2, _⟩ := h
    obtain ⟨v', h1', hv⟩ := hb
    rw [hle.fl id _ _ hk h1] at h1'; cases h1'
    exact ⟨v, h1, hv⟩
  | arr e sz es =>
    obtain ⟨v, xs, h1, h2, _⟩ := h
    obtain ⟨v', h1', hv⟩ := hb
    rw [hle.fl id _ _ hk h1] at h1'; cases h1'
    exact ⟨v, h1, hv⟩
  | map es =>
    obtain ⟨b', ents, clock, h1, h2, _⟩ := h
    simp only [OB] at hb ⊢
    rw [hle.loc id _ hk h1] at hb; cases hb; exact h1
  | siter s pos =>
    obtain ⟨b', h1, h2, _⟩ := h
    simp only [OB] at hb ⊢
    rw [hle.loc id _ hk h1] at hb; cases hb; exact h1
  | gone => exact hb.elim

theorem ownsRow_same {e : TypeId} {sz : Nat} {v : Value} {n : Nat} {xs : List Value} (h : w.ownsRow 0 e sz v n xs) (hs : ∀ b, v.ownBlock = some b → w'.heap[b]? = w.heap[b]?) :
    w'.ownsRow 0 e sz v n xs := by
  refine ⟨h.1, ?_⟩
  rcases h.2 with hn | ⟨g, cap, cur, rfl, hb, hgg, rest⟩
  · exact .inl hn
  · exact .inr ⟨g, cap, cur, rfl, hb, by rw [hs g rfl]; exact hgg, rest⟩

/-- An object whose block stands is as it was. -/
theorem ORel.keep {id : Nat} {o : AObj} {k : Nat} (hle : GLe k G G') (hk : id < k) (hl : ∀ id, k ≤ id → G.loc id = none ∧ ∀ n, G.fl id n = none) (h : ORel G w id o)
    (hs : ∀ b, OB G id o b → w'.heap[b]? = w.heap[b]? ∧ G'.imm b = G.imm b) (hfl : ∀ n, G'.fl id n = G.fl id n) : ORel G' w' id o := by
  cases o with
  | cells cs =>
    obtain ⟨b, cur, t, h1, h2, h3, h4, h5, h6⟩ := h
    obtain ⟨s1, s2⟩ := hs b h1
    exact ⟨b, cur, t, hle.loc id b hk h1, s1.trans h2, h3, h4, fun i c hc => (h5 i c hc).mono hle ((h5 i c hc).bnd hl), s2.trans h6⟩
  | front e sz n =>
    obtain ⟨v, xs, h1, h2, h3, h4⟩ := h
    refine ⟨v, xs, hle.fl id _ _ hk h1, ownsRow_same h2 fun b hb => (hs b ⟨v, h1, hb⟩).1, fun b hb => ?_, fun k hk => by rw [hfl]; exact h4 k hk⟩
    rw [(hs b ⟨v, h1, hb⟩).2]; exact h3 b hb
  | arr e sz es =>
    obtain ⟨v, xs, h1, h2, h3, h3', h4, h5, h6⟩ := h
    refine ⟨v, xs, hle.fl id _ _ hk h1, ownsRow_same h2 fun b hb => (hs b ⟨v, h1, hb⟩).1, h3, h3', fun i x j c hx hc => (h4 i x j c hx hc).mono hle.imm, fun b hb => ?_, fun k hk => by rw [hfl]; exact h6 k hk⟩
    rw [(hs b ⟨v, h1, hb⟩).2]; exact h5 b hb
  | map es =>
    obtain ⟨b, ents, clock, h1, h2, h3, h4, h6, h7, h5⟩ := h
    obtain ⟨s1, s2⟩ := hs b h1
    exact ⟨b, ents, clock, hle.loc id b hk h1, s1.trans h2, s2.trans h3, h4, h6, h7, fun i k v hi => by
      obtain ⟨en, e1, e2, e3⟩ := h5 i k v hi
      exact ⟨en, e1, e2.mono hle.imm, e3.mono hle.imm⟩⟩
  | siter s pos =>
    obtain ⟨b, h1, h2, h3⟩ := h
    obtain ⟨s1, s2⟩ := hs b h1
    exact ⟨b, hle.loc id b hk h1, s1.trans h2, s2.trans h3⟩
  | gone => trivial

/-- ONE OBJECT TURNS, or comes in: object j. -/
theorem WRel.step (hW : WRel gl G H w) (hle : GLe H.length G G') (hos : w'.os = w.os) (htape : w'.tape = w.tape) (hout : w'.output = w.output) (hsz : w.heap.size ≤ w'.heap.size)
    (j : Nat) (o : AObj) (H' : List AObj) (hlen : H.length ≤ H'.length) (hH1 : H'[j]? = some o) (hH2 : ∀ id, id ≠ j → H'[id]? = H[id]?)
    (hfl : ∀ id, id < H.length → id ≠ j → ∀ k, G'.fl id k = G.fl id k)
    (hkeep : ∀ b, b < w.heap.size → (∀ oj, H[j]? = some oj → ¬ OB G j oj b) → w'.heap[b]? = w.heap[b]? ∧ G'.imm b = G.imm b)
    (himm : ∀ b, (w.heap.size ≤ b ∨ ∃ oj, H[j]? = some oj ∧ OB G j oj b) → ∀ i, i < (G'.imm b).length → w'.cell? ⟨b, i, none⟩ = some (gv (G'.imm b) i))
    (hobj : ORel G' w' j o)
    (hown : ∀ b, OB G' j o b → w.heap.size ≤ b ∨ ∃ oj, H[j]? = some oj ∧ OB G j oj b)
    (hlim : ∀ id, H'.length ≤ id → G'.loc id = none ∧ ∀ n, G'.fl id n = none) : WRel gl G' H' w' := by
  have other : ∀ id o', id ≠ j → H[id]? = some o' → ∀ b, OB G id o' b → ∀ oj, H[j]? = some oj → ¬ OB G j oj b :=
    fun id o' hne ho b hb oj hj hbj => hne (hW.inj id o' j oj b ho hj hb hbj)
  have keepO : ∀ id o', id ≠ j → H[id]? = some o' → ORel G' w' id o' := fun id o' hne ho =>
    ORel.keep hle (getElem?_lt ho) hW.lim (hW.obj id o' ho) (fun b hb => hkeep b ((hW.obj id o' ho).lt hb) (other id o' hne ho b hb)) (hfl id (getElem?_lt ho) hne)
  refine ⟨?_, ?_, ?_, ?_, ?_, ?_, ?_, ?_, ?_, hlim, ?_⟩
  · rw [hos, hW.os, hle.base]
  · rw [htape, hW.tape, hle.base]
  · rw [hout, hW.output, hle.base]
  · rw [hle.base]; exact Nat.le_trans hW.size hsz
  · intro b hb hn
    rw [hle.base] at hb ⊢; rw [hle.own0] at hn; rw [hle.imm0]
    obtain ⟨o1, o2⟩ := hW.old b hb hn
    obtain ⟨k1, k2⟩ := hkeep b (Nat.lt_of_lt_of_le hb hW.size) (fun oj hj hbj => by
      rcases hW.own j oj b hj hbj with h | h
      · exact hn h
      · omega)
    exact ⟨k1.trans o1, k2.trans o2⟩
  · intro b i hi
    by_cases hc : w.heap.size ≤ b ∨ ∃ oj, H[j]? = some oj ∧ OB G j oj b
    · exact himm b hc i hi
    · have hb : b < w.heap.size := by
        rcases Nat.lt_or_ge b w.heap.size with h | h
        · exact h
        · exact (hc (.inl h)).elim
      obtain ⟨k1, k2⟩ := hkeep b hb (fun oj hj hbj => hc (.inr ⟨oj, hj, hbj⟩))
      rw [k2] at hi ⊢
      rw [World.cell?_of_block (w := w) (a := ⟨b, i, none⟩) k1]
      exact hW.imm b i hi
  · intro id o' ho
    by_cases hne : id = j
    · subst hne; rw [hH1] at ho; cases ho; exact hobj
    · exact keepO id o' hne (by rwa [hH2 id hne] at ho)
  · intro id o' b ho hb
    rw [hle.own0, hle.base]
    by_cases hne : id = j
    · subst hne; rw [hH1] at ho; cases ho
      rcases hown b hb with h | ⟨oj, hj, hbj⟩
      · exact .inr (Nat.le_trans hW.size h)
      · exact hW.own _ oj b hj hbj
    · have ho' : H[id]? = some o' := by rwa [hH2 id hne] at ho
      exact hW.own id o' b ho' (OB.back hle (getElem?_lt ho') (hW.obj id o' ho') hb)
  · intro id o1 id' o2 b h1 h2 hb1 hb2
    have mix : ∀ id o', id ≠ j → H'[id]? = some o' → OB G' id o' b → OB G' j o b → False := fun id o' hne ho hb hbj => by
      have ho' : H[id]? = some o' := by rwa [hH2 id hne] at ho
      have hb' := OB.back hle (getElem?_lt ho') (hW.obj id o' ho') hb
      rcases hown b hbj with h | ⟨oj, hj, hbj⟩
      · have := (hW.obj id o' ho').lt hb'; omega
      · exact other id o' hne ho' b hb' oj hj hbj
    by_cases e1 : id = j
    · by_cases e2 : id' = j
      · rw [e1, e2]
      · subst e1; rw [hH1] at h1; cases h1; exact (mix id' o2 e2 h2 hb2 hb1).elim
    · by_cases e2 : id' = j
      · subst e2; rw [hH1] at h2; cases h2; exact (mix id o1 e1 h1 hb1 hb2).elim
      · have h1' : H[id]? = some o1 := by rwa [hH2 id e1] at h1
        have h2' : H[id']? = some o2 := by rwa [hH2 id' e2] at h2
        exact hW.inj id o1 id' o2 b h1' h2' (OB.back hle (getElem?_lt h1') (hW.obj id o1 h1') hb1) (OB.back hle (getElem?_lt h2') (hW.obj id' o2 h2') hb2)
  · exact fun g cs hg => (hW.glob g cs hg).mono hle.imm

/-- Nothing turns but counts of draws. -/
theorem WRel.same (hW : WRel gl G H w) (hos : w'.os = w.os) (htape : w'.tape = w.tape) (hout : w'.output = w.output) (hh : w'.heap = w.heap) : WRel gl G H w' := by
  have hc : ∀ a, w'.cell? a = w.cell? a := fun a => by simp [World.cell?, hh]
  refine ⟨by rw [hos, hW.os], by rw [htape, hW.tape], by rw [hout, hW.output], by rw [hh]; exact hW.size, by rw [hh]; exact hW.old, fun b i hi => by rw [hc]; exact hW.imm b i hi, ?_, hW.own, hW.inj, hW.lim, hW.glob⟩
  intro id o ho
  exact ORel.keep (GLe.refl H.length G) (getElem?_lt ho) hW.lim (hW.obj id o ho) (fun b _ => ⟨by rw [hh], rfl⟩) (fun _ => rfl)
end
end Go.Proofs.YtammpekpmjboiaaDoor.Av
