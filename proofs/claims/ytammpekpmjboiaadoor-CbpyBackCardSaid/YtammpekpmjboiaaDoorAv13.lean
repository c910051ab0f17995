/- Rows that grow: append. -/
import Derived.Test.YtammpekpmjboiaaDoorAv12
set_option linter.unusedVariables false
set_option linter.unusedSimpArgs false
namespace Go.Proofs.YtammpekpmjboiaaDoor.Av
open Go Go.RowKit

/-- what is appended -/
structure Src (P : Program) (sz : Nat) (t2 : TypeId) (x : Value) (w : World) (m : Nat) (news : List Value) : Prop where
  dt : P.underlying t2 = some .string ∨ ∃ e', P.underlying t2 = some (.slice e')
  len : ∀ w', (Builtin.lenOf x).run P w' = .ok m w'
  c1 : (Builtin.firstCells sz m x).run P w = .ok news.toArray w
  c2 : (Builtin.firstCells sz m x).run P w.drew = .ok news.toArray w.drew
  hl : news.length = m * sz
  one : ∀ u ∈ news, u.oneCell' = true

inductive Apd (w : World) (e : TypeId) (sz : Nat) (z : Value) (v : Value) (n : Nat) (xs : List Value) (m : Nat) (news : List Value) : Value → World → Prop
  | inPlace (g cap : Nat) (cur : Array Value) (hv : v = .slice (some ⟨g, 0, none⟩) n cap) (hg : w.heap[g]? = some (.cells cur e (0, 0))) (h1 : n + m ≤ cap) (h2 : cap ≤ maxLen) (h3 : cur.size = cap * sz) :
      Apd w e sz z v n xs m news (.slice (some ⟨g, 0, none⟩) (n + m) cap) (w.setRow g (cur.toList.take (n * sz) ++ news ++ cur.toList.drop (n * sz + news.length)).toArray)
  | grown (c : Nat) (h0 : 0 < m) (h1 : n + m ≤ c) (h2 : c ≤ maxLen) :
      Apd w e sz z v n xs m news (.slice (some ⟨w.heap.size, 0, none⟩) (n + m) c) (w.drew.alloc (.cells (xs.toArray ++ news.toArray ++ Builtin.zeroCells z.cells (c - (n + m))) e))
  | nil (hv : v = .slice none 0 0) (hn : n = 0) (hm : m = 0) : Apd w e sz z v n xs m news v w

theorem run_app {P : Program} (w : World) (t t2 ty e : TypeId) (i : TypeInfo) (z : Value) (sz bytes : Nat) (ht : P.underlying t = some (.slice e)) (hi : P.info? e = some i) (hz : i.zero = some z)
    (hsize : i.size = sz) (hby : i.bytes = bytes) (v : Value) (n : Nat) (xs : List Value) (hown : w.ownsRow 0 e sz v n xs) (x : Value) (m : Nat) (news : List Value) (hs : Src P sz t2 x w m news)
    (h63 : n + m ≤ maxLen) (hbytes : (n + m) * bytes ≤ 140737488355328) :
    ∃ v' w', (Builtin.append_ #[t, t2] ty #[v, x]).run P w = .ok v' w' ∧ Apd w e sz z v n xs m news v' w' := by
  subst hsize
  subst hby
  have hsmall : n + m ≤ 9223372036854775807 := by simp only [maxLen] at h63; omega
  rcases hown.2 with ⟨rfl, rfl⟩ | ⟨g, cap, cur, rfl, hbg, hg, hnc, hcm, hcs, htake⟩
  · have hx : xs = [] := List.eq_nil_of_length_eq_zero (by simpa using hown.1)
    subst hx
    by_cases hm : m = 0
    · subst hm
      refine ⟨.slice none 0 0, w, ?_, .nil rfl rfl rfl⟩
      have hc := hs.c1
      rcases hs.dt with hd | ⟨e', hd⟩ <;> simp [Builtin.append_, run_underlying ht, run_underlying hd, sizeOf, typeInfo, hi, hs.len, hc]
    · have h63' : ¬ (9223372036854775807 < (m : Int)) := by omega
      have h48' : ¬ (281474976710656 < Builtin.nextslicecap m 0 * i.bytes) := by rw [nextslicecap_zero (by omega)]; have hb := hbytes; simp only [Nat.zero_add] at hb; omega
      have hc := hs.c2
      refine ⟨_, _, ?_, .grown (grownCap w (0 + m) 0 e) (by omega) (grownCap_ge w _ _ e) (grownCap_le_maxLen w _ _ e h63)⟩
      rcases hs.dt with hd | ⟨e', hd⟩ <;> simp [Builtin.append_, run_underlying ht, run_underlying hd, sizeOf, typeInfo, zeroValue, hi, hz, hs.len, hm, h63', h48', Question.forced, run_firstCells_none, hc, newRow, grownCap]
  · by_cases hroom : n + m ≤ cap
    · have hfit : n * i.size + news.length ≤ cur.size := by rw [hs.hl, hcs, ← Nat.add_mul]; exact Nat.mul_le_mul_right _ hroom
      have hst := run_storeCells_at P g (n * i.size) e news 0 cur w hg (by simpa using hfit) hs.one
      simp only [Nat.add_zero] at hst
      have hc := hs.c1
      refine ⟨_, _, ?_, .inPlace g cap cur rfl hg hroom hcm hcs⟩
      rcases hs.dt with hd | ⟨e', hd⟩ <;> simp [Builtin.append_, run_underlying ht, run_underlying hd, sizeOf, typeInfo, hi, hs.len, hroom, hc, Addr.add_lit, hst]
    · have holds : ∀ j u, xs[j]? = some u → w.cell? ((⟨g, 0, none⟩ : Addr).add j) = some u := hown.cells (g := g) rfl
      have h63' : ¬ (9223372036854775807 < ((n : Int) + (m : Int))) := by omega
      have h48' : ¬ (281474976710656 < Builtin.nextslicecap (n + m) cap * i.bytes) := by have := growslice_fits (old := cap) (need := n + m) (bytes := i.bytes) (by omega) hbytes; omega
      have hfo := run_firstCells_some (P := P) w.drew i.size n ⟨g, 0, none⟩ n cap xs hown.1 (by simpa using holds)
      have hc := hs.c2
      refine ⟨_, _, ?_, .grown (grownCap w (n + m) cap e) (by omega) (grownCap_ge w _ _ e) (grownCap_le_maxLen w _ _ e h63)⟩
      rcases hs.dt with hd | ⟨e', hd⟩ <;> (simp [Builtin.append_, run_underlying ht, run_underlying hd, sizeOf, typeInfo, zeroValue, hi, hz, hs.len, hroom, h63', h48', Question.forced, hc, hfo, newRow, grownCap]; congr 2; apply Array.ext'; simp [List.append_assoc])

theorem Apd.owns {w w' : World} {e : TypeId} {sz : Nat} {z v v' : Value} {n m : Nat} {xs news : List Value} (hzs : z.cells.size = sz) (hown : w.ownsRow 0 e sz v n xs) (hl : news.length = m * sz)
    (h : Apd w e sz z v n xs m news v' w') : w'.ownsRow 0 e sz v' (n + m) (xs ++ news) := by
  have hlen : (xs ++ news).length = (n + m) * sz := by rw [List.length_append, hown.1, hl, Nat.add_mul]
  cases h with
  | inPlace g cap cur hv hg h1 h2 h3 =>
    refine ⟨hlen, .inr ⟨g, cap, _, rfl, Nat.zero_le _, setRow_heap w g cur _ e _ hg, h1, h2, ?_, ?_⟩⟩
    · have : n * sz + news.length ≤ cur.size := by rw [hl, h3, ← Nat.add_mul]; exact Nat.mul_le_mul_right _ h1
      simp only [List.size_toArray, List.length_append, List.length_take, List.length_drop, Array.length_toList]
      omega
    · have htake : cur.toList.take (n * sz) = xs := by
        rcases hown.2 with ⟨e1, _⟩ | ⟨g', cap', cur', e1, _, e2, _, _, _, e3⟩
        · rw [hv] at e1; cases e1
        · rw [hv] at e1; cases e1; rw [hg] at e2; cases e2; exact e3
      rw [htake, ← hlen]
      exact List.take_left
  | grown c h0 h1 h2 =>
    refine ⟨hlen, .inr ⟨w.heap.size, c, _, rfl, Nat.zero_le _, heap_alloc_new w.drew _, h1, h2, ?_, ?_⟩⟩
    · simp only [Array.size_append, List.size_toArray, size_zeroCells, hzs, hown.1, hl, ← Nat.add_mul]
      congr 1
      omega
    · simp only [Array.toList_append, List.append_assoc]
      rw [← List.append_assoc, ← hlen]
      exact List.take_left
  | nil hv hn hm =>
    subst hm
    have : news = [] := List.eq_nil_of_length_eq_zero (by simpa using hl)
    subst this
    simpa using hown

def Ghost.app (G : Ghost) (j k : Nat) (v' : Value) (ys : List Value) : Ghost :=
  { G with imm := fun b => if v'.ownBlock = some b then ys else G.imm b, fl := fun i q => if i = j ∧ q = k then some v' else G.fl i q }

theorem imm_late {gl : List (Nat × List D)} {G : Ghost} {H : List AObj} {w : World} (hW : WRel gl G H w) {b : Nat} (hb : w.heap.size ≤ b) : G.imm b = [] := by
  cases hi : G.imm b with
  | nil => rfl
  | cons v r =>
    have := World.block_lt_of_cell? w _ (hW.imm b 0 (by rw [hi]; simp))
    simp at this
    omega

theorem WRel.app {gl : List (Nat × List D)} {G : Ghost} {H : List AObj} {w w' : World} (hW : WRel gl G H w) {e : TypeId} {sz : Nat} {z v v' : Value} {n m : Nat} {xs news : List Value} (hzs : z.cells.size = sz)
    (hown : w.ownsRow 0 e sz v n xs) (himm : ∀ b, v.ownBlock = some b → G.imm b = xs) (j : Nat) (hlast : ∀ k, n < k → G.fl j k = none)
    (hold : (H[j]? = some (.front e sz n) ∧ G.fl j n = some v) ∨ (j = H.length ∧ v = .slice none 0 0)) (hl : news.length = m * sz) (h : Apd w e sz z v n xs m news v' w')
    (H' : List AObj) (hlen : H.length ≤ H'.length) (hH1 : H'[j]? = some (.front e sz (n + m))) (hH2 : ∀ id, id ≠ j → H'[id]? = H[id]?) :
    GLe H.length G (G.app j (n + m) v' (xs ++ news)) ∧ WRel gl (G.app j (n + m) v' (xs ++ news)) H' w' := by
  have hown' := h.owns hzs hown hl
  have hsame : m = 0 → v' = v := fun hm => by
    subst hm
    cases h with
    | inPlace g cap cur hv => rw [hv]; rfl
    | grown c h0 => omega
    | nil => rfl
  have hblk : ∀ b, v'.ownBlock = some b → v.ownBlock = some b ∨ b = w.heap.size := fun b hb => by
    cases h with
    | inPlace g cap cur hv => left; rw [hv]; simpa [Value.ownBlock] using hb
    | grown c => right; simpa [Value.ownBlock, eq_comm] using hb
    | nil => exact .inl hb
  have hIm : ImmLe G.imm (G.app j (n + m) v' (xs ++ news)).imm := fun b => by
    simp only [Ghost.app]
    split
    · rename_i hb
      rcases hblk b hb with hb' | rfl
      · rw [himm b hb']; exact List.prefix_append _ _
      · rw [imm_late hW (Nat.le_refl _)]; exact List.nil_prefix
    · exact List.prefix_refl _
  have hle : GLe H.length G (G.app j (n + m) v' (xs ++ news)) := ⟨rfl, rfl, rfl, hIm, fun _ _ _ h => h, fun id k u hid hu => by
    simp only [Ghost.app]
    split
    · rename_i hq
      obtain ⟨rfl, rfl⟩ := hq
      rcases Nat.eq_zero_or_pos m with hm | hm
      · subst hm
        rcases hold with ⟨_, h2⟩ | ⟨h1, _⟩
        · rw [hsame rfl]
          rw [Nat.add_zero] at hu
          rw [h2] at hu; exact hu
        · omega
      · rw [hlast _ (by omega)] at hu; cases hu
    · exact hu⟩
  have hOBold : ∀ b, v.ownBlock = some b → ∃ oj, H[j]? = some oj ∧ OB G j oj b := fun b hb => by
    rcases hold with ⟨h1, h2⟩ | ⟨_, h2⟩
    · exact ⟨_, h1, v, h2, hb⟩
    · rw [h2] at hb; cases hb
  have hheap : ∀ b, b < w.heap.size → v.ownBlock ≠ some b → w'.heap[b]? = w.heap[b]? := fun b hb hne => by
    cases h with
    | inPlace g cap cur hv => exact setRow_other w g b _ (fun e => hne (by rw [hv, e]; rfl))
    | grown c => exact heap_alloc_old w.drew _ hb
    | nil => rfl
  have hcells : ∀ b, v'.ownBlock = some b → ∀ i, i < (xs ++ news).length → w'.cell? ⟨b, i, none⟩ = some (gv (xs ++ news) i) := fun b hb i hi => by
    have := hown'.cells hb i (gv (xs ++ news) i) (gv_of_get hi)
    rwa [addr_add, Nat.zero_add] at this
  refine ⟨hle, hW.step hle ?_ ?_ ?_ ?_ j (.front e sz (n + m)) H' hlen hH1 hH2 ?_ ?_ ?_ ?_ ?_ ?_⟩
  · cases h <;> rfl
  · cases h <;> rfl
  · cases h <;> rfl
  · cases h <;> simp
  · intro id _ hne k
    simp only [Ghost.app]
    rw [if_neg (fun h => hne h.1)]
  · intro b hb hnb
    have hv : v.ownBlock ≠ some b := fun hv => by
      obtain ⟨oj, o1, o2⟩ := hOBold b hv
      exact hnb oj o1 o2
    refine ⟨hheap b hb hv, ?_⟩
    simp only [Ghost.app]
    rw [if_neg (fun h' => by rcases hblk b h' with h1 | h1; exact hv h1; omega)]
  · intro b hb i hi
    simp only [Ghost.app] at hi ⊢
    by_cases hv' : v'.ownBlock = some b
    · rw [if_pos hv'] at hi ⊢
      exact hcells b hv' i hi
    · rw [if_neg hv'] at hi ⊢
      rcases hb with hb | ⟨oj, o1, o2⟩
      · rw [imm_late hW hb] at hi; simp at hi
      · have hc := hW.imm b i hi
        have hlt := World.block_lt_of_cell? w _ hc
        by_cases hv : v.ownBlock = some b
        · cases h with
          | inPlace g cap cur hv2 => rw [hv2] at hv; exact absurd hv hv'
          | grown c => rw [World.cell?_of_block (heap_alloc_old w.drew _ hlt)]; exact hc
          | nil => exact hc
        · rw [World.cell?_of_block (hheap b hlt hv)]; exact hc
  · exact ⟨v', xs ++ news, by simp [Ghost.app], hown', fun b hb => by simp [Ghost.app, hb], fun k hk => by
      simp only [Ghost.app]
      rw [if_neg (by omega)]
      exact hlast k (by omega)⟩
  · rintro b ⟨u, u1, u2⟩
    simp only [Ghost.app, and_self, if_true, Option.some.injEq] at u1
    subst u1
    rcases hblk b u2 with h1 | h1
    · exact .inr (hOBold b h1)
    · exact .inl (by omega)
  · intro id hid
    have hj : j < H'.length := getElem?_lt hH1
    obtain ⟨l1, l2⟩ := hW.lim id (by omega)
    refine ⟨l1, fun q => ?_⟩
    simp only [Ghost.app]
    rw [if_neg (by omega)]
    exact l2 q
end Go.Proofs.YtammpekpmjboiaaDoor.Av
