/- The plain law of PrefixMakes: which codes may be a table's. -/
import Derived.Test.YtnmkmhbfgebalaaDoorPx14
set_option linter.unusedSimpArgs false
set_option linter.unusedVariables false
set_option maxRecDepth 100000
namespace Go.Proofs.YtnmkmhbfgebalaaDoor.Av.Px
open Go Bt
theorem gfind_numd_none (w : Int) (l : List Int) (h : w ∉ l) : gfind w (numd l) 0 = none := by
  refine (snoc_ind (P := fun l => w ∉ l → gfind w (numd l) 0 = none) (fun _ => rfl) (fun l x ih hx => ?_) l) h
  rw [numd_snoc, gfind_append, ih (fun h => hx (by simp [h]))]
  simp only [gfind]
  rw [if_neg (fun e => hx (by simp [e]))]
theorem mk_some : ∀ (rest : List (List UInt8 × Int)) (t : Tb) (cs : List (List UInt8 × Int)), TbIs t cs → ((cs ++ rest).map (·.1)).Pairwise PFx → ((cs ++ rest).map (·.2)).Nodup → (∀ p ∈ rest, rightB p.1 = true) → ∃ T, mk rest t = some T
  | [], t, cs, _, _, _, _ => ⟨t, mk_nil t⟩
  | q :: r, t, cs, his, hpf, hnd, hr => by
    have hb : addB t q.1 q.2 = true := by
      rw [addB_iff]
      rw [List.map_append, List.pairwise_append] at hpf
      have hx : ∀ p ∈ cs, PFx p.1 q.1 := fun p hp => hpf.2.2 p.1 (List.mem_map.2 ⟨p, hp, rfl⟩) q.1 (by simp)
      rw [List.map_append] at hnd
      have hy : q.2 ∉ cs.map (·.2) := fun hm => (List.nodup_append.1 hnd).2.2 q.2 hm q.2 (by simp) rfl
      have hq := hr q (by simp)
      have hne : q.1 ≠ [] := (right_parts hq).1
      refine ⟨by rw [his.rws]; exact gfind_numd_none _ _ hy, hq, ?_, fun n hn => ?_⟩
      · rw [his.beg _ hne]
        have : (cs.filter fun p => q.1.isPrefixOf p.1) = [] := by
          rw [List.filter_eq_nil_iff]
          intro p hp
          rw [(hx p hp).2]; simp
        rw [this]; simp
      · rw [his.sym, gfind_numd, fidx_none_of _ _ _ (fun x hx' e => ?_)]
        · rfl
        · obtain ⟨p, hp, rfl⟩ := List.mem_map.1 hx'
          have h1 := (hx p hp).1
          rw [show p.1.isPrefixOf q.1 = true from List.isPrefixOf_iff_prefix.2 (by rw [e]; exact List.take_prefix _ _)] at h1
          cases h1
    rw [mk_cons, if_pos hb]
    exact mk_some r _ (cs ++ [(q.1, q.2)]) (his.add q.1 q.2) (by simpa using hpf) (by simpa using hnd) (fun p hp => hr p (by simp [hp]))
theorem mk_nd : ∀ (rest : List (List UInt8 × Int)) (t T : Tb) (cs : List (List UInt8 × Int)), TbIs t cs → (cs.map (·.2)).Nodup → mk rest t = some T → ((cs ++ rest).map (·.2)).Nodup
  | [], t, T, cs, his, hnd, hm => by simpa using hnd
  | q :: r, t, T, cs, his, hnd, hm => by
    rw [mk_cons] at hm
    split at hm
    · rename_i hb
      have h1 := ((addB_iff t q.1 q.2).1 hb).1
      have := mk_nd r _ T (cs ++ [(q.1, q.2)]) (his.add q.1 q.2) (by
        rw [List.map_append, List.nodup_append]
        refine ⟨hnd, by simp, fun a ha b hb' e => ?_⟩
        simp at hb'
        subst hb'
        subst e
        obtain ⟨j, h2, _⟩ := gfind_numdI _ _ ha
        rw [his.rws, h2] at h1
        cases h1) hm
      simpa using this
    · cases hm
theorem mk_lng : ∀ (rest : List (List UInt8 × Int)) (t T : Tb), mk rest t = some T → T.lng = rest.foldl (fun a p => max a (p.1.length : Int)) t.lng
  | [], t, T, hm => by rw [mk_nil] at hm; cases hm; rfl
  | q :: r, t, T, hm => by
    rw [mk_cons] at hm
    split at hm
    · rw [mk_lng r _ T hm]; rfl
    · cases hm
/-- WHICH CODES MAY BE A TABLE'S -/
theorem mk_iff (cs : List (List UInt8 × Int)) (h0 : 0 < cs.length) (h1 : cs.length ≤ 256) : (∃ T, mk cs tb0 = some T) ↔ R5 (rowsOf cs) ∧ (cs.map (·.2)).Nodup := by
  constructor
  · rintro ⟨T, hT⟩
    have hpf := mk_pf cs tb0 T [] tb0_is (by simp) (by simp) hT
    have hnd := mk_nd cs tb0 T [] tb0_is (by simp) hT
    rw [List.nil_append] at hpf hnd
    refine ⟨⟨by unfold rowsOf; simpa using h0, by unfold rowsOf; simpa using h1, fun i a ha => ?_⟩, hnd⟩
    have hm := List.mem_of_getElem? ha
    unfold rowsOf at hm
    obtain ⟨p, hp, rfl⟩ := List.mem_map.1 hm
    refine ⟨mk_right cs _ T hT p hp, fun k b hb hne => ?_⟩
    cases hx : b.isPrefixOf p.1 with
    | false => rfl
    | true => exact absurd (pf_ne hpf hb ha hx) hne
  · rintro ⟨⟨_, _, h2⟩, hnd⟩
    refine mk_some cs tb0 [] tb0_is ?_ (by simpa using hnd) (fun p hp => ?_)
    · rw [List.nil_append, List.pairwise_iff_getElem]
      intro i j hi hj hij
      have g : ∀ (k : Nat) (hk : k < (cs.map (·.1)).length), (rowsOf cs)[k]? = some (cs.map (·.1))[k] := fun k hk => by unfold rowsOf; rw [List.getElem?_eq_getElem hk]
      exact ⟨(h2 j _ (g j hj)).2 i _ (g i hi) (by omega), (h2 i _ (g i hi)).2 j _ (g j hj) (by omega)⟩
    · obtain ⟨i, hi⟩ := List.getElem?_of_mem hp
      exact (h2 i p.1 (by unfold rowsOf; rw [List.getElem?_map, hi]; rfl)).1
/-- the law's own way to the same -/
def syO (cs : List (List UInt8 × Int)) (i : Nat) : Int := (cs.getD i ([], 0)).2
def roO (cs : List (List UInt8 × Int)) (i : Nat) : List UInt8 := (cs.getD i ([], 0)).1
def nk (cs : List (List UInt8 × Int)) (i : Nat) : Nat → Bool
  | 0 => true
  | k + 1 => nk cs i k && !decide (syO cs k = syO cs i)
def nn (cs : List (List UInt8 × Int)) : Nat → Bool
  | 0 => true
  | i + 1 => nn cs i && nk cs i i
theorem nk_iff (cs : List (List UInt8 × Int)) (i : Nat) : ∀ k, nk cs i k = true ↔ ∀ j, j < k → syO cs j ≠ syO cs i
  | 0 => by simp [nk]
  | k + 1 => by
    simp only [nk, Bool.and_eq_true, nk_iff cs i k, Bool.not_eq_true', decide_eq_false_iff_not]
    constructor
    · rintro ⟨h1, h2⟩ j hj
      rcases Nat.lt_or_ge j k with h | h
      · exact h1 j h
      · have : j = k := by omega
        subst this; exact h2
    · exact fun h => ⟨fun j hj => h j (by omega), h k (by omega)⟩
theorem nn_iff (cs : List (List UInt8 × Int)) : ∀ n, nn cs n = true ↔ ∀ i j, i < n → j < i → syO cs j ≠ syO cs i
  | 0 => by simp [nn]
  | n + 1 => by
    simp only [nn, Bool.and_eq_true, nn_iff cs n, nk_iff]
    constructor
    · rintro ⟨h1, h2⟩ i j hi hj
      rcases Nat.lt_or_ge i n with h | h
      · exact h1 i j h hj
      · have : i = n := by omega
        subst this; exact h2 j hj
    · exact fun h => ⟨fun i j hi hj => h i j (by omega) hj, fun j hj => h n j (by omega) hj⟩
theorem nn_nodup (cs : List (List UInt8 × Int)) : nn cs cs.length = true ↔ (cs.map (·.2)).Nodup := by
  rw [nn_iff]
  unfold List.Nodup
  rw [List.pairwise_iff_getElem]
  have g : ∀ (k : Nat) (hk : k < (cs.map (·.2)).length), (cs.map (·.2))[k] = syO cs k := fun k hk => by
    have hk' : k < cs.length := by simpa using hk
    unfold syO; simp [List.getD, hk']
  constructor
  · intro h i j hi hj hij
    rw [g, g]
    exact h j i (by simpa using hj) hij
  · intro h i j hi hj
    have := h j i (by simp; omega) (by simpa using hi) hj
    rwa [g, g] at this
def la (cs : List (List UInt8 × Int)) (s : Int) : Nat → List UInt8 × Int
  | 0 => ([], -1)
  | i + 1 => if syO cs i = s then (roO cs i, (i : Int)) else la cs s i
theorem la_none (cs : List (List UInt8 × Int)) (s : Int) : ∀ n, (∀ i, i < n → syO cs i ≠ s) → la cs s n = ([], -1)
  | 0, _ => rfl
  | n + 1, h => by rw [la, if_neg (h n (by omega))]; exact la_none cs s n (fun i hi => h i (by omega))
theorem la_some (cs : List (List UInt8 × Int)) (s : Int) (j : Nat) (hj : syO cs j = s) : ∀ n, j < n → (∀ i, i < n → syO cs i = s → i = j) → la cs s n = (roO cs j, (j : Int))
  | 0, h, _ => absurd h (by omega)
  | n + 1, h, hu => by
    rw [la]
    by_cases hn : syO cs n = s
    · have := hu n (by omega) hn
      subst this
      rw [if_pos hn]
    · rw [if_neg hn]
      have : n ≠ j := fun e => hn (by rw [e]; exact hj)
      exact la_some cs s j hj n (by omega) (fun i hi => hu i (by omega))
end Go.Proofs.YtnmkmhbfgebalaaDoor.Av.Px
