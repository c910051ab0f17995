/- The plain law of tables: no row begins another one; rows one behind the other are taken again. -/
import Derived.Test.YtnmkmhbfgebalaaDoorPx11
import Derived.Test.YtnmkmhbfgebalaaDoorBt8
set_option linter.unusedSimpArgs false
set_option linter.unusedVariables false
set_option maxRecDepth 100000
namespace Go.Proofs.YtnmkmhbfgebalaaDoor.Av.Px
open Go Bt
def PFx (a b : List UInt8) : Prop := a.isPrefixOf b = false ∧ b.isPrefixOf a = false
theorem fidx_none (w : List UInt8) : ∀ (l : List (List UInt8)) (i : Nat), fidx w l i = none → ∀ r ∈ l, r ≠ w
  | [], i, h, r, hr => by simp at hr
  | x :: l, i, h, r, hr => by
    simp only [fidx] at h
    split at h
    · cases h
    · rename_i hx
      rcases List.mem_cons.1 hr with rfl | hr
      · exact hx
      · exact fidx_none w l _ h r hr
theorem fidx_none_of (w : List UInt8) : ∀ (l : List (List UInt8)) (i : Nat), (∀ r ∈ l, r ≠ w) → fidx w l i = none
  | [], i, h => rfl
  | x :: l, i, h => by
    simp only [fidx]
    rw [if_neg (h x (by simp))]
    exact fidx_none_of w l _ (fun r hr => h r (by simp [hr]))
theorem fidx_at (w : List UInt8) : ∀ (l : List (List UInt8)) (i : Nat), w ∈ l → ∃ j, fidx w l i = some (i + j) ∧ l[j]? = some w
  | [], i, h => by simp at h
  | x :: l, i, h => by
    simp only [fidx]
    by_cases hx : x = w
    · rw [if_pos hx]; exact ⟨0, rfl, by simp [hx]⟩
    · rw [if_neg hx]
      rcases List.mem_cons.1 h with h | h
      · exact absurd h.symm hx
      · obtain ⟨j, h1, h2⟩ := fidx_at w l (i + 1) h
        exact ⟨j + 1, by rw [h1]; congr 1; omega, by simpa using h2⟩
theorem add_pf {t : Tb} {cs : List (List UInt8 × Int)} {row : List UInt8} {sy : Int} (his : TbIs t cs) (hne : ∀ p ∈ cs, p.1 ≠ []) (hb : addB t row sy = true) : ∀ p ∈ cs, PFx p.1 row := by
  intro p hp
  obtain ⟨_, h2, h3, h4⟩ := (addB_iff t row sy).1 hb
  have hr : row ≠ [] := fun h => by subst h; simp [rightB] at h2
  constructor
  · cases hx : p.1.isPrefixOf row with
    | false => rfl
    | true =>
      exfalso
      have hpr := List.isPrefixOf_iff_prefix.1 hx
      have hl := hpr.length_le
      have hpos : 0 < p.1.length := List.length_pos_iff.2 (hne p hp)
      have := h4 (p.1.length - 1) (by omega)
      rw [show p.1.length - 1 + 1 = p.1.length by omega, ← List.prefix_iff_eq_take.1 hpr, his.sym, gfind_numd] at this
      have h5 := fidx_none p.1 (cs.map (·.1)) 0 (by simpa using this) p.1 (List.mem_map.2 ⟨p, hp, rfl⟩)
      exact h5 rfl
  · cases hx : row.isPrefixOf p.1 with
    | false => rfl
    | true =>
      exfalso
      rw [his.beg row hr] at h3
      have : 0 < (cs.filter fun p => row.isPrefixOf p.1).length := List.length_pos_iff.2 (fun h => by
        have hm : p ∈ cs.filter fun p => row.isPrefixOf p.1 := List.mem_filter.2 ⟨hp, hx⟩
        rw [h] at hm; simp at hm)
      omega
theorem mk_pf : ∀ (rest : List (List UInt8 × Int)) (t T : Tb) (cs : List (List UInt8 × Int)), TbIs t cs → (∀ p ∈ cs, p.1 ≠ []) → (cs.map (·.1)).Pairwise PFx → mk rest t = some T → ((cs ++ rest).map (·.1)).Pairwise PFx
  | [], t, T, cs, his, hne, hpw, hm => by simpa using hpw
  | q :: r, t, T, cs, his, hne, hpw, hm => by
    rw [mk_cons] at hm
    split at hm
    · rename_i hb
      have hq : q.1 ≠ [] := fun h => by
        have := ((addB_iff t q.1 q.2).1 hb).2.1
        rw [h] at this; simp [rightB] at this
      have := mk_pf r _ T (cs ++ [(q.1, q.2)]) (his.add q.1 q.2) (fun p hp => by
        rcases List.mem_append.1 hp with hp | hp
        · exact hne p hp
        · simp at hp; rw [hp]; exact hq) (by
        rw [List.map_append, List.pairwise_append]
        refine ⟨hpw, by simp, fun a ha b hb' => ?_⟩
        obtain ⟨p, hp, rfl⟩ := List.mem_map.1 ha
        simp at hb'
        subst hb'
        exact add_pf his hne hb p hp) hm
      simpa using this
    · cases hm
theorem pf_ne {l : List (List UInt8)} (h : l.Pairwise PFx) {i j : Nat} {a b : List UInt8} (hi : l[i]? = some a) (hj : l[j]? = some b) (hab : a.isPrefixOf b = true) : i = j := by
  obtain ⟨h1, e1⟩ := List.getElem?_eq_some_iff.1 hi
  obtain ⟨h2, e2⟩ := List.getElem?_eq_some_iff.1 hj
  have hp := List.pairwise_iff_getElem.1 h
  rcases Nat.lt_trichotomy i j with hl | hl | hl
  · have := (hp i j h1 h2 hl).1
    rw [e1, e2, hab] at this; cases this
  · exact hl
  · have := (hp j i h2 h1 hl).2
    rw [e1, e2, hab] at this; cases this
/-- a row that stands there is taken -/
theorem rrun_row {rows : List (List UInt8)} (h : rows.Pairwise PFx) {j : Nat} {row : List UInt8} (hj : rows[j]? = some row) (rest : List UInt8) : ∀ (D w : List UInt8), row = w ++ D → D ≠ [] → rrun rows (D ++ rest) w = ((j : Int), 0, row.length)
  | [], w, _, hd => absurd rfl hd
  | x :: D, w, hr, _ => by
    rw [List.cons_append, rrun, rstep]
    by_cases hD : D = []
    · subst hD
      obtain ⟨k, h1, h2⟩ := fidx_at (w ++ [x]) rows 0 (by rw [← hr]; exact List.mem_of_getElem? hj)
      rw [← hr] at h2
      have hk : k = j := pf_ne h h2 hj (List.isPrefixOf_iff_prefix.2 (List.prefix_refl _))
      rw [h1, hk]
      simp [hr]
    · have hpre : (w ++ [x]).isPrefixOf row = true := List.isPrefixOf_iff_prefix.2 ⟨D, by rw [hr]; simp⟩
      rw [fidx_none_of (w ++ [x]) rows 0 (fun r hm e => by
        obtain ⟨k, hk⟩ := List.getElem?_of_mem hm
        have := pf_ne h hk hj (by rw [e]; exact hpre)
        subst this
        rw [hk] at hj; cases hj
        have := congrArg List.length (e.symm.trans hr)
        rw [List.length_append, List.length_append, List.length_cons, List.length_cons, List.length_nil] at this
        exact hD (List.eq_nil_of_length_eq_zero (by omega)))]
      simp only
      rw [if_pos (List.any_eq_true.2 ⟨row, List.mem_of_getElem? hj, hpre⟩)]
      exact rrun_row h hj rest D (w ++ [x]) (by rw [hr]; simp) hD
theorem gfind_numdI (w : Int) : ∀ (l : List Int), w ∈ l → ∃ j : Nat, gfind w (numd l) 0 = some (j, (j : Int)) ∧ l[j]? = some w := by
  intro l
  refine snoc_ind (P := fun l => w ∈ l → ∃ j : Nat, gfind w (numd l) 0 = some (j, (j : Int)) ∧ l[j]? = some w) (fun h => by simp at h) (fun l x ih hx => ?_) l
  have hl : (numd l).length = l.length := by simp [numd]
  rw [numd_snoc, gfind_append]
  by_cases hm : w ∈ l
  · obtain ⟨j, h1, h2⟩ := ih hm
    rw [h1]
    exact ⟨j, rfl, by rw [List.getElem?_append_left (getElem?_lt h2)]; exact h2⟩
  · have hwx : w = x := by
      rcases List.mem_append.1 hx with h | h
      · exact absurd h hm
      · simpa using h
    have hn : ∀ (l : List Int) (i : Nat), w ∉ l → ∀ m : List Int, gfind w (List.zipWith (fun (x v : Int) => (x, v)) l m) i = none := by
      intro l
      induction l with
      | nil => intro i _ m; rfl
      | cons a l ih => intro i hw m; cases m with
        | nil => rfl
        | cons b m =>
          simp only [List.zipWith_cons_cons, gfind]
          rw [if_neg (fun e => hw (by simp [e]))]
          exact ih _ (fun h => hw (by simp [h])) m
    have e : numd l = List.zipWith (fun (x v : Int) => (x, v)) l ((List.range l.length).map fun (i : Nat) => (i : Int)) := by
      unfold numd
      rw [List.zipWith_map_right]
      rw [List.zipWith_comm]
    rw [e, hn l 0 hm]
    exact ⟨l.length, by simp only [gfind, if_pos hwx, ← e, hl]; simp, by rw [hwx]; simp⟩
/-- the row that a table tells of a symbol -/
def rowFor (t : Tb) (sy : Int) : List UInt8 := match gfind sy t.rws 0 with
  | some (_, i) => rowAt t i
  | none => []
theorem getD_some {α : Type} {l : List α} {j : Nat} {d x : α} (h : l[j]? = some x) : l.getD j d = x := by simp [List.getD, h]
theorem row_for {T : Tb} {cs : List (List UInt8 × Int)} (his : TbIs T cs) (sy : Int) (hs : sy ∈ cs.map (·.2)) : ∃ j : Nat, gfind sy T.rws 0 = some (j, (j : Int)) ∧ cs[j]? = some (rowFor T sy, sy) ∧ rowFor T sy = rowAt T j := by
  obtain ⟨j, h1, h2⟩ := gfind_numdI sy _ hs
  rw [← his.rws] at h1
  refine ⟨j, h1, ?_, ?_⟩
  · unfold rowFor rowAt
    rw [h1]
    simp only [Int.toNat_natCast, his.codes]
    rw [List.getElem?_map] at h2
    cases hc : cs[j]? with
    | none => rw [hc] at h2; simp at h2
    | some p =>
      rw [hc] at h2; simp at h2
      simp [List.getD, hc, ← h2]
  · unfold rowFor; rw [h1]
theorem ttake_row {T : Tb} {cs : List (List UInt8 × Int)} (hT : mk cs tb0 = some T) (sy : Int) (hs : sy ∈ cs.map (·.2)) (rest : List UInt8) : ttake T (rowFor T sy ++ rest) [] = (sy, 0, (rowFor T sy).length) := by
  have his := mk_all hT
  have hpf := mk_pf cs tb0 T [] tb0_is (by simp) (by simp) hT
  rw [List.nil_append] at hpf
  obtain ⟨j, h1, h2, h3⟩ := row_for his sy hs
  have hj : (cs.map (·.1))[j]? = some (rowFor T sy) := by rw [List.getElem?_map, h2]; rfl
  have hne : rowFor T sy ≠ [] := fun h => by
    have := mk_right cs _ T hT _ (List.mem_of_getElem? h2)
    rw [h] at this; simp [rightB] at this
  have := rrun_row hpf hj rest (rowFor T sy) [] rfl hne
  rw [ttake_rrun his, this]
  simp only [↓reduceIte]
  unfold symAt
  rw [his.codes, Int.toNat_natCast, getD_some h2]
end Go.Proofs.YtnmkmhbfgebalaaDoor.Av.Px
