/- The plain law of tables: what Take tells is what the document tells. -/
import Derived.Test.YtammpekpmjboiaaDoorPx7
import Derived.Test.YtammpekpmjboiaaDoorBt5
set_option linter.unusedSimpArgs false
set_option linter.unusedVariables false
set_option maxRecDepth 100000
namespace Go.Proofs.YtammpekpmjboiaaDoor.Av.Px
open Go Bt
theorem bumps_val (row w : List UInt8) (hw : w ≠ []) (l : List (List UInt8 × Int)) : ∀ k, k ≤ row.length → gval w (bumps row k l) = gval w l + (if w.length ≤ k ∧ w.isPrefixOf row = true then 1 else 0)
  | 0, _ => by
    have : ¬ w.length ≤ 0 := fun h => hw (List.eq_nil_of_length_eq_zero (by omega))
    rw [if_neg (fun h => this h.1)]; simp [bumps]
  | k + 1, hk => by
    have hk' : k ≤ row.length := by omega
    rw [bumps, gval_put]
    have hne : row.take (k + 1) ≠ [] := fun h => by
      have := congrArg List.length h
      rw [List.length_take, List.length_nil] at this; omega
    have hlen : (row.take (k + 1)).length = k + 1 := by rw [List.length_take]; omega
    by_cases e : w = row.take (k + 1)
    · rw [if_pos e]
      have h1 := bumps_val row (row.take (k + 1)) hne l k hk'
      rw [if_neg (by rw [hlen]; omega)] at h1
      rw [h1, e, hlen, if_pos ⟨Nat.le_refl _, List.isPrefixOf_iff_prefix.2 (List.take_prefix _ _)⟩]; omega
    · rw [if_neg e, bumps_val row w hw l k hk']
      congr 1
      by_cases hp : w.isPrefixOf row = true
      · have hpe := List.prefix_iff_eq_take.1 (List.isPrefixOf_iff_prefix.1 hp)
        have hne' : w.length ≠ k + 1 := fun h => e (by rw [← h]; exact hpe)
        by_cases hl : w.length ≤ k
        · rw [if_pos ⟨hl, hp⟩, if_pos ⟨by omega, hp⟩]
        · rw [if_neg (fun h => hl h.1), if_neg (fun h => by have := h.1; omega)]
      · rw [if_neg (fun h => hp h.2), if_neg (fun h => hp h.2)]
/-- codes by their numbers -/
def numd {α : Type} (l : List α) : List (α × Int) := List.zipWith (fun (i : Nat) (x : α) => (x, (i : Int))) (List.range l.length) l
theorem numd_snoc {α : Type} (l : List α) (x : α) : numd (l ++ [x]) = numd l ++ [(x, (l.length : Int))] := by
  unfold numd
  rw [List.length_append, List.length_singleton, List.range_succ, List.zipWith_append (by simp)]
  rfl
theorem gfind_append {α : Type} [DecidableEq α] (w : α) : ∀ (l r : List (α × Int)) (i : Nat), gfind w (l ++ r) i = match gfind w l i with | some x => some x | none => gfind w r (i + l.length)
  | [], r, i => by simp [gfind]
  | (k, v) :: l, r, i => by
    simp only [List.cons_append, gfind]
    by_cases h : w = k
    · simp [h]
    · rw [if_neg h, if_neg h, gfind_append w l r (i + 1), List.length_cons]
      rw [show i + 1 + l.length = i + (l.length + 1) by omega]
theorem fidx_append (w : List UInt8) : ∀ (l r : List (List UInt8)) (i : Nat), fidx w (l ++ r) i = match fidx w l i with | some x => some x | none => fidx w r (i + l.length)
  | [], r, i => by simp [fidx]
  | x :: l, r, i => by
    simp only [List.cons_append, fidx]
    by_cases h : x = w
    · simp [h]
    · rw [if_neg h, if_neg h, fidx_append w l r (i + 1), List.length_cons]
      rw [show i + 1 + l.length = i + (l.length + 1) by omega]
theorem gfind_numd (w : List UInt8) (l : List (List UInt8)) : gfind w (numd l) 0 = (fidx w l 0).map fun (i : Nat) => (i, (i : Int)) := by
  refine snoc_ind (P := fun l => gfind w (numd l) 0 = (fidx w l 0).map fun (i : Nat) => (i, (i : Int))) rfl (fun l x ih => ?_) l
  rw [numd_snoc, gfind_append, fidx_append, ih]
  have hl : (numd l).length = l.length := by simp [numd]
  cases fidx w l 0 with
  | some i => rfl
  | none =>
    simp only [Option.map_none, gfind, fidx, Nat.zero_add, hl]
    by_cases h : w = x
    · rw [if_pos h, if_pos h.symm]; rfl
    · rw [if_neg h, if_neg (fun e => h e.symm)]; rfl
/-- what a table has taken in -/
structure TbIs (t : Tb) (cs : List (List UInt8 × Int)) : Prop where
  codes : t.codes = cs
  sym : t.sym = numd (cs.map (·.1))
  rws : t.rws = numd (cs.map (·.2))
  beg : ∀ w, w ≠ [] → gval w t.beg = ((cs.filter fun p => w.isPrefixOf p.1).length : Int)
theorem tb0_is : TbIs tb0 [] := ⟨rfl, rfl, rfl, fun w _ => rfl⟩
theorem TbIs.add {t : Tb} {cs : List (List UInt8 × Int)} (h : TbIs t cs) (row : List UInt8) (sy : Int) : TbIs (addT t row sy) (cs ++ [(row, sy)]) := by
  have hl : t.codes.length = cs.length := by rw [h.codes]
  refine ⟨by simp [addT, h.codes], ?_, ?_, fun w hw => ?_⟩
  · simp only [addT, List.map_append, List.map_singleton]
    rw [numd_snoc, h.sym, hl, List.length_map]
  · simp only [addT, List.map_append, List.map_singleton]
    rw [numd_snoc, h.rws, hl, List.length_map]
  · simp only [addT]
    rw [bumps_val row w hw t.beg row.length (Nat.le_refl _), h.beg w hw, List.filter_append, List.length_append]
    by_cases hp : w.isPrefixOf row = true
    · rw [if_pos ⟨(List.isPrefixOf_iff_prefix.1 hp).length_le, hp⟩]; simp [hp]
    · rw [if_neg (fun h => hp h.2)]; simp [hp]
theorem mk_is : ∀ (rest : List (List UInt8 × Int)) (t T : Tb) (cs : List (List UInt8 × Int)), TbIs t cs → mk rest t = some T → TbIs T (cs ++ rest)
  | [], t, T, cs, h, hm => by rw [mk_nil] at hm; cases hm; simpa using h
  | p :: r, t, T, cs, h, hm => by
    rw [mk_cons] at hm
    split at hm
    · have := mk_is r _ T _ (h.add p.1 p.2) hm
      simpa using this
    · cases hm
theorem mk_all {cs : List (List UInt8 × Int)} {T : Tb} (h : mk cs tb0 = some T) : TbIs T cs := by simpa using mk_is cs tb0 T [] tb0_is h
theorem fidx_lt (w : List UInt8) : ∀ (l : List (List UInt8)) (i j : Nat), fidx w l i = some j → i ≤ j ∧ j < i + l.length
  | [], i, j, h => by simp [fidx] at h
  | r :: l, i, j, h => by
    simp only [fidx] at h
    split at h
    · simp only [Option.some.injEq] at h; subst h; simp
    · have := fidx_lt w l _ _ h; simp only [List.length_cons]; omega
theorem TbIs.symOk {t : Tb} {cs : List (List UInt8 × Int)} (h : TbIs t cs) : ∀ w j i, gfind w t.sym 0 = some (j, i) → 0 ≤ i ∧ i < (t.codes.length : Int) := by
  intro w j i hf
  rw [h.sym, gfind_numd] at hf
  cases hx : fidx w (cs.map (·.1)) 0 with
  | none => simp [hx] at hf
  | some k =>
    simp [hx] at hf
    obtain ⟨rfl, rfl⟩ := hf
    have := fidx_lt _ _ _ _ hx
    rw [h.codes]
    simp at this; omega
/-- Take tells the symbol of the row that the document tells -/
theorem ttake_rrun {t : Tb} {cs : List (List UInt8 × Int)} (h : TbIs t cs) : ∀ (D w : List UInt8), ttake t D w = (if (rrun (cs.map (·.1)) D w).2.1 = 0 then symAt t (rrun (cs.map (·.1)) D w).1 else 0, (rrun (cs.map (·.1)) D w).2)
  | [], w => rfl
  | x :: D, w => by
    rw [ttake, rrun, rstep, h.sym, gfind_numd]
    have hne : w ++ [x] ≠ [] := by simp
    have hb := h.beg (w ++ [x]) hne
    cases hf : fidx (w ++ [x]) (cs.map (·.1)) 0 with
    | some i => rfl
    | none =>
      simp only [Option.map_none]
      have hany : (cs.map (·.1)).any (fun r => (w ++ [x]).isPrefixOf r) = true ↔ ¬ gval (w ++ [x]) t.beg = 0 := by
        rw [hb, List.any_map, List.any_eq_true]
        constructor
        · rintro ⟨p, hp, hpp⟩ h0
          have : (cs.filter fun p => (w ++ [x]).isPrefixOf p.1) = [] := List.eq_nil_of_length_eq_zero (by omega)
          have hm : p ∈ cs.filter fun p => (w ++ [x]).isPrefixOf p.1 := List.mem_filter.2 ⟨hp, hpp⟩
          rw [this] at hm; cases hm
        · intro h0
          cases hl : cs.filter fun p => (w ++ [x]).isPrefixOf p.1 with
          | nil => rw [hl] at h0; exact (h0 rfl).elim
          | cons p r =>
            have hm : p ∈ cs.filter fun p => (w ++ [x]).isPrefixOf p.1 := by rw [hl]; simp
            obtain ⟨h1, h2⟩ := List.mem_filter.1 hm
            exact ⟨p, h1, h2⟩
      by_cases h0 : gval (w ++ [x]) t.beg = 0
      · rw [if_pos h0, if_neg (fun e => hany.1 e h0)]; rfl
      · rw [if_neg h0, if_pos (hany.2 h0)]
        exact ttake_rrun h D (w ++ [x])
end Go.Proofs.YtammpekpmjboiaaDoor.Av.Px
