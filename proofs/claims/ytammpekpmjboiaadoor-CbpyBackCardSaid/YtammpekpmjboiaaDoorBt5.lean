/- The plain law of tables of rows: reading digit by digit. -/
import Derived.Test.YtammpekpmjboiaaDoorBt3
set_option linter.unusedSimpArgs false
set_option linter.unusedVariables false
namespace Go.Proofs.YtammpekpmjboiaaDoor.Av.Bt
open Go
/-- what one more digit tells -/
inductive RR where
  | done (i : Nat) (c : Nat) | fail | next (w : List UInt8)
def rstep (rows : List (List UInt8)) (w : List UInt8) (x : UInt8) : RR :=
  match fidx (w ++ [x]) rows 0 with
  | some i => .done i (w.length + 1)
  | none => if rows.any (fun r => (w ++ [x]).isPrefixOf r) then .next (w ++ [x]) else .fail
/-- which row stands there, what is wrong, how many digits it has -/
def rrun (rows : List (List UInt8)) : List UInt8 → List UInt8 → Int × Int × Nat
  | [], _ => (0, 2, 0)
  | x :: r, w => match rstep rows w x with
    | .done i c => ((i : Int), 0, c)
    | .fail => (0, 3, 0)
    | .next w' => rrun rows r w'
def rconv (p : Nat) (x : Int × Int × Nat) : Int × Int × Int := if x.2.1 = 0 then (x.1, ((p + x.2.2 : Nat) : Int), 0) else (0, (p : Int), x.2.1)
theorem any_pre {rows : List (List UInt8)} {w : List UInt8} (h : rows.any (fun r => w.isPrefixOf r) = true) : ∃ r ∈ rows, w.length ≤ r.length := by
  obtain ⟨r, hr, hp⟩ := List.any_eq_true.1 h
  exact ⟨r, hr, (List.isPrefixOf_iff_prefix.1 hp).length_le⟩
theorem t5_rrun (rows : List (List UInt8)) (L : List UInt8) (p : Nat) (hr : ∀ r ∈ rows, r.length ≤ 24) (hp : p ≤ L.length) : ∀ (D w : List UInt8) (k : Nat), L.drop p = w ++ D → w.length + 1 + k = 26 → (w = [] ∨ rows.any (fun r => w.isPrefixOf r) = true) →
    t5 rows L p k (w.length + 1) = rconv p (rrun rows D w)
  | D, w, 0, hd, hk, hw => by
    rcases hw with rfl | hw
    · simp at hk
    · obtain ⟨r, h1, h2⟩ := any_pre hw
      have := hr r h1
      omega
  | [], w, k + 1, hd, hk, hw => by
    rw [List.append_nil] at hd
    have hl : L.length = p + w.length := by rw [← hd, List.length_drop]; omega
    rw [t5, if_pos (by omega)]
    rfl
  | x :: D, w, k + 1, hd, hk, hw => by
    have hl : L.length = p + (w.length + 1 + D.length) := by
      have := congrArg List.length hd
      simp at this; omega
    have e : (L.drop p).take (w.length + 1) = w ++ [x] := by
      rw [hd, List.take_append, List.take_of_length_le (by omega)]
      simp
    rw [t5, if_neg (by omega), e, rrun, rstep]
    cases hf : fidx (w ++ [x]) rows 0 with
    | some i => simp [rconv]
    | none =>
      simp only
      by_cases ha : rows.any (fun r => (w ++ [x]).isPrefixOf r) = true
      · rw [if_pos ha, if_pos ha]
        have := t5_rrun rows L p hr hp D (w ++ [x]) k (by rw [hd]; simp) (by simp; omega) (.inr ha)
        rw [List.length_append] at this
        exact this
      · rw [if_neg ha, if_neg ha]
        rfl
theorem t5_all (rows : List (List UInt8)) (L : List UInt8) (p : Nat) (hr : ∀ r ∈ rows, r.length ≤ 24) (hp : p ≤ L.length) : t5 rows L p 25 1 = rconv p (rrun rows (L.drop p) []) :=
  t5_rrun rows L p hr hp (L.drop p) [] 25 rfl rfl (.inl rfl)
end Go.Proofs.YtammpekpmjboiaaDoor.Av.Bt
