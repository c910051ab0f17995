/- Maps of rows and of symbols, as the tables hold them. -/
import Derived.Test.YtammpekpmjboiaaDoorPx2
set_option linter.unusedSimpArgs false
set_option linter.unusedVariables false
set_option maxRecDepth 100000
namespace Go.Proofs.YtammpekpmjboiaaDoor.Av.Px
open Go Bt
def smap (l : List (List UInt8 × Int)) : List (D × D) := l.map fun p => (.str p.1, .int .i64 p.2)
def imap (l : List (Int × Int)) : List (D × D) := l.map fun p => (.int .i64 p.1, .int .i64 p.2)
def gfind {α : Type} [DecidableEq α] (w : α) : List (α × Int) → Nat → Option (Nat × Int)
  | [], _ => none
  | (k, v) :: r, i => if w = k then some (i, v) else gfind w r (i + 1)
theorem mfind_smap (w : List UInt8) : ∀ (l : List (List UInt8 × Int)) (i : Nat), mfind (.str w) (smap l) i = some ((gfind w l i).map fun p => (p.1, .int .i64 p.2))
  | [], i => rfl
  | (k, v) :: r, i => by
    simp only [smap, List.map_cons, mfind, kCmp, gfind]
    by_cases h : w = k
    · rw [if_pos h, decide_eq_true h]; rfl
    · rw [if_neg h, decide_eq_false h]
      exact mfind_smap w r (i + 1)
theorem mfind_imap (w : Int) : ∀ (l : List (Int × Int)) (i : Nat), mfind (.int .i64 w) (imap l) i = some ((gfind w l i).map fun p => (p.1, .int .i64 p.2))
  | [], i => rfl
  | (k, v) :: r, i => by
    simp only [imap, List.map_cons, mfind, kCmp, gfind, decide_true, cond_true]
    by_cases h : w = k
    · rw [if_pos h, decide_eq_true h]; rfl
    · rw [if_neg h, decide_eq_false h]
      exact mfind_imap w r (i + 1)
def gval {α : Type} [DecidableEq α] (w : α) (l : List (α × Int)) : Int := match gfind w l 0 with | some (_, v) => v | none => 0
/-- a value is laid at a key -/
def gput {α : Type} [DecidableEq α] (l : List (α × Int)) (w : α) (v : Int) : List (α × Int) := match gfind w l 0 with
  | some (i, _) => l.modify i fun p => (p.1, v)
  | none => l ++ [(w, v)]
theorem smap_put (l : List (List UInt8 × Int)) (w : List UInt8) (v : Int) : mput (smap l) (.str w) (.int .i64 v) ((gfind w l 0).map fun p => (p.1, .int .i64 p.2)) = smap (gput l w v) := by
  unfold gput
  cases hf : gfind w l 0 with
  | none => simp [mput, smap]
  | some jv =>
    obtain ⟨j, u⟩ := jv
    simp only [Option.map_some, mput, msetV, smap]
    apply List.ext_getElem?
    intro i
    simp only [List.getElem?_modify, List.getElem?_map]
    cases hi : l[i]? with
    | none => simp
    | some p =>
      by_cases e : j = i <;> simp [e]
theorem gfind_shift {α : Type} [DecidableEq α] (w : α) : ∀ (l : List (α × Int)) (i : Nat), gfind w l i = (gfind w l 0).map fun p => (p.1 + i, p.2)
  | [], i => rfl
  | (k, v) :: r, i => by
    simp only [gfind]
    by_cases h : w = k
    · simp [h]
    · rw [if_neg h, if_neg h, gfind_shift w r (i + 1), gfind_shift w r (0 + 1)]
      cases gfind w r 0 with
      | none => rfl
      | some p => simp; omega
theorem gval_nil {α : Type} [DecidableEq α] (w : α) : gval w ([] : List (α × Int)) = 0 := rfl
theorem gval_cons {α : Type} [DecidableEq α] (w k : α) (v : Int) (r : List (α × Int)) : gval w ((k, v) :: r) = if w = k then v else gval w r := by
  unfold gval
  simp only [gfind]
  by_cases h : w = k
  · simp [h]
  · rw [if_neg h, if_neg h, gfind_shift w r (0 + 1)]
    cases gfind w r 0 <;> simp
theorem gput_nil {α : Type} [DecidableEq α] (w : α) (v : Int) : gput ([] : List (α × Int)) w v = [(w, v)] := rfl
theorem gput_cons {α : Type} [DecidableEq α] (w k : α) (v u : Int) (r : List (α × Int)) : gput ((k, u) :: r) w v = if w = k then (k, v) :: r else (k, u) :: gput r w v := by
  unfold gput
  simp only [gfind]
  by_cases h : w = k
  · simp [h]
  · rw [if_neg h, if_neg h, gfind_shift w r (0 + 1)]
    cases gfind w r 0 with
    | none => simp
    | some p => simp [List.modify_succ_cons]
theorem gval_put {α : Type} [DecidableEq α] (x w : α) (v : Int) : ∀ l : List (α × Int), gval x (gput l w v) = if x = w then v else gval x l
  | [] => by rw [gput_nil, gval_cons]
  | (k, u) :: r => by
    rw [gput_cons]
    by_cases h : w = k
    · subst h
      rw [if_pos rfl, gval_cons, gval_cons]
      by_cases h2 : x = w <;> simp [h2]
    · rw [if_neg h, gval_cons, gval_cons, gval_put x w v r]
      by_cases h2 : x = k
      · subst h2
        rw [if_pos rfl, if_pos rfl, if_neg (fun e => h e.symm)]
      · rw [if_neg h2, if_neg h2]
/-- each beginning of a row counts one more -/
def bumps (row : List UInt8) : Nat → List (List UInt8 × Int) → List (List UInt8 × Int)
  | 0, l => l
  | k + 1, l => gput (bumps row k l) (row.take (k + 1)) (gval (row.take (k + 1)) (bumps row k l) + 1)
theorem bumps_bd (row : List UInt8) (l : List (List UInt8 × Int)) (N : Int) (h : ∀ w, 0 ≤ gval w l ∧ gval w l ≤ N) : ∀ (k : Nat) (w : List UInt8), 0 ≤ gval w (bumps row k l) ∧ gval w (bumps row k l) ≤ N + k
  | 0, w => by have := h w; simp [bumps]; omega
  | k + 1, w => by
    have h1 := bumps_bd row l N h k w
    have h2 := bumps_bd row l N h k (row.take (k + 1))
    rw [bumps, gval_put]
    split <;> omega
/-- a code, as the slice of codes has it -/
def codeD (p : List UInt8 × Int) : D := .agg [.str p.1, .int .i64 p.2]
def codesD (l : List (List UInt8 × Int)) : List D := l.map codeD
theorem codesD_len (l : List (List UInt8 × Int)) : (codesD l).length = l.length := by simp [codesD]
theorem codesD_snoc (l : List (List UInt8 × Int)) (p : List UInt8 × Int) : codesD (l ++ [p]) = codesD l ++ [codeD p] := by simp [codesD]
/-- what a table knows -/
structure Tb where
  codes : List (List UInt8 × Int)
  sym : List (List UInt8 × Int)
  rws : List (Int × Int)
  beg : List (List UInt8 × Int)
  lng : Int
def addB (t : Tb) (row : List UInt8) (sy : Int) : Bool :=
  (gfind sy t.rws 0).isNone && rightB row && decide (gval row t.beg ≤ 0) && (List.range row.length).all fun n => (gfind (row.take (n + 1)) t.sym 0).isNone
def addT (t : Tb) (row : List UInt8) (sy : Int) : Tb :=
  ⟨t.codes ++ [(row, sy)], t.sym ++ [(row, (t.codes.length : Int))], t.rws ++ [(sy, (t.codes.length : Int))], bumps row row.length t.beg, max t.lng row.length⟩
/-- the objects of a table: without a code yet, and with some -/
def tob0 (t : Tb) : List AObj := [.cells [.d .nils, .mp 1, .mp 2, .mp 3, I t.lng], .map (smap t.sym), .map (imap t.rws), .map (smap t.beg)]
def tob1 (t : Tb) : List AObj := [.cells [.own 2 (codesD t.codes) 4, .mp 1, .mp 2, .mp 3, I t.lng], .map (smap t.sym), .map (imap t.rws), .map (smap t.beg), .front 77 2 (codesD t.codes).length]
end Go.Proofs.YtammpekpmjboiaaDoor.Av.Px
