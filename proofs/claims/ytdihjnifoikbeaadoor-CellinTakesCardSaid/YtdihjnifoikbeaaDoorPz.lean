/- What the row leans on. -/
import Derived.Test.YtdihjnifoikbeaaDoorCi10
import Derived.Test.YtdihjnifoikbeaaDoorTie
import Derived.Carry
import Derived.ChangeArms
import Derived.DataShut
import Derived.OpenShut

set_option maxRecDepth 100000
set_option linter.unusedVariables false
set_option linter.unusedSimpArgs false
namespace Go.Proofs.YtdihjnifoikbeaaDoor.Av
open Go Go.RowKit

section
variable {Γ : Ctx} {nt n0 : Nat} {k : List It} {Q : Post} {env : Env} {H : List AObj} {G : Ghost} {w w' : World} {a : Act}

theorem imm_of_cell {W : World} {g j : Nat} {v : Value} (h : W.cell? ⟨g, j, none⟩ = some v) : j < (immOf W g).length ∧ gv (immOf W g) j = v := by
  cases hb : W.heap[g]? with
  | none => simp [World.cell?, hb] at h
  | some x =>
    cases x <;> simp only [immOf, hb, World.cell?] at h ⊢ <;> try (simp at h; done)
    rename_i cs e fr
    have h' : cs[j]? = some v := by simpa using h
    have hj := getElem?_lt (l := cs.toList) (i := j) (x := v) (by simpa using h')
    exact ⟨hj, by simp [gv, List.getD, h']⟩
theorem glob_of_tab {W : World} {g : Nat} {k : IntKind} {zs : List Int} (h : ∀ i, i < zs.length → W.cell? ⟨g, i, none⟩ = some (.int k (zs.getD i 0))) :
    DRel (immOf W) (.pointer (some ⟨g, 0, none⟩)) (.iptr (zs.map fun z => D.int k z)) := by
  refine .iptr g 0 _ ?_ (fun c hc => by obtain ⟨z, _, rfl⟩ := List.mem_map.1 hc; rfl) fun j c hc => ?_
  · simp only [Nat.zero_add, List.length_map]
    rcases Nat.eq_zero_or_pos zs.length with h0 | h0
    · omega
    · have := (imm_of_cell (h (zs.length - 1) (by omega))).1
      omega
  · rw [List.getElem?_map] at hc
    cases hz : zs[j]? with
    | none => simp [hz] at hc
    | some z =>
      simp [hz] at hc
      subst hc
      have hj := getElem?_lt hz
      have := (imm_of_cell (h j hj)).2
      rw [Nat.zero_add, this]
      have e : zs.getD j 0 = z := by simp [List.getD, hz]
      rw [e]
      exact .int k z
def gi3 : List Int := [0,0,0,0,0,0,0,0,0,1,1,1,1,1,0,0,0,0,0,0,0,0,0,0,0,0,0,0,0,0,0,0,1,0,0,0,0,0,0,0,0,0,0,0,0,0,0,0,0,0,0,0,0,0,0,0,0,0,0,0,0,0,0,0,0,0,0,0,0,0,0,0,0,0,0,0,0,0,0,0,0,0,0,0,0,0,0,0,0,0,0,0,0,0,0,0,0,0,0,0,0,0,0,0,0,0,0,0,0,0,0,0,0,0,0,0,0,0,0,0,0,0,0,0,0,0,0,0,0,0,0,0,0,0,0,0,0,0,0,0,0,0,0,0,0,0,0,0,0,0,0,0,0,0,0,0,0,0,0,0,0,0,0,0,0,0,0,0,0,0,0,0,0,0,0,0,0,0,0,0,0,0,0,0,0,0,0,0,0,0,0,0,0,0,0,0,0,0,0,0,0,0,0,0,0,0,0,0,0,0,0,0,0,0,0,0,0,0,0,0,0,0,0,0,0,0,0,0,0,0,0,0,0,0,0,0,0,0,0,0,0,0,0,0,0,0,0,0,0,0,0,0,0,0,0,0]
theorem two {P : Program} {W : World} {r : Reach} {b t u0 u1 : Nat} {cs : Array Value} (hs : cs.size = 2) (hr : Row.okWide P W r b t cs) (hc : P.cellTypes P.depth t = some [u0, u1]) :
    ∃ x y, cs = #[x, y] ∧ Cell.okWide P W r b u0 x ∧ Cell.okWide P W r b u1 y := by
  obtain ⟨ts, ht, _, h⟩ := hr
  obtain rfl := Option.some.inj (ht.symm.trans hc)
  obtain ⟨l⟩ := cs
  match l, hs with
  | [x, y], _ =>
    obtain ⟨u, e0, h0⟩ := h 0 x rfl
    obtain ⟨u', e1, h1⟩ := h 1 y rfl
    cases e0; cases e1
    exact ⟨x, y, rfl, h0, h1⟩
theorem cint {P : Program} {W : World} {r : Reach} {b u : Nat} {x : Value} {k : IntKind} (hu : P.underlying u = some (.int k)) (h : Cell.okWide P W r b u x) : ∃ n, x = .int k n ∧ (Lit.int k n).wf = true := by
  simp only [Cell.okWide, hu] at h
  cases x <;> simp_all [Cell.ok, Lit.wf, IntKind.has]
theorem cbool {P : Program} {W : World} {r : Reach} {b u : Nat} {x : Value} (hu : P.underlying u = some .bool) (h : Cell.okWide P W r b u x) : ∃ n, x = .bool n := by
  simp only [Cell.okWide, hu] at h
  cases x <;> simp_all [Cell.ok]
theorem rel2 {imm : Nat → List Value} {x y : Value} {c d : D} (hc : DRel imm x c) (hd : DRel imm y d) (h1 : c.one = true) (h2 : d.one = true) : DRel imm (.agg #[x, y]) (.agg [c, d]) :=
  .agg _ _ rfl (by simp [h1, h2]) fun i e h => by
    match i, h with
    | 0, h => cases h; exact hc
    | 1, h => cases h; exact hd
theorem ce39' : Tryd.prog.cellsOf 39 = 2 := by kernel_rfl
theorem ct39' : Tryd.prog.cellTypes Tryd.prog.depth 39 = some [3, 4] := by kernel_rfl
theorem arg39 {W : World} {r : Reach} {b : Nat} {v : Value} (h : Value.okWide Tryd.prog W r b 39 v) : ∃ x, DRel (immOf W) v x ∧ TyV tys 9 39 x := by
  simp only [Value.okWide, Tryd.underlying39] at h
  obtain ⟨cs, rfl, hs, hr⟩ := h
  obtain ⟨x, y, rfl, h0, h1⟩ := two (hs.trans ce39') hr ct39'
  obtain ⟨n, rfl, hn⟩ := cint Tryd.underlying3 h0
  obtain ⟨m, rfl⟩ := cbool Tryd.underlying4 h1
  refine ⟨_, rel2 (.int _ n) (.bool m) rfl rfl, ⟨rfl, fun o t' hm => ?_⟩, fun _ => ⟨_, rfl⟩⟩
  rcases List.mem_cons.1 hm with h | h
  · cases h; exact ⟨n, rfl, hn⟩
  · rcases List.mem_cons.1 h with h | h
    · cases h; exact ⟨m, rfl⟩
    · cases h
theorem ce40' : Tryd.prog.cellsOf 40 = 2 := by kernel_rfl
theorem ct40' : Tryd.prog.cellTypes Tryd.prog.depth 40 = some [3, 3] := by kernel_rfl
theorem arg40 {W : World} {r : Reach} {b : Nat} {v : Value} (h : Value.okWide Tryd.prog W r b 40 v) : ∃ x, DRel (immOf W) v x ∧ TyV tys 9 40 x := by
  simp only [Value.okWide, Tryd.underlying40] at h
  obtain ⟨cs, rfl, hs, hr⟩ := h
  obtain ⟨x, y, rfl, h0, h1⟩ := two (hs.trans ce40') hr ct40'
  obtain ⟨n, rfl, hn⟩ := cint Tryd.underlying3 h0
  obtain ⟨m, rfl, hm⟩ := cint Tryd.underlying3 h1
  refine ⟨_, rel2 (.int _ n) (.int _ m) rfl rfl, ⟨rfl, fun i hi => ?_⟩, fun _ => ⟨_, rfl⟩⟩
  match i, hi with
  | 0, _ => exact ⟨n, rfl, hn⟩
  | 1, _ => exact ⟨m, rfl, hm⟩
end
end Go.Proofs.YtdihjnifoikbeaaDoor.Av
