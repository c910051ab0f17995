/- The law CelloutBack returns true for every input, and each argument reads afterwards as it read before; the card with the listed tables tied. Conditions: none beyond the card. -/
import Derived.Test.YtbfojhfiemcnpaaDoorRows
import Derived.Test.YtbfojhfiemcnpaaDoorCards
import Derived.Test.YtbfojhfiemcnpaaDoorTie
import Derived.Test.YtbfojhfiemcnpaaDoorCw2
import Derived.WalkKit
import Derived.Carry
import Derived.ProofKit
import Derived.OpenShut
import Derived.ShutString
import Derived.ChangeOld
import Derived.Below
import Derived.SizedLaws
import Derived.LaidLaws
import Derived.Lay
import Derived.LaidOnce
import Derived.SevenTiedAt
import Derived.Lib.LaidTab
namespace Go.Proofs.YtbfojhfiemcnpaaDoor.celloutBack
open Go.ChangeShapes Go.WideShapes Go.ChangeAt Go.RowKit
open Go.ChangeMaps (open_string shut_string)
set_option linter.unusedVariables false
set_option maxRecDepth 100000
theorem laid_tl {P : Program} {w : World} {x : String × DataW Unit} {l : List (String × DataW Unit)} (h : laidMet P (x :: l) w) : laidMet P l w := by
  obtain ⟨n, d⟩ := x
  obtain ⟨ps, ⟨g, t, cs, fuel, p, q, e1, e2, e3, e4, hr, rfl⟩, hnd, hrows⟩ := h
  exact ⟨q, hr, hnd.sublist (List.sublist_append_right _ _), fun b off hp => hrows b off (List.mem_append_right _ hp)⟩
theorem g0 : Tryd.prog.globalNamed "overspill/mvd.codes" = some 0 := by kernel_rfl
theorem gt0 : (Tryd.prog.globals[0]?).map (·.type) = some 90 := by kernel_rfl
theorem ce0 : Tryd.prog.cellsOf 3 = 1 := by kernel_rfl
theorem ct0 : Tryd.prog.cellsOf 90 = 33 := by kernel_rfl
theorem g3 : Tryd.prog.globalNamed "strings.asciiSpace" = some 3 := by kernel_rfl
theorem gt3 : (Tryd.prog.globals[3]?).map (·.type) = some 127 := by kernel_rfl
theorem ce3 : Tryd.prog.cellsOf 5 = 1 := by kernel_rfl
theorem ct3 : Tryd.prog.cellsOf 127 = 256 := by kernel_rfl
theorem g1 : Tryd.prog.globalNamed "overspill/tcoef.codes" = some 1 := by kernel_rfl
theorem gt1 : (Tryd.prog.globals[1]?).map (·.type) = some 117 := by kernel_rfl
theorem ce1 : Tryd.prog.cellsOf 3 = 1 := by kernel_rfl
theorem ct1 : Tryd.prog.cellsOf 117 = 102 := by kernel_rfl
theorem g2 : Tryd.prog.globalNamed "overspill/tcoef.lengths" = some 2 := by kernel_rfl
theorem gt2 : (Tryd.prog.globals[2]?).map (·.type) = some 117 := by kernel_rfl
theorem ce2 : Tryd.prog.cellsOf 3 = 1 := by kernel_rfl
theorem ct2 : Tryd.prog.cellsOf 117 = 102 := by kernel_rfl
theorem walk (a0 : Av.D) (a1 : Av.D) (a2 : Av.D) (W : World) (v0 : Value) (r0d : Av.DRel (Av.immOf W) v0 a0) (w0 : Av.TyV Av.tys 9 27 a0) (v1 : Value) (r1d : Av.DRel (Av.immOf W) v1 a1) (w1 : Av.TyV Av.tys 9 31 a1) (v2 : Value) (r2d : Av.DRel (Av.immOf W) v2 a2) (w2 : Av.TyV Av.tys 9 22 a2) (t0 : Lib.TabIs Tryd.prog W "overspill/mvd.codes" .i64 Av.gi0) (t3 : Lib.TabIs Tryd.prog W "strings.asciiSpace" .u8 Av.gi3) (t1 : Lib.TabIs Tryd.prog W "overspill/tcoef.codes" .i64 Av.gi1) (t2 : Lib.TabIs Tryd.prog W "overspill/tcoef.lengths" .i64 Av.gi2) :
    Calls Tryd.prog 5 #[v0, v1, v2] W fun e w' => e = .returned (.bool true) ∧ Below W.heap.size W w' := by
  refine Av.ACalls.top (args := [a0, a1, a2]) (Av.Cw.celloutBack_law a0 a1 a2 w0 w1 w2) W _ rfl (fun i c hc => ?_) (fun g cs h => by
    simp only [Av.cxg, List.mem_cons, List.not_mem_nil, or_false, Prod.mk.injEq] at h
    rcases h with ⟨rfl, rfl⟩ | ⟨rfl, rfl⟩ | ⟨rfl, rfl⟩ | ⟨rfl, rfl⟩
    · exact Av.glob_of_tab (zs := Av.gi0) (fun i hi => t0.cell g0 i hi)
    · exact Av.glob_of_tab (zs := Av.gi3) (fun i hi => t3.cell g3 i hi)
    · exact Av.glob_of_tab (zs := Av.gi1) (fun i hi => t1.cell g1 i hi)
    · exact Av.glob_of_tab (zs := Av.gi2) (fun i hi => t2.cell g2 i hi))
  match i, hc with
  | 0, hc => cases hc; exact r0d
  | 1, hc => cases hc; exact r1d
  | 2, hc => cases hc; exact r2d
  | n + 3, hc => simp at hc

theorem laidOut : laidOutB Tryd.prog = true := by kernel_rfl
theorem own : ownKnob Tryd.prog.godebug = none := by kernel_rfl
set_option maxRecDepth 100000 in
theorem lifted (os : Os) (started : os.Started) (H : Type) (enc : TypeId × Value → H) :
    ReturnsInHanded {} Tryd.checked os 5 .any (fun w args => (Rows.celloutBackSpec.pre enc Tryd.prog Tryd.f5 [] false w args ∧ laidMetH Tryd.prog Rows.celloutBackRow.laid w) ∧ sizedMet enc Tryd.prog Tryd.f5 (OpenSpec.ofChange Rows.celloutBackSpec) false w args)
      (Rows.celloutBackSpec.post enc Tryd.prog Tryd.f5 false true false false) := by
  refine returnsInHanded_of_change_and (C := Tryd.checked) (X := fun w _ => laidMetH Tryd.prog Rows.celloutBackRow.laid w) (fun _ _ _ hh h => h.of_heap hh) own started (by kernel_rfl) Tryd.func5
    (ChangeSpec.witness_shaped (enc := enc) (C := Tryd.checked) (os := os) (X := fun w _ => laidMetH Tryd.prog Rows.celloutBackRow.laid w) false (World.laidAll Tryd.prog os Rows.celloutBackRow.laid) #[.agg #[.int .i64 0, .bool false, .int .i64 0, .int .i64 0, .int .i64 0, .int .i64 0, .int .i64 0, .int .i64 0, .int .i64 0, .int .i64 0, .int .i64 0, .int .i64 0, .slice none 0 0, .slice none 0 0, .slice none 0 0, .slice none 0 0, .slice none 0 0, .slice none 0 0], .agg #[.string ByteArray.empty, .bool false], .agg #[.int .i64 0, .int .i64 0]] 8 (World.laidAll_os _ _ _)
      (World.shaped_of_ZipB (by kernel_rfl) (by kernel_rfl)) (by kernel_rfl) (by kernel_rfl) (by kernel_rfl)
      (by rw [MakeChecks.laidMetH_plain _ _ _ (by kernel_rfl)]; exact laidMet_laidAll _ (by kernel_rfl) (by kernel_rfl))) ?_
  intro W base args ds gs before hval0 hW _ hsz0 hL _
  have hsz : (DataW.weightsEach Tryd.prog (Tryd.f5.params.toList ++ Rows.celloutBackSpec.plain.varTypes Tryd.prog) (ds ++ gs)).all (· ≤ reachBytes) = true := hsz0
  have hval : ∀ (j : Nat) t v, Tryd.f5.params[j]? = some t → args[j]? = some v → Value.okWide Tryd.prog W .any base t v := hval0
  have hW' := hW
  obtain ⟨p, q, hA0, hV, rfl, _, _⟩ := hW
  have hA : DataW.TrodAll enc Tryd.prog W 0 (fun _ => true) true Tryd.f5.params.toList args.toList ds p := hA0
  rw [Tryd.params5] at hA hval hsz
  obtain ⟨v0, vs0, d0, ds0, p0, q0, hargs, rfl, rfl, h0, r0⟩ := trodAll_cons hA
  obtain ⟨v1, vs1, d1, ds1, p1, q1, rfl, rfl, rfl, h1, r1⟩ := trodAll_cons r0
  obtain ⟨v2, vs2, d2, ds2, p2, q2, rfl, rfl, rfl, h2, r2⟩ := trodAll_cons r1
  obtain ⟨rfl, rfl, rfl⟩ := trodAll_nil r2
  obtain rfl : args = #[v0, v1, v2] := by cases args; simp_all
  obtain ⟨rfl, rfl⟩ := trodVars_none hV
  obtain ⟨a0, r0d, w0⟩ := Av.trod_val (Γ := (Av.cxg [(0, Av.gl0), (3, Av.gl3), (1, Av.gl1), (2, Av.gl2)])) (f := 9) (by kernel_rfl) (hval 0 27 v0 rfl rfl) h0
  obtain ⟨a1, r1d, w1⟩ := Av.trod_val (Γ := (Av.cxg [(0, Av.gl0), (3, Av.gl3), (1, Av.gl1), (2, Av.gl2)])) (f := 9) (by kernel_rfl) (hval 1 31 v1 rfl rfl) h1
  obtain ⟨a2, r2d, w2⟩ := Av.trod_val (Γ := (Av.cxg [(0, Av.gl0), (3, Av.gl3), (1, Av.gl1), (2, Av.gl2)])) (f := 9) (by kernel_rfl) (hval 2 22 v2 rfl rfl) h2
  simp only [List.append_nil] at hW'
  rw [MakeChecks.laidMetH_plain _ _ _ (by kernel_rfl)] at hL
  have t0 : Lib.TabIs Tryd.prog W "overspill/mvd.codes" .i64 Av.gi0 := Lib.tabIs_of_head g0 gt0 Tryd.underlying90 Tryd.underlying3 ce0 ct0 hL
  have t3 : Lib.TabIs Tryd.prog W "strings.asciiSpace" .u8 Av.gi3 := Lib.tabIs_of_head g3 gt3 Tryd.underlying127 Tryd.underlying5 ce3 ct3 (laid_tl (laid_tl (laid_tl (laid_tl (laid_tl hL)))))
  have t1 : Lib.TabIs Tryd.prog W "overspill/tcoef.codes" .i64 Av.gi1 := Lib.tabIs_of_head g1 gt1 Tryd.underlying117 Tryd.underlying3 ce1 ct1 (laid_tl hL)
  have t2 : Lib.TabIs Tryd.prog W "overspill/tcoef.lengths" .i64 Av.gi2 := Lib.tabIs_of_head g2 gt2 Tryd.underlying117 Tryd.underlying3 ce2 ct2 (laid_tl (laid_tl hL))
  refine (walk a0 a1 a2 W v0 r0d w0 v1 r1d w1 v2 r2d w2 t0 t3 t1 t2).mono fun e W' ⟨he, bel⟩ => ?_
  subst he
  exact ⟨_, rfl, _, _, _, [], _, [], hW', trodAll_mk1 (shut_bool Tryd.underlying4 _), (trodAll_cons_mk (Below.trod laidOut (by kernel_rfl) (of_decide_eq_true (by kernel_rfl)) h0 bel (fun x hx => by simpa using hW'.lt x (by simp [hx]))) (trodAll_cons_mk (Below.trod laidOut (by kernel_rfl) (of_decide_eq_true (by kernel_rfl)) h1 bel (fun x hx => by simpa using hW'.lt x (by simp [hx]))) (trodAll_cons_mk (Below.trod laidOut (by kernel_rfl) (of_decide_eq_true (by kernel_rfl)) h2 bel (fun x hx => by simpa using hW'.lt x (by simp [hx]))) trodAll_mk0))), rfl, bel.frame _, fun h => by cases h⟩
theorem over : Rows.celloutBackRow.holds Tryd.pinned (OpenSpec.ofChange Rows.celloutBackSpec) :=
  OpenClaim.holds_of_wide 5 Tryd.f5 rfl rfl rfl rfl rfl rfl rfl ⟨rfl, rfl, rfl, rfl, rfl⟩ rfl rfl rfl rfl rfl (by kernel_rfl) Tryd.func5 (by kernel_rfl)
    (of_decide_eq_true (by kernel_rfl)) (by unfold Func.isWrapper; first | (rw [if_pos (by decide +kernel)]; kernel_rfl) | (rw [if_neg (by decide +kernel)]; exact ⟨rfl, rfl⟩))
    (fun os started H enc _ => lifted os started H enc)
theorem proved : Rows.CelloutBackCardSaid :=
  Claim7.holds_tied_plain_at .later [] [.data, .data, .data, .data, .listed, .data, .pinned] true (true, "1521d6a040045f6bb913b5ed209848132ffc2fb1fefcb5eb45fd07f9b8f6bea7") false over (fun _ h => by cases h) (by kernel_rfl) (fun _ h => by cases h) celloutBack_row_tie rfl ⟨rfl, rfl⟩ (by kernel_rfl) rfl
    (fun f fn hf hfn => by
      obtain rfl : f = 5 := Option.some.inj ((show Tryd.prog.funcNamed "overspill/overspilllaw22.CelloutBack" = some 5 by kernel_rfl).symm.trans hf) |>.symm
      obtain rfl : fn = Tryd.f5 := (Option.some.inj (Tryd.func5.symm.trans hfn)).symm
      exact ⟨by kernel_rfl, fun j t ht => by
        rw [Tryd.params5] at ht
        have hm : t ∈ [27, 31, 22] := by have := Array.mem_of_getElem? ht; simpa using this
        have hall : ([27, 31, 22].all fun u => !Tryd.prog.wantsStandIn u) = true := by kernel_rfl
        exact (show Tryd.prog.wantsStandIn t = false by simpa using List.all_eq_true.1 hall t hm)⟩)
    (by kernel_rfl)
#print axioms proved
end Go.Proofs.YtbfojhfiemcnpaaDoor.celloutBack
namespace Go.Proofs.YtbfojhfiemcnpaaDoor
/-- The tied card, under a short name, for the claim. -/
theorem celloutBack_holds : Rows.CelloutBackCardSaid := celloutBack.proved
end Go.Proofs.YtbfojhfiemcnpaaDoor
