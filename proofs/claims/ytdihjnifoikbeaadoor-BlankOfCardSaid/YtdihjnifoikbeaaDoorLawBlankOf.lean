/- The law BlankOf returns true for every input, and each argument reads afterwards as it read before; the card with the listed tables tied. Conditions: none beyond the card. -/
import Derived.Test.YtdihjnifoikbeaaDoorRows
import Derived.Test.YtdihjnifoikbeaaDoorCards
import Derived.Test.YtdihjnifoikbeaaDoorTie
import Derived.Test.YtdihjnifoikbeaaDoorBk7
import Derived.WalkKit
import Derived.Carry
import Derived.ProofKit
import Derived.OpenShut
import Derived.ShutString
import Derived.ChangeOld
import Derived.Below
import Derived.SizedLaws
import Derived.LaidLaws
import Derived.Lay
import Derived.LaidOnce
import Derived.SevenTiedAt
import Derived.Lib.LaidTab
namespace Go.Proofs.YtdihjnifoikbeaaDoor.blankOf
open Go.ChangeShapes Go.WideShapes Go.ChangeAt Go.RowKit
open Go.ChangeMaps (open_string shut_string)
set_option linter.unusedVariables false
set_option maxRecDepth 100000
theorem laid_tl {P : Program} {w : World} {x : String × DataW Unit} {l : List (String × DataW Unit)} (h : laidMet P (x :: l) w) : laidMet P l w := by
  obtain ⟨n, d⟩ := x
  obtain ⟨ps, ⟨g, t, cs, fuel, p, q, e1, e2, e3, e4, hr, rfl⟩, hnd, hrows⟩ := h
  exact ⟨q, hr, hnd.sublist (List.sublist_append_right _ _), fun b off hp => hrows b off (List.mem_append_right _ hp)⟩
theorem g0 : Tryd.prog.globalNamed "overspill/mvd.codes" = some 0 := by kernel_rfl
theorem gt0 : (Tryd.prog.globals[0]?).map (·.type) = some 150 := by kernel_rfl
theorem ce0 : Tryd.prog.cellsOf 3 = 1 := by kernel_rfl
theorem ct0 : Tryd.prog.cellsOf 150 = 33 := by kernel_rfl
theorem g3 : Tryd.prog.globalNamed "strings.asciiSpace" = some 3 := by kernel_rfl
theorem gt3 : (Tryd.prog.globals[3]?).map (·.type) = some 195 := by kernel_rfl
theorem ce3 : Tryd.prog.cellsOf 5 = 1 := by kernel_rfl
theorem ct3 : Tryd.prog.cellsOf 195 = 256 := by kernel_rfl
theorem g1 : Tryd.prog.globalNamed "overspill/tcoef.codes" = some 1 := by kernel_rfl
theorem gt1 : (Tryd.prog.globals[1]?).map (·.type) = some 182 := by kernel_rfl
theorem ce1 : Tryd.prog.cellsOf 3 = 1 := by kernel_rfl
theorem ct1 : Tryd.prog.cellsOf 182 = 102 := by kernel_rfl
theorem g2 : Tryd.prog.globalNamed "overspill/tcoef.lengths" = some 2 := by kernel_rfl
theorem gt2 : (Tryd.prog.globals[2]?).map (·.type) = some 182 := by kernel_rfl
theorem ce2 : Tryd.prog.cellsOf 3 = 1 := by kernel_rfl
theorem ct2 : Tryd.prog.cellsOf 182 = 102 := by kernel_rfl
theorem walk (a0 : Av.D) (a1 : Int) (a2 : Int) (W : World) (v0 : Value) (r0d : Av.DRel (Av.immOf W) v0 a0) (w0 : Av.TyV Av.tys 9 25 a0) (w1 : (Lit.int .i64 a1).wf = true) (w2 : (Lit.int .i64 a2).wf = true) (t0 : Lib.TabIs Tryd.prog W "overspill/mvd.codes" .i64 Av.gi0) (t3 : Lib.TabIs Tryd.prog W "strings.asciiSpace" .u8 Av.gi3) (t1 : Lib.TabIs Tryd.prog W "overspill/tcoef.codes" .i64 Av.gi1) (t2 : Lib.TabIs Tryd.prog W "overspill/tcoef.lengths" .i64 Av.gi2) :
    Calls Tryd.prog 3 #[v0, .int .i64 a1, .int .i64 a2] W fun e w' => e = .returned (.bool true) ∧ Below W.heap.size W w' := by
  refine Av.ACalls.top (args := [a0, .int .i64 a1, .int .i64 a2]) (Av.Sh.blankOf_law a0 a1 a2 w0 (Av.bd_i64 w1) (Av.bd_i64 w2)) W _ rfl (fun i c hc => ?_) (fun g cs h => by
    simp only [Av.cxg, List.mem_cons, List.not_mem_nil, or_false, Prod.mk.injEq] at h
    rcases h with ⟨rfl, rfl⟩ | ⟨rfl, rfl⟩ | ⟨rfl, rfl⟩ | ⟨rfl, rfl⟩
    · exact Av.glob_of_tab (zs := Av.gi0) (fun i hi => t0.cell g0 i hi)
    · exact Av.glob_of_tab (zs := Av.gi3) (fun i hi => t3.cell g3 i hi)
    · exact Av.glob_of_tab (zs := Av.gi1) (fun i hi => t1.cell g1 i hi)
    · exact Av.glob_of_tab (zs := Av.gi2) (fun i hi => t2.cell g2 i hi))
  match i, hc with
  | 0, hc => cases hc; exact r0d
  | 1, hc => cases hc; exact .int .i64 a1
  | 2, hc => cases hc; exact .int .i64 a2
  | n + 3, hc => simp at hc

theorem laidOut : laidOutB Tryd.prog = true := by kernel_rfl
theorem own : ownKnob Tryd.prog.godebug = none := by kernel_rfl
set_option maxRecDepth 100000 in
theorem lifted (os : Os) (started : os.Started) (H : Type) (enc : TypeId × Value → H) :
    ReturnsInHanded {} Tryd.checked os 3 .any (fun w args => (Rows.blankOfSpec.pre enc Tryd.prog Tryd.f3 [] false w args ∧ laidMetH Tryd.prog Rows.blankOfRow.laid w) ∧ sizedMet enc Tryd.prog Tryd.f3 (OpenSpec.ofChange Rows.blankOfSpec) false w args)
      (Rows.blankOfSpec.post enc Tryd.prog Tryd.f3 false true false false) := by
  refine returnsInHanded_of_change_and (C := Tryd.checked) (X := fun w _ => laidMetH Tryd.prog Rows.blankOfRow.laid w) (fun _ _ _ hh h => h.of_heap hh) own started (by kernel_rfl) Tryd.func3
    (ChangeSpec.witness_shaped (enc := enc) (C := Tryd.checked) (os := os) (X := fun w _ => laidMetH Tryd.prog Rows.blankOfRow.laid w) false (World.laidAll Tryd.prog os Rows.blankOfRow.laid) #[.agg #[.int .i64 0, .int .i64 0, .int .i64 0, .bool false, .int .i64 0, .slice none 0 0, .slice none 0 0, .int .i64 0], .int .i64 0, .int .i64 0] 8 (World.laidAll_os _ _ _)
      (World.shaped_of_ZipB (by kernel_rfl) (by kernel_rfl)) (by kernel_rfl) (by kernel_rfl) (by kernel_rfl)
      (by rw [MakeChecks.laidMetH_plain _ _ _ (by kernel_rfl)]; exact laidMet_laidAll _ (by kernel_rfl) (by kernel_rfl))) ?_
  intro W base args ds gs before hval0 hW _ hsz0 hL _
  have hsz : (DataW.weightsEach Tryd.prog (Tryd.f3.params.toList ++ Rows.blankOfSpec.plain.varTypes Tryd.prog) (ds ++ gs)).all (· ≤ reachBytes) = true := hsz0
  have hval : ∀ (j : Nat) t v, Tryd.f3.params[j]? = some t → args[j]? = some v → Value.okWide Tryd.prog W .any base t v := hval0
  have hW' := hW
  obtain ⟨p, q, hA0, hV, rfl, _, _⟩ := hW
  have hA : DataW.TrodAll enc Tryd.prog W 0 (fun _ => true) true Tryd.f3.params.toList args.toList ds p := hA0
  rw [Tryd.params3] at hA hval hsz
  obtain ⟨v0, vs0, d0, ds0, p0, q0, hargs, rfl, rfl, h0, r0⟩ := trodAll_cons hA
  obtain ⟨v1, vs1, d1, ds1, p1, q1, rfl, rfl, rfl, h1, r1⟩ := trodAll_cons r0
  obtain ⟨v2, vs2, d2, ds2, p2, q2, rfl, rfl, rfl, h2, r2⟩ := trodAll_cons r1
  obtain ⟨rfl, rfl, rfl⟩ := trodAll_nil r2
  obtain rfl : args = #[v0, v1, v2] := by cases args; simp_all
  obtain ⟨rfl, rfl⟩ := trodVars_none hV
  obtain ⟨a0, r0d, w0⟩ := Av.trod_val (Γ := (Av.cxg [(0, Av.gl0), (3, Av.gl3), (1, Av.gl1), (2, Av.gl2)])) (f := 9) (by kernel_rfl) (hval 0 25 v0 rfl rfl) h0
  obtain ⟨a1, rfl, rfl, rfl, w1⟩ := open_int Tryd.underlying3 (hval 1 3 v1 rfl rfl) h1
  obtain ⟨a2, rfl, rfl, rfl, w2⟩ := open_int Tryd.underlying3 (hval 2 3 v2 rfl rfl) h2
  simp only [List.append_nil] at hW'
  rw [MakeChecks.laidMetH_plain _ _ _ (by kernel_rfl)] at hL
  have t0 : Lib.TabIs Tryd.prog W "overspill/mvd.codes" .i64 Av.gi0 := Lib.tabIs_of_head g0 gt0 Tryd.underlying150 Tryd.underlying3 ce0 ct0 hL
  have t3 : Lib.TabIs Tryd.prog W "strings.asciiSpace" .u8 Av.gi3 := Lib.tabIs_of_head g3 gt3 Tryd.underlying195 Tryd.underlying5 ce3 ct3 (laid_tl (laid_tl (laid_tl (laid_tl hL))))
  have t1 : Lib.TabIs Tryd.prog W "overspill/tcoef.codes" .i64 Av.gi1 := Lib.tabIs_of_head g1 gt1 Tryd.underlying182 Tryd.underlying3 ce1 ct1 (laid_tl hL)
  have t2 : Lib.TabIs Tryd.prog W "overspill/tcoef.lengths" .i64 Av.gi2 := Lib.tabIs_of_head g2 gt2 Tryd.underlying182 Tryd.underlying3 ce2 ct2 (laid_tl (laid_tl hL))
  refine (walk a0 a1 a2 W v0 r0d w0 w1 w2 t0 t3 t1 t2).mono fun e W' ⟨he, bel⟩ => ?_
  subst he
  exact ⟨_, rfl, _, _, _, [], _, [], hW', trodAll_mk1 (shut_bool Tryd.underlying4 _), (trodAll_cons_mk (Below.trod laidOut (by kernel_rfl) (of_decide_eq_true (by kernel_rfl)) h0 bel (fun x hx => by simpa using hW'.lt x (by simp [hx]))) (trodAll_cons_mk (shut_int Tryd.underlying3 w1) (trodAll_cons_mk (shut_int Tryd.underlying3 w2) trodAll_mk0))), rfl, bel.frame _, fun h => by cases h⟩
theorem over : Rows.blankOfRow.holds Tryd.pinned (OpenSpec.ofChange Rows.blankOfSpec) :=
  OpenClaim.holds_of_wide 3 Tryd.f3 rfl rfl rfl rfl rfl rfl rfl ⟨rfl, rfl, rfl, rfl, rfl⟩ rfl rfl rfl rfl rfl (by kernel_rfl) Tryd.func3 (by kernel_rfl)
    (of_decide_eq_true (by kernel_rfl)) (by unfold Func.isWrapper; first | (rw [if_pos (by decide +kernel)]; kernel_rfl) | (rw [if_neg (by decide +kernel)]; exact ⟨rfl, rfl⟩))
    (fun os started H enc _ => lifted os started H enc)
theorem proved : Rows.BlankOfCardSaid :=
  Claim7.holds_tied_plain_at .later [] [.data, .data, .data, .listed, .data] true (true, "f052de7696871659b80246a6eecdd08aec792617328bef7c3609d79e0bb5bf41") false over (fun _ h => by cases h) (by kernel_rfl) (fun _ h => by cases h) blankOf_row_tie rfl ⟨rfl, rfl⟩ (by kernel_rfl) rfl
    (fun f fn hf hfn => by
      obtain rfl : f = 3 := Option.some.inj ((show Tryd.prog.funcNamed "overspill/overspilllaw40.BlankOf" = some 3 by kernel_rfl).symm.trans hf) |>.symm
      obtain rfl : fn = Tryd.f3 := (Option.some.inj (Tryd.func3.symm.trans hfn)).symm
      exact ⟨by kernel_rfl, fun j t ht => by
        rw [Tryd.params3] at ht
        have hm : t ∈ [25, 3] := by have := Array.mem_of_getElem? ht; simpa using this
        have hall : ([25, 3].all fun u => !Tryd.prog.wantsStandIn u) = true := by kernel_rfl
        exact (show Tryd.prog.wantsStandIn t = false by simpa using List.all_eq_true.1 hall t hm)⟩)
    (by kernel_rfl)
#print axioms proved
end Go.Proofs.YtdihjnifoikbeaaDoor.blankOf
namespace Go.Proofs.YtdihjnifoikbeaaDoor
/-- The tied card, under a short name, for the claim. -/
theorem blankOf_holds : Rows.BlankOfCardSaid := blankOf.proved
end Go.Proofs.YtdihjnifoikbeaaDoor
