/- The law StripsOnce returns true for every input, and each argument reads afterwards as it read before; the card with the listed tables tied. Conditions: none beyond the card. -/
import Derived.Test.YtbpednchkndocaaGreatDoorRows
import Derived.Test.YtbpednchkndocaaGreatDoorCards
import Derived.Test.YtbpednchkndocaaGreatDoorTie
import Derived.Test.YtbpednchkndocaaGreatDoorSr10
import Derived.WalkKit
import Derived.Carry
import Derived.ProofKit
import Derived.OpenShut
import Derived.ShutString
import Derived.ChangeOld
import Derived.Below
import Derived.SizedLaws
import Derived.LaidLaws
import Derived.Lay
import Derived.LaidOnce
import Derived.SevenTiedAt
import Derived.Lib.LaidTab
namespace Go.Proofs.YtbpednchkndocaaGreatDoor.stripsOnce
open Go.ChangeShapes Go.WideShapes Go.ChangeAt Go.RowKit
open Go.ChangeMaps (open_string shut_string)
set_option linter.unusedVariables false
set_option maxRecDepth 100000
theorem laid_tl {P : Program} {w : World} {x : String × DataW Unit} {l : List (String × DataW Unit)} (h : laidMet P (x :: l) w) : laidMet P l w := by
  obtain ⟨n, d⟩ := x
  obtain ⟨ps, ⟨g, t, cs, fuel, p, q, e1, e2, e3, e4, hr, rfl⟩, hnd, hrows⟩ := h
  exact ⟨q, hr, hnd.sublist (List.sublist_append_right _ _), fun b off hp => hrows b off (List.mem_append_right _ hp)⟩
theorem g0 : Tryz.prog.globalNamed "overspill/mvd.codes" = some 0 := by kernel_rfl
theorem gt0 : (Tryz.prog.globals[0]?).map (·.type) = some 245 := by kernel_rfl
theorem ce0 : Tryz.prog.cellsOf 3 = 1 := by kernel_rfl
theorem ct0 : Tryz.prog.cellsOf 245 = 33 := by kernel_rfl
theorem g3 : Tryz.prog.globalNamed "strings.asciiSpace" = some 3 := by kernel_rfl
theorem gt3 : (Tryz.prog.globals[3]?).map (·.type) = some 289 := by kernel_rfl
theorem ce3 : Tryz.prog.cellsOf 5 = 1 := by kernel_rfl
theorem ct3 : Tryz.prog.cellsOf 289 = 256 := by kernel_rfl
theorem g1 : Tryz.prog.globalNamed "overspill/tcoef.codes" = some 1 := by kernel_rfl
theorem gt1 : (Tryz.prog.globals[1]?).map (·.type) = some 271 := by kernel_rfl
theorem ce1 : Tryz.prog.cellsOf 3 = 1 := by kernel_rfl
theorem ct1 : Tryz.prog.cellsOf 271 = 102 := by kernel_rfl
theorem g2 : Tryz.prog.globalNamed "overspill/tcoef.lengths" = some 2 := by kernel_rfl
theorem gt2 : (Tryz.prog.globals[2]?).map (·.type) = some 271 := by kernel_rfl
theorem ce2 : Tryz.prog.cellsOf 3 = 1 := by kernel_rfl
theorem ct2 : Tryz.prog.cellsOf 271 = 102 := by kernel_rfl
theorem walk (a0 : ByteArray) (W : World) (w0 : a0.size ≤ 140737488351232) (t0 : Lib.TabIs Tryz.prog W "overspill/mvd.codes" .i64 Av.gi0) (t3 : Lib.TabIs Tryz.prog W "strings.asciiSpace" .u8 Av.gi3) (t1 : Lib.TabIs Tryz.prog W "overspill/tcoef.codes" .i64 Av.gi1) (t2 : Lib.TabIs Tryz.prog W "overspill/tcoef.lengths" .i64 Av.gi2) :
    Calls Tryz.prog 9 #[.string a0] W fun e w' => e = .returned (.bool true) ∧ Below W.heap.size W w' := by
  refine Av.ACalls.top (args := [.str a0.data.toList]) (Av.Sr.stripsOnce_law a0.data.toList (by rw [Array.length_toList]; exact w0)) W _ rfl (fun i c hc => ?_) (fun g cs h => by
    simp only [Av.cxg, List.mem_cons, List.not_mem_nil, or_false, Prod.mk.injEq] at h
    rcases h with ⟨rfl, rfl⟩ | ⟨rfl, rfl⟩ | ⟨rfl, rfl⟩ | ⟨rfl, rfl⟩
    · exact Av.glob_of_tab (zs := Av.gi0) (fun i hi => t0.cell g0 i hi)
    · exact Av.glob_of_tab (zs := Av.gi3) (fun i hi => t3.cell g3 i hi)
    · exact Av.glob_of_tab (zs := Av.gi1) (fun i hi => t1.cell g1 i hi)
    · exact Av.glob_of_tab (zs := Av.gi2) (fun i hi => t2.cell g2 i hi))
  match i, hc with
  | 0, hc => cases hc; exact .str a0
  | n + 1, hc => simp at hc

theorem own : ownKnob Tryz.prog.godebug = none := by kernel_rfl
set_option maxRecDepth 100000 in
theorem lifted (os : Os) (started : os.Started) (H : Type) (enc : TypeId × Value → H) :
    ReturnsInHanded {} Tryz.checked os 9 .any (fun w args => (Rows.stripsOnceSpec.pre enc Tryz.prog Tryz.f9 [] false w args ∧ laidMetH Tryz.prog Rows.stripsOnceRow.laid w) ∧ sizedMet enc Tryz.prog Tryz.f9 (OpenSpec.ofChange Rows.stripsOnceSpec) false w args)
      (Rows.stripsOnceSpec.post enc Tryz.prog Tryz.f9 false true false false) := by
  refine returnsInHanded_of_change_and (C := Tryz.checked) (X := fun w _ => laidMetH Tryz.prog Rows.stripsOnceRow.laid w) (fun _ _ _ hh h => h.of_heap hh) own started (by kernel_rfl) Tryz.func9
    (ChangeSpec.witness_shaped (enc := enc) (C := Tryz.checked) (os := os) (X := fun w _ => laidMetH Tryz.prog Rows.stripsOnceRow.laid w) false (World.laidAll Tryz.prog os Rows.stripsOnceRow.laid) #[.string ByteArray.empty] 8 (World.laidAll_os _ _ _)
      (World.shaped_of_ZipB (by kernel_rfl) (by kernel_rfl)) (by kernel_rfl) (by kernel_rfl) (by kernel_rfl)
      (by rw [MakeChecks.laidMetH_plain _ _ _ (by kernel_rfl)]; exact laidMet_laidAll _ (by kernel_rfl) (by kernel_rfl))) ?_
  intro W base args ds gs before hval0 hW _ hsz0 hL _
  have hsz : (DataW.weightsEach Tryz.prog (Tryz.f9.params.toList ++ Rows.stripsOnceSpec.plain.varTypes Tryz.prog) (ds ++ gs)).all (· ≤ reachBytes) = true := hsz0
  have hval : ∀ (j : Nat) t v, Tryz.f9.params[j]? = some t → args[j]? = some v → Value.okWide Tryz.prog W .any base t v := hval0
  have hW' := hW
  obtain ⟨p, q, hA0, hV, rfl, _, _⟩ := hW
  have hA : DataW.TrodAll enc Tryz.prog W 0 (fun _ => true) true Tryz.f9.params.toList args.toList ds p := hA0
  rw [Tryz.params9] at hA hval hsz
  obtain ⟨v0, vs0, d0, ds0, p0, q0, hargs, rfl, rfl, h0, r0⟩ := trodAll_cons hA
  obtain ⟨rfl, rfl, rfl⟩ := trodAll_nil r0
  obtain rfl : args = #[v0] := by cases args; simp_all
  obtain ⟨rfl, rfl⟩ := trodVars_none hV
  obtain ⟨a0, rfl, rfl, rfl, y0⟩ := open_string Tryz.underlying9 (hval 0 9 v0 rfl rfl) h0
  have w0 : a0.size ≤ 140737488351232 := by
    have z := sized_string hsz (j := 0) (t := 9) rfl rfl
    rw [Array.length_toList] at z
    exact z
  simp only [List.append_nil] at hW'
  rw [MakeChecks.laidMetH_plain _ _ _ (by kernel_rfl)] at hL
  have t0 : Lib.TabIs Tryz.prog W "overspill/mvd.codes" .i64 Av.gi0 := Lib.tabIs_of_head g0 gt0 Tryz.underlying245 Tryz.underlying3 ce0 ct0 hL
  have t3 : Lib.TabIs Tryz.prog W "strings.asciiSpace" .u8 Av.gi3 := Lib.tabIs_of_head g3 gt3 Tryz.underlying289 Tryz.underlying5 ce3 ct3 (laid_tl (laid_tl (laid_tl (laid_tl (laid_tl hL)))))
  have t1 : Lib.TabIs Tryz.prog W "overspill/tcoef.codes" .i64 Av.gi1 := Lib.tabIs_of_head g1 gt1 Tryz.underlying271 Tryz.underlying3 ce1 ct1 (laid_tl hL)
  have t2 : Lib.TabIs Tryz.prog W "overspill/tcoef.lengths" .i64 Av.gi2 := Lib.tabIs_of_head g2 gt2 Tryz.underlying271 Tryz.underlying3 ce2 ct2 (laid_tl (laid_tl hL))
  refine (walk a0 W w0 t0 t3 t1 t2).mono fun e W' ⟨he, bel⟩ => ?_
  subst he
  exact ⟨_, rfl, _, _, _, [], [], [], hW', trodAll_mk1 (shut_bool Tryz.underlying4 _), (trodAll_cons_mk (shut_string Tryz.underlying9 y0) trodAll_mk0), rfl, bel.frame _, fun h => by cases h⟩
theorem j1 : laidOutB Tryz.pinned.checked.prog = true := by kernel_rfl
theorem j2 : mapsRowed Tryz.pinned.checked.prog = true := by kernel_rfl
theorem j3 : Tryz.f9.params.all (Tryz.pinned.checked.prog.readableRec ·) = true := by kernel_rfl
theorem j4 : (Rows.stripsOnceRow.inPlace == Tryz.pinned.checked.prog.inPlace 9) = true := by kernel_rfl
theorem j5 : (Rows.stripsOnceRow.unfollowed == Tryz.pinned.checked.prog.unfollowed 9) = true := by kernel_rfl
theorem j6 : (Rows.stripsOnceRow.recurses == Tryz.pinned.checked.prog.recurses 9) = true := by kernel_rfl
theorem j7 : (Rows.stripsOnceRow.named == Tryz.pinned.checked.prog.varsNamed 9) = true := by kernel_rfl
theorem j8 : Tryz.pinned.checked.prog.stopsHeard = true := by kernel_rfl
theorem j9 : Tryz.pinned.checked.prog.mayEnter = true := by kernel_rfl
theorem j10 : (Rows.stripsOnceRow.lifted == Tryz.pinned.checked.prog.liftsFinal) = true := by kernel_rfl
theorem j11 : (Tryz.pinned.checked.prog.stops == []) = true := by kernel_rfl
theorem j12 : (Tryz.pinned.checked.prog.stopKnobs == []) = true := by kernel_rfl
theorem closed : joinedFacts Tryz.pinned.checked.prog 9 Tryz.f9 Rows.stripsOnceSpec Rows.stripsOnceRow = true := by
  unfold joinedFacts
  rw [j1, j2, j3, j4, j5, j6, j7, j8, j9, j10, j11, j12]
  kernel_rfl
theorem inst : decide (Tryz.f9.isInstance Tryz.pinned.checked.prog Rows.stripsOnceRow.origin Rows.stripsOnceRow.targs) = true := by kernel_rfl
theorem over : Rows.stripsOnceRow.holds Tryz.pinned (OpenSpec.ofChange Rows.stripsOnceSpec) :=
  OpenClaim.holds_of_wide 9 Tryz.f9 rfl rfl rfl rfl rfl rfl rfl ⟨rfl, rfl, rfl, rfl, rfl⟩ rfl rfl rfl rfl rfl (by kernel_rfl) Tryz.func9 closed
    (of_decide_eq_true inst) (by unfold Func.isWrapper; first | (rw [if_pos (by decide +kernel)]; kernel_rfl) | (rw [if_neg (by decide +kernel)]; exact ⟨rfl, rfl⟩))
    (fun os started H enc _ => lifted os started H enc)
theorem k1 : Rows.stripsOnceRow.wfByText (OpenSpec.ofChange Rows.stripsOnceSpec) = true := by kernel_rfl
theorem k2 : false = Tryz.pinned.checked.prog.looks [] := by kernel_rfl
theorem k3 : false = Rows.stripsOnceRow.goesBy Tryz.pinned.checked.prog := by kernel_rfl
theorem proved : Rows.StripsOnceCardSaid :=
  Claim7.holds_tied_plain_at .later [] [.data, .data, .data, .data, .listed, .data, .pinned] true (true, "31083580b51fcb8622ddbfb5214a89cf723d01a3c9c33d8a6c7ebbaa5bc92c35") false over (fun _ h => by cases h) k1 (fun _ h => by cases h) stripsOnce_row_tie rfl ⟨rfl, rfl⟩ (by kernel_rfl) rfl
    (fun f fn hf hfn => by
      obtain rfl : f = 9 := Option.some.inj ((show Tryz.prog.funcNamed "overspill/overspilllaw28.StripsOnce" = some 9 by kernel_rfl).symm.trans hf) |>.symm
      obtain rfl : fn = Tryz.f9 := (Option.some.inj (Tryz.func9.symm.trans hfn)).symm
      exact ⟨k2, fun j t ht => by
        rw [Tryz.params9] at ht
        have hm : t ∈ [9] := by have := Array.mem_of_getElem? ht; simpa using this
        have hall : ([9].all fun u => !Tryz.prog.wantsStandIn u) = true := by kernel_rfl
        exact (show Tryz.prog.wantsStandIn t = false by simpa using List.all_eq_true.1 hall t hm)⟩)
    k3
#print axioms proved
end Go.Proofs.YtbpednchkndocaaGreatDoor.stripsOnce
namespace Go.Proofs.YtbpednchkndocaaGreatDoor
/-- The tied card, under a short name, for the claim. -/
theorem stripsOnce_holds : Rows.StripsOnceCardSaid := stripsOnce.proved
end Go.Proofs.YtbpednchkndocaaGreatDoor
