/- The law McbpcBack returns true for every input, and each argument reads afterwards as it read before; the card with the listed tables tied. Conditions: none beyond the card. -/
import Derived.Test.YtammpekpmjboiaaDoorRows
import Derived.Test.YtammpekpmjboiaaDoorCards
import Derived.Test.YtammpekpmjboiaaDoorTie
import Derived.Test.YtammpekpmjboiaaDoorMb6
import Derived.WalkKit
import Derived.Carry
import Derived.ProofKit
import Derived.OpenShut
import Derived.ShutString
import Derived.ChangeOld
import Derived.Below
import Derived.SizedLaws
import Derived.LaidLaws
import Derived.Lay
import Derived.LaidOnce
import Derived.SevenTiedAt
import Derived.Lib.LaidTab
namespace Go.Proofs.YtammpekpmjboiaaDoor.mcbpcBack
open Go.ChangeShapes Go.WideShapes Go.ChangeAt Go.RowKit
open Go.ChangeMaps (open_string shut_string)
set_option linter.unusedVariables false
set_option maxRecDepth 100000
theorem laid_tl {P : Program} {w : World} {x : String × DataW Unit} {l : List (String × DataW Unit)} (h : laidMet P (x :: l) w) : laidMet P l w := by
  obtain ⟨n, d⟩ := x
  obtain ⟨ps, ⟨g, t, cs, fuel, p, q, e1, e2, e3, e4, hr, rfl⟩, hnd, hrows⟩ := h
  exact ⟨q, hr, hnd.sublist (List.sublist_append_right _ _), fun b off hp => hrows b off (List.mem_append_right _ hp)⟩
theorem g1 : Tryd.prog.globalNamed "strings.asciiSpace" = some 1 := by kernel_rfl
theorem gt1 : (Tryd.prog.globals[1]?).map (·.type) = some 120 := by kernel_rfl
theorem ce1 : Tryd.prog.cellsOf 5 = 1 := by kernel_rfl
theorem ct1 : Tryd.prog.cellsOf 120 = 256 := by kernel_rfl
theorem walk (a0 : Bool) (a1 : Av.D) (a2 : ByteArray) (W : World) (v1 : Value) (r1d : Av.DRel (Av.immOf W) v1 a1) (w1 : Av.TyV Av.tys 9 49 a1) (w2 : a2.size ≤ 140737488351232) (t1 : Lib.TabIs Tryd.prog W "strings.asciiSpace" .u8 Av.gi1) :
    Calls Tryd.prog 10 #[.bool a0, v1, .string a2] W fun e w' => e = .returned (.bool true) ∧ Below W.heap.size W w' := by
  refine Av.ACalls.top (args := [.bool a0, a1, .str a2.data.toList]) (Av.Mb.mcbpcBack_law a0 a1 a2.data.toList w1 (by rw [Array.length_toList]; exact w2)) W _ rfl (fun i c hc => ?_) (fun g cs h => by
    simp only [Av.cxg, List.mem_cons, List.not_mem_nil, or_false, Prod.mk.injEq] at h
    obtain ⟨rfl, rfl⟩ := h
    exact Av.glob_of_tab (zs := Av.gi1) (fun i hi => t1.cell g1 i hi))
  match i, hc with
  | 0, hc => cases hc; exact .bool a0
  | 1, hc => cases hc; exact r1d
  | 2, hc => cases hc; exact .str a2
  | n + 3, hc => simp at hc

theorem laidOut : laidOutB Tryd.prog = true := by kernel_rfl
theorem own : ownKnob Tryd.prog.godebug = none := by kernel_rfl
set_option maxRecDepth 100000 in
theorem lifted (os : Os) (started : os.Started) (H : Type) (enc : TypeId × Value → H) :
    ReturnsInHanded {} Tryd.checked os 10 .any (fun w args => (Rows.mcbpcBackSpec.pre enc Tryd.prog Tryd.f10 [] false w args ∧ laidMetH Tryd.prog Rows.mcbpcBackRow.laid w) ∧ sizedMet enc Tryd.prog Tryd.f10 (OpenSpec.ofChange Rows.mcbpcBackSpec) false w args)
      (Rows.mcbpcBackSpec.post enc Tryd.prog Tryd.f10 false true false false) := by
  refine returnsInHanded_of_change_and (C := Tryd.checked) (X := fun w _ => laidMetH Tryd.prog Rows.mcbpcBackRow.laid w) (fun _ _ _ hh h => h.of_heap hh) own started (by kernel_rfl) Tryd.func10
    (ChangeSpec.witness_shaped (enc := enc) (C := Tryd.checked) (os := os) (X := fun w _ => laidMetH Tryd.prog Rows.mcbpcBackRow.laid w) false (World.laidAll Tryd.prog os Rows.mcbpcBackRow.laid) #[.bool false, .agg #[.int .i64 0, .int .i64 0], .string ByteArray.empty] 8 (World.laidAll_os _ _ _)
      (World.shaped_of_ZipB (by kernel_rfl) (by kernel_rfl)) (by kernel_rfl) (by kernel_rfl) (by kernel_rfl)
      (by rw [MakeChecks.laidMetH_plain _ _ _ (by kernel_rfl)]; exact laidMet_laidAll _ (by kernel_rfl) (by kernel_rfl))) ?_
  intro W base args ds gs before hval0 hW _ hsz0 hL _
  have hsz : (DataW.weightsEach Tryd.prog (Tryd.f10.params.toList ++ Rows.mcbpcBackSpec.plain.varTypes Tryd.prog) (ds ++ gs)).all (· ≤ reachBytes) = true := hsz0
  have hval : ∀ (j : Nat) t v, Tryd.f10.params[j]? = some t → args[j]? = some v → Value.okWide Tryd.prog W .any base t v := hval0
  have hW' := hW
  obtain ⟨p, q, hA0, hV, rfl, _, _⟩ := hW
  have hA : DataW.TrodAll enc Tryd.prog W 0 (fun _ => true) true Tryd.f10.params.toList args.toList ds p := hA0
  rw [Tryd.params10] at hA hval hsz
  obtain ⟨v0, vs0, d0, ds0, p0, q0, hargs, rfl, rfl, h0, r0⟩ := trodAll_cons hA
  obtain ⟨v1, vs1, d1, ds1, p1, q1, rfl, rfl, rfl, h1, r1⟩ := trodAll_cons r0
  obtain ⟨v2, vs2, d2, ds2, p2, q2, rfl, rfl, rfl, h2, r2⟩ := trodAll_cons r1
  obtain ⟨rfl, rfl, rfl⟩ := trodAll_nil r2
  obtain rfl : args = #[v0, v1, v2] := by cases args; simp_all
  obtain ⟨rfl, rfl⟩ := trodVars_none hV
  obtain ⟨a0, rfl, rfl, rfl⟩ := open_bool Tryd.underlying4 (hval 0 4 v0 rfl rfl) h0
  obtain ⟨a1, r1d, w1⟩ := Av.trod_val (Γ := (Av.cxg [(1, Av.gl1)])) (f := 9) (by kernel_rfl) (hval 1 49 v1 rfl rfl) h1
  obtain ⟨a2, rfl, rfl, rfl, y2⟩ := open_string Tryd.underlying9 (hval 2 9 v2 rfl rfl) h2
  have w2 : a2.size ≤ 140737488351232 := by
    have z := sized_string hsz (j := 2) (t := 9) rfl rfl
    rw [Array.length_toList] at z
    exact z
  simp only [List.append_nil] at hW'
  rw [MakeChecks.laidMetH_plain _ _ _ (by kernel_rfl)] at hL
  have t1 : Lib.TabIs Tryd.prog W "strings.asciiSpace" .u8 Av.gi1 := Lib.tabIs_of_head g1 gt1 Tryd.underlying120 Tryd.underlying5 ce1 ct1 (laid_tl (laid_tl hL))
  refine (walk a0 a1 a2 W v1 r1d w1 w2 t1).mono fun e W' ⟨he, bel⟩ => ?_
  subst he
  exact ⟨_, rfl, _, _, _, [], _, [], hW', trodAll_mk1 (shut_bool Tryd.underlying4 _), (trodAll_cons_mk (shut_bool Tryd.underlying4 _) (trodAll_cons_mk (Below.trod laidOut (by kernel_rfl) (of_decide_eq_true (by kernel_rfl)) h1 bel (fun x hx => by simpa using hW'.lt x (by simp [hx]))) (trodAll_cons_mk (shut_string Tryd.underlying9 y2) trodAll_mk0))), rfl, bel.frame _, fun h => by cases h⟩
theorem over : Rows.mcbpcBackRow.holds Tryd.pinned (OpenSpec.ofChange Rows.mcbpcBackSpec) :=
  OpenClaim.holds_of_wide 10 Tryd.f10 rfl rfl rfl rfl rfl rfl rfl ⟨rfl, rfl, rfl, rfl, rfl⟩ rfl rfl rfl rfl rfl (by kernel_rfl) Tryd.func10 (by kernel_rfl)
    (of_decide_eq_true (by kernel_rfl)) (by unfold Func.isWrapper; first | (rw [if_pos (by decide +kernel)]; kernel_rfl) | (rw [if_neg (by decide +kernel)]; exact ⟨rfl, rfl⟩))
    (fun os started H enc _ => lifted os started H enc)
theorem proved : Rows.McbpcBackCardSaid :=
  Claim7.holds_tied_plain_at .later [] [.data, .listed, .data, .pinned] true (true, "8a3d72a034850726458460ed00d10cf3169c840004ceeecef305b00663bfa8f4") false over (fun _ h => by cases h) (by kernel_rfl) (fun _ h => by cases h) mcbpcBack_row_tie rfl ⟨rfl, rfl⟩ (by kernel_rfl) rfl
    (fun f fn hf hfn => by
      obtain rfl : f = 10 := Option.some.inj ((show Tryd.prog.funcNamed "overspill/overspilllaw06.McbpcBack" = some 10 by kernel_rfl).symm.trans hf) |>.symm
      obtain rfl : fn = Tryd.f10 := (Option.some.inj (Tryd.func10.symm.trans hfn)).symm
      exact ⟨by kernel_rfl, fun j t ht => by
        rw [Tryd.params10] at ht
        have hm : t ∈ [4, 49, 9] := by have := Array.mem_of_getElem? ht; simpa using this
        have hall : ([4, 49, 9].all fun u => !Tryd.prog.wantsStandIn u) = true := by kernel_rfl
        exact (show Tryd.prog.wantsStandIn t = false by simpa using List.all_eq_true.1 hall t hm)⟩)
    (by kernel_rfl)
#print axioms proved
end Go.Proofs.YtammpekpmjboiaaDoor.mcbpcBack
namespace Go.Proofs.YtammpekpmjboiaaDoor
/-- The tied card, under a short name, for the claim. -/
theorem mcbpcBack_holds : Rows.McbpcBackCardSaid := mcbpcBack.proved
end Go.Proofs.YtammpekpmjboiaaDoor
