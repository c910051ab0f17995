/- Events: what may be one; the levels of a block. The levels of a block: the walks of both Levels. The levels of a block: the walk of the reference's Levels. The reference's words of a text. -/
import Derived.Test.YtbfojhfiemcnpaaDoorPd
import Derived.Test.YtbfojhfiemcnpaaDoorPn
/- Events: what may be one; the levels of a block. -/
set_option linter.unusedSimpArgs false
set_option linter.unusedVariables false
set_option maxRecDepth 100000
namespace Go.Proofs.YtbfojhfiemcnpaaDoor.Av.Tc
open Go Bt
attribute [local irreducible] AGo ACalls
variable {gl : List (Nat × List D)}
def envBnd (m : Nat) : Env → Bool
  | [] => true
  | (_, v) :: r => v.bnd m && envBnd m r
theorem envBnd_get (m : Nat) : ∀ (env : Env), envBnd m env = true → ∀ i, (env.get i).bnd m = true
  | [], _, i => rfl
  | (j, v) :: r, h, i => by
    simp only [envBnd, Bool.and_eq_true] at h
    simp only [Env.get]
    cases Nat.beq j i with
    | true => exact h.1
    | false => exact envBnd_get m r h.2 i
structure Ev where
  last : Bool
  run : Int
  level : Int
abbrev evD (e : Ev) : D := .agg [.bool e.last, .int .i64 e.run, .int .i64 e.level]
def evsD (l : List Ev) : List D := l.map evD
def evR (e : Ev) : Bool := decide ((0 ≤ e.run ∧ e.run ≤ 63) ∧ e.level ≠ 0 ∧ -127 ≤ e.level ∧ e.level ≤ 127)
def EvOk (e : Ev) : Prop := (-9223372036854775808 ≤ e.run ∧ e.run ≤ 9223372036854775807) ∧ (-9223372036854775808 ≤ e.level ∧ e.level ≤ 9223372036854775807)
theorem evsD_len (l : List Ev) : (evsD l).length = l.length := by simp [evsD]
theorem evsD_get (l : List Ev) (i : Nat) (e : Ev) (h : l[i]? = some e) : (evsD l).getD i .top = evD e := by simp [evsD, List.getD, h]
theorem ev_load (ti : TI) (ha : ti.agg = true) (hs : ti.size = 3) (l : List Ev) (i : Nat) (e : Ev) (h : l[i]? = some e) : loadD ti ((evsD l).getD i .top).cells 0 = some (evD e) := by
  rw [evsD_get l i e h]
  unfold loadD evD
  rw [ha, hs]; rfl
theorem right_c (e : Ev) : ACalls (cxg gl) 69 [.d (evD e)] [] (fun r H => r = B (evR e) ∧ H = []) := by
  obtain ⟨la, ru, le⟩ := e
  by_cases h : (0 ≤ ru ∧ ru ≤ 63) ∧ le ≠ 0 ∧ -127 ≤ le ∧ le ≤ 127
  · rw [show evR ⟨la, ru, le⟩ = true from decide_eq_true h]
    refine ACalls.enter Tryd.func69 rfl Tryd.ntmps69 (by kernel_rfl) rfl ?_; simp only [argEnv, Nat.reduceAdd, List.length_nil, List.length_cons]
    repeat' (first | apply AGo.seq | apply AGo.nil | (apply AGo.region; rfl) | (apply AGo.q true; rfl; rfl; rfl; rfl; first | exact True.intro | omega | (simp only [Int.toNat_natCast, Int.reduceToNat, IntKind.bits]; omega)) | (apply AGo.box; (iterate 6 rfl); simp only [nm, Nat.reduceAdd, spliceA, AV.cells, D.cells]) | (apply AGo.unguard; rfl; rfl) | (apply AGo.gT; rfl; rfl; rfl; first | omega | rfl) | (apply AGo.gBT; rfl; rfl; rfl; first | (simp only [bT]; omega)) | (apply AGo.skipOp; rfl; rfl; rfl) | intro _ | (apply AGo.gD; rfl; rfl; rfl) | (apply AGo.gS; rfl; rfl; rfl) | (apply AGo.retN; rfl; rfl; rfl; rfl))
    all_goals first | exact ⟨rfl, rfl⟩ | (exfalso; omega) | exact ⟨congrArg B (by simp only [Bool.true_and, Bool.not_eq_true', Bool.not_eq_false', decide_eq_true_eq, decide_eq_false_iff_not] at *; omega), rfl⟩ | trace_state
  · rw [show evR ⟨la, ru, le⟩ = false from decide_eq_false h]
    refine ACalls.enter Tryd.func69 rfl Tryd.ntmps69 (by kernel_rfl) rfl ?_; simp only [argEnv, Nat.reduceAdd, List.length_nil, List.length_cons]
    repeat' (first | apply AGo.seq | apply AGo.nil | (apply AGo.region; rfl) | (apply AGo.q true; rfl; rfl; rfl; rfl; first | exact True.intro | omega | (simp only [Int.toNat_natCast, Int.reduceToNat, IntKind.bits]; omega)) | (apply AGo.box; (iterate 6 rfl); simp only [nm, Nat.reduceAdd, spliceA, AV.cells, D.cells]) | (apply AGo.unguard; rfl; rfl) | (apply AGo.gT; rfl; rfl; rfl; first | omega | rfl) | (apply AGo.gBT; rfl; rfl; rfl; first | (simp only [bT]; omega)) | (apply AGo.skipOp; rfl; rfl; rfl) | intro _ | (apply AGo.gD; rfl; rfl; rfl) | (apply AGo.gS; rfl; rfl; rfl) | (apply AGo.retN; rfl; rfl; rfl; rfl))
    all_goals first | exact ⟨rfl, rfl⟩ | (exfalso; omega) | exact ⟨congrArg B (by simp only [Bool.true_and, Bool.not_eq_true', Bool.not_eq_false', decide_eq_true_eq, decide_eq_false_iff_not] at *; omega), rfl⟩ | trace_state
/-- events as levels -/
def levS : List Ev → Nat → List Int → Option (List Int)
  | [], _, out => some out
  | e :: r, a, out => if evR e = true ∧ e.last = r.isEmpty ∧ a + e.run.toNat < 64 then levS r (a + e.run.toNat + 1) (out.set (a + e.run.toNat) e.level) else none
def z64 : List Int := List.replicate 64 0
def lev (l : List Ev) (a : Nat) : Option (List Int) := levS l a z64
def levT (l : List Ev) (a : Nat) : AV := match lev l a with | some out => .tup [.d (.agg (out.map (.int .i64))), I 0] | none => .tup [.d (.agg (z64.map (.int .i64))), I 7]
end Go.Proofs.YtbfojhfiemcnpaaDoor.Av.Tc

/- The levels of a block: the walks of both Levels. -/
set_option linter.unusedSimpArgs false
set_option linter.unusedVariables false
set_option maxRecDepth 100000
namespace Go.Proofs.YtbfojhfiemcnpaaDoor.Av.Tc
open Go Bt
attribute [local irreducible] AGo ACalls
variable {gl : List (Nat × List D)}
theorem levS_cons (e : Ev) (r : List Ev) (a : Nat) (out : List Int) : levS (e :: r) a out = if evR e = true ∧ e.last = r.isEmpty ∧ a + e.run.toNat < 64 then levS r (a + e.run.toNat + 1) (out.set (a + e.run.toNat) e.level) else none := rfl
theorem evR_bd {e : Ev} (h : evR e = true) : (0 ≤ e.run ∧ e.run ≤ 63) ∧ e.level ≠ 0 ∧ -127 ≤ e.level ∧ e.level ≤ 127 := of_decide_eq_true h
theorem isEmpty_at {α : Type} (l : List α) (i : Nat) (h : i < l.length) : decide ((i : Int) = (l.length : Int) - 1) = (l.drop (i + 1)).isEmpty := by
  by_cases h1 : i + 1 = l.length
  · rw [decide_eq_true (by omega), List.drop_of_length_le (by omega)]; rfl
  · rw [decide_eq_false (by omega)]
    cases h2 : (l.drop (i + 1)).isEmpty with
    | false => rfl
    | true =>
      have := congrArg List.length (List.isEmpty_iff.1 h2)
      rw [List.length_drop, List.length_nil] at this; omega
theorem levT_none {l : List Ev} {a : Nat} (h : lev l a = none) : levT l a = .tup [.d (.agg (z64.map (.int .i64))), I 7] := by unfold levT; rw [h]
theorem levT_some {l : List Ev} {a : Nat} {out : List Int} (h : lev l a = some out) : levT l a = .tup [.d (.agg (out.map (.int .i64))), I 0] := by unfold levT; rw [h]
theorem map_set' (out : List Int) (i : Nat) (v : Int) : (out.map fun n => I n).set i (I v) = (out.set i v).map fun n => I n := by rw [List.map_set]
theorem levS_nil (a : Nat) (out : List Int) : levS [] a out = some out := rfl
theorem bnds_ints (m : Nat) : ∀ l : List Int, AV.bnds m (l.map fun n => I n) = true
  | [] => rfl
  | n :: r => by simp only [List.map_cons, AV.bnds, bnds_ints m r]; rfl
theorem of64 (out : List Int) (h : out.length = 64) : ∃ f : Nat → Int, out = (List.range 64).map f :=
  ⟨fun k => out.getD k 0, by
    apply List.ext_getElem?
    intro i
    by_cases hi : i < 64
    · simp [List.getD, hi, show i < out.length by omega]
    · rw [List.getElem?_eq_none (by omega), List.getElem?_eq_none (by simp; omega)]⟩
attribute [local irreducible] evsD levS evR
set_option maxHeartbeats 4000000 in
theorem levels_c (l : List Ev) (a : Nat) (ha : a ≤ 1) (hl : l.length ≤ 1000000) (hok : ∀ e ∈ l, EvOk e) : ACalls (cxg gl) 68 [.d (.sl 3 (evsD l)), I a] [] (fun r H => r = levT l a ∧ H = []) := by
  have hln := evsD_len l
  have hz : List.map AV.d (List.replicate 64 (D.int IntKind.i64 0)) = z64.map fun n => I n := rfl
  have hzl : (z64.map fun n => I n).length = 64 := rfl
  have hre : lev l a = levS (l.drop 0) a z64 := rfl
  rcases (show a = 0 ∨ a = 1 by omega) with rfl | rfl
  all_goals
    refine ACalls.enter Tryd.func68 rfl Tryd.ntmps68 (by kernel_rfl) rfl ?_; simp only [argEnv, Nat.reduceAdd, List.length_nil, List.length_cons]
    repeat (first | apply AGo.seq | apply AGo.block | apply AGo.blk | apply AGo.skip | apply AGo.nil | (apply AGo.region; rfl) | (apply AGo.q true; rfl; rfl; rfl; rfl; first | exact True.intro | omega | (simp only [Int.toNat_natCast, Int.reduceToNat, IntKind.bits]; omega)) | (apply AGo.condDT; rfl; first | omega | rfl) | (apply AGo.condDF; rfl; omega) | (apply AGo.condT; rfl) | (apply AGo.condF; rfl) | (apply AGo.alloc; (iterate 5 rfl); simp only [nm, Nat.reduceAdd, spliceA, AV.cells, D.cells]) | (apply AGo.store; (iterate 9 rfl); exact Nat.le_of_ble_eq_true rfl; simp only [nm, Nat.reduceAdd, spliceA, AV.cells, D.cells]) | (apply AGo.build; (iterate 5 rfl); simp only [nm, Nat.reduceAdd, spliceA, AV.cells, D.cells, mkAgg, unDs, AV.unD]) | (apply AGo.unguard; rfl; rfl) | (apply AGo.gBT; rfl; rfl; rfl; first | (simp only [bT]; omega)) | (apply AGo.gBF; rfl; rfl; rfl; first | (simp only [bF]; omega) | exact ndF rfl) | (apply AGo.skipOp; rfl; rfl; rfl))
    rw [hz]
    refine AGo.weak (env' := [(20, I ((0 : Nat) : Int)), (19, I ((evsD l).length : Int)), (18, .d (.sl 3 (evsD l))), (7, I ((_ : Nat) : Int)), (6, .ptr 1 0), (4, .ptr 0 0), (0, .d (.sl 3 (evsD l)))]) ⟨rfl, rfl, rfl, rfl, rfl, rfl, rfl, trivial⟩ ?_
    refine AGo.loop (fun m env H => ∃ (i b : Nat) (out : List Int), m = l.length - i ∧ i ≤ l.length ∧ b ≤ 64 ∧ out.length = 64 ∧ levS (l.drop i) b out = lev l _ ∧
      env = [(20, I (i : Int)), (19, I ((evsD l).length : Int)), (18, .d (.sl 3 (evsD l))), (7, I (b : Int)), (6, .ptr 1 0), (4, .ptr 0 0), (0, .d (.sl 3 (evsD l)))] ∧ H = [.cells (z64.map fun n => I n), .cells (out.map fun n => I n)]) l.length
      ⟨0, _, z64, by omega, by omega, by decide, rfl, hre.symm, rfl, rfl⟩ ?_
    rintro m env H ⟨i, b, out, rfl, hi, hb, ho, hlv, rfl, rfl⟩
    have hol : (out.map fun n => I n).length = 64 := by rw [List.length_map, ho]
    rcases Nat.lt_or_ge i l.length with hlt | hge
    · obtain ⟨e, he⟩ : ∃ e, l[i]? = some e := ⟨_, List.getElem?_eq_getElem hlt⟩
      have g1 := fun (ti : TI) (ha : ti.agg = true) (hs : ti.size = 3) => ev_load ti ha hs l i e he
      have rc := right_c (gl := gl) e
      have hle := isEmpty_at l i hlt
      rw [drop_cut l i e he, levS_cons] at hlv
      rw [← hln] at hle
      cases hR : evR e with
      | false =>
        rw [hR] at rc hlv
        rw [if_neg (fun h => by cases h.1)] at hlv
        repeat' (first | apply AGo.seq | apply AGo.block | apply AGo.blk | apply AGo.skip | apply AGo.nil | (apply AGo.region; rfl) | (apply AGo.q true; rfl; rfl; rfl; rfl; first | exact True.intro | omega | (simp only [Int.toNat_natCast, Int.reduceToNat, IntKind.bits]; omega) | (rw [hln]; omega)) | (apply AGo.callP (rc); (iterate 6 rfl)) | (apply AGo.condDT; rfl; first | omega | rfl) | (apply AGo.condDF; rfl; omega) | (apply AGo.condT; rfl) | (apply AGo.condF; rfl) | (apply AGo.alloc; (iterate 5 rfl); simp only [nm, Nat.reduceAdd, spliceA, AV.cells, D.cells]) | (apply AGo.store; (iterate 9 rfl); exact Nat.le_of_ble_eq_true rfl; simp only [nm, Nat.reduceAdd, spliceA, AV.cells, D.cells]) | (apply AGo.build; (iterate 5 rfl); simp only [nm, Nat.reduceAdd, spliceA, AV.cells, D.cells, mkAgg, unDs, AV.unD]) | (apply AGo.unguard; rfl; rfl) | (apply AGo.gBT; rfl; rfl; rfl; first | (simp only [bT]; omega)) | (apply AGo.gBF; rfl; rfl; rfl; first | (simp only [bF]; omega) | exact ndF rfl) | (apply AGo.skipOp; rfl; rfl; rfl) | (apply AGo.loadDD; (iterate 6 rfl); exact (g1 _ rfl rfl)) | intro _ | (apply AGo.retN; rfl; rfl; rfl; rfl) | (apply AGo.retL; rfl; rfl; rfl; rfl) | (apply AGo.outL; rfl; rfl))
        all_goals first | exact ⟨by rw [levT_none hlv.symm]; rfl, rfl⟩ | trace_state
      | true =>
        rw [hR] at rc
        obtain ⟨⟨b1, b2⟩, b3⟩ := evR_bd hR
        by_cases hL : e.last = (l.drop (i + 1)).isEmpty
        · have k1 : (!decide (e.last = decide ((i : Int) = ((evsD l).length : Int) - 1))) = false := by rw [hle, decide_eq_true hL]; rfl
          by_cases h64 : b + e.run.toNat < 64
          · rw [if_pos ⟨hR, hL, h64⟩] at hlv
            have hset : (out.map fun n => I n).set (0 + ((b : Int) + e.run).toNat * 1) (I e.level) = (out.set (b + e.run.toNat) e.level).map fun n => I n := by
              rw [show 0 + ((b : Int) + e.run).toNat * 1 = b + e.run.toNat by omega, map_set']
            repeat' (first | apply AGo.seq | apply AGo.block | apply AGo.blk | apply AGo.skip | apply AGo.nil | (apply AGo.region; rfl) | (apply AGo.q true; rfl; rfl; rfl; rfl; first | exact True.intro | omega | (simp only [Int.toNat_natCast, Int.reduceToNat, IntKind.bits]; omega) | (rw [hln]; omega)) | (apply AGo.callP (rc); (iterate 6 rfl)) | (apply AGo.condDT; rfl; first | omega | rfl) | (apply AGo.condDF; rfl; omega) | (apply AGo.condT; rfl) | (apply AGo.condF; rfl) | (apply AGo.alloc; (iterate 5 rfl); simp only [nm, Nat.reduceAdd, spliceA, AV.cells, D.cells]) | (apply AGo.store; (iterate 9 rfl); exact Nat.le_of_ble_eq_true rfl; simp only [nm, Nat.reduceAdd, spliceA, AV.cells, D.cells]) | (apply AGo.build; (iterate 5 rfl); simp only [nm, Nat.reduceAdd, spliceA, AV.cells, D.cells, mkAgg, unDs, AV.unD]) | (apply AGo.unguard; rfl; rfl) | (apply AGo.gBT; rfl; rfl; rfl; first | (simp only [bT]; omega) | (exact k1)) | (apply AGo.gBF; rfl; rfl; rfl; first | (simp only [bF]; omega) | exact ndF rfl | (exact k1)) | (apply AGo.skipOp; rfl; rfl; rfl) | (apply AGo.loadDD; (iterate 6 rfl); exact (g1 _ rfl rfl)) | (apply AGo.storeO; (iterate 10 rfl); (rw [hol]; show 0 + ((b : Int) + e.run).toNat * 1 < 64; omega); simp only [List.set_cons_succ, List.set_cons_zero]) | intro _ | (apply AGo.retN; rfl; rfl; rfl; rfl) | (apply AGo.retL; rfl; rfl; rfl; rfl) | (apply AGo.outL; rfl; rfl))
            all_goals first
              | (refine AGo.drop 2 (env' := [(20, I ((i + 1 : Nat) : Int)), (19, I ((evsD l).length : Int)), (18, .d (.sl 3 (evsD l))), (7, I ((b + e.run.toNat + 1 : Nat) : Int)), (6, .ptr 1 0), (4, .ptr 0 0), (0, .d (.sl 3 (evsD l)))]) (Nat.zero_le _) (by simp) (fun o ho => ?_) ⟨rfl, rfl, rfl, congrArg I (by omega), rfl, rfl, rfl, trivial⟩ (envBnd_get 2 _ rfl) ?_
                 · have ho' : o = .cells (z64.map fun n => I n) ∨ o = .cells ((out.set (b + e.run.toNat) e.level).map fun n => I n) := by
                     rw [← hset]
                     simpa using ho
                   rcases ho' with rfl | rfl
                   · exact bnds_ints 2 z64
                   · exact bnds_ints 2 _
                 · exact AGo.round [(20, I ((i + 1 : Nat) : Int)), (19, I ((evsD l).length : Int)), (18, .d (.sl 3 (evsD l))), (7, I ((b + e.run.toNat + 1 : Nat) : Int)), (6, .ptr 1 0), (4, .ptr 0 0), (0, .d (.sl 3 (evsD l)))] (l.length - (i + 1)) (by omega) ⟨rfl, rfl, rfl, rfl, rfl, rfl, rfl, trivial⟩ ⟨i + 1, b + e.run.toNat + 1, out.set (b + e.run.toNat) e.level, rfl, hlt, by omega, by rw [List.length_set, ho], hlv, rfl, by rw [← hset]; rfl⟩)
              | trace_state
          · rw [if_neg (fun h => h64 h.2.2)] at hlv
            repeat' (first | apply AGo.seq | apply AGo.block | apply AGo.blk | apply AGo.skip | apply AGo.nil | (apply AGo.region; rfl) | (apply AGo.q true; rfl; rfl; rfl; rfl; first | exact True.intro | omega | (simp only [Int.toNat_natCast, Int.reduceToNat, IntKind.bits]; omega) | (rw [hln]; omega)) | (apply AGo.callP (rc); (iterate 6 rfl)) | (apply AGo.condDT; rfl; first | omega | rfl) | (apply AGo.condDF; rfl; omega) | (apply AGo.condT; rfl) | (apply AGo.condF; rfl) | (apply AGo.alloc; (iterate 5 rfl); simp only [nm, Nat.reduceAdd, spliceA, AV.cells, D.cells]) | (apply AGo.store; (iterate 9 rfl); exact Nat.le_of_ble_eq_true rfl; simp only [nm, Nat.reduceAdd, spliceA, AV.cells, D.cells]) | (apply AGo.build; (iterate 5 rfl); simp only [nm, Nat.reduceAdd, spliceA, AV.cells, D.cells, mkAgg, unDs, AV.unD]) | (apply AGo.unguard; rfl; rfl) | (apply AGo.gBT; rfl; rfl; rfl; first | (simp only [bT]; omega) | (exact k1)) | (apply AGo.gBF; rfl; rfl; rfl; first | (simp only [bF]; omega) | exact ndF rfl | (exact k1)) | (apply AGo.skipOp; rfl; rfl; rfl) | (apply AGo.loadDD; (iterate 6 rfl); exact (g1 _ rfl rfl)) | intro _ | (apply AGo.retN; rfl; rfl; rfl; rfl) | (apply AGo.retL; rfl; rfl; rfl; rfl) | (apply AGo.outL; rfl; rfl))
            all_goals first | exact ⟨by rw [levT_none hlv.symm]; rfl, rfl⟩ | trace_state
        · have k1 : (!decide (e.last = decide ((i : Int) = ((evsD l).length : Int) - 1))) = true := by rw [hle, decide_eq_false hL]; rfl
          rw [if_neg (fun h => hL h.2.1)] at hlv
          repeat' (first | apply AGo.seq | apply AGo.block | apply AGo.blk | apply AGo.skip | apply AGo.nil | (apply AGo.region; rfl) | (apply AGo.q true; rfl; rfl; rfl; rfl; first | exact True.intro | omega | (simp only [Int.toNat_natCast, Int.reduceToNat, IntKind.bits]; omega) | (rw [hln]; omega)) | (apply AGo.callP (rc); (iterate 6 rfl)) | (apply AGo.condDT; rfl; first | omega | rfl) | (apply AGo.condDF; rfl; omega) | (apply AGo.condT; rfl) | (apply AGo.condF; rfl) | (apply AGo.alloc; (iterate 5 rfl); simp only [nm, Nat.reduceAdd, spliceA, AV.cells, D.cells]) | (apply AGo.store; (iterate 9 rfl); exact Nat.le_of_ble_eq_true rfl; simp only [nm, Nat.reduceAdd, spliceA, AV.cells, D.cells]) | (apply AGo.build; (iterate 5 rfl); simp only [nm, Nat.reduceAdd, spliceA, AV.cells, D.cells, mkAgg, unDs, AV.unD]) | (apply AGo.unguard; rfl; rfl) | (apply AGo.gBT; rfl; rfl; rfl; first | (simp only [bT]; omega) | (exact k1)) | (apply AGo.gBF; rfl; rfl; rfl; first | (simp only [bF]; omega) | exact ndF rfl | (exact k1)) | (apply AGo.skipOp; rfl; rfl; rfl) | (apply AGo.loadDD; (iterate 6 rfl); exact (g1 _ rfl rfl)) | intro _ | (apply AGo.retN; rfl; rfl; rfl; rfl) | (apply AGo.retL; rfl; rfl; rfl; rfl) | (apply AGo.outL; rfl; rfl))
          all_goals first | exact ⟨by rw [levT_none hlv.symm]; rfl, rfl⟩ | trace_state
    · obtain rfl : i = l.length := by omega
      rw [List.drop_length] at hlv
      obtain ⟨f, rfl⟩ := of64 out ho
      have hlt0 : ¬ ((l.length : Int) < ((evsD l).length : Int)) := by omega
      repeat' (first | apply AGo.seq | apply AGo.block | apply AGo.blk | apply AGo.skip | apply AGo.nil | (apply AGo.region; rfl) | (apply AGo.q true; rfl; rfl; rfl; rfl; first | exact True.intro | omega | (simp only [Int.toNat_natCast, Int.reduceToNat, IntKind.bits]; omega)) | (apply AGo.condDT; rfl; first | omega | rfl) | (apply AGo.condDF; rfl; omega) | (apply AGo.condT; rfl) | (apply AGo.condF; rfl) | (apply AGo.alloc; (iterate 5 rfl); simp only [nm, Nat.reduceAdd, spliceA, AV.cells, D.cells]) | (apply AGo.store; (iterate 9 rfl); exact Nat.le_of_ble_eq_true rfl; simp only [nm, Nat.reduceAdd, spliceA, AV.cells, D.cells]) | (apply AGo.build; (iterate 5 rfl); simp only [nm, Nat.reduceAdd, spliceA, AV.cells, D.cells, mkAgg, unDs, AV.unD]) | (apply AGo.unguard; rfl; rfl) | (apply AGo.gBT; rfl; rfl; rfl; first | (simp only [bT]; omega)) | (apply AGo.gBF; rfl; rfl; rfl; first | (simp only [bF]; omega) | exact ndF rfl) | (apply AGo.skipOp; rfl; rfl; rfl) | intro _ | (apply AGo.retN; rfl; rfl; rfl; rfl) | (apply AGo.retL; rfl; rfl; rfl; rfl) | (apply AGo.outL; rfl; rfl))
      have hlv' := hlv.symm.trans (levS_nil _ _)
      all_goals first | exact ⟨by rw [levT_some hlv']; rfl, rfl⟩ | trace_state
end Go.Proofs.YtbfojhfiemcnpaaDoor.Av.Tc

/- The levels of a block: the walk of the reference's Levels. -/
set_option linter.unusedSimpArgs false
set_option linter.unusedVariables false
set_option maxRecDepth 100000
namespace Go.Proofs.YtbfojhfiemcnpaaDoor.Av.Tc
open Go Bt
attribute [local irreducible] AGo ACalls
variable {gl : List (Nat × List D)}
attribute [local irreducible] evsD levS evR
end Go.Proofs.YtbfojhfiemcnpaaDoor.Av.Tc

/- The reference's words of a text. -/
set_option linter.unusedSimpArgs false
set_option linter.unusedVariables false
set_option maxRecDepth 100000
namespace Go.Proofs.YtbfojhfiemcnpaaDoor.Av.Tc
open Go Bt
attribute [local irreducible] AGo ACalls
variable {gl : List (Nat × List D)}
def wstep (ws : List (List UInt8)) (c : UInt8) : List (List UInt8) := if c = 32 then ws ++ [[]] else ws.set (ws.length - 1) (ws.getD (ws.length - 1) [] ++ [c])
def wordsS (s : List UInt8) : List (List UInt8) := s.foldl wstep [[]]
attribute [local irreducible] rowsD
end Go.Proofs.YtbfojhfiemcnpaaDoor.Av.Tc
