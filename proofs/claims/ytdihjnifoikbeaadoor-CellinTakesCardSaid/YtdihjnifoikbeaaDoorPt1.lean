/- Events: what may be one; the levels of a block. The levels of a block: the walks of both Levels. The levels of a block: the walk of the reference's Levels. The reference's words of a text. -/
import Derived.Test.YtdihjnifoikbeaaDoorPd
import Derived.Test.YtdihjnifoikbeaaDoorPn
/- Events: what may be one; the levels of a block. -/
set_option linter.unusedSimpArgs false
set_option linter.unusedVariables false
set_option maxRecDepth 100000
namespace Go.Proofs.YtdihjnifoikbeaaDoor.Av.Tc
open Go Bt
attribute [local irreducible] AGo ACalls
variable {gl : List (Nat × List D)}
def envBnd (m : Nat) : Env → Bool
  | [] => true
  | (_, v) :: r => v.bnd m && envBnd m r
theorem envBnd_get (m : Nat) : ∀ (env : Env), envBnd m env = true → ∀ i, (env.get i).bnd m = true
  | [], _, i => rfl
  | (j, v) :: r, h, i => by
    simp only [envBnd, Bool.and_eq_true] at h
    simp only [Env.get]
    cases Nat.beq j i with
    | true => exact h.1
    | false => exact envBnd_get m r h.2 i
structure Ev where
  last : Bool
  run : Int
  level : Int
abbrev evD (e : Ev) : D := .agg [.bool e.last, .int .i64 e.run, .int .i64 e.level]
def evsD (l : List Ev) : List D := l.map evD
def evR (e : Ev) : Bool := decide ((0 ≤ e.run ∧ e.run ≤ 63) ∧ e.level ≠ 0 ∧ -127 ≤ e.level ∧ e.level ≤ 127)
theorem evsD_len (l : List Ev) : (evsD l).length = l.length := by simp [evsD]
theorem evsD_get (l : List Ev) (i : Nat) (e : Ev) (h : l[i]? = some e) : (evsD l).getD i .top = evD e := by simp [evsD, List.getD, h]
theorem ev_load (ti : TI) (ha : ti.agg = true) (hs : ti.size = 3) (l : List Ev) (i : Nat) (e : Ev) (h : l[i]? = some e) : loadD ti ((evsD l).getD i .top).cells 0 = some (evD e) := by
  rw [evsD_get l i e h]
  unfold loadD evD
  rw [ha, hs]; rfl
theorem right_c (e : Ev) : ACalls (cxg gl) 137 [.d (evD e)] [] (fun r H => r = B (evR e) ∧ H = []) := by
  obtain ⟨la, ru, le⟩ := e
  by_cases h : (0 ≤ ru ∧ ru ≤ 63) ∧ le ≠ 0 ∧ -127 ≤ le ∧ le ≤ 127
  · rw [show evR ⟨la, ru, le⟩ = true from decide_eq_true h]
    refine ACalls.enter Tryd.func137 rfl Tryd.ntmps137 (by kernel_rfl) rfl ?_; simp only [argEnv, Nat.reduceAdd, List.length_nil, List.length_cons]
    repeat' (first | apply AGo.seq | apply AGo.nil | (apply AGo.region; rfl) | (apply AGo.q true; rfl; rfl; rfl; rfl; first | exact True.intro | omega | (simp only [Int.toNat_natCast, Int.reduceToNat, IntKind.bits]; omega)) | (apply AGo.box; (iterate 6 rfl); simp only [nm, Nat.reduceAdd, spliceA, AV.cells, D.cells]) | (apply AGo.unguard; rfl; rfl) | (apply AGo.gT; rfl; rfl; rfl; first | omega | rfl) | (apply AGo.gBT; rfl; rfl; rfl; first | (simp only [bT]; omega)) | (apply AGo.skipOp; rfl; rfl; rfl) | intro _ | (apply AGo.gD; rfl; rfl; rfl) | (apply AGo.gS; rfl; rfl; rfl) | (apply AGo.retN; rfl; rfl; rfl; rfl))
    all_goals first | exact ⟨rfl, rfl⟩ | (exfalso; omega) | exact ⟨congrArg B (by simp only [Bool.true_and, Bool.not_eq_true', Bool.not_eq_false', decide_eq_true_eq, decide_eq_false_iff_not] at *; omega), rfl⟩ | trace_state
  · rw [show evR ⟨la, ru, le⟩ = false from decide_eq_false h]
    refine ACalls.enter Tryd.func137 rfl Tryd.ntmps137 (by kernel_rfl) rfl ?_; simp only [argEnv, Nat.reduceAdd, List.length_nil, List.length_cons]
    repeat' (first | apply AGo.seq | apply AGo.nil | (apply AGo.region; rfl) | (apply AGo.q true; rfl; rfl; rfl; rfl; first | exact True.intro | omega | (simp only [Int.toNat_natCast, Int.reduceToNat, IntKind.bits]; omega)) | (apply AGo.box; (iterate 6 rfl); simp only [nm, Nat.reduceAdd, spliceA, AV.cells, D.cells]) | (apply AGo.unguard; rfl; rfl) | (apply AGo.gT; rfl; rfl; rfl; first | omega | rfl) | (apply AGo.gBT; rfl; rfl; rfl; first | (simp only [bT]; omega)) | (apply AGo.skipOp; rfl; rfl; rfl) | intro _ | (apply AGo.gD; rfl; rfl; rfl) | (apply AGo.gS; rfl; rfl; rfl) | (apply AGo.retN; rfl; rfl; rfl; rfl))
    all_goals first | exact ⟨rfl, rfl⟩ | (exfalso; omega) | exact ⟨congrArg B (by simp only [Bool.true_and, Bool.not_eq_true', Bool.not_eq_false', decide_eq_true_eq, decide_eq_false_iff_not] at *; omega), rfl⟩ | trace_state
theorem rright_c (e : Ev) : ACalls (cxg gl) 131 [.d (evD e)] [] (fun r H => r = B (evR e) ∧ H = []) := by
  obtain ⟨la, ru, le⟩ := e
  by_cases h : (0 ≤ ru ∧ ru ≤ 63) ∧ le ≠ 0 ∧ -127 ≤ le ∧ le ≤ 127
  · rw [show evR ⟨la, ru, le⟩ = true from decide_eq_true h]
    refine ACalls.enter Tryd.func131 rfl Tryd.ntmps131 (by kernel_rfl) rfl ?_; simp only [argEnv, Nat.reduceAdd, List.length_nil, List.length_cons]
    repeat' (first | apply AGo.seq | apply AGo.nil | (apply AGo.region; rfl) | (apply AGo.q true; rfl; rfl; rfl; rfl; first | exact True.intro | omega | (simp only [Int.toNat_natCast, Int.reduceToNat, IntKind.bits]; omega)) | (apply AGo.box; (iterate 6 rfl); simp only [nm, Nat.reduceAdd, spliceA, AV.cells, D.cells]) | (apply AGo.unguard; rfl; rfl) | (apply AGo.gT; rfl; rfl; rfl; first | omega | rfl) | (apply AGo.skipOp; rfl; rfl; rfl) | intro _ | (apply AGo.gD; rfl; rfl; rfl) | (apply AGo.retN; rfl; rfl; rfl; rfl))
    all_goals first | exact ⟨rfl, rfl⟩ | (exfalso; omega) | exact ⟨congrArg B (by simp only [Bool.true_and, Bool.not_eq_true', Bool.not_eq_false', decide_eq_true_eq, decide_eq_false_iff_not] at *; omega), rfl⟩ | trace_state
  · rw [show evR ⟨la, ru, le⟩ = false from decide_eq_false h]
    refine ACalls.enter Tryd.func131 rfl Tryd.ntmps131 (by kernel_rfl) rfl ?_; simp only [argEnv, Nat.reduceAdd, List.length_nil, List.length_cons]
    repeat' (first | apply AGo.seq | apply AGo.nil | (apply AGo.region; rfl) | (apply AGo.q true; rfl; rfl; rfl; rfl; first | exact True.intro | omega | (simp only [Int.toNat_natCast, Int.reduceToNat, IntKind.bits]; omega)) | (apply AGo.box; (iterate 6 rfl); simp only [nm, Nat.reduceAdd, spliceA, AV.cells, D.cells]) | (apply AGo.unguard; rfl; rfl) | (apply AGo.gT; rfl; rfl; rfl; first | omega | rfl) | (apply AGo.skipOp; rfl; rfl; rfl) | intro _ | (apply AGo.gD; rfl; rfl; rfl) | (apply AGo.retN; rfl; rfl; rfl; rfl))
    all_goals first | exact ⟨rfl, rfl⟩ | (exfalso; omega) | exact ⟨congrArg B (by simp only [Bool.true_and, Bool.not_eq_true', Bool.not_eq_false', decide_eq_true_eq, decide_eq_false_iff_not] at *; omega), rfl⟩ | trace_state
end Go.Proofs.YtdihjnifoikbeaaDoor.Av.Tc

/- The levels of a block: the walks of both Levels. -/
set_option linter.unusedSimpArgs false
set_option linter.unusedVariables false
set_option maxRecDepth 100000
namespace Go.Proofs.YtdihjnifoikbeaaDoor.Av.Tc
open Go Bt
attribute [local irreducible] AGo ACalls
variable {gl : List (Nat × List D)}
attribute [local irreducible] evsD evR
end Go.Proofs.YtdihjnifoikbeaaDoor.Av.Tc

/- The levels of a block: the walk of the reference's Levels. -/
set_option linter.unusedSimpArgs false
set_option linter.unusedVariables false
set_option maxRecDepth 100000
namespace Go.Proofs.YtdihjnifoikbeaaDoor.Av.Tc
open Go Bt
attribute [local irreducible] AGo ACalls
variable {gl : List (Nat × List D)}
attribute [local irreducible] evsD evR
end Go.Proofs.YtdihjnifoikbeaaDoor.Av.Tc

/- The reference's words of a text. -/
set_option linter.unusedSimpArgs false
set_option linter.unusedVariables false
set_option maxRecDepth 100000
namespace Go.Proofs.YtdihjnifoikbeaaDoor.Av.Tc
open Go Bt
attribute [local irreducible] AGo ACalls
variable {gl : List (Nat × List D)}
def wstep (ws : List (List UInt8)) (c : UInt8) : List (List UInt8) := if c = 32 then ws ++ [[]] else ws.set (ws.length - 1) (ws.getD (ws.length - 1) [] ++ [c])
def wordsS (s : List UInt8) : List (List UInt8) := s.foldl wstep [[]]
theorem wstep_ne (ws : List (List UInt8)) (c : UInt8) (h : 0 < ws.length) : 0 < (wstep ws c).length := by
  unfold wstep; split
  · simp
  · simpa using h
theorem rowsD_snoc (ws : List (List UInt8)) (x : List UInt8) : rowsD (ws ++ [x]) = rowsD ws ++ [.str x] := by simp [rowsD]
theorem rowsD_set (ws : List (List UInt8)) (i : Nat) (x : List UInt8) : rowsD (ws.set i x) = (rowsD ws).set i (.str x) := by simp [rowsD, List.map_set]
theorem rowsD_at (ws : List (List UInt8)) (i : Nat) (h : i < ws.length) : (rowsD ws)[i]? = some (.str (ws.getD i [])) := by simp [rowsD, List.getD, h]
theorem wstep_short (ws : List (List UInt8)) (c : UInt8) (n : Nat) (h : ∀ w ∈ ws, w.length ≤ n) (hp : 0 < ws.length) : ∀ w ∈ wstep ws c, w.length ≤ n + 1 := by
  unfold wstep
  intro w hw
  split at hw
  · rcases List.mem_append.1 hw with hw | hw
    · have := h w hw; omega
    · simp at hw; subst hw; simp
  · rcases List.mem_or_eq_of_mem_set hw with hw | rfl
    · have := h w hw; omega
    · have := h (ws.getD (ws.length - 1) []) (by
        rw [List.getD_eq_getElem?_getD, List.getElem?_eq_getElem (by omega)]; exact List.getElem_mem _)
      rw [List.length_append, List.length_singleton]; omega
attribute [local irreducible] rowsD
set_option maxHeartbeats 4000000 in
theorem words_c (s : List UInt8) (hs : s.length ≤ 100000) : ACalls (cxg gl) 148 [S s] [] (fun r H => r = .own 1 (rowsD (wordsS s)) 0 ∧ H = [.front 9 1 (rowsD (wordsS s)).length]) := by
  have e0 : [D.str []] = rowsD [[]] := by unfold rowsD; rfl
  refine ACalls.enter Tryd.func148 rfl Tryd.ntmps148 (by kernel_rfl) rfl ?_; simp only [argEnv, Nat.reduceAdd, List.length_nil, List.length_cons]
  repeat (first | (apply AGo.buildM; (iterate 11 rfl); simp only [List.length_cons, List.length_nil, Nat.reduceAdd, List.nil_append, List.cons_append]) | apply AGo.seq | apply AGo.block | apply AGo.blk | apply AGo.skip | apply AGo.nil | apply AGo.snil | (apply AGo.region; rfl) | ((first | apply AGo.q true | apply AGo.sq true); rfl; rfl; rfl; rfl; first | exact True.intro | omega | (simp only [Int.toNat_natCast, Int.reduceToNat, IntKind.bits]; omega)) | (apply AGo.drawT; rfl; rfl; rfl; decide +kernel) | (apply AGo.condDT; rfl; first | omega | rfl) | (apply AGo.condDF; rfl; omega) | (apply AGo.buildSlice; (iterate 11 rfl)))
  refine AGo.weak (env' := [(4, I ((0 : Nat) : Int)), (3, .ms 0 (rowsD [[]]).length), (0, S s)]) ⟨rfl, congrArg (AV.ms 0) (show 1 = (rowsD [[]]).length by rw [← e0]; rfl), rfl, trivial⟩ ?_
  refine AGo.loop (fun m env H => ∃ (i : Nat) (ws : List (List UInt8)), m = s.length - i ∧ i ≤ s.length ∧ 0 < ws.length ∧ ws.length ≤ i + 1 ∧ (∀ w ∈ ws, w.length ≤ i) ∧ (s.drop i).foldl wstep ws = wordsS s ∧
    env = [(4, I (i : Int)), (3, .ms 0 (rowsD ws).length), (0, S s)] ∧ H = [.arr 9 1 (rowsD ws)]) s.length
    ⟨0, [[]], by omega, by omega, by decide, by decide, by simp, rfl, rfl, by rw [← e0]⟩ ?_
  rintro m env H ⟨i, ws, rfl, hi, hw0, hw1, hws, hf, rfl, rfl⟩
  have hl := rowsD_len ws
  rcases Nat.lt_or_ge i s.length with hlt | hge
  · obtain ⟨c, hc⟩ : ∃ c, s[i]? = some c := ⟨_, List.getElem?_eq_getElem hlt⟩
    have hb := bt_get s i c hc
    rw [drop_cut s i c hc, List.foldl_cons] at hf
    have hwl : (wstep ws c).length ≤ i + 1 + 1 := by
      unfold wstep; split
      · rw [List.length_append, List.length_singleton]; omega
      · rw [List.length_set]; omega
    have inv := fun (hH : _) => (⟨i + 1, wstep ws c, rfl, hlt, wstep_ne ws c hw0, hwl, wstep_short ws c i hws hw0, hf, rfl, hH⟩ : ∃ (j : Nat) (vs : List (List UInt8)), s.length - (i + 1) = s.length - j ∧ j ≤ s.length ∧ 0 < vs.length ∧ vs.length ≤ j + 1 ∧ (∀ w ∈ vs, w.length ≤ j) ∧ (s.drop j).foldl wstep vs = wordsS s ∧ [(4, I ((i + 1 : Nat) : Int)), (3, AV.ms 0 (rowsD (wstep ws c)).length), (0, S s)] = [(4, I (j : Int)), (3, .ms 0 (rowsD vs).length), (0, S s)] ∧ [AObj.arr 9 1 (rowsD (wstep ws c))] = [.arr 9 1 (rowsD vs)])
    by_cases h32 : c = 32
    · subst h32
      have hb' : bt s (i : Int).toNat = 32 := hb
      have e1 : rowsD ws ++ [.str []] = rowsD (wstep ws 32) := by unfold wstep; rw [if_pos rfl, rowsD_snoc]
      repeat' (first | apply AGo.seq | apply AGo.block | apply AGo.blk | apply AGo.skip | apply AGo.nil | apply AGo.snil | (apply AGo.region; rfl) | ((first | apply AGo.q true | apply AGo.sq true); rfl; rfl; rfl; rfl; first | exact True.intro | omega | (simp only [Int.toNat_natCast, Int.reduceToNat, IntKind.bits]; omega) | (rw [hl]; simp only [List.length_cons, List.length_nil]; omega)) | (apply AGo.drawT; rfl; rfl; rfl; decide +kernel) | (apply AGo.condDT; rfl; first | omega | rfl) | (apply AGo.condDF; rfl; omega) | (apply AGo.buildSlice; (iterate 11 rfl)) | (apply AGo.appendM; (iterate 11 rfl); (first | rfl | (simp only [List.length_append, List.length_map, List.length_set, List.length_replicate, List.length_cons, List.length_nil]; omega) | (rw [hl]; simp only [List.length_cons, List.length_nil]; omega)); (first | (simp only [List.length_append, List.length_map, List.length_cons, List.length_nil]; omega) | (rw [hl]; simp only [List.length_cons, List.length_nil]; omega)); simp only [List.set_cons_zero, List.set_cons_succ]) | (apply AGo.storeM; (iterate 11 rfl); (first | rfl | (simp only [List.length_append, List.length_map, List.length_set, List.length_replicate, List.length_cons, List.length_nil]; omega) | (rw [hl]; simp only [List.length_cons, List.length_nil]; omega)); rfl; (first | decide | exact Nat.le_of_ble_eq_true rfl | (dsimp only; omega) | decide +kernel | (rw [hl]; simp only [List.length_cons, List.length_nil]; omega)); simp only [List.set_cons_zero, List.set_cons_succ]) | (apply AGo.sopx; (first | (apply quiet_lenM; (iterate 5 rfl); (first | rfl | (simp only [List.length_append, List.length_map, List.length_set, List.length_replicate, List.length_cons, List.length_nil]; omega) | (rw [hl]; simp only [List.length_cons, List.length_nil]; omega))) | (apply quiet_idxM; (iterate 8 rfl); (first | rfl | (simp only [List.length_append, List.length_map, List.length_set, List.length_replicate, List.length_cons, List.length_nil]; omega) | (rw [hl]; simp only [List.length_cons, List.length_nil]; omega)); (first | decide | exact Nat.le_of_ble_eq_true rfl | (dsimp only; omega) | decide +kernel | (rw [hl]; simp only [List.length_cons, List.length_nil]; omega))) | (apply quiet_loadM; rfl; rfl; rfl; rfl; (first | rfl | (simp only [List.length_append, List.length_map, List.length_set, List.length_replicate, List.length_cons, List.length_nil]; omega) | (rw [hl]; simp only [List.length_cons, List.length_nil]; omega)); rfl; rfl)); rfl; rfl; rfl) | intro _ | (apply AGo.outL; rfl; rfl))
      all_goals first | (rw [e1]; exact AGo.round [(4, I ((i + 1 : Nat) : Int)), (3, .ms 0 (rowsD (wstep ws 32)).length), (0, S s)] (s.length - (i + 1)) (by omega) ⟨rfl, rfl, rfl, trivial⟩ (inv rfl)) | omega | trace_state
    · have hb' : bt s (i : Int).toNat ≠ 32 := fun h => h32 ((toNat_eq (c := c) (n := 32) (by omega)).1 (by rw [← hb]; exact h))
      have el : ((rowsD ws).length : Int) - 1 = ((ws.length - 1 : Nat) : Int) := by omega
      have m1 : (rowsD ws)[(((rowsD ws).length : Int) - 1).toNat]? = some (.str (ws.getD (ws.length - 1) [])) := by
        rw [el, Int.toNat_natCast]; exact rowsD_at ws _ (by omega)
      have ecut : (s.take ((i : Int) + 1).toNat).drop (i : Int).toNat = [c] := by
        rw [show ((i : Int) + 1).toNat = i + 1 by omega, Int.toNat_natCast, List.take_add_one, hc]
        rw [List.drop_append_of_le_length (by rw [List.length_take]; omega), List.drop_of_length_le (by rw [List.length_take]; omega)]; rfl
      have e1 : (rowsD ws).set (((rowsD ws).length : Int) - 1).toNat (D.str (ws.getD (ws.length - 1) [] ++ (s.take ((i : Int) + 1).toNat).drop (i : Int).toNat)) = rowsD (wstep ws c) := by
        unfold wstep; rw [if_neg h32, rowsD_set, el, Int.toNat_natCast, ecut]
      have hgl : (ws.getD (ws.length - 1) []).length ≤ i := hws _ (by rw [List.getD_eq_getElem?_getD, List.getElem?_eq_getElem (by omega)]; exact List.getElem_mem _)
      repeat' (first | apply AGo.seq | apply AGo.block | apply AGo.blk | apply AGo.skip | apply AGo.nil | apply AGo.snil | (apply AGo.region; rfl) | ((first | apply AGo.q true | apply AGo.sq true); rfl; rfl; rfl; rfl; first | exact True.intro | omega | (simp only [Int.toNat_natCast, Int.reduceToNat, IntKind.bits]; omega) | omega | (rw [ecut]; simp only [List.length_cons, List.length_nil]; omega)) | (apply AGo.drawT; rfl; rfl; rfl; decide +kernel) | (apply AGo.condDT; rfl; first | omega | rfl) | (apply AGo.condDF; rfl; omega) | (apply AGo.buildSlice; (iterate 11 rfl)) | (apply AGo.appendM; (iterate 11 rfl); (first | rfl | (simp only [List.length_append, List.length_map, List.length_set, List.length_replicate, List.length_cons, List.length_nil]; omega) | omega | (rw [ecut]; simp only [List.length_cons, List.length_nil]; omega)); (first | (simp only [List.length_append, List.length_map, List.length_cons, List.length_nil]; omega) | omega | (rw [ecut]; simp only [List.length_cons, List.length_nil]; omega)); simp only [List.set_cons_zero, List.set_cons_succ]) | (apply AGo.storeM; (iterate 11 rfl); (first | rfl | (simp only [List.length_append, List.length_map, List.length_set, List.length_replicate, List.length_cons, List.length_nil]; omega) | omega | (rw [ecut]; simp only [List.length_cons, List.length_nil]; omega)); (first | rfl | exact m1); (first | decide | exact Nat.le_of_ble_eq_true rfl | (dsimp only; omega) | decide +kernel | omega | (rw [ecut]; simp only [List.length_cons, List.length_nil]; omega)); simp only [List.set_cons_zero, List.set_cons_succ]) | (apply AGo.sopx; (first | (apply quiet_lenM; (iterate 5 rfl); (first | rfl | (simp only [List.length_append, List.length_map, List.length_set, List.length_replicate, List.length_cons, List.length_nil]; omega) | omega | (rw [ecut]; simp only [List.length_cons, List.length_nil]; omega))) | (apply quiet_idxM; (iterate 8 rfl); (first | rfl | (simp only [List.length_append, List.length_map, List.length_set, List.length_replicate, List.length_cons, List.length_nil]; omega) | omega | (rw [ecut]; simp only [List.length_cons, List.length_nil]; omega)); (first | decide | exact Nat.le_of_ble_eq_true rfl | (dsimp only; omega) | decide +kernel | omega | (rw [ecut]; simp only [List.length_cons, List.length_nil]; omega))) | (apply quiet_loadM; rfl; rfl; rfl; rfl; (first | rfl | (simp only [List.length_append, List.length_map, List.length_set, List.length_replicate, List.length_cons, List.length_nil]; omega) | omega | (rw [ecut]; simp only [List.length_cons, List.length_nil]; omega)); (first | rfl | exact m1); rfl)); rfl; rfl; rfl) | intro _ | (apply AGo.outL; rfl; rfl))
      refine AGo.round [(4, I ((i + 1 : Nat) : Int)), (3, .ms 0 (rowsD (wstep ws c)).length), (0, S s)] (s.length - (i + 1)) (by omega) ⟨rfl, congrArg (AV.ms 0) (by rw [← e1, List.length_set]), rfl, trivial⟩ ?_
      rw [show setD (D.str (ws.getD (ws.length - 1) [])) 0 [D.str (ws.getD (ws.length - 1) [] ++ (s.take ((i : Int) + 1).toNat).drop (i : Int).toNat)] = D.str (ws.getD (ws.length - 1) [] ++ (s.take ((i : Int) + 1).toNat).drop (i : Int).toNat) from rfl, e1]
      exact inv rfl
  · obtain rfl : i = s.length := by omega
    rw [List.drop_length] at hf
    have hf' : ws = wordsS s := hf
    subst hf'
    repeat' (first | apply AGo.seq | apply AGo.block | apply AGo.blk | apply AGo.skip | apply AGo.nil | apply AGo.snil | (apply AGo.region; rfl) | ((first | apply AGo.q true | apply AGo.sq true); rfl; rfl; rfl; rfl; first | exact True.intro | omega | (simp only [Int.toNat_natCast, Int.reduceToNat, IntKind.bits]; omega)) | (apply AGo.drawT; rfl; rfl; rfl; decide +kernel) | (apply AGo.condDT; rfl; first | omega | rfl) | (apply AGo.condDF; rfl; omega) | (apply AGo.buildSlice; (iterate 11 rfl)) | (apply AGo.appendM; (iterate 11 rfl); (first | rfl | (simp only [List.length_append, List.length_map, List.length_set, List.length_replicate, List.length_cons, List.length_nil]; omega)); ((simp only [List.length_append, List.length_map, List.length_cons, List.length_nil]; omega)); simp only [List.set_cons_zero, List.set_cons_succ]) | (apply AGo.storeM; (iterate 11 rfl); (first | rfl | (simp only [List.length_append, List.length_map, List.length_set, List.length_replicate, List.length_cons, List.length_nil]; omega)); rfl; (first | decide | exact Nat.le_of_ble_eq_true rfl | (dsimp only; omega) | decide +kernel); simp only [List.set_cons_zero, List.set_cons_succ]) | (apply AGo.sopx; (first | (apply quiet_lenM; (iterate 5 rfl); (first | rfl | (simp only [List.length_append, List.length_map, List.length_set, List.length_replicate, List.length_cons, List.length_nil]; omega))) | (apply quiet_idxM; (iterate 8 rfl); (first | rfl | (simp only [List.length_append, List.length_map, List.length_set, List.length_replicate, List.length_cons, List.length_nil]; omega)); (first | decide | exact Nat.le_of_ble_eq_true rfl | (dsimp only; omega) | decide +kernel)) | (apply quiet_loadM; rfl; rfl; rfl; rfl; (first | rfl | (simp only [List.length_append, List.length_map, List.length_set, List.length_replicate, List.length_cons, List.length_nil]; omega)); rfl; rfl)); rfl; rfl; rfl) | (apply AGo.freezeR 2; rfl; rfl; (first | rfl | (simp only [List.length_append, List.length_map, List.length_set, List.length_replicate, List.length_cons, List.length_nil]; omega)); simp only [List.set_cons_zero, List.set_cons_succ]) | intro _ | (apply AGo.outL; rfl; rfl))
    (apply AGo.retK 1; rfl; rfl; rfl; rfl; rfl)
    exact ⟨rfl, rfl⟩
end Go.Proofs.YtdihjnifoikbeaaDoor.Av.Tc
