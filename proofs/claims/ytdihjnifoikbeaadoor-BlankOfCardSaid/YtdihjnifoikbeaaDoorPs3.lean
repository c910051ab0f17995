/- Events, cloned. Cells, with events of their own. Rows of sheets; the cells of all rows. The cells of all rows: sound.Cells. -/
import Derived.Test.YtdihjnifoikbeaaDoorPn3
import Derived.Test.YtdihjnifoikbeaaDoorCo3
import Derived.Test.YtdihjnifoikbeaaDoorPs1
/- Events, cloned. -/
set_option linter.unusedSimpArgs false
set_option linter.unusedVariables false
set_option maxRecDepth 100000
namespace Go.Proofs.YtdihjnifoikbeaaDoor.Av.Sh
open Go Bt
attribute [local irreducible] AGo ACalls
variable {gl : List (Nat × List D)}
set_option maxHeartbeats 4000000 in
theorem clone_c (es : List D) (hl : es.length ≤ 1000000) :
    ACalls (cxg gl) 140 [.d (.sl 3 es)] [] (fun r H => r = .d (.sl 3 es) ∧ H = []) := by
  refine ACalls.enter Tryd.func140 rfl Tryd.ntmps140 (by kernel_rfl) rfl ?_; simp only [argEnv, Nat.reduceAdd, List.length_nil, List.length_cons]
  repeat' (first | (apply AGo.build0; (iterate 7 rfl); simp only [List.length_cons, List.length_nil, Nat.reduceAdd, List.nil_append, List.cons_append]) | apply AGo.seq | apply AGo.skip | apply AGo.nil | (apply AGo.region; rfl) | (apply AGo.q true; rfl; rfl; rfl; rfl; first | exact True.intro | omega | (simp only [Int.toNat_natCast, Int.reduceToNat, IntKind.bits]; omega) | (omega)) | (apply AGo.condT; rfl) | (apply AGo.condF; rfl) | (apply AGo.nilO; (iterate 9 rfl); intro b hb; cases b) | (apply AGo.retW (.d (.sl 3 es)); rfl; exact Weak.own _ _ _; rfl; rfl; rfl) | (apply AGo.retW (.d (.sl 3 [])); rfl; exact Weak.d (DWeak.nils 3); rfl; rfl; rfl) | (apply AGo.appendM; (iterate 11 rfl); (first | rfl | (simp only [List.length_append, List.length_map, List.length_set, List.length_replicate, List.length_cons, List.length_nil]; omega) | (omega)); (first | (simp only [List.length_append, List.length_map, List.length_cons, List.length_nil]; omega) | (omega)); simp only [List.set_cons_zero, List.set_cons_succ]) | (apply AGo.freezeR 2; rfl; rfl; (first | rfl | (simp only [List.length_append, List.length_map, List.length_set, List.length_replicate, List.length_cons, List.length_nil]; omega) | (omega)); simp only [List.set_cons_zero, List.set_cons_succ]) | intro _)
  all_goals first | exact ⟨rfl, rfl⟩ | (exfalso; omega) | (obtain rfl := hb rfl; exact ⟨rfl, rfl⟩) | trace_state
end Go.Proofs.YtdihjnifoikbeaaDoor.Av.Sh

/- Cells, with events of their own. -/
set_option linter.unusedSimpArgs false
set_option linter.unusedVariables false
set_option maxRecDepth 100000
namespace Go.Proofs.YtdihjnifoikbeaaDoor.Av.Sh
open Go Bt Tc Co
attribute [local irreducible] AGo ACalls
variable {gl : List (Nat × List D)}
theorem clone_ev (l : List Ev) (hl : l.length ≤ 1000000) : ACalls (cxg gl) 140 [.d (evS l)] [] (fun r H => r = .d (evS l) ∧ H = []) :=
  clone_c (gl := gl) (evsD l) (by rw [evsD_len]; exact hl)
attribute [local irreducible] evsD
set_option maxHeartbeats 4000000 in
theorem own_c (c : Cel) (ok : CelOk c) :
    ACalls (cxg gl) 110 [.d (celD c)] [] (fun r H => r = .d (celD c) ∧ H = []) := by
  have k0 := clone_ev (gl := gl) c.e0 ok.e0.1
  have k1 := clone_ev (gl := gl) c.e1 ok.e1.1
  have k2 := clone_ev (gl := gl) c.e2 ok.e2.1
  have k3 := clone_ev (gl := gl) c.e3 ok.e3.1
  have k4 := clone_ev (gl := gl) c.e4 ok.e4.1
  have k5 := clone_ev (gl := gl) c.e5 ok.e5.1
  refine ACalls.enter Tryd.func110 rfl Tryd.ntmps110 (by kernel_rfl) rfl ?_; simp only [argEnv, Nat.reduceAdd, List.length_nil, List.length_cons]
  repeat' (first | apply AGo.seq | apply AGo.block | apply AGo.blk | apply AGo.skip | apply AGo.nil | (apply AGo.region; rfl) | (apply AGo.q true; rfl; rfl; rfl; rfl; first | exact True.intro | omega | (simp only [Int.toNat_natCast, Int.reduceToNat, IntKind.bits]; omega) | (exact ⟨by omega, Nat.le_of_ble_eq_true rfl⟩)) | (apply AGo.callP (k0); (iterate 6 rfl)) | (apply AGo.callP (k1); (iterate 6 rfl)) | (apply AGo.callP (k2); (iterate 6 rfl)) | (apply AGo.callP (k3); (iterate 6 rfl)) | (apply AGo.callP (k4); (iterate 6 rfl)) | (apply AGo.callP (k5); (iterate 6 rfl)) | (apply AGo.exit; rfl) | (apply AGo.condDT; rfl; first | omega | rfl) | (apply AGo.condDF; rfl; omega) | (apply AGo.alloc; (iterate 5 rfl); simp only [nm, Nat.reduceAdd, spliceA, AV.cells, D.cells]) | (apply AGo.box; (iterate 6 rfl); simp only [nm, Nat.reduceAdd, spliceA, AV.cells, D.cells]) | (apply AGo.store; (iterate 9 rfl); exact Nat.le_of_ble_eq_true rfl; simp only [nm, Nat.reduceAdd, spliceA, AV.cells, D.cells]) | apply AGo.loopU | apply AGo.lpU | intro _ | (apply AGo.retN; rfl; rfl; rfl; rfl))
  all_goals first | exact ⟨rfl, rfl⟩ | (exfalso; omega) | trace_state
end Go.Proofs.YtdihjnifoikbeaaDoor.Av.Sh

/- Rows of sheets; the cells of all rows. -/
set_option linter.unusedSimpArgs false
set_option linter.unusedVariables false
set_option maxRecDepth 100000
namespace Go.Proofs.YtdihjnifoikbeaaDoor.Av.Sh
open Go Bt Tc Co
attribute [local irreducible] AGo ACalls
variable {gl : List (Nat × List D)}
structure Rw where
  head : Bool
  id : Int
  quant : Int
  cells : List Cel
def celsD (l : List Cel) : List D := l.map fun c => celD c
theorem celsD_len (l : List Cel) : (celsD l).length = l.length := by simp [celsD]
theorem celsD_nil : celsD [] = [] := rfl
theorem celsD_add (l : List Cel) (c : Cel) : celsD (l ++ [c]) = celsD l ++ [celD c] := by simp [celsD]
theorem celsD_get {l : List Cel} {k : Nat} {c : Cel} (h : l[k]? = some c) : (celsD l).getD (k : Int).toNat .top = celD c := by
  simp [celsD, List.getD, h]
abbrev rwD (r : Rw) : D := .agg [.bool r.head, In r.id, In r.quant, .sl 18 (celsD r.cells)]
def rsD (l : List Rw) : List D := l.map fun r => rwD r
theorem rsD_len (l : List Rw) : (rsD l).length = l.length := by simp [rsD]
theorem rsD_get {l : List Rw} {k : Nat} {r : Rw} (h : l[k]? = some r) : (rsD l).getD (k : Int).toNat .top = rwD r := by
  simp [rsD, List.getD, h]
def cellsOf (l : List Rw) : List Cel := l.flatMap (·.cells)
theorem cellsOf_take {l : List Rw} {k : Nat} {r : Rw} (h : l[k]? = some r) : cellsOf (l.take (k + 1)) = cellsOf (l.take k) ++ r.cells := by
  unfold cellsOf
  rw [List.take_add_one, h, List.flatMap_append]; simp
theorem take_cel {l : List Cel} {k : Nat} {c : Cel} (h : l[k]? = some c) : l.take (k + 1) = l.take k ++ [c] := by
  rw [List.take_add_one, h]; rfl
end Go.Proofs.YtdihjnifoikbeaaDoor.Av.Sh

/- The cells of all rows: sound.Cells. -/
set_option linter.unusedSimpArgs false
set_option linter.unusedVariables false
set_option maxRecDepth 100000
namespace Go.Proofs.YtdihjnifoikbeaaDoor.Av.Sh
open Go Bt Tc Co
attribute [local irreducible] AGo ACalls
variable {gl : List (Nat × List D)}
/-- rows that are few, of cells whose events are few -/
structure RwsOk (rs : List Rw) : Prop where
  few : rs.length ≤ 1000
  cells : ∀ r ∈ rs, r.cells.length ≤ 1000 ∧ ∀ c ∈ r.cells, CelOk c
theorem cellsOf_le : ∀ (l : List Rw), (∀ r ∈ l, r.cells.length ≤ 1000) → (cellsOf l).length ≤ 1000 * l.length
  | [], _ => by simp [cellsOf]
  | r :: l, h => by
    have h1 := h r List.mem_cons_self
    have h2 := cellsOf_le l fun x hx => h x (List.mem_cons_of_mem _ hx)
    have e : cellsOf (r :: l) = r.cells ++ cellsOf l := rfl
    rw [e, List.length_append, List.length_cons]; omega
theorem RwsOk.le {rs : List Rw} (h : RwsOk rs) (i : Nat) : (cellsOf (rs.take i)).length ≤ 1000000 := by
  have h1 := cellsOf_le (rs.take i) fun r hr => (h.cells r (List.mem_of_mem_take hr)).1
  have h2 := h.few
  have h3 : (rs.take i).length ≤ 1000 := by rw [List.length_take]; omega
  omega
abbrev shA (h : Hd) (rs : List D) (z : Int) : List AV := [.d (Nn h.ref), .d (Nn h.flags), .d (Nn h.fmt), .d (.bool h.inter), .d (Nn h.quant), .d (.sl 1 (suD h.supp)), .d (.sl 4 rs), .d (Nn z)]
abbrev rwA (r : Rw) : List AV := [.d (.bool r.head), .d (In r.id), .d (In r.quant), .d (.sl 18 (celsD r.cells))]
attribute [local irreducible] evsD suD celsD rsD
set_option maxHeartbeats 8000000 in
theorem scells_c (h : Hd) (rs : List Rw) (z : Int) (ok : RwsOk rs) :
    ACalls (cxg gl) 78 [.d (shD h (rsD rs) z)] [] (fun r H => r = .d (.sl 18 (celsD (cellsOf rs))) ∧ H = []) := by
  have hn := rsD_len rs
  have hf := ok.few
  have e00 : celsD (cellsOf (rs.take 0)) = [] := by rw [List.take_zero]; exact celsD_nil
  refine ACalls.enter Tryd.func78 rfl Tryd.ntmps78 (by kernel_rfl) rfl ?_; simp only [argEnv, Nat.reduceAdd, List.length_nil, List.length_cons]
  repeat (first | apply AGo.seq | apply AGo.block | apply AGo.blk | apply AGo.skip | apply AGo.nil | (apply AGo.region; rfl) | (apply AGo.q true; rfl; rfl; rfl; rfl; first | exact True.intro | omega | (simp only [Int.toNat_natCast, Int.reduceToNat, IntKind.bits]; omega)) | (apply AGo.condDT; rfl; first | omega | rfl) | (apply AGo.condDF; rfl; omega) | (apply AGo.alloc; (iterate 5 rfl); simp only [nm, Nat.reduceAdd, spliceA, AV.cells, D.cells]) | (apply AGo.box; (iterate 6 rfl); simp only [nm, Nat.reduceAdd, spliceA, AV.cells, D.cells]) | (apply AGo.store; (iterate 9 rfl); exact Nat.le_of_ble_eq_true rfl; simp only [nm, Nat.reduceAdd, spliceA, AV.cells, D.cells]) | (apply AGo.buildSlice; (iterate 11 rfl)) | (apply AGo.ghostR 3 48 18; rfl; simp only [List.length_cons, List.length_nil, Nat.reduceAdd, List.cons_append, List.nil_append]))
  refine AGo.weak (env' := [(11, I ((0 : Nat) : Int)), (10, I ((rsD rs).length : Int)), (9, .d (.sl 4 (rsD rs))), (3, .ms 1 (celsD (cellsOf (rs.take 0))).length)]) ⟨rfl, rfl, rfl, by rw [e00]; rfl, trivial⟩ ?_
  refine AGo.loop (fun m env H => ∃ i : Nat, m = rs.length - i ∧ i ≤ rs.length ∧ env = [(11, I (i : Int)), (10, I ((rsD rs).length : Int)), (9, .d (.sl 4 (rsD rs))), (3, .ms 1 (celsD (cellsOf (rs.take i))).length)] ∧ H = [.cells (shA h (rsD rs) z), .arr 48 18 (celsD (cellsOf (rs.take i)))]) rs.length
    ⟨0, rfl, by omega, rfl, by rw [e00]⟩ ?_
  rintro m env H ⟨i, rfl, hi, rfl, rfl⟩
  rcases Nat.lt_or_ge i rs.length with hlt | hge
  · obtain ⟨r, hr⟩ : ∃ r, rs[i]? = some r := ⟨_, List.getElem?_eq_getElem hlt⟩
    have g1 := rsD_get hr
    have hrm := List.mem_of_getElem? hr
    obtain ⟨hrl, hrc⟩ := ok.cells r hrm
    have hX := ok.le i
    have eX := cellsOf_take hr
    have hm := celsD_len r.cells
    repeat' (first | (apply AGo.opx; (apply quiet_idxG; (iterate 7 rfl); (first | omega | (rw [hn]; omega)); exact g1); rfl; rfl; rfl) | apply AGo.seq | apply AGo.block | apply AGo.blk | apply AGo.skip | apply AGo.nil | (apply AGo.region; rfl) | (apply AGo.q true; rfl; rfl; rfl; rfl; first | exact True.intro | omega | (simp only [Int.toNat_natCast, Int.reduceToNat, IntKind.bits]; omega) | (rw [hn]; omega)) | (apply AGo.condDT; rfl; first | omega | rfl) | (apply AGo.condDF; rfl; omega) | (apply AGo.alloc; (iterate 5 rfl); simp only [nm, Nat.reduceAdd, spliceA, AV.cells, D.cells]) | (apply AGo.box; (iterate 6 rfl); simp only [nm, Nat.reduceAdd, spliceA, AV.cells, D.cells]) | (apply AGo.store; (iterate 9 rfl); exact Nat.le_of_ble_eq_true rfl; simp only [nm, Nat.reduceAdd, spliceA, AV.cells, D.cells]) | (apply AGo.buildSlice; (iterate 11 rfl)) | intro _ | (apply AGo.outL; rfl; rfl))
    generalize hXX : cellsOf (rs.take i) = X at *
    have e0 : celsD X = celsD (X ++ r.cells.take 0) := by simp
    rw [e0]
    refine AGo.weak (env' := [(18, I ((0 : Nat) : Int)), (17, I ((celsD r.cells).length : Int)), (16, .d (.sl 18 (celsD r.cells))), (11, I (i : Int)), (10, I ((rsD rs).length : Int)), (9, .d (.sl 4 (rsD rs))), (3, .ms 1 (celsD (X ++ r.cells.take 0)).length)]) ⟨rfl, rfl, rfl, rfl, rfl, rfl, rfl, trivial⟩ ?_
    refine AGo.loop (fun m env H => ∃ k : Nat, m = r.cells.length - k ∧ k ≤ r.cells.length ∧ env = [(18, I (k : Int)), (17, I ((celsD r.cells).length : Int)), (16, .d (.sl 18 (celsD r.cells))), (11, I (i : Int)), (10, I ((rsD rs).length : Int)), (9, .d (.sl 4 (rsD rs))), (3, .ms 1 (celsD (X ++ r.cells.take k)).length)] ∧ H = [.cells (shA h (rsD rs) z), .arr 48 18 (celsD (X ++ r.cells.take k)), .cells (rwA r)]) r.cells.length
      ⟨0, rfl, by omega, rfl, rfl⟩ ?_
    rintro m env H ⟨k, rfl, hk, rfl, rfl⟩
    rcases Nat.lt_or_ge k r.cells.length with hlt2 | hge2
    · obtain ⟨c, hc⟩ : ∃ c, r.cells[k]? = some c := ⟨_, List.getElem?_eq_getElem hlt2⟩
      have g2 := celsD_get hc
      have oc := own_c (gl := gl) c (hrc c (List.mem_of_getElem? hc))
      have et : celsD (X ++ r.cells.take (k + 1)) = celsD (X ++ r.cells.take k) ++ [celD c] := by rw [take_cel hc, ← List.append_assoc, celsD_add]
      have hlen : (celsD (X ++ r.cells.take k)).length ≤ 2000000 := by rw [celsD_len, List.length_append, List.length_take]; omega
      repeat' (first | (apply AGo.opx; (apply quiet_idxG; (iterate 7 rfl); (first | omega | (rw [hm]; omega)); exact g2); rfl; rfl; rfl) | apply AGo.seq | apply AGo.block | apply AGo.blk | apply AGo.skip | apply AGo.nil | (apply AGo.region; rfl) | (apply AGo.q true; rfl; rfl; rfl; rfl; first | exact True.intro | omega | (simp only [Int.toNat_natCast, Int.reduceToNat, IntKind.bits]; omega) | (rw [hm]; omega)) | (apply AGo.callP (oc); (iterate 6 rfl)) | (apply AGo.condDT; rfl; first | omega | rfl) | (apply AGo.condDF; rfl; omega) | (apply AGo.alloc; (iterate 5 rfl); simp only [nm, Nat.reduceAdd, spliceA, AV.cells, D.cells]) | (apply AGo.box; (iterate 6 rfl); simp only [nm, Nat.reduceAdd, spliceA, AV.cells, D.cells]) | (apply AGo.store; (iterate 9 rfl); exact Nat.le_of_ble_eq_true rfl; simp only [nm, Nat.reduceAdd, spliceA, AV.cells, D.cells]) | (apply AGo.buildSlice; (iterate 11 rfl)) | (apply AGo.appendM; (iterate 11 rfl); (first | rfl | (simp only [List.length_append, List.length_map, List.length_set, List.length_replicate, List.length_cons, List.length_nil]; omega) | (rw [hm]; omega)); (first | (simp only [List.length_append, List.length_map, List.length_cons, List.length_nil]; omega) | (rw [hm]; omega)); simp only [List.set_cons_zero, List.set_cons_succ]) | intro _ | (apply AGo.outL; rfl; rfl))
      all_goals first
        | exact AGo.roundD 3 [(18, I ((k + 1 : Nat) : Int)), (17, I ((celsD r.cells).length : Int)), (16, .d (.sl 18 (celsD r.cells))), (11, I (i : Int)), (10, I ((rsD rs).length : Int)), (9, .d (.sl 4 (rsD rs))), (3, .ms 1 (celsD (X ++ r.cells.take (k + 1))).length)] (r.cells.length - (k + 1)) (by omega) rfl rfl rfl rfl ⟨rfl, rfl, rfl, rfl, rfl, rfl, by rw [et]; rfl, trivial⟩ ⟨k + 1, rfl, hlt2, rfl, by rw [et]; rfl⟩
        | (exfalso; omega)
        | trace_state
    · obtain rfl : k = r.cells.length := by omega
      have et : celsD (X ++ r.cells.take r.cells.length) = celsD (cellsOf (rs.take (i + 1))) := by rw [eX, List.take_length]
      rw [et]
      repeat' (first | apply AGo.seq | apply AGo.block | apply AGo.blk | apply AGo.skip | apply AGo.nil | (apply AGo.region; rfl) | (apply AGo.q true; rfl; rfl; rfl; rfl; first | exact True.intro | omega | (simp only [Int.toNat_natCast, Int.reduceToNat, IntKind.bits]; omega)) | (apply AGo.condDT; rfl; first | omega | rfl) | (apply AGo.condDF; rfl; omega) | (apply AGo.alloc; (iterate 5 rfl); simp only [nm, Nat.reduceAdd, spliceA, AV.cells, D.cells]) | (apply AGo.box; (iterate 6 rfl); simp only [nm, Nat.reduceAdd, spliceA, AV.cells, D.cells]) | (apply AGo.store; (iterate 9 rfl); exact Nat.le_of_ble_eq_true rfl; simp only [nm, Nat.reduceAdd, spliceA, AV.cells, D.cells]) | (apply AGo.buildSlice; (iterate 11 rfl)) | intro _ | (apply AGo.outL; rfl; rfl))
      all_goals first
        | exact AGo.roundD 2 [(11, I ((i + 1 : Nat) : Int)), (10, I ((rsD rs).length : Int)), (9, .d (.sl 4 (rsD rs))), (3, .ms 1 (celsD (cellsOf (rs.take (i + 1)))).length)] (rs.length - (i + 1)) (by omega) rfl rfl rfl rfl ⟨rfl, rfl, rfl, rfl, trivial⟩ ⟨i + 1, rfl, hlt, rfl, rfl⟩
        | (exfalso; omega)
        | trace_state
  · obtain rfl : i = rs.length := by omega
    rw [List.take_length]
    repeat' (first | apply AGo.seq | apply AGo.block | apply AGo.blk | apply AGo.skip | apply AGo.nil | (apply AGo.region; rfl) | (apply AGo.q true; rfl; rfl; rfl; rfl; first | exact True.intro | omega | (simp only [Int.toNat_natCast, Int.reduceToNat, IntKind.bits]; omega)) | (apply AGo.condDT; rfl; first | omega | rfl) | (apply AGo.condDF; rfl; omega) | (apply AGo.alloc; (iterate 5 rfl); simp only [nm, Nat.reduceAdd, spliceA, AV.cells, D.cells]) | (apply AGo.box; (iterate 6 rfl); simp only [nm, Nat.reduceAdd, spliceA, AV.cells, D.cells]) | (apply AGo.store; (iterate 9 rfl); exact Nat.le_of_ble_eq_true rfl; simp only [nm, Nat.reduceAdd, spliceA, AV.cells, D.cells]) | (apply AGo.buildSlice; (iterate 11 rfl)) | (apply AGo.retW (.d (.sl 18 (celsD (cellsOf rs)))); rfl; exact Weak.own _ _ _; rfl; rfl; rfl) | (apply AGo.appendM; (iterate 11 rfl); (first | rfl | (simp only [List.length_append, List.length_map, List.length_set, List.length_replicate, List.length_cons, List.length_nil]; omega)); ((simp only [List.length_append, List.length_map, List.length_cons, List.length_nil]; omega)); simp only [List.set_cons_zero, List.set_cons_succ]) | (apply AGo.freezeR 2; rfl; rfl; (first | rfl | (simp only [List.length_append, List.length_map, List.length_set, List.length_replicate, List.length_cons, List.length_nil]; omega)); simp only [List.set_cons_zero, List.set_cons_succ]) | intro _ | (apply AGo.outL; rfl; rfl))
    all_goals first | exact ⟨rfl, rfl⟩ | (exfalso; omega) | trace_state
end Go.Proofs.YtdihjnifoikbeaaDoor.Av.Sh
