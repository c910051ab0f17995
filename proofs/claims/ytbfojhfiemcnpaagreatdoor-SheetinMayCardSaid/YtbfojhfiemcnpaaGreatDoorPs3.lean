/- Events, cloned. Cells, with events of their own. Rows of sheets; the cells of all rows. The cells of all rows: sound.Cells. -/
import Derived.Test.YtbfojhfiemcnpaaGreatDoorPn3
import Derived.Test.YtbfojhfiemcnpaaGreatDoorCo3
import Derived.Test.YtbfojhfiemcnpaaGreatDoorPs1
set_option linter.unusedVariables false
set_option linter.unusedSimpArgs false
set_option maxRecDepth 100000
set_option maxHeartbeats 64000000
namespace Go.Proofs.YtbfojhfiemcnpaaGreatDoor.Av
namespace Sh
open Go Bt
attribute [local irreducible] aa ACalls
variable {gl : List (Nat × List D)}
theorem F9 (es : List D) (hl : es.length ≤ 1000000) :
  ACalls (cxg gl) 118 [.d (.sl 3 es)] [] (fun r H => r = .d (.sl 3 es) ∧ H = []) := by
 refine ACalls.enter Tryz.func118 rfl Tryz.ntmps118 (by kernel_rfl) rfl ?_; simp only [au, nm, Nat.reduceAdd]
 repeat' (first | (apply aa.st; rfl) | (apply aa.Eo; (iterate 7 rfl); simp only [List.length_cons, List.length_nil, Nat.reduceAdd, List.nil_append, List.cons_append]) | (apply aa.q true; rfl; rfl; rfl; rfl; first | exact True.intro | omega | (simp only [tn, Int.reduceToNat]; omega) | (omega)) | (apply aa.aB; rfl) | (apply aa.ak; rfl) | (apply aa.JP; (iterate 9 rfl); intro b hb; cases b) | (apply aa.kX (.d (.sl 3 es)); rfl; exact bK.own _ _ _; rfl; rfl; rfl) | (apply aa.kX (.d (.sl 3 [])); rfl; exact bK.d (dZ.aU 3); rfl; rfl; rfl) | (apply aa.jI; (iterate 11 rfl); (first | rfl | (simp only [List.length_append, List.length_map, List.length_set, List.length_replicate, List.length_cons, List.length_nil]; omega) | (omega)); (first | (simp only [List.length_append, List.length_map, List.length_cons, List.length_nil]; omega) | (omega)); simp only [List.set_cons_zero, List.set_cons_succ]) | (apply aa.nI 2; rfl; rfl; (first | rfl | (simp only [List.length_append, List.length_map, List.length_set, List.length_replicate, List.length_cons, List.length_nil]; omega) | (omega)); simp only [List.set_cons_zero, List.set_cons_succ]) | intro _)
 all_goals first | exact ⟨rfl, rfl⟩ | omega | (obtain rfl := hb rfl; exact ⟨rfl, rfl⟩)
end Sh
namespace Sh
open Go Bt Tc Co
attribute [local irreducible] aa ACalls
variable {gl : List (Nat × List D)}
theorem kg (l : List Ev) (hl : l.length ≤ 1000000) : ACalls (cxg gl) 118 [.d (evS l)] [] (fun r H => r = .d (evS l) ∧ H = []) :=
 F9 (gl := gl) (bg l) (by rw [lw]; exact hl)
attribute [local irreducible] bg
theorem I9 (c : Cel) (ok : nZ c) :
  ACalls (cxg gl) 80 [.d (jm c)] [] (fun r H => r = .d (jm c) ∧ H = []) := by
 have k0 := kg (gl := gl) c.e0 ok.e0.1
 have k1 := kg (gl := gl) c.e1 ok.e1.1
 have k2 := kg (gl := gl) c.e2 ok.e2.1
 have k3 := kg (gl := gl) c.e3 ok.e3.1
 have k4 := kg (gl := gl) c.e4 ok.e4.1
 have k5 := kg (gl := gl) c.e5 ok.e5.1
 refine ACalls.enter Tryz.func80 rfl Tryz.ntmps80 (by kernel_rfl) rfl ?_; simp only [au, nm, Nat.reduceAdd]
 repeat' (first | (apply aa.st; rfl) | (apply aa.q true; rfl; rfl; rfl; rfl; first | exact True.intro | omega | (simp only [tn, Int.reduceToNat]; omega) | (exact ⟨by omega, Nat.le_of_ble_eq_true rfl⟩)) | (apply aa.aA (k0); (iterate 6 rfl)) | (apply aa.aA (k1); (iterate 6 rfl)) | (apply aa.aA (k2); (iterate 6 rfl)) | (apply aa.aA (k3); (iterate 6 rfl)) | (apply aa.aA (k4); (iterate 6 rfl)) | (apply aa.aA (k5); (iterate 6 rfl)) | (apply aa.exit; rfl) | (apply aa.af; rfl; first | omega | rfl) | (apply aa.ae; rfl; omega) | (apply aa.alloc; (iterate 5 rfl); simp only [nm, nz, Nat.reduceAdd]) | (apply aa.box; (iterate 6 rfl); simp only [nm, nz, Nat.reduceAdd]) | (apply aa.store; (iterate 9 rfl); exact Nat.le_of_ble_eq_true rfl; simp only [nm, nz, Nat.reduceAdd]) | apply aa.dM | apply aa.lpU | intro _ | (apply aa.aC; rfl; rfl; rfl; rfl))
 all_goals first | exact ⟨rfl, rfl⟩ | omega
end Sh
namespace Sh
open Go Bt Tc Co
attribute [local irreducible] aa ACalls
variable {gl : List (Nat × List D)}
structure Rw where
 head : Bool
 id : Int
 quant : Int
 cells : List Cel
def bh (l : List Cel) : List D := l.map fun c => jm c
theorem ko (l : List Cel) : (bh l).length = l.length := by simp [bh]
theorem tE : bh [] = [] := rfl
theorem tF (l : List Cel) (c : Cel) : bh (l ++ [c]) = bh l ++ [jm c] := by simp [bh]
theorem oN {l : List Cel} {k : Nat} {c : Cel} (h : l[k]? = some c) : (bh l).getD (k : Int).toNat .top = jm c := by
 simp [bh, List.getD, h]
abbrev rwD (r : Rw) : D := .agg [.bool r.head, In r.id, In r.quant, .sl 18 (bh r.cells)]
def rsD (l : List Rw) : List D := l.map fun r => rwD r
theorem mR (l : List Rw) : (rsD l).length = l.length := by simp [rsD]
theorem yK {l : List Rw} {k : Nat} {r : Rw} (h : l[k]? = some r) : (rsD l).getD (k : Int).toNat .top = rwD r := by
 simp [rsD, List.getD, h]
def cellsOf (l : List Rw) : List Cel := l.flatMap (·.cells)
theorem nP {l : List Rw} {k : Nat} {r : Rw} (h : l[k]? = some r) : cellsOf (l.take (k + 1)) = cellsOf (l.take k) ++ r.cells := by
 unfold cellsOf
 rw [List.take_add_one, h, List.flatMap_append]; simp
theorem vv {l : List Cel} {k : Nat} {c : Cel} (h : l[k]? = some c) : l.take (k + 1) = l.take k ++ [c] := by
 rw [List.take_add_one, h]; rfl
end Sh
namespace Sh
open Go Bt Tc Co
attribute [local irreducible] aa ACalls
variable {gl : List (Nat × List D)}
structure nX (rs : List Rw) : Prop where
 few : rs.length ≤ 1000
 cells : ∀ r ∈ rs, r.cells.length ≤ 1000 ∧ ∀ c ∈ r.cells, nZ c
theorem rQ : ∀ (l : List Rw), (∀ r ∈ l, r.cells.length ≤ 1000) → (cellsOf l).length ≤ 1000 * l.length
 | [], _ => by simp [cellsOf]
 | r :: l, h => by
  have h1 := h r List.mem_cons_self
  have h2 := rQ l fun x hx => h x (List.mem_cons_of_mem _ hx)
  have e : cellsOf (r :: l) = r.cells ++ cellsOf l := rfl
  rw [e, List.length_append, List.length_cons]; omega
theorem nX.le {rs : List Rw} (h : nX rs) (i : Nat) : (cellsOf (rs.take i)).length ≤ 1000000 := by
 have h1 := rQ (rs.take i) fun r hr => (h.cells r (List.mem_of_mem_take hr)).1
 have h2 := h.few
 have h3 : (rs.take i).length ≤ 1000 := by rw [List.length_take]; omega
 omega
abbrev shA (h : Hd) (rs : List D) (z : Int) : List AV := [.d (Nn h.ref), .d (Nn h.flags), .d (Nn h.fmt), .d (.bool h.inter), .d (Nn h.quant), .d (.sl 1 (suD h.supp)), .d (.sl 4 rs), .d (Nn z)]
abbrev rwA (r : Rw) : List AV := [.d (.bool r.head), .d (In r.id), .d (In r.quant), .d (.sl 18 (bh r.cells))]
attribute [local irreducible] bg suD bh rsD
theorem BZ (h : Hd) (rs : List Rw) (z : Int) (ok : nX rs) :
  ACalls (cxg gl) 44 [.d (shD h (rsD rs) z)] [] (fun r H => r = .d (.sl 18 (bh (cellsOf rs))) ∧ H = []) := by
 have hn := mR rs
 have hf := ok.few
 have e00 : bh (cellsOf (rs.take 0)) = [] := by rw [List.take_zero]; exact tE
 refine ACalls.enter Tryz.func44 rfl Tryz.ntmps44 (by kernel_rfl) rfl ?_; simp only [au, nm, Nat.reduceAdd]
 repeat (first | (apply aa.st; rfl) | (apply aa.q true; rfl; rfl; rfl; rfl; first | exact True.intro | omega | (simp only [tn, Int.reduceToNat]; omega)) | (apply aa.af; rfl; first | omega | rfl) | (apply aa.ae; rfl; omega) | (apply aa.alloc; (iterate 5 rfl); simp only [nm, nz, Nat.reduceAdd]) | (apply aa.box; (iterate 6 rfl); simp only [nm, nz, Nat.reduceAdd]) | (apply aa.store; (iterate 9 rfl); exact Nat.le_of_ble_eq_true rfl; simp only [nm, nz, Nat.reduceAdd]) | (apply aa.buildSlice; (iterate 11 rfl)) | (apply aa.DC 3 57 18; rfl; simp only [List.length_cons, List.length_nil, Nat.reduceAdd, List.cons_append, List.nil_append]))
 refine aa.weak (env' := [(11, I ((0 : Nat) : Int)), (10, I ((rsD rs).length : Int)), (9, .d (.sl 4 (rsD rs))), (3, .ms 1 (bh (cellsOf (rs.take 0))).length)]) ⟨rfl, rfl, rfl, by rw [e00]; rfl, trivial⟩ ?_
 refine aa.loop (fun m env H => ∃ i : Nat, m = rs.length - i ∧ i ≤ rs.length ∧ env = [(11, I (i : Int)), (10, I ((rsD rs).length : Int)), (9, .d (.sl 4 (rsD rs))), (3, .ms 1 (bh (cellsOf (rs.take i))).length)] ∧ H = [.cells (shA h (rsD rs) z), .arr 57 18 (bh (cellsOf (rs.take i)))]) rs.length
  ⟨0, rfl, by omega, rfl, by rw [e00]⟩ ?_
 rintro m env H ⟨i, rfl, hi, rfl, rfl⟩
 rcases Nat.lt_or_ge i rs.length with hlt | hge
 ·obtain ⟨r, hr⟩ : ∃ r, rs[i]? = some r := ⟨_, List.getElem?_eq_getElem hlt⟩
  have g1 := yK hr
  have hrm := List.mem_of_getElem? hr
  obtain ⟨hrl, hrc⟩ := ok.cells r hrm
  have hX := ok.le i
  have eX := nP hr
  have hm := ko r.cells
  repeat' (first | (apply aa.st; rfl) | (apply aa.opx; (apply bz; (iterate 7 rfl); (first | omega | (rw [hn]; omega)); exact g1); rfl; rfl; rfl) | (apply aa.q true; rfl; rfl; rfl; rfl; first | exact True.intro | omega | (simp only [tn, Int.reduceToNat]; omega) | (rw [hn]; omega)) | (apply aa.af; rfl; first | omega | rfl) | (apply aa.ae; rfl; omega) | (apply aa.alloc; (iterate 5 rfl); simp only [nm, nz, Nat.reduceAdd]) | (apply aa.box; (iterate 6 rfl); simp only [nm, nz, Nat.reduceAdd]) | (apply aa.store; (iterate 9 rfl); exact Nat.le_of_ble_eq_true rfl; simp only [nm, nz, Nat.reduceAdd]) | (apply aa.buildSlice; (iterate 11 rfl)) | intro _ | (apply aa.aP; rfl; rfl))
  generalize hXX : cellsOf (rs.take i) = X at *
  have e0 : bh X = bh (X ++ r.cells.take 0) := by simp
  rw [e0]
  refine aa.weak (env' := [(18, I ((0 : Nat) : Int)), (17, I ((bh r.cells).length : Int)), (16, .d (.sl 18 (bh r.cells))), (11, I (i : Int)), (10, I ((rsD rs).length : Int)), (9, .d (.sl 4 (rsD rs))), (3, .ms 1 (bh (X ++ r.cells.take 0)).length)]) ⟨rfl, rfl, rfl, rfl, rfl, rfl, rfl, trivial⟩ ?_
  refine aa.loop (fun m env H => ∃ k : Nat, m = r.cells.length - k ∧ k ≤ r.cells.length ∧ env = [(18, I (k : Int)), (17, I ((bh r.cells).length : Int)), (16, .d (.sl 18 (bh r.cells))), (11, I (i : Int)), (10, I ((rsD rs).length : Int)), (9, .d (.sl 4 (rsD rs))), (3, .ms 1 (bh (X ++ r.cells.take k)).length)] ∧ H = [.cells (shA h (rsD rs) z), .arr 57 18 (bh (X ++ r.cells.take k)), .cells (rwA r)]) r.cells.length
   ⟨0, rfl, by omega, rfl, rfl⟩ ?_
  rintro m env H ⟨k, rfl, hk, rfl, rfl⟩
  rcases Nat.lt_or_ge k r.cells.length with hlt2 | hge2
  ·obtain ⟨c, hc⟩ : ∃ c, r.cells[k]? = some c := ⟨_, List.getElem?_eq_getElem hlt2⟩
   have g2 := oN hc
   have oc := I9 (gl := gl) c (hrc c (List.mem_of_getElem? hc))
   have et : bh (X ++ r.cells.take (k + 1)) = bh (X ++ r.cells.take k) ++ [jm c] := by rw [vv hc, ← List.append_assoc, tF]
   have hlen : (bh (X ++ r.cells.take k)).length ≤ 2000000 := by rw [ko, List.length_append, List.length_take]; omega
   repeat' (first | (apply aa.st; rfl) | (apply aa.opx; (apply bz; (iterate 7 rfl); (first | omega | (rw [hm]; omega)); exact g2); rfl; rfl; rfl) | (apply aa.q true; rfl; rfl; rfl; rfl; first | exact True.intro | omega | (simp only [tn, Int.reduceToNat]; omega) | (rw [hm]; omega)) | (apply aa.aA (oc); (iterate 6 rfl)) | (apply aa.af; rfl; first | omega | rfl) | (apply aa.ae; rfl; omega) | (apply aa.alloc; (iterate 5 rfl); simp only [nm, nz, Nat.reduceAdd]) | (apply aa.box; (iterate 6 rfl); simp only [nm, nz, Nat.reduceAdd]) | (apply aa.store; (iterate 9 rfl); exact Nat.le_of_ble_eq_true rfl; simp only [nm, nz, Nat.reduceAdd]) | (apply aa.buildSlice; (iterate 11 rfl)) | (apply aa.jI; (iterate 11 rfl); (first | rfl | (simp only [List.length_append, List.length_map, List.length_set, List.length_replicate, List.length_cons, List.length_nil]; omega) | (rw [hm]; omega)); (first | (simp only [List.length_append, List.length_map, List.length_cons, List.length_nil]; omega) | (rw [hm]; omega)); simp only [List.set_cons_zero, List.set_cons_succ]) | intro _ | (apply aa.aP; rfl; rfl))
   all_goals first
    | exact aa.kW 3 [(18, I ((k + 1 : Nat) : Int)), (17, I ((bh r.cells).length : Int)), (16, .d (.sl 18 (bh r.cells))), (11, I (i : Int)), (10, I ((rsD rs).length : Int)), (9, .d (.sl 4 (rsD rs))), (3, .ms 1 (bh (X ++ r.cells.take (k + 1))).length)] (r.cells.length - (k + 1)) (by omega) rfl rfl rfl rfl ⟨rfl, rfl, rfl, rfl, rfl, rfl, by rw [et]; rfl, trivial⟩ ⟨k + 1, rfl, hlt2, rfl, by rw [et]; rfl⟩
    | omega
  ·obtain rfl : k = r.cells.length := by omega
   have et : bh (X ++ r.cells.take r.cells.length) = bh (cellsOf (rs.take (i + 1))) := by rw [eX, List.take_length]
   rw [et]
   repeat' (first | (apply aa.st; rfl) | (apply aa.q true; rfl; rfl; rfl; rfl; first | exact True.intro | omega | (simp only [tn, Int.reduceToNat]; omega)) | (apply aa.af; rfl; first | omega | rfl) | (apply aa.ae; rfl; omega) | (apply aa.alloc; (iterate 5 rfl); simp only [nm, nz, Nat.reduceAdd]) | (apply aa.box; (iterate 6 rfl); simp only [nm, nz, Nat.reduceAdd]) | (apply aa.store; (iterate 9 rfl); exact Nat.le_of_ble_eq_true rfl; simp only [nm, nz, Nat.reduceAdd]) | (apply aa.buildSlice; (iterate 11 rfl)) | intro _ | (apply aa.aP; rfl; rfl))
   all_goals first
    | exact aa.kW 2 [(11, I ((i + 1 : Nat) : Int)), (10, I ((rsD rs).length : Int)), (9, .d (.sl 4 (rsD rs))), (3, .ms 1 (bh (cellsOf (rs.take (i + 1)))).length)] (rs.length - (i + 1)) (by omega) rfl rfl rfl rfl ⟨rfl, rfl, rfl, rfl, trivial⟩ ⟨i + 1, rfl, hlt, rfl, rfl⟩
    | omega
 ·obtain rfl : i = rs.length := by omega
  rw [List.take_length]
  repeat' (first | (apply aa.st; rfl) | (apply aa.q true; rfl; rfl; rfl; rfl; first | exact True.intro | omega | (simp only [tn, Int.reduceToNat]; omega)) | (apply aa.af; rfl; first | omega | rfl) | (apply aa.ae; rfl; omega) | (apply aa.alloc; (iterate 5 rfl); simp only [nm, nz, Nat.reduceAdd]) | (apply aa.box; (iterate 6 rfl); simp only [nm, nz, Nat.reduceAdd]) | (apply aa.store; (iterate 9 rfl); exact Nat.le_of_ble_eq_true rfl; simp only [nm, nz, Nat.reduceAdd]) | (apply aa.buildSlice; (iterate 11 rfl)) | (apply aa.kX (.d (.sl 18 (bh (cellsOf rs)))); rfl; exact bK.own _ _ _; rfl; rfl; rfl) | (apply aa.jI; (iterate 11 rfl); (first | rfl | (simp only [List.length_append, List.length_map, List.length_set, List.length_replicate, List.length_cons, List.length_nil]; omega)); ((simp only [List.length_append, List.length_map, List.length_cons, List.length_nil]; omega)); simp only [List.set_cons_zero, List.set_cons_succ]) | (apply aa.nI 2; rfl; rfl; (first | rfl | (simp only [List.length_append, List.length_map, List.length_set, List.length_replicate, List.length_cons, List.length_nil]; omega)); simp only [List.set_cons_zero, List.set_cons_succ]) | intro _ | (apply aa.aP; rfl; rfl))
  all_goals first | exact ⟨rfl, rfl⟩ | omega
end Sh
end Go.Proofs.YtbfojhfiemcnpaaGreatDoor.Av
