/- Events, cloned. Cells, with events of their own. Rows of sheets; the cells of all rows. The cells of all rows: sound.Cells. -/
import Derived.Test.YtbfojhfiemcnpaaGreatDoorPn3
import Derived.Test.YtbfojhfiemcnpaaGreatDoorCo3
import Derived.Test.YtbfojhfiemcnpaaGreatDoorPs1
set_option linter.unusedVariables false
set_option linter.unusedSimpArgs false
set_option maxRecDepth 100000
set_option maxHeartbeats 64000000
namespace Go.Proofs.YtbfojhfiemcnpaaGreatDoor.Av
namespace Sh
open Go Bt
attribute [local irreducible] aa ACalls
variable {gl : List (Nat × List D)}
theorem I6 (es : List D) (hl : es.length ≤ 1000000) :
  ACalls (cxg gl) 118 [.d (.sl 3 es)] [] (fun r H => r = .d (.sl 3 es) ∧ H = []) := by
 refine ACalls.enter Tryz.func118 rfl Tryz.ntmps118 (by kernel_rfl) rfl ?_; simp only [aB, nm, Nat.reduceAdd]
 repeat' (first | refine aa.aD ?_ | (refine aa.G3 ?_; simp only [List.length_cons, List.length_nil, Nat.reduceAdd, List.nil_append, List.cons_append]) | (apply aa.q true; rfl; rfl; rfl; rfl; first | exact True.intro | omega | (simp only [tn, Int.reduceToNat]; omega) | (omega)) | refine aa.av ?_ | refine aa.ai ?_ | (refine aa.Kr ?_; intro b hb; cases b) | (apply aa.mY (.d (.sl 3 es)); rfl; exact cn.own _ _ _; rfl; rfl; rfl) | (apply aa.mY (.d (.sl 3 [])); rfl; exact cn.d (cL.bf 3); rfl; rfl; rfl) | (apply aa.lm; (iterate 11 rfl); (first | rfl | (simp only [List.length_append, List.length_map, List.length_set, List.length_replicate, List.length_cons, List.length_nil]; omega) | (omega)); (first | (simp only [List.length_append, List.length_map, List.length_cons, List.length_nil]; omega) | (omega)); simp only [List.set_cons_zero, List.set_cons_succ]) | (apply aa.xe 2; rfl; rfl; (first | rfl | (simp only [List.length_append, List.length_map, List.length_set, List.length_replicate, List.length_cons, List.length_nil]; omega) | (omega)); simp only [List.set_cons_zero, List.set_cons_succ]) | intro _)
 all_goals first | exact ⟨rfl, rfl⟩ | omega | (obtain rfl := hb rfl; exact ⟨rfl, rfl⟩)
end Sh
namespace Sh
open Go Bt Tc Co
attribute [local irreducible] aa ACalls
variable {gl : List (Nat × List D)}
theorem l4 (l : List Ev) (hl : l.length ≤ 1000000) : ACalls (cxg gl) 118 [.d (evS l)] [] (fun r H => r = .d (evS l) ∧ H = []) :=
 I6 (gl := gl) (bG l) (by rw [nH]; exact hl)
attribute [local irreducible] bG
theorem Ma (c : Cel) (ok : lu c) :
  ACalls (cxg gl) 80 [.d (lH c)] [] (fun r H => r = .d (lH c) ∧ H = []) := by
 have k0 := l4 (gl := gl) c.e0 ok.e0.1
 have k1 := l4 (gl := gl) c.e1 ok.e1.1
 have k2 := l4 (gl := gl) c.e2 ok.e2.1
 have k3 := l4 (gl := gl) c.e3 ok.e3.1
 have k4 := l4 (gl := gl) c.e4 ok.e4.1
 have k5 := l4 (gl := gl) c.e5 ok.e5.1
 refine ACalls.enter Tryz.func80 rfl Tryz.ntmps80 (by kernel_rfl) rfl ?_; simp only [aB, nm, Nat.reduceAdd]
 repeat' (first | refine aa.aD ?_ | (apply aa.q true; rfl; rfl; rfl; rfl; first | exact True.intro | omega | (simp only [tn, Int.reduceToNat]; omega) | (exact ⟨by omega, Nat.le_of_ble_eq_true rfl⟩)) | refine aa.ak (k0) ?_ | refine aa.ak (k1) ?_ | refine aa.ak (k2) ?_ | refine aa.ak (k3) ?_ | refine aa.ak (k4) ?_ | refine aa.ak (k5) ?_ | refine aa.bO ?_ | refine aa.ah ?_ | refine aa.af ?_ | (refine aa.aG ?_; simp only [nm, nz, Nat.reduceAdd]) | (refine aa.aP ?_; simp only [nm, nz, Nat.reduceAdd]) | (refine aa.az ?_; simp only [nm, nz, Nat.reduceAdd]) | apply aa.dP | apply aa.lpU | intro _ | refine aa.au ?_)
 all_goals first | exact ⟨rfl, rfl⟩ | omega
end Sh
namespace Sh
open Go Bt Tc Co
attribute [local irreducible] aa ACalls
variable {gl : List (Nat × List D)}
structure Rw where
 head : Bool
 id : Int
 quant : Int
 cells : List Cel
def bD (l : List Cel) : List D := l.map fun c => lH c
theorem ko (l : List Cel) : (bD l).length = l.length := by simp [bD]
theorem vN : bD [] = [] := rfl
theorem vO (l : List Cel) (c : Cel) : bD (l ++ [c]) = bD l ++ [lH c] := by simp [bD]
theorem nZ {l : List Cel} {k : Nat} {c : Cel} (h : l[k]? = some c) : (bD l).getD (k : Int).toNat .top = lH c := by
 simp [bD, List.getD, h]
abbrev rwD (r : Rw) : D := .agg [.bool r.head, In r.id, In r.quant, .sl 18 (bD r.cells)]
def rsD (l : List Rw) : List D := l.map fun r => rwD r
theorem nQ (l : List Rw) : (rsD l).length = l.length := by simp [rsD]
theorem wu {l : List Rw} {k : Nat} {r : Rw} (h : l[k]? = some r) : (rsD l).getD (k : Int).toNat .top = rwD r := by
 simp [rsD, List.getD, h]
def cellsOf (l : List Rw) : List Cel := l.flatMap (·.cells)
theorem j4 {l : List Rw} {k : Nat} {r : Rw} (h : l[k]? = some r) : cellsOf (l.take (k + 1)) = cellsOf (l.take k) ++ r.cells := by
 unfold cellsOf
 rw [List.take_add_one, h, List.flatMap_append]; simp
theorem pG {l : List Cel} {k : Nat} {c : Cel} (h : l[k]? = some c) : l.take (k + 1) = l.take k ++ [c] := by
 rw [List.take_add_one, h]; rfl
end Sh
namespace Sh
open Go Bt Tc Co
attribute [local irreducible] aa ACalls
variable {gl : List (Nat × List D)}
structure jP (rs : List Rw) : Prop where
 few : rs.length ≤ 1000
 cells : ∀ r ∈ rs, r.cells.length ≤ 1000 ∧ ∀ c ∈ r.cells, lu c
theorem uE : ∀ (l : List Rw), (∀ r ∈ l, r.cells.length ≤ 1000) → (cellsOf l).length ≤ 1000 * l.length
 | [], _ => by simp [cellsOf]
 | r :: l, h => by
  have h1 := h r List.mem_cons_self
  have h2 := uE l fun x hx => h x (List.mem_cons_of_mem _ hx)
  have e : cellsOf (r :: l) = r.cells ++ cellsOf l := rfl
  rw [e, List.length_append, List.length_cons]; omega
theorem jP.le {rs : List Rw} (h : jP rs) (i : Nat) : (cellsOf (rs.take i)).length ≤ 1000000 := by
 have h1 := uE (rs.take i) fun r hr => (h.cells r (List.mem_of_mem_take hr)).1
 have h2 := h.few
 have h3 : (rs.take i).length ≤ 1000 := by rw [List.length_take]; omega
 omega
abbrev shA (h : Hd) (rs : List D) (z : Int) : List AV := [.d (Nn h.ref), .d (Nn h.flags), .d (Nn h.fmt), .d (.bool h.inter), .d (Nn h.quant), .d (.sl 1 (suD h.supp)), .d (.sl 4 rs), .d (Nn z)]
abbrev rwA (r : Rw) : List AV := [.d (.bool r.head), .d (In r.id), .d (In r.quant), .d (.sl 18 (bD r.cells))]
attribute [local irreducible] bG suD bD rsD
theorem EI (h : Hd) (rs : List Rw) (z : Int) (ok : jP rs) :
  ACalls (cxg gl) 44 [.d (shD h (rsD rs) z)] [] (fun r H => r = .d (.sl 18 (bD (cellsOf rs))) ∧ H = []) := by
 have hn := nQ rs
 have hf := ok.few
 have e00 : bD (cellsOf (rs.take 0)) = [] := by rw [List.take_zero]; exact vN
 refine ACalls.enter Tryz.func44 rfl Tryz.ntmps44 (by kernel_rfl) rfl ?_; simp only [aB, nm, Nat.reduceAdd]
 repeat (first | refine aa.aD ?_ | refine aa.aY true ?_ | refine aa.ah ?_ | refine aa.af ?_ | (refine aa.aG ?_; simp only [nm, nz, Nat.reduceAdd]) | (refine aa.aP ?_; simp only [nm, nz, Nat.reduceAdd]) | (refine aa.az ?_; simp only [nm, nz, Nat.reduceAdd]) | refine aa.aV ?_ | (refine aa.yM 3 57 18 ?_; simp only [List.length_cons, List.length_nil, Nat.reduceAdd, List.cons_append, List.nil_append]))
 refine aa.weak (env' := [(11, I ((0 : Nat) : Int)), (10, I ((rsD rs).length : Int)), (9, .d (.sl 4 (rsD rs))), (3, .ms 1 (bD (cellsOf (rs.take 0))).length)]) ⟨rfl, rfl, rfl, by rw [e00]; rfl, trivial⟩ ?_
 refine aa.loop (fun m env H => ∃ i : Nat, m = rs.length - i ∧ i ≤ rs.length ∧ env = [(11, I (i : Int)), (10, I ((rsD rs).length : Int)), (9, .d (.sl 4 (rsD rs))), (3, .ms 1 (bD (cellsOf (rs.take i))).length)] ∧ H = [.cells (shA h (rsD rs) z), .arr 57 18 (bD (cellsOf (rs.take i)))]) rs.length
  ⟨0, rfl, by omega, rfl, by rw [e00]⟩ ?_
 rintro m env H ⟨i, rfl, hi, rfl, rfl⟩
 rcases Nat.lt_or_ge i rs.length with hlt | hge
 ·obtain ⟨r, hr⟩ : ∃ r, rs[i]? = some r := ⟨_, List.getElem?_eq_getElem hlt⟩
  have g1 := wu hr
  have hrm := List.mem_of_getElem? hr
  obtain ⟨hrl, hrc⟩ := ok.cells r hrm
  have hX := ok.le i
  have eX := j4 hr
  have hm := ko r.cells
  repeat' (first | refine aa.aD ?_ | (apply aa.opx; (apply bM; (iterate 7 rfl); (first | omega | (rw [hn]; omega)); exact g1); rfl; rfl; rfl) | (apply aa.q true; rfl; rfl; rfl; rfl; first | exact True.intro | omega | (simp only [tn, Int.reduceToNat]; omega) | (rw [hn]; omega)) | refine aa.ah ?_ | refine aa.af ?_ | (refine aa.aG ?_; simp only [nm, nz, Nat.reduceAdd]) | (refine aa.aP ?_; simp only [nm, nz, Nat.reduceAdd]) | (refine aa.az ?_; simp only [nm, nz, Nat.reduceAdd]) | refine aa.aV ?_ | intro _ | refine aa.aI ?_)
  generalize hXX : cellsOf (rs.take i) = X at *
  have e0 : bD X = bD (X ++ r.cells.take 0) := by simp
  rw [e0]
  refine aa.weak (env' := [(18, I ((0 : Nat) : Int)), (17, I ((bD r.cells).length : Int)), (16, .d (.sl 18 (bD r.cells))), (11, I (i : Int)), (10, I ((rsD rs).length : Int)), (9, .d (.sl 4 (rsD rs))), (3, .ms 1 (bD (X ++ r.cells.take 0)).length)]) ⟨rfl, rfl, rfl, rfl, rfl, rfl, rfl, trivial⟩ ?_
  refine aa.loop (fun m env H => ∃ k : Nat, m = r.cells.length - k ∧ k ≤ r.cells.length ∧ env = [(18, I (k : Int)), (17, I ((bD r.cells).length : Int)), (16, .d (.sl 18 (bD r.cells))), (11, I (i : Int)), (10, I ((rsD rs).length : Int)), (9, .d (.sl 4 (rsD rs))), (3, .ms 1 (bD (X ++ r.cells.take k)).length)] ∧ H = [.cells (shA h (rsD rs) z), .arr 57 18 (bD (X ++ r.cells.take k)), .cells (rwA r)]) r.cells.length
   ⟨0, rfl, by omega, rfl, rfl⟩ ?_
  rintro m env H ⟨k, rfl, hk, rfl, rfl⟩
  rcases Nat.lt_or_ge k r.cells.length with hlt2 | hge2
  ·obtain ⟨c, hc⟩ : ∃ c, r.cells[k]? = some c := ⟨_, List.getElem?_eq_getElem hlt2⟩
   have g2 := nZ hc
   have oc := Ma (gl := gl) c (hrc c (List.mem_of_getElem? hc))
   have et : bD (X ++ r.cells.take (k + 1)) = bD (X ++ r.cells.take k) ++ [lH c] := by rw [pG hc, ← List.append_assoc, vO]
   have hlen : (bD (X ++ r.cells.take k)).length ≤ 2000000 := by rw [ko, List.length_append, List.length_take]; omega
   repeat' (first | refine aa.aD ?_ | (apply aa.opx; (apply bM; (iterate 7 rfl); (first | omega | (rw [hm]; omega)); exact g2); rfl; rfl; rfl) | (apply aa.q true; rfl; rfl; rfl; rfl; first | exact True.intro | omega | (simp only [tn, Int.reduceToNat]; omega) | (rw [hm]; omega)) | refine aa.ak (oc) ?_ | refine aa.ah ?_ | refine aa.af ?_ | (refine aa.aG ?_; simp only [nm, nz, Nat.reduceAdd]) | (refine aa.aP ?_; simp only [nm, nz, Nat.reduceAdd]) | (refine aa.az ?_; simp only [nm, nz, Nat.reduceAdd]) | refine aa.aV ?_ | (apply aa.lm; (iterate 11 rfl); (first | rfl | (simp only [List.length_append, List.length_map, List.length_set, List.length_replicate, List.length_cons, List.length_nil]; omega) | (rw [hm]; omega)); (first | (simp only [List.length_append, List.length_map, List.length_cons, List.length_nil]; omega) | (rw [hm]; omega)); simp only [List.set_cons_zero, List.set_cons_succ]) | intro _ | refine aa.aI ?_)
   all_goals first
    | exact aa.lC 3 [(18, I ((k + 1 : Nat) : Int)), (17, I ((bD r.cells).length : Int)), (16, .d (.sl 18 (bD r.cells))), (11, I (i : Int)), (10, I ((rsD rs).length : Int)), (9, .d (.sl 4 (rsD rs))), (3, .ms 1 (bD (X ++ r.cells.take (k + 1))).length)] (r.cells.length - (k + 1)) (by omega) rfl rfl rfl rfl ⟨rfl, rfl, rfl, rfl, rfl, rfl, by rw [et]; rfl, trivial⟩ ⟨k + 1, rfl, hlt2, rfl, by rw [et]; rfl⟩
    | omega
  ·obtain rfl : k = r.cells.length := by omega
   have et : bD (X ++ r.cells.take r.cells.length) = bD (cellsOf (rs.take (i + 1))) := by rw [eX, List.take_length]
   rw [et]
   repeat' (first | refine aa.aD ?_ | refine aa.aY true ?_ | refine aa.ah ?_ | refine aa.af ?_ | (refine aa.aG ?_; simp only [nm, nz, Nat.reduceAdd]) | (refine aa.aP ?_; simp only [nm, nz, Nat.reduceAdd]) | (refine aa.az ?_; simp only [nm, nz, Nat.reduceAdd]) | refine aa.aV ?_ | intro _ | refine aa.aI ?_)
   all_goals first
    | exact aa.lC 2 [(11, I ((i + 1 : Nat) : Int)), (10, I ((rsD rs).length : Int)), (9, .d (.sl 4 (rsD rs))), (3, .ms 1 (bD (cellsOf (rs.take (i + 1)))).length)] (rs.length - (i + 1)) (by omega) rfl rfl rfl rfl ⟨rfl, rfl, rfl, rfl, trivial⟩ ⟨i + 1, rfl, hlt, rfl, rfl⟩
    | omega
 ·obtain rfl : i = rs.length := by omega
  rw [List.take_length]
  repeat' (first | refine aa.aD ?_ | refine aa.aY true ?_ | refine aa.ah ?_ | refine aa.af ?_ | (refine aa.aG ?_; simp only [nm, nz, Nat.reduceAdd]) | (refine aa.aP ?_; simp only [nm, nz, Nat.reduceAdd]) | (refine aa.az ?_; simp only [nm, nz, Nat.reduceAdd]) | refine aa.aV ?_ | (apply aa.mY (.d (.sl 18 (bD (cellsOf rs)))); rfl; exact cn.own _ _ _; rfl; rfl; rfl) | (apply aa.lm; (iterate 11 rfl); (first | rfl | (simp only [List.length_append, List.length_map, List.length_set, List.length_replicate, List.length_cons, List.length_nil]; omega)); ((simp only [List.length_append, List.length_map, List.length_cons, List.length_nil]; omega)); simp only [List.set_cons_zero, List.set_cons_succ]) | (refine aa.qZ 2 ?_; simp only [List.set_cons_zero, List.set_cons_succ]) | intro _ | refine aa.aI ?_)
  all_goals first | exact ⟨rfl, rfl⟩ | omega
end Sh
end Go.Proofs.YtbfojhfiemcnpaaGreatDoor.Av
