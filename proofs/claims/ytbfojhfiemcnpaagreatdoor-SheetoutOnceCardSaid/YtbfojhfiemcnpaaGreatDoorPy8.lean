/- Sheets as arguments: whatever a sheet is by its type, it reads as rows of cells. Sheets that are light. A sheet's digits: the document's answer. The law SheetoutPuts. -/
import Derived.Test.YtbfojhfiemcnpaaGreatDoorPy5
set_option linter.unusedVariables false
set_option linter.unusedSimpArgs false
set_option maxRecDepth 100000
set_option maxHeartbeats 64000000
namespace Go.Proofs.YtbfojhfiemcnpaaGreatDoor.Av
section
open Go
def CW (e f : D) : Prop := e.cells.length = f.cells.length ∧ (∀ c ∈ f.cells, c.one = true) ∧ ∀ (j : Nat) (c d : D), e.cells[j]? = some c → f.cells[j]? = some d → cL c d
theorem cL.sl {sz : Nat} {es fs : List D} (hl : es.length = fs.length) (h : ∀ (i : Nat) (e f : D), es[i]? = some e → fs[i]? = some f → CW e f) : cL (.sl sz es) (.sl sz fs) := fun imm v hv => by
 have at_ : ∀ {i : Nat} {f : D}, fs[i]? = some f → ∃ e, es[i]? = some e ∧ CW e f := fun {i f} hf => by
  have hi : i < es.length := by have := aF hf; omega
  exact ⟨_, List.getElem?_eq_getElem hi, h i _ f (List.getElem?_eq_getElem hi) hf⟩
 cases hv with
 | sl0 a cap sz =>
  have : fs = [] := List.eq_nil_of_length_eq_zero (by simpa using hl.symm)
  subst this
  exact .sl0 _ _ _
 | sl b o cap sz es hne hcap hsz hone hin hh =>
  rw [hl] at hcap hin ⊢
  refine .sl b o cap sz fs (fun e => hne (List.eq_nil_of_length_eq_zero (by rw [hl, e]; rfl))) hcap (fun f hf => ?_) (fun f hf => ?_) hin fun i f j d hf hd => ?_
  ·obtain ⟨i, hi⟩ := List.getElem?_of_mem hf
   obtain ⟨e, he, hc⟩ := at_ hi
   rw [← hc.1]; exact hsz e (List.mem_of_getElem? he)
  ·obtain ⟨i, hi⟩ := List.getElem?_of_mem hf
   obtain ⟨e, he, hc⟩ := at_ hi
   exact hc.2.1
  ·obtain ⟨e, he, hc⟩ := at_ hf
   have hj : j < e.cells.length := by have := aF hd; rw [hc.1]; exact this
   exact hc.2.2 j _ d (List.getElem?_eq_getElem hj) hd imm _ (hh i e j _ he (List.getElem?_eq_getElem hj))
theorem CW.JG {l : List D} {cs : List D} (h : CW (.agg l) (.agg cs)) : cL (.agg l) (.agg cs) :=
 cL.agg h.1.symm h.2.1 fun i c d hc hd => h.2.2 i c d hc hd
end
namespace Sh
open Go Bt Tc Co
def Big (n : Nat) : Prop := n ≤ 9223372036854775807
structure RwI (r : Rw) : Prop where
 id : I64 r.id
 quant : I64 r.quant
 len : Big r.cells.length
 cells : ∀ c ∈ r.cells, NB c
structure StI (h : Hd) (rs : List Rw) (z : Int) : Prop where
 ref : I64 h.ref
 flags : I64 h.flags
 fmt : I64 h.fmt
 quant : I64 h.quant
 zeros : I64 z
 supl : Big h.supp.length
 supp : ∀ n ∈ h.supp, I64 n
 len : Big rs.length
 rows : ∀ r ∈ rs, RwI r
end Sh
namespace Sh
open Go Bt Tc Co
attribute [local irreducible] aa ACalls
variable {gl : List (Nat × List D)}
attribute [local irreducible] bG suD bD rsD cellsOf
end Sh
namespace Sh
open Go Bt Co
attribute [local irreducible] aa ACalls
variable {gl : List (Nat × List D)}
attribute [local irreducible] Tc.bG suD bD rsD dE bg bR eQ putRow ofV vD fQ mH Sh.cH ow zs bP gW dZ dO mvs cellsOf jl fW fR fL fH
end Sh
namespace Sh
open Go Bt Co Wr
attribute [local irreducible] aa ACalls
variable {gl : List (Nat × List D)}
theorem GM {h : Hd} {rs : List Rw} {z : Int} (hc : gK h rs z = 0) : jb h rs z = true := by
 unfold gK at hc
 cases hf : jb h rs z with
 | true => rfl
 | false => rw [hf, if_neg (by decide)] at hc; cases hc
attribute [local irreducible] Tc.bG suD bD rsD dE bg bR eQ jb gK eD mH cellsOf
theorem Hf (h : Hd) (rs : List Rw) (z : Int) (ok : jP rs) (hl : h.supp.length ≤ 100) (hc : gK h rs z = 0) (hcl : (cellsOf rs).length ≤ 200) (hz : z ≤ 1000000) :
  ACalls (cxg gA) 46 [.d (shD h (rsD rs) z)] [] (fun r H => r = .bW [I ((eD h rs z 0).length : Int), I 0] ∧ H = []) := by
 have nw := qK (gl := gA)
 have sp := zN [] 0 h rs z ok hl hc (GM hc) (gM.nil 0) rfl (by omega) hz
 rw [List.nil_append] at sp
 have ln := zB (gl := gA) (eD h rs z 0)
 refine ACalls.enter Tryz.func46 rfl Tryz.ntmps46 (by kernel_rfl) rfl ?_; simp only [aB, nm, Nat.reduceAdd]
 repeat' (first | refine aa.aD ?_ | refine aa.aY true ?_ | (refine aa.ae [] ( nw) ?_; simp only [ny, nh, Nat.reduceAdd, Nat.reduceSub]) | (refine aa.ae [1,2] ( sp) ?_; simp only [ny, nh, Nat.reduceAdd, Nat.reduceSub]) | (refine aa.ae [1,2] ( ln) ?_; simp only [ny, nh, Nat.reduceAdd, Nat.reduceSub]) | (refine aa.aP ?_; simp only [nm, nz, Nat.reduceAdd]) | intro _ | refine aa.au ?_)
 all_goals first | exact ⟨rfl, rfl⟩
theorem Jm (h : Hd) (rs : List Rw) (z : Int) (ok : jP rs) (hl : h.supp.length ≤ 100) (hc : gK h rs z ≠ 0) :
  ACalls (cxg gA) 46 [.d (shD h (rsD rs) z)] [] (fun r H => r = .bW [I 0, I (gK h rs z)] ∧ H = []) := by
 have nw := qK (gl := gA)
 have sp := uR [] h rs z ok hl hc
 have ln := zB (gl := gA) []
 refine ACalls.enter Tryz.func46 rfl Tryz.ntmps46 (by kernel_rfl) rfl ?_; simp only [aB, nm, Nat.reduceAdd]
 repeat' (first | refine aa.aD ?_ | refine aa.aY true ?_ | (refine aa.ae [] ( nw) ?_; simp only [ny, nh, Nat.reduceAdd, Nat.reduceSub]) | (refine aa.ae [1,2] ( sp) ?_; simp only [ny, nh, Nat.reduceAdd, Nat.reduceSub]) | (refine aa.ae [1,2] ( ln) ?_; simp only [ny, nh, Nat.reduceAdd, Nat.reduceSub]) | (refine aa.aP ?_; simp only [nm, nz, Nat.reduceAdd]) | intro _ | refine aa.au ?_)
 all_goals first | exact ⟨rfl, rfl⟩
def GV : Cel := ⟨0, true, 0, 0, 0, 0, 0, 0, 0, 0, 0, 0, [], [], [], [], [], []⟩
def rwL : Rw := ⟨false, 0, 0, [GV, GV]⟩
def hdL : Hd := ⟨0, 0, 6, true, 5, []⟩
def hd0 : Hd := ⟨0, 0, 0, false, 0, []⟩
abbrev GU : D := .agg [In 0, .bool true, In 0, In 0, In 0, In 0, In 0, In 0, In 0, In 0, In 0, In 0, .bf, .bf, .bf, .bf, .bf, .bf]
abbrev J6 : D := .agg [.bool false, In 0, In 0, .sl 18 [GU, GU]]
abbrev LG : D := .agg [In 0, In 0, In 6, .bool true, In 5, .bf, .sl 4 [J6, J6], In 0]
abbrev LI : D := .agg [In 0, In 0, In 0, .bool false, In 0, .bf, .bf, In 0]
section
attribute [local semireducible] Tc.bG suD bD rsD
theorem Lf : CW GU (lH GV) := ⟨rfl, by simp [D.cells, D.one], fun i c d hc hd => by
 have hn : cL .bf (evS []) := cL.bf 3
 match i, hc, hd with
 | 0, hc, hd | 1, hc, hd | 2, hc, hd | 3, hc, hd | 4, hc, hd | 5, hc, hd | 6, hc, hd | 7, hc, hd | 8, hc, hd | 9, hc, hd | 10, hc, hd | 11, hc, hd => cases hc; cases hd; exact cL.refl _
 | 12, hc, hd | 13, hc, hd | 14, hc, hd | 15, hc, hd | 16, hc, hd | 17, hc, hd => cases hc; cases hd; exact hn
 | i + 18, hc, hd => simp [D.cells] at hc⟩
theorem LO : CW J6 (rwD rwL) := ⟨rfl, by simp [D.cells, D.one], fun i c d hc hd => by
 match i, hc, hd with
 | 0, hc, hd | 1, hc, hd | 2, hc, hd => cases hc; cases hd; exact cL.refl _
 | 3, hc, hd =>
  cases hc; cases hd
  refine cL.sl rfl fun j e f he hf => ?_
  match j, he, hf with
  | 0, he, hf | 1, he, hf => cases he; cases hf; exact Lf
  | j + 2, he, hf => simp at he
 | i + 4, hc, hd => simp [D.cells] at hc⟩
theorem LF : cL LG (shD hdL (rsD [rwL, rwL]) 0) := CW.JG ⟨rfl, by simp [D.cells, D.one], fun i c d hc hd => by
 match i, hc, hd with
 | 0, hc, hd | 1, hc, hd | 2, hc, hd | 3, hc, hd | 4, hc, hd | 7, hc, hd => cases hc; cases hd; exact cL.refl _
 | 5, hc, hd => cases hc; cases hd; exact cL.bf 1
 | 6, hc, hd =>
  cases hc; cases hd
  refine cL.sl rfl fun j e f he hf => ?_
  match j, he, hf with
  | 0, he, hf | 1, he, hf => cases he; cases hf; exact LO
  | j + 2, he, hf => simp at he
 | i + 8, hc, hd => simp [D.cells] at hc⟩
theorem LH : cL LI (shD hd0 (rsD []) 0) := CW.JG ⟨rfl, by simp [D.cells, D.one], fun i c d hc hd => by
 match i, hc, hd with
 | 0, hc, hd | 1, hc, hd | 2, hc, hd | 3, hc, hd | 4, hc, hd | 7, hc, hd => cases hc; cases hd; exact cL.refl _
 | 5, hc, hd => cases hc; cases hd; exact cL.bf 1
 | 6, hc, hd => cases hc; cases hd; exact cL.bf 4
 | i + 8, hc, hd => simp [D.cells] at hc⟩
end
theorem Ja : lu GV := by
 have h : oG [] := ⟨by decide, by simp⟩
 exact ⟨gQ, gQ, gQ, h, h, h, h, h, h⟩
theorem EO : jP [rwL, rwL] := ⟨by decide, fun r hr => by
 have : r = rwL := by simpa using hr
 subst this
 exact ⟨by decide, fun c hc => by
  have : c = GV := by simpa [rwL] using hc
  subst this; exact Ja⟩⟩
theorem H7 : jP [] := ⟨by decide, by simp⟩
section
attribute [local semireducible] gK eD jb mH dE cellsOf
theorem Lc : gK hdL [rwL, rwL] 0 = 0 := by decide +kernel
theorem GN : gK hd0 [] 0 = 12 := by decide +kernel
theorem Kn : (eD hdL [rwL, rwL] 0 0).length = 56 := by decide +kernel
theorem Mm : (cellsOf [rwL, rwL]).length = 4 := by decide +kernel
end
theorem zM : ACalls (cxg gA) 16 [] [] (fun r H => r = B true ∧ H = []) := by
 have b1 := (Hf hdL [rwL, rwL] 0 EO (by decide) Lc (by rw [Mm]; decide) (by decide)).weak (args := [.d LG]) ⟨cn.d LF, trivial⟩
 rw [Kn] at b1
 have b2 := (Jm hd0 [] 0 H7 (by decide) (by rw [GN]; decide)).weak (args := [.d LI]) ⟨cn.d LH, trivial⟩
 rw [GN] at b2
 refine ACalls.enter Tryz.func16 rfl Tryz.ntmps16 (by kernel_rfl) rfl ?_; simp only [aB, nm, Nat.reduceAdd]
 repeat' (first | refine aa.aD ?_ | refine aa.aY true ?_ | refine aa.dL true ?_ | refine aa.iy true ?_ | refine aa.ak (b1) ?_ | refine aa.aL (b1) ?_ | refine aa.ak (b2) ?_ | refine aa.aL (b2) ?_ | refine aa.bL ?_ | refine aa.aR ?_ | refine aa.bO ?_ | refine aa.ah ?_ | refine aa.af ?_ | refine aa.av ?_ | refine aa.ai ?_ | (refine aa.aG ?_; simp only [nm, nz, Nat.reduceAdd]) | (refine aa.aP ?_; simp only [nm, nz, Nat.reduceAdd]) | (refine aa.az ?_; simp only [nm, nz, Nat.reduceAdd]) | (refine aa.bz ?_; simp only [nm, nz, Nat.reduceAdd, bS, dF, AV.unD]) | (refine aa.EZ ?_; simp only [nm, nz, Nat.reduceAdd, bS, dF, AV.unD]) | refine aa.aj ?_ | refine aa.aX ?_ | refine aa.zH ?_ | refine aa.cN ?_ | refine aa.LX ?_ | refine aa.LJ ?_ | refine aa.bh ?_ | refine aa.LY ?_ | refine aa.LL ?_ | refine aa.aU ?_ | refine aa.cB ?_ | refine aa.fw ?_ | refine aa.Kc ?_ | refine aa.J3 ?_ | refine aa.eG ?_ | refine aa.Ke ?_ | refine aa.J4 ?_ | refine aa.aA ?_ | refine aa.j6 ?_ | refine aa.CP ?_ | refine aa.aV ?_ | apply aa.dP | apply aa.lpU | intro _ | (apply aa.eu ; rfl) | ((first | apply aa.gD | apply aa.qgD | apply aa.sgD); rfl; rfl; rfl) | ((first | apply aa.gS | apply aa.qgS | apply aa.sgS); rfl; rfl; rfl) | (apply aa.jr; rfl) | refine aa.au ?_ | refine aa.aQ ?_ | refine aa.H9 ?_ | refine aa.aI ?_)
 all_goals first | exact ⟨rfl, rfl⟩
end Sh
end Go.Proofs.YtbfojhfiemcnpaaGreatDoor.Av
