/- Cells' digits are few. A sheet's next cell is written: sheetout.Put$1. A sheet's digits. A sheet is written: sheetout.Put. -/
import Derived.Test.YtbfojhfiemcnpaaGreatDoorPy10
import Derived.Test.YtbfojhfiemcnpaaGreatDoorSh18
set_option linter.unusedVariables false
set_option linter.unusedSimpArgs false
set_option maxRecDepth 100000
set_option maxHeartbeats 64000000
namespace Go.Proofs.YtbfojhfiemcnpaaGreatDoor.Av
namespace Co
open Go Bt Tc Wr Bl
attribute [local irreducible] aa ACalls
variable {gl : List (Nat × List D)}
theorem gM.nil (n : Nat) : gM [] n := ⟨rfl, by simp⟩
theorem Eu (c : Cel) : gM (stR c) 2 := by
 unfold stR
 split
 ·exact pJ _
 ·exact gM.nil _
theorem yz (c : Cel) (m p : Int) : gM (mvR c m p) 13 := by
 unfold mvR
 split
 ·exact gM.nil _
 ·exact iz _
theorem E0 {w : List UInt8} {n : Nat} {b : Bool} {px py : Int} {c : Cel} (hw : gM w n) (h : dE b c = true) : gM (putRow w b px py c) (n + 13000) := by
 obtain ⟨hs, hcase⟩ := vn h
 have hh : c.skip = true ∨ fU b c = true := by rcases hcase with h1 | h1; exact .inl h1; exact .inr h1.2.1
 have f0 := hw.app (vF hs hh)
 have hcd := lZ c
 unfold putRow
 rcases hcase with hk | ⟨hk, hm, hst, hv, hbl⟩
 ·rw [if_pos hk]
  exact ⟨f0.1, by have := f0.2; omega⟩
 ·rw [if_neg (by rw [hk]; decide)]
  unfold mK at hbl
  simp only [Bool.and_eq_true] at hbl
  obtain ⟨⟨⟨⟨⟨b0, b1⟩, b2⟩, b3⟩, b4⟩, b5⟩ := hbl
  have f := ((((((((((f0.app (xy (aK c.kind) (eB c / 2 ^ 2) (by omega))).app (Eu c)).app (yz c c.mx px)).app (yz c c.my py)).app (df b0)).app (df b1)).app (df b2)).app (df b3)).app (df b4)).app (df b5))
  exact ⟨f.1, by have := f.2; omega⟩
end Co
namespace Sh
open Go Bt Co Wr
attribute [local irreducible] aa ACalls
variable {gl : List (Nat × List D)}
def jl (b : Bool) (A F : Int) (vs : List (Int × Int)) (c : Cel) : List UInt8 := putRow [] b (ofV vs A F).1 (ofV vs A F).2 c
abbrev PO (w : List UInt8) (h : Hd) (rs : List Rw) (z : Int) (vs : List (Int × Int)) (A F : Int) : List aH :=
 WO w ++ [.cells [.ptr 0 0], .cells (shA h (rsD rs) z), .cells [I A], .cells [.own 2 (vD vs) 7], .cells [I F], .front 52 2 (vD vs).length]
attribute [local irreducible] Tc.bG suD bD rsD dE bg bR eQ putRow ofV vD
theorem Kk (w : List UInt8) (h : Hd) (rs : List Rw) (z : Int) (vs : List (Int × Int)) (A F : Int) (c : Cel) (ok : lu c) (hr : dE h.inter c = true) (hw : gM w 10000000) (hA : 1 ≤ A ∧ A ≤ 1000000) (hl : vs.length ≤ 1000000) (hv : lq vs) :
  ACalls (cxg gA) 48 [.d (lH c), .ptr 2 0, .ptr 3 0, .ptr 5 0, .ptr 4 0, .ptr 6 0] (PO w h rs z vs A F)
   (fun r H => r = .bW [] ∧ H = PO (w ++ jl h.inter A F vs c) h rs z (vs ++ [mvP c]) A F) := by
 obtain ⟨i1, i2⟩ := hv.of A F
 have oc := Mc (gl := gA) vs A F hA hl
 have cp := K7 w h.inter (ofV vs A F).1 (ofV vs A F).2 c ok i1 i2 hr hw
 rw [Ic] at cp
 have hvl := vY vs
 unfold jl
 unfold PO
 rw [Ee]
 refine ACalls.enter Tryz.func48 rfl Tryz.ntmps48 (by kernel_rfl) rfl ?_; simp only [aB, nm, Nat.reduceAdd]
 repeat' (first | refine aa.aD ?_ | (apply aa.iL [0, 1, 2, 3, 4, 5, 6, 7, 8] 9 8; rfl) | (apply bE.fq; rfl; (apply cE.q true; rfl; rfl; first | exact True.intro | omega | (rw [hvl]; omega)); exact fun _ _ _ h => h; (iterate 6 rfl); kernel_rfl; kernel_rfl) | (apply bE.load; rfl; rfl; (first | exact True.intro | omega | (rw [hvl]; omega)); exact fun _ _ _ h => h; (iterate 6 rfl); kernel_rfl; kernel_rfl) | (apply bE.go) | refine aT.cZ ?_ | (refine aT.dI ( oc) ?_; try simp only [ny, nh, Nat.reduceAdd, Nat.reduceSub]) | refine aT.fK ?_ | (apply aT.back) | (exact aa.fS) | (apply aa.append; (iterate 11 rfl); (first | rfl | (simp only [List.length_append, List.length_map, List.length_cons, List.length_nil]; omega)); (first | (simp only [List.length_append, List.length_map, List.length_cons, List.length_nil]; omega) | (rw [hvl]; omega)); simp only [List.set_cons_zero, List.set_cons_succ]) | (apply aa.q true; rfl; rfl; rfl; rfl; first | exact True.intro | omega | (simp only [tn, Int.reduceToNat]; omega) | (rw [hvl]; omega)) | (refine aa.ae [0,1] ( cp) ?_; simp only [ny, nh, Nat.reduceAdd, Nat.reduceSub]) | (refine aa.aP ?_; simp only [nm, nz, Nat.reduceAdd]) | (refine aa.az ?_; simp only [nm, nz, Nat.reduceAdd]) | refine aa.aV ?_ | refine aa.jR ?_ | intro _)
 all_goals first | exact ⟨rfl, rfl⟩ | omega
end Sh
namespace Sh
open Go Bt Co Wr
def mvs (l : List Cel) : List (Int × Int) := l.map mvP
theorem wS (l m : List Cel) : mvs (l ++ m) = mvs l ++ mvs m := by simp [mvs]
theorem wR (l : List Cel) : (mvs l).length = l.length := by simp [mvs]
def bP (b : Bool) (A F : Int) : List (Int × Int) → List Cel → List UInt8
 | _, [] => []
 | vs, c :: r => jl b A F vs c ++ bP b A F (vs ++ [mvP c]) r
theorem mI (b : Bool) (A F : Int) : ∀ (l m : List Cel) (vs : List (Int × Int)), bP b A F vs (l ++ m) = bP b A F vs l ++ bP b A F (vs ++ mvs l) m
 | [], m, vs => by simp [bP, mvs]
 | c :: l, m, vs => by
  have ih := mI b A F l m (vs ++ [mvP c])
  simp only [List.cons_append, bP, ih, List.append_assoc]
  simp [mvs]
theorem uT (b : Bool) (A F : Int) (vs : List (Int × Int)) {l : List Cel} {k : Nat} {c : Cel} (h : l[k]? = some c) : bP b A F vs (l.take (k + 1)) = bP b A F vs (l.take k) ++ jl b A F (vs ++ mvs (l.take k)) c := by
 rw [pG h, mI]
 simp [bP]
theorem Fs {l : List Cel} {k : Nat} {c : Cel} (h : l[k]? = some c) : mvs (l.take (k + 1)) = mvs (l.take k) ++ [mvP c] := by
 rw [pG h, wS]; rfl
def dO (L : Int) (rs : List Rw) : Nat → Int
 | 0 => 0
 | i + 1 => match rs[i]? with | some r => if r.head = true then i * L else dO L rs i | none => dO L rs i
def dZ (n : Nat) (i : Nat) (r : Rw) (out : List UInt8) : List UInt8 := if r.head = true then out ++ (zs (bZ (n + out.length)) ++ ow i r.id r.quant) else out
def gW (h : Hd) (rs : List Rw) (n : Nat) : Nat → List UInt8
 | 0 => zs (bZ n) ++ cH h
 | i + 1 => match rs[i]? with | some r => dZ n i r (gW h rs n i) ++ bP h.inter (fA h.fmt) (dO (fL h.fmt) rs (i + 1)) (mvs (cellsOf (rs.take i))) r.cells | none => gW h rs n i
theorem rS {L : Int} {rs : List Rw} {i : Nat} {r : Rw} (h : rs[i]? = some r) : dO L rs (i + 1) = if r.head = true then i * L else dO L rs i := by simp only [dO, h]
theorem qQ {h : Hd} {rs : List Rw} {n i : Nat} {r : Rw} (hr : rs[i]? = some r) : gW h rs n (i + 1) = dZ n i r (gW h rs n i) ++ bP h.inter (fA h.fmt) (dO (fL h.fmt) rs (i + 1)) (mvs (cellsOf (rs.take i))) r.cells := by simp only [gW, hr]
def eD (h : Hd) (rs : List Rw) (z : Int) (n : Nat) : List UInt8 := gW h rs n rs.length ++ zs (bZ (n + (gW h rs n rs.length).length)) ++ zs (8 * z.toNat)
theorem JO (a b : Nat) : zs a ++ zs b = zs (a + b) := by unfold zs; exact List.replicate_append_replicate
theorem sD (n : Nat) : gM (zs n) n := ⟨by unfold zs; rw [List.all_replicate]; cases n <;> simp <;> decide, by unfold zs; simp⟩
theorem sH (w : List UInt8) : eQ w = w ++ zs (bZ w.length) := rfl
theorem jZ (n : Nat) : bZ n ≤ 7 := by have := kZ n; omega
theorem vG {L : Int} {rs : List Rw} (hL : 0 ≤ L ∧ L ≤ 4) : ∀ i, i ≤ 1000 → 0 ≤ dO L rs i ∧ dO L rs i ≤ 4000
 | 0, _ => by simp [dO]
 | i + 1, hi => by
  have ih := vG (rs := rs) hL i (by omega)
  unfold dO
  split
  ·split
   ·have h1 : (0 : Int) ≤ (i : Int) * L := Int.mul_nonneg (by omega) hL.1
    have h2 : (i : Int) * L ≤ 1000 * 4 := Int.mul_le_mul (by omega) hL.2 hL.1 (by omega)
    omega
   ·exact ih
  ·exact ih
theorem xu {b : Bool} {A F : Int} {vs : List (Int × Int)} {c : Cel} (h : dE b c = true) : gM (jl b A F vs c) 13000 := by
 have := E0 (px := (ofV vs A F).1) (py := (ofV vs A F).2) (gM.nil 0) h
 unfold jl
 exact ⟨this.1, by have := this.2; omega⟩
theorem lG {b : Bool} {A F : Int} : ∀ (l : List Cel) (vs : List (Int × Int)), (∀ c ∈ l, dE b c = true) → gM (bP b A F vs l) (13000 * l.length)
 | [], vs, _ => ⟨rfl, by simp [bP]⟩
 | c :: l, vs, h => by
  have h1 := xu (A := A) (F := F) (vs := vs) (h c List.mem_cons_self)
  have h2 := lG (A := A) (F := F) l (vs ++ [mvP c]) fun x hx => h x (List.mem_cons_of_mem _ hx)
  have := h1.app h2
  exact ⟨this.1, by have := this.2; rw [List.length_cons]; simp only [bP]; omega⟩
theorem zP (i id q : Int) : gM (ow i id q) 29 := by
 unfold ow
 refine ⟨?_, ?_⟩
 ·rw [List.all_append, List.all_append, Aj, iM, iM]; rfl
 ·rw [List.length_append, List.length_append, Ai, dA, dA]; omega
theorem qi {n i : Nat} {r : Rw} {out : List UInt8} {m : Nat} (h : gM out m) : gM (dZ n i r out) (m + 36) := by
 unfold dZ
 split
 ·have h1 := h.app ((sD (bZ (n + out.length))).app (zP i r.id r.quant))
  have h2 := jZ (n + out.length)
  exact ⟨h1.1, by have := h1.2; omega⟩
 ·exact ⟨h.1, by have := h.2; omega⟩
theorem xb {h : Hd} (hh : mH h = true) : gM (Sh.cH h) 130 := by
 obtain ⟨⟨f0, f1, f2, f3, f4⟩, fs⟩ := nG hh
 have h1 := ((MF h).app (Gm h.supp)).app (fN 0 1)
 exact ⟨h1.1, by have := h1.2; unfold Sh.cH; omega⟩
theorem tN {h : Hd} {i : Nat} {r : Rw} (hr : oP h i r = true) : ∀ c ∈ r.cells, dE h.inter c = true := by
 unfold oP at hr
 simp only [Bool.and_eq_true] at hr
 exact List.all_eq_true.1 hr.2
theorem EP {h : Hd} {i : Nat} {r : Rw} (hr : oP h i r = true) (hd : r.head = true) : i ≠ 0 ∧ (0 ≤ r.id ∧ r.id ≤ 3) ∧ (1 ≤ r.quant ∧ r.quant ≤ 31) := by
 unfold oP at hr
 simp only [Bool.and_eq_true] at hr
 have := hr.1.2
 unfold Dr at this
 rw [if_pos hd] at this
 exact of_decide_eq_true this
theorem pQ {h : Hd} {rs : List Rw} : ∀ {n i : Nat} {r : Rw}, fQ h rs n = true → i < n → rs[i]? = some r → oP h i r = true
 | n + 1, i, r, hh, hi, hr => by
  rw [fQ, Bool.and_eq_true] at hh
  by_cases he : i = n
  ·subst he
   have := hh.2
   rw [hr] at this
   exact this
  ·exact pQ hh.1 (by omega) hr
theorem qR {h : Hd} {rs : List Rw} {n : Nat} (hh : mH h = true) (ha : fQ h rs rs.length = true) : ∀ i, i ≤ rs.length → gM (gW h rs n i) (137 + 36 * i + 13000 * (cellsOf (rs.take i)).length)
 | 0, _ => by
  have h1 := (sD (bZ n)).app (xb hh)
  have h2 := jZ n
  exact ⟨h1.1, by have := h1.2; simp only [gW]; omega⟩
 | i + 1, hi => by
  obtain ⟨r, hr⟩ : ∃ r, rs[i]? = some r := ⟨_, List.getElem?_eq_getElem (by omega)⟩
  have ih := qR (n := n) hh ha i (by omega)
  have hrow := pQ ha (by omega) hr
  have h1 := (qi (n := n) (i := i) (r := r) ih).app (lG (A := fA h.fmt) (F := dO (fL h.fmt) rs (i + 1)) r.cells (mvs (cellsOf (rs.take i))) (tN hrow))
  rw [qQ hr, j4 hr]
  have e : (cellsOf (rs.take i) ++ r.cells).length = (cellsOf (rs.take i)).length + r.cells.length := List.length_append
  exact ⟨h1.1, by have := h1.2; omega⟩
theorem MI (f : Int) : 0 ≤ fL f ∧ fL f ≤ 4 := by unfold fL; split <;> (try split) <;> (try split) <;> (try split) <;> (try split) <;> (try split) <;> decide
end Sh
namespace Sh
open Go Bt Co Wr
attribute [local irreducible] aa ACalls
variable {gl : List (Nat × List D)}
theorem Mf {rs : List Rw} (ok : jP rs) (i : Nat) : ∀ c ∈ cellsOf (rs.take i), lu c := fun c hc => by
 unfold cellsOf at hc
 obtain ⟨r, hr, hcr⟩ := List.mem_flatMap.1 hc
 exact (ok.cells r (List.mem_of_mem_take hr)).2 c hcr
theorem Ed {l : List Cel} (h : ∀ c ∈ l, lu c) : lq (mvs l) := fun p hp => by
 unfold mvs at hp
 obtain ⟨c, hc, rfl⟩ := List.mem_map.1 hp
 exact ⟨(h c hc).x, (h c hc).y⟩
abbrev vo : AV := .fn (.func 48) [] [.ptr 2 0, .ptr 3 0, .ptr 5 0, .ptr 4 0, .ptr 6 0]
theorem MO : bI 0 8 8 = zs 8 := by decide +kernel
theorem Du {n i : Nat} {r : Rw} {w out : List UInt8} (hn : w.length = n) (hd : r.head = true) : eQ (w ++ out) ++ ow i r.id r.quant = w ++ dZ n i r out := by
 unfold dZ
 rw [if_pos hd, sH, List.length_append, hn]
 simp only [List.append_assoc]
theorem F6 {n i : Nat} {r : Rw} {out : List UInt8} (hd : r.head = false) : dZ n i r out = out := by
 unfold dZ
 rw [if_neg (by rw [hd]; decide)]
theorem Ns (w : List UInt8) (h : Hd) (n : Nat) (hn : w.length = n) : eQ w ++ Sh.cH h = w ++ (zs (bZ n) ++ Sh.cH h) := by
 rw [sH, hn, List.append_assoc]
theorem yt (h : Hd) (rs : List Rw) (n i : Nat) : ∀ k, ∃ t, gW h rs n (i + k) = gW h rs n i ++ t
 | 0 => ⟨[], by simp⟩
 | k + 1 => by
  obtain ⟨t, ht⟩ := yt h rs n i k
  rw [← Nat.add_assoc]
  show ∃ t, (match rs[i + k]? with | some r => dZ n (i + k) r (gW h rs n (i + k)) ++ bP h.inter (fA h.fmt) (dO (fL h.fmt) rs (i + k + 1)) (mvs (cellsOf (rs.take (i + k)))) r.cells | none => gW h rs n (i + k)) = _
  split
  ·rw [ht]
   unfold dZ
   split
   ·exact ⟨_, by simp only [List.append_assoc]; rfl⟩
   ·exact ⟨_, by simp only [List.append_assoc]; rfl⟩
  ·exact ⟨t, ht⟩
theorem Ih (h : Hd) (rs : List Rw) (n i : Nat) (hi : i ≤ rs.length) : (gW h rs n i).length ≤ (gW h rs n rs.length).length := by
 obtain ⟨t, ht⟩ := yt h rs n i (rs.length - i)
 rw [show i + (rs.length - i) = rs.length by omega] at ht
 rw [ht, List.length_append]; omega
theorem zb (b : Bool) (A F : Int) (vs : List (Int × Int)) (l : List Cel) (k : Nat) : (bP b A F vs (l.take k)).length ≤ (bP b A F vs l).length := by
 have e := mI b A F (l.take k) (l.drop k) vs
 rw [List.take_append_drop] at e
 rw [e, List.length_append]; omega
attribute [local irreducible] Tc.bG suD bD rsD dE bg bR eQ putRow ofV vD fQ mH Sh.cH ow zs bP gW dZ dO mvs cellsOf jl gK gy
theorem rP (w : List UInt8) (n : Nat) (h : Hd) (rs : List Rw) (z : Int) (ok : jP rs) (hl : h.supp.length ≤ 100) (hc : gK h rs z = 0) (hyes : jb h rs z = true) (hw : gM w n) (hn : w.length = n) (hT : n + (gW h rs n rs.length).length ≤ 9000000) (hz4 : z ≤ 1000000) :
    ACalls (cxg gA) 18 [.ptr 0 0, .d (shD h (rsD rs) z)] (WO w) (fun r H => r = I 0 ∧ H = WO (w ++ eD h rs z n)) := by
  have ck := (Cs h rs z ok hl).more gb
  rw [hc] at ck
  obtain ⟨hh, hz, hR, ha⟩ := jB hyes
  obtain ⟨hf, hlen⟩ := q9 hyes
  have sp := zJ (gl := gA) h (rsD rs) z w n hh hw (by omega)
  rw [Ns w h n hn] at sp
  have k1 := iQ (gl := gA) h.fmt
  have k2 := oO (gl := gA) h.fmt
  have hAb := Gn hf
  have hLb := MI h.fmt
  have hRb : fR h.fmt ≤ 18 := by unfold fR; split <;> (try split) <;> (try split) <;> (try split) <;> (try split) <;> (try split) <;> decide
  have hof := fun i hi => qR (n := n) (i := i) hh ha hi
  have hcl : ∀ i, (cellsOf (rs.take i)).length ≤ (cellsOf rs).length := fun i => by
    have e : cellsOf rs = cellsOf (rs.take i) ++ cellsOf (rs.drop i) := by
      unfold cellsOf
      rw [← List.flatMap_append, List.take_append_drop]
    rw [e, List.length_append]; omega
  have hle := fun i hi => Ih h rs n i hi
  have hcn : (cellsOf rs).length ≤ 6336 := by
    have h1 : fA h.fmt * fD h.fmt ≤ 88 * 72 := Int.mul_le_mul hAb.2.1 hAb.2.2.2 (by omega) (by omega)
    omega
  have hrl := nQ rs
  have o0 : gW h rs n 0 = zs (bZ n) ++ Sh.cH h := by unfold gW; rfl
  have f0 : dO (fL h.fmt) rs 0 = 0 := by unfold dO; rfl
  have m0 : vD (mvs (cellsOf (rs.take 0))) = [] := by rw [List.take_zero]; unfold vD mvs cellsOf; rfl
  have hfb := fun i hi => vG (rs := rs) hLb i hi
  rw [← o0] at sp
  refine ACalls.enter Tryz.func18 rfl Tryz.ntmps18 (by kernel_rfl) rfl ?_; simp only [aB, nm, Nat.reduceAdd]
  repeat (first | refine aa.aD ?_ | refine aa.aY true ?_ | (refine aa.ae [0,1] ( sp) ?_; simp only [ny, nh, Nat.reduceAdd, Nat.reduceSub]) | refine aa.ak (ck) ?_ | refine aa.ak (k1) ?_ | refine aa.ak (k2) ?_ | refine aa.ah ?_ | refine aa.af ?_ | refine aa.ai ?_ | (refine aa.aG ?_; simp only [nm, nz, Nat.reduceAdd]) | (refine aa.aP ?_; simp only [nm, nz, Nat.reduceAdd]) | (refine aa.az ?_; simp only [nm, nz, Nat.reduceAdd]) | refine aa.aU ?_ | refine aa.cB ?_ | (refine aa.yN 5 0 52 2 ?_; simp only [List.set_cons_zero, List.set_cons_succ, List.length_cons, List.length_nil, Nat.reduceAdd, List.cons_append, List.nil_append]) | (apply aa.qm 5 0; rfl; rfl; rfl; first | rfl | (simp only [List.length_append, List.length_map, List.length_set, List.length_replicate, List.length_cons, List.length_nil]; omega); simp only [List.set_cons_zero, List.set_cons_succ]))
  refine aa.weak (env' := [(43, I ((0 : Nat) : Int)), (42, I ((rsD rs).length : Int)), (41, .d (.sl 4 (rsD rs))), (12, vo), (11, .ptr 6 0), (9, I (fL h.fmt)), (3, .ptr 3 0), (2, .ptr 2 0)]) ⟨rfl, rfl, rfl, rfl, rfl, rfl, rfl, rfl, trivial⟩ ?_
  refine aa.loop (fun m env H => ∃ i : Nat, m = rs.length - i ∧ i ≤ rs.length ∧ env = [(43, I (i : Int)), (42, I ((rsD rs).length : Int)), (41, .d (.sl 4 (rsD rs))), (12, vo), (11, .ptr 6 0), (9, I (fL h.fmt)), (3, .ptr 3 0), (2, .ptr 2 0)] ∧ H = PO (w ++ gW h rs n i) h rs z (mvs (cellsOf (rs.take i))) (fA h.fmt) (dO (fL h.fmt) rs i)) rs.length
    ⟨0, rfl, by omega, rfl, by unfold PO; rw [m0, f0]; rfl⟩ ?_
  rintro m env H ⟨i, rfl, hi, rfl, rfl⟩
  rcases Nat.lt_or_ge i rs.length with hlt | hge
  · obtain ⟨r, hr⟩ : ∃ r, rs[i]? = some r := ⟨_, List.getElem?_eq_getElem hlt⟩
    have g1 := wu hr
    obtain ⟨hrl, hrc⟩ := ok.cells r (List.mem_of_getElem? hr)
    have hrow := pQ ha (by omega) hr
    have hcells := tN hrow
    have hX := hcl i
    have eX := j4 hr
    have hX2 := hcl (i + 1)
    rw [eX, List.length_append] at hX2
    have hm := ko r.cells
    have fo := hof i (by omega)
    have hle1 := hle i (by omega)
    have hle2 := hle (i + 1) (by omega)
    have ho := qi (n := n) (i := i) (r := r) fo
    have eO := qQ (n := n) hr (h := h)
    have eF := rS (L := fL h.fmt) hr
    have hFb := hfb (i + 1) (by omega)
    have hvI := Ed (Mf ok i)
    have eM : mvs (cellsOf (rs.take (i + 1))) = mvs (cellsOf (rs.take i)) ++ mvs r.cells := by rw [eX, wS]
    have hmul : (0 : Int) ≤ (i : Int) * fL h.fmt ∧ (i : Int) * fL h.fmt ≤ 1000 * 4 := ⟨Int.mul_nonneg (by omega) hLb.1, Int.mul_le_mul (by omega) hLb.2 hLb.1 (by omega)⟩
    generalize hXX : cellsOf (rs.take i) = X at *
    generalize hMM : mvs X = M at *
    have hML : M.length = X.length := by rw [← hMM, wR]
    generalize hOO : gW h rs n i = O at *
    generalize hFF : dO (fL h.fmt) rs i = F0 at *
    have wO : gM (w ++ O) (n + (137 + 36 * i + 13000 * X.length)) := hw.app fo
    have c0 : ∀ F, bP h.inter (fA h.fmt) F M (r.cells.take 0) = [] := fun F => by rw [List.take_zero]; unfold bP; rfl
    have m00 : mvs (r.cells.take 0) = [] := by rw [List.take_zero]; unfold mvs; rfl
    have hcf := fun k => lG (A := fA h.fmt) (F := dO (fL h.fmt) rs (i + 1)) (r.cells.take k) M (fun c hc => hcells c (List.mem_of_mem_take hc))
    generalize hF1 : dO (fL h.fmt) rs (i + 1) = F1 at *
    rcases Bool.eq_false_or_eq_true r.head with hd | hd
    all_goals
      first
        | (obtain ⟨q0, q1, q2⟩ := EP hrow hd
           have rp := H8 (gl := gA) (w ++ O) i r.id r.quant wO.1 (by rw [List.length_append]; omega) (by omega) q1 q2
           rw [Du hn hd] at rp
           rw [if_pos hd] at eF
           have e1 : dZ n i r O = dZ n i r O := rfl
           have e2 : (i : Int) * fL h.fmt = F1 := eF.symm
           repeat' (first | refine aa.aD ?_ | (apply aa.opx; (apply bM; (iterate 7 rfl); (first | omega | (rw [hrl]; omega) | (exact ⟨by omega, by omega⟩)); exact g1); rfl; rfl; rfl) | (apply aa.q true; rfl; rfl; rfl; rfl; first | exact True.intro | omega | (simp only [tn, Int.reduceToNat]; omega) | (rw [hrl]; omega) | (exact ⟨by omega, by omega⟩)) | (refine aa.ae [0,1] ( rp) ?_; simp only [ny, nh, Nat.reduceAdd, Nat.reduceSub]) | refine aa.ah ?_ | refine aa.af ?_ | refine aa.ai ?_ | (refine aa.aG ?_; simp only [nm, nz, Nat.reduceAdd]) | (refine aa.aP ?_; simp only [nm, nz, Nat.reduceAdd]) | (refine aa.az ?_; simp only [nm, nz, Nat.reduceAdd]) | (apply aa.cBT; rfl; first | (simp only [bT]; omega) | (exact hd)) | (apply aa.cBF; rfl; first | (simp only [bF]; omega) | exact ndF rfl | (exact hd)) | intro _ | refine aa.au ?_ | refine aa.aI ?_)
           rw [e2])
        | (have rp := F6 (n := n) (i := i) (out := O) hd
           rw [if_neg (by rw [hd]; decide)] at eF
           repeat' (first | refine aa.aD ?_ | (apply aa.opx; (apply bM; (iterate 7 rfl); (first | omega | (rw [hrl]; omega)); exact g1); rfl; rfl; rfl) | (apply aa.q true; rfl; rfl; rfl; rfl; first | exact True.intro | omega | (simp only [tn, Int.reduceToNat]; omega) | (rw [hrl]; omega)) | refine aa.ah ?_ | refine aa.af ?_ | refine aa.ai ?_ | (refine aa.aG ?_; simp only [nm, nz, Nat.reduceAdd]) | (refine aa.aP ?_; simp only [nm, nz, Nat.reduceAdd]) | (refine aa.az ?_; simp only [nm, nz, Nat.reduceAdd]) | (apply aa.cBT; rfl; first | (simp only [bT]; omega) | (exact hd)) | (apply aa.cBF; rfl; first | (simp only [bF]; omega) | exact ndF rfl | (exact hd)) | intro _ | refine aa.au ?_ | refine aa.aI ?_)
           rw [← eF, ← rp])
    all_goals
      generalize hHO : dZ n i r O = Q at *
      refine aa.weak (env' := [(63, I ((0 : Nat) : Int)), (62, I ((bD r.cells).length : Int)), (61, .d (.sl 18 (bD r.cells))), (43, I (i : Int)), (42, I ((rsD rs).length : Int)), (41, .d (.sl 4 (rsD rs))), (12, vo), (11, .ptr 6 0), (9, I (fL h.fmt)), (3, .ptr 3 0), (2, .ptr 2 0)]) ⟨rfl, rfl, rfl, rfl, rfl, rfl, rfl, rfl, rfl, rfl, rfl, trivial⟩ ?_
      refine aa.loop (fun m env H => ∃ k : Nat, m = r.cells.length - k ∧ k ≤ r.cells.length ∧ env = [(63, I (k : Int)), (62, I ((bD r.cells).length : Int)), (61, .d (.sl 18 (bD r.cells))), (43, I (i : Int)), (42, I ((rsD rs).length : Int)), (41, .d (.sl 4 (rsD rs))), (12, vo), (11, .ptr 6 0), (9, I (fL h.fmt)), (3, .ptr 3 0), (2, .ptr 2 0)] ∧ H = PO (w ++ (Q ++ bP h.inter (fA h.fmt) F1 M (r.cells.take k))) h rs z (M ++ mvs (r.cells.take k)) (fA h.fmt) F1 ++ [.cells (rwA r)]) r.cells.length
        ⟨0, rfl, by omega, rfl, by rw [c0, m00, List.append_nil, List.append_nil]; rfl⟩ ?_
      rintro m env H ⟨k, rfl, hk, rfl, rfl⟩
      rcases Nat.lt_or_ge k r.cells.length with hlt2 | hge2
      · obtain ⟨c, hc2⟩ : ∃ c, r.cells[k]? = some c := ⟨_, List.getElem?_eq_getElem hlt2⟩
        have g2 := nZ hc2
        have okc := hrc c (List.mem_of_getElem? hc2)
        have hrc2 := hcells c (List.mem_of_getElem? hc2)
        have hfk := hcf k
        have hkl : (r.cells.take k).length = k := by rw [List.length_take]; omega
        rw [hkl] at hfk
        have wk : gM (w ++ (Q ++ bP h.inter (fA h.fmt) F1 M (r.cells.take k))) 10000000 := by
          have := hw.app (ho.app hfk)
          have hck := zb h.inter (fA h.fmt) F1 M r.cells k
          have hq2 := hle2
          rw [eO, List.length_append] at hq2
          exact ⟨this.1, by simp only [List.length_append]; omega⟩
        have hvk : lq (M ++ mvs (r.cells.take k)) := fun p hp => by
          rcases List.mem_append.1 hp with hp | hp
          · exact hvI p hp
          · exact Ed (fun c hc => hrc c (List.mem_of_mem_take hc)) p hp
        have hvl : (M ++ mvs (r.cells.take k)).length ≤ 1000000 := by rw [List.length_append, wR, hkl]; omega
        have p1 := Kk (w ++ (Q ++ bP h.inter (fA h.fmt) F1 M (r.cells.take k))) h rs z (M ++ mvs (r.cells.take k)) (fA h.fmt) F1 c okc hrc2 wk (by omega) hvl hvk
        have eT : w ++ (Q ++ bP h.inter (fA h.fmt) F1 M (r.cells.take k)) ++ jl h.inter (fA h.fmt) F1 (M ++ mvs (r.cells.take k)) c = w ++ (Q ++ bP h.inter (fA h.fmt) F1 M (r.cells.take (k + 1))) := by rw [uT _ _ _ _ hc2]; simp only [List.append_assoc]
        have eV : M ++ mvs (r.cells.take k) ++ [mvP c] = M ++ mvs (r.cells.take (k + 1)) := by rw [Fs hc2, List.append_assoc]
        rw [eT, eV] at p1
        repeat' (first | refine aa.aD ?_ | (apply aa.opx; (apply bM; (iterate 7 rfl); (first | omega | (rw [hm]; omega)); exact g2); rfl; rfl; rfl) | (apply aa.q true; rfl; rfl; rfl; rfl; first | exact True.intro | omega | (simp only [tn, Int.reduceToNat]; omega) | (rw [hm]; omega)) | (refine aa.ae [0,1,2,3,4,5,6,7] ( p1) ?_; simp only [ny, nh, Nat.reduceAdd, Nat.reduceSub]) | refine aa.ah ?_ | refine aa.af ?_ | refine aa.ai ?_ | (refine aa.aG ?_; simp only [nm, nz, Nat.reduceAdd]) | (refine aa.aP ?_; simp only [nm, nz, Nat.reduceAdd]) | (refine aa.az ?_; simp only [nm, nz, Nat.reduceAdd]) | refine aa.aU ?_ | refine aa.cB ?_ | intro _ | refine aa.au ?_ | refine aa.aI ?_)
        all_goals first
          | exact aa.lC 9 [(63, I ((k + 1 : Nat) : Int)), (62, I ((bD r.cells).length : Int)), (61, .d (.sl 18 (bD r.cells))), (43, I (i : Int)), (42, I ((rsD rs).length : Int)), (41, .d (.sl 4 (rsD rs))), (12, vo), (11, .ptr 6 0), (9, I (fL h.fmt)), (3, .ptr 3 0), (2, .ptr 2 0)] (r.cells.length - (k + 1)) (by omega) rfl rfl rfl rfl ⟨rfl, rfl, rfl, rfl, rfl, rfl, rfl, rfl, rfl, rfl, rfl, trivial⟩ ⟨k + 1, rfl, hlt2, rfl, rfl⟩
          | omega
      · obtain rfl : k = r.cells.length := by omega
        rw [List.take_length]
        repeat' (first | refine aa.aD ?_ | refine aa.aY true ?_ | refine aa.ah ?_ | refine aa.af ?_ | refine aa.ai ?_ | (refine aa.aG ?_; simp only [nm, nz, Nat.reduceAdd]) | (refine aa.aP ?_; simp only [nm, nz, Nat.reduceAdd]) | (refine aa.az ?_; simp only [nm, nz, Nat.reduceAdd]) | refine aa.aU ?_ | refine aa.cB ?_ | intro _ | refine aa.au ?_ | refine aa.aI ?_)
        all_goals first
          | exact aa.lC 8 [(43, I ((i + 1 : Nat) : Int)), (42, I ((rsD rs).length : Int)), (41, .d (.sl 4 (rsD rs))), (12, vo), (11, .ptr 6 0), (9, I (fL h.fmt)), (3, .ptr 3 0), (2, .ptr 2 0)] (rs.length - (i + 1)) (by omega) rfl rfl rfl rfl ⟨rfl, rfl, rfl, rfl, rfl, rfl, rfl, rfl, trivial⟩ ⟨i + 1, rfl, hlt, rfl, by rw [eO, eM, hF1]; rfl⟩
          | omega
  · obtain rfl : i = rs.length := by omega
    have fo := hof rs.length (Nat.le_refl _)
    rw [List.take_length] at fo
    have hrl18 : rs.length ≤ 18 := by omega
    have wf := A9 (gl := gA) (w ++ gW h rs n rs.length) (by rw [List.length_append]; omega)
    rw [sH, List.length_append, hn] at wf
    obtain ⟨N, hN⟩ := Int.eq_ofNat_of_zero_le hz.1
    have hso : w ++ gW h rs n rs.length ++ zs (bZ (n + (gW h rs n rs.length).length)) ++ zs (8 * N) = w ++ eD h rs z n := by
      unfold eD; rw [hN, Int.toNat_natCast]; simp only [List.append_assoc]
    rw [← hso]
    have hWf := (hw.app fo).app (sD (bZ (n + (gW h rs n rs.length).length)))
    have hp7 := jZ (n + (gW h rs n rs.length).length)
    have hWl : (w ++ gW h rs n rs.length ++ zs (bZ (n + (gW h rs n rs.length).length))).length ≤ 9000007 := by
      simp only [List.length_append, show ∀ k, (zs k).length = k from fun k => by unfold zs; simp]; omega
    generalize w ++ gW h rs n rs.length ++ zs (bZ (n + (gW h rs n rs.length).length)) = W at *
    have zz : W ++ zs (8 * 0) = W := by unfold zs; simp
    repeat' (first | refine aa.aD ?_ | refine aa.aY true ?_ | (refine aa.ae [0,1] ( wf) ?_; simp only [ny, nh, Nat.reduceAdd, Nat.reduceSub]) | refine aa.ah ?_ | refine aa.af ?_ | refine aa.ai ?_ | (refine aa.aG ?_; simp only [nm, nz, Nat.reduceAdd]) | (refine aa.aP ?_; simp only [nm, nz, Nat.reduceAdd]) | (refine aa.az ?_; simp only [nm, nz, Nat.reduceAdd]) | refine aa.aU ?_ | refine aa.cB ?_ | intro _ | refine aa.au ?_ | refine aa.aI ?_)
    refine aa.weak (env' := [(76, I ((0 : Nat) : Int)), (75, I z), (2, .ptr 2 0)]) ⟨rfl, rfl, rfl, trivial⟩ ?_
    refine aa.loop (fun m env H => ∃ k : Nat, m = N - k ∧ k ≤ N ∧ env = [(76, I (k : Int)), (75, I z), (2, .ptr 2 0)] ∧ H = PO (W ++ zs (8 * k)) h rs z (mvs (cellsOf (rs.take rs.length))) (fA h.fmt) (dO (fL h.fmt) rs rs.length)) N
      ⟨0, rfl, by omega, rfl, by rw [zz]; rfl⟩ ?_
    rintro m env H ⟨k, rfl, hk, rfl, rfl⟩
    rcases Nat.lt_or_ge k N with hlt | hge2
    · have wk := hWf.app (sD (8 * k))
      have wp := qJ (gl := gA) (W ++ zs (8 * k)) 0 8 wk.1 (by rw [List.length_append, show (zs (8 * k)).length = 8 * k by unfold zs; simp]; omega) (by omega) (by decide)
      rw [MO, List.append_assoc, JO, show 8 * k + 8 = 8 * (k + 1) by omega] at wp
      repeat' (first | refine aa.aD ?_ | refine aa.aY true ?_ | (refine aa.ae [0,1] ( wp) ?_; simp only [ny, nh, Nat.reduceAdd, Nat.reduceSub]) | refine aa.ah ?_ | refine aa.af ?_ | refine aa.ai ?_ | (refine aa.aG ?_; simp only [nm, nz, Nat.reduceAdd]) | (refine aa.aP ?_; simp only [nm, nz, Nat.reduceAdd]) | (refine aa.az ?_; simp only [nm, nz, Nat.reduceAdd]) | refine aa.aU ?_ | refine aa.cB ?_ | intro _ | refine aa.au ?_ | refine aa.aI ?_)
      all_goals first
        | exact aa.round [(76, I ((k + 1 : Nat) : Int)), (75, I z), (2, .ptr 2 0)] (N - (k + 1)) (by omega) ⟨rfl, rfl, rfl, trivial⟩ ⟨k + 1, rfl, hlt, rfl, rfl⟩
        | omega
    · obtain rfl : k = N := by omega
      repeat' (first | refine aa.aD ?_ | refine aa.aY true ?_ | refine aa.ah ?_ | refine aa.af ?_ | refine aa.ai ?_ | (refine aa.aG ?_; simp only [nm, nz, Nat.reduceAdd]) | (refine aa.aP ?_; simp only [nm, nz, Nat.reduceAdd]) | (refine aa.az ?_; simp only [nm, nz, Nat.reduceAdd]) | refine aa.aU ?_ | refine aa.cB ?_ | intro _ | refine aa.au ?_ | refine aa.aI ?_)
      all_goals first | exact ⟨rfl, rfl⟩ | omega
theorem zN (w : List UInt8) (n : Nat) (h : Hd) (rs : List Rw) (z : Int) (ok : jP rs) (hl : h.supp.length ≤ 100) (hc : gK h rs z = 0) (hyes : jb h rs z = true) (hw : gM w n) (hn : w.length = n) (hbig : n + 13000 * (cellsOf rs).length + 1000 ≤ 9000000) (hz4 : z ≤ 1000000) :
  ACalls (cxg gA) 18 [.ptr 0 0, .d (shD h (rsD rs) z)] (WO w) (fun r H => r = I 0 ∧ H = WO (w ++ eD h rs z n)) := by
 obtain ⟨hh, hz, hR, ha⟩ := jB hyes
 have fo := qR (n := n) hh ha rs.length (Nat.le_refl _)
 rw [List.take_length] at fo
 have hRb : fR h.fmt ≤ 18 := by unfold fR; split <;> (try split) <;> (try split) <;> (try split) <;> (try split) <;> (try split) <;> decide
 exact rP w n h rs z ok hl hc hyes hw hn (by have := fo.2; omega) hz4
theorem uR (w : List UInt8) (h : Hd) (rs : List Rw) (z : Int) (ok : jP rs) (hl : h.supp.length ≤ 100) (hc : gK h rs z ≠ 0) :
  ACalls (cxg gA) 18 [.ptr 0 0, .d (shD h (rsD rs) z)] (WO w) (fun r H => r = I (gK h rs z) ∧ H = WO w) := by
 have ck := (Cs h rs z ok hl).more gb
 refine ACalls.enter Tryz.func18 rfl Tryz.ntmps18 (by kernel_rfl) rfl ?_; simp only [aB, nm, Nat.reduceAdd]
 repeat' (first | refine aa.aD ?_ | refine aa.aY true ?_ | refine aa.ak (ck) ?_ | refine aa.ai ?_ | (refine aa.aP ?_; simp only [nm, nz, Nat.reduceAdd]) | refine aa.aU ?_ | intro _ | refine aa.au ?_)
 all_goals first | exact ⟨rfl, rfl⟩ | omega
end Sh
end Go.Proofs.YtbfojhfiemcnpaaGreatDoor.Av
