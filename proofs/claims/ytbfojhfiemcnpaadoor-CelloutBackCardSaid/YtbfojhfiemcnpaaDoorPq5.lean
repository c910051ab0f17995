/- Cells are read: what is told of bits. Cells are read: steps; the parts' contracts. Cells are read: cellin's head. Cells are read: cellin's middle. -/
import Derived.Test.YtbfojhfiemcnpaaDoorPq2
import Derived.Test.YtbfojhfiemcnpaaDoorCo2
import Derived.Test.YtbfojhfiemcnpaaDoorMb3
import Derived.Test.YtbfojhfiemcnpaaDoorPq4
import Derived.Test.YtbfojhfiemcnpaaDoorPq3
import Derived.Test.YtbfojhfiemcnpaaDoorPl
import Derived.Test.YtbfojhfiemcnpaaDoorPq11
import Derived.Test.YtbfojhfiemcnpaaDoorPn4
import Derived.Test.YtbfojhfiemcnpaaDoorPn3
import Derived.Test.YtbfojhfiemcnpaaDoorCo1
import Derived.Test.YtbfojhfiemcnpaaDoorPn5
/- Cells are read: what is told of bits. -/
set_option linter.unusedSimpArgs false
set_option linter.unusedVariables false
set_option maxRecDepth 100000
namespace Go.Proofs.YtbfojhfiemcnpaaDoor.Av.Ci
open Go Bt Tc Co Bl
attribute [local irreducible] AGo ACalls
variable {gl : List (Nat × List D)}
/-! parts: what is told, what is wrong, how many bits (none if something is wrong) -/
def mbN (b : Bool) (B : List Int) : Int × Int × Int × Nat := Mb.mbX b (B.map digB)
def cbN (b : Bool) (B : List Int) : Int × Int × Nat := ((Cb.cbX b (B.map digB)).1, (Cb.cbX b (B.map digB)).2.1, if (Cb.cbX b (B.map digB)).2.1 = 0 then (Cb.cbX b (B.map digB)).2.2 else 0)
def mvN (B : List Int) : Int × Int × Nat := ((Mv.mt B 0 1).1, (Mv.mt B 0 1).2.1, if (Mv.mt B 0 1).2.1 = 0 then (Mv.mt B 0 1).2.2 else 0)
def stX (v : Int) (n : Nat) : Int × Int × Nat := if n < 2 then (0, 2, 0) else (if 2 ≤ v then v - 1 else -1 - v, 0, 2)
def stN (B : List Int) : Int × Int × Nat := stX (nB (B.take 2)) B.length
structure HdR where
  stuff : Int
  skip : Bool
  kind : Int
  chr : Int
  err : Int
  used : Nat
/-- behind a kind that was read, k bits ahead of it -/
def hdK (n : Int) (k : Nat) (x : Int × Int × Int × Nat) (y : HdR) : HdR :=
  if x.2.2.1 ≠ 0 then ⟨n, false, 0, 0, x.2.2.1, k⟩ else
  if x.1 ≠ 5 then ⟨n, false, x.1, x.2.1, 0, k + x.2.2.2⟩ else
  if n = 64 then ⟨n, false, 0, 0, 13, k + x.2.2.2⟩ else
  { y with used := k + x.2.2.2 + y.used }
def hdX (b : Bool) : Nat → Int → List Int → HdR
  | 0, n, _ => ⟨n, false, 0, 0, 13, 0⟩
  | f + 1, n, B =>
    if b = true then
      (if B = [] then ⟨n, false, 0, 0, 2, 0⟩ else if B.getD 0 0 = 1 then ⟨n, true, 0, 0, 0, 1⟩ else
       hdK n 1 (mbN b (B.drop 1)) (hdX b f (n + 1) (B.drop (1 + (mbN b (B.drop 1)).2.2.2))))
    else hdK n 0 (mbN b B) (hdX b f (n + 1) (B.drop (mbN b B).2.2.2))
structure MdR where
  pat : Int
  step : Int
  mx : Int
  my : Int
  err : Int
  used : Nat
def wr (p d : Int) : Int := wrapS (wrapS p + d)
def mdM (k px py : Int) (B : List Int) (pat step : Int) (q : Nat) : MdR :=
  if intraS k = true then ⟨pat, step, 0, 0, 0, q⟩ else
  if (mvN (B.drop q)).2.1 ≠ 0 then ⟨pat, step, wr px (mvN (B.drop q)).1, 0, (mvN (B.drop q)).2.1, q⟩ else
  ⟨pat, step, wr px (mvN (B.drop q)).1, wr py (mvN (B.drop (q + (mvN (B.drop q)).2.2))).1, (mvN (B.drop (q + (mvN (B.drop q)).2.2))).2.1, q + (mvN (B.drop q)).2.2 + (mvN (B.drop (q + (mvN (B.drop q)).2.2))).2.2⟩
def mdX (k px py : Int) (B : List Int) : MdR :=
  if (cbN (intraS k) B).2.1 ≠ 0 then ⟨(cbN (intraS k) B).1, 0, 0, 0, (cbN (intraS k) B).2.1, 0⟩ else
  if steppedS k = true then
    (if (stN (B.drop (cbN (intraS k) B).2.2)).2.1 ≠ 0 then ⟨(cbN (intraS k) B).1, (stN (B.drop (cbN (intraS k) B).2.2)).1, 0, 0, (stN (B.drop (cbN (intraS k) B).2.2)).2.1, (cbN (intraS k) B).2.2⟩ else
     mdM k px py B (cbN (intraS k) B).1 (stN (B.drop (cbN (intraS k) B).2.2)).1 ((cbN (intraS k) B).2.2 + (stN (B.drop (cbN (intraS k) B).2.2)).2.2))
  else mdM k px py B (cbN (intraS k) B).1 0 (cbN (intraS k) B).2.2
/-- is a block coded, by the cell's pattern? -/
def cdb (v : Int) (i : Nat) : Bool := decide (v / 2 ^ (5 - i) % 2 = 1)
/-- blocks: what they are, what is wrong, how many bits -/
def bdX (intra : Bool) : List Bool → List Int → Nat → List (Int × List Ev) × Int × Nat
  | [], _, q => ([], 0, q)
  | c :: cs, B, q =>
    if (blX intra c (B.drop q)).2.2.1 ≠ 0 then ([], (blX intra c (B.drop q)).2.2.1, q) else
    (((blX intra c (B.drop q)).1, (blX intra c (B.drop q)).2.1) :: (bdX intra cs B (q + (blX intra c (B.drop q)).2.2.2)).1, (bdX intra cs B (q + (blX intra c (B.drop q)).2.2.2)).2)
def cds (v : Int) : List Bool := [cdb v 0, cdb v 1, cdb v 2, cdb v 3, cdb v 4, cdb v 5]
def cel0 : Cel := ⟨0, false, 0, 0, 0, 0, 0, 0, 0, 0, 0, 0, [], [], [], [], [], []⟩
def celOf (st k sp mx my : Int) : List (Int × List Ev) → Cel
  | [b0, b1, b2, b3, b4, b5] => ⟨st, false, k, sp, mx, my, b0.1, b1.1, b2.1, b3.1, b4.1, b5.1, b0.2, b1.2, b2.2, b3.2, b4.2, b5.2⟩
  | _ => cel0
def celT (px py : Int) (B : List Int) (h : HdR) : Cel × Int × Nat :=
  if h.err ≠ 0 then (cel0, h.err, 0) else
  if h.skip = true then (⟨h.stuff, true, 0, 0, 0, 0, 0, 0, 0, 0, 0, 0, [], [], [], [], [], []⟩, 0, h.used) else
  if (mdX h.kind px py (B.drop h.used)).err ≠ 0 then (cel0, (mdX h.kind px py (B.drop h.used)).err, 0) else
  if (bdX (intraS h.kind) (cds (4 * (mdX h.kind px py (B.drop h.used)).pat + h.chr)) (B.drop h.used) (mdX h.kind px py (B.drop h.used)).used).2.1 ≠ 0 then (cel0, (bdX (intraS h.kind) (cds (4 * (mdX h.kind px py (B.drop h.used)).pat + h.chr)) (B.drop h.used) (mdX h.kind px py (B.drop h.used)).used).2.1, 0) else
  (celOf h.stuff h.kind (mdX h.kind px py (B.drop h.used)).step (mdX h.kind px py (B.drop h.used)).mx (mdX h.kind px py (B.drop h.used)).my (bdX (intraS h.kind) (cds (4 * (mdX h.kind px py (B.drop h.used)).pat + h.chr)) (B.drop h.used) (mdX h.kind px py (B.drop h.used)).used).1, 0,
   h.used + (bdX (intraS h.kind) (cds (4 * (mdX h.kind px py (B.drop h.used)).pat + h.chr)) (B.drop h.used) (mdX h.kind px py (B.drop h.used)).used).2.2)
/-- a cell of bits: what it is, what is wrong, how many bits -/
def celX (b : Bool) (px py : Int) (B : List Int) : Cel × Int × Nat := celT px py B (hdX b 65 0 B)
/-! where parts end -/
theorem mbN_err (b : Bool) (B : List Int) (h : (mbN b B).2.2.1 ≠ 0) : (mbN b B).1 = 0 ∧ (mbN b B).2.1 = 0 ∧ (mbN b B).2.2.2 = 0 := by
  unfold mbN Mb.mbX at h ⊢
  generalize rrun (Mb.mbRs b) (B.map digB) [] = y at *
  obtain ⟨i, e, c⟩ := y
  simp only at h ⊢
  by_cases h1 : e = 0
  · rw [if_pos h1] at h ⊢
    by_cases h2 : (i + (if b = true then 0 else 12)) / 4 = 2
    · rw [if_pos h2]; exact ⟨rfl, rfl, rfl⟩
    · rw [if_neg h2] at h
      exact absurd rfl h
  · rw [if_neg h1]; exact ⟨rfl, rfl, rfl⟩
theorem mbN_le (b : Bool) (B : List Int) : (mbN b B).2.2.2 ≤ B.length := by
  have hu := rrun_used (Mb.mbRs b) (B.map digB) []
  unfold mbN Mb.mbX
  generalize rrun (Mb.mbRs b) (B.map digB) [] = y at *
  obtain ⟨i, e, c⟩ := y
  simp only at hu ⊢
  by_cases h1 : e = 0
  · rw [if_pos h1]
    by_cases h2 : (i + (if b = true then 0 else 12)) / 4 = 2
    · rw [if_pos h2]; exact Nat.zero_le _
    · rw [if_neg h2]
      simpa using hu h1
  · rw [if_neg h1]; exact Nat.zero_le _
theorem cbN_le (b : Bool) (B : List Int) : (cbN b B).2.2 ≤ B.length := by
  have hu := rrun_used Cb.cbR (B.map digB) []
  unfold cbN Cb.cbX
  split
  · rename_i h1
    simpa using hu h1
  · exact Nat.zero_le _
theorem mvN_is {B : List Int} (hB : ∀ b ∈ B, b = 0 ∨ b = 1) : Mv.Same (Mv.mt B 0 1) (rrun Mv.mrows (B.map digB) []) := by
  have h2 := Mv.agree_ok 14 _ _ Mv.agree_all B hB
  rwa [Mv.mrun_mt] at h2
theorem mvN_le {B : List Int} (hB : ∀ b ∈ B, b = 0 ∨ b = 1) : (mvN B).2.2 ≤ B.length := by
  have hs := mvN_is hB
  have hu := rrun_used Mv.mrows (B.map digB) []
  unfold mvN
  split
  · rename_i h1
    rw [hs.1] at h1 ⊢
    simpa using hu h1
  · exact Nat.zero_le _
theorem stN_le (B : List Int) : (stN B).2.2 ≤ B.length := by
  unfold stN stX
  split
  · exact Nat.zero_le _
  · simp only; omega
theorem blX_le (intra c : Bool) (s : List UInt8) (p : Nat) (hp : p ≤ 8 * s.length) : p + (blX intra c (bitsF s p)).2.2.2 ≤ 8 * s.length := by
  have hl := bitsF_len s p
  have hd := dcX_le (nB ((bitsF s p).take 8)) (bitsF s p).length
  have h0 : p + (dc0 intra (bitsF s p)).2.2 ≤ 8 * s.length := by
    unfold dc0
    split
    · omega
    · simpa using hp
  have he := evsX_le 66 s (p + (dc0 intra (bitsF s p)).2.2) (frm intra : Nat) h0
  rw [← bits_drop] at he
  unfold blX
  split
  · simpa using hp
  · split
    · split
      · simpa using hp
      · simp only; omega
    · exact h0
end Go.Proofs.YtbfojhfiemcnpaaDoor.Av.Ci

/- Cells are read: steps; the parts' contracts. -/
set_option linter.unusedSimpArgs false
set_option linter.unusedVariables false
set_option maxRecDepth 100000
namespace Go.Proofs.YtbfojhfiemcnpaaDoor.Av.Ci
open Go Bt Tc Co Bl
attribute [local irreducible] AGo ACalls
variable {gl : List (Nat × List D)}
noncomputable abbrev gB : List (Nat × List D) := [(0, gl0), (3, gl3), (1, gl1), (2, gl2)]
theorem gsp_B : ∀ p ∈ Mb.gsp, p ∈ gB := by simp [Mb.gsp, gB]
theorem gtc_B : ∀ p ∈ gtc, p ∈ gB := by simp [gtc, gB]
theorem gmv_B : ∀ p ∈ [(0, gl0)], p ∈ gB := by simp [gB]
attribute [local irreducible] nB bitsF
set_option maxHeartbeats 4000000 in
theorem stk_c (s : List UInt8) (p : Nat) (hs : s.length ≤ 1000000) (hp : p ≤ 8 * s.length) : ACalls (cxg gl) 45 [.ptr 0 0] [Rd s p]
    (fun r H => r = .tup [I (stN (bitsF s p)).1, I (stN (bitsF s p)).2.1] ∧ H = [Rd s ((p + (stN (bitsF s p)).2.2 : Nat) : Int)]) := by
  have tk := takeN_c (gl := gl) s p 2 (by omega) hp (by omega)
  have hBl := bitsF_len s p
  unfold pkN tkN at tk
  unfold stN stX
  rw [hBl]
  by_cases h : 8 * s.length < p + 2
  · rw [if_pos h, if_pos h] at tk
    rw [if_pos (by omega)]
    refine ACalls.enter Tryd.func45 rfl Tryd.ntmps45 (by kernel_rfl) rfl ?_; simp only [argEnv, Nat.reduceAdd, List.length_nil, List.length_cons]
    repeat' (first | apply AGo.seq | apply AGo.block | apply AGo.blk | apply AGo.skip | apply AGo.nil | (apply AGo.region; rfl) | (apply AGo.q true; rfl; rfl; rfl; rfl; first | exact True.intro | omega | (simp only [Int.toNat_natCast, Int.reduceToNat, IntKind.bits]; omega)) | (apply AGo.callH [0] ( tk); (iterate 6 rfl); decide; rfl; rfl; simp only [names, putH, AV.ren, AV.renL, AObj.ren, nh, Nat.reduceAdd, Nat.reduceSub]) | (apply AGo.condDT; rfl; first | omega | rfl) | (apply AGo.condDF; rfl; omega) | (apply AGo.condT; rfl) | (apply AGo.condF; rfl) | intro _ | (apply AGo.retN; rfl; rfl; rfl; rfl))
    all_goals first | exact ⟨rfl, rfl⟩ | (exfalso; omega) | trace_state
  · rw [if_neg h, if_neg h] at tk
    rw [if_neg (by omega)]
    have v01 := nB_bd 2 _ (take_len s p 2 (by omega)) (take_01 s p 2)
    generalize nB ((bitsF s p).take 2) = v at *
    by_cases h2 : 2 ≤ v
    · rw [if_pos h2]
      refine ACalls.enter Tryd.func45 rfl Tryd.ntmps45 (by kernel_rfl) rfl ?_; simp only [argEnv, Nat.reduceAdd, List.length_nil, List.length_cons]
      repeat' (first | apply AGo.seq | apply AGo.block | apply AGo.blk | apply AGo.skip | apply AGo.nil | (apply AGo.region; rfl) | (apply AGo.q true; rfl; rfl; rfl; rfl; first | exact True.intro | omega | (simp only [Int.toNat_natCast, Int.reduceToNat, IntKind.bits]; omega)) | (apply AGo.callH [0] ( tk); (iterate 6 rfl); decide; rfl; rfl; simp only [names, putH, AV.ren, AV.renL, AObj.ren, nh, Nat.reduceAdd, Nat.reduceSub]) | (apply AGo.condDT; rfl; first | omega | rfl) | (apply AGo.condDF; rfl; omega) | (apply AGo.condT; rfl) | (apply AGo.condF; rfl) | intro _ | (apply AGo.retN; rfl; rfl; rfl; rfl))
      all_goals first | exact ⟨rfl, rfl⟩ | (exfalso; omega) | trace_state
    · rw [if_neg h2]
      refine ACalls.enter Tryd.func45 rfl Tryd.ntmps45 (by kernel_rfl) rfl ?_; simp only [argEnv, Nat.reduceAdd, List.length_nil, List.length_cons]
      repeat' (first | apply AGo.seq | apply AGo.block | apply AGo.blk | apply AGo.skip | apply AGo.nil | (apply AGo.region; rfl) | (apply AGo.q true; rfl; rfl; rfl; rfl; first | exact True.intro | omega | (simp only [Int.toNat_natCast, Int.reduceToNat, IntKind.bits]; omega)) | (apply AGo.callH [0] ( tk); (iterate 6 rfl); decide; rfl; rfl; simp only [names, putH, AV.ren, AV.renL, AObj.ren, nh, Nat.reduceAdd, Nat.reduceSub]) | (apply AGo.condDT; rfl; first | omega | rfl) | (apply AGo.condDF; rfl; omega) | (apply AGo.condT; rfl) | (apply AGo.condF; rfl) | intro _ | (apply AGo.retN; rfl; rfl; rfl; rfl))
      all_goals first | exact ⟨rfl, rfl⟩ | (exfalso; omega) | trace_state
/-! the parts in one form -/
theorem mbt_c (b : Bool) (s : List UInt8) (p : Nat) (hs : s.length ≤ 1000000) (hp : p ≤ 8 * s.length) : ACalls (cxg gB) 42 [.ptr 0 0, B b] [Rd s p]
    (fun r H => r = .tup [I (mbN b (bitsF s p)).1, I (mbN b (bitsF s p)).2.1, I (mbN b (bitsF s p)).2.2.1] ∧ H = [Rd s ((p + (mbN b (bitsF s p)).2.2.2 : Nat) : Int)]) := by
  have h := (Mb.mbtake_c b s p hs hp).more gsp_B
  have he := mbN_err b (bitsF s p)
  have e : Mb.qfin p (mbN b (bitsF s p)) = p + (mbN b (bitsF s p)).2.2.2 := by
    unfold Mb.qfin
    split
    · rfl
    · rename_i h1
      rw [(he h1).2.2]; rfl
  rw [← e]
  exact h
theorem cbt_c (b : Bool) (s : List UInt8) (p : Nat) (hs : s.length ≤ 1000000) (hp : p ≤ 8 * s.length) : ACalls (cxg gl) 43 [.ptr 0 0, B b] [Rd s p]
    (fun r H => r = .tup [I (cbN b (bitsF s p)).1, I (cbN b (bitsF s p)).2.1] ∧ H = [Rd s ((p + (cbN b (bitsF s p)).2.2 : Nat) : Int)]) := by
  have h := Cb.ctake_c (gl := gl) b s p hs hp
  have e : Px.pfin p (Cb.cbX b ((bitsF s p).map digB)) = p + (cbN b (bitsF s p)).2.2 := by
    unfold Px.pfin cbN
    simp only
    split <;> rfl
  rw [e] at h
  exact h
theorem mvt_c (s : List UInt8) (p : Nat) (hs : s.length ≤ 1000000) (hp : p ≤ 8 * s.length) : ACalls (cxg gB) 46 [.ptr 0 0] [Rd s p]
    (fun r H => r = .tup [I (mvN (bitsF s p)).1, I (mvN (bitsF s p)).2.1] ∧ H = [Rd s ((p + (mvN (bitsF s p)).2.2 : Nat) : Int)]) := by
  have h := (Mv.mtake_c s p hs hp).more gmv_B
  have e : Mv.mfin p (Mv.mt (bitsF s p) 0 1) = p + (mvN (bitsF s p)).2.2 := by
    unfold Mv.mfin mvN
    simp only
    split <;> rfl
  rw [e] at h
  exact h
theorem blt_c (s : List UInt8) (p : Nat) (intra coded : Bool) (hs : s.length ≤ 1000000) (hp : p ≤ 8 * s.length) : ACalls (cxg gB) 47 [.ptr 0 0, B intra, B coded] [Rd s p]
    (fun r H => r = .tup [I (blX intra coded (bitsF s p)).1, .d (.sl 3 (evsD (blX intra coded (bitsF s p)).2.1)), I (blX intra coded (bitsF s p)).2.2.1] ∧ H = [Rd s ((p + (blX intra coded (bitsF s p)).2.2.2 : Nat) : Int)]) := (bltake_c s p intra coded hs hp).more gtc_B
/-! the document's -/
end Go.Proofs.YtbfojhfiemcnpaaDoor.Av.Ci

/- Cells are read: cellin's head. -/
set_option linter.unusedSimpArgs false
set_option linter.unusedVariables false
set_option maxRecDepth 100000
namespace Go.Proofs.YtbfojhfiemcnpaaDoor.Av.Ci
open Go Bt Tc Co Bl
attribute [local irreducible] AGo ACalls
variable {gl : List (Nat × List D)}
abbrev Rr (i : Nat) (e : Int) : AObj := .cells [.ptr i 0, I e]
abbrev celZ (st : Int) (sk : Bool) (ki : Int) : List AV := [I st, B sk, I ki, I 0, I 0, I 0, I 0, I 0, I 0, I 0, I 0, I 0, .d .nils, .d .nils, .d .nils, .d .nils, .d .nils, .d .nils]
theorem hdX_end (f : Nat) (n : Int) (s : List UInt8) (p : Nat) (h : 8 * s.length ≤ p) : hdX true (f + 1) n (bitsF s p) = ⟨n, false, 0, 0, 2, 0⟩ := by
  rw [bitsF_nil s p h]; rfl
theorem hdX_one (f : Nat) (n : Int) (s : List UInt8) (p : Nat) (h : p < 8 * s.length) (h1 : bitS s (p : Int) = 1) : hdX true (f + 1) n (bitsF s p) = ⟨n, true, 0, 0, 0, 1⟩ := by
  rw [bitsF_cons s p h, hdX, if_pos rfl, if_neg (by simp), if_pos (by simpa using h1)]
theorem hdX_zero (f : Nat) (n : Int) (s : List UInt8) (p : Nat) (h : p < 8 * s.length) (h1 : bitS s (p : Int) ≠ 1) : hdX true (f + 1) n (bitsF s p) = hdK n 1 (mbN true (bitsF s (p + 1))) (hdX true f (n + 1) (bitsF s (p + 1 + (mbN true (bitsF s (p + 1))).2.2.2))) := by
  have e := bitsF_cons s p h
  rw [hdX, if_pos rfl, if_neg (by rw [e]; simp), if_neg (by rw [e]; simpa using h1), bits_drop, bits_drop, ← Nat.add_assoc]
theorem hdX_F (f : Nat) (n : Int) (s : List UInt8) (p : Nat) : hdX false (f + 1) n (bitsF s p) = hdK n 0 (mbN false (bitsF s p)) (hdX false f (n + 1) (bitsF s (p + (mbN false (bitsF s p)).2.2.2))) := by
  rw [hdX, if_neg (by decide), bits_drop]
set_option maxHeartbeats 4000000 in
theorem bit_c (s : List UInt8) (p : Nat) (hs : s.length ≤ 1000000) (h : p < 8 * s.length) : ACalls (cxg gl) 41 [.ptr 0 0] [Rr 1 0, Rd s p] (fun r H => r = I (bitS s p) ∧ H = [Rr 1 0, Rd s ((p + 1 : Nat) : Int)]) := by
  have t := Mv.take1_bit (gl := gl) s p (by omega) h
  refine ACalls.enter Tryd.func41 rfl Tryd.ntmps41 (by kernel_rfl) rfl ?_; simp only [argEnv, Nat.reduceAdd, List.length_nil, List.length_cons]
  repeat' (first | apply AGo.seq | apply AGo.skip | apply AGo.nil | (apply AGo.region; rfl) | (apply AGo.q true; rfl; rfl; rfl; rfl; first | exact True.intro | omega | (simp only [Int.toNat_natCast, Int.reduceToNat, IntKind.bits]; omega)) | (apply AGo.callH [1] ( t); (iterate 6 rfl); decide; rfl; rfl; simp only [names, putH, AV.ren, AV.renL, AObj.ren, nh, Nat.reduceAdd, Nat.reduceSub]) | (apply AGo.condF; rfl) | (apply AGo.store; (iterate 9 rfl); exact Nat.le_of_ble_eq_true rfl; simp only [nm, Nat.reduceAdd, spliceA, AV.cells, D.cells]) | intro _ | (apply AGo.retN; rfl; rfl; rfl; rfl))
  all_goals first | exact ⟨rfl, rfl⟩ | trace_state
set_option maxHeartbeats 4000000 in
theorem bitend_c (s : List UInt8) (p : Nat) (hs : s.length ≤ 1000000) (h : p = 8 * s.length) : ACalls (cxg gl) 41 [.ptr 0 0] [Rr 1 0, Rd s p] (fun r H => r = I 0 ∧ H = [Rr 1 2, Rd s p]) := by
  have t := Mv.take1_end (gl := gl) s p (by omega) h
  refine ACalls.enter Tryd.func41 rfl Tryd.ntmps41 (by kernel_rfl) rfl ?_; simp only [argEnv, Nat.reduceAdd, List.length_nil, List.length_cons]
  repeat' (first | apply AGo.seq | apply AGo.skip | apply AGo.nil | (apply AGo.region; rfl) | (apply AGo.q true; rfl; rfl; rfl; rfl; first | exact True.intro | omega | (simp only [Int.toNat_natCast, Int.reduceToNat, IntKind.bits]; omega)) | (apply AGo.callH [1] ( t); (iterate 6 rfl); decide; rfl; rfl; simp only [names, putH, AV.ren, AV.renL, AObj.ren, nh, Nat.reduceAdd, Nat.reduceSub]) | (apply AGo.condF; rfl) | (apply AGo.store; (iterate 9 rfl); exact Nat.le_of_ble_eq_true rfl; simp only [nm, Nat.reduceAdd, spliceA, AV.cells, D.cells]) | intro _ | (apply AGo.retN; rfl; rfl; rfl; rfl))
  all_goals first | exact ⟨rfl, rfl⟩ | trace_state
def hdA (q : Nat) (h : HdR) : HdR := { h with used := q + h.used }
theorem hdA_0 (h : HdR) : hdA 0 h = h := by
  cases h; simp [hdA]
attribute [local irreducible] mbN bitsF bitS hdX
set_option maxHeartbeats 16000000 in
theorem chead_c (b : Bool) (s : List UInt8) (p : Nat) (hs : s.length ≤ 1000000) (hp : p ≤ 8 * s.length) : ACalls (cxg gB) 24 [.ptr 0 0, B b, .ptr 1 0] [Rr 2 0, .cells (celZ 0 false 0), Rd s p]
    (fun r H => r = .tup [I (hdX b 65 0 (bitsF s p)).chr, B (decide ((hdX b 65 0 (bitsF s p)).err = 0) && !(hdX b 65 0 (bitsF s p)).skip)] ∧ H = [Rr 2 (hdX b 65 0 (bitsF s p)).err, .cells (celZ (hdX b 65 0 (bitsF s p)).stuff (hdX b 65 0 (bitsF s p)).skip (hdX b 65 0 (bitsF s p)).kind), Rd s ((p + (hdX b 65 0 (bitsF s p)).used : Nat) : Int)]) := by
  have hle := fun q => mbN_le b (bitsF s q)
  generalize hh0 : hdX b 65 0 (bitsF s p) = h at *
  refine ACalls.enter Tryd.func24 rfl Tryd.ntmps24 (by kernel_rfl) rfl ?_; simp only [argEnv, Nat.reduceAdd, List.length_nil, List.length_cons]
  repeat (first | apply AGo.seq | apply AGo.block | apply AGo.blk | apply AGo.skip | apply AGo.nil | (apply AGo.region; rfl) | (apply AGo.q true; rfl; rfl; rfl; rfl; first | exact True.intro | omega | (simp only [Int.toNat_natCast, Int.reduceToNat, IntKind.bits]; omega)) | (apply AGo.condDT; rfl; first | omega | rfl) | (apply AGo.condDF; rfl; omega) | (apply AGo.condT; rfl) | (apply AGo.condF; rfl) | (apply AGo.store; (iterate 9 rfl); exact Nat.le_of_ble_eq_true rfl; simp only [nm, Nat.reduceAdd, spliceA, AV.cells, D.cells]) | (apply AGo.unguard; rfl; rfl) | (apply AGo.cBT; rfl; first | (simp only [bT]; omega)) | (apply AGo.skipOp; rfl; rfl; rfl))
  refine AGo.weak (env' := [(2, .ptr 1 0), (1, B b), (0, .ptr 0 0)]) ⟨rfl, rfl, rfl, trivial⟩ ?_
  refine AGo.loop (fun m env H => ∃ (f : Nat) (n : Int) (q : Nat), m = f ∧ (0 ≤ n ∧ n ≤ 64 ∧ 64 - n < f) ∧ p + q ≤ 8 * s.length ∧ hdA q (hdX b f n (bitsF s (p + q))) = h ∧ env = [(2, .ptr 1 0), (1, B b), (0, .ptr 0 0)] ∧
    H = [Rr 2 0, .cells (celZ n false 0), Rd s ((p + q : Nat) : Int)]) 65
    ⟨65, 0, 0, rfl, by omega, by omega, by rw [Nat.add_zero, hh0]; exact hdA_0 h, rfl, rfl⟩ ?_
  rintro m env H ⟨f, n, q, rfl, hn, hq, hh, rfl, rfl⟩
  obtain ⟨f, rfl⟩ : ∃ g, m = g + 1 := ⟨m - 1, by omega⟩
  cases b with
  | false =>
    have mt := mbt_c false s (p + q) hs hq
    have ml := hle (p + q)
    have me := mbN_err false (bitsF s (p + q))
    rw [bitsF_len] at ml
    rw [hdX_F] at hh
    generalize mbN false (bitsF s (p + q)) = x at *
    obtain ⟨k, ch, e, u⟩ := x
    simp only at mt ml me hh
    unfold hdK at hh
    simp only at hh
    by_cases he : e = 0
    · subst he
      rw [if_neg (by simp)] at hh
      by_cases h5 : k = 5
      · subst h5
        rw [if_neg (by simp)] at hh
        by_cases h64 : n = 64
        · subst h64
          rw [if_pos rfl] at hh
          subst hh
          simp only [hdA, Nat.zero_add, ← Nat.add_assoc]
          repeat' (first | apply AGo.seq | apply AGo.block | apply AGo.blk | apply AGo.skip | apply AGo.nil | (apply AGo.region; rfl) | (apply AGo.q true; rfl; rfl; rfl; rfl; first | exact True.intro | omega | (simp only [Int.toNat_natCast, Int.reduceToNat, IntKind.bits]; omega)) | (apply AGo.callH [2] ( mt); (iterate 6 rfl); decide; rfl; rfl; simp only [names, putH, AV.ren, AV.renL, AObj.ren, nh, Nat.reduceAdd, Nat.reduceSub]) | (apply AGo.condDT; rfl; first | omega | rfl) | (apply AGo.condDF; rfl; omega) | (apply AGo.condT; rfl) | (apply AGo.condF; rfl) | (apply AGo.store; (iterate 9 rfl); exact Nat.le_of_ble_eq_true rfl; simp only [nm, Nat.reduceAdd, spliceA, AV.cells, D.cells]) | (apply AGo.unguard; rfl; rfl) | (apply AGo.cBT; rfl; first | (simp only [bT]; omega)) | (apply AGo.skipOp; rfl; rfl; rfl) | intro _ | (apply AGo.retN; rfl; rfl; rfl; rfl) | (apply AGo.retL; rfl; rfl; rfl; rfl) | (apply AGo.outL; rfl; rfl))
          all_goals first | exact ⟨rfl, rfl⟩ | (exfalso; omega) | trace_state
        · rw [if_neg h64] at hh
          repeat' (first | apply AGo.seq | apply AGo.block | apply AGo.blk | apply AGo.skip | apply AGo.nil | (apply AGo.region; rfl) | (apply AGo.q true; rfl; rfl; rfl; rfl; first | exact True.intro | omega | (simp only [Int.toNat_natCast, Int.reduceToNat, IntKind.bits]; omega)) | (apply AGo.callH [2] ( mt); (iterate 6 rfl); decide; rfl; rfl; simp only [names, putH, AV.ren, AV.renL, AObj.ren, nh, Nat.reduceAdd, Nat.reduceSub]) | (apply AGo.condDT; rfl; first | omega | rfl) | (apply AGo.condDF; rfl; omega) | (apply AGo.condT; rfl) | (apply AGo.condF; rfl) | (apply AGo.store; (iterate 9 rfl); exact Nat.le_of_ble_eq_true rfl; simp only [nm, Nat.reduceAdd, spliceA, AV.cells, D.cells]) | (apply AGo.unguard; rfl; rfl) | (apply AGo.cBT; rfl; first | (simp only [bT]; omega)) | (apply AGo.skipOp; rfl; rfl; rfl) | intro _ | (apply AGo.retN; rfl; rfl; rfl; rfl) | (apply AGo.retL; rfl; rfl; rfl; rfl) | (apply AGo.outL; rfl; rfl))
          all_goals first
            | exact AGo.round [(2, .ptr 1 0), (1, B false), (0, .ptr 0 0)] f (by omega) ⟨rfl, rfl, rfl, trivial⟩ ⟨f, n + 1, q + u, rfl, by omega, by omega, by rw [← hh]; simp only [hdA, Nat.zero_add, Nat.add_assoc], rfl, by simp only [Nat.add_assoc]⟩
            | (exfalso; omega) | trace_state
      · rw [if_pos h5] at hh
        subst hh
        simp only [hdA, Nat.zero_add, ← Nat.add_assoc]
        repeat' (first | apply AGo.seq | apply AGo.block | apply AGo.blk | apply AGo.skip | apply AGo.nil | (apply AGo.region; rfl) | (apply AGo.q true; rfl; rfl; rfl; rfl; first | exact True.intro | omega | (simp only [Int.toNat_natCast, Int.reduceToNat, IntKind.bits]; omega)) | (apply AGo.callH [2] ( mt); (iterate 6 rfl); decide; rfl; rfl; simp only [names, putH, AV.ren, AV.renL, AObj.ren, nh, Nat.reduceAdd, Nat.reduceSub]) | (apply AGo.condDT; rfl; first | omega | rfl) | (apply AGo.condDF; rfl; omega) | (apply AGo.condT; rfl) | (apply AGo.condF; rfl) | (apply AGo.store; (iterate 9 rfl); exact Nat.le_of_ble_eq_true rfl; simp only [nm, Nat.reduceAdd, spliceA, AV.cells, D.cells]) | (apply AGo.unguard; rfl; rfl) | (apply AGo.cBT; rfl; first | (simp only [bT]; omega)) | (apply AGo.skipOp; rfl; rfl; rfl) | intro _ | (apply AGo.retN; rfl; rfl; rfl; rfl) | (apply AGo.retL; rfl; rfl; rfl; rfl) | (apply AGo.outL; rfl; rfl))
        all_goals first | exact ⟨rfl, rfl⟩ | (exfalso; omega) | trace_state
    · rw [if_pos he] at hh
      obtain ⟨_, _, rfl⟩ := me he
      subst hh
      simp only [hdA, Nat.add_zero]
      rw [Nat.add_zero] at mt
      repeat' (first | apply AGo.seq | apply AGo.block | apply AGo.blk | apply AGo.skip | apply AGo.nil | (apply AGo.region; rfl) | (apply AGo.q true; rfl; rfl; rfl; rfl; first | exact True.intro | omega | (simp only [Int.toNat_natCast, Int.reduceToNat, IntKind.bits]; omega)) | (apply AGo.callH [2] ( mt); (iterate 6 rfl); decide; rfl; rfl; simp only [names, putH, AV.ren, AV.renL, AObj.ren, nh, Nat.reduceAdd, Nat.reduceSub]) | (apply AGo.condDT; rfl; first | omega | rfl) | (apply AGo.condDF; rfl; omega) | (apply AGo.condT; rfl) | (apply AGo.condF; rfl) | (apply AGo.store; (iterate 9 rfl); exact Nat.le_of_ble_eq_true rfl; simp only [nm, Nat.reduceAdd, spliceA, AV.cells, D.cells]) | (apply AGo.unguard; rfl; rfl) | (apply AGo.cBT; rfl; first | (simp only [bT]; omega)) | (apply AGo.skipOp; rfl; rfl; rfl) | intro _ | (apply AGo.retN; rfl; rfl; rfl; rfl) | (apply AGo.retL; rfl; rfl; rfl; rfl) | (apply AGo.outL; rfl; rfl))
      all_goals first | exact ⟨by simp [he], rfl⟩ | (exfalso; omega) | trace_state
  | true =>
    rcases Nat.lt_or_ge (p + q) (8 * s.length) with hlt | hge
    · have hb01 := bitS_bd s ((p + q : Nat) : Int)
      have bc := bit_c (gl := gB) s (p + q) hs hlt
      by_cases h1 : bitS s ((p + q : Nat) : Int) = 1
      · rw [hdX_one _ _ _ _ hlt h1] at hh
        rw [h1] at bc
        subst hh
        simp only [hdA, ← Nat.add_assoc]
        repeat' (first | apply AGo.seq | apply AGo.block | apply AGo.blk | apply AGo.skip | apply AGo.nil | (apply AGo.region; rfl) | (apply AGo.q true; rfl; rfl; rfl; rfl; first | exact True.intro | omega | (simp only [Int.toNat_natCast, Int.reduceToNat, IntKind.bits]; omega)) | (apply AGo.callH [0,2] ( bc); (iterate 6 rfl); decide; rfl; rfl; simp only [names, putH, AV.ren, AV.renL, AObj.ren, nh, Nat.reduceAdd, Nat.reduceSub]) | (apply AGo.condDT; rfl; first | omega | rfl) | (apply AGo.condDF; rfl; omega) | (apply AGo.condT; rfl) | (apply AGo.condF; rfl) | (apply AGo.store; (iterate 9 rfl); exact Nat.le_of_ble_eq_true rfl; simp only [nm, Nat.reduceAdd, spliceA, AV.cells, D.cells]) | (apply AGo.unguard; rfl; rfl) | (apply AGo.cBT; rfl; first | (simp only [bT]; omega)) | (apply AGo.skipOp; rfl; rfl; rfl) | intro _ | (apply AGo.retN; rfl; rfl; rfl; rfl) | (apply AGo.retL; rfl; rfl; rfl; rfl) | (apply AGo.outL; rfl; rfl))
        all_goals first | exact ⟨rfl, rfl⟩ | (exfalso; omega) | trace_state
      · rw [hdX_zero _ _ _ _ hlt h1] at hh
        rw [show bitS s ((p + q : Nat) : Int) = 0 by omega] at bc
        have mt := mbt_c true s (p + q + 1) hs (by omega)
        have ml := hle (p + q + 1)
        have me := mbN_err true (bitsF s (p + q + 1))
        rw [bitsF_len] at ml
        generalize mbN true (bitsF s (p + q + 1)) = x at *
        obtain ⟨k, ch, e, u⟩ := x
        simp only at mt ml me hh
        unfold hdK at hh
        simp only at hh
        by_cases he : e = 0
        · subst he
          rw [if_neg (by simp)] at hh
          by_cases h5 : k = 5
          · subst h5
            rw [if_neg (by simp)] at hh
            by_cases h64 : n = 64
            · subst h64
              rw [if_pos rfl] at hh
              subst hh
              simp only [hdA, ← Nat.add_assoc]
              repeat' (first | apply AGo.seq | apply AGo.block | apply AGo.blk | apply AGo.skip | apply AGo.nil | (apply AGo.region; rfl) | (apply AGo.q true; rfl; rfl; rfl; rfl; first | exact True.intro | omega | (simp only [Int.toNat_natCast, Int.reduceToNat, IntKind.bits]; omega)) | (apply AGo.callH [0,2] ( bc); (iterate 6 rfl); decide; rfl; rfl; simp only [names, putH, AV.ren, AV.renL, AObj.ren, nh, Nat.reduceAdd, Nat.reduceSub]) | (apply AGo.callH [2] ( mt); (iterate 6 rfl); decide; rfl; rfl; simp only [names, putH, AV.ren, AV.renL, AObj.ren, nh, Nat.reduceAdd, Nat.reduceSub]) | (apply AGo.condDT; rfl; first | omega | rfl) | (apply AGo.condDF; rfl; omega) | (apply AGo.condT; rfl) | (apply AGo.condF; rfl) | (apply AGo.store; (iterate 9 rfl); exact Nat.le_of_ble_eq_true rfl; simp only [nm, Nat.reduceAdd, spliceA, AV.cells, D.cells]) | (apply AGo.unguard; rfl; rfl) | (apply AGo.cBT; rfl; first | (simp only [bT]; omega)) | (apply AGo.skipOp; rfl; rfl; rfl) | intro _ | (apply AGo.retN; rfl; rfl; rfl; rfl) | (apply AGo.retL; rfl; rfl; rfl; rfl) | (apply AGo.outL; rfl; rfl))
              all_goals first | exact ⟨rfl, rfl⟩ | (exfalso; omega) | trace_state
            · rw [if_neg h64] at hh
              repeat' (first | apply AGo.seq | apply AGo.block | apply AGo.blk | apply AGo.skip | apply AGo.nil | (apply AGo.region; rfl) | (apply AGo.q true; rfl; rfl; rfl; rfl; first | exact True.intro | omega | (simp only [Int.toNat_natCast, Int.reduceToNat, IntKind.bits]; omega)) | (apply AGo.callH [0,2] ( bc); (iterate 6 rfl); decide; rfl; rfl; simp only [names, putH, AV.ren, AV.renL, AObj.ren, nh, Nat.reduceAdd, Nat.reduceSub]) | (apply AGo.callH [2] ( mt); (iterate 6 rfl); decide; rfl; rfl; simp only [names, putH, AV.ren, AV.renL, AObj.ren, nh, Nat.reduceAdd, Nat.reduceSub]) | (apply AGo.condDT; rfl; first | omega | rfl) | (apply AGo.condDF; rfl; omega) | (apply AGo.condT; rfl) | (apply AGo.condF; rfl) | (apply AGo.store; (iterate 9 rfl); exact Nat.le_of_ble_eq_true rfl; simp only [nm, Nat.reduceAdd, spliceA, AV.cells, D.cells]) | (apply AGo.unguard; rfl; rfl) | (apply AGo.cBT; rfl; first | (simp only [bT]; omega)) | (apply AGo.skipOp; rfl; rfl; rfl) | intro _ | (apply AGo.retN; rfl; rfl; rfl; rfl) | (apply AGo.retL; rfl; rfl; rfl; rfl) | (apply AGo.outL; rfl; rfl))
              all_goals first
                | exact AGo.round [(2, .ptr 1 0), (1, B true), (0, .ptr 0 0)] f (by omega) ⟨rfl, rfl, rfl, trivial⟩ ⟨f, n + 1, q + 1 + u, rfl, by omega, by omega, by rw [← hh]; simp only [hdA, Nat.add_assoc], rfl, by simp only [Nat.add_assoc]⟩
                | (exfalso; omega) | trace_state
          · rw [if_pos h5] at hh
            subst hh
            simp only [hdA, ← Nat.add_assoc]
            repeat' (first | apply AGo.seq | apply AGo.block | apply AGo.blk | apply AGo.skip | apply AGo.nil | (apply AGo.region; rfl) | (apply AGo.q true; rfl; rfl; rfl; rfl; first | exact True.intro | omega | (simp only [Int.toNat_natCast, Int.reduceToNat, IntKind.bits]; omega)) | (apply AGo.callH [0,2] ( bc); (iterate 6 rfl); decide; rfl; rfl; simp only [names, putH, AV.ren, AV.renL, AObj.ren, nh, Nat.reduceAdd, Nat.reduceSub]) | (apply AGo.callH [2] ( mt); (iterate 6 rfl); decide; rfl; rfl; simp only [names, putH, AV.ren, AV.renL, AObj.ren, nh, Nat.reduceAdd, Nat.reduceSub]) | (apply AGo.condDT; rfl; first | omega | rfl) | (apply AGo.condDF; rfl; omega) | (apply AGo.condT; rfl) | (apply AGo.condF; rfl) | (apply AGo.store; (iterate 9 rfl); exact Nat.le_of_ble_eq_true rfl; simp only [nm, Nat.reduceAdd, spliceA, AV.cells, D.cells]) | (apply AGo.unguard; rfl; rfl) | (apply AGo.cBT; rfl; first | (simp only [bT]; omega)) | (apply AGo.skipOp; rfl; rfl; rfl) | intro _ | (apply AGo.retN; rfl; rfl; rfl; rfl) | (apply AGo.retL; rfl; rfl; rfl; rfl) | (apply AGo.outL; rfl; rfl))
            all_goals first | exact ⟨rfl, rfl⟩ | (exfalso; omega) | trace_state
        · rw [if_pos he] at hh
          obtain ⟨_, _, rfl⟩ := me he
          subst hh
          simp only [hdA, ← Nat.add_assoc]
          rw [Nat.add_zero] at mt
          repeat' (first | apply AGo.seq | apply AGo.block | apply AGo.blk | apply AGo.skip | apply AGo.nil | (apply AGo.region; rfl) | (apply AGo.q true; rfl; rfl; rfl; rfl; first | exact True.intro | omega | (simp only [Int.toNat_natCast, Int.reduceToNat, IntKind.bits]; omega)) | (apply AGo.callH [0,2] ( bc); (iterate 6 rfl); decide; rfl; rfl; simp only [names, putH, AV.ren, AV.renL, AObj.ren, nh, Nat.reduceAdd, Nat.reduceSub]) | (apply AGo.callH [2] ( mt); (iterate 6 rfl); decide; rfl; rfl; simp only [names, putH, AV.ren, AV.renL, AObj.ren, nh, Nat.reduceAdd, Nat.reduceSub]) | (apply AGo.condDT; rfl; first | omega | rfl) | (apply AGo.condDF; rfl; omega) | (apply AGo.condT; rfl) | (apply AGo.condF; rfl) | (apply AGo.store; (iterate 9 rfl); exact Nat.le_of_ble_eq_true rfl; simp only [nm, Nat.reduceAdd, spliceA, AV.cells, D.cells]) | (apply AGo.unguard; rfl; rfl) | (apply AGo.cBT; rfl; first | (simp only [bT]; omega)) | (apply AGo.skipOp; rfl; rfl; rfl) | intro _ | (apply AGo.retN; rfl; rfl; rfl; rfl) | (apply AGo.retL; rfl; rfl; rfl; rfl) | (apply AGo.outL; rfl; rfl))
          all_goals first | exact ⟨by simp [he], rfl⟩ | (exfalso; omega) | trace_state
    · have be := bitend_c (gl := gB) s (p + q) hs (by omega)
      rw [hdX_end _ _ _ _ hge] at hh
      subst hh
      simp only [hdA, Nat.add_zero]
      repeat' (first | apply AGo.seq | apply AGo.block | apply AGo.blk | apply AGo.skip | apply AGo.nil | (apply AGo.region; rfl) | (apply AGo.q true; rfl; rfl; rfl; rfl; first | exact True.intro | omega | (simp only [Int.toNat_natCast, Int.reduceToNat, IntKind.bits]; omega)) | (apply AGo.callH [0,2] ( be); (iterate 6 rfl); decide; rfl; rfl; simp only [names, putH, AV.ren, AV.renL, AObj.ren, nh, Nat.reduceAdd, Nat.reduceSub]) | (apply AGo.condDT; rfl; first | omega | rfl) | (apply AGo.condDF; rfl; omega) | (apply AGo.condT; rfl) | (apply AGo.condF; rfl) | (apply AGo.store; (iterate 9 rfl); exact Nat.le_of_ble_eq_true rfl; simp only [nm, Nat.reduceAdd, spliceA, AV.cells, D.cells]) | (apply AGo.unguard; rfl; rfl) | (apply AGo.cBT; rfl; first | (simp only [bT]; omega)) | (apply AGo.skipOp; rfl; rfl; rfl) | intro _ | (apply AGo.retN; rfl; rfl; rfl; rfl) | (apply AGo.retL; rfl; rfl; rfl; rfl) | (apply AGo.outL; rfl; rfl))
      all_goals first | exact ⟨rfl, rfl⟩ | (exfalso; omega) | trace_state
end Go.Proofs.YtbfojhfiemcnpaaDoor.Av.Ci

/- Cells are read: cellin's middle. -/
set_option linter.unusedSimpArgs false
set_option linter.unusedVariables false
set_option maxRecDepth 100000
namespace Go.Proofs.YtbfojhfiemcnpaaDoor.Av.Ci
open Go Bt Tc Co Bl
attribute [local irreducible] AGo ACalls ARegH ARegK ARegK1
variable {gl : List (Nat × List D)}
abbrev celM (st : Int) (ki sp mx my : Int) : List AV := [I st, B false, I ki, I sp, I mx, I my, I 0, I 0, I 0, I 0, I 0, I 0, .d .nils, .d .nils, .d .nils, .d .nils, .d .nils, .d .nils]
theorem cintra_c (k : Int) : ACalls (cxg gl) 44 [I k] [] (fun r H => r = B (intraS k) ∧ H = []) := by
  by_cases h : k = 3 ∨ k = 4
  · rw [show intraS k = true from decide_eq_true h]
    rcases h with rfl | rfl
    all_goals
      refine ACalls.enter Tryd.func44 rfl Tryd.ntmps44 (by kernel_rfl) rfl ?_; simp only [argEnv, Nat.reduceAdd, List.length_nil, List.length_cons]
      repeat' (first | apply AGo.seq | apply AGo.nil | (apply AGo.region; rfl) | (apply AGo.q true; rfl; rfl; rfl; rfl; first | exact True.intro | omega | (simp only [Int.toNat_natCast, Int.reduceToNat, IntKind.bits]; omega)) | (apply AGo.unguard; rfl; rfl) | (apply AGo.gT; rfl; rfl; rfl; first | omega | rfl) | (apply AGo.gF; rfl; rfl; rfl; omega) | (apply AGo.skipOp; rfl; rfl; rfl) | intro _ | (apply AGo.retN; rfl; rfl; rfl; rfl))
      all_goals first | exact ⟨rfl, rfl⟩ | trace_state
  · rw [show intraS k = false from decide_eq_false h]
    refine ACalls.enter Tryd.func44 rfl Tryd.ntmps44 (by kernel_rfl) rfl ?_; simp only [argEnv, Nat.reduceAdd, List.length_nil, List.length_cons]
    repeat' (first | apply AGo.seq | apply AGo.nil | (apply AGo.region; rfl) | (apply AGo.q true; rfl; rfl; rfl; rfl; first | exact True.intro | omega | (simp only [Int.toNat_natCast, Int.reduceToNat, IntKind.bits]; omega)) | (apply AGo.unguard; rfl; rfl) | (apply AGo.gT; rfl; rfl; rfl; first | omega | rfl) | (apply AGo.gF; rfl; rfl; rfl; omega) | (apply AGo.skipOp; rfl; rfl; rfl) | intro _ | (apply AGo.retN; rfl; rfl; rfl; rfl))
    all_goals first | exact ⟨rfl, rfl⟩ | exact ⟨congrArg B (by simp only [bF]; omega), rfl⟩ | trace_state
theorem mvN_01 (B : List Int) (hB : ∀ x ∈ B, x = 0 ∨ x = 1) : -32 ≤ (mvN B).1 ∧ (mvN B).1 ≤ 31 := by
  have hs := mvN_is hB
  have hb := Mv.rrun_bd Mv.mrows (B.map digB) []
  rw [Mv.mrows_len] at hb
  unfold mvN
  obtain ⟨a1, a2, a3⟩ := hs
  by_cases h : (Mv.mt B 0 1).2.1 = 0
  · have e := a2 h
    have hb := hb (by rw [← a1]; exact h)
    simp only
    omega
  · have e := a3 h
    simp only
    omega
theorem mvN_u {B : List Int} (h : (mvN B).2.1 ≠ 0) : (mvN B).2.2 = 0 := by
  unfold mvN at h ⊢
  exact if_neg h
theorem cbN_u {b : Bool} {B : List Int} (h : (cbN b B).2.1 ≠ 0) : (cbN b B).2.2 = 0 := by
  unfold cbN at h ⊢
  exact if_neg h
theorem stN_u {B : List Int} (h : (stN B).2.1 ≠ 0) : (stN B).1 = 0 ∧ (stN B).2.2 = 0 := by
  unfold stN stX at h ⊢
  split
  · exact ⟨rfl, rfl⟩
  · rename_i h1
    rw [if_neg h1] at h
    exact absurd rfl h
attribute [local irreducible] mbN cbN mvN stN bitsF wrapS
set_option maxHeartbeats 32000000 in
theorem cmid_c (st k px py : Int) (s : List UInt8) (p : Nat) (hk : k = 0 ∨ k = 1 ∨ k = 3 ∨ k = 4) (hpx : I64 px) (hpy : I64 py) (hs : s.length ≤ 1000000) (hp : p ≤ 8 * s.length) :
    ACalls (cxg gB) 25 [.ptr 0 0, .ptr 1 0, .d (.agg [In px, In py])] [Rr 2 0, .cells (celZ st false k), Rd s p]
    (fun r H => r = I (mdX k px py (bitsF s p)).pat ∧ H = [Rr 2 (mdX k px py (bitsF s p)).err, .cells (celM st k (mdX k px py (bitsF s p)).step (mdX k px py (bitsF s p)).mx (mdX k px py (bitsF s p)).my), Rd s ((p + (mdX k px py (bitsF s p)).used : Nat) : Int)]) := by
  have ic := cintra_c (gl := gB) k
  have cb := cbt_c (gl := gB) (intraS k) s p hs hp
  have cl := cbN_le (intraS k) (bitsF s p)
  have sl := stN_le
  have w1 := wrap_c (gl := gB) px hpx
  have w2 := wrap_c (gl := gB) py hpy
  have wb1 := wrapS_bd px
  have wb2 := wrapS_bd py
  have ww := fun n h => wrap_c (gl := gB) n h
  have hBl := bitsF_len s
  have stc := fun q hq => stk_c (gl := gB) s q hs hq
  have mvc := fun q hq => mvt_c s q hs hq
  have mvl := fun q => mvN_le (bitsF_01 s q)
  have mvb := fun q => mvN_01 _ (bitsF_01 s q)
  unfold mdX mdM
  simp only [bits_drop]
  rw [hBl] at cl
  have cu := cbN_u (b := intraS k) (B := bitsF s p)
  generalize hX : cbN (intraS k) (bitsF s p) = x at *
  obtain ⟨pat, e, u⟩ := x
  simp only at cb cl cu ⊢
  by_cases he : e = 0
  · subst he
    simp only [ne_eq, not_true_eq_false, if_false]
    rcases hk with rfl | rfl | rfl | rfl
    · have hI : intraS 0 = false := rfl
      have hS : steppedS 0 = false := rfl
      rw [hI] at ic cb
      simp only [hI, hS, Bool.false_eq_true, if_false]
      have mv1 := fun h => mvc (p + u) h
      have ml1 := mvl (p + u)
      have mb1 := mvb (p + u)
      rw [hBl] at ml1
      have m1 := mv1 (by omega)
      have mu1 := mvN_u (B := bitsF s (p + u))
      generalize mvN (bitsF s (p + u)) = y at *
      obtain ⟨d1, e1, u1⟩ := y
      simp only at m1 ml1 mb1 mu1 ⊢
      have v1 := ww (wrapS px + d1) (by omega)
      by_cases h1 : e1 = 0
      · subst h1
        simp only [not_true_eq_false, if_false]
        simp only [← Nat.add_assoc]
        have m2 := mvc ((p + u) + u1) (by omega)
        have mb2 := mvb ((p + u) + u1)
        generalize mvN (bitsF s ((p + u) + u1)) = z at *
        obtain ⟨d2, e2, u2⟩ := z
        simp only at m2 mb2 ⊢
        have v2 := ww (wrapS py + d2) (by omega)
        unfold wr
        refine ACalls.enter Tryd.func25 rfl Tryd.ntmps25 (by kernel_rfl) rfl ?_; simp only [argEnv, Nat.reduceAdd, List.length_nil, List.length_cons]
        repeat' (first | (apply AGo.drawY [0, 1, 2, 3, 4, 5, 6, 7, 8, 9, 10, 11, 12, 13, 14] 15 9; rfl) | (apply AGo.drawY [0, 1, 2, 3, 4, 5, 6, 7, 8, 9, 10, 11, 12] 13 12; rfl) | (apply ARegH.pureX; rfl; (apply PureTo.q true; rfl; rfl; first | exact True.intro | omega); exact fun _ _ _ h => h; (iterate 6 rfl); kernel_rfl; kernel_rfl) | (apply ARegH.load; rfl; rfl; (first | exact True.intro | omega); exact fun _ _ _ h => h; (iterate 6 rfl); kernel_rfl; kernel_rfl) | (apply ARegH.go) | (apply ARegK.fin; kernel_rfl) | (apply ARegK.pureX; rfl; (apply PureTo.q true; rfl; rfl; first | exact True.intro | omega); exact fun _ _ _ h => h; (iterate 6 rfl); kernel_rfl; kernel_rfl) | (apply ARegK.call (ic); (iterate 8 rfl); kernel_rfl; rfl; rfl; rfl; try simp only [names, putH, AV.ren, AV.renL, AObj.ren, nh, Nat.reduceAdd, Nat.reduceSub]) | (apply ARegK.call (w1); (iterate 8 rfl); kernel_rfl; rfl; rfl; rfl; try simp only [names, putH, AV.ren, AV.renL, AObj.ren, nh, Nat.reduceAdd, Nat.reduceSub]) | (apply ARegK.call (w2); (iterate 8 rfl); kernel_rfl; rfl; rfl; rfl; try simp only [names, putH, AV.ren, AV.renL, AObj.ren, nh, Nat.reduceAdd, Nat.reduceSub]) | (apply ARegK.call (v1); (iterate 8 rfl); kernel_rfl; rfl; rfl; rfl; try simp only [names, putH, AV.ren, AV.renL, AObj.ren, nh, Nat.reduceAdd, Nat.reduceSub]) | (apply ARegK.call (v2); (iterate 8 rfl); kernel_rfl; rfl; rfl; rfl; try simp only [names, putH, AV.ren, AV.renL, AObj.ren, nh, Nat.reduceAdd, Nat.reduceSub]) | (apply ARegK.step; rfl; rfl; kernel_rfl; rfl) | (apply ARegK.fork2; rfl; kernel_rfl) | (apply ARegK1.step; rfl; rfl) | (apply ARegK.back) | (exact AGo.mid0) | (apply AGo.midDone; (repeat' (first | exact EnvEq.nil | (apply EnvEq.cons; rfl))); rfl) | apply AGo.seq | apply AGo.block | apply AGo.blk | apply AGo.skip | apply AGo.nil | (apply AGo.region; rfl) | (apply AGo.q true; rfl; rfl; rfl; rfl; first | exact True.intro | omega | (simp only [Int.toNat_natCast, Int.reduceToNat, IntKind.bits]; omega)) | (apply AGo.callH [2] ( cb); (iterate 6 rfl); decide; rfl; rfl; simp only [names, putH, AV.ren, AV.renL, AObj.ren, nh, Nat.reduceAdd, Nat.reduceSub]) | (apply AGo.callH [2] ( m1); (iterate 6 rfl); decide; rfl; rfl; simp only [names, putH, AV.ren, AV.renL, AObj.ren, nh, Nat.reduceAdd, Nat.reduceSub]) | (apply AGo.callH [2] ( m2); (iterate 6 rfl); decide; rfl; rfl; simp only [names, putH, AV.ren, AV.renL, AObj.ren, nh, Nat.reduceAdd, Nat.reduceSub]) | (apply AGo.callP (ic); (iterate 6 rfl)) | (apply AGo.callP (w1); (iterate 6 rfl)) | (apply AGo.callP (w2); (iterate 6 rfl)) | (apply AGo.callP (v1); (iterate 6 rfl)) | (apply AGo.callP (v2); (iterate 6 rfl)) | (apply AGo.exit; rfl) | (apply AGo.condDT; rfl; first | omega | rfl) | (apply AGo.condDF; rfl; omega) | (apply AGo.condT; rfl) | (apply AGo.condF; rfl) | (apply AGo.box; (iterate 6 rfl); simp only [nm, Nat.reduceAdd, spliceA, AV.cells, D.cells]) | (apply AGo.store; (iterate 9 rfl); exact Nat.le_of_ble_eq_true rfl; simp only [nm, Nat.reduceAdd, spliceA, AV.cells, D.cells]) | (apply AGo.unguard; rfl; rfl) | (apply AGo.gT; rfl; rfl; rfl; first | omega | rfl) | (apply AGo.gF; rfl; rfl; rfl; omega) | (apply AGo.skipOp; rfl; rfl; rfl) | apply AGo.loopU | apply AGo.lpU | intro _ | (apply AGo.retN; rfl; rfl; rfl; rfl))
        all_goals first | exact ⟨rfl, rfl⟩ | (exfalso; omega) | trace_state
      · rw [if_pos h1]
        unfold wr
        obtain rfl := mu1 h1
        rw [Nat.add_zero] at m1
        simp only [← Nat.add_assoc]
        refine ACalls.enter Tryd.func25 rfl Tryd.ntmps25 (by kernel_rfl) rfl ?_; simp only [argEnv, Nat.reduceAdd, List.length_nil, List.length_cons]
        repeat' (first | (apply AGo.drawY [0, 1, 2, 3, 4, 5, 6, 7, 8, 9, 10, 11, 12, 13, 14] 15 9; rfl) | (apply AGo.drawY [0, 1, 2, 3, 4, 5, 6, 7, 8, 9, 10, 11, 12] 13 12; rfl) | (apply ARegH.pureX; rfl; (apply PureTo.q true; rfl; rfl; first | exact True.intro | omega); exact fun _ _ _ h => h; (iterate 6 rfl); kernel_rfl; kernel_rfl) | (apply ARegH.load; rfl; rfl; (first | exact True.intro | omega); exact fun _ _ _ h => h; (iterate 6 rfl); kernel_rfl; kernel_rfl) | (apply ARegH.go) | (apply ARegK.fin; kernel_rfl) | (apply ARegK.pureX; rfl; (apply PureTo.q true; rfl; rfl; first | exact True.intro | omega); exact fun _ _ _ h => h; (iterate 6 rfl); kernel_rfl; kernel_rfl) | (apply ARegK.call (ic); (iterate 8 rfl); kernel_rfl; rfl; rfl; rfl; try simp only [names, putH, AV.ren, AV.renL, AObj.ren, nh, Nat.reduceAdd, Nat.reduceSub]) | (apply ARegK.call (w1); (iterate 8 rfl); kernel_rfl; rfl; rfl; rfl; try simp only [names, putH, AV.ren, AV.renL, AObj.ren, nh, Nat.reduceAdd, Nat.reduceSub]) | (apply ARegK.call (w2); (iterate 8 rfl); kernel_rfl; rfl; rfl; rfl; try simp only [names, putH, AV.ren, AV.renL, AObj.ren, nh, Nat.reduceAdd, Nat.reduceSub]) | (apply ARegK.call (v1); (iterate 8 rfl); kernel_rfl; rfl; rfl; rfl; try simp only [names, putH, AV.ren, AV.renL, AObj.ren, nh, Nat.reduceAdd, Nat.reduceSub]) | (apply ARegK.step; rfl; rfl; kernel_rfl; rfl) | (apply ARegK.fork2; rfl; kernel_rfl) | (apply ARegK1.step; rfl; rfl) | (apply ARegK.back) | (exact AGo.mid0) | (apply AGo.midDone; (repeat' (first | exact EnvEq.nil | (apply EnvEq.cons; rfl))); rfl) | apply AGo.seq | apply AGo.block | apply AGo.blk | apply AGo.skip | apply AGo.nil | (apply AGo.region; rfl) | (apply AGo.q true; rfl; rfl; rfl; rfl; first | exact True.intro | omega | (simp only [Int.toNat_natCast, Int.reduceToNat, IntKind.bits]; omega)) | (apply AGo.callH [2] ( cb); (iterate 6 rfl); decide; rfl; rfl; simp only [names, putH, AV.ren, AV.renL, AObj.ren, nh, Nat.reduceAdd, Nat.reduceSub]) | (apply AGo.callH [2] ( m1); (iterate 6 rfl); decide; rfl; rfl; simp only [names, putH, AV.ren, AV.renL, AObj.ren, nh, Nat.reduceAdd, Nat.reduceSub]) | (apply AGo.callP (ic); (iterate 6 rfl)) | (apply AGo.callP (w1); (iterate 6 rfl)) | (apply AGo.callP (w2); (iterate 6 rfl)) | (apply AGo.callP (v1); (iterate 6 rfl)) | (apply AGo.exit; rfl) | (apply AGo.condDT; rfl; first | omega | rfl) | (apply AGo.condDF; rfl; omega) | (apply AGo.condT; rfl) | (apply AGo.condF; rfl) | (apply AGo.box; (iterate 6 rfl); simp only [nm, Nat.reduceAdd, spliceA, AV.cells, D.cells]) | (apply AGo.store; (iterate 9 rfl); exact Nat.le_of_ble_eq_true rfl; simp only [nm, Nat.reduceAdd, spliceA, AV.cells, D.cells]) | (apply AGo.unguard; rfl; rfl) | (apply AGo.gT; rfl; rfl; rfl; first | omega | rfl) | (apply AGo.gF; rfl; rfl; rfl; omega) | (apply AGo.skipOp; rfl; rfl; rfl) | apply AGo.loopU | apply AGo.lpU | intro _ | (apply AGo.retN; rfl; rfl; rfl; rfl))
        all_goals first | exact ⟨rfl, rfl⟩ | (exfalso; omega) | trace_state
    · have hI : intraS 1 = false := rfl
      have hS : steppedS 1 = true := rfl
      rw [hI] at ic cb
      simp only [hI, hS, Bool.false_eq_true, if_false, if_true]
      have st1 := stc (p + u) (by omega)
      have sl1 := sl (bitsF s (p + u))
      have su1 := stN_u (B := bitsF s (p + u))
      rw [hBl] at sl1
      generalize stN (bitsF s (p + u)) = t at *
      obtain ⟨sp, se, su⟩ := t
      simp only at st1 sl1 su1 ⊢
      by_cases hse : se = 0
      · subst hse
        simp only [not_true_eq_false, if_false]
        simp only [← Nat.add_assoc]
        have mv1 := fun h => mvc (p + u + su) h
        have ml1 := mvl (p + u + su)
        have mb1 := mvb (p + u + su)
        rw [hBl] at ml1
        have m1 := mv1 (by omega)
        have mu1 := mvN_u (B := bitsF s (p + u + su))
        generalize mvN (bitsF s (p + u + su)) = y at *
        obtain ⟨d1, e1, u1⟩ := y
        simp only at m1 ml1 mb1 mu1 ⊢
        have v1 := ww (wrapS px + d1) (by omega)
        by_cases h1 : e1 = 0
        · subst h1
          simp only [not_true_eq_false, if_false]
          simp only [← Nat.add_assoc]
          have m2 := mvc ((p + u + su) + u1) (by omega)
          have mb2 := mvb ((p + u + su) + u1)
          generalize mvN (bitsF s ((p + u + su) + u1)) = z at *
          obtain ⟨d2, e2, u2⟩ := z
          simp only at m2 mb2 ⊢
          have v2 := ww (wrapS py + d2) (by omega)
          unfold wr
          refine ACalls.enter Tryd.func25 rfl Tryd.ntmps25 (by kernel_rfl) rfl ?_; simp only [argEnv, Nat.reduceAdd, List.length_nil, List.length_cons]
          repeat' (first | (apply AGo.drawY [0, 1, 2, 3, 4, 5, 6, 7, 8, 9, 10, 11, 12, 13, 14] 15 9; rfl) | (apply AGo.drawY [0, 1, 2, 3, 4, 5, 6, 7, 8, 9, 10, 11, 12] 13 12; rfl) | (apply ARegH.pureX; rfl; (apply PureTo.q true; rfl; rfl; first | exact True.intro | omega); exact fun _ _ _ h => h; (iterate 6 rfl); kernel_rfl; kernel_rfl) | (apply ARegH.load; rfl; rfl; (first | exact True.intro | omega); exact fun _ _ _ h => h; (iterate 6 rfl); kernel_rfl; kernel_rfl) | (apply ARegH.go) | (apply ARegK.fin; kernel_rfl) | (apply ARegK.pureX; rfl; (apply PureTo.q true; rfl; rfl; first | exact True.intro | omega); exact fun _ _ _ h => h; (iterate 6 rfl); kernel_rfl; kernel_rfl) | (apply ARegK.call (ic); (iterate 8 rfl); kernel_rfl; rfl; rfl; rfl; try simp only [names, putH, AV.ren, AV.renL, AObj.ren, nh, Nat.reduceAdd, Nat.reduceSub]) | (apply ARegK.call (w1); (iterate 8 rfl); kernel_rfl; rfl; rfl; rfl; try simp only [names, putH, AV.ren, AV.renL, AObj.ren, nh, Nat.reduceAdd, Nat.reduceSub]) | (apply ARegK.call (w2); (iterate 8 rfl); kernel_rfl; rfl; rfl; rfl; try simp only [names, putH, AV.ren, AV.renL, AObj.ren, nh, Nat.reduceAdd, Nat.reduceSub]) | (apply ARegK.call (v1); (iterate 8 rfl); kernel_rfl; rfl; rfl; rfl; try simp only [names, putH, AV.ren, AV.renL, AObj.ren, nh, Nat.reduceAdd, Nat.reduceSub]) | (apply ARegK.call (v2); (iterate 8 rfl); kernel_rfl; rfl; rfl; rfl; try simp only [names, putH, AV.ren, AV.renL, AObj.ren, nh, Nat.reduceAdd, Nat.reduceSub]) | (apply ARegK.step; rfl; rfl; kernel_rfl; rfl) | (apply ARegK.fork2; rfl; kernel_rfl) | (apply ARegK1.step; rfl; rfl) | (apply ARegK.back) | (exact AGo.mid0) | (apply AGo.midDone; (repeat' (first | exact EnvEq.nil | (apply EnvEq.cons; rfl))); rfl) | apply AGo.seq | apply AGo.block | apply AGo.blk | apply AGo.skip | apply AGo.nil | (apply AGo.region; rfl) | (apply AGo.q true; rfl; rfl; rfl; rfl; first | exact True.intro | omega | (simp only [Int.toNat_natCast, Int.reduceToNat, IntKind.bits]; omega)) | (apply AGo.callH [2] ( cb); (iterate 6 rfl); decide; rfl; rfl; simp only [names, putH, AV.ren, AV.renL, AObj.ren, nh, Nat.reduceAdd, Nat.reduceSub]) | (apply AGo.callH [2] ( st1); (iterate 6 rfl); decide; rfl; rfl; simp only [names, putH, AV.ren, AV.renL, AObj.ren, nh, Nat.reduceAdd, Nat.reduceSub]) | (apply AGo.callH [2] ( m1); (iterate 6 rfl); decide; rfl; rfl; simp only [names, putH, AV.ren, AV.renL, AObj.ren, nh, Nat.reduceAdd, Nat.reduceSub]) | (apply AGo.callH [2] ( m2); (iterate 6 rfl); decide; rfl; rfl; simp only [names, putH, AV.ren, AV.renL, AObj.ren, nh, Nat.reduceAdd, Nat.reduceSub]) | (apply AGo.callP (ic); (iterate 6 rfl)) | (apply AGo.callP (w1); (iterate 6 rfl)) | (apply AGo.callP (w2); (iterate 6 rfl)) | (apply AGo.callP (v1); (iterate 6 rfl)) | (apply AGo.callP (v2); (iterate 6 rfl)) | (apply AGo.exit; rfl) | (apply AGo.condDT; rfl; first | omega | rfl) | (apply AGo.condDF; rfl; omega) | (apply AGo.condT; rfl) | (apply AGo.condF; rfl) | (apply AGo.box; (iterate 6 rfl); simp only [nm, Nat.reduceAdd, spliceA, AV.cells, D.cells]) | (apply AGo.store; (iterate 9 rfl); exact Nat.le_of_ble_eq_true rfl; simp only [nm, Nat.reduceAdd, spliceA, AV.cells, D.cells]) | (apply AGo.unguard; rfl; rfl) | (apply AGo.gT; rfl; rfl; rfl; first | omega | rfl) | (apply AGo.gF; rfl; rfl; rfl; omega) | (apply AGo.skipOp; rfl; rfl; rfl) | apply AGo.loopU | apply AGo.lpU | intro _ | (apply AGo.retN; rfl; rfl; rfl; rfl))
          all_goals first | exact ⟨rfl, rfl⟩ | (exfalso; omega) | trace_state
        · rw [if_pos h1]
          unfold wr
          obtain rfl := mu1 h1
          rw [Nat.add_zero] at m1
          simp only [← Nat.add_assoc]
          refine ACalls.enter Tryd.func25 rfl Tryd.ntmps25 (by kernel_rfl) rfl ?_; simp only [argEnv, Nat.reduceAdd, List.length_nil, List.length_cons]
          repeat' (first | (apply AGo.drawY [0, 1, 2, 3, 4, 5, 6, 7, 8, 9, 10, 11, 12, 13, 14] 15 9; rfl) | (apply AGo.drawY [0, 1, 2, 3, 4, 5, 6, 7, 8, 9, 10, 11, 12] 13 12; rfl) | (apply ARegH.pureX; rfl; (apply PureTo.q true; rfl; rfl; first | exact True.intro | omega); exact fun _ _ _ h => h; (iterate 6 rfl); kernel_rfl; kernel_rfl) | (apply ARegH.load; rfl; rfl; (first | exact True.intro | omega); exact fun _ _ _ h => h; (iterate 6 rfl); kernel_rfl; kernel_rfl) | (apply ARegH.go) | (apply ARegK.fin; kernel_rfl) | (apply ARegK.pureX; rfl; (apply PureTo.q true; rfl; rfl; first | exact True.intro | omega); exact fun _ _ _ h => h; (iterate 6 rfl); kernel_rfl; kernel_rfl) | (apply ARegK.call (ic); (iterate 8 rfl); kernel_rfl; rfl; rfl; rfl; try simp only [names, putH, AV.ren, AV.renL, AObj.ren, nh, Nat.reduceAdd, Nat.reduceSub]) | (apply ARegK.call (w1); (iterate 8 rfl); kernel_rfl; rfl; rfl; rfl; try simp only [names, putH, AV.ren, AV.renL, AObj.ren, nh, Nat.reduceAdd, Nat.reduceSub]) | (apply ARegK.call (w2); (iterate 8 rfl); kernel_rfl; rfl; rfl; rfl; try simp only [names, putH, AV.ren, AV.renL, AObj.ren, nh, Nat.reduceAdd, Nat.reduceSub]) | (apply ARegK.call (v1); (iterate 8 rfl); kernel_rfl; rfl; rfl; rfl; try simp only [names, putH, AV.ren, AV.renL, AObj.ren, nh, Nat.reduceAdd, Nat.reduceSub]) | (apply ARegK.step; rfl; rfl; kernel_rfl; rfl) | (apply ARegK.fork2; rfl; kernel_rfl) | (apply ARegK1.step; rfl; rfl) | (apply ARegK.back) | (exact AGo.mid0) | (apply AGo.midDone; (repeat' (first | exact EnvEq.nil | (apply EnvEq.cons; rfl))); rfl) | apply AGo.seq | apply AGo.block | apply AGo.blk | apply AGo.skip | apply AGo.nil | (apply AGo.region; rfl) | (apply AGo.q true; rfl; rfl; rfl; rfl; first | exact True.intro | omega | (simp only [Int.toNat_natCast, Int.reduceToNat, IntKind.bits]; omega)) | (apply AGo.callH [2] ( cb); (iterate 6 rfl); decide; rfl; rfl; simp only [names, putH, AV.ren, AV.renL, AObj.ren, nh, Nat.reduceAdd, Nat.reduceSub]) | (apply AGo.callH [2] ( st1); (iterate 6 rfl); decide; rfl; rfl; simp only [names, putH, AV.ren, AV.renL, AObj.ren, nh, Nat.reduceAdd, Nat.reduceSub]) | (apply AGo.callH [2] ( m1); (iterate 6 rfl); decide; rfl; rfl; simp only [names, putH, AV.ren, AV.renL, AObj.ren, nh, Nat.reduceAdd, Nat.reduceSub]) | (apply AGo.callP (ic); (iterate 6 rfl)) | (apply AGo.callP (w1); (iterate 6 rfl)) | (apply AGo.callP (w2); (iterate 6 rfl)) | (apply AGo.callP (v1); (iterate 6 rfl)) | (apply AGo.exit; rfl) | (apply AGo.condDT; rfl; first | omega | rfl) | (apply AGo.condDF; rfl; omega) | (apply AGo.condT; rfl) | (apply AGo.condF; rfl) | (apply AGo.box; (iterate 6 rfl); simp only [nm, Nat.reduceAdd, spliceA, AV.cells, D.cells]) | (apply AGo.store; (iterate 9 rfl); exact Nat.le_of_ble_eq_true rfl; simp only [nm, Nat.reduceAdd, spliceA, AV.cells, D.cells]) | (apply AGo.unguard; rfl; rfl) | (apply AGo.gT; rfl; rfl; rfl; first | omega | rfl) | (apply AGo.gF; rfl; rfl; rfl; omega) | (apply AGo.skipOp; rfl; rfl; rfl) | apply AGo.loopU | apply AGo.lpU | intro _ | (apply AGo.retN; rfl; rfl; rfl; rfl))
          all_goals first | exact ⟨rfl, rfl⟩ | (exfalso; omega) | trace_state
      · rw [if_pos hse]
        obtain ⟨rfl, rfl⟩ := su1 hse
        rw [Nat.add_zero] at st1
        refine ACalls.enter Tryd.func25 rfl Tryd.ntmps25 (by kernel_rfl) rfl ?_; simp only [argEnv, Nat.reduceAdd, List.length_nil, List.length_cons]
        repeat' (first | (apply AGo.drawY [0, 1, 2, 3, 4, 5, 6, 7, 8, 9, 10, 11, 12, 13, 14] 15 9; rfl) | (apply AGo.drawY [0, 1, 2, 3, 4, 5, 6, 7, 8, 9, 10, 11, 12] 13 12; rfl) | (apply ARegH.pureX; rfl; (apply PureTo.q true; rfl; rfl; first | exact True.intro | omega); exact fun _ _ _ h => h; (iterate 6 rfl); kernel_rfl; kernel_rfl) | (apply ARegH.load; rfl; rfl; (first | exact True.intro | omega); exact fun _ _ _ h => h; (iterate 6 rfl); kernel_rfl; kernel_rfl) | (apply ARegH.go) | (apply ARegK.fin; kernel_rfl) | (apply ARegK.pureX; rfl; (apply PureTo.q true; rfl; rfl; first | exact True.intro | omega); exact fun _ _ _ h => h; (iterate 6 rfl); kernel_rfl; kernel_rfl) | (apply ARegK.call (ic); (iterate 8 rfl); kernel_rfl; rfl; rfl; rfl; try simp only [names, putH, AV.ren, AV.renL, AObj.ren, nh, Nat.reduceAdd, Nat.reduceSub]) | (apply ARegK.step; rfl; rfl; kernel_rfl; rfl) | (apply ARegK.fork2; rfl; kernel_rfl) | (apply ARegK1.step; rfl; rfl) | (apply ARegK.back) | (exact AGo.mid0) | (apply AGo.midDone; (repeat' (first | exact EnvEq.nil | (apply EnvEq.cons; rfl))); rfl) | apply AGo.seq | apply AGo.block | apply AGo.blk | apply AGo.skip | apply AGo.nil | (apply AGo.region; rfl) | (apply AGo.q true; rfl; rfl; rfl; rfl; first | exact True.intro | omega | (simp only [Int.toNat_natCast, Int.reduceToNat, IntKind.bits]; omega)) | (apply AGo.callH [2] ( cb); (iterate 6 rfl); decide; rfl; rfl; simp only [names, putH, AV.ren, AV.renL, AObj.ren, nh, Nat.reduceAdd, Nat.reduceSub]) | (apply AGo.callH [2] ( st1); (iterate 6 rfl); decide; rfl; rfl; simp only [names, putH, AV.ren, AV.renL, AObj.ren, nh, Nat.reduceAdd, Nat.reduceSub]) | (apply AGo.callP (ic); (iterate 6 rfl)) | (apply AGo.exit; rfl) | (apply AGo.condDT; rfl; first | omega | rfl) | (apply AGo.condDF; rfl; omega) | (apply AGo.condT; rfl) | (apply AGo.condF; rfl) | (apply AGo.box; (iterate 6 rfl); simp only [nm, Nat.reduceAdd, spliceA, AV.cells, D.cells]) | (apply AGo.store; (iterate 9 rfl); exact Nat.le_of_ble_eq_true rfl; simp only [nm, Nat.reduceAdd, spliceA, AV.cells, D.cells]) | (apply AGo.unguard; rfl; rfl) | (apply AGo.gT; rfl; rfl; rfl; first | omega | rfl) | (apply AGo.gF; rfl; rfl; rfl; omega) | (apply AGo.skipOp; rfl; rfl; rfl) | apply AGo.loopU | apply AGo.lpU | intro _ | (apply AGo.retN; rfl; rfl; rfl; rfl))
        all_goals first | exact ⟨rfl, rfl⟩ | (exfalso; omega) | trace_state
    · have hI : intraS 3 = true := rfl
      have hS : steppedS 3 = false := rfl
      rw [hI] at ic cb
      simp only [hI, hS, if_true, Bool.false_eq_true, if_false]
      refine ACalls.enter Tryd.func25 rfl Tryd.ntmps25 (by kernel_rfl) rfl ?_; simp only [argEnv, Nat.reduceAdd, List.length_nil, List.length_cons]
      repeat' (first | (apply AGo.drawY [0, 1, 2, 3, 4, 5, 6, 7, 8, 9, 10, 11, 12, 13, 14] 15 9; rfl) | (apply AGo.drawY [0, 1, 2, 3, 4, 5, 6, 7, 8, 9, 10, 11, 12] 13 12; rfl) | (apply ARegH.pureX; rfl; (apply PureTo.q true; rfl; rfl; first | exact True.intro | omega); exact fun _ _ _ h => h; (iterate 6 rfl); kernel_rfl; kernel_rfl) | (apply ARegH.load; rfl; rfl; (first | exact True.intro | omega); exact fun _ _ _ h => h; (iterate 6 rfl); kernel_rfl; kernel_rfl) | (apply ARegH.go) | (apply ARegK.fin; kernel_rfl) | (apply ARegK.pureX; rfl; (apply PureTo.q true; rfl; rfl; first | exact True.intro | omega); exact fun _ _ _ h => h; (iterate 6 rfl); kernel_rfl; kernel_rfl) | (apply ARegK.call (ic); (iterate 8 rfl); kernel_rfl; rfl; rfl; rfl; try simp only [names, putH, AV.ren, AV.renL, AObj.ren, nh, Nat.reduceAdd, Nat.reduceSub]) | (apply ARegK.step; rfl; rfl; kernel_rfl; rfl) | (apply ARegK.fork2; rfl; kernel_rfl) | (apply ARegK1.step; rfl; rfl) | (apply ARegK.back) | (exact AGo.mid0) | (apply AGo.midDone; (repeat' (first | exact EnvEq.nil | (apply EnvEq.cons; rfl))); rfl) | apply AGo.seq | apply AGo.block | apply AGo.blk | apply AGo.skip | apply AGo.nil | (apply AGo.region; rfl) | (apply AGo.q true; rfl; rfl; rfl; rfl; first | exact True.intro | omega | (simp only [Int.toNat_natCast, Int.reduceToNat, IntKind.bits]; omega)) | (apply AGo.callH [2] ( cb); (iterate 6 rfl); decide; rfl; rfl; simp only [names, putH, AV.ren, AV.renL, AObj.ren, nh, Nat.reduceAdd, Nat.reduceSub]) | (apply AGo.callP (ic); (iterate 6 rfl)) | (apply AGo.exit; rfl) | (apply AGo.condDT; rfl; first | omega | rfl) | (apply AGo.condDF; rfl; omega) | (apply AGo.condT; rfl) | (apply AGo.condF; rfl) | (apply AGo.box; (iterate 6 rfl); simp only [nm, Nat.reduceAdd, spliceA, AV.cells, D.cells]) | (apply AGo.store; (iterate 9 rfl); exact Nat.le_of_ble_eq_true rfl; simp only [nm, Nat.reduceAdd, spliceA, AV.cells, D.cells]) | (apply AGo.unguard; rfl; rfl) | (apply AGo.gT; rfl; rfl; rfl; first | omega | rfl) | (apply AGo.gF; rfl; rfl; rfl; omega) | (apply AGo.skipOp; rfl; rfl; rfl) | apply AGo.loopU | apply AGo.lpU | intro _ | (apply AGo.retN; rfl; rfl; rfl; rfl))
      all_goals first | exact ⟨rfl, rfl⟩ | (exfalso; omega) | trace_state
    · have hI : intraS 4 = true := rfl
      have hS : steppedS 4 = true := rfl
      rw [hI] at ic cb
      simp only [hI, hS, if_true]
      have st1 := stc (p + u) (by omega)
      have su1 := stN_u (B := bitsF s (p + u))
      generalize stN (bitsF s (p + u)) = t at *
      obtain ⟨sp, se, su⟩ := t
      simp only at st1 su1 ⊢
      by_cases hse : se = 0
      · subst hse
        simp only [not_true_eq_false, if_false, if_true]
        simp only [← Nat.add_assoc]
        refine ACalls.enter Tryd.func25 rfl Tryd.ntmps25 (by kernel_rfl) rfl ?_; simp only [argEnv, Nat.reduceAdd, List.length_nil, List.length_cons]
        repeat' (first | (apply AGo.drawY [0, 1, 2, 3, 4, 5, 6, 7, 8, 9, 10, 11, 12, 13, 14] 15 9; rfl) | (apply AGo.drawY [0, 1, 2, 3, 4, 5, 6, 7, 8, 9, 10, 11, 12] 13 12; rfl) | (apply ARegH.pureX; rfl; (apply PureTo.q true; rfl; rfl; first | exact True.intro | omega); exact fun _ _ _ h => h; (iterate 6 rfl); kernel_rfl; kernel_rfl) | (apply ARegH.load; rfl; rfl; (first | exact True.intro | omega); exact fun _ _ _ h => h; (iterate 6 rfl); kernel_rfl; kernel_rfl) | (apply ARegH.go) | (apply ARegK.fin; kernel_rfl) | (apply ARegK.pureX; rfl; (apply PureTo.q true; rfl; rfl; first | exact True.intro | omega); exact fun _ _ _ h => h; (iterate 6 rfl); kernel_rfl; kernel_rfl) | (apply ARegK.call (ic); (iterate 8 rfl); kernel_rfl; rfl; rfl; rfl; try simp only [names, putH, AV.ren, AV.renL, AObj.ren, nh, Nat.reduceAdd, Nat.reduceSub]) | (apply ARegK.step; rfl; rfl; kernel_rfl; rfl) | (apply ARegK.fork2; rfl; kernel_rfl) | (apply ARegK1.step; rfl; rfl) | (apply ARegK.back) | (exact AGo.mid0) | (apply AGo.midDone; (repeat' (first | exact EnvEq.nil | (apply EnvEq.cons; rfl))); rfl) | apply AGo.seq | apply AGo.block | apply AGo.blk | apply AGo.skip | apply AGo.nil | (apply AGo.region; rfl) | (apply AGo.q true; rfl; rfl; rfl; rfl; first | exact True.intro | omega | (simp only [Int.toNat_natCast, Int.reduceToNat, IntKind.bits]; omega)) | (apply AGo.callH [2] ( cb); (iterate 6 rfl); decide; rfl; rfl; simp only [names, putH, AV.ren, AV.renL, AObj.ren, nh, Nat.reduceAdd, Nat.reduceSub]) | (apply AGo.callH [2] ( st1); (iterate 6 rfl); decide; rfl; rfl; simp only [names, putH, AV.ren, AV.renL, AObj.ren, nh, Nat.reduceAdd, Nat.reduceSub]) | (apply AGo.callP (ic); (iterate 6 rfl)) | (apply AGo.exit; rfl) | (apply AGo.condDT; rfl; first | omega | rfl) | (apply AGo.condDF; rfl; omega) | (apply AGo.condT; rfl) | (apply AGo.condF; rfl) | (apply AGo.box; (iterate 6 rfl); simp only [nm, Nat.reduceAdd, spliceA, AV.cells, D.cells]) | (apply AGo.store; (iterate 9 rfl); exact Nat.le_of_ble_eq_true rfl; simp only [nm, Nat.reduceAdd, spliceA, AV.cells, D.cells]) | (apply AGo.unguard; rfl; rfl) | (apply AGo.gT; rfl; rfl; rfl; first | omega | rfl) | (apply AGo.gF; rfl; rfl; rfl; omega) | (apply AGo.skipOp; rfl; rfl; rfl) | apply AGo.loopU | apply AGo.lpU | intro _ | (apply AGo.retN; rfl; rfl; rfl; rfl))
        all_goals first | exact ⟨rfl, rfl⟩ | (exfalso; omega) | trace_state
      · rw [if_pos hse]
        obtain ⟨rfl, rfl⟩ := su1 hse
        rw [Nat.add_zero] at st1
        refine ACalls.enter Tryd.func25 rfl Tryd.ntmps25 (by kernel_rfl) rfl ?_; simp only [argEnv, Nat.reduceAdd, List.length_nil, List.length_cons]
        repeat' (first | (apply AGo.drawY [0, 1, 2, 3, 4, 5, 6, 7, 8, 9, 10, 11, 12, 13, 14] 15 9; rfl) | (apply AGo.drawY [0, 1, 2, 3, 4, 5, 6, 7, 8, 9, 10, 11, 12] 13 12; rfl) | (apply ARegH.pureX; rfl; (apply PureTo.q true; rfl; rfl; first | exact True.intro | omega); exact fun _ _ _ h => h; (iterate 6 rfl); kernel_rfl; kernel_rfl) | (apply ARegH.load; rfl; rfl; (first | exact True.intro | omega); exact fun _ _ _ h => h; (iterate 6 rfl); kernel_rfl; kernel_rfl) | (apply ARegH.go) | (apply ARegK.fin; kernel_rfl) | (apply ARegK.pureX; rfl; (apply PureTo.q true; rfl; rfl; first | exact True.intro | omega); exact fun _ _ _ h => h; (iterate 6 rfl); kernel_rfl; kernel_rfl) | (apply ARegK.call (ic); (iterate 8 rfl); kernel_rfl; rfl; rfl; rfl; try simp only [names, putH, AV.ren, AV.renL, AObj.ren, nh, Nat.reduceAdd, Nat.reduceSub]) | (apply ARegK.step; rfl; rfl; kernel_rfl; rfl) | (apply ARegK.fork2; rfl; kernel_rfl) | (apply ARegK1.step; rfl; rfl) | (apply ARegK.back) | (exact AGo.mid0) | (apply AGo.midDone; (repeat' (first | exact EnvEq.nil | (apply EnvEq.cons; rfl))); rfl) | apply AGo.seq | apply AGo.block | apply AGo.blk | apply AGo.skip | apply AGo.nil | (apply AGo.region; rfl) | (apply AGo.q true; rfl; rfl; rfl; rfl; first | exact True.intro | omega | (simp only [Int.toNat_natCast, Int.reduceToNat, IntKind.bits]; omega)) | (apply AGo.callH [2] ( cb); (iterate 6 rfl); decide; rfl; rfl; simp only [names, putH, AV.ren, AV.renL, AObj.ren, nh, Nat.reduceAdd, Nat.reduceSub]) | (apply AGo.callH [2] ( st1); (iterate 6 rfl); decide; rfl; rfl; simp only [names, putH, AV.ren, AV.renL, AObj.ren, nh, Nat.reduceAdd, Nat.reduceSub]) | (apply AGo.callP (ic); (iterate 6 rfl)) | (apply AGo.exit; rfl) | (apply AGo.condDT; rfl; first | omega | rfl) | (apply AGo.condDF; rfl; omega) | (apply AGo.condT; rfl) | (apply AGo.condF; rfl) | (apply AGo.box; (iterate 6 rfl); simp only [nm, Nat.reduceAdd, spliceA, AV.cells, D.cells]) | (apply AGo.store; (iterate 9 rfl); exact Nat.le_of_ble_eq_true rfl; simp only [nm, Nat.reduceAdd, spliceA, AV.cells, D.cells]) | (apply AGo.unguard; rfl; rfl) | (apply AGo.gT; rfl; rfl; rfl; first | omega | rfl) | (apply AGo.gF; rfl; rfl; rfl; omega) | (apply AGo.skipOp; rfl; rfl; rfl) | apply AGo.loopU | apply AGo.lpU | intro _ | (apply AGo.retN; rfl; rfl; rfl; rfl))
        all_goals first | exact ⟨rfl, rfl⟩ | (exfalso; omega) | trace_state
  · rw [if_pos he]
    obtain rfl := cu he
    simp only
    rcases hk with rfl | rfl | rfl | rfl
    all_goals
      refine ACalls.enter Tryd.func25 rfl Tryd.ntmps25 (by kernel_rfl) rfl ?_; simp only [argEnv, Nat.reduceAdd, List.length_nil, List.length_cons]
      repeat' (first | (apply AGo.drawY [0, 1, 2, 3, 4, 5, 6, 7, 8, 9, 10, 11, 12, 13, 14] 15 9; rfl) | (apply AGo.drawY [0, 1, 2, 3, 4, 5, 6, 7, 8, 9, 10, 11, 12] 13 12; rfl) | (apply ARegH.pureX; rfl; (apply PureTo.q true; rfl; rfl; first | exact True.intro | omega); exact fun _ _ _ h => h; (iterate 6 rfl); kernel_rfl; kernel_rfl) | (apply ARegH.load; rfl; rfl; (first | exact True.intro | omega); exact fun _ _ _ h => h; (iterate 6 rfl); kernel_rfl; kernel_rfl) | (apply ARegH.go) | (apply ARegK.fin; kernel_rfl) | (apply ARegK.pureX; rfl; (apply PureTo.q true; rfl; rfl; first | exact True.intro | omega); exact fun _ _ _ h => h; (iterate 6 rfl); kernel_rfl; kernel_rfl) | (apply ARegK.call (ic); (iterate 8 rfl); kernel_rfl; rfl; rfl; rfl; try simp only [names, putH, AV.ren, AV.renL, AObj.ren, nh, Nat.reduceAdd, Nat.reduceSub]) | (apply ARegK.step; rfl; rfl; kernel_rfl; rfl) | (apply ARegK.fork2; rfl; kernel_rfl) | (apply ARegK1.step; rfl; rfl) | (apply ARegK.back) | (exact AGo.mid0) | (apply AGo.midDone; (repeat' (first | exact EnvEq.nil | (apply EnvEq.cons; rfl))); rfl) | apply AGo.seq | apply AGo.block | apply AGo.blk | apply AGo.skip | apply AGo.nil | (apply AGo.region; rfl) | (apply AGo.q true; rfl; rfl; rfl; rfl; first | exact True.intro | omega | (simp only [Int.toNat_natCast, Int.reduceToNat, IntKind.bits]; omega)) | (apply AGo.callH [2] ( cb); (iterate 6 rfl); decide; rfl; rfl; simp only [names, putH, AV.ren, AV.renL, AObj.ren, nh, Nat.reduceAdd, Nat.reduceSub]) | (apply AGo.callP (ic); (iterate 6 rfl)) | (apply AGo.exit; rfl) | (apply AGo.condDT; rfl; first | omega | rfl) | (apply AGo.condDF; rfl; omega) | (apply AGo.condT; rfl) | (apply AGo.condF; rfl) | (apply AGo.box; (iterate 6 rfl); simp only [nm, Nat.reduceAdd, spliceA, AV.cells, D.cells]) | (apply AGo.store; (iterate 9 rfl); exact Nat.le_of_ble_eq_true rfl; simp only [nm, Nat.reduceAdd, spliceA, AV.cells, D.cells]) | (apply AGo.unguard; rfl; rfl) | (apply AGo.gT; rfl; rfl; rfl; first | omega | rfl) | (apply AGo.gF; rfl; rfl; rfl; omega) | (apply AGo.skipOp; rfl; rfl; rfl) | apply AGo.loopU | apply AGo.lpU | intro _ | (apply AGo.retN; rfl; rfl; rfl; rfl))
      all_goals first | exact ⟨rfl, rfl⟩ | (exfalso; omega) | trace_state
end Go.Proofs.YtbfojhfiemcnpaaDoor.Av.Ci
